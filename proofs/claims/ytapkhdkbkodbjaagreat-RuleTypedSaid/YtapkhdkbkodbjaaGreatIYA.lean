/- Contracts of the program's and the reference's functions, and the plain laws of what they compute: C1 C2 C9 C10 C11 C12 C13 C3 C4 C5 C6 C7 C8 C14 C15 C16 C17 C18 C19 C20 C21 C22 C23 N1 N2 C24 C25 N3 C26 C27 C28 C29 N4 C30 C31 C32 C33 C34 C35 R07a R07b R07c R07d R07e Sorted R07f R07g R07h R15c P8 C37 H1 D1 D4 N5 N6 N7 T4 G1. -/
import Derived.Test.YtapkhdkbkodbjaaGreatIZJ
import Derived.Test.YtapkhdkbkodbjaaGreatIZI
set_option linter.unusedVariables false
set_option linter.unusedSimpArgs false
namespace Go.Proofs.YtapkhdkbkodbjaaGreat.Fw
open Go
attribute [local irreducible] Ev
attribute [local go_sem] i9 AM List.toList_toArray B1 evG evK ZN E7 LC HK GM JJ Tq OW DS Dd NS Cj DK frz nV HE Db BB GE Bj AV.frz AV.frzs AV.drp AV.drps AV.names AV.namess aq HG Lq Kt Uu Jl Bk Bt KA El JB Em JD JC JE WV QV Hd Kv GG Ee WW SV qUn KB JF MM Fk D7 Jo Kw Eo Uv Dn Ep FW SW JG OU Fv OT QW SX MN Jp Kx Eq D8 Hl EA II Dp FX Dq Er GI Cj Cv QT SU Ow G9 Jn Jm Ku QZ Tn OV MR MP K0 Tp MQ LA dB Qb Qa AV.trn AV.trns FN DR Obj.trn KP jQ D9 Et Ef Es Cl FY Ap lk Hr HF ID bin nU ZQ nX Tl zf1 zfs pfs AV.cells CO J8 QU Kz QY Cf OP Ty.cell1 JA FO D6 Ge Lp FM Ks ML SR Fu Hc OI Us WU MK Kq c9 iH Tk OQ DJ J9 RV.flat Ty.flat Ty.size St.add upd del Bl Value.oneCell' MC Ty.dflt I9 Qs IR Q2 List.take_succ_cons List.take_zero List.length_cons jH jI Q1 KM Mf H7 KN A3t GN Nf Ng Nh Ni Sh Si Nj JO Wm Option.map_some Option.map_none Option.bind_some Option.getD_some Option.getD_none Option.isNone_none Option.isNone_some Bool.and_true Bool.true_and Bool.and_false Bool.false_and Bool.not_true Bool.not_false if_true if_false List.length_cons List.length_nil and_true true_and and_self List.all_cons List.all_nil List.append_nil List.nil_append List.cons_append List.getElem?_cons_zero List.getElem?_cons_succ List.getElem?_nil List.map_cons List.map_nil List.set_cons_zero List.set_cons_succ List.isEmpty_nil List.isEmpty_cons decide_true decide_false beq_self_eq_true bne_self_eq_false Nat.zero_add Nat.add_zero Nat.sub_zero Int.toNat_natCast Int.toNat_zero Int.toNat_one List.take_length List.length_append List.length_singleton true_or or_true or_self false_or or_false Ty.agg.injEq Ty.slice.injEq Ty.prod.injEq Ty.int.injEq Option.some.injEq beq_iff_eq Lx evMG evMQ opM IU Mc B9 KK He Qv KI IT JP LK Lw PI Oa PJ Uy Md Qw Qx KJ Ad Al Op.operands Call.operands List.filterMap_cons List.filterMap_nil List.append_eq Bool.cond_false_right Bool.cond_true_left cond_true cond_false implies_true decide_eq_true_eq beq_true beq_false Bool.or_true Bool.or_false Bool.true_or Bool.false_or Option.isSome_some Array.empty_append List.append_toArray GF NT FZ IE dA QX GH Gm Gl JH IG Ky MO ZR nW IC inB LB GJ HA KC Aq jJ List.drop_zero Df IV eB CZ LO CX AV.fgt AV.fgts Obj.fgt A1 Aj Ad DV Iz BS HL List.any_cons List.any_nil oT jK eC jL Mi Sn qs List.flatMap_cons List.flatMap_nil List.cons_append tn eF KQ List.take_succ_cons List.drop_succ_cons eJ Hf BV tR Nn CG CY Ag Fc LJ Bv Fb EC IP JN Gr IQ
attribute [local go_sem] ty1 ty2 ty3 ty4 ty5 ty9 A7j A7k A7l A7m A7n A7o A7p A7q A7r A7s A7t A7u A7v A7w A7x A7y A7z A7A A7B A7C A7D A7E A7F A7G A7H A7I A7J A7K A7L A7M A7N A7O A7P A7Q A7R A7S A7T A7U A7V A7W A7X A7Y A7Z A80 A81 A82 A83 A84 A85 A86 A87 A88 A89 A8a A8b A8c A8d A8e A8f A8g A8h A8i A8j A8k A8l A8m A8n A8o A8p A8q A8r tZ t8 t9 uA uB uC uD uE uF uG uH uI uJ uK uL uM uN uP uQ uR uS uT uU uV uW uX uY uZ u3 u4 u5 u6 u7 u9 vA vB vC vD vE vF vG vH vI vJ vK vL vM vN vO vP vQ vS vT vU vV vW vY vZ v6 v7 v8 v9 wA wB wC wD wF wG wH wI wJ wK wL wM wN wP wQ wR wS wT wU wV wW wX wY wZ w4 w5 w6 w7 w8 w9 xA xB xC xD xE xF xG xH xI xJ xK xL xM xN xO xP xQ xR xS xT xU xV xW xX xY xZ x5 x6 x7 x8 x9 yA yB yC yD yE yF yG yH yI yJ yK yL yM yN yO yP yQ yR yS yT yU yV yW yX yY yZ y3 y4 y5 y6 y7 y8 y9 zA zB zC zD zE zF zG zH zI zJ
set_option maxRecDepth 100000
set_option maxHeartbeats 4000000
section
def Jx (a b c:Int):Bool:=decide (a<=c)&&decide (c<=b)
def o8:AZ:={ ins:=[.int .u8],pre:=λ_=>True,out:=λ(c,_)=>[.p .bool (Jx 48 57 c)] }
attribute [local go_sem] o8
def o9:AZ:={ ins:=[.int .u8],pre:=λ_=>True,out:=λ(c,_)=>[.p .bool (Jx 65 90 c)] }
attribute [local go_sem] o9
def pA:AZ:={ ins:=[.int .u8],pre:=λ_=>True,out:=λ(c,_)=>[.p .bool (Jx 97 122 c)] }
attribute [local go_sem] pA
theorem j9:Ab Tryz.prog 242 o8:=by
 refine fK [0,2] Tryz.func242 Tryz.ntmps242 AH ?_;rintro w0 O0 ⟨c,u⟩ a - -;simp only[o8,AM];repeat'(first|exact trivial|apply eS rfl|refine rX a ?_ ?_)
 exact fI a [.tmp 2] (by unfold Jx;exact eR)
theorem A47:Ab Tryz.prog 249 o9:=by
 refine fK [0,2] Tryz.func249 Tryz.ntmps249 AH ?_;rintro w0 O0 ⟨c,u⟩ a - -;simp only[o9,AM];repeat'(first|exact trivial|apply eS rfl|refine rX a ?_ ?_)
 exact fI a [.tmp 2] (by unfold Jx;exact eR)
theorem A48:Ab Tryz.prog 250 pA:=by
 refine fK [0,2] Tryz.func250 Tryz.ntmps250 AH ?_;rintro w0 O0 ⟨c,u⟩ a - -;simp only[pA,AM];repeat'(first|exact trivial|apply eS rfl|refine rX a ?_ ?_)
 exact fI a [.tmp 2] (by unfold Jx;exact eR)
def XM (c:Int) (big:Bool):Bool:=Jx 48 57 c||c==45||big&&Jx 65 90 c||!big&&Jx 97 122 c
def A49:AZ:={ ins:=[.int .u8,.bool],pre:=λ_=>True,out:=λ(c,b,_)=>[.p .bool (XM c b)] }
attribute [local go_sem] A49
theorem A8t:Ab Tryz.prog 243 A49:=by
 refine fK [0,1,4] Tryz.func243 Tryz.ntmps243 (AF j9 (AF A47 (AF A48 AH))) ?_;rintro w0 O0 ⟨c,b,u⟩ a - -;simp only[A49,AM];repeat'(first|exact trivial|apply eS rfl|refine rX a ?_ ?_)
 exact fI a [.tmp 4] (by unfold XM;exact eR)
abbrev chr (s:ByteArray) (i:Nat):Int:=((s.data.getD i 0).toNat:Int)
def Sw (s:ByteArray):Bool:=decide ((s.size:Int)<1)||decide (32<(s.size:Int))||Jx 48 57 (chr s 0)||chr s 0==45
def Ey (s:ByteArray) (big:Bool):Bool:=!Sw s&&(List.range s.size).all λi=>XM (chr s i) big
def pB:AZ:={ ins:=[T9,.bool],pre:=λ_=>True,out:=λ(s,b,_)=>[.p .bool (Ey s b)] }
attribute [local go_sem] pB
theorem kA:Ab Tryz.prog 231 pB:=by
 refine fK [0,1,4,5,23,27,35] Tryz.func231 Tryz.ntmps231 (AF j9 (AF A8t AH)) ?_;rintro w0 O0 ⟨s,b,u⟩ d - -;simp only[pB,AM];repeat'(first|exact trivial|apply eS rfl|refine rX d ?_ ?_|refine rC ?_ ?_<;>intro a<;>try(cases a;done))
 .constructor
  .intro h;simp only[Px,VP,On]at h;have:1<=(s.size:Int):=by omega
   exact this
  intro h;simp only[Px,VP,On]at h;have:1<=(s.size:Int):=by omega
  exact this
 .have h1:Sw s=true:=by
   unfold Sw chr;simp only[QO,By,SJ];exact a
  have c:Ey s b=false:=by unfold Ey;rw[h1];rfl
  exact fI d [.tmp 4] (by rw[c];exact eR)
 have h1:Sw s=false:=by
  unfold Sw chr;simp only[VP,On,VX];exact⟨⟨⟨by omega,by omega⟩,a.1.2⟩,a.2⟩
 have g:s.size<=32:=by omega
 refine AI (ι:={k:Nat//k<=s.size/\((List.range k).all λi=>XM (chr s i) b)=true}) (λk=>⟨[(0,.p T9 s),(1,.p .bool b),(5,.p (.int .i64) (k.1:Int))],[]⟩) (λk=>s.size-k.1) ⟨0,by simp⟩ (eW []) (λk=>?_)
 obtain⟨k,hk,f⟩:=k;repeat'(first|exact trivial|apply eS rfl|apply AB|refine rX d ?_ ?_|refine rC ?_ ?_<;>intro a<;>try(cases a;done))
 .exact a
 .have e:k<s.size:=by omega
  have c:Ey s b=false:=by
   unfold Ey;rw[ZK];refine .inr (ABL.2 λh=>?_);have:=If.1 h k (QJ.2 e);rw[show XM (chr s k) b=false from a]at this;cases this
  exact fI d [.tmp 4] (by rw[c];exact eR)
 .omega
 .have e:k<s.size:=by omega
  refine⟨⟨k+1,by omega,?_⟩,by simp only;omega,AC [] rfl rfl ?_ ?_⟩
  .rw[SQ,AFa,f];rw[AFX,AAS,List.all_nil,Bool.and_true];exact a
  .exact eN
  exact eN
 have e:k=s.size:=by omega
 subst e;have c:Ey s b=true:=by unfold Ey;rw[h1,f];rfl
 exact fI d [.tmp 4] (by rw[c];exact eR)
def A4a:AZ:={ ins:=[T9],pre:=λ_=>True,out:=λ(s,_)=>[.p .bool (Ey s false)] }
def XN:AZ:={ ins:=[T9],pre:=λ_=>True,out:=λ(s,_)=>[.p .bool (Ey s true)] }
theorem A8u:Ab Tryz.prog 218 A4a:=by
 refine fK [0,2] Tryz.func218 Tryz.ntmps218 (AF kA AH) ?_;rintro w0 O0 ⟨s,u⟩ a - -;simp only[A4a,AM];repeat'(first|exact trivial|apply eS rfl|refine rX a ?_ ?_)
 exact fI a [.tmp 2]
theorem pC:Ab Tryz.prog 217 XN:=by
 refine fK [0,2] Tryz.func217 Tryz.ntmps217 (AF kA AH) ?_;rintro w0 O0 ⟨s,u⟩ a - -;simp only[XN,AM];repeat'(first|exact trivial|apply eS rfl|refine rX a ?_ ?_)
 exact fI a [.tmp 2]
end
section
theorem Nq {α:Type} (l:List α) (d:α) (p:α->Bool) {k:Nat} (h:k<l.length):(l.take (k+1)).any p=((l.take k).any p||p (l.getD k d)):=by
 rw[Au l d h,AFm];simp
theorem JT {α:Type} (l:List α) (d:α) (p:α->Bool) {k:Nat} (h:k<l.length) (hp:p (l.getD k d)=true):l.any p=true :=
 QC.2 ⟨_,AD l d h,hp⟩
def Aa (l:List ByteArray) (s:ByteArray):Bool:=l.any λx=>AY x s
def Jy:AZ:={ ins:=[GD,T9],pre:=λ_=>True,out:=λ(l,n,_)=>[.p .bool (Aa l n)],lend:=true }
attribute [local go_sem] Jy
theorem HP:Ab Tryz.prog 201 Jy:=by
 refine fK [0,1,4,5,9,17] Tryz.func201 Tryz.ntmps201 AH ?_;rintro w0 O0 ⟨l,n,u⟩ a ⟨⟨e,-⟩,-⟩ -;simp only[AQ]at e;simp only[Jy,AM];repeat'(first|exact trivial|apply eS rfl|refine rX a ?_ ?_)
 refine AI (ι:={k:Nat//k<=l.length/\(l.take k).any (λx=>AY x n)=false}) (λk=>⟨[(0,.p GD l),(1,.p T9 n),(5,.p (.int .i64) (k.1:Int))],[]⟩) (λk=>l.length-k.1) ⟨0,by simp⟩ (eW []) (λk=>?_)
 obtain⟨k,hk,c⟩:=k;repeat'(first|exact trivial|apply eS rfl|apply AB|refine rX a ?_ ?_|refine rC ?_ ?_<;>intro b<;>try(cases b;done))
 .exact eV
 .have d:k<l.length:=by exact eV
  have h1:Aa l n=true:=JT l ByteArray.empty _ d b;exact fI a [.tmp 4] (by rw[h1];exact eR)
 .exact eV
 .have d:k<l.length:=by exact eV
  refine⟨⟨k+1,by exact eV,?_⟩,by simp only;exact eV,AC [] rfl rfl ?_ ?_⟩
  .rw[Nq l ByteArray.empty _ d,c];exact b
  .exact eN
  exact eN
 have hk:l.take k=l:=As (by exact eV);rw[hk]at c;have h1:Aa l n=false:=c;exact fI a [.tmp 4] (by rw[h1];exact eR)
def atF (l:List ByteArray) (s:ByteArray):Nat:=(l.takeWhile λx=>Hk x s).length
theorem A4c {α:Type} (p:α->Bool) (d:α):∀(l:List α) (k:Nat),k<=(l.takeWhile p).length->((k<l.length/\p (l.getD k d)=true)↔k+1<=(l.takeWhile p).length)
 | [],k,h=>by simp
 | x :: l,k,h=>by
  by_cases a:p x=true
  .rw[List.takeWhile_cons,BY a]at h ⊢;cases k with
   | zero=>simp[a]
   | succ k =>
    have:=A4c p d l k (by simpa using h);simpa using this
  rw[List.takeWhile_cons,An a]at h ⊢;have hk:k=0:=by simpa using h
  subst hk;simp[a]
theorem AA4 {α:Type} (p:α->Bool) (l:List α):(l.takeWhile p).length<=l.length:=(List.takeWhile_sublist p).length_le
def Ec (l:List ByteArray) (s:ByteArray):List ByteArray :=
 if (decide (atF l s<l.length)&&AY (l.getD (atF l s) ByteArray.empty) s)=true then l else l.take (atF l s)++[s]++l.drop (atF l s)
def eL:AZ:={ ins:=[GD,T9],pre:=λ(l,_,_)=>List.length l<=100000,out:=λ(l,n,_)=>[.p GD (Ec l n)] }
attribute [local go_sem] eL
theorem Sx:Ab Tryz.prog 194 eL:=by
 refine fK [0,1,4,5,6,18,32] Tryz.func194 Tryz.ntmps194 AH ?_;rintro w0 O0 ⟨l,n,u⟩ c-m;have m:l.length<=100000:=m;simp only[eL,AM];repeat'(first|exact trivial|apply eS rfl|refine rX c ?_ ?_)
 refine AI (ι:={k:Nat//k<=atF l n}) (λk=>⟨[(0,.p GD l),(1,.p T9 n),(5,.raw (.slice none 0 0)),(6,.p (.int .i64) (k.1:Int))],[]⟩) (λk=>l.length-k.1) ⟨0,by simp⟩ (eW []) (λk=>?_)
 obtain⟨k,hk⟩:=k;have d:=AA4 (λx=>Hk x n) l;have i:=A4c (λx=>Hk x n) ByteArray.empty l k hk;simp only;repeat'(first|exact trivial|apply eS rfl|apply AB|refine rX c ?_ ?_|refine rC ?_ ?_<;>intro a<;>try(cases a;done))
 .exact λh=>h
 .have h1:k<l.length/\Hk (l.getD k ByteArray.empty) n=true:=⟨by exact eV,a.2⟩;exact eV
 .have h1:k<l.length/\Hk (l.getD k ByteArray.empty) n=true:=⟨by exact eV,a.2⟩;exact⟨⟨k+1,i.1 h1⟩,by simp only;omega,eW []⟩
 .exact λh=>h
 .rename_i f;have g:k=atF l n:=by
   refine AF7 hk (Nat.le_of_not_lt λh=>?_);have:=i.2 h;rw[f (IN.2 this.1)]at this;cases this.2
  have e:Ec l n=l:=by
   unfold Ec;rw[<-g,BY];rw[AT,By];exact⟨IN.1 a.1,a.2⟩
  exact fI c [.tmp 4] (by rw[e];exact eR)
 .have j:=VS k l;have b:k<=l.length:=QB hk d;simp only[AQ];exact⟨P6.2 b,by dsimp only[Ty.den]at *;omega⟩
 .have j:=VS k l;have b:k<=l.length:=QB hk d;simp only[AQ];dsimp only[Ty.den]at *;omega
 .have j:=VS k l;have b:k<=l.length:=QB hk d;have q:(l.drop k).length<=l.length:=by rw[SM];omega
  simp only[AQ];exact⟨P6.2 b,by dsimp only[Ty.den]at *;omega⟩
 rename_i f;have g:k=atF l n:=by
  refine AF7 hk (Nat.le_of_not_lt λh=>?_);have:=i.2 h;rw[f (IN.2 this.1)]at this;cases this.2
 have e:Ec l n=l.take k++[n]++l.drop k:=by
  unfold Ec;rw[<-g,An];rw[AT,By];intro h;rw[a (IN.2 h.1)]at h;cases h.2
 have b:k<=l.length:=QB hk d;have o:(l.take k).length+1+(l.drop k).length=(l.take k++[n]++l.drop k).length:=by simp only[IF,Pz]
 rw[o,<-e];refine Fe [38] ?_;exact fI c [.tmp 4]
end
section
def Gf (b:List Int) (i:Int):Int:=if i<b.length then b.getD i.toNat 0 else 0
def kB:AZ:={ ins:=[BT,T3],pre:=λ(_,i,_)=>(0:Int)<=i,out:=λ(b,i,_)=>[.p Q9 (Gf b i)],lend:=true }
attribute [local go_sem] kB
theorem zM:Ab Tryz.prog 154 kB:=by
 refine fK [0,1,4,8] Tryz.func154 Tryz.ntmps154 AH ?_;rintro w0 O0 ⟨b,i,u⟩ c-hi;simp only[kB,AM];repeat'(first|exact trivial|apply eS rfl|refine rX c ?_ ?_|refine rC ?_ ?_<;>intro a<;>try(cases a;done))
 .exact⟨hi,a⟩
 .have h1:Gf b i=b.getD i.toNat 0:=by unfold Gf;rw[BY a]
  exact fI c [.tmp 4] (by rw[h1];exact eR)
 have h1:Gf b i=0:=by unfold Gf;rw[An (ZF.2 a)]
 exact fI c [.tmp 4] (by rw[h1];exact eR)
def Cm (b:List Int):Nat->Nat
 | 0=>0
 | n+1=>if b.getD n 0=0 then Cm b n else n+1
def BN (b:List Int):List Int:=b.take (Cm b b.length)
theorem XO (b:List Int):∀n,Cm b n<=n
 | 0=>Is _
 | n+1=>by
  unfold Cm;split
  .exact Nat.le_succ_of_le (XO b n)
  exact Is _
def LR:AZ:={ ins:=[BT],pre:=λ(b,_)=>List.length b<=100000,out:=λ(b,_)=>[.p BT (BN b)] }
attribute [local go_sem] LR
theorem Nr:Ab Tryz.prog 155 LR:=by
 refine fK [0,2,3,15] Tryz.func155 Tryz.ntmps155 AH ?_;rintro w0 O0 ⟨b,u⟩ d-f;have f:b.length<=100000:=f;simp only[LR,AM];repeat'(first|exact trivial|apply eS rfl|refine rX d ?_ ?_)
 refine AI (ι:={n:Nat//n<=b.length/\Cm b n=Cm b b.length}) (λn=>⟨[(0,.p BT b),(3,.p (.int .i64) (n.1:Int))],[]⟩) (λn=>n.1) ⟨b.length,Is _,rfl⟩ (eW []) (λn=>?_)
 obtain⟨n,hn,g⟩:=n;simp only;repeat'(first|apply eS rfl|apply AB|refine rX d ?_ ?_|refine rC ?_ ?_<;>intro c<;>try(cases c;done))
 .constructor
  .exact eV
  intro h;refine⟨?_,?_⟩<;>exact eV
 .exact eV
 .obtain⟨h1,a⟩:=c;obtain⟨m,rfl⟩:∃m,n=m+1:=⟨n-1,by omega⟩;have e:(((m+1:Nat):Int)-1)=(m:Int):=by omega
  rw[e]at a;have a:b.getD m 0=0:=a;have j:Cm b m=Cm b b.length:=by
   rw[<-g];show _=if b.getD m 0=0 then Cm b m else m+1
   rw[BY a]
  refine⟨⟨m,by omega,j⟩,by simp,AC [] rfl rfl ?_ ?_⟩
  .exact eN
  simp only[e];exact eN
 .have k:=VS n b;simp only[AQ];exact⟨P6.2 hn,by dsimp only[Ty.den]at *;omega⟩
 have i:Cm b n=n:=by
  cases n with
  | zero=>rfl
  | succ m =>
   have e:(((m+1:Nat):Int)-1)=(m:Int):=by omega
   rw[e]at c;have a:=c (by omega);have a:¬b.getD m 0=0:=a;show (if b.getD m 0=0 then Cm b m else m+1)=m+1;rw[An a]
 have h1:BN b=b.take n:=by unfold BN;rw[<-g,i]
 rw[<-h1];refine Fe [18] ?_;exact fI d [.tmp 2]
end
section
attribute [local go_sem] kB LR
def A4d (w:Int) (r:Int):Bool:=CE .and .u64 (ZP .u64 w r) 1==1
def VA (b:List Int) (i:Int):Bool:=if (decide (i<0)||decide ((b.length:Int)<=i.tdiv 64))=true then false else A4d (b.getD (i.tdiv 64).toNat 0) (i.tmod 64)
def A4e:AZ:={ ins:=[BT,T3],pre:=λ_=>True,out:=λ(b,i,_)=>[.p .bool (VA b i)],lend:=true }
theorem AAT {w:Int} (h0:0<=w) (r:Int):0<=ZP .u64 w r/\ZP .u64 w r<=w:=by
 unfold ZP;have hp:(0:Int)<2 ^ (min r.toNat IntKind.u64.bits):=Int.pow_pos (by decide);rw[Int.fdiv_eq_ediv_of_nonneg _ (Int.le_of_lt hp)];exact⟨Int.ediv_nonneg h0 (Int.le_of_lt hp),Int.ediv_le_self _ h0⟩
theorem A4f:Ab Tryz.prog 205 A4e:=by
 refine fK [0,1,4,13] Tryz.func205 Tryz.ntmps205 AH ?_;rintro w0 O0 ⟨b,i,u⟩ d ⟨⟨m,k⟩,e,-⟩ -;have e:Ko .i64 i:=e;rw[Nj]at e;have j:0<=i->Int.tdiv i 64=i / 64/\Int.tmod i 64=i % 64:=λh=>⟨VU h,ABQ h⟩;simp only[A4e,AM];repeat'(first|exact trivial|apply eS rfl|refine rX d ?_ ?_|refine rC ?_ ?_<;>intro c<;>try(cases c;done))
 .intro h;have h0:0<=i:=by simpa using h
  obtain⟨a,g⟩:=j h0;rw[a];refine⟨by decide,?_,?_⟩<;>exact eV
 .have h1:VA b i=false:=by
   unfold VA;rw[BY];rw[QO,By,By];exact c
  exact fI d [.tmp 4] (by rw[h1];exact eR)
 .obtain⟨h0,l⟩:=c;obtain⟨a,g⟩:=j h0;rw[a]at l;have f:Ko .u64 (b.getD (i / 64).toNat 0):=k _ (AD b 0 (by exact eV));rw[JO]at f;have hs:=AAT f.1 (i % 64);rw[a,g];refine⟨⟨by decide,by exact eV,by exact eV⟩,⟨by exact eV,by exact eV⟩,⟨by decide,by exact eV,by exact eV⟩,⟨by exact eV,by exact eV⟩,by exact eV,hs.1,AA6 hs.2 f.2⟩
 have h1:VA b i=A4d (b.getD (i.tdiv 64).toNat 0) (i.tmod 64):=by
  unfold VA;rw[An];rw[QO,By,By];rintro (h|h)<;>omega
 exact fI d [.tmp 4] (by rw[h1];unfold A4d;exact eR)
end
section
attribute [local go_sem] kB LR
def Gu (op:BinOp) (a b:List Int) (n:Nat):List Int:=(List.range n).map λi=>CE op .u64 (a.getD i 0) (Gf b (i:Int))
theorem Ez (op:BinOp) (a b:List Int) (n:Nat):(Gu op a b n).length=n:=by simp[Gu]
theorem aC (op:BinOp) (a b:List Int) (n:Nat):Gu op a b (n+1)=Gu op a b n++[CE op .u64 (a.getD n 0) (Gf b (n:Int))]:=by simp[Gu,SQ]
def Ej (a b:List Int):List Int:=BN (Gu .and a b a.length)
def A4g:AZ:={ ins:=[BT,BT],pre:=λ(a,_,_)=>List.length a<=100000,out:=λ(a,b,_)=>[.p BT (Ej a b)] }
theorem A4h:Ab Tryz.prog 116 A4g:=by
 refine fK [0,1,4,5,6,10] Tryz.func116 Tryz.ntmps116 (AF zM (AF Nr AH)) ?_;rintro w0 O0 ⟨a,b,u⟩ c-ha;have ha:a.length<=100000:=ha;simp only[A4g,AM];repeat'(first|exact trivial|apply eS rfl|refine rX c ?_ ?_)
 refine AI (ι:={n:Nat//n<=a.length}) (λn=>⟨[(0,.p BT a),(1,.p BT b),(5,.sr 23 Q9 0 n.1),(6,.p (.int .i64) (n.1:Int))],[(23,.arr 186 Q9 (Gu .and a b n.1))]⟩) (λn=>a.length-n.1) ⟨0,IS _⟩ (AC [(23,.nil)] rfl rfl ?_ ?_) (λn=>?_)
 .refine eM ?_;rfl
 .exact eN
 obtain⟨n,hn⟩:=n;have g:=Ez .and a b n;have hs:=aC .and a b n;simp only;repeat'(first|exact trivial|apply eS rfl|apply AB|refine rX c ?_ ?_|refine rC ?_ ?_<;>intro d<;>try(cases d;done))
 .refine⟨d,?_⟩;simp only[AQ];dsimp only[Ty.den]at *;omega
 .exact eV
 .have e:n<a.length:=by exact eV
  refine⟨⟨n+1,by omega⟩,by simp only;omega,AC [(23,.nm 23)] rfl rfl ?_ ?_⟩
  .simp only[hs];refine eM ?_;rw[As (by rw[g];exact Is _)]
  exact eN
 have e:n=a.length:=by exact eV
 subst e;refine Fe [23] ?_;have f:(Gu .and a b a.length).take a.length=Gu .and a b a.length:=As (by rw[Ez];exact Is _);repeat'(first|apply eS rfl|refine rX c ?_ ?_)
 .rw[f,Ez];exact ha
 rw[f];exact fI c [.tmp 4] (by unfold Ej;exact eR)
def Sy (a b:List Int):List Int:=BN (Gu .andNot a b a.length)
def pD:AZ:={ ins:=[BT,BT],pre:=λ(a,_,_)=>List.length a<=100000,out:=λ(a,b,_)=>[.p BT (Sy a b)] }
attribute [local go_sem] pD
theorem A4i:Ab Tryz.prog 188 pD:=by
 refine fK [0,1,4,5,6,10] Tryz.func188 Tryz.ntmps188 (AF zM (AF Nr AH)) ?_;rintro w0 O0 ⟨a,b,u⟩ c-ha;have ha:a.length<=100000:=ha;simp only[pD,AM];repeat'(first|exact trivial|apply eS rfl|refine rX c ?_ ?_)
 refine AI (ι:={n:Nat//n<=a.length}) (λn=>⟨[(0,.p BT a),(1,.p BT b),(5,.sr 23 Q9 0 n.1),(6,.p (.int .i64) (n.1:Int))],[(23,.arr 186 Q9 (Gu .andNot a b n.1))]⟩) (λn=>a.length-n.1) ⟨0,IS _⟩ (AC [(23,.nil)] rfl rfl ?_ ?_) (λn=>?_)
 .refine eM ?_;rfl
 .exact eN
 obtain⟨n,hn⟩:=n;have g:=Ez .andNot a b n;have hs:=aC .andNot a b n;simp only;repeat'(first|exact trivial|apply eS rfl|apply AB|refine rX c ?_ ?_|refine rC ?_ ?_<;>intro d<;>try(cases d;done))
 .refine⟨d,?_⟩;simp only[AQ];dsimp only[Ty.den]at *;omega
 .exact eV
 .have e:n<a.length:=by exact eV
  refine⟨⟨n+1,by omega⟩,by simp only;omega,AC [(23,.nm 23)] rfl rfl ?_ ?_⟩
  .simp only[hs];refine eM ?_;rw[As (by rw[g];exact Is _)]
  exact eN
 have e:n=a.length:=by exact eV
 subst e;refine Fe [23] ?_;have f:(Gu .andNot a b a.length).take a.length=Gu .andNot a b a.length:=As (by rw[Ez];exact Is _);repeat'(first|apply eS rfl|refine rX c ?_ ?_)
 .rw[f,Ez];exact ha
 rw[f];exact fI c [.tmp 4] (by unfold Sy;exact eR)
def FA (a b:List Int):Bool:=((Sy a b).length:Int)==0
def RC:AZ:={ ins:=[BT,BT],pre:=λ(a,_,_)=>List.length a<=100000,out:=λ(a,b,_)=>[.p .bool (FA a b)],lend:=true }
attribute [local go_sem] RC
theorem Sz:Ab Tryz.prog 147 RC:=by
 refine fK [0,1,4] Tryz.func147 Tryz.ntmps147 (AF A4i AH) ?_;rintro w0 O0 ⟨a,b,u⟩ c-ha;have ha:a.length<=100000:=ha;simp only[RC,AM];repeat'(first|exact trivial|apply eS rfl|refine rX c ?_ ?_)
 .exact ha
 exact fI c [.tmp 4] (by unfold FA;exact eR)
def DW (a b:List Int):Bool:=FA a b&&FA b a
def eO:AZ:={ ins:=[BT,BT],pre:=λ(a,b,_)=>List.length a<=100000/\List.length b<=100000,out:=λ(a,b,_)=>[.p .bool (DW a b)],lend:=true }
theorem A1l:Ab Tryz.prog 204 eO:=by
 refine fK [0,1,4] Tryz.func204 Tryz.ntmps204 (AF Sz AH) ?_;rintro w0 O0 ⟨a,b,u⟩ c-⟨ha,d⟩;simp only[eO,AM];repeat'(first|exact trivial|apply eS rfl|refine rX c ?_ ?_)
 .exact⟨ha,λ_=>d⟩
 exact fI c [.tmp 4] (by unfold DW;exact eR)
end
section
attribute [local go_sem] A4e
def Hn (a b:List Int):Bool:=decide (a=b)
def XP:AZ:={ ins:=[BT,BT],pre:=λ_=>True,out:=λ(a,b,_)=>[.p .bool (Hn a b)],lend:=true }
theorem zN:Ab Tryz.prog 153 XP:=by
 refine fK [0,1,4,5,10,14,25] Tryz.func153 Tryz.ntmps153 AH ?_;rintro w0 O0 ⟨a,b,u⟩ d ⟨⟨ha,-⟩,-⟩ -;simp only[AQ]at ha;simp only[XP,AM];repeat'(first|exact trivial|apply eS rfl|refine rX d ?_ ?_|refine rC ?_ ?_<;>intro c<;>try(cases c;done))
 .have h1:Hn a b=false:=by
   unfold Hn;rw[On];rintro rfl;exact c rfl
  exact fI d [.tmp 4] (by rw[h1];exact eR)
 have f:a.length=b.length:=by
  have:(a.length:Int)=(b.length:Int):=by simpa using c
  exact Int.ofNat_inj.1 this
 refine AI (ι:={k:Nat//k<=a.length/\a.take k=b.take k}) (λk=>⟨[(0,.p BT a),(1,.p BT b),(5,.p (.int .i64) (k.1:Int))],[]⟩) (λk=>a.length-k.1) ⟨0,IS _,rfl⟩ (eW []) (λk=>?_)
 obtain⟨k,hk,hf⟩:=k;simp only;repeat'(first|exact trivial|apply eS rfl|apply AB|refine rX d ?_ ?_|refine rC ?_ ?_<;>intro c<;>try(cases c;done))
 .exact⟨c,by rw[<-f];exact c⟩
 .have e:k<a.length:=by exact eV
  have h1:Hn a b=false:=by
   unfold Hn;rw[On];rintro rfl;exact c rfl
  exact fI d [.tmp 4] (by rw[h1];exact eR)
 .exact eV
 .have e:k<a.length:=by exact eV
  have g:a.getD k 0=b.getD k 0:=by simpa using c
  refine⟨⟨k+1,by omega,?_⟩,by simp only;omega,AC [] rfl rfl ?_ ?_⟩
  .rw[Au a 0 e,Au b 0 (by omega),hf];rw[show a.getD k 0=b.getD k 0 from g]
  .exact eN
  exact eN
 have e:k=a.length:=by exact eV
 subst e;rw[QD,f,QD]at hf;have h1:Hn a b=true:=by unfold Hn;rw[hf];simp
 exact fI d [.tmp 4] (by rw[h1];exact eR)
end
section
attribute [local go_sem] A4e
def Oe (b:List Int) (n:Nat):List Int:=((List.range n).filter λ(i:Nat)=>VA b (i:Int)).map λ(i:Nat)=>(i:Int)
def IZ (b:List Int):List Int:=Oe b (64*b.length)
theorem pE (b:List Int) (n:Nat):Oe b (n+1)=Oe b n++if VA b (n:Int)=true then [(n:Int)] else []:=by
 unfold Oe;rw[SQ,AEE,VO]
 congr 1
 rw[VL,AFl];split<;>rfl
theorem A1m (b:List Int) (n:Nat):(Oe b n).length<=n:=by
 unfold Oe;rw[Py];exact QB (VI _ _) (by simp)
def A4j:AZ:={ ins:=[BT],pre:=λ(b,_)=>List.length b<=100000,out:=λ(b,_)=>[.p F2 (IZ b)] }
attribute [local go_sem] A4j
theorem A8v:Ab Tryz.prog 223 A4j:=by
 refine fK [0,2,3,4,9,14] Tryz.func223 Tryz.ntmps223 (AF A4f AH) ?_;rintro w0 O0 ⟨b,u⟩ c-e;have e:b.length<=100000:=e;simp only[A4j,AM];repeat'(first|exact trivial|apply eS rfl|refine rX c ?_ ?_)
 refine AI (ι:={n:Nat//n<=64*b.length}) (λn=>⟨[(0,.p BT b),(3,.sr 18 T3 0 (Oe b n.1).length),(4,.p (.int .i64) (n.1:Int))],[(18,.arr 3 T3 (Oe b n.1))]⟩) (λn=>64*b.length-n.1) ⟨0,IS _⟩ (AC [(18,.nil)] rfl rfl ?_ ?_) (λn=>?_)
 .refine eM ?_;rfl
 .refine eM ?_;rfl
 obtain⟨n,hn⟩:=n;have f:=A1m b n;have hs:=pE b n;simp only;repeat'(first|exact trivial|apply eS rfl|apply AB|refine rX c ?_ ?_|refine rC ?_ ?_<;>intro a<;>try(cases a;done))
 .exact eV
 .rw[a,BY rfl]at hs;simp only[AQ];dsimp only[Ty.den]at *;omega
 .exact eV
 .have d:n<64*b.length:=by exact eV
  rw[a,BY rfl]at hs;refine⟨⟨n+1,by omega⟩,by simp only;omega,AC [(18,.nm 18)] rfl rfl ?_ ?_⟩
  .simp only[hs];exact eN
  simp only[hs];exact eN
 .exact eV
 .have d:n<64*b.length:=by exact eV
  rw[a,An (by simp),QQ]at hs;refine⟨⟨n+1,by omega⟩,by simp only;omega,AC [(18,.nm 18)] rfl rfl ?_ ?_⟩
  .simp only[hs];exact eN
  simp only[hs];exact eN
 have d:n=64*b.length:=by exact eV
 subst d;refine Fe [18] ?_;exact fI c [.tmp 2] (by unfold IZ;exact eR)
def pF:AZ:={ ins:=[BT],pre:=λ(b,_)=>List.length b<=100000,out:=λ(b,_)=>[.p T3 ((IZ b).length:Int)],lend:=true }
theorem A4k:Ab Tryz.prog 207 pF:=by
 refine fK [0,2] Tryz.func207 Tryz.ntmps207 (AF A8v AH) ?_;rintro w0 O0 ⟨b,u⟩ a-c;simp only[pF,AM];repeat'(first|exact trivial|apply eS rfl|refine rX a ?_ ?_)
 .exact c
 exact fI a [.tmp 2]
end
section
attribute [local go_sem] Jy A4a
abbrev AJ:=ByteArray×List ByteArray×List (ByteArray×ByteArray)
abbrev d0:AJ:=(ByteArray.empty,[],[])
def Cy (s:ByteArray):Nat->List AJ->Int
 | _,[]=>-1
 | k,x :: l=>if AY x.1 s=true then (k:Int) else Cy s (k+1) l
def Ar (l:List AJ) (s:ByteArray):Int:=Cy s 0 l
theorem UQ (s:ByteArray) (l:List AJ) {k:Nat} (h:k<l.length):Cy s k (l.drop k)=if AY (l.getD k d0).1 s=true then (k:Int) else Cy s (k+1) (l.drop (k+1)):=by
 rw[OR h];have e:l.getD k d0=l[k]:=by simp[AS,h]
 rw[e];rfl
def PT:AZ:={ ins:=[FJ,T9],pre:=λ_=>True,out:=λ(l,s,_)=>[.p T3 (Ar l s)] }
attribute [local go_sem] PT
theorem Mo:Ab Tryz.prog 219 PT:=by
 refine fK [0,1,4,5,9,18] Tryz.func219 Tryz.ntmps219 AH ?_;rintro w0 O0 ⟨l,s,u⟩ c ⟨⟨d,-⟩,-⟩ -;simp only[AQ]at d;simp only[PT,AM];repeat'(first|exact trivial|apply eS rfl|refine rX c ?_ ?_)
 refine AI (ι:={k:Nat//k<=l.length/\Cy s k (l.drop k)=Ar l s}) (λk=>⟨[(0,.p FJ l),(1,.p T9 s),(5,.p (.int .i64) (k.1:Int))],[]⟩) (λk=>l.length-k.1) ⟨0,IS _,rfl⟩ (eW []) (λk=>?_)
 obtain⟨k,hk,hf⟩:=k;simp only;repeat'(first|exact trivial|apply eS rfl|apply AB|refine rX c ?_ ?_|refine rC ?_ ?_<;>intro b<;>try(cases b;done))
 .exact b
 .have a:k<l.length:=by exact eV
  rw[UQ s l a,BY b]at hf;exact fI c [.tmp 4] (by rw[<-hf];exact eR)
 .exact eV
 .have a:k<l.length:=by exact eV
  rw[UQ s l a,An (by rw[b];simp)]at hf;exact⟨⟨k+1,by omega,hf⟩,by simp only;omega,eW []⟩
 have a:l.drop k=[]:=B0 (by exact eV);rw[a]at hf;exact fI c [.tmp 4] (by rw[<-hf];first|exact eR|refine UO ?_;rfl)
def Mp:List AJ->Int
 | []=>0
 | x :: l=>if 256<x.2.1.length\/256<x.2.2.length then 7 else Mp l
def Y1 (l:List AJ):Int:=if 256<l.length then 7 else Mp l
theorem UR (l:List AJ) {k:Nat} (h:k<l.length):Mp (l.drop k)=if 256<(l.getD k d0).2.1.length\/256<(l.getD k d0).2.2.length then 7 else Mp (l.drop (k+1)):=by
 rw[OR h];have e:l.getD k d0=l[k]:=by simp[AS,h]
 rw[e];rfl
def eQ:AZ:={ ins:=[FJ],pre:=λ_=>True,out:=λ(l,_)=>[.p MG (Y1 l)] }
attribute [local go_sem] eQ
theorem A4l:Ab Tryz.prog 196 eQ:=by
 refine fK [0,2,3,6,10,28] Tryz.func196 Tryz.ntmps196 AH ?_;rintro w0 O0 ⟨l,u⟩ b ⟨⟨d,-⟩,-⟩ -;simp only[AQ]at d;simp only[eQ,AM];repeat'(first|exact trivial|apply eS rfl|refine rX b ?_ ?_|refine rC ?_ ?_<;>intro a<;>try(cases a;done))
 .have h1:Y1 l=7:=by unfold Y1;rw[BY (by exact eV)]
  exact fI b [.tmp 2] (by rw[h1];exact eR)
 have h1:Y1 l=Mp l:=by unfold Y1;rw[An (by exact eV)]
 refine AI (ι:={k:Nat//k<=l.length/\Mp (l.drop k)=Y1 l}) (λk=>⟨[(0,.p FJ l),(3,.p (.int .i64) (k.1:Int))],[]⟩) (λk=>l.length-k.1) ⟨0,IS _,h1.symm⟩ (eW []) (λk=>?_)
 obtain⟨k,hk,hf⟩:=k;simp only;repeat'(first|exact trivial|apply eS rfl|apply AB|refine rX b ?_ ?_|refine rC ?_ ?_<;>intro a<;>try(cases a;done))
 .exact⟨a,λ_=>a⟩
 .have c:k<l.length:=by exact eV
  rw[UR l c,BY (by
   rcases a with h|h
   .exact .inl (IN.1 h)
   exact .inr (IN.1 h))]at hf
  exact fI b [.tmp 2] (by rw[<-hf];exact eR)
 .exact eV
 .have c:k<l.length:=by exact eV
  rw[UR l c,An (by
   rintro (h|h)
   .have:=P6.1 a.1;exact absurd h (Nat.not_lt.2 this)
   have:=P6.1 a.2;exact absurd h (Nat.not_lt.2 this))]at hf
  exact⟨⟨k+1,by omega,hf⟩,by simp only;omega,eW []⟩
 have c:l.drop k=[]:=B0 (by exact eV);rw[c]at hf;exact fI b [.tmp 2] (by rw[<-hf];first|exact eR|refine UO ?_;rfl)
theorem Gv {α:Type} (l:List α) (d:α) (p:α->Bool) {k:Nat} (h:k<l.length):(l.take (k+1)).all p=((l.take k).all p&&p (l.getD k d)):=by
 rw[Au l d h,AFa];simp
def Jz (x:AJ) (done:List ByteArray):Bool:=x.2.1.all λs=>Aa done s
def eU:AZ:={ ins:=[A1f,GD],pre:=λ_=>True,out:=λ(x,l,_)=>[.p .bool (Jz x l)],lend:=true }
attribute [local go_sem] eU
theorem A4m:Ab Tryz.prog 220 eU:=by
 refine fK [0,1,2,4,5,10,20] Tryz.func220 Tryz.ntmps220 (AF HP AH) ?_;rintro w0 O0 ⟨⟨nm,sup,d⟩,l,u⟩ c ⟨⟨-,⟨e,-⟩,-⟩,-⟩ -;simp only[AQ]at e;simp only[eU,AM];repeat'(first|exact trivial|apply eS rfl|refine rX c ?_ ?_)
 refine AI (ι:={k:Nat//k<=sup.length/\(sup.take k).all (λs=>Aa l s)=true}) (λk=>⟨[(1,.p GD l),(2,.bp 2 [] 0),(5,.p (.int .i64) (k.1:Int))],[(2,.box 158 true [.p T9 nm,.p GD sup,.p jX d])]⟩) (λk=>sup.length-k.1) ⟨0,by simp⟩ (eW [(2,.nm 2)]) (λk=>?_)
 obtain⟨k,hk,hf⟩:=k;simp only;repeat'(first|exact trivial|apply eS rfl|apply AB|refine rX c ?_ ?_|refine rC ?_ ?_<;>intro b<;>try(cases b;done))
 .exact b
 .have a:k<sup.length:=by exact eV
  have h1:Jz (nm,sup,d) l=false:=by
   unfold Jz;refine ABL.2 λh=>?_;have:=If.1 h _ (AD sup ByteArray.empty a);rw[b]at this;cases this
  exact fI c [.tmp 4] (by rw[h1];exact eR)
 .have:=e;exact eV
 .have a:k<sup.length:=by exact eV
  refine⟨⟨k+1,by omega,?_⟩,by simp only;omega,AC [(2,.nm 2)] rfl rfl ?_ ?_⟩
  .rw[Gv sup ByteArray.empty _ a,hf];exact b
  .exact eN
  exact eN
 have a:sup.take k=sup:=As (by exact eV);rw[a]at hf;have h1:Jz (nm,sup,d) l=true:=hf;exact fI c [.tmp 4] (by rw[h1];exact eR)
def PU (d:List AJ):Nat->List AJ->Int
 | _,[]=>0
 | k,x :: l=>if Ey x.1 false=false then 1 else if Ar d x.1<(k:Int) then 4 else PU d (k+1) l
def Cp (d:List AJ):Int:=PU d 0 d
theorem Mq (d l:List AJ) {k:Nat} (h:k<l.length):PU d k (l.drop k)=if Ey (l.getD k d0).1 false=false then 1 else if Ar d (l.getD k d0).1<(k:Int) then 4 else PU d (k+1) (l.drop (k+1)):=by
 rw[OR h];have e:l.getD k d0=l[k]:=by simp[AS,h]
 rw[e];rfl
def eX:AZ:={ ins:=[FJ],pre:=λ_=>True,out:=λ(l,_)=>[.p MG (Cp l)] }
attribute [local go_sem] eX
theorem A4n:Ab Tryz.prog 197 eX:=by
 refine fK [0,2,3,7,16,25] Tryz.func197 Tryz.ntmps197 (AF A8u (AF Mo AH)) ?_;rintro w0 O0 ⟨l,u⟩ c ⟨⟨e,-⟩,-⟩ -;simp only[AQ]at e;simp only[eX,AM];repeat'(first|exact trivial|apply eS rfl|refine rX c ?_ ?_)
 refine AI (ι:={k:Nat//k<=l.length/\PU l k (l.drop k)=Cp l}) (λk=>⟨[(0,.p FJ l),(3,.p (.int .i64) (k.1:Int))],[]⟩) (λk=>l.length-k.1) ⟨0,IS _,rfl⟩ (eW []) (λk=>?_)
 obtain⟨k,hk,hf⟩:=k;simp only;repeat'(first|exact trivial|apply eS rfl|apply AB|refine rX c ?_ ?_|refine rC ?_ ?_<;>intro b<;>try(cases b;done))
 .exact b
 .have a:k<l.length:=by exact eV
  rw[Mq l l a,BY b]at hf;exact fI c [.tmp 2] (by rw[<-hf];exact eR)
 .assumption
 .rename_i d;have a:k<l.length:=by exact eV
  rw[Mq l l a,An (by rw[d];simp),BY b]at hf;exact fI c [.tmp 2] (by rw[<-hf];exact eR)
 .exact eV
 .rename_i d;have a:k<l.length:=by exact eV
  rw[Mq l l a,An (by rw[d];simp),An (ZF.2 b)]at hf;exact⟨⟨k+1,by omega,hf⟩,by simp only;omega,eW []⟩
 have a:l.drop k=[]:=B0 (by exact eV);rw[a]at hf;exact fI c [.tmp 2] (by rw[<-hf];first|exact eR|refine UO ?_;rfl)
def VB (d:List AJ) (l:List ByteArray):Nat->List ByteArray->Int
 | _,[]=>0
 | k,x :: r=>if Ar d x<0 then 5 else if Aa (l.take k) x=true then 4 else VB d l (k+1) r
def LS (d:List AJ):List AJ->Int
 | []=>0
 | x :: l=>if VB d x.2.1 0 x.2.1≠0 then VB d x.2.1 0 x.2.1 else LS d l
def LT (d:List AJ):Int:=LS d d
theorem S0 (d:List AJ) (l:List ByteArray) {k:Nat} (h:k<l.length):VB d l k (l.drop k)=if Ar d (l.getD k ByteArray.empty)<0 then 5 else if Aa (l.take k) (l.getD k ByteArray.empty)=true then 4 else VB d l (k+1) (l.drop (k+1)):=by
 rw[OR h];have e:l.getD k ByteArray.empty=l[k]:=by simp[AS,h]
 rw[e];rfl
theorem eY (d l:List AJ) {k:Nat} (h:k<l.length):LS d (l.drop k)=if VB d (l.getD k d0).2.1 0 (l.getD k d0).2.1≠0 then VB d (l.getD k d0).2.1 0 (l.getD k d0).2.1 else LS d (l.drop (k+1)):=by
 rw[OR h];have e:l.getD k d0=l[k]:=by simp[AS,h]
 rw[e];rfl
def Vr:AZ:={ ins:=[FJ],pre:=λ_=>True,out:=λ(l,_)=>[.p MG (LT l)] }
attribute [local go_sem] Vr
theorem A1n:Ab Tryz.prog 198 Vr:=by
 refine fK [0,2,3,4,5,9,20,29,37] Tryz.func198 Tryz.ntmps198 (AF HP (AF Mo AH)) ?_;rintro w0 O0 ⟨l,u⟩ d ⟨⟨h,g⟩,-⟩ -;simp only[AQ]at h;simp only[Vr,AM];repeat'(first|exact trivial|apply eS rfl|refine rX d ?_ ?_)
 refine AI (ι:={i:Nat//i<=l.length/\LS l (l.drop i)=LT l}) (λi=>⟨[(0,.p FJ l),(3,.p (.int .i64) (i.1:Int))],[]⟩) (λi=>l.length-i.1) ⟨0,IS _,rfl⟩ (eW []) (λi=>?_)
 obtain⟨i,hi,hf⟩:=i;simp only;repeat'(first|exact trivial|apply eS rfl|refine rX d ?_ ?_|refine rC ?_ ?_<;>intro b<;>try(cases b;done))
 .exact b
 .have f:i<l.length:=by exact eV
  have j:=g _ (AD l d0 f);have m:(l.getD i d0).2.1.length<=AQ:=j.2.1.1;simp only[AQ]at m;rw[eY l l f]at hf;generalize (l.getD i d0).2.1=sup at *;refine AI (ι:={k:Nat//k<=sup.length/\VB l sup k (sup.drop k)=VB l sup 0 sup}) (λk=>⟨[(0,.p FJ l),(3,.p (.int .i64) (i:Int)),(4,.p GD sup),(5,.p (.int .i64) (k.1:Int))],[]⟩) (λk=>sup.length-k.1) ⟨0,IS _,rfl⟩ (eW []) (λk=>?_)
  obtain⟨k,hk,c⟩:=k;simp only;repeat'(first|exact trivial|apply eS rfl|apply AB|refine rX d ?_ ?_|refine rC ?_ ?_<;>intro b<;>try(cases b;done))
  .exact b
  .have a:k<sup.length:=by exact eV
   rw[S0 l sup a,BY b]at c;rw[<-c,BY (by decide)]at hf;exact fI d [.tmp 2] (by rw[<-hf];exact eR)
  .exact eV
  .rename_i e;have a:k<sup.length:=by exact eV
   rw[S0 l sup a,An (ZF.2 e),BY b]at c;rw[<-c,BY (by decide)]at hf;exact fI d [.tmp 2] (by rw[<-hf];exact eR)
  .exact eV
  .rename_i e;have a:k<sup.length:=by exact eV
   rw[S0 l sup a,An (ZF.2 e),An (by rw[b];simp)]at c;exact⟨⟨k+1,by omega,c⟩,by simp only;omega,eW []⟩
  .exact eV
  have a:sup.drop k=[]:=B0 (by exact eV);rw[a]at c;rw[<-c,An (by simp[VB])]at hf;exact⟨⟨i+1,by omega,hf⟩,by simp only;omega,eW []⟩
 have a:l.drop i=[]:=B0 (by exact eV);rw[a]at hf;exact fI d [.tmp 2] (by rw[<-hf];first|exact eR|refine UO ?_;rfl)
end
section
attribute [local go_sem] PT eU Jy eL
theorem FB {α β:Type} (g:β->α->β) (l:List α) (d:α) (t:β) {i:Nat} (hi:i<l.length):(l.take (i+1)).foldl g t=g ((l.take i).foldl g t) (l.getD i d):=by
 rw[Au l d hi,AF8];rfl
theorem Mr (l:List ByteArray) (s:ByteArray):(Ec l s).length<=l.length+1:=by
 unfold Ec;split
 .omega
 have:=AA4 (λx=>Hk x s) l;have a:atF l s<=l.length:=this;simp only[IF,OS,SM,Pz];omega
def AP (l:List AJ):List ByteArray:=l.foldl (λo x=>Ec o x.1) []
theorem EE (l:List AJ) (k:Nat):(AP (l.take k)).length<=k:=by
 have key:∀(l:List AJ) (o:List ByteArray),(l.foldl (λo x=>Ec o x.1) o).length<=o.length+l.length:=by
  intro l;induction l with
  | nil=>intro o;simp
  | cons x l b =>
   intro o;have h1:=b (Ec o x.1);have a:=Mr o x.1;simp only[ON,Of];omega
 have h1:=key (l.take k) [];have a:=VS k l;unfold AP;simp only[ZM]at h1;omega
def RD:AZ:={ ins:=[FJ],pre:=λ(l,_)=>List.length l<=100000,out:=λ(l,_)=>[.p GD (AP l)] }
attribute [local go_sem] RD
theorem aD:Ab Tryz.prog 161 RD:=by
 refine fK [0,2,3,4,8] Tryz.func161 Tryz.ntmps161 (AF Sx AH) ?_;rintro w0 O0 ⟨l,u⟩ a-d;have d:l.length<=100000:=d;simp only[RD,AM];repeat'(first|exact trivial|apply eS rfl|refine rX a ?_ ?_)
 refine AI (ι:={k:Nat//k<=l.length}) (λk=>⟨[(0,.p FJ l),(3,.p GD (AP (l.take k.1))),(4,.p (.int .i64) (k.1:Int))],[]⟩) (λk=>l.length-k.1) ⟨0,IS _⟩ (AC [] rfl rfl ?_ ?_) (λk=>?_)
 .exact eN
 .refine eM ?_;rfl
 obtain⟨k,hk⟩:=k;have hn:=EE l k;have hs:=λh:k<l.length=>FB (λ(o:List ByteArray) (x:AJ)=>Ec o x.1) l d0 [] h;simp only;repeat'(first|exact trivial|apply eS rfl|apply AB|refine rX a ?_ ?_|refine rC ?_ ?_<;>intro c<;>try(cases c;done))
 .exact⟨c,by omega⟩
 .exact eV
 .have b:k<l.length:=by exact eV
  have e:=hs b;refine⟨⟨k+1,by omega⟩,by simp only;omega,AC [] rfl rfl ?_ ?_⟩
  .exact eN
  simp only;have e:AP (l.take (k+1))=Ec (AP (l.take k)) (l.getD k d0).1:=e;rw[e];exact eN
 have b:l.take k=l:=As (by exact eV);rw[b];exact fI a [.tmp 2]
def JU (out:List ByteArray) (s:Bool×ByteArray) (x:AJ):Bool×ByteArray :=
 if (Aa out x.1||!Jz x out)=true then s else (true,if (!s.1||Hk x.1 s.2)=true then x.1 else s.2)
def Ia (d:List AJ) (out:List ByteArray):Bool×ByteArray:=d.foldl (JU out) (false,ByteArray.empty)
def JV (d:List AJ):Nat->List ByteArray->List ByteArray
 | 0,out=>out
 | n+1,out=>if (Ia d out).1=true then JV d n (out++[(Ia d out).2]) else out
def Bm (d:List AJ):List ByteArray:=JV d d.length []
def Ib (d:List AJ) (out:List ByteArray):Nat:=d.countP λx=>!Aa out x.1
theorem Cz (s:ByteArray):AY s s=true:=by unfold AY;simp
theorem PW (out:List ByteArray) (s x:ByteArray):Aa (out++[s]) x=(Aa out x||AY s x):=by
 unfold Aa;simp[AFm]
theorem A1o (d:List AJ) (out:List ByteArray) (h:(Ia d out).1=true):∃x∈d,x.1=(Ia d out).2/\Aa out x.1=false:=by
 have key:∀(l:List AJ) (s:Bool×ByteArray),(∀x∈l,x∈d)->(s.1=true->∃x∈d,x.1=s.2/\Aa out x.1=false)->(l.foldl (JU out) s).1=true ->
   ∃x∈d,x.1=(l.foldl (JU out) s).2/\Aa out x.1=false:=by
  intro l;induction l with
  | nil=>intro s _ hs h;exact hs h
  | cons y l g =>
   intro s c hs h;rw[ON]at h ⊢;refine g _ (λx e=>c x (by simp[e])) (λhp=>?_) h;unfold JU at hp ⊢;split
   .rename_i a;rw[BY a]at hp;exact hs hp
   rename_i a;simp only;have f:Aa out y.1=false:=by
    cases hh:Aa out y.1 with
    | false=>rfl
    | true=>rw[hh]at a;simp at a
   split
   .exact⟨y,c y (by simp),rfl,f⟩
   rename_i b;have:s.1=true:=by
    cases hh:s.1 with
    | true=>rfl
    | false=>rw[hh]at b;simp at b
   exact hs this
 exact key d _ (λ_ h=>h) (λh=>by cases h) h
theorem kC {d:List AJ} {out:List ByteArray} (h:(Ia d out).1=true):Ib d (out++[(Ia d out).2])<Ib d out:=by
 obtain⟨x,e,h1,c⟩:=A1o d out h;generalize (Ia d out).2=s at *;unfold Ib;have key:∀l:List AJ,(l.countP λy=>!Aa (out++[s]) y.1)<=l.countP λy=>!Aa out y.1:=by
  intro l;refine List.countP_mono_left λy _ a=>?_;rw[PW]at a;cases hh:Aa out y.1 with
  | false=>rfl
  | true=>rw[hh]at a;simp at a
 obtain⟨f,g,rfl⟩:=List.append_of_mem e;rw[AGa,AGa,AC2,AC2];have i:=key f;have j:=key g;have b:Aa (out++[s]) x.1=true:=by rw[PW,h1,Cz,Bool.or_true]
 rw[b,c];simp only[Bool.not_true,Bool.not_false,ZD];simp only[dO,AAG];omega
def eZ:AZ:={ ins:=[FJ],pre:=λ(l,_)=>List.length l<=100000,out:=λ(l,_)=>[.p GD (Bm l)] }
theorem A1p:Ab Tryz.prog 199 eZ:=by
 refine fK [0,2,3,4,5,6,7,11,29,40,46] Tryz.func199 Tryz.ntmps199 (AF HP (AF A4m AH)) ?_;rintro w0 O0 ⟨d,u⟩ j-r;have r:d.length<=100000:=r;simp only[eZ,AM];repeat'(first|exact trivial|apply eS rfl|refine rX j ?_ ?_)
 refine AI (ι:={x:Nat×List ByteArray×Bool//x.1+x.2.1.length<=d.length/\(x.2.2=true->Ib d x.2.1<=x.1/\JV d x.1 x.2.1=Bm d)/\(x.2.2=false->x.2.1=Bm d)}) (λx=>⟨[(0,.p FJ d),(3,.sr 50 T9 0 x.1.2.1.length),(4,.p .bool x.1.2.2)],[(50,.arr 9 T9 x.1.2.1)]⟩) (λx=>(if x.1.2.2=true then x.1.1+1 else 0)) ⟨(d.length,[],true),by simp,λ_=>⟨List.countP_le_length,rfl⟩,λh=>by cases h⟩ (eW [(50,.nil)]) (λx=>?_)
 obtain⟨⟨n,out,C⟩,s,t,v⟩:=x;simp only at s t v;simp only;repeat'(first|exact trivial|apply eS rfl|refine rX j ?_ ?_|refine rC ?_ ?_<;>intro a<;>try(cases a;done))
 .subst a;obtain⟨hu,hp⟩:=t rfl;have B:({ data:=#[] }:ByteArray).size<=AQ:=by decide
  rw[BY B];refine AI (ι:={y:Nat×Bool×ByteArray//y.1<=d.length/\(d.take y.1).foldl (JU out) (false,ByteArray.empty)=y.2}) (λy=>⟨[(0,.p FJ d),(3,.sr 50 T9 0 out.length),(4,.p .bool y.1.2.1),(5,.p T9 y.1.2.2),(6,.p (.int .i64) (y.1.1:Int))],[(50,.arr 9 T9 out)]⟩) (λy=>d.length-y.1.1) ⟨(0,false,ByteArray.empty),by simp,rfl⟩ (AC [(50,.nm 50)] rfl rfl ?_ ?_) (λy=>?_)
  .exact eN
  .refine eM ?_;rfl
  obtain⟨⟨k,w,b⟩,hk,c⟩:=y;simp only at hk c;have q:∀h:k<d.length,(d.take (k+1)).foldl (JU out) (false,ByteArray.empty)=JU out (w,b) (d.getD k d0):=λh=>by
   rw[FB (JU out) d d0 _ h,c]
  simp only;repeat'(first|exact trivial|apply eS rfl|apply AB|refine rX j ?_ ?_|refine rC ?_ ?_<;>intro a<;>try(cases a;done))
  .exact⟨a,λ_=>a⟩
  .exact eV
  .have g:k<d.length:=by exact eV
   refine⟨⟨(k+1,w,b),by simp only;omega,?_⟩,by simp only;omega,AC [(50,.nm 50)] rfl rfl ?_ ?_⟩
   .simp only;rw[q g];unfold JU;rw[BY];rw[QO,Px];exact a
   .exact eN
   exact eN
  .exact λ_=>by assumption
  .assumption
  .exact eV
  .rename_i f;have g:k<d.length:=by exact eV
   refine⟨⟨(k+1,true,(d.getD k d0).1),by simp only;omega,?_⟩,by simp only;omega,AC [(50,.nm 50)] rfl rfl ?_ ?_⟩
   .simp only;rw[q g];unfold JU;rw[An (by rw[f.1,f.2];simp),BY (by rw[QO,Px];exact a)]
   .exact eN
   exact eN
  .exact eV
  .rename_i f;have g:k<d.length:=by exact eV
   refine⟨⟨(k+1,true,b),by simp only;omega,?_⟩,by simp only;omega,AC [(50,.nm 50)] rfl rfl ?_ ?_⟩
   .simp only;rw[q g];unfold JU;rw[An (by rw[f.1,f.2];simp),An (by rw[QO,Px];rintro (h|h)<;>simp_all)]
   .exact eN
   exact eN
  .simp only[AQ];dsimp only[Ty.den]at *;omega
  .subst a;have l:d.take k=d:=As (by exact eV);rw[l]at c;have i:Ia d out=(true,b):=c;have m:=kC (d:=d) (out:=out) (by rw[i]);rw[i]at m;obtain⟨e,rfl⟩:∃e,n=e+1:=⟨n-1,by omega⟩;have o:JV d e (out++[b])=Bm d:=by
    rw[<-hp];show _=if (Ia d out).1=true then JV d e (out++[(Ia d out).2]) else out
    rw[i,BY rfl]
   have m:Ib d (out++[b])<Ib d out:=m;have A:Ib d (out++[b])<=e:=by omega
   exact⟨⟨(e,out++[b],true),by simp only[IF,Pz];omega,λ_=>⟨A,o⟩,λh=>by cases h⟩,by simp,eW [(50,.nm 50)]⟩
  subst a;have l:d.take k=d:=As (by exact eV);rw[l]at c;have i:Ia d out=(false,b):=c;have o:out=Bm d:=by
   rw[<-hp];cases n with
   | zero=>rfl
   | succ n =>
    show _=if (Ia d out).1=true then JV d n (out++[(Ia d out).2]) else out
    rw[i,An (by simp)]
  exact⟨⟨(n,out,false),s,(λh=>by cases h),λ_=>o⟩,by simp,eW [(50,.nm 50)]⟩
 subst a;have z:=v rfl;rw[z];refine Fe [50] ?_;exact fI j [.tmp 2]
end
section
attribute [local go_sem] eQ eX Vr eZ
def Ic (d:List AJ):Nat:=d.countP λx=>x.2.1.length==0
theorem kD (d:List AJ) {k:Nat} (h:k<d.length):Ic (d.take (k+1))=Ic (d.take k)+if ((d.getD k d0).2.1.length==0)=true then 1 else 0:=by
 unfold Ic;rw[Au d d0 h,AGa,AC2,List.countP_nil];omega
theorem A1q (d:List AJ):Ic d<=d.length:=List.countP_le_length
def A8 (d:List AJ):Int :=
 if Y1 d≠0 then Y1 d else if Cp d≠0 then Cp d else if LT d≠0 then LT d else if Ic d≠1 then 1 else if (Bm d).length<d.length then 6 else 0
theorem US {d:List AJ} (h:Y1 d=0):d.length<=256:=by
 unfold Y1 at h;split at h
 .cases h
 omega
def Vs:AZ:={ ins:=[FJ],pre:=λ_=>True,out:=λ(l,_)=>[.p MG (A8 l)] }
attribute [local go_sem] Vs
theorem A1r:Ab Tryz.prog 160 Vs:=by
 refine fK [0,2,3,4,5,6,7,11,16,21,26,35,39,45] Tryz.func160 Tryz.ntmps160 (AF A4l (AF A4n (AF A1n (AF A1p AH)))) ?_;rintro w0 O0 ⟨d,u⟩ c - -;simp only[Vs,AM];repeat'(first|exact trivial|apply eS rfl|refine rX c ?_ ?_|refine rC ?_ ?_<;>intro a<;>try(cases a;done))
 .have h1:A8 d=Y1 d:=by unfold A8;rw[BY a]
  exact fI c [.tmp 2] (by rw[h1];exact eR)
 .rename_i hs;have hs:Y1 d=0:=by simpa using hs
  have h1:A8 d=Cp d:=by unfold A8;rw[An (by rw[hs];simp),BY a]
  exact fI c [.tmp 2] (by rw[h1];exact eR)
 .rename_i hs hn;have hs:Y1 d=0:=by simpa using hs
  have hn:Cp d=0:=by simpa using hn
  have h1:A8 d=LT d:=by unfold A8;rw[An (by rw[hs];simp),An (by rw[hn];simp),BY a]
  exact fI c [.tmp 2] (by rw[h1];exact eR)
 rename_i hs hn;have hs:Y1 d=0:=by simpa using hs
 have hn:Cp d=0:=by simpa using hn
 have hu:LT d=0:=by simpa using a
 have i:=US hs;have h1:A8 d=if Ic d≠1 then 1 else if (Bm d).length<d.length then 6 else 0:=by
  unfold A8;rw[An (by rw[hs];simp),An (by rw[hn];simp),An (by rw[hu];simp)]
 refine AI (ι:={k:Nat//k<=d.length}) (λk=>⟨[(0,.p FJ d),(6,.p (.int .i64) (Ic (d.take k.1):Int)),(7,.p (.int .i64) (k.1:Int))],[]⟩) (λk=>d.length-k.1) ⟨0,IS _⟩ (AC [] rfl rfl ?_ ?_) (λk=>?_)
 .exact eN
 .refine eM ?_;rfl
 obtain⟨k,hk⟩:=k;have j:=A1q (d.take k);have l:=VS k d;have g:=λh:k<d.length=>kD d h;simp only;repeat'(first|exact trivial|apply eS rfl|apply AB|refine rX c ?_ ?_|refine rC ?_ ?_<;>intro a<;>try(cases a;done))
 .exact a
 .exact eV
 .exact eV
 .have b:k<d.length:=by exact eV
  have e:=g b;rw[BY (by rw[SJ];exact Int.ofNat_eq_zero.1 a)]at e;refine⟨⟨k+1,by omega⟩,by simp only;omega,AC [] rfl rfl ?_ ?_⟩
  .exact eN
  simp only[e];exact eN
 .exact eV
 .have b:k<d.length:=by exact eV
  have e:=g b;rw[An (by rw[SJ];exact λh=>a (Int.ofNat_eq_zero.2 h))]at e;refine⟨⟨k+1,by omega⟩,by simp only;omega,AC [] rfl rfl ?_ ?_⟩
  .exact eN
  simp only[e];exact eN
 .have b:d.take k=d:=As (by exact eV);rw[b]at a;rw[BY (λh=>a (by rw[h];rfl))]at h1;exact fI c [.tmp 2] (by rw[h1];exact eR)
 .show d.length<=100000;omega
 .rename_i f;have b:d.take k=d:=As (by exact eV);rw[b]at f;have f:(Ic d:Int)=1:=by simpa using f
  rw[An (by omega),BY (IN.1 a)]at h1;exact fI c [.tmp 2] (by rw[h1];exact eR)
 rename_i f;have b:d.take k=d:=As (by exact eV);rw[b]at f;have f:(Ic d:Int)=1:=by simpa using f
 rw[An (by omega),An (λh=>absurd (P6.1 a) (Nat.not_le.2 h))]at h1;exact fI c [.tmp 2] (by rw[h1];exact eR)
end
section
attribute [local go_sem] PT Jy eL
def KS (o:List ByteArray) (s:ByteArray):List ByteArray:=if Aa o s=true then o else o++[s]
def Ms (d:List AJ) (s:ByteArray):List ByteArray:=(d.getD (Ar d s).toNat d0).2.1
def Id (d:List AJ):Nat->Nat->List ByteArray->List ByteArray
 | 0,_,o=>o
 | n+1,i,o=>if i<o.length then Id d n (i+1) ((Ms d (o.getD i ByteArray.empty)).foldl KS o) else o
def KT (l:List ByteArray):List ByteArray:=l.foldl Ec []
theorem aE (l:List ByteArray):(KT l).length<=l.length:=by
 have key:∀(l o:List ByteArray),(l.foldl Ec o).length<=o.length+l.length:=by
  intro l;induction l with
  | nil=>intro o;simp
  | cons x l a =>
   intro o;have h1:=a (Ec o x);have b:=Mr o x;simp only[ON,Of];omega
 have:=key l [];simpa[KT] using this
def LU (d:List AJ) (s:ByteArray):List ByteArray:=if Ar d s<0 then [] else KT (Id d d.length 0 [s])
def RE (d:List AJ):Prop:=∀x∈d,∀s∈x.2.1,0<=Ar d s
theorem aF (s:ByteArray):∀(l:List AJ) (k:Nat),Cy s k l=-1\/((k:Int)<=Cy s k l/\Cy s k l<(k:Int)+l.length/\AY (l.getD ((Cy s k l).toNat-k) d0).1 s=true)
 | [],_=>.inl rfl
 | x :: l,k=>by
  simp only[Cy];split
  .rename_i h;right;refine⟨by omega,by simp only[Of];omega,?_⟩;have:((k:Int).toNat-k)=0:=by omega
   rw[this];exact h
  rcases aF s l (k+1) with h|⟨h1,b,a⟩
  .exact .inl h
  right;refine⟨by omega,by simp only[Of];omega,?_⟩;have:((Cy s (k+1) l).toNat-k)=((Cy s (k+1) l).toNat-(k+1))+1:=by omega
  rw[this];exact a
theorem DX (d:List AJ) (s:ByteArray):Ar d s<0\/(0<=Ar d s/\Ar d s<(d.length:Int)/\AY (d.getD (Ar d s).toNat d0).1 s=true):=by
 rcases aF s d 0 with h|⟨h1,a,b⟩
 .left;show Cy s 0 d<0;omega
 have a:Ar d s<((0:Nat):Int)+d.length:=a;exact .inr ⟨h1,by omega,b⟩
theorem H8 {a b:ByteArray}:AY a b=true↔a.toList=b.toList:=by unfold AY;simp
theorem EF {a b:ByteArray} (h:AY a b=true):AY b a=true:=H8.2 (H8.1 h).symm
theorem BZ {a b c:ByteArray} (h:AY a b=true) (g:AY b c=true):AY a c=true:=H8.2 ((H8.1 h).trans (H8.1 g))
structure e9 (d:List AJ) (o:List ByteArray):Prop where
 decl:∀s∈o,0<=Ar d s
 nd:o.Pairwise λa b=>AY a b=false
theorem LV (d:List AJ):∀ {o:List ByteArray},e9 d o->(o.map λs=>(Ar d s).toNat).Nodup
 | [],_=>by simp
 | s :: o,h=>by
  rw[QM,TO];have c:=SK.1 h.nd;refine⟨λi=>?_,LV d ⟨λx a=>h.decl x (by simp[a]),c.2⟩⟩;obtain⟨x,a,e⟩:=Do.1 i;have h1:=h.decl s (by simp);have j:=h.decl x (by simp[a]);rcases DX d s with g|⟨_,_,f⟩
  .omega
  rcases DX d x with g|⟨_,_,b⟩
  .omega
  rw[e]at b;have:=c.1 x a;rw[BZ (EF f) b]at this;cases this
theorem e9.len {d:List AJ} {o:List ByteArray} (h:e9 d o):o.length<=d.length:=by
 have:=EX d.length (o.map λs=>(Ar d s).toNat) (LV d h) (λj a=>by
  obtain⟨s,hs,rfl⟩:=Do.1 a;have h1:=h.decl s hs;rcases DX d s with g|⟨_,g,_⟩<;>omega)
 simpa using this
theorem RF {o:List ByteArray} {s:ByteArray} (h:Aa o s=false):∀x∈o,AY x s=false:=λx a=>by
 cases hh:AY x s with
 | false=>rfl
 | true=>exact absurd h (by rw[show Aa o s=true from QC.2 ⟨x,a,hh⟩];simp)
theorem zO {d:List AJ} {o:List ByteArray} (h:e9 d o) {s:ByteArray} (hs:0<=Ar d s):e9 d (KS o s):=by
 unfold KS;split
 .exact h
 rename_i e;have e:Aa o s=false:=by simpa using e
 refine⟨λx c=>?_,?_⟩
 .rcases OF.1 c with c|c
  .exact h.decl x c
  have:x=s:=by simpa using c
  rw[this];exact hs
 rw[AAm];refine⟨h.nd,by simp,λa ha b f=>?_⟩;have:b=s:=by simpa using f
 rw[this];exact RF e a ha
theorem kE {d:List AJ}:∀ {l o:List ByteArray},(∀s∈l,0<=Ar d s)->e9 d o->e9 d (l.foldl KS o)/\o.length<=(l.foldl KS o).length
 | [],o,_,h=>⟨h,Is _⟩
 | s :: l,o,a,h=>by
  obtain⟨b,c⟩:=kE (l:=l) (λx e=>a x (by simp[e])) (zO h (a s (by simp)));refine⟨b,QB ?_ c⟩;unfold KS;split<;>simp
theorem kF {d:List AJ} (b:RE d) (s:ByteArray):∀x∈Ms d s,0<=Ar d x:=by
 intro x a;unfold Ms at a;by_cases h:(Ar d s).toNat<d.length
 .exact b _ (AD d d0 h) x a
 rw[AS,QH (by omega)]at a;cases a
def pG:AZ:={ ins:=[FJ,T9],pre:=λ(d,_,_)=>RE d/\List.length d<=256,out:=λ(d,s,_)=>[.p GD (LU d s)] }
theorem A4o:Ab Tryz.prog 222 pG:=by
 refine fK [0,1,4,5,6,7,8,9,10,14,20,36,45,56] Tryz.func222 Tryz.ntmps222 (AF Mo (AF HP (AF Sx AH))) ?_;rintro w0 O0 ⟨d,s,u⟩ b ⟨⟨Q,G⟩,-⟩ ⟨O,z⟩;have z:d.length<=256:=z;simp only[pG,AM];repeat'(first|exact trivial|apply eS rfl|refine rX b ?_ ?_|refine rC ?_ ?_<;>intro a<;>try(cases a;done))
 .have h1:LU d s=[]:=by unfold LU;rw[BY a]
  exact fI b [.tmp 4] (by rw[h1];exact eR)
 have h1:LU d s=KT (Id d d.length 0 [s]):=by unfold LU;rw[An (ZF.2 a)]
 have F:e9 d [s]:=⟨λx y=>by
  have:x=s:=by simpa using y
  rw[this];exact a,by simp⟩
 refine AI (ι:={x:Nat×List ByteArray//x.1<=x.2.length/\e9 d x.2/\Id d (d.length-x.1) x.1 x.2=Id d d.length 0 [s]}) (λx=>⟨[(0,.p FJ d),(1,.p T9 s),(5,.sr 16 T9 0 x.1.2.length),(6,.p (.int .i64) (x.1.1:Int))],[(16,.arr 9 T9 x.1.2)]⟩) (λx=>d.length-x.1.1) ⟨(0,[s]),by simp,F,rfl⟩ (eW [(16,.nm 16)]) (λx=>?_)
 obtain⟨⟨i,o⟩,hi,c,t⟩:=x;simp only at hi c t;have U:=c.len;simp only;repeat'(first|exact trivial|apply eS rfl|refine rX b ?_ ?_|refine rC ?_ ?_<;>intro a<;>try(cases a;done))
 .have q:i<o.length:=by exact eV
  have A:=c.decl _ (AD o ByteArray.empty q);refine⟨a,A,?_⟩;rcases DX d (o.getD i ByteArray.empty) with g|⟨_,g,_⟩
  .omega
  exact g
 .have q:i<o.length:=by exact eV
  have A:=c.decl _ (AD o ByteArray.empty q);have K:=kF O (o.getD i ByteArray.empty);have C:Id d (d.length-(i+1)) (i+1) ((Ms d (o.getD i ByteArray.empty)).foldl KS o)=Id d d.length 0 [s]:=by
   rw[<-t];obtain⟨m,B⟩:∃m,d.length-i=m+1:=⟨d.length-i-1,by omega⟩;have H:d.length-(i+1)=m:=by omega
   rw[B,H];show _=if i<o.length then Id d m (i+1) ((Ms d (o.getD i ByteArray.empty)).foldl KS o) else o
   rw[BY q]
  have M:(Ms d (o.getD i ByteArray.empty)).length<=AQ:=by
   rcases DX d (o.getD i ByteArray.empty) with g|⟨_,g,_⟩
   .omega
   exact(G _ (AD d d0 (k:=(Ar d (o.getD i ByteArray.empty)).toNat) (by omega))).2.1.1
  have N:(List.getD d (Ar d (o.getD i ByteArray.empty)).toNat (ByteArray.empty,[],[])).2.1=Ms d (o.getD i ByteArray.empty):=rfl;rw[N];generalize Ms d (o.getD i ByteArray.empty)=sup at *;simp only[AQ]at M;refine AI (ι:={k:Nat//k<=sup.length}) (λk=>⟨[(0,.p FJ d),(1,.p T9 s),(5,.sr 16 T9 0 ((sup.take k.1).foldl KS o).length),(6,.p (.int .i64) (i:Int)),(7,.p GD sup),(8,.p (.int .i64) (k.1:Int))],[(16,.arr 9 T9 ((sup.take k.1).foldl KS o))]⟩) (λk=>sup.length-k.1) ⟨0,IS _⟩ (AC [(16,.nm 16)] rfl rfl ?_ ?_) (λk=>?_)
  .refine eM ?_;rfl
  .refine eM ?_;rfl
  obtain⟨k,hk⟩:=k;have w:=kE (l:=sup.take k) (o:=o) (λx y=>K x (VM y)) c;have S:=w.1.len;have E:=λh:k<sup.length=>FB KS sup ByteArray.empty o h;simp only;generalize D:(sup.take k).foldl KS o=n at *;repeat'(first|exact trivial|apply eS rfl|apply AB|refine rX b ?_ ?_|refine rC ?_ ?_<;>intro a<;>try(cases a;done))
  .exact a
  .refine⟨by exact eV,?_⟩;simp only[AQ];dsimp only[Ty.den]at *;omega
  .exact eV
  .have f:k<sup.length:=by exact eV
   have e:=E f;have r:KS n (sup.getD k ByteArray.empty)=n++[sup.getD k ByteArray.empty]:=by unfold KS;rw[An (by rw[a];simp)]
   rw[r]at e;refine⟨⟨k+1,by omega⟩,by simp only;omega,AC [(16,.nm 16)] rfl rfl ?_ ?_⟩
   .simp only[e];exact eN
   simp only[e];exact eN
  .exact eV
  .have f:k<sup.length:=by exact eV
   have e:=E f;have r:KS n (sup.getD k ByteArray.empty)=n:=by unfold KS;rw[BY a]
   rw[r]at e;refine⟨⟨k+1,by omega⟩,by simp only;omega,AC [(16,.nm 16)] rfl rfl ?_ ?_⟩
   .simp only[e];exact eN
   simp only[e];exact eN
  .exact eV
  have f:sup.take k=sup:=As (by exact eV);rw[f]at D;rw[D]at C;have J:=w.1;have T:=w.2;exact⟨⟨(i+1,n),by simp only;omega,J,C⟩,by simp only;omega,eW [(16,.nm 16)]⟩
 have I:o=Id d d.length 0 [s]:=by
  rw[<-t];cases B:d.length-i with
  | zero=>rfl
  | succ m =>
   show _=if i<o.length then _ else o
   rw[An (by exact eV)]
 rw[<-I]at h1;refine AI (ι:={j:Nat//j<=o.length}) (λj=>⟨[(0,.p FJ d),(5,.sr 16 T9 0 o.length),(9,.p GD ((o.take j.1).foldl Ec [])),(10,.p (.int .i64) (j.1:Int))],[(16,.arr 9 T9 o)]⟩) (λj=>o.length-j.1) ⟨0,IS _⟩ (AC [(16,.nm 16)] rfl rfl ?_ ?_) (λj=>?_)
 .exact eN
 .refine eM ?_;rfl
 obtain⟨j,R⟩:=j;have L:=λh:j<o.length=>FB Ec o ByteArray.empty [] h;simp only;repeat'(first|exact trivial|apply eS rfl|apply AB|refine rX b ?_ ?_|refine rC ?_ ?_<;>intro a<;>try(cases a;done))
 .refine⟨a,?_⟩;have:=aE (o.take j);have P:=VS j o;unfold KT at this;dsimp only[Ty.den]at *;omega
 .exact eV
 .have v:j<o.length:=by exact eV
  have e:=L v;refine⟨⟨j+1,by omega⟩,by simp only;omega,AC [(16,.nm 16)] rfl rfl ?_ ?_⟩
  .exact eN
  simp only[e];exact eN
 have v:o.take j=o:=As (by exact eV);rw[v];exact fI b [.tmp 4] (by rw[h1];unfold KT;exact eR)
end
section
attribute [local go_sem] PT Jy eL
def Ff (s:ByteArray) (o:List ByteArray) (x:AJ):List ByteArray:=if (Aa x.2.1 s&&!Aa o x.1)=true then o++[x.1] else o
def Cq (d:List AJ):Nat->Nat->List ByteArray->List ByteArray
 | 0,_,o=>o
 | n+1,i,o=>if i<o.length then Cq d n (i+1) (d.foldl (Ff (o.getD i ByteArray.empty)) o) else o
def Cr (d:List AJ) (s:ByteArray):List ByteArray:=if Ar d s<0 then [] else KT (Cq d d.length 0 [s])
theorem XQ (s:ByteArray):∀(l:List AJ) (k:Nat) (x:AJ),x∈l->AY x.1 s=true->0<=Cy s k l
 | y :: l,k,x,a,h=>by
  simp only[Cy];split
  .omega
  rename_i b;rcases DO.1 a with rfl|a
  .exact absurd h b
  exact XQ s l (k+1) x a h
theorem Dg {d:List AJ} {x:AJ} (a:x∈d):0<=Ar d x.1:=XQ x.1 d 0 x a (Cz _)
theorem A8w {d:List AJ} {o:List ByteArray} (h:e9 d o) (s:ByteArray) {x:AJ} (b:x∈d):e9 d (Ff s o x):=by
 unfold Ff;split
 .rename_i a;rw[AT,Px]at a;have:=zO h (Dg b);unfold KS at this
  rwa [An (by rw[a.2];simp)]at this
 exact h
theorem XR {d:List AJ} (s:ByteArray):∀ {l:List AJ} {o:List ByteArray},(∀x∈l,x∈d)->e9 d o->e9 d (l.foldl (Ff s) o)/\o.length<=(l.foldl (Ff s) o).length
 | [],o,_,h=>⟨h,Is _⟩
 | x :: l,o,a,h=>by
  obtain⟨b,c⟩:=XR s (l:=l) (λy e=>a y (by simp[e])) (A8w h s (a x (by simp)));refine⟨b,QB ?_ c⟩;unfold Ff;split<;>simp
theorem S1 (s:ByteArray) {i:Nat}:∀ {l:List AJ} {o:List ByteArray},i<o.length->(l.foldl (Ff s) o).getD i ByteArray.empty=o.getD i ByteArray.empty
 | [],_,_=>rfl
 | x :: l,o,h=>by
  have a:i<(Ff s o x).length/\(Ff s o x).getD i ByteArray.empty=o.getD i ByteArray.empty:=by
   unfold Ff;split
   .refine⟨by rw[IF];omega,?_⟩;simp only[AS];rw[QN h]
   exact⟨h,rfl⟩
  rw[ON,S1 s a.1,a.2]
def fA:AZ:={ ins:=[FJ,T9],pre:=λ(d,_,_)=>List.length d<=256,out:=λ(d,s,_)=>[.p GD (Cr d s)] }
attribute [local go_sem] fA
theorem A4p:Ab Tryz.prog 200 fA:=by
 refine fK [0,1,4,5,6,7,8,9,13,19,25,47,59] Tryz.func200 Tryz.ntmps200 (AF Mo (AF HP (AF Sx AH))) ?_;rintro w0 O0 ⟨d,s,u⟩ b-y;have y:d.length<=256:=y;simp only[fA,AM];repeat'(first|exact trivial|apply eS rfl|refine rX b ?_ ?_|refine rC ?_ ?_<;>intro a<;>try(cases a;done))
 .have h1:Cr d s=[]:=by unfold Cr;rw[BY a]
  exact fI b [.tmp 4] (by rw[h1];exact eR)
 have h1:Cr d s=KT (Cq d d.length 0 [s]):=by unfold Cr;rw[An (ZF.2 a)]
 have F:e9 d [s]:=⟨λx v=>by
  have:x=s:=by simpa using v
  rw[this];exact a,by simp⟩
 refine AI (ι:={x:Nat×List ByteArray//x.1<=x.2.length/\e9 d x.2/\Cq d (d.length-x.1) x.1 x.2=Cq d d.length 0 [s]}) (λx=>⟨[(0,.p FJ d),(5,.sr 15 T9 0 x.1.2.length),(6,.p (.int .i64) (x.1.1:Int))],[(15,.arr 9 T9 x.1.2)]⟩) (λx=>d.length-x.1.1) ⟨(0,[s]),by simp,F,rfl⟩ (eW [(15,.nm 15)]) (λx=>?_)
 obtain⟨⟨i,o⟩,hi,q,r⟩:=x;simp only at hi q r;have P:=q.len;simp only;repeat'(first|exact trivial|apply eS rfl|refine rX b ?_ ?_|refine rC ?_ ?_<;>intro a<;>try(cases a;done))
 .have z:i<o.length:=by exact eV
  have B:Cq d (d.length-(i+1)) (i+1) (d.foldl (Ff (o.getD i ByteArray.empty)) o)=Cq d d.length 0 [s]:=by
   rw[<-r];obtain⟨m,A⟩:∃m,d.length-i=m+1:=⟨d.length-i-1,by omega⟩;have G:d.length-(i+1)=m:=by omega
   rw[A,G];show _=if i<o.length then Cq d m (i+1) (d.foldl (Ff (o.getD i ByteArray.empty)) o) else o
   rw[BY z]
  refine AI (ι:={k:Nat//k<=d.length}) (λk=>⟨[(0,.p FJ d),(5,.sr 15 T9 0 ((d.take k.1).foldl (Ff (o.getD i ByteArray.empty)) o).length),(6,.p (.int .i64) (i:Int)),(7,.p (.int .i64) (k.1:Int))],[(15,.arr 9 T9 ((d.take k.1).foldl (Ff (o.getD i ByteArray.empty)) o))]⟩) (λk=>d.length-k.1) ⟨0,IS _⟩ (AC [(15,.nm 15)] rfl rfl ?_ ?_) (λk=>?_)
  .refine eM ?_;rfl
  .refine eM ?_;rfl
  obtain⟨k,hk⟩:=k;have g:=XR (o.getD i ByteArray.empty) (l:=d.take k) (o:=o) (λx v=>VM v) q;have N:=g.1.len;have E:=λh:k<d.length=>FB (Ff (o.getD i ByteArray.empty)) d d0 o h;have D:((d.take k).foldl (Ff (o.getD i ByteArray.empty)) o).getD i ByteArray.empty=o.getD i ByteArray.empty:=S1 _ z;simp only;generalize C:(d.take k).foldl (Ff (o.getD i ByteArray.empty)) o=f at *;repeat'(first|exact trivial|apply eS rfl|apply AB|refine rX b ?_ ?_|refine rC ?_ ?_<;>intro a<;>try(cases a;done))
  .have M:=g.2;refine⟨a,?_,λ_=>a⟩;dsimp only[Ty.den]at *;omega
  .refine⟨by assumption,?_⟩;simp only[AQ];dsimp only[Ty.den]at *;omega
  .exact eV
  .have c:k<d.length:=by exact eV
   have e:=E c;rw[D]at a;have n:Ff (o.getD i ByteArray.empty) f (d.getD k d0)=f++[(d.getD k d0).1]:=by
    unfold Ff;rw[BY (by rw[AT,Px];exact a)]
   rw[n]at e;refine⟨⟨k+1,by omega⟩,by simp only;omega,AC [(15,.nm 15)] rfl rfl ?_ ?_⟩
   .simp only[e];exact eN
   simp only[e];exact eN
  .exact eV
  .have c:k<d.length:=by exact eV
   have e:=E c;rw[D]at a;have n:Ff (o.getD i ByteArray.empty) f (d.getD k d0)=f:=by
    unfold Ff;rw[An];rw[AT,Px];rintro⟨h1,w⟩;rw[a h1]at w;cases w
   rw[n]at e;refine⟨⟨k+1,by omega⟩,by simp only;omega,AC [(15,.nm 15)] rfl rfl ?_ ?_⟩
   .simp only[e];exact eN
   simp only[e];exact eN
  .exact eV
  have c:d.take k=d:=As (by exact eV);rw[c]at C;rw[C]at B;have I:=g.1;have O:=g.2;exact⟨⟨(i+1,f),by simp only;omega,I,B⟩,by simp only;omega,eW [(15,.nm 15)]⟩
 have H:o=Cq d d.length 0 [s]:=by
  rw[<-r];cases A:d.length-i with
  | zero=>rfl
  | succ m =>
   show _=if i<o.length then _ else o
   rw[An (by exact eV)]
 rw[<-H]at h1;refine AI (ι:={j:Nat//j<=o.length}) (λj=>⟨[(0,.p FJ d),(5,.sr 15 T9 0 o.length),(8,.p GD ((o.take j.1).foldl Ec [])),(9,.p (.int .i64) (j.1:Int))],[(15,.arr 9 T9 o)]⟩) (λj=>o.length-j.1) ⟨0,IS _⟩ (AC [(15,.nm 15)] rfl rfl ?_ ?_) (λj=>?_)
 .exact eN
 .refine eM ?_;rfl
 obtain⟨j,L⟩:=j;have J:=λh:j<o.length=>FB Ec o ByteArray.empty [] h;simp only;repeat'(first|exact trivial|apply eS rfl|apply AB|refine rX b ?_ ?_|refine rC ?_ ?_<;>intro a<;>try(cases a;done))
 .refine⟨a,?_⟩;have:=aE (o.take j);have K:=VS j o;unfold KT at this;dsimp only[Ty.den]at *;omega
 .exact eV
 .have t:j<o.length:=by exact eV
  have e:=J t;refine⟨⟨j+1,by omega⟩,by simp only;omega,AC [(15,.nm 15)] rfl rfl ?_ ?_⟩
  .exact eN
  simp only[e];exact eN
 have t:o.take j=o:=As (by exact eV);rw[t];exact fI b [.tmp 4] (by rw[h1];unfold KT;exact eR)
end
section
attribute [local go_sem] PT eL pG Jy
def Fg (d:List AJ) (o:List ByteArray) (x:ByteArray):List ByteArray:=if 0<=Ar d x then Ec o x else o
def Be (d:List AJ) (l:List ByteArray):List ByteArray:=l.foldl (Fg d) []
theorem J0 (d:List AJ) (l:List ByteArray):(Be d l).length<=l.length:=by
 have key:∀(l o:List ByteArray),(l.foldl (Fg d) o).length<=o.length+l.length:=by
  intro l;induction l with
  | nil=>intro o;simp
  | cons x l a =>
   intro o;have h1:=a (Fg d o x);have b:(Fg d o x).length<=o.length+1:=by
    unfold Fg;split
    .exact Mr o x
    omega
   simp only[ON,Of];omega
 have:=key l [];simpa[Be] using this
def S2:AZ:={ ins:=[FJ,GD],pre:=λ(_,l,_)=>List.length l<=100000,out:=λ(d,l,_)=>[.p GD (Be d l)] }
attribute [local go_sem] S2
theorem kG:Ab Tryz.prog 221 S2:=by
 refine fK [0,1,4,5,6,10,19] Tryz.func221 Tryz.ntmps221 (AF Mo (AF Sx AH)) ?_;rintro w0 O0 ⟨d,l,u⟩ c-f;have f:l.length<=100000:=f;simp only[S2,AM];repeat'(first|exact trivial|apply eS rfl|refine rX c ?_ ?_)
 refine AI (ι:={k:Nat//k<=l.length}) (λk=>⟨[(0,.p FJ d),(1,.p GD l),(5,.p GD (Be d (l.take k.1))),(6,.p (.int .i64) (k.1:Int))],[]⟩) (λk=>l.length-k.1) ⟨0,IS _⟩ (AC [] rfl rfl ?_ ?_) (λk=>?_)
 .exact eN
 .refine eM ?_;rfl
 obtain⟨k,hk⟩:=k;have hn:=J0 d (l.take k);have g:=VS k l;have hs:=λh:k<l.length=>FB (Fg d) l ByteArray.empty [] h;simp only;repeat'(first|exact trivial|apply eS rfl|apply AB|refine rX c ?_ ?_|refine rC ?_ ?_<;>intro b<;>try(cases b;done))
 .exact b
 .exact⟨by assumption,by omega⟩
 .exact eV
 .have a:k<l.length:=by exact eV
  have e:Be d (l.take (k+1))=Fg d (Be d (l.take k)) (l.getD k ByteArray.empty):=hs a;unfold Fg at e;rw[BY b]at e;refine⟨⟨k+1,by omega⟩,by simp only;omega,AC [] rfl rfl ?_ ?_⟩
  .exact eN
  simp only[e];exact eN
 .exact eV
 .have a:k<l.length:=by exact eV
  have e:Be d (l.take (k+1))=Fg d (Be d (l.take k)) (l.getD k ByteArray.empty):=hs a;unfold Fg at e;rw[An (VT.2 b)]at e;refine⟨⟨k+1,by omega⟩,by simp only;omega,AC [] rfl rfl ?_ ?_⟩
  .exact eN
  simp only[e];exact eN
 have a:l.take k=l:=As (by exact eV);rw[a];exact fI c [.tmp 4]
def zP (d:List AJ) (all:List ByteArray) (i:Nat) (k:Nat):Bool:=(k:Int)==(i:Int)||!Aa (LU d (all.getD i ByteArray.empty)) (all.getD k ByteArray.empty)
def RG (d:List AJ) (all:List ByteArray) (i n:Nat):Bool:=(List.range n).all (zP d all i)
def RH (d:List AJ) (all:List ByteArray) (n:Nat):List ByteArray:=((List.range n).filter λi=>RG d all i all.length).map λi=>all.getD i ByteArray.empty
def A6 (d:List AJ) (l:List ByteArray):List ByteArray:=RH d (Be d l) (Be d l).length
theorem A1s (d:List AJ) (all:List ByteArray) (n:Nat):RH d all (n+1)=RH d all n++if RG d all n all.length=true then [all.getD n ByteArray.empty] else []:=by
 unfold RH;rw[SQ,AEE,VO]
 congr 1
 rw[VL,AFl];split<;>rfl
theorem kH (d:List AJ) (all:List ByteArray) (n:Nat):(RH d all n).length<=n:=by
 unfold RH;rw[Py];exact QB (VI _ _) (by simp)
theorem pH (d:List AJ) (all:List ByteArray) (i n:Nat):RG d all i (n+1)=(RG d all i n&&zP d all i n):=by
 unfold RG;rw[SQ,AFa];simp
def Mt:AZ:={ ins:=[FJ,GD],pre:=λ(d,l,_)=>RE d/\List.length d<=256/\List.length l<=100000,out:=λ(d,l,_)=>[.p GD (A6 d l)] }
attribute [local go_sem] Mt
theorem XS:Ab Tryz.prog 206 Mt:=by
 refine fK [0,1,4,5,6,7,8,9,10,17,29,47] Tryz.func206 Tryz.ntmps206 (AF kG (AF A4o (AF HP AH))) ?_;rintro w0 O0 ⟨d,l,u⟩ c-⟨n,f,g⟩;have f:d.length<=256:=f;have g:l.length<=100000:=g;have m:A6 d l=RH d (Be d l) (Be d l).length:=rfl;have o:=J0 d l;simp only[Mt,AM];repeat'(first|exact trivial|apply eS rfl|refine rX c ?_ ?_)
 .exact g
 rw[m];generalize Be d l=all at *;refine AI (ι:={i:Nat//i<=all.length}) (λi=>⟨[(0,.p FJ d),(5,.sr 54 T9 0 (RH d all i.1).length),(6,.p GD all),(7,.p (.int .i64) (i.1:Int))],[(54,.arr 9 T9 (RH d all i.1))]⟩) (λi=>all.length-i.1) ⟨0,IS _⟩ (AC [(54,.nil)] rfl rfl ?_ ?_) (λi=>?_)
 .refine eM ?_;rfl
 .refine eM ?_;rfl
 obtain⟨i,hi⟩:=i;have q:=kH d all i;have b:=A1s d all i;simp only;repeat'(first|exact trivial|apply eS rfl|refine rX c ?_ ?_|refine rC ?_ ?_<;>intro a<;>try(cases a;done))
 .exact⟨a,n,f⟩
 .have h:i<all.length:=by exact eV
  refine AI (ι:={k:Nat//k<=all.length}) (λk=>⟨[(0,.p FJ d),(5,.sr 54 T9 0 (RH d all i).length),(6,.p GD all),(7,.p (.int .i64) (i:Int)),(8,.p GD (LU d (all.getD i ByteArray.empty))),(9,.p .bool (RG d all i k.1)),(10,.p (.int .i64) (k.1:Int))],[(54,.arr 9 T9 (RH d all i))]⟩) (λk=>all.length-k.1) ⟨0,IS _⟩ (AC [(54,.nm 54)] rfl rfl ?_ ?_) (λk=>?_)
  .exact eN
  .refine eM ?_;rfl
  obtain⟨k,hk⟩:=k;have j:=pH d all i k;simp only;repeat'(first|exact trivial|apply eS rfl|apply AB|refine rX c ?_ ?_|refine rC ?_ ?_<;>intro a<;>try(cases a;done))
  .exact λ_=>a
  .exact eV
  .have e:k<all.length:=by exact eV
   refine⟨⟨k+1,by omega⟩,by simp only;omega,AC [(54,.nm 54)] rfl rfl ?_ ?_⟩
   .exact eN
   simp only[j];unfold zP;exact eN
  .refine⟨by assumption,?_⟩;simp only[AQ];omega
  .exact eV
  .have e:k=all.length:=by exact eV
   subst e;rw[a,BY rfl]at b;refine⟨⟨i+1,by omega⟩,by simp only;omega,AC [(54,.nm 54)] rfl rfl ?_ ?_⟩
   .simp only[b];exact eN
   simp only[b];exact eN
  .exact eV
  have e:k=all.length:=by exact eV
  subst e;rw[a,An (by simp),QQ]at b;refine⟨⟨i+1,by omega⟩,by simp only;omega,AC [(54,.nm 54)] rfl rfl ?_ ?_⟩
  .simp only[b];exact eN
  simp only[b];exact eN
 have h:i=all.length:=by exact eV
 subst h;refine Fe [54] ?_;exact fI c [.tmp 4]
end
section
attribute [local go_sem] LR
def ofA (b:List Int) (x:Int):List Int:=b.set (x.tdiv 64).toNat (CE .or .u64 (b.getD (x.tdiv 64).toNat 0) (Ut .u64 1 (x.tmod 64)))
def ofL (l:List Int):List Int:=l.foldl ofA (List.replicate 64 0)
def okB (x:Int):Bool:=!(decide (x<0)||decide (4095<x))
def ofF (l:List Int):List Int×Int:=if l.all okB=true then (BN (ofL l),0) else ([],2)
theorem RI (l:List Int):(ofL l).length=64:=by
 have key:∀(l b:List Int),(l.foldl ofA b).length=b.length:=by
  intro l;induction l with
  | nil=>intro b;rfl
  | cons x l a =>
   intro b;rw[ON,a];simp[ofA]
 unfold ofL;rw[key];simp
def ofS:AZ:={ ins:=[F2],pre:=λ_=>True,out:=λ(l,_)=>[.p BT (ofF l).1,.p MG (ofF l).2] }
theorem AED:Ab Tryz.prog 202 ofS:=by
 refine fK [0,2,3,4,5,10,24] Tryz.func202 Tryz.ntmps202 (AF Nr AH) ?_;rintro w0 O0 ⟨l,u⟩ c ⟨⟨g,-⟩,-⟩ -;simp only[AQ]at g;simp only[ofS,AM];repeat'(first|exact trivial|apply eS rfl|refine rX c ?_ ?_)
 .simp only[AQ];omega
 refine AI (ι:={k:Nat//k<=l.length/\(l.take k).all okB=true}) (λk=>⟨[(0,.p F2 l),(4,.sr 6 Q9 0 (ofL (l.take k.1)).length),(5,.p (.int .i64) (k.1:Int))],[(6,.arr 186 Q9 (ofL (l.take k.1)))]⟩) (λk=>l.length-k.1) ⟨0,IS _,rfl⟩ (AC [(6,.nm 6)] rfl rfl ?_ ?_) (λk=>?_)
 .refine eM ?_;rfl
 .refine eM ?_;rfl
 obtain⟨k,hk,hf⟩:=k;have i:=RI (l.take k);have hs:∀h:k<l.length,ofL (l.take (k+1))=ofA (ofL (l.take k)) (l.getD k 0):=λh=>FB ofA l 0 _ h;simp only;repeat'(first|exact trivial|apply eS rfl|apply AB|refine rX c ?_ ?_|refine rC ?_ ?_<;>intro a<;>try(cases a;done))
 .exact⟨a,λ_=>a⟩
 .have b:k<l.length:=by exact eV
  have h1:ofF l=([],2):=by
   unfold ofF;rw[An];intro h;have:=If.1 h _ (AD l 0 b);unfold okB at this;rw[Px,VP,On,On]at this;rcases a with h|h
   .exact this.1 h
   exact this.2 h
  exact fI c [.tmp 2,.tmp 3] (by rw[h1];exact eR)
 .obtain⟨h0,h1⟩:=a;have d:Int.tdiv (l.getD k 0) 64=l.getD k 0 / 64:=VU h0;have f:Int.tmod (l.getD k 0) 64=l.getD k 0 % 64:=ABQ h0;rw[d,f,i];refine⟨?_,⟨by decide,?_,?_⟩,?_,⟨by decide,?_,?_⟩,⟨?_,?_⟩,?_,⟨by decide,?_,?_⟩,⟨?_,?_⟩,?_,?_,?_⟩<;>exact eV
 .exact eV
 .have b:k<l.length:=by exact eV
  have e:=hs b;refine⟨⟨k+1,by omega,?_⟩,by simp only;omega,AC [(6,.nm 6)] rfl rfl ?_ ?_⟩
  .rw[Gv l 0 _ b,hf,AFX];unfold okB;rw[Px,VP,On,On];exact⟨ZF.2 a.1,ZF.2 a.2⟩
  .simp only[e];refine eM ?_;rfl
  simp only[e];refine eM ?_;rw[<-e,RI,RI]
 have b:l.take k=l:=As (by exact eV);rw[b]at hf ⊢;have h1:ofF l=(BN (ofL l),0):=by unfold ofF;rw[BY hf]
 have j:=RI l;refine Fe [6] ?_;repeat'(first|apply eS rfl|refine rX c ?_ ?_)
 .rw[j];decide
 exact fI c [.tmp 2,.tmp 3] (by rw[h1];exact eR)
end
section
attribute [local go_sem] XP RC
def pI (l:List (List Int)) (b:List Int):Bool:=l.any λx=>Hn x b
def AAU:AZ:={ ins:=[U0,BT],pre:=λ_=>True,out:=λ(l,b,_)=>[.p .bool (pI l b)],lend:=true }
theorem AAV:Ab Tryz.prog 203 AAU:=by
 refine fK [0,1,4,5,9,17] Tryz.func203 Tryz.ntmps203 (AF zN AH) ?_;rintro w0 O0 ⟨l,n,u⟩ a ⟨⟨e,-⟩,-⟩ -;simp only[AQ]at e;simp only[AAU,AM];repeat'(first|exact trivial|apply eS rfl|refine rX a ?_ ?_)
 refine AI (ι:={k:Nat//k<=l.length/\(l.take k).any (λx=>Hn x n)=false}) (λk=>⟨[(0,.p U0 l),(1,.p BT n),(5,.p (.int .i64) (k.1:Int))],[]⟩) (λk=>l.length-k.1) ⟨0,by simp⟩ (eW []) (λk=>?_)
 obtain⟨k,hk,c⟩:=k;repeat'(first|exact trivial|apply eS rfl|apply AB|refine rX a ?_ ?_|refine rC ?_ ?_<;>intro b<;>try(cases b;done))
 .exact eV
 .have d:k<l.length:=by exact eV
  have h1:pI l n=true:=JT l [] _ d b;exact fI a [.tmp 4] (by rw[h1];exact eR)
 .exact eV
 .have d:k<l.length:=by exact eV
  refine⟨⟨k+1,by exact eV,?_⟩,by simp only;exact eV,AC [] rfl rfl ?_ ?_⟩
  .rw[Nq l [] _ d,c];exact b
  .exact eN
  exact eN
 have hk:l.take k=l:=As (by exact eV);rw[hk]at c;have h1:pI l n=false:=c;exact fI a [.tmp 4] (by rw[h1];exact eR)
abbrev AU:=ByteArray×List Int
abbrev c0:AU:=(ByteArray.empty,[])
def Ly (l:List AU) (i j:Int):Bool:=FA (l.getD j.toNat c0).2 (l.getD i.toNat c0).2
def zQ:AZ:={ ins:=[KR,T3,T3],pre:=λ(l,i,j,_)=>((0:Int)<=i/\i<(List.length l:Int))/\((0:Int)<=j/\j<(List.length l:Int))/\(∀x∈(l:List AU),x.2.length<=100000),out:=λ(l,i,j,_)=>[.p .bool (Ly l i j)],lend:=true }
theorem zR:Ab Tryz.prog 166 zQ:=by
 refine fK [0,1,2,6] Tryz.func166 Tryz.ntmps166 (AF Sz AH) ?_;rintro w0 O0 ⟨l,i,j,u⟩ a-⟨hi,b,c⟩;simp only[zQ,AM];repeat'(first|exact trivial|apply eS rfl|refine rX a ?_ ?_)
 .exact⟨b,hi,c _ (AD (l:List AU) c0 (by exact eV))⟩
 exact fI a [.tmp 6] (by unfold Ly;exact eR)
end
section
attribute [local go_sem] XP
def Mu (s:ByteArray):Nat->List AU->Int
 | _,[]=>-1
 | k,x :: l=>if AY x.1 s=true then (k:Int) else Mu s (k+1) l
def BO (l:List AU) (s:ByteArray):Int:=Mu s 0 l
theorem aG (s:ByteArray) (l:List AU) {k:Nat} (h:k<l.length):Mu s k (l.drop k)=if AY (l.getD k c0).1 s=true then (k:Int) else Mu s (k+1) (l.drop (k+1)):=by
 rw[OR h];have e:l.getD k c0=l[k]:=by simp[AS,h]
 rw[e];rfl
def Vt:AZ:={ ins:=[KR,T9],pre:=λ_=>True,out:=λ(l,s,_)=>[.p T3 (BO l s)],lend:=true }
theorem aH:Ab Tryz.prog 168 Vt:=by
 refine fK [0,1,4,5,9,18] Tryz.func168 Tryz.ntmps168 AH ?_;rintro w0 O0 ⟨l,s,u⟩ c ⟨⟨d,-⟩,-⟩ -;simp only[AQ]at d;simp only[Vt,AM];repeat'(first|exact trivial|apply eS rfl|refine rX c ?_ ?_)
 refine AI (ι:={k:Nat//k<=l.length/\Mu s k (l.drop k)=BO l s}) (λk=>⟨[(0,.p KR l),(1,.p T9 s),(5,.p (.int .i64) (k.1:Int))],[]⟩) (λk=>l.length-k.1) ⟨0,IS _,rfl⟩ (eW []) (λk=>?_)
 obtain⟨k,hk,hf⟩:=k;simp only;repeat'(first|exact trivial|apply eS rfl|apply AB|refine rX c ?_ ?_|refine rC ?_ ?_<;>intro b<;>try(cases b;done))
 .exact b
 .have a:k<l.length:=by exact eV
  rw[aG s l a,BY b]at hf;exact fI c [.tmp 4] (by rw[<-hf];exact eR)
 .exact eV
 .have a:k<l.length:=by exact eV
  rw[aG s l a,An (by rw[b];simp)]at hf;exact⟨⟨k+1,by omega,hf⟩,by simp only;omega,eW []⟩
 have a:l.drop k=[]:=B0 (by exact eV);rw[a]at hf;exact fI c [.tmp 4] (by rw[<-hf];first|exact eR|refine UO ?_;rfl)
end
section
attribute [local go_sem] XP LR
def RJ (s:List Int):Nat->List AU->Int
 | _,[]=>-1
 | k,x :: l=>if Hn x.2 s=true then (k:Int) else RJ s (k+1) l
def Hg (l:List AU) (b:List Int):Int:=RJ (BN b) 0 l
theorem XT (s:List Int) (l:List AU) {k:Nat} (h:k<l.length):RJ s k (l.drop k)=if Hn (l.getD k c0).2 s=true then (k:Int) else RJ s (k+1) (l.drop (k+1)):=by
 rw[OR h];have e:l.getD k c0=l[k]:=by simp[AS,h]
 rw[e];rfl
def pJ:AZ:={ ins:=[KR,BT],pre:=λ(_,b,_)=>List.length b<=100000,out:=λ(l,b,_)=>[.p T3 (Hg l b)],lend:=true }
theorem A4q:Ab Tryz.prog 159 pJ:=by
 refine fK [0,1,4,5,6,12,21] Tryz.func159 Tryz.ntmps159 (AF Nr (AF zN AH)) ?_;rintro w0 O0 ⟨l,b,u⟩ d ⟨⟨g,-⟩,-⟩ e;simp only[AQ]at g;simp only[pJ,AM];repeat'(first|exact trivial|apply eS rfl|refine rX d ?_ ?_)
 .exact e
 have f:Hg l b=RJ (BN b) 0 l:=rfl;rw[f];generalize BN b=s at *;refine AI (ι:={k:Nat//k<=l.length/\RJ s k (l.drop k)=RJ s 0 l}) (λk=>⟨[(0,.p KR l),(5,.p BT s),(6,.p (.int .i64) (k.1:Int))],[]⟩) (λk=>l.length-k.1) ⟨0,IS _,rfl⟩ (eW []) (λk=>?_)
 obtain⟨k,hk,hf⟩:=k;simp only;repeat'(first|exact trivial|apply eS rfl|apply AB|refine rX d ?_ ?_|refine rC ?_ ?_<;>intro c<;>try(cases c;done))
 .exact c
 .have a:k<l.length:=by exact eV
  rw[XT s l a,BY c]at hf;exact fI d [.tmp 4] (by rw[<-hf];exact eR)
 .exact eV
 .have a:k<l.length:=by exact eV
  rw[XT s l a,An (by rw[c];simp)]at hf;exact⟨⟨k+1,by omega,hf⟩,by simp only;omega,eW []⟩
 have a:l.drop k=[]:=B0 (by exact eV);rw[a]at hf;exact fI d [.tmp 4] (by rw[<-hf];first|exact eR|refine UO ?_;rfl)
end
section
attribute [local go_sem] XP
def kI (s:ByteArray):List (ByteArray×ByteArray)->ByteArray×Bool
 | []=>(ByteArray.empty,false)
 | x :: l=>if AY x.1 s=true then (x.2,true) else kI s l
def DN (x:AJ) (s:ByteArray):ByteArray×Bool:=kI s x.2.2
theorem aI (s:ByteArray) (l:List (ByteArray×ByteArray)) {k:Nat} (h:k<l.length):kI s (l.drop k)=if AY (l.getD k (ByteArray.empty,ByteArray.empty)).1 s=true then ((l.getD k (ByteArray.empty,ByteArray.empty)).2,true) else kI s (l.drop (k+1)):=by
 rw[OR h];have e:l.getD k (ByteArray.empty,ByteArray.empty)=l[k]:=by simp[AS,h]
 rw[e];rfl
def fB:AZ:={ ins:=[A1f,T9],pre:=λ_=>True,out:=λ(x,s,_)=>[.p T9 (DN x s).1,.p .bool (DN x s).2],lend:=true }
theorem kJ:Ab Tryz.prog 195 fB:=by
 refine fK [0,1,2,4,5,6,11,21] Tryz.func195 Tryz.ntmps195 AH ?_;rintro w0 O0 ⟨⟨nm,sup,a⟩,s,u⟩ d ⟨⟨-,-,f,-⟩,-⟩ -;simp only[AQ]at f;simp only[fB,AM];repeat'(first|exact trivial|apply eS rfl|refine rX d ?_ ?_)
 have e:({ data:=#[] }:ByteArray).size<=AQ:=by decide
 rw[BY e];refine AI (ι:={k:Nat//k<=a.length/\kI s (a.drop k)=DN (nm,sup,a) s}) (λk=>⟨[(1,.p T9 s),(2,.bp 2 [] 0),(6,.p (.int .i64) (k.1:Int))],[(2,.box 158 true [.p T9 nm,.p GD sup,.p jX a])]⟩) (λk=>a.length-k.1) ⟨0,IS _,rfl⟩ (eW [(2,.nm 2)]) (λk=>?_)
 obtain⟨k,hk,hf⟩:=k;simp only;repeat'(first|exact trivial|apply eS rfl|apply AB|refine rX d ?_ ?_|refine rC ?_ ?_<;>intro c<;>try(cases c;done))
 .exact c
 .assumption
 .have b:k<a.length:=by exact eV
  rw[aI s a b,BY c]at hf;exact fI d [.tmp 4,.tmp 5] (by rw[<-hf];exact eR)
 .exact eV
 .have b:k<a.length:=by exact eV
  rw[aI s a b,An (by rw[c];simp)]at hf;exact⟨⟨k+1,by omega,hf⟩,by simp only;omega,eW [(2,.nm 2)]⟩
 have b:a.drop k=[]:=B0 (by exact eV);rw[b]at hf;rw[BY e];exact fI d [.tmp 4,.tmp 5] (by rw[<-hf];first|exact eR|refine UO ?_;exact⟨rfl,rfl⟩)
end
section
attribute [local go_sem] pF
def GP (a b:AU):Bool:=decide (((IZ b.2).length:Int)<((IZ a.2).length:Int))||((IZ a.2).length:Int)==((IZ b.2).length:Int)&&Hk a.1 b.1
def fC:AZ:={ ins:=[eK,eK],pre:=λ(a,b,_)=>List.length (a:AU).2<=100000/\List.length (b:AU).2<=100000,out:=λ(a,b,_)=>[.p .bool (GP a b)],lend:=true }
theorem A1u:Ab Tryz.prog 165 fC:=by
 refine fK [0,1,2,3,4,5,6] Tryz.func165 Tryz.ntmps165 (AF A4k AH) ?_;rintro w0 O0 ⟨⟨c,ac⟩,⟨e,d⟩,u⟩ a-⟨ha,b⟩;simp only[fC,AM];repeat'(first|exact trivial|apply eS rfl|refine rX a ?_ ?_)
 .exact ha
 .exact b
 exact fI a [.tmp 4] (by unfold GP;exact eR)
end
section
attribute [local go_sem] fA Jy ofS
def PX (low all:List ByteArray) (n:Nat):List Int:=((List.range n).filter λ(i:Nat)=>Aa low (all.getD i ByteArray.empty)).map λ(i:Nat)=>(i:Int)
theorem A1v (low all:List ByteArray) (n:Nat):PX low all (n+1)=PX low all n++if Aa low (all.getD n ByteArray.empty)=true then [(n:Int)] else []:=by
 unfold PX;rw[SQ,AEE,VO]
 congr 1
 rw[VL,AFl];split<;>rfl
theorem A4r (low all:List ByteArray) (n:Nat):(PX low all n).length<=n:=by
 unfold PX;rw[Py];exact QB (VI _ _) (by simp)
def E0 (d:List AJ) (all:List ByteArray) (s:ByteArray):List Int:=(ofF (PX (Cr d s) all all.length)).1
def A4s:AZ:={ ins:=[FJ,GD,T9],pre:=λ(d,l,_,_)=>List.length d<=256/\List.length l<=100000,out:=λ(d,l,s,_)=>[.p BT (E0 d l s)] }
theorem A8y:Ab Tryz.prog 162 A4s:=by
 refine fK [0,1,2,6,7,8,9,10,18,26] Tryz.func162 Tryz.ntmps162 (AF A4p (AF HP (AF AED AH))) ?_;rintro w0 O0 ⟨d,l,s,u⟩ b-⟨g,e⟩;have e:l.length<=100000:=e;have f:E0 d l s=(ofF (PX (Cr d s) l l.length)).1:=rfl;simp only[A4s,AM];repeat'(first|exact trivial|apply eS rfl|refine rX b ?_ ?_)
 .exact g
 rw[f];generalize Cr d s=low at *;refine AI (ι:={n:Nat//n<=l.length}) (λn=>⟨[(0,.p FJ d),(1,.p GD l),(2,.p T9 s),(7,.p GD low),(8,.sr 30 T3 0 (PX low l n.1).length),(9,.p (.int .i64) (n.1:Int))],[(30,.arr 3 T3 (PX low l n.1))]⟩) (λn=>l.length-n.1) ⟨0,IS _⟩ (AC [(30,.nil)] rfl rfl ?_ ?_) (λn=>?_)
 .refine eM ?_;rfl
 .refine eM ?_;rfl
 obtain⟨n,hn⟩:=n;have h:=A4r low l n;have hs:=A1v low l n;simp only;repeat'(first|exact trivial|apply eS rfl|apply AB|refine rX b ?_ ?_|refine rC ?_ ?_<;>intro a<;>try(cases a;done))
 .exact a
 .rw[a,BY rfl]at hs;simp only[AQ];dsimp only[Ty.den]at *;omega
 .exact eV
 .have c:n<l.length:=by exact eV
  rw[a,BY rfl]at hs;refine⟨⟨n+1,by omega⟩,by simp only;omega,AC [(30,.nm 30)] rfl rfl ?_ ?_⟩
  .simp only[hs];exact eN
  simp only[hs];exact eN
 .exact eV
 .have c:n<l.length:=by exact eV
  rw[a,An (by simp),QQ]at hs;refine⟨⟨n+1,by omega⟩,by simp only;omega,AC [(30,.nm 30)] rfl rfl ?_ ?_⟩
  .simp only[hs];exact eN
  simp only[hs];exact eN
 have c:n=l.length:=by exact eV
 subst c;refine Fe [30] ?_;repeat'(first|exact trivial|apply eS rfl|refine rX b ?_ ?_)
 exact fI b [.tmp 6]
end
section
attribute [local go_sem] eL
def RK (o:List ByteArray) (f:ByteArray×ByteArray):List ByteArray:=Ec o f.1
def S3 (o:List ByteArray) (x:AJ):List ByteArray:=x.2.2.foldl RK o
def BP (d:List AJ):List ByteArray:=d.foldl S3 []
theorem aJ (l:List (ByteArray×ByteArray)):∀o:List ByteArray,(l.foldl RK o).length<=o.length+l.length:=by
 induction l with
 | nil=>intro o;simp
 | cons x l a =>
  intro o;have h1:=a (RK o x);have b:(RK o x).length<=o.length+1:=Mr o x.1;simp only[ON,Of];omega
theorem pK {d:List AJ} (h:∀x∈d,x.2.2.length<=256):∀(l:List AJ),(∀x∈l,x∈d)->∀o:List ByteArray,(l.foldl S3 o).length<=o.length+256*l.length:=by
 intro l;induction l with
 | nil=>intro _ o;simp
 | cons x l c =>
  intro a o;have h1:=c (λy b=>a y (by simp[b])) (S3 o x);have e:=aJ x.2.2 o;have f:=h x (a x (by simp));have g:(S3 o x).length=(x.2.2.foldl RK o).length:=rfl;simp only[ON,Of];omega
def XU:AZ:={ ins:=[FJ],pre:=λ(d,_)=>List.length d<=256/\(∀x∈(d:List AJ),x.2.2.length<=256),out:=λ(d,_)=>[.p GD (BP d)] }
theorem XV:Ab Tryz.prog 157 XU:=by
 refine fK [0,2,3,4,5,9,19] Tryz.func157 Tryz.ntmps157 (AF Sx AH) ?_;rintro w0 O0 ⟨d,u⟩ c-⟨f,m⟩;have f:d.length<=256:=f;simp only[XU,AM];repeat'(first|exact trivial|apply eS rfl|refine rX c ?_ ?_)
 refine AI (ι:={i:Nat//i<=d.length}) (λi=>⟨[(0,.p FJ d),(3,.p GD (BP (d.take i.1))),(4,.p (.int .i64) (i.1:Int))],[]⟩) (λi=>d.length-i.1) ⟨0,IS _⟩ (AC [] rfl rfl ?_ ?_) (λi=>?_)
 .exact eN
 .refine eM ?_;rfl
 obtain⟨i,hi⟩:=i;have l:=pK m (d.take i) (λx h=>VM h) [];have t:=VS i d;have hs:=λh:i<d.length=>FB S3 d d0 [] h;have g:∀e,BP e=e.foldl S3 []:=λ_=>rfl;simp only;repeat'(first|exact trivial|apply eS rfl|refine rX c ?_ ?_|refine rC ?_ ?_<;>intro a<;>try(cases a;done))
 .have j:i<d.length:=by exact eV
  have v:=m _ (AD d d0 j);have hs:=hs j;rw[<-g,<-g]at hs;rw[<-g]at l;generalize BP (d.take i)=o at *;refine AI (ι:={k:Nat//k<=(d.getD i d0).2.2.length}) (λk=>⟨[(0,.p FJ d),(3,.p GD (((d.getD i d0).2.2.take k.1).foldl RK o)),(4,.p (.int .i64) (i:Int)),(5,.p (.int .i64) (k.1:Int))],[]⟩) (λk=>(d.getD i d0).2.2.length-k.1) ⟨0,IS _⟩ (AC [] rfl rfl ?_ ?_) (λk=>?_)
  .exact eN
  .refine eM ?_;rfl
  obtain⟨k,hk⟩:=k;have r:k<=(d.getD i d0).2.2.length:=hk;have q:=aJ ((d.getD i d0).2.2.take k) o;have s:=VS k (d.getD i d0).2.2;have n:=λh:k<(d.getD i d0).2.2.length=>FB RK (d.getD i d0).2.2 (ByteArray.empty,ByteArray.empty) o h;simp only;repeat'(first|apply eS rfl|apply AB|refine rX c ?_ ?_|refine rC ?_ ?_<;>intro a<;>try(cases a;done))
  .assumption
  .refine⟨by assumption,a,?_⟩;simp only[ZM]at l;dsimp only[Ty.den]at *;omega
  .have h1:(k:Int)<((d.getD i d0).2.2.length:Int):=a;exact eV
  .have b:k<(d.getD i d0).2.2.length:=IN.1 a;have e:=n b;refine⟨⟨k+1,b⟩,by simp only;omega,AC [] rfl rfl ?_ ?_⟩
   .exact eN
   simp only[e];unfold RK;exact eN
  .have:=f;exact eV
  have b:(d.getD i d0).2.2.take k=(d.getD i d0).2.2:=As (P6.1 a);have e:BP (d.take (i+1))=((d.getD i d0).2.2.take k).foldl RK o:=by rw[b];exact hs
  refine⟨⟨i+1,j⟩,by simp only;omega,AC [] rfl rfl ?_ ?_⟩
  .exact eN
  simp only[e];exact eN
 have b:d.take i=d:=As (by exact eV);rw[b];exact fI c [.tmp 2]
end
theorem aK {d:List AJ} {l:List ByteArray}:∀ {r:List ByteArray} {k:Nat},VB d l k r=0->∀s∈r,0<=Ar d s
 | [],_,_,s,hs=>by cases hs
 | x :: r,k,h,s,hs=>by
  simp only[VB]at h;split at h
  .cases h
  rename_i h1;split at h
  .cases h
  rcases DO.1 hs with rfl|hs
  .omega
  exact aK h s hs
theorem RL {d:List AJ}:∀ {l:List AJ},LS d l=0->∀x∈l,∀s∈x.2.1,0<=Ar d s
 | [],_,x,a=>by cases a
 | y :: l,h,x,a=>by
  simp only[LS]at h;split at h
  .rename_i h1;exact absurd h h1
  rename_i h1;rcases DO.1 a with rfl|a
  .exact aK (GO h1)
  exact RL h x a
theorem A4t {d:List AJ} (h:LT d=0):RE d:=RL h
theorem A0 {d:List AJ} (h:A8 d=0):RE d/\d.length<=256/\Ic d=1/\Cp d=0/\d.length<=(Bm d).length:=by
 unfold A8 at h;split at h
 .rename_i h1;exact absurd h h1
 rename_i h1;split at h
 .rename_i a;exact absurd h a
 rename_i a;split at h
 .rename_i b;exact absurd h b
 rename_i b;split at h
 .cases h
 rename_i c;split at h
 .cases h
 rename_i e;exact⟨A4t (GO b),US (GO h1),GO c,GO a,by omega⟩
section
attribute [local go_sem] AAU A4g
def Gw (l:List (List Int)) (i k:Nat):List (List Int) :=
 if (decide (0<((Ej (l.getD i []) (l.getD k [])).length:Int))&&!pI l (Ej (l.getD i []) (l.getD k [])))=true then l++[Ej (l.getD i []) (l.getD k [])] else l
def Gx (i:Nat):Nat->Nat->List (List Int)->List (List Int)
 | 0,_,l=>l
 | n+1,k,l=>if l.length<=256 then Gx i n (k+1) (Gw l i k) else l
def Ie:Nat->Nat->List (List Int)->List (List Int)
 | 0,_,l=>l
 | n+1,i,l=>if i<l.length/\l.length<=256 then Ie n (i+1) (Gx i i 0 l) else l
def Ax (c:List (List Int)):List (List Int):=Ie 257 0 c
theorem kK (a b:List Int):(Ej a b).length<=a.length:=by
 unfold Ej BN;have:=Ez .and a b a.length;rw[OS];omega
structure AA5 (l:List (List Int)):Prop where
 len:l.length<=257
 wid:∀c∈l,c.length<=64
theorem Mv {l:List (List Int)} (h:∀c∈l,c.length<=64) (k:Nat):(l.getD k []).length<=64:=by
 rw[AS];cases hh:l[k]? with
 | none=>simp
 | some x=>exact h x (VN hh)
theorem kL {l:List (List Int)} (h:∀c∈l,c.length<=64) (i k:Nat):∀c∈Gw l i k,c.length<=64:=by
 unfold Gw;split
 .intro c a;rcases OF.1 a with a|a
  .exact h c a
  have:c=Ej (l.getD i []) (l.getD k []):=by simpa using a
  rw[this];exact QB (kK _ _) (Mv h i)
 exact h
theorem A4u (l:List (List Int)) (i k:Nat):l.length<=(Gw l i k).length/\(Gw l i k).length<=l.length+1:=by
 unfold Gw;split
 .simp
 exact⟨Is _,Nat.le_succ _⟩
def fD:AZ:={ ins:=[U0],pre:=λ(c,_)=>List.length c<=256/\∀x∈(c:List (List Int)),x.length<=64,out:=λ(c,_)=>[.p U0 (Ax c)] }
theorem A1w:Ab Tryz.prog 163 fD:=by
 refine fK [0,2,3,4,5,6,18,28,48] Tryz.func163 Tryz.ntmps163 (AF A4h (AF AAV AH)) ?_;rintro w0 O0 ⟨c,u⟩ d-⟨n,t⟩;have n:c.length<=256:=n;simp only[fD,AM];repeat'(first|exact trivial|apply eS rfl|refine rX d ?_ ?_)
 .simp only[AQ];dsimp only[Ty.den]at *;omega
 refine AI (ι:={x:Nat×List (List Int)//x.1<=256/\AA5 x.2/\Ie (257-x.1) x.1 x.2=Ax c}) (λx=>⟨[(3,.sr 7 BT 0 x.1.2.length),(4,.p (.int .i64) (x.1.1:Int))],[(7,.arr 140 BT x.1.2)]⟩) (λx=>257-x.1.1) ⟨(0,c),by simp,⟨by simp only;omega,t⟩,rfl⟩ (eW [(7,.nm 7)]) (λx=>?_)
 obtain⟨⟨i,l⟩,hi,⟨q,s⟩,f⟩:=x;simp only at hi q s f;simp only;repeat'(first|exact trivial|apply eS rfl|refine rX d ?_ ?_|refine rC ?_ ?_<;>intro a<;>try(cases a;done))
 .have w:i<l.length:=by omega
  have z:l.length<=256:=by omega
  have o:Ie (256-i) (i+1) (Gx i i 0 l)=Ax c:=by
   have e:257-i=(256-i)+1:=by omega
   rw[<-f,e];show _=if i<l.length/\l.length<=256 then Ie (256-i) (i+1) (Gx i i 0 l) else l
   rw[BY ⟨w,z⟩]
  refine AI (ι:={y:Nat×List (List Int)//y.1<=i/\AA5 y.2/\l.length<=y.2.length/\Gx i (i-y.1) y.1 y.2=Gx i i 0 l}) (λy=>⟨[(3,.sr 7 BT 0 y.1.2.length),(4,.p (.int .i64) (i:Int)),(5,.p (.int .i64) (y.1.1:Int))],[(7,.arr 140 BT y.1.2)]⟩) (λy=>i-y.1.1) ⟨(0,l),by simp,⟨q,s⟩,Is _,rfl⟩ (eW [(7,.nm 7)]) (λy=>?_)
  obtain⟨⟨k,m⟩,hk,⟨g,b⟩,r,hf⟩:=y;simp only at hk g b r hf;simp only;repeat'(first|exact trivial|apply eS rfl|apply AB|refine rX d ?_ ?_|refine rC ?_ ?_<;>intro a<;>try(cases a;done))
  .exact⟨by exact eV,by exact eV,QB (Mv b i) (by decide)⟩
  .simp only[AQ];omega
  .omega
  .have e:Gw m i k=m++[Ej (m.getD i []) (m.getD k [])]:=by
    unfold Gw;rw[BY];rw[AT,By,Px];exact a
   have C:=kL b i k;have D:=A4u m i k;refine⟨⟨(k+1,Gw m i k),by simp only;omega,⟨by simp only;omega,C⟩,by simp only;omega,?_⟩,by simp only;omega,AC [(7,.nm 7)] rfl rfl ?_ ?_⟩
   .simp only;rw[<-hf,show i-k=(i-(k+1))+1 by omega];show _=if m.length<=256 then Gx i (i-(k+1)) (k+1) (Gw m i k) else m
    rw[BY (by omega)]
   .simp only[e];exact eN
   simp only[e];exact eN
  .omega
  .have e:Gw m i k=m:=by
    unfold Gw;rw[An];rw[AT,By,Px];intro h;rw[a h.1]at h;exact absurd h.2 (by simp)
   refine⟨⟨(k+1,m),by simp only;omega,⟨g,b⟩,r,?_⟩,by simp only;omega,AC [(7,.nm 7)] rfl rfl ?_ ?_⟩
   .simp only;rw[<-hf,show i-k=(i-(k+1))+1 by omega];show _=if m.length<=256 then Gx i (i-(k+1)) (k+1) (Gw m i k) else m
    rw[BY (by omega),e]
   .exact eN
   exact eN
  .omega
  have B:m=Gx i i 0 l:=by
   rw[<-hf];cases A:i-k with
   | zero=>rfl
   | succ j =>
    show _=if m.length<=256 then _ else m
    rw[An (by omega)]
  rw[<-B]at o;refine⟨⟨(i+1,m),by simp only;omega,⟨g,b⟩,?_⟩,by simp only;omega,AC [(7,.nm 7)] rfl rfl ?_ ?_⟩
  .simp only;rw[show 257-(i+1)=256-i by omega];exact o
  .exact eN
  exact eN
 have v:l=Ax c:=by
  rw[<-f];cases A:257-i with
  | zero=>rfl
  | succ m =>
   show _=if i<l.length/\l.length<=256 then _ else l
   rw[An (by omega)]
 rw[<-v];refine Fe [7] ?_;exact fI d [.tmp 2]
theorem cs0 {α:Type} (x y:α):(if ({ data:=#[] }:ByteArray).size<=AQ then x else y)=x:=BY (by show 0<=AQ;decide)
theorem cs1 {α:Type} (a:UInt8) (x y:α):(if ({ data:=#[a] }:ByteArray).size<=AQ then x else y)=x:=BY (by show 1<=AQ;decide)
theorem cs2 {α:Type} (a b:UInt8) (x y:α):(if ({ data:=#[a,b] }:ByteArray).size<=AQ then x else y)=x:=BY (by show 2<=AQ;decide)
theorem cs3 {α:Type} (a b c:UInt8) (x y:α):(if ({ data:=#[a,b,c] }:ByteArray).size<=AQ then x else y)=x:=BY (by show 3<=AQ;decide)
theorem cs4 {α:Type} (a b c d:UInt8) (x y:α):(if ({ data:=#[a,b,c,d] }:ByteArray).size<=AQ then x else y)=x:=BY (by show 4<=AQ;decide)
theorem cs5 {α:Type} (a b c d e:UInt8) (x y:α):(if ({ data:=#[a,b,c,d,e] }:ByteArray).size<=AQ then x else y)=x:=BY (by show 5<=AQ;decide)
theorem cs6 {α:Type} (a b c d e f:UInt8) (x y:α):(if ({ data:=#[a,b,c,d,e,f] }:ByteArray).size<=AQ then x else y)=x:=BY (by show 6<=AQ;decide)
theorem cs7 {α:Type} (a b c d e f g:UInt8) (x y:α):(if ({ data:=#[a,b,c,d,e,f,g] }:ByteArray).size<=AQ then x else y)=x:=BY (by show 7<=AQ;decide)
theorem cs8 {α:Type} (a b c d e f g h:UInt8) (x y:α):(if ({ data:=#[a,b,c,d,e,f,g,h] }:ByteArray).size<=AQ then x else y)=x:=BY (by show 8<=AQ;decide)
end
def BH (b:List Int) (i:Nat):Bool:=(b.getD (i / 64) 0).toNat.testBit (i % 64)
def U64 (x:Int):Prop:=0<=x/\x<18446744073709551616
theorem F3 {x:Int} (h:U64 x):(BitVec.ofInt 64 x).toNat=x.toNat:=by
 rw[BitVec.toNat_ofInt];have h1:=h.1;have a:=h.2;rw[Int.emod_eq_of_lt h1 (by simpa using a)]
theorem RM {n:Nat} (h:n<18446744073709551616):IntKind.u64.wrap (n:Int)=n:=LF (by rw[JO];omega)
theorem A8z {x y:Int} (a:U64 x) (b:U64 y):CE .or .u64 x y=((x.toNat ||| y.toNat:Nat):Int):=by
 have h1:(BitVec.ofInt IntKind.u64.bits x ||| BitVec.ofInt IntKind.u64.bits y).toNat=x.toNat ||| y.toNat:=by
  rw[BitVec.toNat_or];show (BitVec.ofInt 64 x).toNat ||| (BitVec.ofInt 64 y).toNat=_
  rw[F3 a,F3 b]
 unfold CE;simp only;rw[h1];have e:(18446744073709551616:Nat)=2 ^ 64:=by decide
 refine RM ?_;rw[e];refine Nat.or_lt_two_pow ?_ ?_
 .have:=a.2;have:=a.1;omega
 have:=b.2;have:=b.1;omega
theorem Ig {x y:Int} (a:U64 x) (b:U64 y):CE .and .u64 x y=((x.toNat &&& y.toNat:Nat):Int):=by
 have h1:(BitVec.ofInt IntKind.u64.bits x &&& BitVec.ofInt IntKind.u64.bits y).toNat=x.toNat &&& y.toNat:=by
  rw[BitVec.toNat_and];show (BitVec.ofInt 64 x).toNat &&& (BitVec.ofInt 64 y).toNat=_;rw[F3 a,F3 b]
 unfold CE;simp only;rw[h1];refine RM (AG2 AFZ ?_);have:=a.2;have:=a.1;omega
theorem S4 {x y:Int}:CE .andNot .u64 x y=((BitVec.ofInt 64 x &&& ~~~BitVec.ofInt 64 y).toNat:Int):=by
 show IntKind.u64.wrap ((BitVec.ofInt 64 x &&& ~~~BitVec.ofInt 64 y).toNat:Int)=_;exact RM (BitVec.isLt _)
theorem UT {x y:Int} (d:U64 x) (e:U64 y) (h:CE .andNot .u64 x y=0) {r:Nat} (c:r<64) (b:x.toNat.testBit r=true):y.toNat.testBit r=true:=by
 rw[S4]at h;have h1:(BitVec.ofInt 64 x &&& ~~~BitVec.ofInt 64 y).toNat=0:=by omega
 have a:(BitVec.ofInt 64 x &&& ~~~BitVec.ofInt 64 y).toNat.testBit r=false:=by rw[h1];exact Nat.zero_testBit r
 rw[AF6,BitVec.getLsbD_and,BitVec.getLsbD_not,<-AF6,<-AF6,F3 d,F3 e,b]at a;simpa[c] using a
theorem UU {x:Int}:CE .andNot .u64 x x=0:=by
 rw[S4];simp
theorem PY {b:List Int}:∀ {n:Nat},∀k,Cm b n<=k->k<n->b.getD k 0=0
 | 0,k,_,h=>by omega
 | n+1,k,h1,c=>by
  unfold Cm at h1;split at h1
  .rename_i a;by_cases hk:k=n
   .rw[hk];exact a
   exact PY k h1 (by omega)
  omega
theorem RN (b:List Int) (k:Nat):(BN b).getD k 0=b.getD k 0:=by
 unfold BN;by_cases h:k<Cm b b.length
 .simp[AS,SF,h]
 have h1:(List.take (Cm b b.length) b).getD k 0=0:=by
  rw[AS,SF,An h];rfl
 rw[h1];by_cases a:k<b.length
 .exact(PY k (by omega) a).symm
 rw[AS,QH (by omega)];rfl
theorem PZ (b:List Int) (i:Nat):BH (BN b) i=BH b i:=by unfold BH;rw[RN]
def Ih (b:List Int):Prop:=∀x∈b,U64 x
theorem BL {b:List Int} (h:Ih b) (k:Nat):U64 (b.getD k 0):=by
 rw[AS];cases hh:b[k]? with
 | none=>exact⟨by simp,by simp⟩
 | some x=>exact h x (VN hh)
theorem Pa {b:List Int} (h:Ih b):Ih (BN b):=λx a=>h x (VM a)
theorem H9 (b:List Int) (k:Nat):Gf b (k:Int)=b.getD k 0:=by
 unfold Gf;split
 .simp
 rename_i h;rw[AS,QH (by omega)];rfl
theorem Ns (op:BinOp) (a b:List Int) {n k:Nat} (h:k<n):(Gu op a b n).getD k 0=CE op .u64 (a.getD k 0) (b.getD k 0):=by
 unfold Gu;rw[AS,VJ,oN h];show CE op .u64 (a.getD k 0) (Gf b (k:Int))=_;rw[H9]
theorem fE {a b:List Int} (h:FA a b=true) {k:Nat} (hk:k<a.length):CE .andNot .u64 (a.getD k 0) (b.getD k 0)=0:=by
 unfold FA Sy BN at h;have h1:(List.take (Cm (Gu .andNot a b a.length) (Gu .andNot a b a.length).length) (Gu .andNot a b a.length)).length=0:=by
  have:=SJ.1 h;omega
 rw[OS,Ez]at h1;have d:=XO (Gu .andNot a b a.length) a.length;have c:=PY (b:=Gu .andNot a b a.length) (n:=a.length) k (by omega) hk;rw[Ns _ _ _ hk]at c;exact c
theorem Mw {a b:List Int} (ha:Ih a) (c:Ih b) (h:FA a b=true) {i:Nat} (hi:BH a i=true):BH b i=true:=by
 by_cases hk:i / 64<a.length
 .exact UT (BL ha _) (BL c _) (fE h hk) (AGu _ (by decide)) hi
 exfalso;unfold BH at hi;rw[AS,QH (by omega)]at hi;simp at hi
theorem S5 {b:List Int}:∀ {n:Nat},(∀k,k<n->b.getD k 0=0)->Cm b n=0
 | 0,_=>rfl
 | n+1,h=>by
  unfold Cm;rw[BY (h n (by omega))];exact S5 λk hk=>h k (by omega)
theorem kM (a:List Int):FA a a=true:=by
 unfold FA Sy BN;have h1:Cm (Gu .andNot a a a.length) (Gu .andNot a a a.length).length=0:=by
  rw[Ez];exact S5 λk hk=>by rw[Ns _ _ _ hk];exact UU
 rw[h1];rfl
theorem kN (a:List Int):DW a a=true:=by unfold DW;rw[kM];rfl
theorem A8A {b:List Int} (j:Ih b) (l:b.length=64) {x:Int} (h0:0<=x) (h1:x<=4095) (i:Nat):BH (ofA b x) i=(BH b i||decide (x=(i:Int))):=by
 have d:Int.tdiv x 64=x / 64:=VU h0;have e:Int.tmod x 64=x % 64:=ABQ h0;obtain⟨n,rfl⟩:∃n:Nat,x=(n:Int):=⟨x.toNat,by omega⟩;have hs:Ut .u64 1 ((n:Int) % 64)=((2 ^ (n % 64):Nat):Int):=by
  unfold Ut;have f:min ((n:Int) % 64).toNat IntKind.u64.bits=n % 64:=by
   have:((n:Int) % 64).toNat=n % 64:=by omega
   rw[this];have:IntKind.u64.bits=64:=rfl;omega
  rw[f,Int.one_mul];have:(2:Int) ^ (n % 64)=((2 ^ (n % 64):Nat):Int):=by simp
  rw[this];refine RM ?_;have a:(2:Nat) ^ (n % 64)<2 ^ 64:=Nat.pow_lt_pow_right (by decide) (AGu _ (by decide));exact a
 have hu:U64 (Ut .u64 1 ((n:Int) % 64)):=by
  rw[hs];have a:(2:Nat) ^ (n % 64)<2 ^ 64:=Nat.pow_lt_pow_right (by decide) (AGu _ (by decide));have g:(2:Nat) ^ 64=18446744073709551616:=by decide
  refine⟨To _,?_⟩;rw[g]at a;exact IN.2 a
 have hn:((n:Int) / 64).toNat=n / 64:=by omega
 unfold ofA BH;rw[d,e,hn];by_cases c:i / 64=n / 64
 .have k:n / 64<b.length:=by omega
  rw[c];have:(b.set (n / 64) (CE .or .u64 (b.getD (n / 64) 0) (Ut .u64 1 ((n:Int) % 64)))).getD (n / 64) 0=CE .or .u64 (b.getD (n / 64) 0) (Ut .u64 1 ((n:Int) % 64)):=by
   simp[AS,k]
  rw[this,A8z (BL j _) hu,hs];simp only[P0,Nat.testBit_or,Nat.testBit_two_pow]
  congr 1
  rw[decide_eq_decide];omega
 have:(b.set (n / 64) (CE .or .u64 (b.getD (n / 64) 0) (Ut .u64 1 ((n:Int) % 64)))).getD (i / 64) 0=b.getD (i / 64) 0:=by
  simp[AS,aT,Ne.symm c]
 rw[this];have:decide ((n:Int)=(i:Int))=false:=by
  rw[On];intro h;exact c (by omega)
 rw[this,Bool.or_false]
theorem A8B {b:List Int} (c:Ih b) (x:Int):Ih (ofA b x):=by
 intro y a;unfold ofA at a;rcases AAP a with h|h
 .exact c y h
 rw[h];have:=NX .u64 ((BitVec.ofInt IntKind.u64.bits (b.getD (x.tdiv 64).toNat 0) ||| BitVec.ofInt IntKind.u64.bits (Ut .u64 1 (x.tmod 64))).toNat:Int);rw[JO]at this;exact⟨this.1,by have:=this.2;show _<_;exact AGb this (by decide)⟩
theorem A8C {l:List Int} (h:l.all okB=true) (i:Nat):BH (ofL l) i=decide ((i:Int)∈l)/\Ih (ofL l):=by
 have key:∀(l b:List Int),l.all okB=true->Ih b->b.length=64->BH (l.foldl ofA b) i=(BH b i||decide ((i:Int)∈l))/\Ih (l.foldl ofA b):=by
  intro l;induction l with
  | nil=>intro b _ a _;simp[a]
  | cons x l m =>
   intro b c a d;rw[AAS,AT]at c;have e:=c.1;unfold okB at e;rw[Px,VP,On,On]at e;obtain⟨f,g⟩:=m (ofA b x) c.2 (A8B a x) (by simp[ofA,d]);rw[ON];refine⟨?_,g⟩;rw[f,A8A a d (by omega) (by omega),Bool.or_assoc]
   congr 1
   rw[<-Bool.decide_or,decide_eq_decide,DO,eq_comm]
 have j:Ih (List.replicate 64 (0:Int)):=by
  intro y k;rw[(AG7.1 k).2];exact⟨by decide,by decide⟩
 have h1:=key l (List.replicate 64 0) h j (by simp);refine⟨?_,h1.2⟩;unfold ofL;rw[h1.1];have:BH (List.replicate 64 (0:Int)) i=false:=by
  unfold BH;have:(List.replicate 64 (0:Int)).getD (i / 64) 0=0:=by
   rw[AS,gO];split<;>rfl
  rw[this];simp
 rw[this,AGk]
theorem A4w {low all:List ByteArray} {n i:Nat}:((i:Int)∈PX low all n)↔i<n/\Aa low (all.getD i ByteArray.empty)=true:=by
 unfold PX;rw[Do];constructor
 .rintro⟨j,a,e⟩;have:j=i:=by omega
  subst this;rw[VW,QJ]at a;exact a
 rintro⟨h1,b⟩;exact⟨i,by rw[VW,QJ];exact⟨h1,b⟩,rfl⟩
theorem A8D {low all:List ByteArray} {n:Nat} (hn:n<=4096):(PX low all n).all okB=true:=by
 rw[If];intro x a;unfold PX at a;obtain⟨j,b,rfl⟩:=Do.1 a;rw[VW,QJ]at b;unfold okB;rw[Px,VP,On,On];exact⟨by omega,by omega⟩
theorem CA {d:List AJ} {all:List ByteArray} (c:all.length<=4096) (s:ByteArray) (i:Nat):(BH (E0 d all s) i=true↔i<all.length/\Aa (Cr d s) (all.getD i ByteArray.empty)=true)/\Ih (E0 d all s)/\(E0 d all s).length<=64:=by
 have h1:=A8D (low:=Cr d s) (all:=all) c;have b:=A8C h1 i;have a:E0 d all s=BN (ofL (PX (Cr d s) all all.length)):=by
  unfold E0 ofF;rw[BY h1]
 refine⟨?_,?_,?_⟩
 .rw[a,PZ,b.1,By,A4w]
 .rw[a];exact Pa b.2
 rw[a];unfold BN;have:=RI (PX (Cr d s) all all.length);rw[OS];omega
theorem JW (d:List AJ) {s t:ByteArray} (h:AY s t=true):Ar d s=Ar d t:=by
 have key:∀(l:List AJ) (k:Nat),Cy s k l=Cy t k l:=by
  intro l;induction l with
  | nil=>intro k;rfl
  | cons x l a =>
   intro k;simp only[Cy];have:AY x.1 s=AY x.1 t:=by grind [AY,BZ,EF]
   rw[this,a]
 exact key d 0
theorem BG {α:Type} {l:List α} {d:α} {k:Nat} (h:k<l.length):l.getD k d∈l:=by grind
theorem CM {α:Type} {l:List α} (d:α) {x:α} (h:x∈l):∃k,k<l.length/\l.getD k d=x:=by
 obtain⟨k,hk,e⟩:=Vb.1 h;exact⟨k,hk,by rw[AS,At hk];exact e⟩
theorem JY {d:List AJ}:∀ {r:List AJ} {k:Nat},PU d k r=0->∀j,j<r.length->¬Ar d (r.getD j d0).1<((k+j:Nat):Int)/\Ey (r.getD j d0).1 false=true
 | [],_,_,j,a=>by simp at a
 | x :: r,k,h,j,a=>by
  simp only[PU]at h;split at h
  .cases h
  rename_i h1;split at h
  .cases h
  rename_i b;cases j with
  | zero=>exact⟨b,by simpa using h1⟩
  | succ j =>
   have:=JY h j (by simpa using a);have e:k+(j+1)=k+1+j:=by omega
   rw[e];exact this
theorem RP (s:ByteArray):∀(l:List AJ) (k j:Nat),j<l.length->AY (l.getD j d0).1 s=true->Cy s k l<=((k+j:Nat):Int)
 | [],_,j,h,_=>by simp at h
 | x :: l,k,j,h,e=>by
  simp only[Cy];split
  .omega
  rename_i h1;cases j with
  | zero=>exact absurd e h1
  | succ j =>
   have:=RP s l (k+1) j (by simpa using h) e;omega
theorem Mx {d:List AJ} (h:Cp d=0) {j:Nat} (b:j<d.length):Ar d (d.getD j d0).1=(j:Int):=by
 have h1:=(JY h j b).1;have a:=RP (d.getD j d0).1 d 0 j b (Cz _);rw[iN]at h1 a;have a:Ar d (d.getD j d0).1<=(j:Int):=a;omega
theorem RQ {d:List AJ} (h:Cp d=0) {x y:AJ} (a:x∈d) (b:y∈d) (e:AY x.1 y.1=true):x=y:=by
 obtain⟨i,hi,rfl⟩:=CM d0 a;obtain⟨j,c,rfl⟩:=CM d0 b;grind [Mx,JW]
theorem pL (d:List AJ) (out:List ByteArray) (h:(Ia d out).1=true):∃x∈d,x.1=(Ia d out).2/\Aa out x.1=false/\Jz x out=true:=by
 have key:∀(l:List AJ) (s:Bool×ByteArray),(∀x∈l,x∈d)->(s.1=true->∃x∈d,x.1=s.2/\Aa out x.1=false/\Jz x out=true)->(l.foldl (JU out) s).1=true ->
   ∃x∈d,x.1=(l.foldl (JU out) s).2/\Aa out x.1=false/\Jz x out=true:=by
  intro l;induction l with
  | nil=>intro s _ hs h;exact hs h
  | cons y l c =>
   intro s a hs h;rw[ON]at h ⊢;refine c _ (λx b=>a x (by simp[b])) (λhp=>?_) h;unfold JU at hp ⊢;split
   .grind
   grind
 exact key d _ (λ_ h=>h) (λh=>by cases h) h
def PL (d:List AJ) (o:List ByteArray):Prop:=∀j,j<o.length->∃x∈d,x.1=o.getD j ByteArray.empty/\Aa (o.take j) x.1=false/\Jz x (o.take j)=true
theorem PL.snoc {d:List AJ} {o:List ByteArray} (h:PL d o) {x:AJ} (i:x∈d) (h1:Aa o x.1=false) (f:Jz x o=true):PL d (o++[x.1]):=by
 intro j g;by_cases a:j<o.length
 .obtain⟨y,k,b,c,e⟩:=h j a;grind
 grind
theorem XW {d:List AJ}:∀ {n:Nat} {o:List ByteArray},PL d o->PL d (JV d n o)
 | 0,_,h=>h
 | n+1,o,h=>by
  unfold JV;split
  .rename_i hp;obtain⟨x,b,e,h1,a⟩:=pL d o hp;rw[<-e];exact XW (h.snoc b h1 a)
  exact h
theorem aL (d:List AJ):PL d (Bm d):=XW λj a=>by simp at a
theorem PL.ok {d:List AJ} {o:List ByteArray} (h:PL d o):e9 d o:=by
 refine⟨λs hs=>?_,?_⟩
 .obtain⟨j,a,rfl⟩:=CM ByteArray.empty hs;obtain⟨x,b,e,-⟩:=h j a;rw[<-e];exact Dg b
 rw[QG];intro i j hi a f;obtain⟨x,b,e,h1,-⟩:=h j a;have c:=RF h1 o[i] (by rw[AET];exact⟨i,by omega,rfl⟩);grind
theorem pM {n:Nat} {l:List Nat} (h:l.Nodup) (c:∀j∈l,j<n) (hn:n<=l.length) {k:Nat} (hk:k<n):k∈l:=by
 refine GO λb=>?_;have:=EX n (k :: l) (TO.2 ⟨b,h⟩) (λj a=>by
  rcases DO.1 a with rfl|a
  .exact hk
  exact c j a)
 simp at this;omega
theorem pN {d:List AJ} (f:d.length<=(Bm d).length) {x:AJ} (h:x∈d):∃s∈Bm d,AY s x.1=true:=by
 have a:=(aL d).ok;have h1:=LV d a;have h0:=Dg h;have l:=DX d x.1;have b:=pM (n:=d.length) h1 (λj c=>by
  obtain⟨s,hs,rfl⟩:=Do.1 c;have h1:=a.decl s hs;rcases DX d s with g|⟨_,g,_⟩<;>omega) (by simpa using f) (k:=(Ar d x.1).toNat) (by omega)
 obtain⟨s,hs,e⟩:=Do.1 b;refine⟨s,hs,?_⟩;rcases DX d s with g|⟨_,_,i⟩
 .have:=a.decl s hs;omega
 grind [BZ,EF]
def Gg (d:List AJ) (s:ByteArray):Nat:=(Bm d).findIdx λx=>AY x s
theorem Ii (d:List AJ) {s t:ByteArray} (h:AY s t=true):Gg d s=Gg d t:=by grind [Gg,AY,BZ,EF]
theorem LX {d:List AJ} (hn:Cp d=0) (o:d.length<=(Bm d).length) {x:AJ} (g:x∈d) {s:ByteArray} (hs:Aa x.2.1 s=true):Gg d s<Gg d x.1:=by
 obtain⟨t,q,e⟩:=pN o g;have c:Gg d x.1<(Bm d).length:=List.findIdx_lt_length_of_exists ⟨t,q,e⟩;have heq:AY ((Bm d)[Gg d x.1]) x.1=true:=List.findIdx_getElem (w:=c);obtain⟨y,r,a,-,j⟩:=aL d (Gg d x.1) c;rw[AS,At c]at a;have a:y.1=(Bm d)[Gg d x.1]:=a;rw[<-a]at heq;have z:=RQ hn r g heq;subst z;obtain⟨u,hu,h⟩:=QC.1 hs;have k:Aa ((Bm d).take (Gg d y.1)) u=true:=If.1 j u hu;obtain⟨v,f,ev⟩:=QC.1 k;rw[AET]at f;obtain⟨i,hi,rfl⟩:=f;have n:i<Gg d y.1:=by omega
 refine AG2 ?_ n;refine GO λm=>?_;have b:=List.not_of_lt_findIdx (p:=λx=>AY x s) (xs:=Bm d) (i:=i) (by unfold Gg at m;omega);have l:AY ((Bm d)[i]) s=true:=BZ ev h;try simp only at b
 rw[l]at b;exact absurd b (by simp)
def ZW (d:List AJ) (s x:ByteArray):Prop:=AY s x=true\/Gg d s<Gg d x
theorem A1x {d:List AJ} (hn:Cp d=0) (f:d.length<=(Bm d).length) {s c:ByteArray} (b:ZW d s c) {o:List ByteArray} (e:∀x∈o,ZW d s x) {x:AJ} (g:x∈d):∀y∈Ff c o x,ZW d s y:=by
 intro y a;unfold Ff at a;split at a
 .rename_i h;rw[AT]at h;rcases OF.1 a with a|a
  .exact e y a
  have:y=x.1:=by simpa using a
  subst this;have h1:=LX hn f g h.1;right;rcases b with b|b
  .rw[Ii d b];exact h1
  omega
 exact e y a
theorem XX {d:List AJ} (hn:Cp d=0) (e:d.length<=(Bm d).length) {s c:ByteArray} (b:ZW d s c):∀ {l:List AJ} {o:List ByteArray},(∀x∈l,x∈d)->(∀x∈o,ZW d s x)->∀y∈l.foldl (Ff c) o,ZW d s y
 | [],_,_,a=>a
 | x :: l,o,f,a=>by
  rw[ON];exact XX hn e b (λy g=>f y (by simp[g])) (A1x hn e b a (f x (by simp)))
theorem UV {d:List AJ} (hn:Cp d=0) (b:d.length<=(Bm d).length) {s:ByteArray}:∀ {n i:Nat} {o:List ByteArray},(∀x∈o,ZW d s x)->∀y∈Cq d n i o,ZW d s y
 | 0,_,_,a=>a
 | n+1,i,o,a=>by
  unfold Cq;split
  .rename_i hi;exact UV hn b (XX hn b (a _ (BG hi)) (λ_ h=>h) a)
  exact a
theorem A4x {c:ByteArray} {o:List ByteArray} {x:AJ} {y:ByteArray} (h:y∈o):y∈Ff c o x:=by grind [Ff]
theorem Nt {c:ByteArray} {y:ByteArray}:∀ {l:List AJ} {o:List ByteArray},y∈o->y∈l.foldl (Ff c) o
 | [],_,h=>h
 | x :: l,o,h=>by rw[ON];exact Nt (A4x h)
theorem LY {d:List AJ} {y:ByteArray}:∀ {n i:Nat} {o:List ByteArray},y∈o->y∈Cq d n i o
 | 0,_,_,h=>h
 | n+1,i,o,h=>by
  unfold Cq;split
  .exact LY (Nt h)
  exact h
theorem HQ {l:List ByteArray} {s x:ByteArray} (h:x∈Ec l s):x∈l\/x=s:=by grind [Ec]
theorem Nu {l:List ByteArray} {s x:ByteArray} (h:x∈l):x∈Ec l s:=by
 unfold Ec;split
 .exact h
 have a:x∈l.take (atF l s)\/x∈l.drop (atF l s):=OF.1 (by rw[ABj];exact h);grind
theorem RR {l:List ByteArray} {s:ByteArray}:Aa (Ec l s) s=true:=by
 unfold Ec;grind [JT,atF,AY,Aa,Cz]
theorem F4 {l:List ByteArray} {s:ByteArray} (h:s∈l):Aa l s=true:=QC.2 ⟨s,h,Cz s⟩
theorem KU {l m:List ByteArray} {s:ByteArray} (hs:∀x∈l,x∈m) (h:Aa l s=true):Aa m s=true:=by
 obtain⟨x,a,e⟩:=QC.1 h;exact QC.2 ⟨x,hs x a,e⟩
theorem XY:∀ {l o:List ByteArray} {x:ByteArray},x∈l.foldl Ec o->x∈o\/x∈l
 | [],_,_,h=>.inl h
 | y :: l,o,x,h=>by
  rw[ON]at h;rcases XY h with h|h
  .grind [HQ]
  grind
theorem aM:∀ {l o:List ByteArray} {x:ByteArray},x∈o->x∈l.foldl Ec o
 | [],_,_,h=>h
 | y :: l,o,x,h=>by rw[ON];exact aM (Nu h)
theorem RS:∀ {l o:List ByteArray} {x:ByteArray},x∈l->Aa (l.foldl Ec o) x=true
 | [],_,_,h=>by cases h
 | y :: l,o,x,h=>by
  rw[ON];rcases DO.1 h with rfl|h
  .grind [KU,aM,RR]
  exact RS h
theorem Pb {d:List AJ} {s:ByteArray} (h:0<=Ar d s):Aa (Cr d s) s=true:=by
 unfold Cr;rw[An (by omega)];exact RS (LY (by simp))
theorem XZ {d:List AJ} (hn:Cp d=0) (c:d.length<=(Bm d).length) {s x:ByteArray} (h:Aa (Cr d s) x=true):ZW d s x:=by
 obtain⟨y,a,e⟩:=QC.1 h;have b:ZW d s y:=by
  unfold Cr at a;split at a
  .cases a
  rcases XY a with a|a
  .cases a
  refine UV hn c (λz f=>?_) y a;have:z=s:=by simpa using f
  rw[this];exact .inl (Cz s)
 rcases b with b|b
 .exact .inl (BZ b e)
 rw[Ii d e]at b;exact .inr b
theorem Dh {d:List AJ} {s:ByteArray} (h:s∈AP d):∃x∈d,x.1=s:=by
 have key:∀(l:List AJ) (o:List ByteArray),s∈l.foldl (λo x=>Ec o x.1) o->s∈o\/∃x∈l,x.1=s:=by
  intro l;induction l with
  | nil=>intro o h;exact .inl h
  | cons x l a =>
   intro o h;rw[ON]at h;rcases a _ h with h|⟨y,b,e⟩
   .grind [HQ]
   grind
 rcases key d [] h with h|h
 .cases h
 exact h
theorem Pc {d:List AJ} {x:AJ} (h:x∈d):Aa (AP d) x.1=true:=by
 have b:∀(l:List AJ) (o:List ByteArray),∀y∈o,y∈l.foldl (λo x=>Ec o x.1) o:=by
  intro l;induction l with
  | nil=>intro o y h;exact h
  | cons x l a=>intro o y h;rw[ON];exact a _ y (Nu h)
 have key:∀(l:List AJ) (o:List ByteArray),x∈l->Aa (l.foldl (λo x=>Ec o x.1) o) x.1=true:=by
  intro l;induction l with
  | nil=>intro o h;cases h
  | cons y l a =>
   intro o h;rw[ON];rcases DO.1 h with rfl|h
   .grind [KU,RR]
   exact a _ h
 exact key d [] h
theorem kO {d:List AJ} (hn:Cp d=0) (g:d.length<=(Bm d).length) (r:d.length<=256) {i j:Nat} (hi:i<(AP d).length) (f:j<(AP d).length)
  (h:DW (E0 d (AP d) ((AP d).getD i ByteArray.empty)) (E0 d (AP d) ((AP d).getD j ByteArray.empty))=true):AY ((AP d).getD i ByteArray.empty) ((AP d).getD j ByteArray.empty)=true:=by
 have o:=EE d d.length;rw[QD]at o;have a:(AP d).length<=4096:=by omega
 generalize hs:(AP d).getD i ByteArray.empty=s at *;generalize b:(AP d).getD j ByteArray.empty=t at *;have p:0<=Ar d s:=by
  obtain⟨x,c,e⟩:=Dh (s:=s) (by rw[<-hs];exact BG hi);rw[<-e];exact Dg c
 have q:0<=Ar d t:=by
  obtain⟨x,c,e⟩:=Dh (s:=t) (by rw[<-b];exact BG f);rw[<-e];exact Dg c
 obtain⟨c1,k,-⟩:=CA (d:=d) a s i;obtain⟨c2,l,-⟩:=CA (d:=d) a t i;obtain⟨m,-,-⟩:=CA (d:=d) a s j;obtain⟨n,-,-⟩:=CA (d:=d) a t j;unfold DW at h;rw[AT]at h;have b1:=XZ hn g (c2.1 (Mw k l h.1 (c1.2 ⟨hi,by rw[hs];exact Pb p⟩))).2;have b2:=XZ hn g (m.1 (Mw l k h.2 (n.2 ⟨f,by rw[b];exact Pb q⟩))).2;rw[hs]at b1;rw[b]at b2;rcases b1 with b1|b1
 .exact EF b1
 rcases b2 with b2|b2
 .exact b2
 omega
section
attribute [local go_sem] eO A4e Mt cs0 cs1
def zS (d:List AJ) (all:List ByteArray) (codes:List (List Int)) (b:List Int):Nat->Nat->List ByteArray->ByteArray ⊕ List ByteArray
 | 0,_,l=>.inr l
 | n+1,i,l=>if DW (codes.getD i []) b=true then .inl (all.getD i ByteArray.empty) else zS d all codes b n (i+1) (if VA b (i:Int)=true then l++[all.getD i ByteArray.empty] else l)
def aN (l:List ByteArray) (s:ByteArray) (i:Nat):ByteArray:=(if 0<(i:Int) then s++ByteArray.mk #[38] else s)++l.getD i ByteArray.empty
def kP (l:List ByteArray):ByteArray:=(List.range l.length).foldl (aN l) ByteArray.empty
def HR (d:List AJ) (all:List ByteArray) (codes:List (List Int)) (b:List Int):ByteArray :=
 match zS d all codes b all.length 0 [] with
 | .inl s=>s
 | .inr l=>kP (A6 d l)
theorem Og {d:List AJ} {x:ByteArray}:∀ {l o:List ByteArray},x∈l.foldl (Fg d) o->x∈o\/x∈l
 | [],_,h=>.inl h
 | y :: l,o,h=>by
  rw[ON]at h;rcases Og h with h|h
  .unfold Fg at h;split at h
   .rcases HQ h with h|h
    .exact .inl h
    exact .inr (by simp[h])
   exact .inl h
  exact .inr (by simp[h])
theorem Hv {d:List AJ} {l:List ByteArray} {x:ByteArray} (h:x∈A6 d l):x∈l:=by
 unfold A6 RH at h;obtain⟨i,hi,rfl⟩:=Do.1 h;rw[VW,QJ]at hi;rcases Og (BG (d:=ByteArray.empty) hi.1) with h|h
 .cases h
 exact h
theorem fF (d:List AJ) (l:List ByteArray):(A6 d l).length<=l.length:=QB (kH _ _ _) (J0 d l)
theorem pO {l:List ByteArray} (h:∀s∈l,s.size<=32) (k:Nat):(l.getD k ByteArray.empty).size<=32:=by
 rw[AS];cases hh:l[k]? with
 | none=>simp
 | some x=>exact h x (VN hh)
def RT (l:List ByteArray) (n:Nat):ByteArray:=(List.range n).foldl (aN l) ByteArray.empty
theorem Pd (l:List ByteArray) (n:Nat):RT l (n+1)=aN l (RT l n) n:=by
 unfold RT;rw[SQ,AF8];rfl
theorem Xa {l:List ByteArray} (h:∀s∈l,s.size<=32):∀n,(RT l n).size<=33*n
 | 0=>by simp[RT]
 | n+1=>by
  have h1:=Xa h n;have a:=pO h n;rw[Pd];unfold aN;split
  .rw[AES,AES];have:(ByteArray.mk #[38]).size=1:=rfl;omega
  rw[AES];omega
def fG:AZ:={ ins:=[FJ,GD,U0,BT],pre:=λ(d,all,codes,b,_)=>RE d/\List.length d<=256/\List.length all<=256/\List.length codes=List.length all/\(∀s∈(all:List ByteArray),s.size<=32)/\(∀x∈(codes:List (List Int)),x.length<=64)/\List.length b<=64,out:=λ(d,all,codes,b,_)=>[.p T9 (HR d all codes b)] }
theorem A1y:Ab Tryz.prog 164 fG:=by
 refine fK [0,1,2,3,8,9,10,11,12,16,24,31,45,49] Tryz.func164 Tryz.ntmps164 (AF A1l (AF A4f (AF XS AH))) ?_;rintro w0 O0 ⟨d,all,codes,b,u⟩ e-⟨hs,z,t,q,C,y,w⟩;have t:all.length<=256:=t;have q:codes.length=all.length:=q;simp only[fG,AM];repeat'(first|exact trivial|apply eS rfl|refine rX e ?_ ?_)
 refine AI (ι:={x:Nat×List ByteArray//x.1<=all.length/\x.2.length<=x.1/\(∀s∈x.2,s.size<=32)/\zS d all codes b (all.length-x.1) x.1 x.2=zS d all codes b all.length 0 []}) (λx=>⟨[(0,.p FJ d),(1,.p GD all),(2,.p U0 codes),(3,.p BT b),(9,.sr 38 T9 0 x.1.2.length),(10,.p (.int .i64) (x.1.1:Int))],[(38,.arr 9 T9 x.1.2)]⟩) (λx=>all.length-x.1.1) ⟨(0,[]),by simp,by simp,by simp,rfl⟩ (eW [(38,.nil)]) (λx=>?_)
 obtain⟨⟨i,l⟩,hi,B,o,f⟩:=x;simp only at hi B o f;have r:i<all.length->zS d all codes b (all.length-i) i l=if DW (codes.getD i []) b=true then .inl (all.getD i ByteArray.empty) else zS d all codes b (all.length-(i+1)) (i+1) (if VA b (i:Int)=true then l++[all.getD i ByteArray.empty] else l):=by
  intro h;rw[show all.length-i=(all.length-(i+1))+1 by omega];rfl
 simp only;repeat'(first|exact trivial|apply eS rfl|apply AB|refine rX e ?_ ?_|refine rC ?_ ?_<;>intro a<;>try(cases a;done))
 .exact⟨by rw[q];exact a,QB (Mv y i) (by decide),QB w (by decide)⟩
 .assumption
 .have c:i<all.length:=by exact eV
  have j:HR d all codes b=all.getD i ByteArray.empty:=by
   unfold HR;rw[<-f,r c,BY a]
  exact fI e [.tmp 8] (by rw[j];exact eR)
 .have c:i<all.length:=by exact eV
  exact⟨IN.2 c,by simp only[AQ];omega⟩
 .exact eV
 .have c:i<all.length:=by exact eV
  have hn:=r c;rw[An (by rw[‹DW _ _=false›];simp),BY a]at hn;refine⟨⟨(i+1,l++[all.getD i ByteArray.empty]),by simp only;omega,by simp only[IF,Pz];omega,?_,hn.symm.trans f⟩,by simp only;omega,AC [(38,.nm 38)] rfl rfl ?_ ?_⟩
  .intro s hs;rcases OF.1 hs with hs|hs
   .exact o s hs
   have:s=all.getD i ByteArray.empty:=by simpa using hs
   rw[this];exact pO C i
  .exact eN
  exact eN
 .exact eV
 .have c:i<all.length:=by exact eV
  have hn:=r c;rw[An (by rw[‹DW _ _=false›];simp),An (by rw[a];simp)]at hn;exact⟨⟨(i+1,l),by simp only;omega,by simp only;omega,o,hn.symm.trans f⟩,by simp only;omega,eW [(38,.nm 38)]⟩
 have j:HR d all codes b=kP (A6 d l):=by
  unfold HR;rw[<-f];have:all.length-i=0:=by exact eV
  rw[this];rfl
 refine Fe [38] ?_;repeat'(first|exact trivial|apply eS rfl|refine rX e ?_ ?_)
 .exact⟨hs,z,by omega⟩
 have v:∀s∈A6 d l,s.size<=32:=λs h=>o s (Hv h);have E:=fF d l;have A:kP (A6 d l)=RT (A6 d l) (A6 d l).length:=rfl;rw[A]at j;generalize A6 d l=m at *;refine AI (ι:={k:Nat//k<=m.length}) (λk=>⟨[(9,.p GD m),(11,.p T9 (RT m k.1)),(12,.p (.int .i64) (k.1:Int))],[]⟩) (λk=>m.length-k.1) ⟨0,IS _⟩ (AC [] rfl rfl ?_ ?_) (λk=>?_)
 .exact eN
 .refine eM ?_;rfl
 obtain⟨k,hk⟩:=k;have hk:k<=m.length:=hk;have D:=Xa v k;have n:=Pd m k;have F:=pO v k;unfold aN at n;simp only;repeat'(first|exact trivial|apply eS rfl|apply AB|refine rX e ?_ ?_|refine rC ?_ ?_<;>intro a<;>try(cases a;done))
 .have h1:(ByteArray.mk #[38]).size=1:=rfl;rw[h1];simp only[AQ];exact eV
 .refine⟨by assumption,?_⟩;have h1:(ByteArray.mk #[38]).size=1:=rfl;rw[AES,h1];simp only[AQ];exact eV
 .exact eV
 .have g:k<m.length:=by exact eV
  rw[BY a]at n;refine⟨⟨k+1,g⟩,by simp only;omega,AC [] rfl rfl ?_ ?_⟩
  .exact eN
  simp only[n];exact eN
 .refine⟨by assumption,?_⟩;simp only[AQ];exact eV
 .exact eV
 .have g:k<m.length:=by exact eV
  rw[An (ZF.2 a)]at n;refine⟨⟨k+1,g⟩,by simp only;omega,AC [] rfl rfl ?_ ?_⟩
  .exact eN
  simp only[n];exact eN
 have g:k=m.length:=by exact eV
 rw[<-g]at j;exact fI e [.tmp 8] (by rw[j];exact eR)
end
section
attribute [local go_sem] Vs RD A4s fD fG fC
def F5 (x:AU) (out:List AU):Nat->Nat
 | 0=>0
 | n+1=>if GP x (out.getD n c0)=true then F5 x out n else n+1
def fH (out:List AU) (x:AU):List AU:=out.take (F5 x out out.length)++[x]++out.drop (F5 x out out.length)
def AX (d:List AJ):List (List Int):=(AP d).map λs=>E0 d (AP d) s
def Gy (d:List AJ) (all:List ByteArray) (codes:List (List Int)) (out:List AU) (b:List Int):List AU:=fH out (HR d all codes b,b)
def S6 (d:List AJ):List AU->List Int->List AU:=Gy d (AP d) (AX d)
theorem Pe (d:List AJ) (all:List ByteArray) (codes:List (List Int)):∀(l:List (List Int)) (o:List AU),(l.foldl (Gy d all codes) o).length=o.length+l.length
 | [],o=>by simp
 | b :: l,o=>by
  rw[ON,Pe d all codes l];unfold Gy fH;simp only[IF,OS,SM,Of,ZM];omega
theorem Xb {d:List AJ} {all:List ByteArray} {codes:List (List Int)}:∀ {l:List (List Int)} {o:List AU},(∀c∈l,c.length<=64)->(∀y∈o,y.2.length<=64)->∀y∈l.foldl (Gy d all codes) o,y.2.length<=64
 | [],_,_,e=>e
 | b :: l,o,f,e=>by
  rw[ON];refine Xb (λc g=>f c (by simp[g])) (λy a=>?_);unfold Gy fH at a;simp only[OF,QL]at a;rcases a with (a|a)|a
  .exact e y (VM a)
  .rw[a];exact f b (by simp)
  exact e y (ABK a)
theorem kQ (x:AU) (out:List AU):∀n,F5 x out n<=n
 | 0=>Is _
 | n+1=>by
  unfold F5;split
  .exact Nat.le_succ_of_le (kQ x out n)
  exact Is _
def AN (d:List AJ):List AU:=(Ax (AX d)).foldl (S6 d) []
def CB (d:List AJ):List AU×Int :=
 if A8 d≠0 then ([],A8 d) else if 256<(Ax (AX d)).length then ([],7) else (AN d,0)
theorem pP {s:ByteArray} {b:Bool} (h:Ey s b=true):s.size<=32:=by
 unfold Ey at h;rw[AT]at h;have h1:=h.1;unfold Sw at h1;simp only[Px,VP,On]at h1;have:=h1.1.1.2;omega
theorem kR {d:List AJ} (hn:Cp d=0):∀s∈AP d,s.size<=32:=by
 intro s hs;obtain⟨x,b,rfl⟩:=Dh hs;obtain⟨j,a,rfl⟩:=CM d0 b;exact pP (JY hn j a).2
def LZ (d:List AJ) (n:Nat):List (List Int):=((AP d).take n).map λs=>E0 d (AP d) s
theorem pQ {d:List AJ} {n:Nat} (h:n<=(AP d).length):(LZ d n).length=n:=by simp[LZ,h]
theorem kS {d:List AJ} {n:Nat} (h:n<(AP d).length):LZ d (n+1)=LZ d n++[E0 d (AP d) ((AP d).getD n ByteArray.empty)]:=by
 unfold LZ;rw[Au _ ByteArray.empty h,VO];rfl
theorem pR (d:List AJ):LZ d (AP d).length=AX d:=by simp[LZ,AX]
theorem pS (d:List AJ):(AX d).length=(AP d).length:=by simp[AX]
theorem Pf {d:List AJ} (h:d.length<=256):∀c∈AX d,c.length<=64:=by
 intro c a;unfold AX at a;obtain⟨s,-,rfl⟩:=Do.1 a;have b:=EE d d.length;rw[QD]at b;exact(CA (d:=d) (all:=AP d) (by omega) s 0).2.2
theorem kT {i:Nat}:∀ {n k:Nat} {l:List (List Int)},(∀c∈l,c.length<=64)->∀c∈Gx i n k l,c.length<=64
 | 0,_,_,h=>h
 | n+1,k,l,h=>by
  unfold Gx;split
  .exact kT (kL h i k)
  exact h
theorem RU:∀ {n i:Nat} {l:List (List Int)},(∀c∈l,c.length<=64)->∀c∈Ie n i l,c.length<=64
 | 0,_,_,h=>h
 | n+1,i,l,h=>by
  unfold Ie;split
  .exact RU (kT h)
  exact h
theorem kU {out:List AU} {x y:AU}:y∈fH out x↔y=x\/y∈out:=by
 unfold fH;rw[OF,OF,QL];have h:=OF (a:=y) (s:=out.take (F5 x out out.length)) (t:=out.drop (F5 x out out.length));rw[ABj]at h;rw[h];constructor
 .rintro ((h|h)|h)
  .exact .inr (.inl h)
  .exact .inl h
  exact .inr (.inr h)
 rintro (h|h|h)
 .exact .inl (.inr h)
 .exact .inl (.inl h)
 exact .inr h
def S7:AZ:={ ins:=[FJ],pre:=λ_=>True,out:=λ(d,_)=>[.p KR (CB d).1,.p MG (CB d).2] }
theorem RW:Ab Tryz.prog 118 S7:=by
 refine fK [0,2,3,4,5,6,7,8,9,10,11,12,13,17,24,41,45,73] Tryz.func118 Tryz.ntmps118 (AF A1r (AF aD (AF A8y (AF A1w (AF A1y (AF A1u AH)))))) ?_;rintro w0 O0 ⟨d,u⟩ g - -;simp only[S7,AM];repeat'(first|exact trivial|apply eS rfl|refine rX g ?_ ?_|refine rC ?_ ?_<;>intro a<;>try(cases a;done))
 .have h1:CB d=([],A8 d):=by unfold CB;rw[BY a]
  exact fI g [.tmp 2,.tmp 3] (by rw[h1];exact eR)
 .have i:A8 d=0:=by simpa using a
  obtain⟨-,E,-⟩:=A0 i;exact QB E (by decide)
 have i:A8 d=0:=by simpa using a
 obtain⟨M,s,-,hn,-⟩:=A0 i;have F:=EE d d.length;rw[QD]at F;have N:=kR hn;refine AI (ι:={n:Nat//n<=(AP d).length}) (λn=>⟨[(0,.p FJ d),(5,.p GD (AP d)),(6,.sr 36 BT 0 (LZ d n.1).length),(7,.p (.int .i64) (n.1:Int))],[(36,.arr 140 BT (LZ d n.1))]⟩) (λn=>(AP d).length-n.1) ⟨0,IS _⟩ (AC [(36,.nil)] rfl rfl ?_ ?_) (λn=>?_)
 .refine eM ?_;rfl
 .refine eM ?_;rfl
 obtain⟨n,I⟩:=n;have Q:=pQ I;have hs:=λh=>kS (d:=d) (n:=n) h;simp only;repeat'(first|exact trivial|apply eS rfl|apply AB|refine rX g ?_ ?_|refine rC ?_ ?_<;>intro a<;>try(cases a;done))
 .refine⟨a,⟨s,by dsimp only[Ty.den]at *;omega⟩,?_⟩;simp only[AQ];dsimp only[Ty.den]at *;omega
 .exact eV
 .have w:n<(AP d).length:=by exact eV
  have e:=hs w;refine⟨⟨n+1,by omega⟩,by simp only;omega,AC [(36,.nm 36)] rfl rfl ?_ ?_⟩
  .simp only[e];exact eN
  simp only[e];exact eN
 have w:n=(AP d).length:=by exact eV
 subst w;rw[pR];have H:=pS d;have x:=Pf s;have t:∀c∈Ax (AX d),c.length<=64:=RU x;refine Fe [36] ?_;repeat'(first|exact trivial|apply eS rfl|refine rX g ?_ ?_|refine rC ?_ ?_<;>intro a<;>try(cases a;done))
 .exact⟨by omega,x⟩
 .have h1:CB d=([],7):=by
   unfold CB;rw[An (by rw[i];simp),BY (by omega)]
  exact fI g [.tmp 2,.tmp 3] (by rw[h1];exact eR)
 have D:CB d=((Ax (AX d)).foldl (Gy d (AP d) (AX d)) [],0):=by
  unfold CB;rw[An (by rw[i];simp),An (by omega)];rfl
 generalize Ax (AX d)=f at *;generalize AX d=codes at *;generalize AP d=all at *;refine AI (ι:={k:Nat//k<=f.length}) (λk=>⟨[(0,.p FJ d),(5,.p GD all),(6,.p U0 codes),(8,.p U0 f),(9,.sr 9 eK 0 ((f.take k.1).foldl (Gy d all codes) []).length),(10,.p (.int .i64) (k.1:Int))],[(9,.arr 152 eK ((f.take k.1).foldl (Gy d all codes) []))]⟩) (λk=>f.length-k.1) ⟨0,IS _⟩ (AC [(9,.nil)] rfl rfl ?_ ?_) (λk=>?_)
 .refine eM ?_;rfl
 .refine eM ?_;rfl
 obtain⟨k,hk⟩:=k;have C:=Pe d all codes (f.take k) [];have O:(f.take k).length=k:=by rw[OS];exact ABO hk
 have J:=Xb (d:=d) (all:=all) (codes:=codes) (l:=f.take k) (o:=[]) (λc g=>t c (VM g)) (by simp);have L:=λh:k<f.length=>FB (Gy d all codes) f [] [] h;rw[O]at C;simp only[ZM,iN]at C;generalize B:(f.take k).foldl (Gy d all codes) []=out at *;simp only;repeat'(first|exact trivial|apply eS rfl|refine rX g ?_ ?_|refine rC ?_ ?_<;>intro a<;>try(cases a;done))
 .exact⟨a,⟨M,s,by omega,H,N,x,Mv t k⟩,a⟩
 .have v:k<f.length:=by exact eV
  have e:=L v;have G:=Mv t k;generalize f.getD k []=b at *;unfold Gy at e;generalize HR d all codes b=nm at *;refine AI (ι:={q:Nat//q<=out.length/\F5 (nm,b) out q=F5 (nm,b) out out.length}) (λq=>⟨[(0,.p FJ d),(5,.p GD all),(6,.p U0 codes),(8,.p U0 f),(9,.sr 9 eK 0 out.length),(10,.p (.int .i64) (k:Int)),(11,.bp 11 [] 0),(12,.p (.int .i64) (q.1:Int))],[(9,.arr 152 eK out),(11,.box 152 true [.p T9 nm,.p BT b])]⟩) (λq=>q.1) ⟨out.length,Is _,rfl⟩ (eW [(9,.nm 9),(11,.nm 11)]) (λq=>?_)
  obtain⟨q,j,A⟩:=q;have j:q<=out.length:=j;simp only;repeat'(first|exact trivial|apply eS rfl|apply AB|refine rX g ?_ ?_|refine rC ?_ ?_<;>intro a<;>try(cases a;done))
  .refine⟨λh=>by omega,λh=>by exact eV,λh=>⟨QB G (by decide),QB (J _ (AD out c0 (k:=((q:Int)-1).toNat) (by omega))) (by decide)⟩⟩
  .omega
  .obtain⟨P,z⟩:=a;obtain⟨q,rfl⟩:∃r,q=r+1:=⟨q-1,by omega⟩;have m:((q+1:Nat):Int)-1=(q:Int):=by omega
   refine⟨⟨q,by omega,?_⟩,AFS q,AC [(9,.nm 9),(11,.nm 11)] rfl rfl ?_ ?_⟩
   .rw[<-A];rw[m,P0]at z;show _=if GP (nm,b) (out.getD q c0)=true then F5 (nm,b) out q else q+1
    rw[BY z]
   .exact eN
   refine eM ?_;show (q:Int)+1-1=q;omega
  .refine⟨P6.2 j,?_⟩;rw[OS];simp only[AQ];omega
  .rw[OS];simp only[AQ];omega
  .refine⟨P6.2 j,?_⟩;rw[OS,SM];simp only[AQ];omega
  .omega
  have K:F5 (nm,b) out q=q:=by
   cases q with
   | zero=>rfl
   | succ q =>
    have m:((q+1:Nat):Int)-1=(q:Int):=by omega
    have:=a (by omega);rw[m,P0]at this;show (if GP (nm,b) (out.getD q c0)=true then F5 (nm,b) out q else q+1)=q+1;rw[An (by rw[this];simp)]
  unfold fH at e;rw[<-A,K]at e;refine⟨⟨k+1,by omega⟩,by simp only;omega,AC [(9,.nm 80)] rfl rfl ?_ ?_⟩
  .refine eM ?_;exact e.symm
  refine eM ?_;have y:=bY List.length e;rw[IF,IF]at y;exact y.symm
 have v:k=f.length:=by exact eV
 rw[v,QD]at B;rw[B]at D;refine Fe [9] ?_;exact fI g [.tmp 2,.tmp 3] (by rw[D];exact eR)
end
theorem aO {d:List AJ}:∀ {l:List (List Int)} {o:List AU} {y:AU},y∈l.foldl (S6 d) o↔y∈o\/∃b∈l,y=(HR d (AP d) (AX d) b,b)
 | [],o,y=>by simp
 | b :: l,o,y=>by
  rw[ON,aO];unfold S6 Gy;rw[kU];simp only[DO];constructor
  .rintro ((h|h)|⟨c,a,e⟩)
   .exact .inr ⟨b,.inl rfl,h⟩
   .exact .inl h
   exact .inr ⟨c,.inr a,e⟩
  rintro (h|⟨c,rfl|a,e⟩)
  .exact .inl (.inr h)
  .exact .inl (.inl e)
  exact .inr ⟨c,a,e⟩
theorem Di {d:List AJ} {y:AU}:y∈AN d↔∃b∈Ax (AX d),y=(HR d (AP d) (AX d) b,b):=by
 unfold AN;rw[aO];simp
theorem Ij (d:List AJ):(AN d).length=(Ax (AX d)).length:=by
 have h:=Pe d (AP d) (AX d) (Ax (AX d)) [];rw[ZM,iN]at h;exact h
theorem A4y {l:List (List Int)} {i k:Nat} {c:List Int} (h:c∈l):c∈Gw l i k:=by
 unfold Gw;split
 .exact OF.2 (.inl h)
 exact h
theorem kV {i:Nat} {c:List Int}:∀ {n k:Nat} {l:List (List Int)},c∈l->c∈Gx i n k l
 | 0,_,_,h=>h
 | n+1,k,l,h=>by
  unfold Gx;split
  .exact kV (A4y h)
  exact h
theorem kW {c:List Int}:∀ {n i:Nat} {l:List (List Int)},c∈l->c∈Ie n i l
 | 0,_,_,h=>h
 | n+1,i,l,h=>by
  unfold Ie;split
  .exact kW (kV h)
  exact h
theorem JZ (d:List AJ) {i:Nat} (h:i<(AP d).length):(AX d).getD i []=E0 d (AP d) ((AP d).getD i ByteArray.empty):=by
 unfold AX;simp[AS,h]
theorem zT {d:List AJ} (hn:Cp d=0) (f:d.length<=(Bm d).length) (c:d.length<=256) {j:Nat} (b:j<(AP d).length):∀(m i:Nat) (l:List ByteArray),i+m=(AP d).length->i<=j ->
  ∃s,zS d (AP d) (AX d) ((AX d).getD j []) m i l=.inl s/\AY s ((AP d).getD j ByteArray.empty)=true
 | 0,i,l,h,g=>by omega
 | m+1,i,l,h,g=>by
  unfold zS;split
  .rename_i a;refine⟨_,rfl,?_⟩;rw[JZ d (by omega),JZ d b]at a;exact kO hn f c (by omega) b a
  rename_i a;have k:i≠j:=by
   intro e;subst e;exact a (kN _)
  exact zT hn f c b m (i+1) _ (by omega) (by omega)
theorem zU (s:ByteArray):∀(l:List AU) (k:Nat),Mu s k l<((k+l.length:Nat):Int)
 | [],k=>by simp only[Mu];omega
 | x :: l,k=>by
  simp only[Mu];split
  .simp only[Of];omega
  have:=zU s l (k+1);simp only[Of];omega
theorem zV (s:ByteArray):∀(l:List AU) (k:Nat) (x:AU),x∈l->AY x.1 s=true->0<=Mu s k l
 | [],_,_,h,_=>by cases h
 | y :: l,k,x,h,e=>by
  simp only[Mu];split
  .omega
  rename_i a;rcases DO.1 h with rfl|h
  .exact absurd e a
  exact zV s l (k+1) x h e
theorem Ik (l:List AU) (s:ByteArray):BO l s<(l.length:Int):=by
 have:=zU s l 0;rw[iN]at this;exact this
theorem HS {d:List AJ} (h:A8 d=0) {s:ByteArray} (hs:Aa (AP d) s=true):0<=BO (AN d) s:=by
 obtain⟨-,b,-,hn,f⟩:=A0 h;obtain⟨t,g,e⟩:=QC.1 hs;obtain⟨j,c,rfl⟩:=CM ByteArray.empty g;obtain⟨u,hu,a⟩:=zT hn f b c (AP d).length 0 [] (by omega) (by omega);have i:(AX d).length=(AP d).length:=by simp[AX]
 refine zV s (AN d) 0 (u,(AX d).getD j []) ?_ (BZ a e);rw[Di];refine⟨(AX d).getD j [],kW (BG (by omega)),?_⟩;unfold HR;rw[hu]
theorem UW {d:List AJ} (h:A8 d=0) {x:AJ} (a:x∈d):0<=BO (AN d) x.1:=HS h (Pc a)
theorem Ba {d:List AJ} (h:(CB d).2=0):A8 d=0/\(Ax (AX d)).length<=256/\(CB d).1=AN d:=by
 unfold CB at h ⊢;split at h
 .rename_i h1;exact absurd h h1
 rename_i h1;split at h
 .cases h
 rename_i a;exact⟨GO h1,by omega,by rw[An h1,An a]⟩
theorem zW {d:List AJ} (h:A8 d=0):0<(AN d).length:=by
 obtain⟨-,-,a,-,-⟩:=A0 h;cases d with
 | nil=>cases a
 | cons x d =>
  have:=UW h (x:=x) (by simp);have b:=Ik (AN (x :: d)) x.1;omega
section
attribute [local go_sem] zQ
def AAW (l:List AU) (i k:Int) (m:Nat):Bool:=(m:Int)==i||(m:Int)==k||!Ly l k (m:Int)||!Ly l (m:Int) i
def A1z (l:List AU) (i k:Int) (n:Nat):Bool:=(List.range n).all (AAW l i k)
def A1A (l:List AU) (i:Int) (k:Nat):Bool:=!((k:Int)==i||!Ly l (k:Int) i)&&A1z l i (k:Int) l.length
def Oh (l:List AU) (i:Int) (n:Nat):List Int:=((List.range n).filter λ(k:Nat)=>A1A l i k).map λ(k:Nat)=>(k:Int)
def aP (l:List AU) (i:Int):List Int:=Oh l i l.length
theorem pT (l:List AU) (i:Int) (n:Nat):Oh l i (n+1)=Oh l i n++if A1A l i n=true then [(n:Int)] else []:=by
 unfold Oh;rw[SQ,AEE,VO]
 congr 1
 rw[VL,AFl];split<;>rfl
theorem A1B (l:List AU) (i:Int) (n:Nat):(Oh l i n).length<=n:=by
 unfold Oh;rw[Py];exact QB (VI _ _) (by simp)
theorem A1C (l:List AU) (i k:Int) (n:Nat):A1z l i k (n+1)=(A1z l i k n&&AAW l i k n):=by
 unfold A1z;rw[SQ,AFa];simp
def A4z:AZ:={ ins:=[KR,T3],pre:=λ(l,i,_)=>((0:Int)<=i/\i<(List.length l:Int))/\List.length l<=256/\(∀x∈(l:List AU),x.2.length<=64),out:=λ(l,i,_)=>[.p F2 (aP l i)] }
theorem A8E:Ab Tryz.prog 119 A4z:=by
 refine fK [0,1,4,5,6,7,8,12,24,28,56] Tryz.func119 Tryz.ntmps119 (AF zR AH) ?_;rintro w0 O0 ⟨l,i,u⟩ c-⟨hi,g,o⟩;have g:l.length<=256:=g;have f:∀x∈(l:List AU),x.2.length<=100000:=λx h=>QB (o x h) (by decide);simp only[A4z,AM];repeat'(first|exact trivial|apply eS rfl|refine rX c ?_ ?_)
 refine AI (ι:={k:Nat//k<=l.length}) (λk=>⟨[(0,.p KR l),(1,.p T3 i),(5,.sr 60 T3 0 (Oh l i k.1).length),(6,.p (.int .i64) (k.1:Int))],[(60,.arr 3 T3 (Oh l i k.1))]⟩) (λk=>l.length-k.1) ⟨0,IS _⟩ (AC [(60,.nil)] rfl rfl ?_ ?_) (λk=>?_)
 .refine eM ?_;rfl
 .refine eM ?_;rfl
 obtain⟨k,hk⟩:=k;have hk:k<=l.length:=hk;have q:=A1B l i k;have hs:=pT l i k;simp only;repeat'(first|exact trivial|apply eS rfl|apply AB|refine rX c ?_ ?_|refine rC ?_ ?_<;>intro a<;>try(cases a;done))
 .intro h;exact⟨by assumption,hi,f⟩
 .exact eV
 .have e:k<l.length:=by exact eV
  have b:A1A l i k=false:=by
   unfold A1A;rw[ZK];left;rw[iS,QO,SJ,Px];exact a
  rw[b,An (by simp),QQ]at hs;refine⟨⟨k+1,by omega⟩,by simp only;omega,AC [(60,.nm 60)] rfl rfl ?_ ?_⟩
  .simp only[hs];exact eN
  simp only[hs];exact eN
 .have e:k<l.length:=by exact eV
  have b:A1A l i k=A1z l i (k:Int) l.length:=by
   unfold A1A;rw[show ((k:Int)==i||!Ly l (k:Int) i)=false by
    rw[VP,VX,iS];exact a]
   rfl
  refine AI (ι:={m:Nat//m<=l.length}) (λm=>⟨[(0,.p KR l),(1,.p T3 i),(5,.sr 60 T3 0 (Oh l i k).length),(6,.p (.int .i64) (k:Int)),(7,.p .bool (A1z l i (k:Int) m.1)),(8,.p (.int .i64) (m.1:Int))],[(60,.arr 3 T3 (Oh l i k))]⟩) (λm=>l.length-m.1) ⟨0,IS _⟩ (AC [(60,.nm 60)] rfl rfl ?_ ?_) (λm=>?_)
  .exact eN
  .refine eM ?_;rfl
  obtain⟨m,j⟩:=m;have j:m<=l.length:=j;have n:=A1C l i (k:Int) m;simp only;repeat'(first|exact trivial|apply eS rfl|apply AB|refine rX c ?_ ?_|refine rC ?_ ?_<;>intro a<;>try(cases a;done))
  .exact⟨λh=>⟨by assumption,a,f⟩,λh=>⟨a,hi,f⟩⟩
  .exact eV
  .have d:m<l.length:=by exact eV
   refine⟨⟨m+1,by omega⟩,by simp only;omega,AC [(60,.nm 60)] rfl rfl ?_ ?_⟩
   .exact eN
   simp only[n];unfold AAW;exact eN
  .simp only[AQ];dsimp only[Ty.den]at *;omega
  .exact eV
  .have d:m=l.length:=by exact eV
   subst d;rw[b,BY a]at hs;refine⟨⟨k+1,by omega⟩,by simp only;omega,AC [(60,.nm 60)] rfl rfl ?_ ?_⟩
   .simp only[hs];exact eN
   simp only[hs];exact eN
  .exact eV
  have d:m=l.length:=by exact eV
  subst d;rw[b,An (by rw[a];simp),QQ]at hs;refine⟨⟨k+1,by omega⟩,by simp only;omega,AC [(60,.nm 60)] rfl rfl ?_ ?_⟩
  .simp only[hs];exact eN
  simp only[hs];exact eN
 have e:k=l.length:=by exact eV
 subst e;refine Fe [60] ?_;exact fI c [.tmp 4] (by unfold aP;exact eR)
end
section
attribute [local go_sem] RD XN Jy
abbrev FV:=ByteArray×ByteArray
abbrev f0V:FV:=(ByteArray.empty,ByteArray.empty)
def dcG (all:List ByteArray) (l:List FV):Nat->List FV->Int
 | _,[]=>0
 | k,x :: r=>if Ey x.1 true=false then 1 else if ((l.take k).any λy=>AY y.1 x.1)=true then 4 else if Aa all x.2=false then 5 else dcG all l (k+1) r
def fJ (all:List ByteArray):List AJ->Int
 | []=>0
 | x :: l=>if dcG all x.2.2 0 x.2.2≠0 then dcG all x.2.2 0 x.2.2 else fJ all l
def La (d:List AJ):Int:=fJ (AP d) d
theorem A4A (all:List ByteArray) (l:List FV) {k:Nat} (h:k<l.length):dcG all l k (l.drop k)=if Ey (l.getD k f0V).1 true=false then 1 else if ((l.take k).any λy=>AY y.1 (l.getD k f0V).1)=true then 4 else if Aa all (l.getD k f0V).2=false then 5 else dcG all l (k+1) (l.drop (k+1)):=by
 rw[OR h];have e:l.getD k f0V=l[k]:=by simp[AS,h]
 rw[e];rfl
theorem A1D (all:List ByteArray) (l:List AJ) {k:Nat} (h:k<l.length):fJ all (l.drop k)=if dcG all (l.getD k d0).2.2 0 (l.getD k d0).2.2≠0 then dcG all (l.getD k d0).2.2 0 (l.getD k d0).2.2 else fJ all (l.drop (k+1)):=by
 rw[OR h];have e:l.getD k d0=l[k]:=by simp[AS,h]
 rw[e];rfl
def pU:AZ:={ ins:=[FJ],pre:=λ(d,_)=>List.length d<=256,out:=λ(d,_)=>[.p MG (La d)] }
theorem A4B:Ab Tryz.prog 193 pU:=by
 refine fK [0,2,3,4,5,6,7,13,24,33,36,49,57] Tryz.func193 Tryz.ntmps193 (AF aD (AF pC (AF HP AH))) ?_;rintro w0 O0 ⟨d,u⟩ c ⟨⟨x,v⟩,-⟩ j;have j:d.length<=256:=j;simp only[pU,AM];repeat'(first|exact trivial|apply eS rfl|refine rX c ?_ ?_)
 .exact QB j (by decide)
 have w:La d=fJ (AP d) d:=rfl;rw[w];generalize AP d=all at *;refine AI (ι:={i:Nat//i<=d.length/\fJ all (d.drop i)=fJ all d}) (λi=>⟨[(0,.p FJ d),(3,.p GD all),(4,.p (.int .i64) (i.1:Int))],[]⟩) (λi=>d.length-i.1) ⟨0,IS _,rfl⟩ (eW []) (λi=>?_)
 obtain⟨i,hi,hf⟩:=i;simp only;repeat'(first|exact trivial|apply eS rfl|refine rX c ?_ ?_|refine rC ?_ ?_<;>intro a<;>try(cases a;done))
 .exact a
 .have o:i<d.length:=by exact eV
  rw[A1D all d o]at hf;have A:(d.getD i d0).2.2.length<=AQ:=(v _ (AD d d0 o)).2.2.1;have z:(List.getD d i (ByteArray.empty,[],[])).2.2=(d.getD i d0).2.2:=rfl;rw[z];generalize (d.getD i d0).2.2=l at *;simp only[AQ]at A;refine AI (ι:={k:Nat//k<=l.length/\dcG all l k (l.drop k)=dcG all l 0 l}) (λk=>⟨[(0,.p FJ d),(3,.p GD all),(4,.p (.int .i64) (i:Int)),(5,.p jX l),(6,.p (.int .i64) (k.1:Int))],[]⟩) (λk=>l.length-k.1) ⟨0,IS _,rfl⟩ (eW []) (λk=>?_)
  obtain⟨k,hk,b⟩:=k;have r:=λh:k<l.length=>A4A all l h;simp only;repeat'(first|exact trivial|apply eS rfl|apply AB|refine rX c ?_ ?_|refine rC ?_ ?_<;>intro a<;>try(cases a;done))
  .exact a
  .have e:k<l.length:=by exact eV
   rw[r e,BY a]at b;rw[<-b,BY (by decide)]at hf;exact fI c [.tmp 2] (by rw[<-hf];exact eR)
  .have e:k<l.length:=by exact eV
   have q:(k:Int)<(l.length:Int):=IN.2 e;rw[r e,An (by rw[a];simp)]at b;refine AI (ι:={m:Nat//m<=k/\((l.take m).any λy=>AY y.1 (l.getD k f0V).1)=false}) (λm=>⟨[(0,.p FJ d),(3,.p GD all),(4,.p (.int .i64) (i:Int)),(5,.p jX l),(6,.p (.int .i64) (k:Int)),(7,.p (.int .i64) (m.1:Int))],[]⟩) (λm=>k-m.1) ⟨0,IS _,rfl⟩ (eW []) (λm=>?_)
   obtain⟨m,B,g⟩:=m;have s:=λh:m<l.length=>Nq l f0V (λy=>AY y.1 (l.getD k f0V).1) h;simp only;repeat'(first|exact trivial|apply eS rfl|apply AB|refine rX c ?_ ?_|refine rC ?_ ?_<;>intro a<;>try(cases a;done))
   .have h1:(m:Int)<(k:Int):=a;exact⟨by exact eV,q⟩
   .have f:m<k:=IN.1 (by assumption);have n:=s (by omega);have t:((l.take k).any λy=>AY y.1 (l.getD k f0V).1)=true:=by
     rw[QC];exact⟨l.getD m f0V,by
      rw[AET];refine⟨m,by omega,?_⟩;simp[AS,show m<l.length by omega],a⟩
    rw[BY t]at b;rw[<-b,BY (by decide)]at hf;exact fI c [.tmp 2] (by rw[<-hf];exact eR)
   .omega
   .have f:m<k:=IN.1 (by assumption);have n:=s (by omega);refine⟨⟨m+1,by omega,?_⟩,by simp only;omega,AC [] rfl rfl ?_ ?_⟩
    .rw[n,g];exact a
    .exact eN
    exact eN
   .exact q
   .have f:m=k:=by omega
    subst f;rw[An (by rw[g];simp),BY a]at b;rw[<-b,BY (by decide)]at hf;exact fI c [.tmp 2] (by rw[<-hf];exact eR)
   .have:=x;simp only[AQ]at this;omega
   have f:m=k:=by omega
   subst f;rw[An (by rw[g];simp),An (by rw[a];simp)]at b;exact⟨⟨m+1,by omega,b⟩,by simp only;omega,eW []⟩
  .omega
  have e:l.drop k=[]:=B0 (P6.1 a);rw[e]at b;rw[<-b,An (by simp[dcG])]at hf;exact⟨⟨i+1,by omega,hf⟩,by simp only;omega,eW []⟩
 have e:d.drop i=[]:=B0 (by exact eV);rw[e]at hf;exact fI c [.tmp 2] (by rw[<-hf];first|exact eR|refine UO ?_;rfl)
end
section
attribute [local go_sem] fB eL Mt cs0
def Ho (s:ByteArray) (o:List ByteArray) (x:AJ):List ByteArray:=if (DN x s).2=true then Ec o x.1 else o
def Fm (d:List AJ) (s:ByteArray):List ByteArray:=d.foldl (Ho s) []
theorem pV (s:ByteArray) (d:List AJ) (k:Nat):(Fm (d.take k) s).length<=k:=by
 have key:∀(l:List AJ) (o:List ByteArray),(l.foldl (Ho s) o).length<=o.length+l.length:=by
  intro l;induction l with
  | nil=>intro o;simp
  | cons x l b =>
   intro o;have h1:=b (Ho s o x);have a:(Ho s o x).length<=o.length+1:=by
    unfold Ho;split
    .exact Mr o x.1
    omega
   simp only[ON,Of];omega
 have h1:=key (d.take k) [];have a:=VS k d;unfold Fm;simp only[ZM]at h1;omega
def Dj (d:List AJ) (s:ByteArray):ByteArray×Bool:=if (A6 d (Fm d s)).length=1 then ((A6 d (Fm d s)).getD 0 ByteArray.empty,true) else (ByteArray.empty,false)
def fL:AZ:={ ins:=[FJ,T9],pre:=λ(d,_,_)=>RE d/\List.length d<=256,out:=λ(d,s,_)=>[.p T9 (Dj d s).1,.p .bool (Dj d s).2] }
theorem kX:Ab Tryz.prog 167 fL:=by
 refine fK [0,1,4,5,6,7,9,10,14,26,39] Tryz.func167 Tryz.ntmps167 (AF kJ (AF Sx (AF XS AH))) ?_;rintro w0 O0 ⟨d,s,u⟩ c-⟨l,f⟩;have f:d.length<=256:=f;simp only[fL,AM];repeat'(first|exact trivial|apply eS rfl|refine rX c ?_ ?_)
 refine AI (ι:={i:Nat//i<=d.length}) (λi=>⟨[(0,.p FJ d),(1,.p T9 s),(6,.p GD (Fm (d.take i.1) s)),(7,.p (.int .i64) (i.1:Int))],[]⟩) (λi=>d.length-i.1) ⟨0,IS _⟩ (AC [] rfl rfl ?_ ?_) (λi=>?_)
 .exact eN
 .refine eM ?_;rfl
 obtain⟨i,hi⟩:=i;have hi:i<=d.length:=hi;have hn:=pV s d i;have hs:=λh:i<d.length=>FB (Ho s) d d0 [] h;have j:∀e,Fm e s=e.foldl (Ho s) []:=λ_=>rfl;rw[<-j,<-j]at hs;unfold Ho at hs;simp only;repeat'(first|exact trivial|apply eS rfl|apply AB|refine rX c ?_ ?_|refine rC ?_ ?_<;>intro a<;>try(cases a;done))
 .exact a
 .exact⟨by assumption,by omega⟩
 .exact eV
 .have b:i<d.length:=by exact eV
  have e:=hs b;rw[BY a]at e;refine⟨⟨i+1,by omega⟩,by simp only;omega,AC [] rfl rfl ?_ ?_⟩
  .exact eN
  simp only[e];exact eN
 .exact eV
 .have b:i<d.length:=by exact eV
  have e:=hs b;rw[An (by rw[a];simp)]at e;refine⟨⟨i+1,by omega⟩,by simp only;omega,AC [] rfl rfl ?_ ?_⟩
  .exact eN
  simp only[e];exact eN
 .exact⟨l,f,by omega⟩
 .have b:d.take i=d:=As (by exact eV);rw[b]at a ⊢;have h1:Dj d s=(ByteArray.empty,false):=by
   unfold Dj;rw[An (by omega)]
  exact fI c [.tmp 4,.tmp 5] (by rw[h1];first|exact eR|refine UO ?_;first|rfl|exact⟨rfl,rfl⟩)
 .have g:((A6 d (Fm (d.take i) s)).length:Int)=1:=by simpa using a
  have k:(0:Int)<((A6 d (Fm (d.take i) s)).length:Int):=by rw[g];decide
  exact k
 have b:d.take i=d:=As (by exact eV);rw[b]at a ⊢;have g:((A6 d (Fm d s)).length:Int)=1:=by simpa using a
 have h1:Dj d s=((A6 d (Fm d s)).getD 0 ByteArray.empty,true):=by
  unfold Dj;rw[BY (by omega)]
 exact fI c [.tmp 4,.tmp 5] (by rw[h1];exact eR)
end
section
attribute [local go_sem] fB Vt zQ A4g
def KV (l:List AU) (t:Int) (s:ByteArray) (o:List Int×Bool) (x:AJ):List Int×Bool :=
 if (!(DN x s).2||!Ly l (BO l x.1) t)=true then o else (Ej o.1 (l.getD (BO l (DN x s).1).toNat c0).2,true)
def Fq (d:List AJ) (l:List AU) (t:Int) (s:ByteArray):List Int×Bool:=d.foldl (KV l t s) ((l.getD 0 c0).2,false)
def pW (d:List AJ) (l:List AU):Prop:=(∀x∈d,0<=BO l x.1)/\∀x∈d,∀y∈x.2.2,0<=BO l y.2
theorem kY (s:ByteArray):∀(l:List (ByteArray×ByteArray)),(kI s l).2=true->∃y∈l,y.2=(kI s l).1
 | [],h=>by cases h
 | x :: l,h=>by
  simp only[kI]at h ⊢;split at h
  .rename_i h1;rw[BY h1];exact⟨x,by simp,rfl⟩
  rename_i h1;rw[An h1];obtain⟨y,a,e⟩:=kY s l h;exact⟨y,by simp[a],e⟩
theorem pW.value {d:List AJ} {l:List AU} (h:pW d l) {x:AJ} (b:x∈d) {s:ByteArray} (a:(DN x s).2=true):0<=BO l (DN x s).1:=by
 obtain⟨y,c,e⟩:=kY s x.2.2 a;have:=h.2 x b y c;rw[e]at this;exact this
theorem A4C {l:List AU} (t:Int) (s:ByteArray) (x:AJ) {o:List Int×Bool} (h:o.1.length<=64):(KV l t s o x).1.length<=64:=by
 unfold KV;split
 .exact h
 exact QB (kK _ _) h
theorem Xc {l:List AU} (t:Int) (s:ByteArray):∀(d:List AJ) {o:List Int×Bool},o.1.length<=64->(d.foldl (KV l t s) o).1.length<=64
 | [],_,h=>h
 | x :: d,_,h=>by rw[ON];exact Xc t s d (A4C t s x h)
theorem kZ (s:ByteArray):∀(l:List AU) (k:Nat),Mu s k l<((k+l.length:Nat):Int)
 | [],k=>by simp only[Mu];omega
 | x :: l,k=>by
  simp only[Mu];split
  .simp only[Of];omega
  have:=kZ s l (k+1);simp only[Of];omega
theorem UX (l:List AU) (s:ByteArray):BO l s<(l.length:Int):=by
 have:=kZ s l 0;rw[iN]at this;exact this
def A8G:AZ:={ ins:=[FJ,KR,T3,T9],pre:=λ(d,l,t,_,_)=>pW d l/\((0:Int)<=t/\t<(List.length l:Int))/\List.length l<=256/\(∀x∈(l:List AU),x.2.length<=64),out:=λ(d,l,t,s,_)=>[.p BT (Fq d l t s).1,.p .bool (Fq d l t s).2] }
theorem A4D:Ab Tryz.prog 158 A8G:=by
 refine fK [0,1,2,3,8,9,10,11,12,13,14,22,48] Tryz.func158 Tryz.ntmps158 (AF kJ (AF aH (AF zR (AF A4h AH)))) ?_;rintro w0 O0 ⟨d,l,t,s,u⟩ f ⟨⟨A,G⟩,-⟩ ⟨r,j,n,w⟩;have n:l.length<=256:=n;have F:∀x∈(l:List AU),x.2.length<=100000:=λx h=>QB (w x h) (by decide);have q:0<List.length l:=IN.1 (AGb j.1 j.2);simp only[AQ]at A;simp only[A8G,AM];repeat'(first|exact trivial|apply eS rfl|refine rX f ?_ ?_)
 .exact IN.2 q
 have m:Fq d l t s=d.foldl (KV l t s) ((l.getD 0 c0).2,false):=rfl;have y:(l.getD 0 c0).2.length<=64:=w _ (AD l c0 q);have z:(List.getD l 0 (ByteArray.empty,[])).2=(l.getD 0 c0).2:=rfl;rw[z];generalize (l.getD 0 c0).2=c at *;refine AI (ι:={i:Nat//i<=d.length}) (λi=>⟨[(0,.p FJ d),(1,.p KR l),(2,.p T3 t),(3,.p T9 s),(10,.p .bool ((d.take i.1).foldl (KV l t s) (c,false)).2),(11,.p BT ((d.take i.1).foldl (KV l t s) (c,false)).1),(12,.p (.int .i64) (i.1:Int))],[]⟩) (λi=>d.length-i.1) ⟨0,IS _⟩ (AC [] rfl rfl ?_ ?_) (λi=>?_)
 .exact eN
 .refine eM ?_;exact⟨rfl,rfl⟩
 obtain⟨i,hi⟩:=i;have hi:i<=d.length:=hi;have B:=Xc (l:=l) t s (d.take i) (o:=(c,false)) y;have hs:=λh:i<d.length=>FB (KV l t s) d d0 (c,false) h;have E:=λh:i<d.length=>r.1 _ (AD d d0 h);have D:=λ(h:i<d.length) (g:(DN (d.getD i d0) s).2=true)=>r.value (AD d d0 h) g;have k:∀o x,KV l t s o x=(if (!(DN x s).2||!Ly l (BO l x.1) t)=true then o else (Ej o.1 (l.getD (BO l (DN x s).1).toNat c0).2,true)):=λ_ _=>rfl;generalize v:(d.take i).foldl (KV l t s) (c,false)=o at *;simp only;repeat'(first|exact trivial|apply eS rfl|apply AB|refine rX f ?_ ?_|refine rC ?_ ?_<;>intro a<;>try(cases a;done))
 .exact a
 .have b:i<d.length:=IN.1 a;exact⟨λ_=>a,λ_=>⟨⟨E b,UX _ _⟩,j,F⟩⟩
 .exact eV
 .have b:i<d.length:=IN.1 (by assumption);have e:=hs b;rw[k,BY (by rw[QO,Px,Px];exact a)]at e;refine⟨⟨i+1,by omega⟩,by simp only;omega,AC [] rfl rfl ?_ ?_⟩
  .exact eN
  refine eM ?_;rw[e];exact⟨rfl,rfl⟩
 .have b:i<d.length:=IN.1 (by assumption);exact⟨⟨D b a.1,UX _ _⟩,QB B (by decide)⟩
 .exact eV
 .have b:i<d.length:=IN.1 (by assumption);have e:=hs b;have C:¬(!(DN (d.getD i d0) s).2||!Ly l (BO l (d.getD i d0).1) t)=true:=by
   rw[QO,Px,Px];rintro (h|h)
   .rw[show (DN (d.getD i d0) s).2=true from a.1]at h;cases h
   rw[show Ly l (BO l (d.getD i d0).1) t=true from a.2]at h;cases h
  rw[k,An C]at e;refine⟨⟨i+1,by omega⟩,by simp only;omega,AC [] rfl rfl ?_ ?_⟩
  .exact eN
  refine eM ?_;rw[e];exact⟨rfl,rfl⟩
 have b:d.take i=d:=As (P6.1 a);rw[b]at v;rw[v]at m;exact fI f [.tmp 8,.tmp 9] (by rw[m];exact eR)
end
theorem UY:∀ {l:List AJ},Mp l=0->∀x∈l,x.2.1.length<=256/\x.2.2.length<=256
 | [],_,x,a=>by cases a
 | y :: l,h,x,a=>by
  simp only[Mp]at h;split at h
  .cases h
  rename_i h1;rcases DO.1 a with rfl|a
  .exact⟨by omega,by omega⟩
  exact UY h x a
theorem Lb {d:List AJ} (h:A8 d=0):∀x∈d,x.2.1.length<=256/\x.2.2.length<=256:=by
 have h1:Y1 d=0:=by
  unfold A8 at h;split at h
  .rename_i h1;exact absurd h h1
  rename_i h1;exact GO h1
 unfold Y1 at h1;split at h1
 .cases h1
 exact UY h1
theorem Pg {d:List AJ} (h:A8 d=0):∀x∈AN d,x.2.length<=64:=by
 intro x e;obtain⟨-,a,-⟩:=A0 h;obtain⟨b,c,rfl⟩:=Di.1 e;exact RU (Pf a) b c
theorem k5 {all:List ByteArray} {l:List FV}:∀ {r:List FV} {k:Nat},dcG all l k r=0->∀y∈r,Aa all y.2=true
 | [],_,_,y,a=>by cases a
 | x :: r,k,h,y,a=>by
  simp only[dcG]at h;split at h
  .cases h
  split at h
  .cases h
  split at h
  .cases h
  rename_i b;rcases DO.1 a with rfl|a
  .simpa using b
  exact k5 h y a
theorem aQ {all:List ByteArray}:∀ {l:List AJ},fJ all l=0->∀x∈l,∀y∈x.2.2,Aa all y.2=true
 | [],_,x,a=>by cases a
 | z :: l,h,x,a=>by
  simp only[fJ]at h;split at h
  .rename_i h1;exact absurd h h1
  rename_i h1;rcases DO.1 a with rfl|a
  .exact k5 (GO h1)
  exact aQ h x a
theorem RY {d:List AJ} (h:A8 d=0) (b:La d=0):pW d (AN d) :=
 ⟨λx a=>UW h a,λx a y c=>HS h (aQ b x a y c)⟩
section
attribute [local go_sem] S7 XU pU fL A8G
def Lc (d:List AJ) (l:List AU) (t:Nat) (s:ByteArray):Bool:=(Fq d l (t:Int) s).2&&((Fq d l (t:Int) s).1.length:Int)==0
def fN (d:List AJ) (l:List AU) (f:List ByteArray) (t:Nat):Bool:=f.any (Lc d l t)
def Il (d:List AJ) (l:List AU) (f:List ByteArray) (n:Nat):Bool:=(List.range n).any (fN d l f)
theorem k6 (d:List AJ) (l:List AU) (f:List ByteArray) (n:Nat):Il d l f (n+1)=(Il d l f n||fN d l f n):=by
 unfold Il;rw[SQ,AFm];simp
def Az (d:List AJ):Int :=
 if (CB d).2≠0 then (CB d).2 else if 64<(BP d).length then 7 else if La d≠0 then La d else
 if ((BP d).all λs=>(Dj d s).2)=false then 10 else if Il d (CB d).1 (BP d) (CB d).1.length=true then 11 else 0
def Vu:AZ:={ ins:=[FJ],pre:=λ_=>True,out:=λ(d,_)=>[.p MG (Az d)] }
theorem aR:Ab Tryz.prog 156 Vu:=by
 refine fK [0,2,3,4,5,6,7,9,10,11,12,13,20,26,30,35,48,52,58,77] Tryz.func156 Tryz.ntmps156 (AF RW (AF XV (AF A4B (AF kX (AF A4D AH))))) ?_;rintro w0 O0 ⟨d,u⟩ b - -;simp only[Vu,AM];repeat'(first|exact trivial|apply eS rfl|refine rX b ?_ ?_|refine rC ?_ ?_<;>intro a<;>try(cases a;done))
 .have h1:Az d=(CB d).2:=by unfold Az;rw[BY a]
  exact fI b [.tmp 2] (by rw[h1];exact eR)
 .have c:(CB d).2=0:=by simpa using a
  obtain⟨e,-,-⟩:=Ba c;obtain⟨-,r,-⟩:=A0 e;exact⟨r,λx L=>(Lb e x L).2⟩
 .have c:(CB d).2=0:=by simpa using ‹((CB d).2 != 0)=false›
  have h1:Az d=7:=by
   unfold Az;rw[An (by rw[c];simp),BY (by omega)]
  exact fI b [.tmp 2] (by rw[h1];exact eR)
 .have c:(CB d).2=0:=by simpa using ‹((CB d).2 != 0)=false›
  obtain⟨e,-,-⟩:=Ba c;exact(A0 e).2.1
 .have c:(CB d).2=0:=by simpa using ‹((CB d).2 != 0)=false›
  have h1:Az d=La d:=by
   unfold Az;rw[An (by rw[c];simp),An (by omega),BY a]
  exact fI b [.tmp 2] (by rw[h1];exact eR)
 have c:(CB d).2=0:=by simpa using ‹((CB d).2 != 0)=false›
 have v:La d=0:=by simpa using a
 obtain⟨e,C,B⟩:=Ba c;obtain⟨H,r,-⟩:=A0 e;have E:=RY e v;have K:=Pg e;have M:=zW e;have D:(AN d).length<=256:=by rw[Ij];exact C
 have g:Az d=if ((BP d).all λs=>(Dj d s).2)=false then 10 else if Il d (CB d).1 (BP d) (CB d).1.length=true then 11 else 0:=by
  unfold Az;rw[An (by rw[c];simp),An (by omega),An (by rw[v];simp)]
 rw[B]at g ⊢;generalize AN d=l at *;generalize BP d=f at *;refine AI (ι:={i:Nat//i<=f.length/\((f.take i).all λs=>(Dj d s).2)=true}) (λi=>⟨[(0,.p FJ d),(3,.p KR l),(5,.p GD f),(7,.p (.int .i64) (i.1:Int))],[]⟩) (λi=>f.length-i.1) ⟨0,IS _,rfl⟩ (eW []) (λi=>?_)
 obtain⟨i,hi,n⟩:=i;have G:=λh:i<f.length=>Gv f ByteArray.empty (λs=>(Dj d s).2) h;simp only;repeat'(first|exact trivial|apply eS rfl|apply AB|refine rX b ?_ ?_|refine rC ?_ ?_<;>intro a<;>try(cases a;done))
 .exact⟨a,H,r⟩
 .have j:i<f.length:=IN.1 (by assumption);have z:(f.all λs=>(Dj d s).2)=false:=by
   rw[ABL];intro h;have:=If.1 h _ (AD f ByteArray.empty j);rw[show (Dj d (f.getD i ByteArray.empty)).2=false from a]at this;cases this
  rw[BY z]at g;exact fI b [.tmp 2] (by rw[g];exact eR)
 .omega
 .have j:i<f.length:=IN.1 (by assumption);refine⟨⟨i+1,j,?_⟩,by simp only;omega,AC [] rfl rfl ?_ ?_⟩
  .rw[G j,n];exact a
  .exact eN
  exact eN
 have j:f.take i=f:=As (P6.1 a);rw[j]at n;rw[An (by rw[n];simp)]at g;refine AI (ι:={t:Nat//t<=l.length/\Il d l f t=false}) (λt=>⟨[(0,.p FJ d),(3,.p KR l),(5,.p GD f),(10,.p (.int .i64) (t.1:Int))],[]⟩) (λt=>l.length-t.1) ⟨0,IS _,rfl⟩ (eW []) (λt=>?_)
 obtain⟨t,N,y⟩:=t;have J:=k6 d l f t;simp only;repeat'(first|exact trivial|apply eS rfl|refine rX b ?_ ?_|refine rC ?_ ?_<;>intro a<;>try(cases a;done))
 .have w:t<l.length:=IN.1 a;refine AI (ι:={k:Nat//k<=f.length/\(f.take k).any (Lc d l t)=false}) (λk=>⟨[(0,.p FJ d),(3,.p KR l),(5,.p GD f),(10,.p (.int .i64) (t:Int)),(11,.p (.int .i64) (k.1:Int))],[]⟩) (λk=>f.length-k.1) ⟨0,IS _,rfl⟩ (eW []) (λk=>?_)
  obtain⟨k,hk,o⟩:=k;have F:=λh:k<f.length=>Nq f ByteArray.empty (Lc d l t) h;simp only;repeat'(first|exact trivial|apply eS rfl|apply AB|refine rX b ?_ ?_|refine rC ?_ ?_<;>intro a<;>try(cases a;done))
  .exact⟨a,E,by assumption,D,K⟩
  .have m:k<f.length:=IN.1 (by assumption);have q:Lc d l t (f.getD k ByteArray.empty)=true:=by
    unfold Lc;rw[AT,SJ];exact a
   have A:Il d l f l.length=true:=by
    unfold Il;rw[QC];exact⟨t,QJ.2 w,JT f ByteArray.empty _ m q⟩
   rw[BY A]at g;exact fI b [.tmp 2] (by rw[g];exact eR)
  .omega
  .have m:k<f.length:=IN.1 (by assumption);have q:Lc d l t (f.getD k ByteArray.empty)=false:=by
    rw[ABL];unfold Lc;intro h;rw[AT,SJ]at h;exact a h.1 h.2
   refine⟨⟨k+1,m,?_⟩,by simp only;omega,AC [] rfl rfl ?_ ?_⟩
   .rw[F m,o,q];rfl
   .exact eN
   exact eN
  .omega
  have m:f.take k=f:=As (P6.1 a);rw[m]at o;refine⟨⟨t+1,w,?_⟩,by simp only;omega,AC [] rfl rfl ?_ ?_⟩
  .rw[J,y];exact o
  .exact eN
  exact eN
 have I:t=l.length:=by exact eV
 subst I;rw[An (by rw[y];simp)]at g;exact fI b [.tmp 2] (by rw[g];exact eR)
end
section
attribute [local go_sem] Vu S7 XU fL Vt
abbrev aU:=ByteArray×Int
theorem CH {d:List AJ} (h:Az d=0):(CB d).2=0/\(BP d).length<=64/\La d=0:=by
 unfold Az at h;split at h
 .rename_i h1;exact absurd h h1
 rename_i h1;split at h
 .cases h
 rename_i b;split at h
 .rename_i a;exact absurd h a
 rename_i a;exact⟨GO h1,by omega,GO a⟩
def RZ (d:List AJ) (s:ByteArray):aU:=(s,BO (AN d) (Dj d s).1)
def EY (d:List AJ):List aU×Int:=if Az d≠0 then ([],Az d) else ((BP d).map (RZ d),0)
theorem EZ {α β:Type} (f:α->β) (l:List α) (d:α) {k:Nat} (h:k<l.length):(l.take (k+1)).map f=(l.take k).map f++[f (l.getD k d)]:=by
 rw[Au l d h,VO];rfl
theorem fO {α β:Type} (f:α->β) (l:List α) {k:Nat} (h:k<=l.length):((l.take k).map f).length=k:=by simp[h]
def S8:AZ:={ ins:=[FJ],pre:=λ_=>True,out:=λ(d,_)=>[.p Sv (EY d).1,.p MG (EY d).2] }
theorem k7:Ab Tryz.prog 120 S8:=by
 refine fK [0,2,3,4,5,7,8,9,10,15,27] Tryz.func120 Tryz.ntmps120 (AF aR (AF RW (AF XV (AF kX (AF aH AH))))) ?_;rintro w0 O0 ⟨d,u⟩ g - -;simp only[S8,AM];repeat'(first|exact trivial|apply eS rfl|refine rX g ?_ ?_|refine rC ?_ ?_<;>intro a<;>try(cases a;done))
 .have h1:EY d=([],Az d):=by unfold EY;rw[BY a]
  exact fI g [.tmp 2,.tmp 3] (by rw[h1];exact eR)
 .have c:Az d=0:=by simpa using a
  obtain⟨k,-,-⟩:=CH c;obtain⟨b,-,-⟩:=Ba k;exact⟨(A0 b).2.1,λx r=>(Lb b x r).2⟩
 have c:Az d=0:=by simpa using a
 obtain⟨k,s,-⟩:=CH c;obtain⟨b,-,m⟩:=Ba k;obtain⟨q,l,-⟩:=A0 b;have o:EY d=((BP d).map (RZ d),0):=by unfold EY;rw[An (by rw[c];simp)]
 rw[m];generalize BP d=f at *;refine AI (ι:={i:Nat//i<=f.length}) (λi=>⟨[(0,.p FJ d),(5,.p KR (AN d)),(7,.p GD f),(8,.sr 49 A41 0 ((f.take i.1).map (RZ d)).length),(9,.p (.int .i64) (i.1:Int))],[(49,.arr 163 A41 ((f.take i.1).map (RZ d)))]⟩) (λi=>f.length-i.1) ⟨0,IS _⟩ (eW [(49,.nil)]) (λi=>?_)
 obtain⟨i,hi⟩:=i;have n:=fO (RZ d) f hi;have hs:=λh:i<f.length=>EZ (RZ d) f ByteArray.empty h;simp only;repeat'(first|exact trivial|apply eS rfl|apply AB|refine rX g ?_ ?_|refine rC ?_ ?_<;>intro a<;>try(cases a;done))
 .exact⟨a,q,l⟩
 .refine⟨a,?_⟩;rw[n];simp only[AQ];omega
 .omega
 .have j:i<f.length:=IN.1 a;have e:=hs j;refine⟨⟨i+1,j⟩,by simp only;omega,AC [(49,.nm 49)] rfl rfl ?_ ?_⟩
  .simp only[e];refine eM ?_;rfl
  simp only[e];exact eN
 have j:f.take i=f:=As (P6.1 a);rw[j];refine Fe [49] ?_;exact fI g [.tmp 2,.tmp 3] (by rw[o];exact eR)
end
section
attribute [local go_sem] Vu S7 XU A8G pJ
def VC (d:List AJ) (l:List AU) (f:List ByteArray) (t:Nat) (n:Nat):List (Int×Int) :=
 ((List.range n).filter λ(i:Nat)=>(Fq d l (t:Int) (f.getD i ByteArray.empty)).2).map λ(i:Nat)=>((i:Int),Hg l (Fq d l (t:Int) (f.getD i ByteArray.empty)).1)
def KW (d:List AJ) (l:List AU) (f:List ByteArray) (n:Nat):List (List (Int×Int)):=(List.range n).map λt=>VC d l f t f.length
def BD (d:List AJ):List (List (Int×Int))×Int:=if Az d≠0 then ([],Az d) else (KW d (AN d) (BP d) (AN d).length,0)
theorem aV (d:List AJ) (l:List AU) (f:List ByteArray) (t n:Nat):VC d l f t (n+1)=VC d l f t n++if (Fq d l (t:Int) (f.getD n ByteArray.empty)).2=true then [((n:Int),Hg l (Fq d l (t:Int) (f.getD n ByteArray.empty)).1)] else []:=by
 unfold VC;rw[SQ,AEE,VO]
 congr 1
 rw[VL,AFl];split<;>rfl
theorem A4E (d:List AJ) (l:List AU) (f:List ByteArray) (t n:Nat):(VC d l f t n).length<=n:=by
 unfold VC;rw[Py];exact QB (VI _ _) (by simp)
theorem pX (d:List AJ) (l:List AU) (f:List ByteArray) (n:Nat):KW d l f (n+1)=KW d l f n++[VC d l f n f.length]:=by simp[KW,SQ]
theorem aW (d:List AJ) (l:List AU) (f:List ByteArray) (n:Nat):(KW d l f n).length=n:=by simp[KW]
theorem A4F {d:List AJ} {l:List AU} (h:∀x∈l,x.2.length<=64) (t:Int) (s:ByteArray):(Fq d l t s).1.length<=64:=by
 unfold Fq;refine Xc t s d ?_;rw[AS];cases hh:l[0]? with
 | none=>simp
 | some x=>exact h x (VN hh)
def Xd:AZ:={ ins:=[FJ],pre:=λ_=>True,out:=λ(d,_)=>[.p A7i (BD d).1,.p MG (BD d).2] }
theorem pY:Ab Tryz.prog 117 Xd:=by
 refine fK [0,2,3,4,5,7,8,9,10,11,12,13,17,29,35,49] Tryz.func117 Tryz.ntmps117 (AF aR (AF RW (AF XV (AF A4D (AF A4q AH))))) ?_;rintro w0 O0 ⟨d,u⟩ e - -;simp only[Xd,AM];repeat'(first|exact trivial|apply eS rfl|refine rX e ?_ ?_|refine rC ?_ ?_<;>intro a<;>try(cases a;done))
 .have h1:BD d=([],Az d):=by unfold BD;rw[BY a]
  exact fI e [.tmp 2,.tmp 3] (by rw[h1];exact eR)
 .have h:Az d=0:=by simpa using a
  obtain⟨m,-,-⟩:=CH h;obtain⟨b,-,-⟩:=Ba m;exact⟨(A0 b).2.1,λx z=>(Lb b x z).2⟩
 have h:Az d=0:=by simpa using a
 obtain⟨m,B,o⟩:=CH h;obtain⟨b,j,r⟩:=Ba m;obtain⟨D,A,-⟩:=A0 b;have y:BD d=(KW d (AN d) (BP d) (AN d).length,0):=by unfold BD;rw[An (by rw[h];simp)]
 have w:=RY b o;have n:=Pg b;have v:(AN d).length<=256:=by rw[Ij];exact j
 rw[r];generalize AN d=l at *;generalize BP d=f at *;have q:=λt s=>A4F (d:=d) n t s;refine AI (ι:={t:Nat//t<=l.length}) (λt=>⟨[(0,.p FJ d),(5,.p KR l),(7,.p GD f),(8,.sr 61 XL 0 (KW d l f t.1).length),(9,.p (.int .i64) (t.1:Int))],[(61,.arr 142 XL (KW d l f t.1))]⟩) (λt=>l.length-t.1) ⟨0,IS _⟩ (AC [(61,.nil)] rfl rfl ?_ ?_) (λt=>?_)
 .refine eM ?_;rfl
 .refine eM ?_;rfl
 obtain⟨t,E⟩:=t;have j:=aW d l f t;have hs:=pX d l f t;simp only;repeat'(first|exact trivial|apply eS rfl|refine rX e ?_ ?_|refine rC ?_ ?_<;>intro a<;>try(cases a;done))
 .refine AI (ι:={i:Nat//i<=f.length}) (λi=>⟨[(0,.p FJ d),(5,.p KR l),(7,.p GD f),(8,.sr 61 XL 0 (KW d l f t).length),(9,.p (.int .i64) (t:Int)),(10,.sr 57 A42 0 (VC d l f t i.1).length),(11,.p (.int .i64) (i.1:Int))],[(61,.arr 142 XL (KW d l f t)),(57,.arr 170 A42 (VC d l f t i.1))]⟩) (λi=>f.length-i.1) ⟨0,IS _⟩ (AC [(61,.nm 61),(57,.nil)] rfl rfl ?_ ?_) (λi=>?_)
  .refine eM ?_;rfl
  .refine eM ?_;rfl
  obtain⟨i,hi⟩:=i;have C:=A4E d l f t i;have c:=aV d l f t i;simp only;repeat'(first|exact trivial|apply eS rfl|apply AB|refine rX e ?_ ?_|refine rC ?_ ?_<;>intro a<;>try(cases a;done))
  .exact⟨a,w,by assumption,v,n⟩
  .refine⟨QB (q _ _) (by decide),?_⟩;simp only[AQ];omega
  .omega
  .have g:i<f.length:=IN.1 (by assumption);rw[BY a]at c;refine⟨⟨i+1,g⟩,by simp only;omega,AC [(61,.nm 61),(57,.nm 57)] rfl rfl ?_ ?_⟩
   .simp only[c];exact eN
   simp only[c];exact eN
  .omega
  .have g:i<f.length:=IN.1 (by assumption);rw[An (by rw[a];simp),QQ]at c;refine⟨⟨i+1,g⟩,by simp only;omega,AC [(61,.nm 61),(57,.nm 57)] rfl rfl ?_ ?_⟩
   .simp only[c];exact eN
   simp only[c];exact eN
  .rw[j];simp only[AQ];omega
  .omega
  have k:t<l.length:=IN.1 (by assumption);have g:i=f.length:=by omega
  subst g;refine⟨⟨t+1,k⟩,by simp only;omega,AC [(61,.nm 61)] rfl rfl ?_ ?_⟩
  .simp only[hs];exact eN
  simp only[hs];exact eN
 have k:t=l.length:=by omega
 subst k;refine Fe [61] ?_;exact fI e [.tmp 2,.tmp 3] (by rw[y];exact eR)
end
section
attribute [local go_sem] cs0
def Lz (l:List ByteArray) (n:Nat):List FV:=(List.range n).map λk=>(l.getD (2*k) ByteArray.empty,l.getD (2*k+1) ByteArray.empty)
theorem Xe (l:List ByteArray) (n:Nat):Lz l (n+1)=Lz l n++[(l.getD (2*n) ByteArray.empty,l.getD (2*n+1) ByteArray.empty)]:=by simp[Lz,SQ]
theorem aX (l:List ByteArray) (n:Nat):(Lz l n).length=n:=by simp[Lz]
def fP (s:ByteArray):List ByteArray:=if AY s ByteArray.empty=true then [] else [s]
def Gh (n s:ByteArray) (l:List ByteArray):AJ:=(n,fP s,Lz l (l.length / 2))
def A4G:AZ:={ ins:=[T9,T9,GD],pre:=λ(_,_,l,_)=>List.length l<=1000,out:=λ(n,s,l,_)=>[.p A1f (Gh n s l)] }
theorem A8H:Ab Tryz.prog 121 A4G:=by
 refine fK [0,1,2,6,7,8,12,20] Tryz.func121 Tryz.ntmps121 AH ?_;rintro w0 O0 ⟨n,s,l,u⟩ b-i;have i:l.length<=1000:=i;simp only[A4G,AM];repeat'(first|exact trivial|apply eS rfl|apply AB|refine rX b ?_ ?_|refine rC ?_ ?_<;>intro a<;>try(cases a;done))
 .have f:=a;refine Fe [14] ?_;refine AI (ι:={k:Nat//2*k<=l.length}) (λk=>⟨[(2,.p GD l),(6,.bp 6 [] 0),(7,.bp 7 [] 0),(8,.p (.int .i64) ((2*k.1:Nat):Int))],[(6,.box 158 true [.p T9 ByteArray.empty,.raw (.slice none 0 0),.raw (.slice none 0 0)]),(7,.box 158 true [.p T9 n,.p GD [s],.sr 36 o6 0 (Lz l k.1).length]),(36,.arr 161 o6 (Lz l k.1))]⟩) (λk=>l.length-2*k.1) ⟨0,IS _⟩ (AC [(6,.nm 6),(7,.nm 7),(36,.nil)] rfl rfl ?_ ?_) (λk=>?_)
  .first|exact eN|refine eM ?_
   exact⟨rfl,rfl⟩
  .first|exact eN|refine eM ?_
  obtain⟨k,hk⟩:=k;have g:=aX l k;have d:=Xe l k;simp only;repeat'(first|exact trivial|apply eS rfl|apply AB|refine rX b ?_ ?_|refine rC ?_ ?_<;>intro a<;>try(cases a;done))
  .exact eV
  .refine⟨by exact eV,⟨by exact eV,by exact eV⟩,⟨by exact eV,by exact eV⟩,?_⟩;rw[g];simp only[AQ];exact eV
  .exact eV
  .have c:2*k+1<l.length:=by exact eV
   have e:((2*k:Nat):Int)+1=((2*k+1:Nat):Int):=by omega
   refine⟨⟨k+1,by omega⟩,by simp only;omega,AC [(6,.nm 6),(7,.nm 7),(36,.nm 36)] rfl rfl ?_ ?_⟩
   .simp only[d];first|exact eN|refine eM ?_
    rw[e];rfl
   simp only[d];first|exact eN|refine eM ?_
   show ((2*k:Nat):Int)+2=((2*(k+1):Nat):Int);omega
  have c:k=l.length / 2:=by exact eV
  refine Fe [36] ?_;have h:Gh n s l=(n,[s],Lz l k):=by
   unfold Gh fP;rw[<-c,An (by rw[show AY s ByteArray.empty=false from f];simp)]
  exact fI b [.cell 6 158] (by rw[h];exact eR)
 have f:=a;refine AI (ι:={k:Nat//2*k<=l.length}) (λk=>⟨[(2,.p GD l),(6,.bp 6 [] 0),(7,.bp 7 [] 0),(8,.p (.int .i64) ((2*k.1:Nat):Int))],[(6,.box 158 true [.p T9 ByteArray.empty,.raw (.slice none 0 0),.raw (.slice none 0 0)]),(7,.box 158 true [.p T9 n,.p GD ([]:List ByteArray),.sr 36 o6 0 (Lz l k.1).length]),(36,.arr 161 o6 (Lz l k.1))]⟩) (λk=>l.length-2*k.1) ⟨0,IS _⟩ (AC [(6,.nm 6),(7,.nm 7),(36,.nil)] rfl rfl ?_ ?_) (λk=>?_)
 .first|exact eN|refine eM ?_
  exact⟨rfl,rfl⟩
 .first|exact eN|refine eM ?_
 obtain⟨k,hk⟩:=k;have g:=aX l k;have d:=Xe l k;simp only;repeat'(first|exact trivial|apply eS rfl|apply AB|refine rX b ?_ ?_|refine rC ?_ ?_<;>intro a<;>try(cases a;done))
 .exact eV
 .refine⟨by exact eV,⟨by exact eV,by exact eV⟩,⟨by exact eV,by exact eV⟩,?_⟩;rw[g];simp only[AQ];exact eV
 .exact eV
 .have c:2*k+1<l.length:=by exact eV
  have e:((2*k:Nat):Int)+1=((2*k+1:Nat):Int):=by omega
  refine⟨⟨k+1,by omega⟩,by simp only;omega,AC [(6,.nm 6),(7,.nm 7),(36,.nm 36)] rfl rfl ?_ ?_⟩
  .simp only[d];first|exact eN|refine eM ?_
   rw[e];rfl
  simp only[d];first|exact eN|refine eM ?_
  show ((2*k:Nat):Int)+2=((2*(k+1):Nat):Int);omega
 have c:k=l.length / 2:=by exact eV
 refine Fe [36] ?_;have h:Gh n s l=(n,([]:List ByteArray),Lz l k):=by
  unfold Gh fP;rw[<-c,BY (show AY s ByteArray.empty=true from f)]
 exact fI b [.cell 6 158] (by rw[h];exact eR)
end
section
attribute [local go_sem] A4G cs0 cs1 cs2 cs3 cs4 cs5 cs6 cs7 cs8
def C0:List AJ:=[
 Gh { data:=#[116,111,112] } { data:=#[] } [],
 Gh { data:=#[108,105,115,116] } { data:=#[116,111,112] } [],
 Gh { data:=#[99,111,110,115] } { data:=#[108,105,115,116] } [{ data:=#[70,73,82,83,84] },{ data:=#[116,111,112] },{ data:=#[82,69,83,84] },{ data:=#[108,105,115,116] }],
 Gh { data:=#[110,117,108,108] } { data:=#[108,105,115,116] } [],
 Gh { data:=#[100,108,105,115,116] } { data:=#[116,111,112] } [{ data:=#[76,73,83,84] },{ data:=#[108,105,115,116] },{ data:=#[76,65,83,84] },{ data:=#[108,105,115,116] }],
 Gh { data:=#[105,110,100,101,120] } { data:=#[116,111,112] } [],
 Gh { data:=#[104,97,110,100,108,101] } { data:=#[105,110,100,101,120] } [],
 Gh { data:=#[101,118,101,110,116] } { data:=#[105,110,100,101,120] } [],
 Gh { data:=#[101,110,116,105,116,121] } { data:=#[105,110,100,101,120] } [],
 Gh { data:=#[114,101,108] } { data:=#[116,111,112] } [{ data:=#[76,65,66,69,76] },{ data:=#[104,97,110,100,108,101] }],
 Gh { data:=#[113,101,113] } { data:=#[116,111,112] } [{ data:=#[72,73,71,72] },{ data:=#[104,97,110,100,108,101] },{ data:=#[76,79,87] },{ data:=#[104,97,110,100,108,101] }],
 Gh { data:=#[115,101,109] } { data:=#[116,111,112] } [{ data:=#[84,79,80] },{ data:=#[104,97,110,100,108,101] },{ data:=#[73,78,68,69,88] },{ data:=#[105,110,100,101,120] },{ data:=#[82,69,76,83] },{ data:=#[100,108,105,115,116] },{ data:=#[67,79,78,83] },{ data:=#[100,108,105,115,116] }],
 Gh { data:=#[115,105,103,110] } { data:=#[116,111,112] } [{ data:=#[83,69,77] },{ data:=#[115,101,109] },{ data:=#[65,82,71,83] },{ data:=#[108,105,115,116] }]]
def KX:AZ:={ ins:=[],pre:=λ_=>True,out:=λ_=>[.p FJ C0] }
theorem Xf:Ab Tryz.prog 63 KX:=by
 refine fKP [0] [3,6,12,14,16,18,20] [] Tryz.func63 Tryz.ntmps63 (AF A8H AH) ?_;rintro w0 O0 u a - -;simp only[KX,AM];repeat'(first|exact trivial|apply eS rfl|refine rX a ?_ ?_)
 exact fI a [.tmp 0] (by unfold C0;exact eR)
end
section
attribute [local go_sem] Xd S7 A4z S8
abbrev HT:=ByteArray×List Int×List Int×List (Int×Int)
abbrev AG:=List HT×List aU
def Eg (l:List AU) (v:List (List (Int×Int))) (n:Nat):List HT:=(List.range n).map λi=>((l.getD i c0).1,(l.getD i c0).2,aP l (i:Int),v.getD i [])
theorem pZ (l:List AU) (v:List (List (Int×Int))) (n:Nat):Eg l v (n+1)=Eg l v n++[((l.getD n c0).1,(l.getD n c0).2,aP l (n:Int),v.getD n [])]:=by simp[Eg,SQ]
theorem KY (l:List AU) (v:List (List (Int×Int))) (n:Nat):(Eg l v n).length=n:=by simp[Eg]
def Bw (d:List AJ):AG:=(Eg (AN d) (BD d).1 (AN d).length,(EY d).1)
def Aw (d:List AJ):AG×Int:=if (BD d).2≠0 then (([],[]),(BD d).2) else (Bw d,0)
def KZ:AZ:={ ins:=[FJ],pre:=λ_=>True,out:=λ(d,_)=>[.p ED (Aw d).1,.p MG (Aw d).2] }
theorem p5:Ab Tryz.prog 62 KZ:=by
 refine fK [0,2,3,4,5,6,8,9,10,18,29] Tryz.func62 Tryz.ntmps62 (AF pY (AF RW (AF A8E (AF k7 AH)))) ?_;rintro w0 O0 ⟨d,u⟩ b - -;simp only[KZ,AM];repeat'(first|exact trivial|apply eS rfl|refine rX b ?_ ?_|refine rC ?_ ?_<;>intro a<;>try(cases a;done))
 .have h1:Aw d=(([],[]),(BD d).2):=by unfold Aw;rw[BY a]
  exact fI b [.cell 2 31,.tmp 3] (by rw[h1];exact eR)
 have c:(BD d).2=0:=by simpa using a
 have f:Az d=0:=by
  unfold BD at c;split at c
  .rename_i h;exact absurd c h
  rename_i h;exact GO h
 obtain⟨t,x,w⟩:=CH f;obtain⟨j,m,k⟩:=Ba t;have g:Aw d=(Bw d,0):=by unfold Aw;rw[An (by rw[c];simp)]
 have r:(BD d).1.length=(AN d).length:=by
  unfold BD;rw[An (by rw[f];simp)];exact aW _ _ _ _
 have s:=Pg j;have o:(AN d).length<=256:=by rw[Ij];exact m
 unfold Bw at g;rw[k];generalize AN d=l at *;generalize (BD d).1=v at *;refine AI (ι:={n:Nat//n<=l.length}) (λn=>⟨[(0,.p FJ d),(2,.bp 2 [] 0),(4,.p A7i v),(6,.p KR l),(8,.bp 8 [] 0),(9,.p (.int .i64) (n.1:Int))],[(2,.box 31 true [.raw (.slice none 0 0),.raw (.slice none 0 0)]),(8,.box 31 true [.sr 53 o7 0 (Eg l v n.1).length,.raw (.slice none 0 0)]),(53,.arr 144 o7 (Eg l v n.1))]⟩) (λn=>l.length-n.1) ⟨0,IS _⟩ (AC [(2,.nm 2),(8,.nm 8),(53,.nil)] rfl rfl ?_ ?_) (λn=>?_)
 .refine eM ?_;exact⟨rfl,rfl⟩
 .exact eN
 obtain⟨n,hn⟩:=n;have q:=KY l v n;have i:=pZ l v n;simp only;repeat'(first|exact trivial|apply eS rfl|apply AB|refine rX b ?_ ?_|refine rC ?_ ?_<;>intro a<;>try(cases a;done))
 .refine⟨a,a,⟨a,o,s⟩,by rw[r];exact a,?_⟩;rw[q];simp only[AQ];omega
 .omega
 .have e:n<l.length:=IN.1 a;refine⟨⟨n+1,e⟩,by simp only;omega,AC [(2,.nm 2),(8,.nm 8),(53,.nm 53)] rfl rfl ?_ ?_⟩
  .simp only[i];exact eN
  simp only[i];exact eN
 have e:n=l.length:=by omega
 subst e;refine Fe [53] ?_;exact fI b [.cell 2 31,.tmp 3] (by rw[g];exact eR)
def Hq (d:List AJ):AG:=if d.length<=20/\(Aw d).2=0 then (Aw d).1 else (Aw C0).1
end
abbrev AEF:=Int×List (Int×Int)
def E1 (f:List AEF):Bool:=decide (f.length<=12)&&f.all λn=>decide (n.2.length<=12)
def Ld:AZ:={ ins:=[DZ],pre:=λ_=>True,out:=λ(f,_)=>[.p .bool (E1 f)] }
theorem k8:Ab Tryz.prog 18 Ld:=by
 refine fK [0,1,2,3,7,12,22] Tryz.func18 Tryz.ntmps18 AH ?_;rintro w0 O0 ⟨l,u⟩ a e f;simp only[Ld,AM];repeat'(first|exact trivial|apply eS rfl|refine rX a ?_ ?_|refine rC ?_ ?_<;>intro b<;>try(cases b;done))
 .have h1:E1 l=false:=by
   have h:¬(List.length l<=12):=by exact eV
   unfold E1;rw[AA7 h];rfl
  exact fI a [.tmp 2] (by rw[h1];exact eR)
 refine AI (ι:={k:Nat//k<=l.length/\(l.take k).all (λn=>decide (n.2.length<=12))=true}) (λk=>⟨[(0,.p DZ l),(1,.bp 1 [] 0),(3,.p (.int .i64) (k.1:Int))],[(1,.box 25 true [.p Ex l])]⟩) (λk=>l.length-k.1) ⟨0,by simp⟩ (AC [(1,.nm 1)] rfl rfl ?_ ?_) (λk=>?_)
 .exact eN
 .exact eN
 obtain⟨k,hk,c⟩:=k;repeat'(first|exact trivial|apply eS rfl|apply AB|refine rX a ?_ ?_|refine rC ?_ ?_<;>intro b<;>try(cases b;done))
 .exact eV
 .have h1:E1 l=false:=by
   have hk:k<l.length:=by exact eV
   have h:=AD l (0,[]) hk;unfold E1;rw[ZK];right;rw[iF];exact⟨_,h,by simp only[By];exact eV⟩
  exact fI a [.tmp 2] (by rw[h1];exact eR)
 .exact eV
 .have hk:k<l.length:=by exact eV
  refine⟨⟨k+1,by exact eV,?_⟩,by simp only;exact eV,AC [(1,.nm 1)] rfl rfl ?_ ?_⟩
  .have h1:=Au l (0,[]) hk;have d:((l.take (k+1)).all λn=>decide (n.2.length<=12))=_:=bY (λx=>List.all x λn=>decide (n.2.length<=12)) h1;rw[d,AFa,c];simp only[AAS,List.all_nil,Bool.and_true,AFX,By];exact eV
  .exact eN
  exact eN
 have h1:E1 l=true:=by
  have hk:l.take k=l:=As (by exact eV);rw[hk]at c;unfold E1;rw[c,aS (by exact eV)];rfl
 exact fI a [.tmp 2] (by rw[h1];exact eR)
def GQ (n:Int) (seen:List (Int×Int)):List (Int×Int)->Int
 | []=>0
 | x :: r=>if x.1<0\/x.2<0\/n<=x.2 then 2 else if (seen.any λy=>y.1==x.1)=true then 4 else GQ n (seen++[x]) r
def Gi (l:List (Int×Int)) (n:Int):Int:=GQ n [] l
def k9:AZ:={ ins:=[DM,T3],pre:=λ_=>True,out:=λ(l,n,_)=>[.p MG (Gi l n)] }
theorem Ph (n:Int) (l:List (Int×Int)) {k:Nat} (h:k<l.length):GQ n (l.take k) (l.drop k)=if (l.getD k (0,0)).1<0\/(l.getD k (0,0)).2<0\/n<=(l.getD k (0,0)).2 then 2 else if ((l.take k).any λy=>y.1==(l.getD k (0,0)).1)=true then 4 else GQ n (l.take (k+1)) (l.drop (k+1)):=by
 rw[Au l (0,0) h,OR h,AS,At h];rfl
theorem ZX (l:List (Int×Int)) (f:Int) {k:Nat} (h:k<l.length):((l.take (k+1)).any λy=>y.1==f)=((l.take k).any (λy=>y.1==f)||((l.getD k (0,0)).1==f)):=by
 rw[Au l (0,0) h,AFm];simp
theorem A8I:Ab Tryz.prog 174 k9:=by
 refine fK [0,1,4,5,6,10,35,38,51] Tryz.func174 Tryz.ntmps174 AH ?_;rintro w0 O0 ⟨l,n,u⟩ b ⟨⟨h,-⟩,-⟩ -;simp only[AQ]at h;simp only[k9,AM];repeat'(first|exact trivial|apply eS rfl|refine rX b ?_ ?_)
 refine AI (ι:={k:Nat//k<=l.length/\GQ n (l.take k) (l.drop k)=Gi l n}) (λk=>⟨[(0,.p DM l),(1,.p T3 n),(5,.p (.int .i64) (k.1:Int))],[]⟩) (λk=>l.length-k.1) ⟨0,by simp[Gi]⟩ (AC [] rfl rfl ?_ ?_) (λk=>?_)
 .exact eN
 .exact eN
 obtain⟨k,hk,c⟩:=k;repeat'(first|exact trivial|apply eS rfl|refine rX b ?_ ?_|refine rC ?_ ?_<;>intro a<;>try(cases a;done))
 .exact eV
 .have hk:k<l.length:=by exact eV
  have h1:Gi l n=2:=by
   rw[<-c,Ph n l hk,BY (by rw[<-or_assoc];exact a)]
  exact fI b [.tmp 4] (by rw[h1];exact eR)
 .have hk:k<l.length:=by exact eV
  have hn:¬((l.getD k (0,0)).1<0\/(l.getD k (0,0)).2<0\/n<=(l.getD k (0,0)).2):=by
   have:=a;generalize l.getD k (0,0)=x at this;exact eV
  rw[Ph n l hk,An hn]at c;refine AI (ι:={j:Nat//j<=k/\((l.take j).any λy=>y.1==(l.getD k (0,0)).1)=false}) (λj=>⟨[(0,.p DM l),(1,.p T3 n),(5,.p (.int .i64) (k:Int)),(6,.p (.int .i64) (j.1:Int))],[]⟩) (λj=>k-j.1) ⟨0,by simp⟩ (AC [] rfl rfl ?_ ?_) (λj=>?_)
  .exact eN
  .exact eN
  obtain⟨j,i,f⟩:=j;repeat'(first|exact trivial|apply eS rfl|apply AB|refine rX b ?_ ?_|refine rC ?_ ?_<;>intro a<;>try(cases a;done))
  .exact eV
  .have e:j<l.length:=by exact eV
   have h1:Gi l n=4:=by
    have d:((l.take k).any λy=>y.1==(l.getD k (0,0)).1)=true:=by
     rw[QC];refine⟨l.getD j (0,0),?_,by simpa using a⟩;rw[AS,At e];exact AET.2 ⟨j,by exact eV,rfl⟩
    rw[<-c,BY d]
   exact fI b [.tmp 4] (by rw[h1];exact eR)
  .exact eV
  .have e:j<l.length:=by exact eV
   refine⟨⟨j+1,by exact eV,?_⟩,by simp only;exact eV,AC [] rfl rfl ?_ ?_⟩
   .have d:=ZX l (l.getD k (0,0)).1 e;refine d.trans ?_;rw[f];simpa using a
   .exact eN
   exact eN
  .exact eV
  have g:j=k:=by exact eV
  subst g;refine⟨⟨j+1,by exact eV,?_⟩,by simp only;exact eV,AC [] rfl rfl ?_ ?_⟩
  .rw[<-c,An (by rw[f];simp)]
  .exact eN
  exact eN
 have h1:Gi l n=0:=by
  have hk:l.length<=k:=by exact eV
  rw[<-c,B0 hk];rfl
 exact fI b [.tmp 4] (by rw[h1];exact eR)
def Xg (n:Int×List (Int×Int)):List Int:=n.1 :: (n.2.length:Int) :: n.2.flatMap λa=>[a.1,a.2]
def B3 (f:List (Int×List (Int×Int))):List Int:=(f.length:Int) :: f.flatMap Xg
def ZY (l:List (Int×List (Int×Int))) (k:Nat):List Int:=(l.length:Int) :: (l.take k).flatMap Xg
def Xh (l:List (Int×List (Int×Int))) (k j:Nat):List Int:=ZY l k++[(l.getD k (0,[])).1,((l.getD k (0,[])).2.length:Int)]++((l.getD k (0,[])).2.take j).flatMap λa=>[a.1,a.2]
theorem S9:∀l:List (Int×Int),(l.flatMap λa=>[a.1,a.2]).length=2*l.length
 | []=>rfl
 | x :: l=>by simp[S9 l];omega
theorem A4H (n:Int×List (Int×Int)):(Xg n).length=2+2*n.2.length:=by
 have:=S9 n.2;simp only[Xg,Of];omega
theorem Xi:∀l:List (Int×List (Int×Int)),(∀n∈l,n.2.length<=100000)->(l.flatMap Xg).length<=l.length*200002
 | [],_=>by simp
 | x :: l,h=>by
  have h1:=h x (by simp);have a:=Xi l (λn hn=>h n (by simp[hn]));have b:=A4H x;simp only[AFs,IF,Of];omega
theorem lA {l:List (Int×List (Int×Int))} (h:∀n∈l,n.2.length<=100000) {k:Nat} (hk:k<=l.length):(ZY l k).length<=1+k*200002:=by
 have h1:=Xi (l.take k) (λn hn=>h n (VM hn));rw[OS,ABO hk]at h1;simp only[ZY,Of];omega
theorem A4I {l:List (Int×List (Int×Int))} (h:∀n∈l,n.2.length<=100000) {k j:Nat} (hk:k<l.length) (b:j<=(l.getD k (0,[])).2.length):(Xh l k j).length<=3+k*200002+2*j:=by
 have h1:=lA h (AG3 hk);have a:=S9 ((l.getD k (0,[])).2.take j);rw[OS,ABO b]at a;simp only[Xh,IF,Of,ZM];omega
theorem aY {l:List (Int×List (Int×Int))} {k:Nat} (hk:k<l.length):ZY l (k+1)=Xh l k (l.getD k (0,[])).2.length:=by
 unfold ZY Xh;rw[Au l (0,[]) hk,List.flatMap_append,QD];simp[Xg,ZY]
theorem aZ {l:List (Int×List (Int×Int))} {k j:Nat} (a:j<(l.getD k (0,[])).2.length):Xh l k (j+1)=Xh l k j++[((l.getD k (0,[])).2.getD j (0,0)).1,((l.getD k (0,[])).2.getD j (0,0)).2]:=by
 unfold Xh;rw[Au _ (0,0) a,List.flatMap_append];simp
def Xj:AZ:={ ins:=[DZ],pre:=λ(f,_)=>f.length<=100000/\∀n∈f,n.2.length<=100000,out:=λ(f,_)=>[.p F2 (B3 f)] }
theorem p6:Ab Tryz.prog 130 Xj:=by
 refine fK [0,1,2,3,4,5,6,15,38] Tryz.func130 Tryz.ntmps130 AH ?_;rintro w0 O0 ⟨l,u⟩ a ⟨h,-⟩ ⟨n,d⟩;simp only[Xj,AM];repeat'(first|exact trivial|apply eS rfl|refine rX a ?_ ?_)
 refine AI (ι:={k:Nat//k<=l.length}) (λk=>⟨[(0,.p DZ l),(1,.bp 1 [] 0),(3,.sr 10 T3 0 (ZY l k.1).length),(4,.p (.int .i64) (k.1:Int))],[(1,.box 25 true [.p Ex l]),(10,.arr 3 T3 (ZY l k.1))]⟩) (λk=>l.length-k.1) ⟨0,by simp⟩ (AC [(1,.nm 1),(10,.nm 10)] rfl rfl ?_ ?_) (λk=>?_)
 .refine eM ?_;rfl
 .refine eM ?_;rfl
 obtain⟨k,hk⟩:=k;have i:=lA d hk;repeat'(first|exact trivial|apply eS rfl|refine rX a ?_ ?_|refine rC ?_ ?_<;>intro c<;>try(cases c;done))
 .exact eV
 .refine⟨by exact eV,?_⟩;simp only[AQ];exact eV
 .have b:k<l.length:=by exact eV
  have o:=d _ (AD l (0,[]) b);refine AI (ι:={j:Nat//j<=(l.getD k (0,[])).2.length}) (λj=>⟨[(0,.p DZ l),(1,.bp 1 [] 0),(3,.sr 10 T3 0 (Xh l k j.1).length),(4,.p (.int .i64) (k:Int)),(5,.p DM (l.getD k (0,[])).2),(6,.p (.int .i64) (j.1:Int))],[(1,.box 25 true [.p Ex l]),(10,.arr 3 T3 (Xh l k j.1))]⟩) (λj=>(l.getD k (0,[])).2.length-j.1) ⟨0,by simp⟩ (AC [(1,.nm 1),(10,.nm 10)] rfl rfl ?_ ?_) (λj=>?_)
  .refine eM ?_;simp[Xh]
  .refine eM ?_;simp[Xh]
  obtain⟨j,f⟩:=j;have m:=A4I d b f;repeat'(first|exact trivial|apply eS rfl|apply AB|refine rX a ?_ ?_|refine rC ?_ ?_<;>intro c<;>try(cases c;done))
  .refine⟨by exact eV,by exact eV,?_⟩;simp only[AQ];exact eV
  .exact eV
  .have e:j<(l.getD k (0,[])).2.length:=by exact eV
   refine⟨⟨j+1,by exact eV⟩,by simp only;exact eV,AC [(1,.nm 1),(10,.nm 10)] rfl rfl ?_ ?_⟩
   .refine eM ?_;exact(aZ e).symm
   refine eM ?_;have:=bY List.length (aZ (l:=l) e);rw[IF]at this;exact this.symm
  .exact eV
  have g:j=(l.getD k (0,[])).2.length:=by exact eV
  subst g;refine⟨⟨k+1,by exact eV⟩,by simp only;exact eV,AC [(1,.nm 1),(10,.nm 10)] rfl rfl ?_ ?_⟩
  .refine eM ?_;exact(aY b).symm
  refine eM ?_;exact bY List.length (aY b).symm
 have hk:l.take k=l:=As (by exact eV);have h1:ZY l k=B3 l:=by unfold ZY B3;rw[hk]
 exact fI a [.tmp 2] (by first|exact eR|refine UO ?_;exact h1)
section
attribute [local go_sem] Xj
def Le:List Int->List Int->Int
 | x :: xs,y :: ys=>if x<y then -1 else if y<x then 1 else Le xs ys
 | _,_=>0
theorem TA (xs ys:List Int) {k:Nat} (h1:k<xs.length) (a:k<ys.length):Le (xs.drop k) (ys.drop k)=if xs.getD k 0<ys.getD k 0 then -1 else if ys.getD k 0<xs.getD k 0 then 1 else Le (xs.drop (k+1)) (ys.drop (k+1)):=by
 rw[OR h1,OR a,AS,At h1,AS,At a];rfl
theorem A4J (xs ys:List Int) {k:Nat} (h:xs.length<=k\/ys.length<=k):Le (xs.drop k) (ys.drop k)=0:=by
 rcases h with h|h
 .rw[B0 h];simp[Le]
 rw[B0 h];simp[Le]
def DA (a b:List (Int×List (Int×Int))):Int:=Le (B3 a) (B3 b)
def DB (f:List (Int×List (Int×Int))):Prop:=f.length<=100000/\∀n∈f,n.2.length<=100000
def Xk:AZ:={ ins:=[DZ,DZ],pre:=λ(a,b,_)=>DB a/\DB b,out:=λ(a,b,_)=>[.p T3 (DA a b)] }
theorem Ra {f:List (Int×List (Int×Int))} (h:DB f):(B3 f).length<=1+f.length*200002:=by
 have:=Xi f h.2;simp only[B3,Of];omega
theorem p7:Ab Tryz.prog 78 Xk:=by
 refine fK [0,1,2,3,4,5,6,7,21,32,41] Tryz.func78 Tryz.ntmps78 (AF p6 AH) ?_;rintro w0 O0 ⟨a,b,u⟩ e-⟨⟨g,i⟩,⟨j,l⟩⟩;have m:=Ra ⟨g,i⟩;have n:=Ra ⟨j,l⟩;simp only[Xk,AM];repeat'(first|exact trivial|apply eS rfl|refine rX e ?_ ?_)
 .exact⟨g,i⟩
 .exact⟨j,l⟩
 refine AI (ι:={k:Nat//Le ((B3 a).drop k) ((B3 b).drop k)=DA a b}) (λk=>⟨[(5,.p F2 (B3 a)),(6,.p F2 (B3 b)),(7,.p (.int .i64) (k.1:Int))],[]⟩) (λk=>(B3 a).length-k.1) ⟨0,by simp[DA]⟩ (AC [] rfl rfl ?_ ?_) (λk=>?_)
 .exact eN
 .exact eN
 obtain⟨k,hk⟩:=k;repeat'(first|exact trivial|apply eS rfl|apply AB|refine rX e ?_ ?_|refine rC ?_ ?_<;>intro f<;>try(cases f;done))
 .exact eV
 .obtain⟨h1,c⟩:k<(B3 a).length/\k<(B3 b).length:=by exact eV
  have d:DA a b=-1:=by rw[<-hk,TA _ _ h1 c,BY f]
  exact fI e [.tmp 4] (by rw[d];exact eR)
 .exact eV
 .obtain⟨h1,c⟩:k<(B3 a).length/\k<(B3 b).length:=by exact eV
  have d:DA a b=1:=by rw[<-hk,TA _ _ h1 c,An (by exact eV),BY f]
  exact fI e [.tmp 4] (by rw[d];exact eR)
 .exact eV
 .obtain⟨h1,c⟩:k<(B3 a).length/\k<(B3 b).length:=by exact eV
  refine⟨⟨k+1,?_⟩,by simp only;exact eV,AC [] rfl rfl ?_ ?_⟩
  .rw[<-hk,TA _ _ h1 c,An (by exact eV),An (by exact eV)]
  .exact eN
  exact eN
 have d:DA a b=0:=by
  rw[<-hk];apply A4J;by_cases h:k<(B3 a).length
  .right;have:=f (by exact eV);exact eV
  left;exact eV
 exact fI e [.tmp 4] (by rw[d];exact eR)
def J4:AZ:={ ins:=[DZ,DZ],pre:=λ(a,b,_)=>DB a/\DB b,out:=λ(a,b,_)=>[.p .bool (DA a b==0)] }
end
section
attribute [local go_sem] Xk k9
theorem lB:Ab Tryz.prog 25 J4:=by
 refine fK [0,1,2,3,4] Tryz.func25 Tryz.ntmps25 (AF p7 AH) ?_;rintro w0 O0 ⟨a,b,u⟩ c-d;simp only[J4,AM];repeat'(first|exact trivial|apply eS rfl|refine rX c ?_ ?_)
 .exact d
 exact fI c [.tmp 4]
def GR (m:Int):List (Int×List (Int×Int))->Int
 | []=>0
 | n :: r=>if n.1<0 then 2 else if Gi n.2 m≠0 then Gi n.2 m else GR m r
def CC (f:List (Int×List (Int×Int))):Int:=if f.length=0 then 1 else if 4096<f.length then 7 else GR f.length f
def A4K:AZ:={ ins:=[DZ],pre:=λ_=>True,out:=λ(f,_)=>[.p MG (CC f)] }
theorem Im (m:Int) (l:List (Int×List (Int×Int))) {k:Nat} (h:k<l.length):GR m (l.drop k)=if (l.getD k (0,[])).1<0 then 2 else if Gi (l.getD k (0,[])).2 m≠0 then Gi (l.getD k (0,[])).2 m else GR m (l.drop (k+1)):=by
 rw[OR h,AS,At h];rfl
theorem A8J:Ab Tryz.prog 132 A4K:=by
 refine fK [0,1,2,3,4,8,12,17,26,38] Tryz.func132 Tryz.ntmps132 (AF A8I AH) ?_;rintro w0 O0 ⟨l,u⟩ a ⟨f,-⟩ -;simp only[A4K,AM];repeat'(first|exact trivial|apply eS rfl|refine rX a ?_ ?_|refine rC ?_ ?_<;>intro b<;>try(cases b;done))
 .have h1:CC l=1:=by
   have h:l.length=0:=by exact eV
   unfold CC;rw[BY h]
  exact fI a [.tmp 2] (by rw[h1];exact eR)
 .have h1:CC l=7:=by
   have h:¬l.length=0:=by exact eV
   have e:4096<l.length:=by exact eV
   unfold CC;rw[An h,BY e]
  exact fI a [.tmp 2] (by rw[h1];exact eR)
 have h1:CC l=GR l.length l:=by
  have h:¬l.length=0:=by exact eV
  have e:¬4096<l.length:=by exact eV
  unfold CC;rw[An h,An e]
 refine AI (ι:={k:Nat//k<=l.length/\GR l.length (l.drop k)=CC l}) (λk=>⟨[(1,.bp 1 [] 0),(3,.p (.int .i64) (k.1:Int))],[(1,.box 25 true [.p Ex l])]⟩) (λk=>l.length-k.1) ⟨0,by simp[h1]⟩ (AC [(1,.nm 1)] rfl rfl ?_ ?_) (λk=>?_)
 .exact eN
 .exact eN
 obtain⟨k,hk,hf⟩:=k;repeat'(first|exact trivial|apply eS rfl|apply AB|refine rX a ?_ ?_|refine rC ?_ ?_<;>intro b<;>try(cases b;done))
 .exact eV
 .have d:k<l.length:=by exact eV
  have c:CC l=2:=by rw[<-hf,Im _ _ d,BY b]
  exact fI a [.tmp 2] (by rw[c];exact eR)
 .exact eV
 .have d:k<l.length:=by exact eV
  have c:CC l=Gi (l.getD k (0,[])).2 l.length:=by rw[<-hf,Im _ _ d,An (by exact eV),BY b]
  exact fI a [.tmp 2] (by rw[c];exact eR)
 .exact eV
 .have d:k<l.length:=by exact eV
  refine⟨⟨k+1,by exact eV,?_⟩,by simp only;exact eV,AC [(1,.nm 1)] rfl rfl ?_ ?_⟩
  .rw[<-hf,Im _ _ d,An (by exact eV),An (by simpa using b)]
  .exact eN
  exact eN
 have c:CC l=0:=by
  have hk:l.length<=k:=by exact eV
  rw[<-hf,B0 hk];rfl
 exact fI a [.tmp 2] (by rw[c];exact eR)
end
def Io (x:Int×Int) (s:List (Int×Int)):Nat->Nat
 | 0=>0
 | n+1=>if x.1<(s.getD n (0,0)).1 then Io x s n else n+1
def Pi (s:List (Int×Int)) (x:Int×Int):List (Int×Int):=s.take (Io x s s.length)++[x]++s.drop (Io x s s.length)
def Af (l:List (Int×Int)):List (Int×Int):=l.foldl Pi []
theorem Vv (x:Int×Int) (s:List (Int×Int)):∀n,Io x s n<=n
 | 0=>Is _
 | n+1=>by
  unfold Io;have:=Vv x s n;split<;>omega
theorem A4L (s:List (Int×Int)) (x:Int×Int):(Pi s x).length=s.length+1:=by
 have:=Vv x s s.length;simp[Pi];omega
theorem Hw (l:List (Int×Int)) (x:Int×Int):Af (l++[x])=Pi (Af l) x:=by simp[Af]
theorem My:∀(l s:List (Int×Int)),(l.foldl Pi s).length=s.length+l.length
 | [],s=>by simp
 | x :: l,s=>by simp[My l,A4L];omega
theorem Cs (l:List (Int×Int)):(Af l).length=l.length:=by simp[Af,My]
def Rb:AZ:={ ins:=[DM],pre:=λ(l,_)=>l.length<=1000000,out:=λ(l,_)=>[.own 106 AW (Af l)] }
theorem a9:Ab Tryz.prog 152 Rb:=by
 refine fK [0,2,3,4,5,6,10,30] Tryz.func152 Tryz.ntmps152 AH ?_;rintro w0 O0 ⟨l,u⟩ c s j;simp only[Rb]at j;simp only[Rb,AM];repeat'(first|exact trivial|apply eS rfl|refine rX c ?_ ?_)
 refine AI (ι:={p:Nat//p<=l.length}) (λk=>⟨[(0,.p DM l),(3,.sr 10 AW 0 (Af (l.take k.1)).length),(4,.p (.int .i64) (k.1:Int))],[(10,.arr 106 AW (Af (l.take k.1)))]⟩) (λk=>l.length-k.1) ⟨0,by omega⟩ (AC [(10,.nil)] rfl rfl ?_ ?_) (λk=>?_)
 .refine eM ?_;rfl
 .refine eM ?_;rfl
 obtain⟨k,g⟩:=k;have o:(Af (l.take k)).length=k:=by rw[Cs,OS];exact ABO g
 repeat'(first|exact trivial|apply eS rfl|refine rX c ?_ ?_|refine rC ?_ ?_<;>intro b<;>try(cases b;done))
 .refine AI (ι:={q:Nat//q<=(Af (l.take k)).length/\Io (l.getD k (0,0)) (Af (l.take k)) q=Io (l.getD k (0,0)) (Af (l.take k)) (Af (l.take k)).length}) (λq=>⟨[(0,.p DM l),(3,.sr 10 AW 0 (Af (l.take k)).length),(4,.p (.int .i64) (k:Int)),(5,.p (.int .i64) (q.1:Int))],[(10,.arr 106 AW (Af (l.take k)))]⟩) (λq=>q.1) ⟨(Af (l.take k)).length,by simp⟩ (eW [(10,.nm 10)]) (λq=>?_)
  obtain⟨q,m,hp⟩:=q;have h:k<l.length:=by omega
  have n:=l.length_take_le k;have d:(List.take q (Af (List.take k l))).length=q:=by rw[OS];exact ABO m
  repeat'(first|exact trivial|apply eS rfl|apply AB|refine rX c ?_ ?_|refine rC ?_ ?_<;>intro b<;>try(cases b;done))
  .exact eV
  .exact eV
  .obtain⟨h1,a⟩:=b;obtain⟨q,rfl⟩:∃r,q=r+1:=⟨q-1,by omega⟩;have e:((q+1:Nat):Int)-1=(q:Int):=by omega
   refine⟨⟨q,by omega,?_⟩,AFS q,AC [(10,.nm 10)] rfl rfl ?_ ?_⟩
   .rw[<-hp];simp only[Io];rw[e,P0]at a;rw[BY a]
   .exact eN
   refine eM ?_;show (q:Int)+1-1=q;omega
  .refine⟨by exact eV,?_⟩;rw[d];unfold AQ;omega
  .refine⟨by exact eV,?_⟩;rw[d];simp only[AQ];omega
  .refine⟨by exact eV,?_⟩;rw[d];simp only[AQ,SM];omega
  .exact eV
  have i:Io (l.getD k (0,0)) (Af (l.take k)) q=q:=by
   cases q with
   | zero=>rfl
   | succ q =>
    have e:((q+1:Nat):Int)-1=(q:Int):=by omega
    have:=b (by omega);rw[e,P0]at this;simp only[Io];rw[An (by omega)]
  have h1:=Au l (0,0) h;have a:Af (l.take (k+1))=_:=(bY Af h1).trans (Hw _ _);unfold Pi at a;rw[<-hp,i]at a;refine⟨⟨k+1,by exact eV⟩,by simp only;exact eV,AC [(10,.nm 37)] rfl rfl ?_ ?_⟩
  .refine eM ?_;exact a.symm
  refine eM ?_;have f:=bY List.length a;rw[IF,IF]at f;exact f.symm
 have hk:l.take k=l:=As (by exact eV);refine O7 c (.inl rfl) (rv:=.tmp 2) rfl ?_;simp only[Lt,Jt,IM,go_sem,Nat.reduceEqDiff,reduceCtorEq,Nat.reduceAdd,Nat.reduceSub,Nat.reduceMul,Nat.reduceLeDiff,Nat.reduceLT,Int.reduceLE,Int.reduceToNat,Int.reduceNeg,↓reduceIte];rw[hk];first|rfl|exact⟨rfl,rfl⟩|exact⟨rfl,rfl,rfl⟩
section
attribute [local go_sem] Rb
abbrev AE:=Int×List (Int×Int)
def EH (f:List AE):Nat->List Int×List Int->Int->List Int×List Int
 | 0,s,_=>s
 | k+1,s,n=>(Af (f.getD n.toNat (0,[])).2).foldl (λs a=>if s.1.getD a.2.toNat 0<0 then EH f k s a.2 else s) (s.1.set n.toNat (s.2.length:Int),s.2++[n])
def MD (l:List Int):Nat:=l.countP (λx=>decide (x<0))
def AR (f:List AE):Prop:=f.length<=100000/\∀x∈f,x.2.length<=100000/\∀a∈x.2,0<=a.2/\a.2<(f.length:Int)
def VD (f:List AE) (s:List Int×List Int):Prop:=s.1.length=f.length/\s.2.length+MD s.1<=f.length
theorem A4M {l:List Int} {n:Nat} {v:Int} (hn:n<l.length) (a:l.getD n 0<0) (d:0<=v):MD (l.set n v)+1=MD l:=by
 induction l generalizing n with
 | nil=>simp at hn
 | cons x r c =>
  cases n with
  | zero =>
   have b:x<0:=by simpa using a
   have:¬v<0:=by omega
   simp[MD,AC2,b,this]
  | succ n =>
   have h1:=c (n:=n) (by simpa using hn) (by simpa using a);simp only[MD,AG5,AC2]at h1 ⊢;omega
theorem p8 {f:List AE} {s:List Int×List Int} {n:Int} (h:VD f s) (d:0<=n) (hn:n<f.length) (b:s.1.getD n.toNat 0<0) :
  VD f (s.1.set n.toNat (s.2.length:Int),s.2++[n])/\MD (s.1.set n.toNat (s.2.length:Int))+1=MD s.1:=by
 obtain⟨h1,c⟩:=h;have a:=A4M (l:=s.1) (n:=n.toNat) (v:=(s.2.length:Int)) (by omega) b (by omega);refine⟨⟨by simpa using h1,?_⟩,a⟩;simp only[IF,Pz];omega
theorem A1E (s:List (Int×Int)) (x:Int×Int):(Pi s x).Perm (x :: s):=by
 unfold Pi;refine(List.perm_append_comm.append_right _).trans ?_;simp
theorem L1:∀(l s:List (Int×Int)),(l.foldl Pi s).Perm (l++s)
 | [],s=>List.Perm.refl _
 | x :: l,s=>by
  refine(L1 l (Pi s x)).trans ?_;refine(List.Perm.append_left l (A1E s x)).trans ?_;exact AGn
theorem FC (l:List (Int×Int)):(Af l).Perm l:=by
 have:=L1 l [];simpa[Af] using this
theorem Mz {f:List AE} (hf:AR f) (n:Int):List.length (f.getD n.toNat (0,[])).2<=100000:=by
 by_cases h:n.toNat<f.length
 .have a:f.getD n.toNat (0,[])∈f:=by
   rw[AS,At h];exact VR h
  exact(hf.2 _ a).1
 rw[AS,QH (by omega)];simp
theorem Vx {f:List AE} (hf:AR f) {n:Int} {a:Int×Int} (ha:a∈Af (f.getD n.toNat (0,[])).2):0<=a.2/\a.2<f.length:=by
 have ha:=(FC _).mem_iff.1 ha;by_cases h:n.toNat<f.length
 .have b:f.getD n.toNat (0,[])∈f:=by
   rw[AS,At h];exact VR h
  exact(hf.2 _ b).2 a ha
 rw[AS,QH (by omega)]at ha;simp at ha
def Eh (f:List AE) (k:Nat) (s:List Int×List Int) (a:Int×Int):List Int×List Int:=if s.1.getD a.2.toNat 0<0 then EH f k s a.2 else s
theorem F6 (f:List AE) (k:Nat) (s:List Int×List Int) (n:Int):EH f (k+1) s n=(Af (f.getD n.toNat (0,[])).2).foldl (Eh f k) (s.1.set n.toNat (s.2.length:Int),s.2++[n]):=rfl
theorem Vy {f:List AE} {k:Nat} (i:∀(s:List Int×List Int) (n:Int),VD f s->0<=n->n<f.length->s.1.getD n.toNat 0<0->VD f (EH f k s n)/\MD (EH f k s n).1<=MD s.1) :
  ∀(l:List (Int×Int)) (t:List Int×List Int),(∀a∈l,0<=a.2/\a.2<(f.length:Int))->VD f t->VD f (l.foldl (Eh f k) t)/\MD (l.foldl (Eh f k) t).1<=MD t.1
 | [],t,_,d=>⟨d,Is _⟩
 | a :: l,t,c,d=>by
  simp only[ON];by_cases h:t.1.getD a.2.toNat 0<0
  .obtain⟨j,m⟩:=i t a.2 d (c a (by simp)).1 (c a (by simp)).2 h;have e:Eh f k t a=EH f k t a.2:=BY h;rw[e];obtain⟨o,p⟩:=Vy i l _ (λb g=>c b (by simp[g])) j;exact⟨o,QB p m⟩
  have e:Eh f k t a=t:=An h;rw[e];exact Vy i l t (λb g=>c b (by simp[g])) d
theorem TB {f:List AE} (hf:AR f):∀(k:Nat) (s:List Int×List Int) (n:Int),VD f s->0<=n->n<f.length->s.1.getD n.toNat 0<0->VD f (EH f k s n)/\MD (EH f k s n).1<=MD s.1
 | 0,s,n,h,_,_,_=>⟨h,Is _⟩
 | k+1,s,n,h,h0,h1,d=>by
  obtain⟨e,g⟩:=p8 h h0 h1 d;obtain⟨b,c⟩:=Vy (TB hf k) _ _ (λa ha=>Vx hf ha) e;rw[F6];exact⟨b,by simp only at c g;omega⟩
theorem Nv {α β:Type} (g:β->α->β) (l:List α) (d:α) (t:β) {i:Nat} (hi:i<l.length):(l.take (i+1)).foldl g t=g ((l.take i).foldl g t) (l.getD i d):=by
 rw[Au l d hi,AF8];rfl
def L2 (f:List AE) (s:List Int×List Int):List (Nat×Obj):=[(1,.box 184 true [.p DZ f,.sr 2 T3 0 s.1.length,.sr 3 T3 0 s.2.length]),(2,.arr 3 T3 s.1),(3,.arr 3 T3 s.2)]
theorem A4N (f:List AE) (hf:AR f):∀(k:Nat) (s:List Int×List Int) (n:Int),VD f s->0<=n->n<f.length->s.1.getD n.toNat 0<0->MD s.1<=k ->
  BK Tryz.prog 151 [.bp 1 [] 0,.p T3 n] (L2 f s) [1] (λres M=>res=.raw (.tuple #[])/\M=L2 f (EH f k s n)):=by
 intro k;induction k with
 | zero =>
  intro s n h0 h1 u B N;obtain⟨_,O⟩:=p8 h0 h1 u B;omega
 | succ k J =>
  intro s n A w m x hk;obtain⟨num,g⟩:=s;obtain⟨t,v⟩:=p8 A w m x;obtain⟨G,H⟩:=A;simp only at G H x t v hk;refine LQ [0,1,4,5,40,54] [] [] Tryz.func151 Tryz.ntmps151 (AF a9 AH) ?_;intro w0 K O0 ρ0 c Q R;simp only[L2,Aq];repeat'(first|exact trivial|apply eS rfl|refine rX c ?_ ?_)
  .exact eV
  .have:=hf.1;simp only[AQ];omega
  .have I:=Mz hf n;exact⟨⟨w,m⟩,QB I (by omega)⟩
  have l:=λa (ha:a∈Af (f.getD n.toNat (0,[])).2)=>Vx hf ha;have D:(Af (f.getD n.toNat (0,[])).2).length<=100000:=by rw[Cs];exact Mz hf n
  generalize C:Af (f.getD n.toNat (0,[])).2=L at l D;generalize o:(num.set n.toNat (g.length:Int),g++[n])=s1 at t;have F:∀i,VD f ((L.take i).foldl (Eh f k) s1)/\MD ((L.take i).foldl (Eh f k) s1).1<=MD s1.1:=λi=>Vy (TB hf k) _ _ (λa ha=>l a (VM ha)) t;have m:num.set n.toNat (g.length:Int)=s1.1:=by rw[<-o]
  have P:g++[n]=s1.2:=by rw[<-o]
  rw[m]at v;refine AI (ι:={i:Nat//i<=L.length}) (λi=>⟨[(0,.bp 1 [] 0),(1,.p T3 n),(4,.p DM L),(5,.p (.int .i64) (i.1:Int))],L2 f ((L.take i.1).foldl (Eh f k) s1)⟩) (λi=>L.length-i.1) ⟨0,by omega⟩ (ACd [36] (AC [(1,.nm 1),(2,.nm 2),(3,.nm 3)] rfl rfl ?_ ?_)) (λi=>?_)
  .simp only[L2];refine eM ?_;simp only[List.foldl_nil];rw[<-o];simp
  .exact eN
  obtain⟨i,hi⟩:=i;obtain⟨r,E⟩:=F i;have q:=λ(h:i<L.length)=>Nv (Eh f k) L (0,0) s1 h;generalize z:(L.take i).foldl (Eh f k) s1=b at r E q;simp only[L2];repeat'(first|exact trivial|apply eS rfl|apply AB|refine rX c ?_ ?_|refine rC ?_ ?_<;>intro j<;>try(cases j;done))
  .have d:i<L.length:=by exact eV
   have:=l _ (AD L (0,0) d);obtain⟨h1,u⟩:=r;refine⟨by exact eV,this.1,?_⟩;rw[h1];exact this.2
  .have d:i<L.length:=by exact eV
   have y:=l _ (AD L (0,0) d);refine cP 6 c ?_ ?_
   .exact eV
   refine rM c (J b (L.getD i (0,0)).2 r y.1 y.2 (by simpa using j) (by omega)) [(1,.nm 1),(2,.nm 2),(3,.nm 3)] [2,3] ?_ ?_ ?_
   .exact eN
   .simp only[L2];exact eN
   rintro _ _ ⟨rfl,rfl⟩;refine⟨[(1,.nm 1),(2,.nm 2),(3,.nm 3)],.raw (.tuple #[]),L2 f (EH f k b (L.getD i (0,0)).2),rfl,rfl,?_,?_,rfl,rfl,CV ?_⟩
   .simp only[L2];exact eN
   .exact eN
   repeat'(first|apply eS rfl|apply AB|refine rX c ?_ ?_)
   .exact eV
   have e:Eh f k b (L.getD i (0,0))=EH f k b (L.getD i (0,0)).2:=BY (by simpa using j);refine⟨⟨i+1,by omega⟩,by simp only;omega,AC [(1,.nm 1),(2,.nm 2),(3,.nm 3)] rfl rfl ?_ ?_⟩
   .simp only[L2,q d,e];exact eN
   exact eN
  .exact eV
  .have d:i<L.length:=by exact eV
   have e:Eh f k b (L.getD i (0,0))=b:=An (by simpa using j);refine⟨⟨i+1,by omega⟩,by simp only;omega,AC [(1,.nm 1),(2,.nm 2),(3,.nm 3)] rfl rfl ?_ ?_⟩
   .simp only[q d,e];exact eN
   exact eN
  have hk:L.take i=L:=As (by exact eV);rw[hk]at z;have h1:EH f (k+1) (num,g) n=b:=by rw[F6,C,<-z,<-o]
  rw[h1];exact fM c [] (.raw (.tuple #[])) rfl ⟨rfl,rfl⟩
end
section
attribute [local go_sem] Rb
def lC (f:List AE) (s:List Int×List Int):Prop:=∀n∈s.2,0<=n/\n<(f.length:Int)
theorem Xl {f:List AE} (hf:AR f):∀(k:Nat) (s:List Int×List Int) (n:Int),lC f s->0<=n->n<f.length->lC f (EH f k s n)
 | 0,s,n,h,_,_=>h
 | k+1,s,n,h,h0,h1=>by
  rw[F6];have key:∀(l:List (Int×Int)) (t:List Int×List Int),(∀a∈l,0<=a.2/\a.2<(f.length:Int))->lC f t->lC f (l.foldl (Eh f k) t):=by
   intro l;induction l with
   | nil=>intro t _ d;exact d
   | cons a l i =>
    intro t e d;simp only[ON];refine i _ (λb g=>e b (by simp[g])) ?_;unfold Eh;split
    .exact Xl hf k t a.2 d (e a (by simp)).1 (e a (by simp)).2
    exact d
  refine key _ _ (λa ha=>Vx hf ha) ?_;intro m c;simp only[OF,QL]at c;rcases c with c|rfl
  .exact h m c
  exact⟨h0,h1⟩
def Gj (f:List AE) (root:Int):List Int×List Int:=EH f f.length (List.replicate f.length (-1),[]) root
def ZZ (num:List Int) (a:Int×Int):Int×Int:=(a.1,num.getD a.2.toNat 0)
def M0 (f:List AE) (num:List Int) (n:Int):AE:=((f.getD n.toNat (0,[])).1,(Af (f.getD n.toNat (0,[])).2).map (ZZ num))
def Ja (f:List AE) (root:Int):List AE:=(Gj f root).2.map (M0 f (Gj f root).1)
theorem lD (m:Nat):MD (List.replicate m (-1))=m:=by
 induction m with
 | zero=>rfl
 | succ m a=>simp only[MD,AFA,AC2]at a ⊢;simp[a]
theorem tr0 (f:List AE):VD f (List.replicate f.length (-1),[]):=⟨by simp,by simp[lD]⟩
theorem zX {f:List AE} {n:Int} (h0:0<=n) (h1:n<f.length):(List.replicate f.length (-1:Int)).getD n.toNat 0<0:=by
 have:n.toNat<f.length:=by omega
 simp[AS,gO,this]
theorem zY {f:List AE} (hf:AR f) {n:Int} (h0:0<=n) (h1:n<f.length):VD f (Gj f n)/\lC f (Gj f n) :=
 ⟨(TB hf _ _ n (tr0 f) h0 h1 (zX h0 h1)).1,Xl hf _ _ n (λm a=>by simp at a) h0 h1⟩
theorem Xm {α b:Type} (g:α->b) (h:b->α) (L:List α) (d:α) {k:Nat} (hk:k<L.length) (u:α->α):((L.take k).map u++L.drop k).set k (u (L.getD k d))=(L.take (k+1)).map u++L.drop (k+1)/\((L.take k).map u++L.drop k).getD k d=L.getD k d:=by
 have h1:((L.take k).map u).length=k:=by simp;omega
 have a:L.drop k=L.getD k d :: L.drop (k+1):=by
  rw[OR hk,AS,At hk];rfl
 constructor
 .rw[Au L d hk,AEv _ _ (by omega),h1,tO,a];simp
 rw[AS,QR (by omega),h1,tO,a];rfl
def bA:AZ:={ ins:=[DZ,T3],pre:=λ(f,n,_)=>AR f/\0<=n/\n<(List.length f:Int),out:=λ(f,n,_)=>[.p DZ (Ja f n)] }
theorem A8K:Ab Tryz.prog 114 bA:=by
 refine fK [0,1,2,4,5,6,7,8,9,10,11,19,40,60] Tryz.func114 Tryz.ntmps114 (AF a9 AH) ?_;rintro w0 O0 ⟨f,root,u⟩ d-⟨hf,l,m⟩;simp only[bA,AM];have G:=hf.1;repeat'(first|exact trivial|apply eS rfl|refine rX d ?_ ?_)
 refine AI (ι:={i:Nat//i<=f.length}) (λi=>⟨[(1,.p T3 root),(2,.bp 2 [] 0),(4,.bp 4 [] 0),(5,.bp 14 [] 0),(6,.p (.int .i64) (i.1:Int))],[(2,.box 25 true [.p Ex f]),(4,.box 25 true [.raw (.slice none 0 0)]),(14,.box 184 true [.p DZ f,.sr 10 T3 0 i.1,.raw (.slice none 0 0)]),(10,.arr 3 T3 (List.replicate i.1 (-1)))]⟩) (λi=>f.length-i.1) ⟨0,by omega⟩ (AC [(2,.nm 2),(4,.nm 4),(14,.nm 14),(10,.nil)] rfl rfl ?_ ?_) (λi=>?_)
 .refine eM ?_;rfl
 .exact eN
 obtain⟨i,hi⟩:=i;repeat'(first|exact trivial|apply eS rfl|apply AB|refine rX d ?_ ?_|refine rC ?_ ?_<;>intro h<;>try(cases h;done))
 .simp only[AQ];omega
 .exact eV
 .have hi:i<List.length f:=by exact eV
  refine⟨⟨i+1,by omega⟩,by simp only;omega,AC [(2,.nm 2),(4,.nm 4),(14,.nm 14),(10,.nm 10)] rfl rfl ?_ ?_⟩
  .refine eM ?_;rw[AFU];simp
  exact eN
 have A:i=List.length f:=by exact eV
 subst A;have w:=zY hf l m;refine cP 2 d ?_ ?_
 .trivial
 refine rM d (A4N f hf (List.length f) (List.replicate (List.length f) (-1),[]) root (tr0 f) l m (zX l m) (by rw[lD];exact Is _)) [(1,.nm 14),(2,.nm 10),(3,.nil)] [10] ?_ ?_ ?_
 .exact eN
 .simp only[L2];refine eM ?_;simp
 rintro _ _ ⟨rfl,rfl⟩;refine⟨[(14,.nm 1),(101,.nm 2),(102,.nm 3)],.raw (.tuple #[]),[(14,.box 184 true [.p DZ f,.sr 101 T3 0 (Gj f root).1.length,.sr 102 T3 0 (Gj f root).2.length]),(101,.arr 3 T3 (Gj f root).1),(102,.arr 3 T3 (Gj f root).2)],rfl,rfl,?_,?_,rfl,rfl,CV ?_⟩
 .simp only[L2,Gj];exact eN
 .exact eN
 have z:Ja f root=(Gj f root).2.map (M0 f (Gj f root).1):=rfl;rw[z];generalize Gj f root=s at w;obtain⟨num,c⟩:=s;obtain⟨⟨r,t⟩,j⟩:=w;simp only at r t;have j:∀n∈c,0<=n/\n<(List.length f:Int):=j;repeat'(first|exact trivial|apply eS rfl|refine rX d ?_ ?_)
 refine AI (ι:={i:Nat//i<=c.length}) (λi=>⟨[(2,.bp 2 [] 0),(4,.bp 4 [] 0),(5,.bp 14 [] 0),(7,.bp 7 [] 0),(8,.p (.int .i64) (i.1:Int))],[(2,.box 25 true [.p Ex f]),(4,.box 25 true [.raw (.slice none 0 0)]),(14,.box 184 true [.p DZ f,.sr 101 T3 0 num.length,.sr 102 T3 0 c.length]),(101,.arr 3 T3 num),(102,.arr 3 T3 c),(7,.box 25 true [.sr 200 Mn 0 i.1]),(200,.arr 93 Mn ((c.take i.1).map (M0 f num)))]⟩) (λi=>c.length-i.1) ⟨0,by omega⟩ (eW [(2,.nm 2),(4,.nm 4),(14,.nm 14),(101,.nm 101),(102,.nm 102),(7,.nm 7),(200,.nil)]) (λi=>?_)
 obtain⟨i,hi⟩:=i;repeat'(first|exact trivial|apply eS rfl|refine rX d ?_ ?_|refine rC ?_ ?_<;>intro h<;>try(cases h;done))
 .have hi:i<c.length:=by exact eV
  exact⟨by exact eV,j _ (AD c 0 hi)⟩
 .exact QB (Mz hf _) (by omega)
 .have hi:i<c.length:=by exact eV
  have q:=λa (ha:a∈Af (f.getD (Int.toNat (c.getD i 0)) (0,[])).2)=>Vx hf ha;have v:M0 f num (c.getD i 0)=((f.getD (Int.toNat (c.getD i 0)) (0,[])).1,(Af (f.getD (Int.toNat (c.getD i 0)) (0,[])).2).map (ZZ num)):=rfl;have B:=Mz hf (c.getD i 0);generalize List.getD f (Int.toNat (c.getD i 0)) (0,[])=x at *;obtain⟨E,o⟩:=x;simp only at q v B;have F:=Cs o;generalize Af o=L at *;refine AI (ι:={k:Nat//k<=L.length}) (λk=>⟨[(2,.bp 2 [] 0),(4,.bp 4 [] 0),(5,.bp 14 [] 0),(7,.bp 7 [] 0),(8,.p (.int .i64) (i:Int)),(9,.bp 9 [] 0),(10,.sr 56 AW 0 L.length),(11,.p (.int .i64) (k.1:Int))],[(56,.arr 106 AW ((L.take k.1).map (ZZ num)++L.drop k.1)),(9,.box 93 true [.p T3 E,.p DM o]),(2,.box 25 true [.p Ex f]),(4,.box 25 true [.raw (.slice none 0 0)]),(14,.box 184 true [.p DZ f,.sr 101 T3 0 num.length,.sr 102 T3 0 c.length]),(101,.arr 3 T3 num),(102,.arr 3 T3 c),(7,.box 25 true [.sr 200 Mn 0 i]),(200,.arr 93 Mn ((c.take i).map (M0 f num)))]⟩) (λk=>L.length-k.1) ⟨0,by omega⟩ (eW [(2,.nm 2),(4,.nm 4),(14,.nm 14),(101,.nm 101),(102,.nm 102),(7,.nm 7),(200,.nm 200),(9,.nm 9),(56,.nm 56)]) (λk=>?_)
  obtain⟨k,hk⟩:=k;repeat'(first|exact trivial|apply eS rfl|apply AB|refine rX d ?_ ?_|refine rC ?_ ?_<;>intro h<;>try(cases h;done))
  .have g:k<L.length:=by exact eV
   have e:=(Xm (ZZ num) (λb=>b) L (0,0) g (ZZ num)).2;rw[e];have:=q _ (AD L (0,0) g);rw[r];exact⟨by exact eV,this,by exact eV⟩
  .exact eV
  .have g:k<L.length:=by exact eV
   have e:=Xm (ZZ num) (λb=>b) L (0,0) g (ZZ num);refine⟨⟨k+1,by omega⟩,by simp only;omega,AC [(2,.nm 2),(4,.nm 4),(14,.nm 14),(101,.nm 101),(102,.nm 102),(7,.nm 7),(200,.nm 200),(9,.nm 9),(56,.nm 56)] rfl rfl ?_ ?_⟩
   .refine eM ?_;rw[e.2];exact e.1
   exact eN
  .simp only[AQ];have:=t;omega
  .exact eV
  have g:L.take k=L:=As (by exact eV);have y:L.drop k=[]:=B0 (by exact eV);refine⟨⟨i+1,by omega⟩,by simp only;omega,AC [(2,.nm 2),(4,.nm 4),(14,.nm 14),(101,.nm 101),(102,.nm 102),(7,.nm 7),(200,.nm 200)] rfl rfl ?_ ?_⟩
  .refine eM ?_;rw[g,y,QQ,Au c 0 hi,VO,QM,AFN,v];have C:List.take i ((c.take i).map (M0 f num))=(c.take i).map (M0 f num):=As (by rw[Py,OS];omega);have D:List.take L.length (L.map (ZZ num))=L.map (ZZ num):=As (by rw[Py];omega);rw[C,D]
  exact eN
 have hk:c.take i=c:=As (by exact eV);rw[hk];refine fI d [.cell 4 25] (by first|exact eR|refine UO ?_;exact As (by rw[Py];exact eV))
end
section
attribute [local go_sem] A4K bA
theorem Xn {n:Int}:∀ {l seen:List (Int×Int)},GQ n seen l=0->∀a∈l,0<=a.1/\0<=a.2/\a.2<n
 | [],_,_,a,ha=>by cases ha
 | x :: l,seen,h,a,ha=>by
  simp only[GQ]at h;split at h
  .cases h
  split at h
  .cases h
  rename_i h1 _;rcases DO.1 ha with rfl|ha
  .omega
  exact Xn h a ha
theorem Ip {m:Int}:∀ {f:List (Int×List (Int×Int))},GR m f=0->∀x∈f,0<=x.1/\∀a∈x.2,0<=a.1/\0<=a.2/\a.2<m
 | [],_,x,c=>by cases c
 | y :: f,h,x,c=>by
  simp only[GR]at h;split at h
  .cases h
  split at h
  .rename_i h1 b;exact absurd h b
  rename_i h1 b;have b:Gi y.2 m=0:=GO b;rcases DO.1 c with rfl|c
  .exact⟨by omega,Xn b⟩
  exact Ip h x c
def Xo (f:List (Int×List (Int×Int))):Prop:=∀x∈f,x.2.length<=100000
theorem Iq {f:List (Int×List (Int×Int))} (h:CC f=0) (hs:Xo f):AR f/\0<f.length:=by
 unfold CC at h;split at h
 .cases h
 split at h
 .cases h
 refine⟨⟨by omega,λx b=>⟨hs x b,λa ha=>?_⟩⟩,by omega⟩;have:=(Ip h x b).2 a ha;exact⟨this.2.1,this.2.2⟩
def A9 (f:List AE):List AE×Int:=if CC f=0 then (Ja f 0,0) else ([],CC f)
def fQ:AZ:={ ins:=[DZ],pre:=λ(f,_)=>Xo f,out:=λ(f,_)=>[.p DZ (A9 f).1,.p MG (A9 f).2] }
theorem A4O:Ab Tryz.prog 82 fQ:=by
 refine fK [0,1,2,3,4,8] Tryz.func82 Tryz.ntmps82 (AF A8J (AF A8K AH)) ?_;rintro w0 O0 ⟨f,u⟩ b-hs;simp only[fQ,AM];repeat'(first|exact trivial|apply eS rfl|refine rX b ?_ ?_|refine rC ?_ ?_<;>intro a<;>try(cases a;done))
 .have h:¬CC f=0:=by simpa using a
  have e:A9 f=([],CC f):=An h;exact fI b [.cell 2 25,.tmp 3] (by rw[e];exact eR)
 .have h:CC f=0:=by simpa using a
  have:=Iq h hs;exact⟨this.1,by exact eV⟩
 have h:CC f=0:=by simpa using a
 have e:A9 f=(Ja f 0,0):=BY h;exact fI b [.cell 2 25,.tmp 3] (by rw[e];exact eR)
end
def zZ (l:List Int) (n:Int):Bool:=l.any λx=>x==n
def bB:AZ:={ ins:=[T3],pre:=λ_=>True,out:=λ(t,_)=>[.p DZ [(t,[])]] }
theorem A8L:Ab Tryz.prog 27 bB:=by
 refine fK [0,2] Tryz.func27 Tryz.ntmps27 AH ?_;rintro w0 O0 ⟨t,u⟩ a - -;simp only[bB,AM];repeat'(first|exact trivial|apply eS rfl|apply AB|refine rX a ?_ ?_|refine rC ?_ ?_<;>intro b<;>try(cases b;done))
 exact fI a [.cell 2 25]
section
attribute [local go_sem] Ld fQ J4
def ftB (a:Int×Int):Bool:=decide (a.1<64)
def ndB (x:AE):Bool:=decide (x.1<256)&&x.2.all ftB
def EI (f:List AE):Bool:=E1 f&&f.all ndB&&((A9 f).2==0&&(DA (A9 f).1 f==0))
theorem HV {f:List AE} (h:E1 f=true):f.length<=12/\∀x∈f,x.2.length<=12:=by
 unfold E1 at h;simp only[AT,By,If]at h;exact h
theorem p9 {f:List AE} (hf:AR f) {n:Int} (h0:0<=n) (h1:n<f.length):DB (Ja f n):=by
 obtain⟨⟨b,c⟩,_⟩:=zY hf h0 h1;have d:=hf.1;refine⟨?_,λx a=>?_⟩
 .unfold Ja;rw[Py];omega
 obtain⟨m,_,rfl⟩:=Do.1 a;unfold M0;simp only[Py,Cs];exact Mz hf m
theorem UZ {f:List AE} (hs:Xo f):DB (A9 f).1:=by
 unfold A9;split
 .rename_i h;obtain⟨h1,b⟩:=Iq h hs;exact p9 h1 (by omega) (by omega)
 exact⟨by simp,λx a=>by cases a⟩
end
section
attribute [local go_sem] fQ J4
def qA (h:AG) (a:Int×Int):Bool:=decide (a.1<(h.2.length:Int))
def Ua (h:AG) (x:AE):Bool:=decide (x.1<(h.1.length:Int))&&x.2.all (qA h)
def BE (h:AG) (f:List AE):Int:=if (A9 f).2≠0 then (A9 f).2 else if f.all (Ua h)=false then 2 else if (DA f (A9 f).1==0)=false then 3 else 0
def Jb:AZ:={ ins:=[ED,DZ],pre:=λ(_,f,_)=>DB f,out:=λ(h,f,_)=>[.p MG (BE h f)] }
theorem Nw:Ab Tryz.prog 33 Jb:=by
 refine fK [0,1,2,3,4,5,6,7,8,9,16,22,35,40,52,56] Tryz.func33 Tryz.ntmps33 (AF A4O (AF lB AH)) ?_;rintro w0 O0 ⟨⟨b,hf⟩,f,u⟩ d-hs;have hs:DB f:=hs;simp only[Jb,AM];repeat'(first|exact trivial|apply eS rfl|refine rX d ?_ ?_|refine rC ?_ ?_<;>intro a<;>try(cases a;done))
 .exact hs.2
 .have h1:BE (b,hf) f=(A9 f).2:=by unfold BE;rw[BY a]
  exact fI d [.tmp 4] (by rw[h1];exact eR)
 have t:(A9 f).2=0:=by simpa using a
 have q:=UZ hs.2;have w:=hs.1;have g:BE (b,hf) f=if f.all (Ua (b,hf))=false then 2 else if (DA f (A9 f).1==0)=false then 3 else 0:=by unfold BE;rw[An (by rw[t];simp)]
 refine AI (ι:={i:Nat//i<=f.length/\(f.take i).all (Ua (b,hf))=true}) (λi=>⟨[(2,.bp 2 [] 0),(3,.bp 3 [] 0),(5,.bp 5 [] 0),(7,.p (.int .i64) (i.1:Int))],[(2,.box 31 true [.p RB b,.p Sv hf]),(3,.box 25 true [.p Ex f]),(5,.box 25 true [.p Ex (A9 f).1])]⟩) (λi=>f.length-i.1) ⟨0,by simp⟩ (eW [(2,.nm 2),(3,.nm 3),(5,.nm 5)]) (λi=>?_)
 obtain⟨i,hi,l⟩:=i;have r:=λh:i<f.length=>Gv f (0,[]) (Ua (b,hf)) h;simp only;repeat'(first|exact trivial|apply eS rfl|refine rX d ?_ ?_|refine rC ?_ ?_<;>intro a<;>try(cases a;done))
 .exact a
 .have c:i<f.length:=IN.1 (by assumption);have e:f.all (Ua (b,hf))=false:=by
   rw[iF];refine⟨_,AD f (0,[]) c,?_⟩;unfold Ua;rw[AA7 (ZF.2 a)];simp
  rw[BY e]at g;exact fI d [.tmp 4] (by rw[g];exact eR)
 .have c:i<f.length:=IN.1 (by assumption);have n:=AD f (0,[]) c;have o:Ua (b,hf) (f.getD i (0,[]))=(f.getD i (0,[])).2.all (qA (b,hf)):=by
   unfold Ua;rw[aS (show (f.getD i (0,[])).1<(b.length:Int) from a)];rfl
  have v:(f.getD i (0,[])).2.length<=100000:=hs.2 _ n;refine AI (ι:={k:Nat//k<=(f.getD i (0,[])).2.length/\((f.getD i (0,[])).2.take k).all (qA (b,hf))=true}) (λk=>⟨[(2,.bp 2 [] 0),(3,.bp 3 [] 0),(5,.bp 5 [] 0),(7,.p (.int .i64) (i:Int)),(8,.bp 8 [] 0),(9,.p (.int .i64) (k.1:Int))],[(2,.box 31 true [.p RB b,.p Sv hf]),(3,.box 25 true [.p Ex f]),(5,.box 25 true [.p Ex (A9 f).1]),(8,.box 93 true [.p T3 (f.getD i (0,[])).1,.p DM (f.getD i (0,[])).2])]⟩) (λk=>(f.getD i (0,[])).2.length-k.1) ⟨0,by simp⟩ (eW [(2,.nm 2),(3,.nm 3),(5,.nm 5),(8,.nm 8)]) (λk=>?_)
  obtain⟨k,hk,m⟩:=k;have s:=λh:k<(f.getD i (0,[])).2.length=>Gv (f.getD i (0,[])).2 (0,0) (qA (b,hf)) h;simp only;repeat'(first|exact trivial|apply eS rfl|apply AB|refine rX d ?_ ?_|refine rC ?_ ?_<;>intro a<;>try(cases a;done))
  .exact a
  .have j:k<(f.getD i (0,[])).2.length:=IN.1 (by assumption);have e:f.all (Ua (b,hf))=false:=by
    rw[iF];refine⟨_,n,?_⟩;rw[o,iF.2 ⟨_,AD (f.getD i (0,[])).2 (0,0) j,by unfold qA;rw[AA7 (ZF.2 a)];simp⟩];simp
   rw[BY e]at g;exact fI d [.tmp 4] (by rw[g];exact eR)
  .exact eV
  .have j:k<(f.getD i (0,[])).2.length:=IN.1 (by assumption);refine⟨⟨k+1,j,?_⟩,by simp only;omega,AC [(2,.nm 2),(3,.nm 3),(5,.nm 5),(8,.nm 8)] rfl rfl ?_ ?_⟩
   .rw[s j,m];unfold qA;exact aS a
   .exact eN
   exact eN
  .exact eV
  have j:(f.getD i (0,[])).2.take k=(f.getD i (0,[])).2:=As (P6.1 a);rw[j]at m;refine⟨⟨i+1,c,?_⟩,by simp only;omega,AC [(2,.nm 2),(3,.nm 3),(5,.nm 5)] rfl rfl ?_ ?_⟩
  .rw[r c,l,o,m];rfl
  .exact eN
  exact eN
 .exact⟨hs,q⟩
 .have c:f.take i=f:=As (P6.1 (by assumption));rw[c]at l;rw[An (by rw[l];simp),BY (by simpa using a)]at g;exact fI d [.tmp 4] (by rw[g];exact eR)
 have c:f.take i=f:=As (P6.1 (by assumption));rw[c]at l;rw[An (by rw[l];simp),An (by rw[a];simp)]at g;exact fI d [.tmp 4] (by rw[g];exact eR)
def Lf (h:AG) (f:List AE):Bool:=E1 f&&BE h f==0
end
section
attribute [local go_sem] KZ KX Ld Jb
def z0 (d:List AJ):AG:=if d.length<=12/\(Aw d).2=0 then (Aw d).1 else (Aw C0).1
end
section
def qB:AZ:={ ins:=[BT,T3],pre:=λ(_,i,_)=>(0:Int)<=i,out:=λ(b,i,_)=>[.p Q9 (Gf b i)],lend:=true }
attribute [local go_sem] qB
theorem A4P:Ab Tryz.prog 175 qB:=by
 refine fK [0,1,4,8] Tryz.func175 Tryz.ntmps175 AH ?_;rintro w0 O0 ⟨b,i,u⟩ c-hi;simp only[qB,AM];repeat'(first|exact trivial|apply eS rfl|refine rX c ?_ ?_|refine rC ?_ ?_<;>intro a<;>try(cases a;done))
 .exact⟨hi,a⟩
 .have h1:Gf b i=b.getD i.toNat 0:=by unfold Gf;rw[BY a]
  exact fI c [.tmp 4] (by rw[h1];exact eR)
 have h1:Gf b i=0:=by unfold Gf;rw[An (ZF.2 a)]
 exact fI c [.tmp 4] (by rw[h1];exact eR)
def M4 (a b:List Int):Bool:=(List.range a.length).all λi=>CE .andNot .u64 (a.getD i 0) (Gf b (i:Int))==0
def lE (a b:List Int) (n:Nat):Bool:=(List.range n).all λi=>CE .andNot .u64 (a.getD i 0) (Gf b (i:Int))==0
theorem qC (a b:List Int) (n:Nat):lE a b (n+1)=(lE a b n&&CE .andNot .u64 (a.getD n 0) (Gf b (n:Int))==0):=by
 unfold lE;rw[SQ,AFa];simp
def Rc:AZ:={ ins:=[BT,BT],pre:=λ_=>True,out:=λ(a,b,_)=>[.p .bool (M4 a b)],lend:=true }
attribute [local go_sem] Rc
theorem Xp:Ab Tryz.prog 133 Rc:=by
 refine fK [0,1,4,5,6,7,8,9,10,19] Tryz.func133 Tryz.ntmps133 (AF A4P AH) ?_;rintro w0 O0 ⟨a,b,u⟩ e ⟨⟨g,-⟩,-⟩ -;simp only[AQ]at g;simp only[Rc,AM];repeat'(first|exact trivial|apply eS rfl|refine rX e ?_ ?_)
 have h:M4 a b=lE a b a.length:=rfl;refine AI (ι:={n:Nat//n<=a.length/\lE a b n=true}) (λn=>⟨[(1,.p BT b),(7,.p BT a),(8,.p (.int .i64) (a.length:Int)),(9,.p (.int .i64) (n.1:Int))],[]⟩) (λn=>a.length-n.1) ⟨0,IS _,rfl⟩ (eW []) (λn=>?_)
 obtain⟨n,hn,f⟩:=n;have hs:=qC a b n;simp only;repeat'(first|exact trivial|apply eS rfl|apply AB|refine rX e ?_ ?_|refine rC ?_ ?_<;>intro d<;>try(cases d;done))
 .exact d
 .have c:n<a.length:=by exact eV
  have h1:M4 a b=false:=by
   unfold M4;rw[iF];exact⟨n,QJ.2 c,by simpa using d⟩
  exact fI e [.tmp 4] (by rw[h1];exact eR)
 .exact eV
 .have c:n<a.length:=by exact eV
  refine⟨⟨n+1,c,?_⟩,by simp only;omega,AC [] rfl rfl ?_ ?_⟩
  .rw[hs,f];simpa using d
  .exact eN
  exact eN
 have c:n=a.length:=by exact eV
 subst c;exact fI e [.tmp 4] (by rw[h,f];exact eR)
abbrev Ub:HT:=(ByteArray.empty,[],[],[])
def A2 (h:AG) (a b:Int):Bool:=M4 (h.1.getD b.toNat Ub).2.1 (h.1.getD a.toNat Ub).2.1
def Xq:AZ:={ ins:=[ED,T3,T3],pre:=λ(h,a,b,_)=>((0:Int)<=a/\a<(List.length (h:AG).1:Int))/\((0:Int)<=b/\b<(List.length (h:AG).1:Int)),out:=λ(h,a,b,_)=>[.p .bool (A2 h a b)],lend:=true }
theorem Vz:Ab Tryz.prog 84 Xq:=by
 refine fK [0,1,2,3,6] Tryz.func84 Tryz.ntmps84 (AF Xp AH) ?_;rintro w0 O0 ⟨⟨e,hf⟩,a,b,u⟩ c-⟨ha,d⟩;simp only[Xq,AM];repeat'(first|exact trivial|apply eS rfl|refine rX c ?_ ?_)
 .exact⟨d,ha⟩
 exact fI c [.tmp 6] (by unfold A2;exact eR)
end
section
attribute [local go_sem] Rc
def Xr:AZ:={ ins:=[BT],pre:=λ(b,_)=>List.length b<=100000,out:=λ(b,_)=>[.p BT (BN b)] }
attribute [local go_sem] Xr
theorem qD:Ab Tryz.prog 212 Xr:=by
 refine fK [0,2,3,15] Tryz.func212 Tryz.ntmps212 AH ?_;rintro w0 O0 ⟨b,u⟩ d-f;have f:b.length<=100000:=f;simp only[Xr,AM];repeat'(first|exact trivial|apply eS rfl|refine rX d ?_ ?_)
 refine AI (ι:={n:Nat//n<=b.length/\Cm b n=Cm b b.length}) (λn=>⟨[(0,.p BT b),(3,.p (.int .i64) (n.1:Int))],[]⟩) (λn=>n.1) ⟨b.length,Is _,rfl⟩ (eW []) (λn=>?_)
 obtain⟨n,hn,g⟩:=n;simp only;repeat'(first|apply eS rfl|apply AB|refine rX d ?_ ?_|refine rC ?_ ?_<;>intro c<;>try(cases c;done))
 .constructor
  .exact eV
  intro h;refine⟨?_,?_⟩<;>exact eV
 .exact eV
 .obtain⟨h1,a⟩:=c;obtain⟨m,rfl⟩:∃m,n=m+1:=⟨n-1,by omega⟩;have e:(((m+1:Nat):Int)-1)=(m:Int):=by omega
  rw[e]at a;have a:b.getD m 0=0:=a;have j:Cm b m=Cm b b.length:=by
   rw[<-g];show _=if b.getD m 0=0 then Cm b m else m+1
   rw[BY a]
  refine⟨⟨m,by omega,j⟩,by simp,AC [] rfl rfl ?_ ?_⟩
  .exact eN
  simp only[e];exact eN
 .exact P6.2 hn
 have i:Cm b n=n:=by
  cases n with
  | zero=>rfl
  | succ m =>
   have e:(((m+1:Nat):Int)-1)=(m:Int):=by omega
   rw[e]at c;have a:=c (by omega);have a:¬b.getD m 0=0:=a;show (if b.getD m 0=0 then Cm b m else m+1)=m+1;rw[An a]
 have h1:BN b=b.take n:=by unfold BN;rw[<-g,i]
 rw[<-h1];exact fI d [.tmp 2]
def HW (g:Nat->Int) (n i:Nat):List Int:=(List.range n).map λj=>if j<i then g j else 0
theorem bC (g:Nat->Int) (n i:Nat):(HW g n i).length=n:=by simp[HW]
theorem qE (g:Nat->Int) (n:Nat):HW g n 0=List.replicate n 0:=by
 apply SH
 .simp[HW]
 intro j h1 a;simp[HW]
theorem A1F (g:Nat->Int) (n i:Nat):(HW g n i).set i (g i)=HW g n (i+1):=by
 apply SH
 .simp[HW]
 intro j h1 b;simp only[HW,AGo,AAn,AAe];split
 .rename_i e;rw[BY (by omega),e]
 rename_i e;by_cases a:j<i
 .rw[BY a,BY (by omega)]
 rw[An a,An (by omega)]
def fR (a b:List Int) (i:Nat):Int:=CE .and .u64 (a.getD i 0) (b.getD i 0)
def GS (a b:List Int):List Int:=BN (HW (fR a b) (min a.length b.length) (min a.length b.length))
def A4Q:AZ:={ ins:=[BT,BT],pre:=λ(a,_,_)=>List.length a<=100000,out:=λ(a,b,_)=>[.p BT (GS a b)] }
attribute [local go_sem] A4Q
theorem A8M:Ab Tryz.prog 176 A4Q:=by
 refine fK [0,1,4,5,6,14,15,16] Tryz.func176 Tryz.ntmps176 (AF qD AH) ?_;rintro w0 O0 ⟨a,b,u⟩ d-ha;have ha:a.length<=100000:=ha;simp only[A4Q,AM];repeat'(first|exact trivial|apply eS rfl|refine rX d ?_ ?_)
 .split<;>simp only[AQ]<;>dsimp only[Ty.den]at *<;>omega
 have h:Int.toNat (if ((List.length b:Nat):Int)<((List.length a:Nat):Int) then ((List.length b:Nat):Int) else ((List.length a:Nat):Int))=min (List.length a) (List.length b):=by split<;>omega
 rw[h];have j:GS a b=BN (HW (fR a b) (min a.length b.length) (min a.length b.length)):=rfl;have k:min a.length b.length<=a.length:=Nat.min_le_left _ _;have l:min a.length b.length<=b.length:=Nat.min_le_right _ _;generalize min a.length b.length=n at *;refine AI (ι:={i:Nat//i<=n}) (λi=>⟨[(0,.p BT a),(1,.p BT b),(5,.sr 12 Q9 0 n),(14,.p (.int .i64) (n:Int)),(15,.p (.int .i64) (i.1:Int))],[(12,.arr 186 Q9 (HW (fR a b) n i.1))]⟩) (λi=>n-i.1) ⟨0,IS _⟩ (AC [(12,.nm 12)] rfl rfl ?_ ?_) (λi=>?_)
 .refine eM ?_;rw[qE]
 .exact eN
 obtain⟨i,hi⟩:=i;have f:=bC (fR a b) n i;simp only;repeat'(first|exact trivial|apply eS rfl|apply AB|refine rX d ?_ ?_|refine rC ?_ ?_<;>intro c<;>try(cases c;done))
 .have e:i<n:=IN.1 c;exact⟨by exact eV,by exact eV,c⟩
 .exact eV
 .have e:i<n:=IN.1 c;refine⟨⟨i+1,e⟩,by simp only;omega,AC [(12,.nm 12)] rfl rfl ?_ ?_⟩
  .simp only[<-A1F];refine eM ?_;rfl
  exact eN
 have e:i=n:=by omega
 subst e;have g:(HW (fR a b) i i).take i=HW (fR a b) i i:=As (by rw[f];exact Is _);refine Fe [12] ?_;repeat'(first|apply eS rfl|refine rX d ?_ ?_)
 .rw[g,f];dsimp only[Ty.den]at *;omega
 rw[g];exact fI d [.tmp 4] (by rw[j];exact eR)
def EJ (a b:List Int):Bool:=M4 a b&&M4 b a
def fS:AZ:={ ins:=[BT,BT],pre:=λ_=>True,out:=λ(a,b,_)=>[.p .bool (EJ a b)],lend:=true }
attribute [local go_sem] fS
theorem A1G:Ab Tryz.prog 179 fS:=by
 refine fK [0,1,4] Tryz.func179 Tryz.ntmps179 (AF Xp AH) ?_;rintro w0 O0 ⟨a,b,u⟩ c - -;simp only[fS,AM];repeat'(first|exact trivial|apply eS rfl|refine rX c ?_ ?_)
 exact fI c [.tmp 4] (by unfold EJ;exact eR)
def FK (c:List Int):Nat->List HT->Int
 | _,[]=>-1
 | k,t :: l=>if EJ t.2.1 c=true then (k:Int) else FK c (k+1) l
theorem qF (c:List Int) (l:List HT) {k:Nat} (h:k<l.length):FK c k (l.drop k)=if EJ (l.getD k Ub).2.1 c=true then (k:Int) else FK c (k+1) (l.drop (k+1)):=by
 rw[OR h];have e:l.getD k Ub=l[k]:=by simp[AS,h]
 rw[e];rfl
theorem A4R (c:List Int) (t:HT):BK Tryz.prog 178 [.p o7 t,.bp 1 [] 0] [(1,.box 140 false [.p BT c])] [1] (λres b=>res=.p .bool (EJ t.2.1 c)/\b=[(1,.box 140 false [.p BT c])]):=by
 refine LQ [0,1,2,3] [] [] Tryz.func178 Tryz.ntmps178 (AF A1G AH) ?_;intro w0 K O0 ρ0 a d e;simp only[Aq];repeat'(first|exact trivial|apply eS rfl|refine rX a ?_ ?_)
 refine Ev.ent (σ':=⟨[(3,.p .bool (EJ t.2.1 c))],[(1,.box 140 false [.p BT c])]⟩) ?_ (AC [(1,.nm 1)] rfl rfl ?_ ?_)
 .exact fM a [.tmp 3] (.p .bool (EJ t.2.1 c)) eT ⟨rfl,rfl⟩
 .exact eN
 exact eN
theorem A1H (l:List HT) (c:List Int) (i:l.length<=100000):BK Tryz.prog 177 [.p RB l,.clo 178 [1]] [(1,.box 140 false [.p BT c])] [1] (λres g=>res=.p T3 (FK c 0 l)/\g=[(1,.box 140 false [.p BT c])]):=by
 refine LQ [0,1,4,5,7,8,9,16] [] [] Tryz.func177 Tryz.ntmps177 AH ?_;intro w0 K O0 ρ0 b j m;simp only[Aq];repeat'(first|exact trivial|apply eS rfl|refine rX b ?_ ?_)
 refine AI (ι:={k:Nat//k<=l.length/\FK c k (l.drop k)=FK c 0 l}) (λk=>⟨[(0,.p RB l),(1,.clo 178 [1]),(7,.p (.int .i64) (l.length:Int)),(8,.p (.int .i64) (k.1:Int))],[(1,.box 140 false [.p BT c])]⟩) (λk=>l.length-k.1) ⟨0,IS _,rfl⟩ (eW [(1,.nm 1)]) (λk=>?_)
 obtain⟨k,hk,hf⟩:=k;have f:=λh:k<l.length=>qF c l h;simp only;repeat'(first|exact trivial|apply eS rfl|refine rX b ?_ ?_|refine rC ?_ ?_<;>intro a<;>try(cases a;done))
 .have d:k<l.length:=IN.1 a;have e:=f d;refine cP 5 b ?_ ?_
  .exact a
  refine rM b (A4R c (l.getD k Ub)) [(1,.nm 1)] [] ?_ ?_ ?_
  .exact eN
  .exact eN
  rintro _ _ ⟨rfl,rfl⟩;refine⟨[(1,.nm 1)],.p .bool (EJ (l.getD k Ub).2.1 c),[(1,.box 140 false [.p BT c])],rfl,rfl,?_,?_,rfl,rfl,CV ?_⟩
  .exact eN
  .exact eN
  repeat'(first|exact trivial|apply eS rfl|apply AB|refine rX b ?_ ?_|refine rC ?_ ?_<;>intro a<;>try(cases a;done))
  .have a:EJ (l.getD k Ub).2.1 c=true:=a;rw[BY a,hf]at e;refine Ev.ent (σ':=⟨[(4,.p (.int .i64) (k:Int))],[(1,.box 140 false [.p BT c])]⟩) ?_ (AC [(1,.nm 1)] rfl rfl ?_ ?_)
   .exact fM b [.tmp 4] (.p T3 (k:Int)) eT ⟨by rw[e],rfl⟩
   .exact eN
   exact eN
  .omega
  have a:EJ (l.getD k Ub).2.1 c=false:=a;rw[An (by rw[a];simp)]at e;exact⟨⟨k+1,d,e.symm.trans hf⟩,by simp only;omega,eW [(1,.nm 1)]⟩
 have d:l.drop k=[]:=B0 (P6.1 a);rw[d]at hf;have hf:(-1:Int)=FK c 0 l:=hf;refine Ev.ent (σ':=⟨[(4,.p (.int .i64) (-1))],[(1,.box 140 false [.p BT c])]⟩) ?_ (AC [(1,.nm 1)] rfl rfl ?_ ?_)
 .exact fM b [.tmp 4] (.p T3 (-1)) eT ⟨by rw[hf],rfl⟩
 .exact eN
 exact eN
def Bd (h:AG) (t:Int):List Int:=(h.1.getD t.toNat Ub).2.1
def Bq (h:AG) (a b:Int):Int×Bool :=
 if (GS (Bd h a) (Bd h b)).length=0 then (0,false) else if FK (GS (Bd h a) (Bd h b)) 0 h.1<0 then (0,false) else (FK (GS (Bd h a) (Bd h b)) 0 h.1,true)
def z1:AZ:={ ins:=[ED,T3,T3],pre:=λ(h,a,b,_)=>((0:Int)<=a/\a<(List.length (h:AG).1:Int))/\((0:Int)<=b/\b<(List.length (h:AG).1:Int))/\List.length (h:AG).1<=100000/\(∀x∈(h:AG).1,x.2.1.length<=100000),out:=λ(h,a,b,_)=>[.p T3 (Bq h a b).1,.p .bool (Bq h a b).2],lend:=true }
theorem z2:Ab Tryz.prog 135 z1:=by
 refine fK [0,1,2,3,6,7,8,9,25,31] Tryz.func135 Tryz.ntmps135 (AF A8M AH) ?_;rintro w0 O0 ⟨⟨d,hf⟩,a,b,u⟩ e-⟨ha,i,k,n⟩;simp only[z1,AM];refine Ev.ent (σ':=⟨[(0,.p ED (d,hf)),(1,.p T3 a),(2,.p T3 b)],[]⟩) ?_ (AC [] rfl rfl ?_ ?_)
 .repeat'(first|exact trivial|apply eS rfl|refine rX e ?_ ?_|refine rC ?_ ?_<;>intro f<;>try(cases f;done))
  .refine⟨ha,i,?_⟩;have h1:Int.toNat a<List.length d:=(AFQ ha.1).2 ha.2;exact n _ (AD (d:List HT) Ub h1)
  .have l:Bq (d,hf) a b=(0,false):=by
    unfold Bq;rw[BY (by unfold Bd;exact AGi f)]
   exact fI e [.tmp 6,.tmp 7] (by rw[l];exact eR)
  have j:∀c,c=GS (List.getD d (Int.toNat a) (ByteArray.empty,[],[],[])).2.1 (List.getD d (Int.toNat b) (ByteArray.empty,[],[],[])).2.1->c=GS (Bd (d,hf) a) (Bd (d,hf) b):=λc h=>h;have g:Bq (d,hf) a b=if FK (GS (Bd (d,hf) a) (Bd (d,hf) b)) 0 d<0 then (0,false) else (FK (GS (Bd (d,hf) a) (Bd (d,hf) b)) 0 d,true):=by
   unfold Bq;rw[An (λh=>f (by unfold Bd at h;exact bY Int.ofNat h))]
  generalize o:GS (List.getD d (Int.toNat a) (ByteArray.empty,[],[],[])).2.1 (List.getD d (Int.toNat b) (ByteArray.empty,[],[],[])).2.1=c at *;rw[<-j c rfl]at g;refine cP 3 e ?_ ?_
  .trivial
  refine rM e (A1H d c k) [(1,.nm 8)] [] ?_ ?_ ?_
  .exact eN
  .exact eN
  rintro _ _ ⟨rfl,rfl⟩;refine⟨[(8,.nm 1)],.p T3 (FK c 0 d),[(8,.box 140 false [.p BT c])],rfl,rfl,?_,?_,rfl,rfl,?_⟩
  .exact eN
  .exact eN
  generalize FK c 0 d=m at *;refine rL e ?_ ?_
  .trivial
  repeat'(first|exact trivial|apply eS rfl|refine rX e ?_ ?_|refine rC ?_ ?_<;>intro f<;>try(cases f;done))
  .rw[BY f]at g;exact fI e [.tmp 6,.tmp 7] (by rw[g];exact eR)
  rw[An (ZF.2 f)]at g;exact fI e [.tmp 6,.tmp 7] (by rw[g];exact eR)
 .exact eN
 exact eN
end
theorem Xs (l:List (List Int)) (i k:Nat):l <+: Gw l i k:=by
 unfold Gw;split
 .exact AG6 _ _
 exact Vd _
theorem Xt (i:Nat):∀(n k:Nat) (l:List (List Int)),l <+: Gx i n k l
 | 0,_,l=>Vd l
 | n+1,k,l=>by
  unfold Gx;split
  .exact(Xs l i k).trans (Xt i n (k+1) _)
  exact Vd l
theorem Rd:∀(n i:Nat) (l:List (List Int)),l <+: Ie n i l
 | 0,_,l=>Vd l
 | n+1,i,l=>by
  unfold Ie;split
  .exact(Xt i i 0 l).trans (Rd n (i+1) _)
  exact Vd l
theorem Re {l m:List (List Int)} (h:l <+: m) {k:Nat} (hk:k<l.length):m.getD k []=l.getD k []:=by
 obtain⟨t,rfl⟩:=h;simp only[AS];rw[QN hk]
def L3 (l:List (List Int)) (q p:Nat):Prop:=Ej (l.getD q []) (l.getD p [])=[]\/Ej (l.getD q []) (l.getD p [])∈l
theorem L3.pre {l m:List (List Int)} (h:l <+: m) {q p:Nat} (b:q<l.length) (hp:p<l.length) (a:L3 l q p):L3 m q p:=by
 unfold L3 at a ⊢;rw[Re h b,Re h hp];rcases a with a|a
 .exact .inl a
 exact .inr (h.subset a)
theorem A8N {l:List (List Int)} {b:List Int} (h:pI l b=true):b∈l:=by
 obtain⟨x,a,e⟩:=QC.1 h;have:x=b:=by simpa[Hn] using e
 rw[<-this];exact a
theorem qG {l:List (List Int)} {i k:Nat} (hi:i<l.length) (hk:k<l.length):L3 (Gw l i k) i k:=by
 have hp:=Xs l i k;unfold L3;rw[Re hp hi,Re hp hk];unfold Gw;split
 .right;simp
 rename_i a;rw[AT,By,Px]at a;by_cases h0:0<((Ej (l.getD i []) (l.getD k [])).length:Int)
 .right;cases hh:pI l (Ej (l.getD i []) (l.getD k [])) with
  | true=>exact A8N hh
  | false=>exact absurd ⟨h0,hh⟩ a
 left;exact QI (by omega)
theorem Xu {i:Nat}:∀ {n k:Nat} {l:List (List Int)},n+k=i->i<l.length->(Gx i n k l).length<=256->(∀p,p<k->L3 l i p)->∀p,p<i->L3 (Gx i n k l) i p
 | 0,k,l,hn,hi,a,h=>λp hp=>h p (by omega)
 | n+1,k,l,hn,hi,a,h=>by
  unfold Gx at a ⊢;split at a
  .rename_i b;rw[BY b];have hp:=Xs l i k;refine Xu (by omega) (ZG hi hp.length_le) a λp c=>?_;by_cases e:p=k
   .subst e;exact qG hi (by omega)
   exact(h p (by omega)).pre hp hi (by omega)
  rename_i b;exact absurd (by omega:l.length<=256) b
theorem Xv:∀ {n i:Nat} {l:List (List Int)},257<=n+i->(Ie n i l).length<=256->i<=l.length->(∀q p,p<q->q<i->L3 l q p)->∀q p,p<q->q<(Ie n i l).length->L3 (Ie n i l) q p
 | 0,i,l,hn,a,f,h=>λq p c d=>by
  have j:l.length<=256:=a;omega
 | n+1,i,l,hn,a,f,h=>by
  unfold Ie at a ⊢;split at a
  .rename_i b;rw[BY b];have hp:=Xt i i 0 l;have k:=hp.length_le;have g:=(Rd n (i+1) (Gx i i 0 l)).length_le;refine Xv (by omega) a (by omega) λq p c d=>?_;by_cases e:q=i
   .subst e;exact Xu (by omega) b.1 (by omega) (λp hp=>by omega) p c
   exact(h q p c (by omega)).pre hp (by omega) (by omega)
  rename_i b;rw[An b];intro q p c d;exact h q p c (by
   refine GO λhh=>b ⟨by omega,a⟩)
theorem fT {c:List (List Int)} (a:(Ax c).length<=256):∀q p,p<q->q<(Ax c).length->L3 (Ax c) q p :=
 Xv (by omega) a (IS _) (λq p _ h=>by omega)
theorem A4S (a b:List Int) (k:Nat):(Ej a b).getD k 0=if k<a.length then CE .and .u64 (a.getD k 0) (b.getD k 0) else 0:=by
 unfold Ej;rw[RN];split
 .rename_i h;exact Ns .and a b h
 rename_i h;rw[AS,QH (by rw[Ez];omega)];rfl
theorem HX {b:List Int} {k:Nat} (h:¬k<b.length):b.getD k 0=0:=by
 rw[AS,QH (by omega)];rfl
theorem Rf {a b:List Int} (ha:Ih a) (c:Ih b) (i:Nat):BH (Ej a b) i=(BH a i&&BH b i):=by
 unfold BH;rw[A4S];split
 .rw[Ig (BL ha _) (BL c _),P0,Nat.testBit_and]
 rename_i h;rw[HX h];simp
theorem Rg {a b:List Int} (ha:Ih a) (d:Ih b):Ih (Ej a b):=by
 refine Pa λx c=>?_;unfold Gu at c;obtain⟨i,-,rfl⟩:=Do.1 c;rw[H9,Ig (BL ha _) (BL d _)];have h1:=BL ha i;have e:(a.getD i 0).toNat &&& (b.getD i 0).toNat<=(a.getD i 0).toNat:=AFZ;have f:=h1.1;have g:=h1.2;exact⟨To _,by omega⟩
theorem TC (b:List Int):∀n,Cm b n=0\/b.getD (Cm b n-1) 0≠0
 | 0=>.inl rfl
 | n+1=>by
  unfold Cm;split
  .exact TC b n
  rename_i h;right;simpa using h
theorem A8O {n:Nat} (h0:n≠0) (h1:n<18446744073709551616):∃r,r<64/\n.testBit r=true:=by
 refine GO λb=>h0 ?_;refine Nat.eq_of_testBit_eq λr=>?_;rw[Nat.zero_testBit];by_cases c:r<64
 .cases a:n.testBit r with
  | false=>rfl
  | true=>exact absurd ⟨r,c,a⟩ b
 have e:(18446744073709551616:Nat)=2 ^ 64:=by decide
 rw[e]at h1;exact Nat.testBit_lt_two_pow (ZG h1 (Nat.pow_le_pow_right (by decide) (by omega)))
theorem lF {b:List Int} (a:Ih b) {k:Nat} (h:b.getD k 0≠0):∃i,BH b i=true:=by
 have hu:=BL a k;have h1:=hu.1;have d:=hu.2;obtain⟨r,e,c⟩:=A8O (n:=(b.getD k 0).toNat) (by omega) (by omega);refine⟨64*k+r,?_⟩;unfold BH;rw[show (64*k+r) / 64=k by omega,show (64*k+r) % 64=r by omega];exact c
theorem qH {b:List Int} (a:Ih b) (h:BN b≠[]):∃i,BH b i=true:=by
 rcases TC b b.length with h1|h1
 .exact absurd (by unfold BN;rw[h1];rfl) h
 exact lF a h1
theorem bD {a b:List Int} (ha:Ih a) (c:Ih b) (h:∀i,BH a i=true->BH b i=true) (k:Nat):CE .andNot .u64 (a.getD k 0) (b.getD k 0)=0:=by
 rw[S4];have:(BitVec.ofInt 64 (a.getD k 0) &&& ~~~BitVec.ofInt 64 (b.getD k 0))=0#64:=by
  apply BitVec.eq_of_getLsbD_eq;intro r e;rw[BitVec.getLsbD_and,BitVec.getLsbD_not,<-AF6,<-AF6,F3 (BL ha k),F3 (BL c k)];have hk:=h (64*k+r);unfold BH at hk;rw[show (64*k+r) / 64=k by omega,show (64*k+r) % 64=r by omega]at hk;cases d:(a.getD k 0).toNat.testBit r with
  | false=>simp
  | true=>rw[hk d];simp
 rw[this];rfl
theorem Fs {a b:List Int} (ha:Ih a) (c:Ih b):FA a b=true↔∀i,BH a i=true->BH b i=true:=by
 constructor
 .exact λh i hi=>Mw ha c h hi
 intro h;unfold FA Sy BN;have h1:Cm (Gu .andNot a b a.length) (Gu .andNot a b a.length).length=0:=by
  rw[Ez];exact S5 λk hk=>by rw[Ns _ _ _ hk];exact bD ha c h k
 rw[h1];rfl
structure Jc (l:List (List Int)):Prop where
 wds:∀c∈l,Ih c
 some:∀c∈l,∃i,BH c i=true
 wid:∀c∈l,c.length<=64
 meet:∀a∈l,∀b∈l,(∃i,BH a i=true/\BH b i=true)->∃t∈l,∀i,BH t i=(BH a i&&BH b i)
structure Bs (l:List (List Int)):Prop where
 wds:∀c∈l,Ih c
 some:∀c∈l,∃i,BH c i=true
theorem TD {l:List (List Int)} {k:Nat} (h:¬k<l.length):l.getD k []=[]:=by
 rw[AS,QH (by omega)];rfl
theorem Bs.get {l:List (List Int)} (h:Bs l) (k:Nat):Ih (l.getD k []):=by
 by_cases hk:k<l.length
 .exact h.wds _ (BG hk)
 rw[TD hk];intro x a;cases a
theorem A8P {l:List (List Int)} (h:Bs l) (i k:Nat):Bs (Gw l i k):=by
 unfold Gw;split
 .rename_i b;rw[AT,By]at b;refine⟨λc a=>?_,λc a=>?_⟩
  .rcases OF.1 a with a|a
   .exact h.wds c a
   have:c=Ej (l.getD i []) (l.getD k []):=by simpa using a
   rw[this];exact Rg (h.get i) (h.get k)
  rcases OF.1 a with a|a
  .exact h.some c a
  have:c=Ej (l.getD i []) (l.getD k []):=by simpa using a
  rw[this];have g:Ej (l.getD i []) (l.getD k [])≠[]:=by
   intro e;rw[e]at b;exact absurd b.1 (by simp)
  have m:Ih (Gu .and (l.getD i []) (l.getD k []) (l.getD i []).length):=by
   intro x d;unfold Gu at d;obtain⟨j,-,rfl⟩:=Do.1 d;rw[H9,Ig (BL (h.get i) _) (BL (h.get k) _)];have h1:=BL (h.get i) j;have n:((l.getD i []).getD j 0).toNat &&& ((l.getD k []).getD j 0).toNat<=((l.getD i []).getD j 0).toNat:=AFZ;have o:=h1.1;have p:=h1.2;exact⟨To _,by omega⟩
  obtain⟨j,f⟩:=qH m g;exact⟨j,by unfold Ej;rw[PZ];exact f⟩
 exact h
theorem z3 {i:Nat}:∀ {n k:Nat} {l:List (List Int)},Bs l->Bs (Gx i n k l)
 | 0,_,_,h=>h
 | n+1,k,l,h=>by
  unfold Gx;split
  .exact z3 (A8P h i k)
  exact h
theorem z4:∀ {n i:Nat} {l:List (List Int)},Bs l->Bs (Ie n i l)
 | 0,_,_,h=>h
 | n+1,i,l,h=>by
  unfold Ie;split
  .exact z4 (z3 h)
  exact h
theorem A1I {d:List AJ} (f:A8 d=0):Bs (AX d):=by
 obtain⟨-,l,-⟩:=A0 f;have h:=EE d d.length;rw[QD]at h;have b:(AP d).length<=4096:=by omega
 refine⟨λc a=>?_,λc a=>?_⟩
 .unfold AX at a;obtain⟨s,-,rfl⟩:=Do.1 a;exact(CA (d:=d) b s 0).2.1
 unfold AX at a;obtain⟨s,hs,rfl⟩:=Do.1 a;obtain⟨j,g,e⟩:=CM ByteArray.empty hs;have i:0<=Ar d s:=by
  obtain⟨x,k,e⟩:=Dh hs;rw[<-e];exact Dg k
 exact⟨j,(CA (d:=d) b s j).1.2 ⟨g,by rw[e];exact Pb i⟩⟩
theorem Xw {d:List AJ} (l:A8 d=0) (s:(Ax (AX d)).length<=256):Jc (Ax (AX d)):=by
 obtain⟨-,o,-⟩:=A0 l;have g:Bs (Ax (AX d)):=z4 (A1I l);have n:=fT s;refine⟨g.wds,g.some,RU (Pf o),λa ha b r hi=>?_⟩;obtain⟨q,f,rfl⟩:=CM [] ha;obtain⟨p,hp,rfl⟩:=CM [] r;have key:∀q p,q<(Ax (AX d)).length->p<(Ax (AX d)).length->L3 (Ax (AX d)) q p->(∃i,BH ((Ax (AX d)).getD q []) i=true/\BH ((Ax (AX d)).getD p []) i=true) ->
   ∃t∈Ax (AX d),∀i,BH t i=(BH ((Ax (AX d)).getD q []) i&&BH ((Ax (AX d)).getD p []) i):=by
  intro q p f hp c hi;have m:=Rf (g.get q) (g.get p);rcases c with c|c
  .obtain⟨i,j,k⟩:=hi;have:=m i;rw[c,j,k]at this;unfold BH at this;simp at this
  exact⟨_,c,m⟩
 rcases AFJ p q with h|h|h
 .exact key q p f hp (n q p h f) hi
 .subst h;exact⟨_,BG f,λi=>by rw[Bool.and_self]⟩
 obtain⟨t,u,e⟩:=key p q hp f (n p q h hp) (by obtain⟨i,j,k⟩:=hi;exact⟨i,k,j⟩);exact⟨t,u,λi=>by rw[e i,AGl]⟩
def GB (h:AG):Prop:=Jc (h.1.map λt=>t.2.1)/\h.1.length<=256
theorem Jd (d:List AJ):GB (Aw d).1:=by
 unfold Aw;split
 .exact⟨⟨λc h=>(by cases h),λc h=>(by cases h),λc h=>(by cases h),λc h=>(by cases h)⟩,by simp⟩
 rename_i g;have g:(BD d).2=0:=GO g;have m:Az d=0:=by
  unfold BD at g;split at g
  .rename_i h;exact absurd g h
  rename_i h;exact GO h
 obtain⟨p,-,-⟩:=CH m;obtain⟨l,k,-⟩:=Ba p;have hf:=Xw l k;have f:∀c,c∈((Bw d).1.map λt=>t.2.1)↔c∈Ax (AX d):=by
  intro c;have e:((Bw d).1.map λt=>t.2.1)=(AN d).map λx=>x.2:=by
   show ((Eg _ _ _).map λt=>t.2.1)=_;unfold Eg;rw[Va];apply SH
   .simp
   intro i h1 q;simp[AS,show i<(AN d).length by simpa using h1]
  rw[e];constructor
  .intro h;obtain⟨x,o,rfl⟩:=Do.1 h;obtain⟨b,j,rfl⟩:=Di.1 o;exact j
  intro h;exact Do.2 ⟨_,Di.2 ⟨c,h,rfl⟩,rfl⟩
 refine⟨⟨λc h=>hf.wds c ((f c).1 h),λc h=>hf.some c ((f c).1 h),λc h=>hf.wid c ((f c).1 h),λa ha b j hi=>?_⟩,?_⟩
 .obtain⟨t,n,e⟩:=hf.meet a ((f a).1 ha) b ((f b).1 j) hi;exact⟨t,(f t).2 n,e⟩
 show (Eg _ _ _).length<=256;rw[KY,Ij];exact k
theorem Ca {h:AG} {t:Int} (a:0<=t) (b:t<(h.1.length:Int)):Bd h t∈h.1.map λt=>t.2.1 :=
 Do.2 ⟨_,AD h.1 Ub (k:=t.toNat) (by omega),rfl⟩
theorem Xx {a b:List Int} (ha:Ih a) (c:Ih b):M4 a b=true↔∀i,BH a i=true->BH b i=true:=by
 constructor
 .intro h i hi;by_cases hk:i / 64<a.length
  .have h1:=If.1 h (i / 64) (QJ.2 hk);rw[SJ,H9]at h1;exact UT (BL ha _) (BL c _) h1 (AGu _ (by decide)) hi
  exfalso;unfold BH at hi;rw[HX hk]at hi;simp at hi
 intro h;unfold M4;rw[If];intro k _;rw[SJ,H9];exact bD ha c h k
theorem A4T {a b:List Int} (ha:Ih a) (c:Ih b) (i:Nat):BH (GS a b) i=(BH a i&&BH b i):=by
 unfold GS;rw[PZ];unfold BH;have:(HW (fR a b) (min a.length b.length) (min a.length b.length)).getD (i / 64) 0=CE .and .u64 (a.getD (i / 64) 0) (b.getD (i / 64) 0):=by
  by_cases h:i / 64<min a.length b.length
  .unfold HW;rw[AS,VJ,oN h];show (if i / 64<min a.length b.length then fR a b (i / 64) else 0)=_;rw[BY h];rfl
  rw[HX (by rw[bC];exact h),Ig (BL ha _) (BL c _)];by_cases h1:i / 64<a.length
  .rw[HX (b:=b) (by omega)];simp
  rw[HX (b:=a) h1];simp
 rw[this,Ig (BL ha _) (BL c _),P0,Nat.testBit_and]
theorem A4U {a b:List Int} (ha:Ih a) (d:Ih b):Ih (GS a b):=by
 refine Pa λx c=>?_;unfold HW at c;obtain⟨j,-,rfl⟩:=Do.1 c;split
 .unfold fR;rw[Ig (BL ha _) (BL d _)];have h1:=BL ha j;have e:(a.getD j 0).toNat &&& (b.getD j 0).toNat<=(a.getD j 0).toNat:=AFZ;have f:=h1.1;have g:=h1.2;exact⟨To _,by omega⟩
 exact⟨by decide,by decide⟩
theorem Xy (c:List Int):∀(l:List HT) (k:Nat),(FK c k l=-1/\∀t∈l,EJ t.2.1 c=false)\/((k:Int)<=FK c k l/\FK c k l<(k:Int)+l.length/\EJ (l.getD ((FK c k l).toNat-k) Ub).2.1 c=true)
 | [],k=>.inl ⟨rfl,λt a=>by cases a⟩
 | x :: l,k=>by
  simp only[FK];split
  .rename_i h;right;refine⟨by omega,by simp only[Of];omega,?_⟩;rw[show ((k:Int).toNat-k)=0 by omega];exact h
  rename_i h;have h:EJ x.2.1 c=false:=by simpa using h
  rcases Xy c l (k+1) with ⟨h1,b⟩|⟨h1,b,d⟩
  .left;refine⟨h1,λt a=>?_⟩;rcases DO.1 a with rfl|a
   .exact h
   exact b t a
  right;refine⟨by omega,by simp only[Of];omega,?_⟩;rw[show ((FK c (k+1) l).toNat-k)=((FK c (k+1) l).toNat-(k+1))+1 by omega];exact d
def Tb2 (h:AG) (t:Int) (i:Nat):Bool:=BH (Bd h t) i
theorem B4 {h:AG} (hk:GB h) {a b:Int} (c:0<=a) (d:a<(h.1.length:Int)) (e:0<=b) (b1:b<(h.1.length:Int)):A2 h a b=true↔∀i,Tb2 h b i=true->Tb2 h a i=true :=
 Xx (hk.1.wds _ (Ca e b1)) (hk.1.wds _ (Ca c d))
theorem A4W {h:AG} (hk:GB h) {a b:Int} (g:0<=a) (j:a<(h.1.length:Int)) (l:0<=b) (b1:b<(h.1.length:Int)) :
  ((Bq h a b).2=true->0<=(Bq h a b).1/\(Bq h a b).1<(h.1.length:Int)/\∀i,Tb2 h (Bq h a b).1 i=(Tb2 h a i&&Tb2 h b i))/\((∃i,Tb2 h a i=true/\Tb2 h b i=true)->(Bq h a b).2=true):=by
 have s:=hk.1.wds _ (Ca g j);have u:=hk.1.wds _ (Ca l b1);have c:=A4T s u;have o:=A4U s u;have heq:∀t∈h.1,EJ t.2.1 (GS (Bd h a) (Bd h b))=true↔∀i,BH t.2.1 i=BH (GS (Bd h a) (Bd h b)) i:=by
  intro t d;have wt:=hk.1.wds t.2.1 (Do.2 ⟨t,d,rfl⟩);unfold EJ;rw[AT,Xx wt o,Xx o wt];constructor
  .rintro⟨v,w⟩ i;rw[ABC];exact⟨v i,w i⟩
  intro e;exact⟨λi hi=>by rw[<-e i];exact hi,λi hi=>by rw[e i];exact hi⟩
 unfold Bq;by_cases f:(GS (Bd h a) (Bd h b)).length=0
 .rw[BY f];refine⟨λe=>(by cases e),?_⟩;rintro⟨i,q,r⟩;exfalso;have:=c i;rw[QI f]at this;unfold Tb2 at q r;rw[q,r]at this;unfold BH at this;simp at this
 rw[An f];rcases Xy (GS (Bd h a) (Bd h b)) h.1 0 with ⟨h1,m⟩|⟨h1,m,n⟩
 .rw[BY (by omega)];refine⟨λe=>(by cases e),λhi=>?_⟩;exfalso;obtain⟨t,d,e⟩:=hk.1.meet _ (Ca g j) _ (Ca l b1) hi;obtain⟨x,p,rfl⟩:=Do.1 d;have:=(heq x p).2 (λi=>by rw[c i];exact e i);rw[m x p]at this;cases this
 have h1:0<=FK (GS (Bd h a) (Bd h b)) 0 h.1:=by omega
 rw[An (by omega)];refine⟨λ_=>⟨h1,by simp only;omega,λi=>?_⟩,λ_=>rfl⟩;rw[Nat.sub_zero]at n;have y:=AD h.1 Ub (k:=(FK (GS (Bd h a) (Bd h b)) 0 h.1).toNat) (by omega);have:=(heq _ y).1 n i;rw[c i]at this;exact this
theorem M5 {h:AG} (hk:GB h) {a b:Int} (l:0<=a) (m:a<(h.1.length:Int)) (n:0<=b) (b1:b<(h.1.length:Int)) :
  ((Bq h a b).2=true->0<=(Bq h a b).1/\(Bq h a b).1<(h.1.length:Int)/\A2 h a (Bq h a b).1=true/\A2 h b (Bq h a b).1=true) /\
  ∀x,0<=x->x<(h.1.length:Int)->A2 h a x=true->A2 h b x=true->(Bq h a b).2=true/\A2 h (Bq h a b).1 x=true:=by
 obtain⟨r,u⟩:=A4W hk l m n b1;refine⟨λe=>?_,λx g k s t=>?_⟩
 .obtain⟨c,d,f⟩:=r e;refine⟨c,d,(B4 hk l m c d).2 λi hi=>?_,(B4 hk n b1 c d).2 λi hi=>?_⟩
  .rw[f i,AT]at hi;exact hi.1
  rw[f i,AT]at hi;exact hi.2
 have o:=(B4 hk l m g k).1 s;have p:=(B4 hk n b1 g k).1 t;obtain⟨i,hi⟩:=hk.1.some _ (Ca g k);have e:=u ⟨i,o i hi,p i hi⟩;obtain⟨c,d,f⟩:=r e;refine⟨e,(B4 hk c d g k).2 λj q=>?_⟩;rw[f j,AT];exact⟨o j q,p j q⟩
def Nrm (c:List Int):Prop:=c.length=0\/c.getD (c.length-1) 0≠0
theorem Pj (b:List Int):Nrm (BN b):=by
 unfold Nrm BN;have a:=XO b b.length;rw[OS,ABO a];rcases TC b b.length with h|h
 .exact .inl h
 by_cases h0:Cm b b.length=0
 .exact .inl h0
 right;rw[AS,List.getElem?_take_of_lt (by omega),<-AS];exact h
theorem A8Q {a b:List Int} (ha:Ih a) (f:Ih b) (h:∀i,BH a i=BH b i) (k:Nat):a.getD k 0=b.getD k 0:=by
 have c:=BL ha k;have d:=BL f k;have j:=c.1;have l:=c.2;have m:=d.1;have o:=d.2;have e:(a.getD k 0).toNat=(b.getD k 0).toNat:=by
  refine Nat.eq_of_testBit_eq λr=>?_;by_cases g:r<64
  .have:=h (64*k+r);unfold BH at this;rw[show (64*k+r) / 64=k by omega,show (64*k+r) % 64=r by omega]at this;exact this
  have big:∀n:Nat,n<18446744073709551616->n.testBit r=false:=λn hn=>by
   have e:(18446744073709551616:Nat)=2 ^ 64:=by decide
   rw[e]at hn;exact Nat.testBit_lt_two_pow (ZG hn (Nat.pow_le_pow_right (by decide) (by omega)))
  rw[big _ (by omega),big _ (by omega)]
 omega
theorem z5 {a b:List Int} (d:∀k,a.getD k 0=b.getD k 0) (c:Nrm b):b.length<=a.length:=by
 rcases c with h|h
 .omega
 refine GO λe=>h ?_;rw[<-d];exact HX (by omega)
theorem qI {a b:List Int} (ha:Ih a) (e:Ih b) (g:Nrm a) (j:Nrm b) (h:∀i,BH a i=BH b i):a=b:=by
 have c:=A8Q ha e h;have f:a.length=b.length:=AF7 (z5 (λk=>(c k).symm) g) (z5 c j);refine SH f λi h1 d=>?_;have:=c i;simpa[AS,h1,d] using this
theorem lG {α:Type} (l:List α) (x:α) (n:Nat):List.Perm (l.take n++[x]++l.drop n) (x :: l):=by
 have h:l.take n++[x]++l.drop n=l.take n++x :: l.drop n:=by simp
 rw[h];refine AGn.trans ?_;rw[ABj]
def z6 (l:List ByteArray):Prop:=l.Pairwise λa b=>AY a b=false
theorem M6 {a b:ByteArray} (h:AY a b=false):AY b a=false:=by
 cases hh:AY b a with
 | false=>rfl
 | true=>rw[EF hh]at h;cases h
theorem Xz {l:List ByteArray} {s:ByteArray} (h:z6 l) (hs:∀x∈l,AY x s=false):z6 (Ec l s):=by
 unfold Ec;split
 .exact h
 refine(List.Perm.pairwise_iff (λb=>M6 b) (lG l s _)).2 ?_;exact SK.2 ⟨λx a=>M6 (hs x a),h⟩
theorem X0 {d:List AJ} (hn:Cp d=0):z6 (AP d):=by
 have key:∀k,k<=d.length->z6 (AP (d.take k))/\∀s∈AP (d.take k),∃i,i<k/\(d.getD i d0).1=s:=by
  intro k;induction k with
  | zero =>
   intro _;exact⟨.nil,λs hs=>by cases hs⟩
  | succ k c =>
   intro hk;obtain⟨h1,a⟩:=c (by omega);have e:AP (d.take (k+1))=Ec (AP (d.take k)) (d.getD k d0).1:=by
    have:d.take (k+1)=d.take k++[d.getD k d0]:=Au d d0 (by omega);rw[this];unfold AP;rw[AF8];rfl
   rw[e];refine⟨Xz h1 λx b=>?_,λs hs=>?_⟩
   .obtain⟨i,hi,rfl⟩:=a x b;cases hh:AY (d.getD i d0).1 (d.getD k d0).1 with
    | false=>rfl
    | true =>
     have g:=JW d hh;rw[Mx hn (j:=i) (by omega),Mx hn (j:=k) (by omega)]at g;omega
   rcases HQ hs with hs|hs
   .obtain⟨i,hi,e⟩:=a s hs;exact⟨i,by omega,e⟩
   exact⟨k,by omega,hs.symm⟩
 have:=(key d.length (Is _)).1
 rwa [QD]at this
structure Nd (l:List (List Int)):Prop where
 nd:l.Nodup
 nrm:∀c∈l,Nrm c
theorem A8R {l:List (List Int)} {c:List Int} (h:Nd l) (b:c∉l) (hn:Nrm c):Nd (l++[c]):=by
 refine⟨?_,λx a=>?_⟩
 .rw[f8];refine⟨h.nd,by simp,λx a y d e=>b ?_⟩;have:y=c:=by simpa using d
  rw[<-this,<-e];exact a
 rcases OF.1 a with a|a
 .exact h.nrm x a
 have:x=c:=by simpa using a
 rw[this];exact hn
theorem A8S {l:List (List Int)} (h:Nd l) (i k:Nat):Nd (Gw l i k):=by
 unfold Gw;split
 .rename_i a;rw[AT,Px]at a;refine A8R h (λb=>?_) (Pj _);have:pI l (Ej (l.getD i []) (l.getD k []))=true:=QC.2 ⟨_,b,by unfold Hn;exact aS rfl⟩;rw[this]at a;cases a.2
 exact h
theorem z7 {i:Nat}:∀ {n k:Nat} {l:List (List Int)},Nd l->Nd (Gx i n k l)
 | 0,_,_,h=>h
 | n+1,k,l,h=>by
  unfold Gx;split
  .exact z7 (A8S h i k)
  exact h
theorem V0:∀ {n i:Nat} {l:List (List Int)},Nd l->Nd (Ie n i l)
 | 0,_,_,h=>h
 | n+1,i,l,h=>by
  unfold Ie;split
  .exact V0 (z7 h)
  exact h
theorem TE {d:List AJ} (m:A8 d=0):Nd (AX d):=by
 obtain⟨-,l,-,hn,p⟩:=A0 m;have q:=EE d d.length;rw[QD]at q;have hap:=X0 hn;refine⟨?_,λc n=>?_⟩
 .unfold AX List.Nodup;rw[VV,QG];intro i j hi a o e;have h1:=(QG.1 hap) i j hi a o;have g:∀k,(hk:k<(AP d).length)->(AP d).getD k ByteArray.empty=(AP d)[k]:=λk hk=>by simp[AS,hk]
  have f:=(CA (d:=d) (all:=AP d) (by omega) (AP d)[j] 0).2.1;have b:=kO hn p l hi a (by
   rw[g i hi,g j a,e];unfold DW;have:=(Fs f f).2 λ_ h=>h;rw[this];rfl)
  rw[g i hi,g j a,h1]at b;cases b
 obtain⟨s,hs,rfl⟩:=Do.1 n;unfold E0 ofF;split
 .exact Pj _
 exact .inl rfl
theorem M7 {d:List AJ}:∀ {l:List (List Int)} {o:List AU},(o.map (·.2)++l).Nodup->((l.foldl (S6 d) o).map (·.2)).Nodup
 | [],o,h=>by simpa using h
 | b :: l,o,h=>by
  rw[ON];refine M7 ?_;unfold S6 Gy fH;have hp:=(lG o (HR d (AP d) (AX d) b,b) (F5 (HR d (AP d) (AX d) b,b) o o.length)).map (λx:AU=>x.2);have c:List.Perm ((o.take (F5 (HR d (AP d) (AX d) b,b) o o.length)++[(HR d (AP d) (AX d) b,b)]++o.drop (F5 (HR d (AP d) (AX d) b,b) o o.length)).map (λx:AU=>x.2)++l) (o.map (·.2)++b :: l) :=
   (hp.append_right l).trans (AGn (a:=b)).symm
  exact c.nodup_iff.2 h
def ME (h:AG):Prop:=∀a b,0<=a->a<(h.1.length:Int)->0<=b->b<(h.1.length:Int)->A2 h a b=true->A2 h b a=true->a=b
theorem AAX {h:AG} (hk:GB h) (hn:Nd (h.1.map λt=>t.2.1)):ME h:=by
 intro a b c d f b1 h1 j;have m:=hk.1.wds _ (Ca c d);have n:=hk.1.wds _ (Ca f b1);have e:Bd h a=Bd h b:=qI m n (hn.nrm _ (Ca c d)) (hn.nrm _ (Ca f b1)) λi=>by
  rw[ABC];exact⟨(B4 hk f b1 c d).1 j i,(B4 hk c d f b1).1 h1 i⟩
 have hp:=QG.1 hn.nd;have g:∀k:Int,0<=k->(hk:k<(h.1.length:Int))->Bd h k=(h.1.map λt=>t.2.1)[k.toNat]'(by rw[Py];omega):=λk o p=>by
  unfold Bd;simp[AS,show k.toNat<h.1.length by omega]
 rw[g a c d,g b f b1]at e;rcases Int.lt_trichotomy a b with l|heq|l
 .exact absurd e (hp a.toNat b.toNat (by rw[Py];omega) (by rw[Py];omega) (by omega))
 .exact heq
 exact absurd e.symm (hp b.toNat a.toNat (by rw[Py];omega) (by rw[Py];omega) (by omega))
theorem lH (d:List AJ):ME (Aw d).1:=by
 refine AAX (Jd d) ?_;unfold Aw;split
 .exact⟨.nil,λc h=>(by cases h)⟩
 rename_i a;have a:(BD d).2=0:=GO a;have g:Az d=0:=by
  unfold BD at a;split at a
  .rename_i h;exact absurd a h
  rename_i h;exact GO h
 obtain⟨m,-,-⟩:=CH g;obtain⟨f,o,-⟩:=Ba m;have hf:Nd (Ax (AX d)):=V0 (TE f);have e:((Bw d).1.map λt=>t.2.1)=(AN d).map λx=>x.2:=by
  show ((Eg _ _ _).map λt=>t.2.1)=_;unfold Eg;rw[Va];apply SH
  .simp
  intro i h1 n;simp[AS,show i<(AN d).length by simpa using h1]
 show Nd ((Bw d).1.map λt=>t.2.1);rw[e];refine⟨M7 (by simpa using hf.nd),λc k=>?_⟩;obtain⟨x,l,rfl⟩:=Do.1 k;obtain⟨b,j,rfl⟩:=Di.1 l;exact hf.nrm b j
section
attribute [local go_sem] z1
def EU (f:Int):List (Int×Int)->Int×Bool
 | []=>(0,false)
 | x :: l=>if x.1=f then (x.2,true) else EU f l
theorem X2 (f:Int) (l:List (Int×Int)) {k:Nat} (h:k<l.length):EU f (l.drop k)=if (l.getD k (0,0)).1=f then ((l.getD k (0,0)).2,true) else EU f (l.drop (k+1)):=by
 rw[OR h];have e:l.getD k (0,0)=l[k]:=by simp[AS,h]
 rw[e];rfl
def fU (h:AG) (t:Int):List (Int×Int):=(h.1.getD t.toNat Ub).2.2.2
def Br (h:AG) (t f:Int):Int×Bool:=EU f (fU h t)
def Oi:AZ:={ ins:=[ED,T3,T3],pre:=λ(h,t,_,_)=>(0:Int)<=t/\t<(List.length (h:AG).1:Int),out:=λ(h,t,f,_)=>[.p T3 (Br h t f).1,.p .bool (Br h t f).2],lend:=true }
attribute [local go_sem] Oi
theorem z8:Ab Tryz.prog 83 Oi:=by
 refine fK [0,1,2,3,6,7,9,15,16,17,18,26] Tryz.func83 Tryz.ntmps83 AH ?_;rintro w0 O0 ⟨⟨d,hf⟩,t,f,u⟩ a q ⟨j,m⟩;simp only[Oi,AM];refine Ev.ent (σ':=⟨[(0,.p ED (d,hf)),(1,.p T3 t),(2,.p T3 f)],[]⟩) ?_ (AC [] rfl rfl ?_ ?_)
 .repeat'(first|exact trivial|apply eS rfl|refine rX a ?_ ?_)
  .exact⟨j,m⟩
  have o:∀l,l=(List.getD d (Int.toNat t) (ByteArray.empty,[],[],[])).2.2.2->Br (d,hf) t f=EU f l:=λl e=>by rw[e];rfl
  have r:List.length (List.getD d (Int.toNat t) (ByteArray.empty,[],[],[])).2.2.2<=140737488355328:=(q.1.1.2 _ (AD (d:List HT) Ub ((AFQ j).2 m))).2.2.2.1;generalize (List.getD d (Int.toNat t) (ByteArray.empty,[],[],[])).2.2.2=l at *;rw[o l rfl];refine AI (ι:={k:Nat//k<=List.length l/\EU f l=EU f (l.drop k)}) (λk=>⟨[(2,.p T3 f),(15,.p XL l),(16,.p (.int .i64) (List.length l:Int)),(17,.p (.int .i64) (k.1:Int))],[]⟩) (λk=>List.length l-k.1) ⟨0,IS _,rfl⟩ (eW []) (λk=>?_)
  obtain⟨k,hk,b⟩:=k;have i:=λh:k<List.length l=>X2 f l h;simp only;repeat'(first|exact trivial|apply eS rfl|refine rX a ?_ ?_|refine rC ?_ ?_<;>intro c<;>try(cases c;done))
  .exact c
  .refine cP 5 a ?_ ?_
   .trivial
   refine AFp a ?_;refine rL a ?_ ?_
   .trivial
   repeat'(first|exact trivial|apply eS rfl|apply AB|refine rX a ?_ ?_|refine rC ?_ ?_<;>intro c<;>try(cases c;done))
   .have g:k<List.length l:=by exact eV
    rw[i g,BY c]at b;exact fI a [.tmp 6,.tmp 7] (by rw[b];exact eR)
   .omega
   have g:k<List.length l:=by exact eV
   rw[i g,An c]at b;exact⟨⟨k+1,g,b⟩,by simp only;omega,eW []⟩
  have n:List.drop k (l:List (Int×Int))=[]:=B0 (by exact eV);rw[n]at b;have b:EU f l=(0,false):=b;exact fI a [.tmp 6,.tmp 7] (by rw[b];exact eR)
 .exact eN
 exact eN
abbrev Ed:=List Int×List Int
def DP (h:AG) (s:Ed) (n t:Int):Option Ed :=
 if (Bq h (s.1.getD n.toNat 0) t).2=true then some (if (Bq h (s.1.getD n.toNat 0) t).1=s.1.getD n.toNat 0 then s else (s.1.set n.toNat (Bq h (s.1.getD n.toNat 0) t).1,s.2++[n])) else none
def EK (h:AG) (s:Ed):List (Nat×Obj):=[(1,.box 205 true [.p ED h,.sr 2 T3 0 s.1.length,.p F2 s.2]),(2,.arr 3 T3 s.1)]
theorem lI (h:AG) (hk:GB h) (s:Ed) {n t:Int} (n0:0<=n) (n1:n<(s.1.length:Int)) (f:0<=s.1.getD n.toNat 0) (ty1:s.1.getD n.toNat 0<(h.1.length:Int)) (k:0<=t) (l:t<(h.1.length:Int)) (i:s.2.length<=1000000000) :
  BK Tryz.prog 211 [.bp 1 [] 0,.p T3 n,.p T3 t] (EK h s) [1]
  (λres d=>(DP h s n t=none/\res=.p .bool false/\d=EK h s)\/∃e,DP h s n t=some e/\res=.p .bool true/\d=EK h e):=by
 obtain⟨ty,w⟩:=s;simp only at n1 f ty1 i;have hh:h.1.length<=100000:=QB hk.2 (by omega);have g:∀x∈h.1,x.2.1.length<=100000:=λx j=>QB (hk.1.wid x.2.1 (Do.2 ⟨x,j,rfl⟩)) (by omega);refine LQ [0,1,2,6,7,8,26,35] [] [] Tryz.func211 Tryz.ntmps211 (AF z2 AH) ?_;intro w0 K O0 ρ0 c o q;simp only[EK,Aq];repeat'(first|exact trivial|apply eS rfl|refine rX c ?_ ?_|refine rC ?_ ?_<;>intro b<;>try(cases b;done))
 .exact⟨⟨n0,n1⟩,⟨f,ty1⟩,⟨k,l⟩,hh,g⟩
 .have a:DP h (ty,w) n t=none:=by unfold DP;rw[An (by simp only;rw[b];simp)]
  refine Ev.ent (σ':=⟨[(6,.p .bool false)],EK h (ty,w)⟩) ?_ (AC [(1,.nm 1),(2,.nm 2)] rfl rfl ?_ ?_)
  .exact fM c [.tmp 6] (.p .bool false) eT (.inl ⟨a,rfl,rfl⟩)
  .unfold EK;exact eN
  exact eN
 .exact⟨n0,n1⟩
 .exact⟨n0,n1⟩
 .simp only[AQ];omega
 .have a:DP h (ty,w) n t=some (ty.set n.toNat (Bq h (ty.getD n.toNat 0) t).1,w++[n]):=by unfold DP;rw[BY (by assumption),An b]
  generalize (Bq h (ty.getD n.toNat 0) t).1=m at *;have r:(w++[n]).take (w.length+1)=w++[n]:=As (by simp);refine Fe [61] ?_;refine Ev.ent (σ':=⟨[(6,.p .bool true)],EK h (ty.set n.toNat m,w++[n])⟩) ?_ (AC [(1,.nm 1),(2,.nm 2)] rfl rfl ?_ ?_)
  .exact fM c [.tmp 6] (.p .bool true) eT (.inr ⟨_,a,rfl,rfl⟩)
  .unfold EK;simp only[SL];exact eN
  exact eN
 have a:DP h (ty,w) n t=some (ty,w):=by unfold DP;rw[BY (by assumption),BY (by simpa using b)]
 refine Ev.ent (σ':=⟨[(6,.p .bool true)],EK h (ty,w)⟩) ?_ (AC [(1,.nm 1),(2,.nm 2)] rfl rfl ?_ ?_)
 .exact fM c [.tmp 6] (.p .bool true) eT (.inr ⟨_,a,rfl,rfl⟩)
 .unfold EK;exact eN
 exact eN
end
section
def qJ:AZ:={ ins:=[T3],pre:=λ_=>True,out:=λ_=>[.p .bool false] }
attribute [local go_sem] qJ
def GC (a b:Int):Int:=if a<b then -1 else if b<a then 1 else 0
def HY:AZ:={ ins:=[T3,T3],pre:=λ_=>True,out:=λ(a,b,_)=>[.p T3 (GC a b)] }
attribute [local go_sem] HY
def DC:AZ:={ ins:=[AW,AW],pre:=λ_=>True,out:=λ(a,b,_)=>[.p T3 (GC (Prod.fst a) (Prod.fst b))] }
attribute [local go_sem] DC
theorem A4X:Ab Tryz.prog 224 qJ:=by
 refine fK [0,2] Tryz.func224 Tryz.ntmps224 AH ?_;rintro w0 O0 ⟨x,u⟩ a - -;simp only[qJ,AM];repeat'(first|exact trivial|apply eS rfl|refine rX a ?_ ?_)
 exact fI a [.tmp 2]
theorem HB:Ab Tryz.prog 208 HY:=by
 refine fK [0,1,4,5,6,11,12,13,16,19] Tryz.func208 Tryz.ntmps208 (AF A4X AH) ?_;rintro w0 O0 ⟨a,b,u⟩ c - -;simp only[HY,AM];repeat'(first|exact trivial|apply eS rfl|refine rX c ?_ ?_|refine rC ?_ ?_<;>intro d<;>try(cases d;done))
 .have e:GC a b=-1:=BY d;exact fI c [.tmp 4] (by rw[e];exact eR)
 .have e:GC a b=1:=by unfold GC;rw[An (by omega),BY d]
  exact fI c [.tmp 4] (by rw[e];exact eR)
 have e:GC a b=0:=by unfold GC;rw[An (by omega),An (by omega)]
 exact fI c [.tmp 4] (by rw[e];exact eR)
theorem FD:Ab Tryz.prog 192 DC:=by
 refine fK [0,1,2,3,4] Tryz.func192 Tryz.ntmps192 (AF HB AH) ?_;rintro w0 O0 ⟨a,b,u⟩ c - -;simp only[DC,AM];repeat'(first|exact trivial|apply eS rfl|refine rX c ?_ ?_)
 exact fI c [.tmp 4]
def lJ (l:List (Int×Int)):Prop:=∀i,i+1<l.length->(l.getD i (0,0)).1<(l.getD (i+1) (0,0)).1
end
end Go.Proofs.YtapkhdkbkodbjaaGreat.Fw
