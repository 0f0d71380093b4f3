/- Contracts of the program's and the reference's functions, and the plain laws of what they compute: C1 C2 C9 C10 C11 C12 C13 C3 C4 C5 C6 C7 C8 C14 C15 C16 C17 C18 C19 C20 C21 C22 C23 N1 N2 C24 C25 N3 C26 C27 C28 C29 N4 C30 C31 C32 C33 C34 C35 R07a R07b R07c R07d R07e Sorted R07f R07g R07h R15c P8 C37 H1 D1 D4 N5 N6 N7 T4 G1. -/
import Derived.Test.YtapkhdkbkodbjaaGreatIZJ
import Derived.Test.YtapkhdkbkodbjaaGreatIZI
set_option linter.unusedVariables false
set_option linter.unusedSimpArgs false
namespace Go.Proofs.YtapkhdkbkodbjaaGreat.Fw
open Go
attribute [local irreducible] Ev
attribute [local go_sem] fV AM List.toList_toArray Bu evG evK YM Ey Ke Gt F7 Ir TP Nr DK DU Mv Cc DC frz lE Gl DT BA Fz Bg AV.frz AV.frzs AV.drp AV.drps AV.names AV.namess aq Gn LO KT US JQ Bh Bn Jm Ee Ij Ef Il Ik Im VS Pd HH KV F1 EX VT Ry qUn Jn Io Lr FW Du JT KW Eg UT Df Eh FI Rz Ip Np Fh Nn Pe R0 Ls JU KX Ei Dv HR Dx Hq Dg FJ Dh Ej F3 Cc Cq Pb Rx OO Gh JS JR KU Ph TM Nq Lw Lu Ka TN Lv Kb aV Pj Pi AV.trn AV.trns FB DJ Obj.trn J4 gH Dw El EY Ek Cg FK Am lk HV Gm Hm bin lD YQ lG TK yZ y3 pfs AV.cells CK Jk Pc KZ Pg CZ Nl Ty.cell1 Ii FC Dt GK LN FA KS Lq Ru Fg HG Ng UQ VR Lp KQ aR eU TJ Nm DB Jl RV.flat Ty.flat Ty.size St.add upd del Bi Value.oneCell' Lj Ty.dflt Ih Pz Hz QH List.take_succ_cons List.take_zero List.length_cons f6 f7 QG Jy MB Hh Jz A23 F8 M9 NA NB NC SA SB ND Ix Vl Option.map_some Option.map_none Option.bind_some Option.getD_some Option.getD_none Option.isNone_none Option.isNone_some Bool.and_true Bool.true_and Bool.and_false Bool.false_and Bool.not_true Bool.not_false if_true if_false List.length_cons List.length_nil and_true true_and and_self List.all_cons List.all_nil List.append_nil List.nil_append List.cons_append List.getElem?_cons_zero List.getElem?_cons_succ List.getElem?_nil List.map_cons List.map_nil List.set_cons_zero List.set_cons_succ List.isEmpty_nil List.isEmpty_cons decide_true decide_false beq_self_eq_true bne_self_eq_false Nat.zero_add Nat.add_zero Nat.sub_zero Int.toNat_natCast Int.toNat_zero Int.toNat_one List.take_length List.length_append List.length_singleton true_or or_true or_self false_or or_false Ty.agg.injEq Ty.slice.injEq Ty.prod.injEq Ty.int.injEq Option.some.injEq beq_iff_eq Lk evMG evMQ opM H5 L8 B4 Jw HI QA Ju H0 Iy Kn LU Oc Nv Od UW L9 QB QC Jv Ac Aj Op.operands Call.operands List.filterMap_cons List.filterMap_nil List.append_eq Bool.cond_false_right Bool.cond_true_left cond_true cond_false implies_true decide_eq_true_eq beq_true beq_false Bool.or_true Bool.or_false Bool.true_or Bool.false_or Option.isSome_some Array.empty_append List.append_toArray F0 Mw FL Hn aU Pf F2 GS GR Iq Ho KY Lt YR lF Hl inB Kd F4 Gi Jo Ao f8 List.drop_zero Dm H6 bT CU Kr CS AV.fgt AV.fgts Obj.fgt Az Ai Ac DM Ig BS Gu List.any_cons List.any_nil mB gB bU gC ME SG qs List.flatMap_cons List.flatMap_nil List.cons_append tn bX J5 List.take_succ_cons List.drop_succ_cons b6 HJ BV qK NH CB CT Af FO Km Bp FN Dz Hx Iw GW Hy
attribute [local go_sem] ty1 ty2 ty3 ty4 ty5 ty9 A5L A5M A5N A5O A5P A5Q A5R A5S A5T A5U A5V A5W A5X A5Y A5Z A60 A61 A62 A63 A64 A65 A66 A67 A68 A69 A6a A6b A6c A6d A6e A6f A6g A6h A6i A6j A6k A6l A6m A6n A6o A6p A6q A6r A6s A6t A6u A6v A6w A6x A6y A6z A6A A6B A6C A6D A6E A6F A6G A6H A6I A6J A6K A6L A6M A6N A6O A6P A6Q A6R A6S A6T qR qS qT qU qV qW qX qY qZ q9 rA rB rD rE rF rG rH rI rJ rK rO rQ rR rS rU rV rW rZ r7 r8 r9 sA sB sC sD sE sF sG sH sI sJ sK sL sM sN sO sP sQ sR sS sT sU sV sW sY sZ s5 s6 s7 s8 s9 tA tB tC tD tE tF tG tH tI tJ tK tL tM tN tP tQ tR tS tT tU tV tW tY tZ t8 t9 uA uB uC uD uE uF uG uH uI uJ uK uL uM uN uP uQ uR uS uT uU uV uW uX uY uZ u3 u4 u5 u6 u7 u9 vA vB vC vD vE vF vG vH vI vJ vK vL vM vN vO vP vQ vS vT vU vV vW vY vZ v4 v5 v6 v7 v8 v9 wA wB wC wD wF wG wH wI wJ wK wL wM wN wP wQ wR wS wT
set_option maxRecDepth 100000
set_option maxHeartbeats 4000000
section
def Jd (a b c:Int):Bool:=decide (a<=c)&&decide (c<=b)
def mN:Aa:={ ins:=[.int .u8],pre:=λ_=>True,out:=λ(c,_)=>[.p .bool (Jd 48 57 c)] }
attribute [local go_sem] mN
def mO:Aa:={ ins:=[.int .u8],pre:=λ_=>True,out:=λ(c,_)=>[.p .bool (Jd 65 90 c)] }
attribute [local go_sem] mO
def mP:Aa:={ ins:=[.int .u8],pre:=λ_=>True,out:=λ(c,_)=>[.p .bool (Jd 97 122 c)] }
attribute [local go_sem] mP
theorem gV:Ad Tryz.prog 242 mN:=by
 refine fK [0,2] Tryz.func242 Tryz.ntmps242 AH ?_;rintro w0 O0 ⟨c,u⟩ a - -;simp only[mN,AM];repeat'(first|exact trivial|refine eS rfl ?_|refine rX a ?_ ?_)
 exact fI a [.tmp 2] (by unfold Jd;exact eR)
theorem A2F:Ad Tryz.prog 249 mO:=by
 refine fK [0,2] Tryz.func249 Tryz.ntmps249 AH ?_;rintro w0 O0 ⟨c,u⟩ a - -;simp only[mO,AM];repeat'(first|exact trivial|refine eS rfl ?_|refine rX a ?_ ?_)
 exact fI a [.tmp 2] (by unfold Jd;exact eR)
theorem A2G:Ad Tryz.prog 250 mP:=by
 refine fK [0,2] Tryz.func250 Tryz.ntmps250 AH ?_;rintro w0 O0 ⟨c,u⟩ a - -;simp only[mP,AM];repeat'(first|exact trivial|refine eS rfl ?_|refine rX a ?_ ?_)
 exact fI a [.tmp 2] (by unfold Jd;exact eR)
def WO (c:Int) (big:Bool):Bool:=Jd 48 57 c||c==45||big&&Jd 65 90 c||!big&&Jd 97 122 c
def A2H:Aa:={ ins:=[.int .u8,.bool],pre:=λ_=>True,out:=λ(c,b,_)=>[.p .bool (WO c b)] }
attribute [local go_sem] A2H
theorem A6V:Ad Tryz.prog 243 A2H:=by
 refine fK [0,1,4] Tryz.func243 Tryz.ntmps243 (AF gV (AF A2F (AF A2G AH))) ?_;rintro w0 O0 ⟨c,b,u⟩ a - -;simp only[A2H,AM];repeat'(first|exact trivial|refine eS rfl ?_|refine rX a ?_ ?_)
 exact fI a [.tmp 4] (by unfold WO;exact eR)
abbrev chr (s:ByteArray) (i:Nat):Int:=((s.data.getD i 0).toNat:Int)
def SM (s:ByteArray):Bool:=decide ((s.size:Int)<1)||decide (32<(s.size:Int))||Jd 48 57 (chr s 0)||chr s 0==45
def Ep (s:ByteArray) (big:Bool):Bool:=!SM s&&(List.range s.size).all λi=>WO (chr s i) big
def mQ:Aa:={ ins:=[T9,.bool],pre:=λ_=>True,out:=λ(s,b,_)=>[.p .bool (Ep s b)] }
attribute [local go_sem] mQ
theorem gW:Ad Tryz.prog 231 mQ:=by
 refine fK [0,1,4,5,23,27,35] Tryz.func231 Tryz.ntmps231 (AF gV (AF A6V AH)) ?_;rintro w0 O0 ⟨s,b,u⟩ d - -;simp only[mQ,AM];repeat'(first|exact trivial|refine eS rfl ?_|refine rX d ?_ ?_|refine rC ?_ ?_<;>intro a<;>try(cases a;done))
 ·constructor
  ·intro h;simp only[RZ,iS,Of]at h;have:1<=(s.size:Int):=by omega
   exact this
  ·intro h;simp only[RZ,iS,Of]at h;have:1<=(s.size:Int):=by omega
   exact this
 ·have h1:SM s=true:=by
   unfold SM chr;simp only[S8,Ff,TC];exact a
  have c:Ep s b=false:=by unfold Ep;rw[h1];rfl
  exact fI d [.tmp 4] (by rw[c];exact eR)
 ·have h1:SM s=false:=by
   unfold SM chr;simp only[iS,Of,ADD];exact⟨⟨⟨by omega,by omega⟩,a.1.2⟩,a.2⟩
  have g:s.size<=32:=by omega
  refine AK (ι:={k:Nat//k<=s.size/\((List.range k).all λi=>WO (chr s i) b)=true}) (λk=>⟨[(0,.p T9 s),(1,.p .bool b),(5,.p (.int .i64) (k.1:Int))],[]⟩) (λk=>s.size-k.1) ⟨0,by simp⟩ (eW []) (λk=>?_)
  ·obtain⟨k,hk,f⟩:=k;repeat'(first|exact trivial|refine eS rfl ?_|refine AB ?_|refine rX d ?_ ?_|refine rC ?_ ?_<;>intro a<;>try(cases a;done))
   ·exact a
   ·have e:k<s.size:=by omega
    have c:Ep s b=false:=by
     unfold Ep;rw[AD6];refine .inr (AEe.2 λh=>?_);have:=If.1 h k (Ri.2 e);rw[show WO (chr s k) b=false from a]at this;cases this
    exact fI d [.tmp 4] (by rw[c];exact eR)
   ·omega
   ·have e:k<s.size:=by omega
    refine⟨⟨k+1,by omega,?_⟩,by simp only;omega,AC [] rfl rfl ?_ ?_⟩
    ·rw[TD,AEE,f];rw[AFs,AE5,List.all_nil,Bool.and_true];exact a
    ·exact eN
    ·exact eN
   ·have e:k=s.size:=by omega
    subst e;have c:Ep s b=true:=by unfold Ep;rw[h1,f];rfl
    exact fI d [.tmp 4] (by rw[c];exact eR)
def A2I:Aa:={ ins:=[T9],pre:=λ_=>True,out:=λ(s,_)=>[.p .bool (Ep s false)] }
def WP:Aa:={ ins:=[T9],pre:=λ_=>True,out:=λ(s,_)=>[.p .bool (Ep s true)] }
theorem A6W:Ad Tryz.prog 218 A2I:=by
 refine fK [0,2] Tryz.func218 Tryz.ntmps218 (AF gW AH) ?_;rintro w0 O0 ⟨s,u⟩ a - -;simp only[A2I,AM];repeat'(first|exact trivial|refine eS rfl ?_|refine rX a ?_ ?_)
 exact fI a [.tmp 2]
theorem mR:Ad Tryz.prog 217 WP:=by
 refine fK [0,2] Tryz.func217 Tryz.ntmps217 (AF gW AH) ?_;rintro w0 O0 ⟨s,u⟩ a - -;simp only[WP,AM];repeat'(first|exact trivial|refine eS rfl ?_|refine rX a ?_ ?_)
 exact fI a [.tmp 2]
end
section
theorem NK {α:Type} (l:List α) (d:α) (p:α->Bool) {k:Nat} (h:k<l.length):(l.take (k+1)).any p=((l.take k).any p||p (l.getD k d)):=by
 rw[A0 l d h,AED];simp
theorem I9 {α:Type} (l:List α) (d:α) (p:α->Bool) {k:Nat} (h:k<l.length) (hp:p (l.getD k d)=true):l.any p=true :=
 Rd.2 ⟨_,AE l d h,hp⟩
def AZ (l:List ByteArray) (s:ByteArray):Bool:=l.any λx=>AY x s
def Je:Aa:={ ins:=[Fy,T9],pre:=λ_=>True,out:=λ(l,n,_)=>[.p .bool (AZ l n)],lend:=true }
attribute [local go_sem] Je
theorem Gx:Ad Tryz.prog 201 Je:=by
 refine fK [0,1,4,5,9,17] Tryz.func201 Tryz.ntmps201 AH ?_;rintro w0 O0 ⟨l,n,u⟩ a ⟨⟨e,-⟩,-⟩ -;simp only[AP]at e;simp only[Je,AM];repeat'(first|exact trivial|refine eS rfl ?_|refine rX a ?_ ?_)
 refine AK (ι:={k:Nat//k<=l.length/\(l.take k).any (λx=>AY x n)=false}) (λk=>⟨[(0,.p Fy l),(1,.p T9 n),(5,.p (.int .i64) (k.1:Int))],[]⟩) (λk=>l.length-k.1) ⟨0,by simp⟩ (eW []) (λk=>?_)
 ·obtain⟨k,hk,c⟩:=k;repeat'(first|exact trivial|refine eS rfl ?_|refine AB ?_|refine rX a ?_ ?_|refine rC ?_ ?_<;>intro b<;>try(cases b;done))
  ·exact eV
  ·have d:k<l.length:=by exact eV
   have h1:AZ l n=true:=I9 l ByteArray.empty _ d b;exact fI a [.tmp 4] (by rw[h1];exact eR)
  ·exact eV
  ·have d:k<l.length:=by exact eV
   refine⟨⟨k+1,by exact eV,?_⟩,by simp only;exact eV,AC [] rfl rfl ?_ ?_⟩
   ·rw[NK l ByteArray.empty _ d,c];exact b
   ·exact eN
   ·exact eN
  ·have hk:l.take k=l:=As (by exact eV);rw[hk]at c;have h1:AZ l n=false:=c;exact fI a [.tmp 4] (by rw[h1];exact eR)
def atF (l:List ByteArray) (s:ByteArray):Nat:=(l.takeWhile λx=>HQ x s).length
theorem A2K {α:Type} (p:α->Bool) (d:α):∀(l:List α) (k:Nat),k<=(l.takeWhile p).length->((k<l.length/\p (l.getD k d)=true)↔k+1<=(l.takeWhile p).length)
 | [],k,h=>by simp
 | x :: l,k,h=>by
  by_cases a:p x=true
  ·rw[List.takeWhile_cons,BY a]at h ⊢;cases k with
   | zero=>simp[a]
   | succ k =>
    have:=A2K p d l k (by simpa using h);simpa using this
  ·rw[List.takeWhile_cons,An a]at h ⊢;have hk:k=0:=by simpa using h
   subst hk;simp[a]
theorem A8C {α:Type} (p:α->Bool) (l:List α):(l.takeWhile p).length<=l.length:=(List.takeWhile_sublist p).length_le
def ET (l:List ByteArray) (s:ByteArray):List ByteArray :=
 if (decide (atF l s<l.length)&&AY (l.getD (atF l s) ByteArray.empty) s)=true then l else l.take (atF l s)++[s]++l.drop (atF l s)
def b8:Aa:={ ins:=[Fy,T9],pre:=λ(l,_,_)=>List.length l<=100000,out:=λ(l,n,_)=>[.p Fy (ET l n)] }
attribute [local go_sem] b8
theorem SP:Ad Tryz.prog 194 b8:=by
 refine fK [0,1,4,5,6,18,32] Tryz.func194 Tryz.ntmps194 AH ?_;rintro w0 O0 ⟨l,n,u⟩ c-m;have m:l.length<=100000:=m;simp only[b8,AM];repeat'(first|exact trivial|refine eS rfl ?_|refine rX c ?_ ?_)
 refine AK (ι:={k:Nat//k<=atF l n}) (λk=>⟨[(0,.p Fy l),(1,.p T9 n),(5,.raw (.slice none 0 0)),(6,.p (.int .i64) (k.1:Int))],[]⟩) (λk=>l.length-k.1) ⟨0,by simp⟩ (eW []) (λk=>?_)
 ·obtain⟨k,hk⟩:=k;have d:=A8C (λx=>HQ x n) l;have i:=A2K (λx=>HQ x n) ByteArray.empty l k hk;simp only;repeat'(first|exact trivial|refine eS rfl ?_|refine AB ?_|refine rX c ?_ ?_|refine rC ?_ ?_<;>intro a<;>try(cases a;done))
  ·exact λh=>h
  ·have h1:k<l.length/\HQ (l.getD k ByteArray.empty) n=true:=⟨by exact eV,a.2⟩;exact eV
  ·have h1:k<l.length/\HQ (l.getD k ByteArray.empty) n=true:=⟨by exact eV,a.2⟩;exact⟨⟨k+1,i.1 h1⟩,by simp only;omega,eW []⟩
  ·exact λh=>h
  ·rename_i f;have g:k=atF l n:=by
    refine AEi hk (Nat.le_of_not_lt λh=>?_);have:=i.2 h;rw[f (IS.2 this.1)]at this;cases this.2
   have e:ET l n=l:=by
    unfold ET;rw[<-g,BY];rw[AT,Ff];exact⟨IS.1 a.1,a.2⟩
   exact fI c [.tmp 4] (by rw[e];exact eR)
  ·have j:=oN k l;have b:k<=l.length:=Rc hk d;simp only[AP];exact⟨RY.2 b,by dsimp only[Ty.den]at *;omega⟩
  ·have j:=oN k l;have b:k<=l.length:=Rc hk d;simp only[AP];dsimp only[Ty.den]at *;omega
  ·have j:=oN k l;have b:k<=l.length:=Rc hk d;have q:(l.drop k).length<=l.length:=by rw[TE];omega
   simp only[AP];exact⟨RY.2 b,by dsimp only[Ty.den]at *;omega⟩
  ·rename_i f;have g:k=atF l n:=by
    refine AEi hk (Nat.le_of_not_lt λh=>?_);have:=i.2 h;rw[f (IS.2 this.1)]at this;cases this.2
   have e:ET l n=l.take k++[n]++l.drop k:=by
    unfold ET;rw[<-g,An];rw[AT,Ff];intro h;rw[a (IS.2 h.1)]at h;cases h.2
   have b:k<=l.length:=Rc hk d;have o:(l.take k).length+1+(l.drop k).length=(l.take k++[n]++l.drop k).length:=by simp only[IF,RW]
   rw[o,<-e];refine FQ [38] ?_;exact fI c [.tmp 4]
end
section
def GL (b:List Int) (i:Int):Int:=if i<b.length then b.getD i.toNat 0 else 0
def gX:Aa:={ ins:=[BT,T3],pre:=λ(_,i,_)=>(0:Int)<=i,out:=λ(b,i,_)=>[.p QN (GL b i)],lend:=true }
attribute [local go_sem] gX
theorem wW:Ad Tryz.prog 154 gX:=by
 refine fK [0,1,4,8] Tryz.func154 Tryz.ntmps154 AH ?_;rintro w0 O0 ⟨b,i,u⟩ c-hi;simp only[gX,AM];repeat'(first|exact trivial|refine eS rfl ?_|refine rX c ?_ ?_|refine rC ?_ ?_<;>intro a<;>try(cases a;done))
 ·exact⟨hi,a⟩
 ·have h1:GL b i=b.getD i.toNat 0:=by unfold GL;rw[BY a]
  exact fI c [.tmp 4] (by rw[h1];exact eR)
 ·have h1:GL b i=0:=by unfold GL;rw[An (AAh.2 a)]
  exact fI c [.tmp 4] (by rw[h1];exact eR)
def Ci (b:List Int):Nat->Nat
 | 0=>0
 | n+1=>if b.getD n 0=0 then Ci b n else n+1
def BM (b:List Int):List Int:=b.take (Ci b b.length)
theorem WQ (b:List Int):∀n,Ci b n<=n
 | 0=>NO _
 | n+1=>by
  unfold Ci;split
  ·exact Nat.le_succ_of_le (WQ b n)
  ·exact NO _
def Ku:Aa:={ ins:=[BT],pre:=λ(b,_)=>List.length b<=100000,out:=λ(b,_)=>[.p BT (BM b)] }
attribute [local go_sem] Ku
theorem NL:Ad Tryz.prog 155 Ku:=by
 refine fK [0,2,3,15] Tryz.func155 Tryz.ntmps155 AH ?_;rintro w0 O0 ⟨b,u⟩ d-f;have f:b.length<=100000:=f;simp only[Ku,AM];repeat'(first|exact trivial|refine eS rfl ?_|refine rX d ?_ ?_)
 refine AK (ι:={n:Nat//n<=b.length/\Ci b n=Ci b b.length}) (λn=>⟨[(0,.p BT b),(3,.p (.int .i64) (n.1:Int))],[]⟩) (λn=>n.1) ⟨b.length,NO _,rfl⟩ (eW []) (λn=>?_)
 ·obtain⟨n,hn,g⟩:=n;simp only;repeat'(first|refine eS rfl ?_|refine AB ?_|refine rX d ?_ ?_|refine rC ?_ ?_<;>intro c<;>try(cases c;done))
  ·constructor
   ·exact eV
   ·intro h;refine⟨?_,?_⟩<;>exact eV
  ·exact eV
  ·obtain⟨h1,a⟩:=c;obtain⟨m,rfl⟩:∃m,n=m+1:=⟨n-1,by omega⟩;have e:(((m+1:Nat):Int)-1)=(m:Int):=by omega
   rw[e]at a;have a:b.getD m 0=0:=a;have j:Ci b m=Ci b b.length:=by
    rw[<-g];show _=if b.getD m 0=0 then Ci b m else m+1
    rw[BY a]
   refine⟨⟨m,by omega,j⟩,by simp,AC [] rfl rfl ?_ ?_⟩
   ·exact eN
   ·simp only[e];exact eN
  ·have k:=oN n b;simp only[AP];exact⟨RY.2 hn,by dsimp only[Ty.den]at *;omega⟩
  ·have i:Ci b n=n:=by
    cases n with
    | zero=>rfl
    | succ m =>
     have e:(((m+1:Nat):Int)-1)=(m:Int):=by omega
     rw[e]at c;have a:=c (by omega);have a:¬b.getD m 0=0:=a;show (if b.getD m 0=0 then Ci b m else m+1)=m+1;rw[An a]
   have h1:BM b=b.take n:=by unfold BM;rw[<-g,i]
   rw[<-h1];refine FQ [18] ?_;exact fI d [.tmp 2]
end
section
attribute [local go_sem] gX Ku
def A2L (w:Int) (r:Int):Bool:=B9 .and .u64 (YP .u64 w r) 1==1
def Ua (b:List Int) (i:Int):Bool:=if (decide (i<0)||decide ((b.length:Int)<=i.tdiv 64))=true then false else A2L (b.getD (i.tdiv 64).toNat 0) (i.tmod 64)
def A2M:Aa:={ ins:=[BT,T3],pre:=λ_=>True,out:=λ(b,i,_)=>[.p .bool (Ua b i)],lend:=true }
theorem A9r {w:Int} (h0:0<=w) (r:Int):0<=YP .u64 w r/\YP .u64 w r<=w:=by
 unfold YP;have hp:(0:Int)<2 ^ (min r.toNat IntKind.u64.bits):=Int.pow_pos (by decide);rw[Int.fdiv_eq_ediv_of_nonneg _ (Int.le_of_lt hp)];exact⟨Int.ediv_nonneg h0 (Int.le_of_lt hp),Int.ediv_le_self _ h0⟩
theorem A2N:Ad Tryz.prog 205 A2M:=by
 refine fK [0,1,4,13] Tryz.func205 Tryz.ntmps205 AH ?_;rintro w0 O0 ⟨b,i,u⟩ d ⟨⟨m,k⟩,e,-⟩ -;have e:KO .i64 i:=e;rw[ND]at e;have j:0<=i->Int.tdiv i 64=i / 64/\Int.tmod i 64=i % 64:=λh=>⟨oR h,AEk h⟩;simp only[A2M,AM];repeat'(first|exact trivial|refine eS rfl ?_|refine rX d ?_ ?_|refine rC ?_ ?_<;>intro c<;>try(cases c;done))
 ·intro h;have h0:0<=i:=by simpa using h
  obtain⟨a,g⟩:=j h0;rw[a];refine⟨by decide,?_,?_⟩<;>exact eV
 ·have h1:Ua b i=false:=by
   unfold Ua;rw[BY];rw[S8,Ff,Ff];exact c
  exact fI d [.tmp 4] (by rw[h1];exact eR)
 ·obtain⟨h0,l⟩:=c;obtain⟨a,g⟩:=j h0;rw[a]at l;have f:KO .u64 (b.getD (i / 64).toNat 0):=k _ (AE b 0 (by exact eV));rw[Ix]at f;have hs:=A9r f.1 (i % 64);rw[a,g];refine⟨⟨by decide,by exact eV,by exact eV⟩,⟨by exact eV,by exact eV⟩,⟨by decide,by exact eV,by exact eV⟩,⟨by exact eV,by exact eV⟩,by exact eV,hs.1,ADJ hs.2 f.2⟩
 ·have h1:Ua b i=A2L (b.getD (i.tdiv 64).toNat 0) (i.tmod 64):=by
   unfold Ua;rw[An];rw[S8,Ff,Ff];rintro (h|h)<;>omega
  exact fI d [.tmp 4] (by rw[h1];unfold A2L;exact eR)
end
section
attribute [local go_sem] gX Ku
def GY (op:BinOp) (a b:List Int) (n:Nat):List Int:=(List.range n).map λi=>B9 op .u64 (a.getD i 0) (GL b (i:Int))
theorem Eq (op:BinOp) (a b:List Int) (n:Nat):(GY op a b n).length=n:=by simp[GY]
theorem ZC (op:BinOp) (a b:List Int) (n:Nat):GY op a b (n+1)=GY op a b n++[B9 op .u64 (a.getD n 0) (GL b (n:Int))]:=by simp[GY,TD]
def Ec (a b:List Int):List Int:=BM (GY .and a b a.length)
def A2O:Aa:={ ins:=[BT,BT],pre:=λ(a,_,_)=>List.length a<=100000,out:=λ(a,b,_)=>[.p BT (Ec a b)] }
theorem A2P:Ad Tryz.prog 116 A2O:=by
 refine fK [0,1,4,5,6,10] Tryz.func116 Tryz.ntmps116 (AF wW (AF NL AH)) ?_;rintro w0 O0 ⟨a,b,u⟩ c-ha;have ha:a.length<=100000:=ha;simp only[A2O,AM];repeat'(first|exact trivial|refine eS rfl ?_|refine rX c ?_ ?_)
 refine AK (ι:={n:Nat//n<=a.length}) (λn=>⟨[(0,.p BT a),(1,.p BT b),(5,.sr 23 QN 0 n.1),(6,.p (.int .i64) (n.1:Int))],[(23,.arr 186 QN (GY .and a b n.1))]⟩) (λn=>a.length-n.1) ⟨0,IN _⟩ (AC [(23,.nil)] rfl rfl ?_ ?_) (λn=>?_)
 ·refine eM ?_;rfl
 ·exact eN
 ·obtain⟨n,hn⟩:=n;have g:=Eq .and a b n;have hs:=ZC .and a b n;simp only;repeat'(first|exact trivial|refine eS rfl ?_|refine AB ?_|refine rX c ?_ ?_|refine rC ?_ ?_<;>intro d<;>try(cases d;done))
  ·refine⟨d,?_⟩;simp only[AP];dsimp only[Ty.den]at *;omega
  ·exact eV
  ·have e:n<a.length:=by exact eV
   refine⟨⟨n+1,by omega⟩,by simp only;omega,AC [(23,.nm 23)] rfl rfl ?_ ?_⟩
   ·simp only[hs];refine eM ?_;rw[As (by rw[g];exact NO _)]
   ·exact eN
  ·have e:n=a.length:=by exact eV
   subst e;refine FQ [23] ?_;have f:(GY .and a b a.length).take a.length=GY .and a b a.length:=As (by rw[Eq];exact NO _);repeat'(first|refine eS rfl ?_|refine rX c ?_ ?_)
   ·rw[f,Eq];exact ha
   ·rw[f];exact fI c [.tmp 4] (by unfold Ec;exact eR)
def SQ (a b:List Int):List Int:=BM (GY .andNot a b a.length)
def mS:Aa:={ ins:=[BT,BT],pre:=λ(a,_,_)=>List.length a<=100000,out:=λ(a,b,_)=>[.p BT (SQ a b)] }
attribute [local go_sem] mS
theorem A2Q:Ad Tryz.prog 188 mS:=by
 refine fK [0,1,4,5,6,10] Tryz.func188 Tryz.ntmps188 (AF wW (AF NL AH)) ?_;rintro w0 O0 ⟨a,b,u⟩ c-ha;have ha:a.length<=100000:=ha;simp only[mS,AM];repeat'(first|exact trivial|refine eS rfl ?_|refine rX c ?_ ?_)
 refine AK (ι:={n:Nat//n<=a.length}) (λn=>⟨[(0,.p BT a),(1,.p BT b),(5,.sr 23 QN 0 n.1),(6,.p (.int .i64) (n.1:Int))],[(23,.arr 186 QN (GY .andNot a b n.1))]⟩) (λn=>a.length-n.1) ⟨0,IN _⟩ (AC [(23,.nil)] rfl rfl ?_ ?_) (λn=>?_)
 ·refine eM ?_;rfl
 ·exact eN
 ·obtain⟨n,hn⟩:=n;have g:=Eq .andNot a b n;have hs:=ZC .andNot a b n;simp only;repeat'(first|exact trivial|refine eS rfl ?_|refine AB ?_|refine rX c ?_ ?_|refine rC ?_ ?_<;>intro d<;>try(cases d;done))
  ·refine⟨d,?_⟩;simp only[AP];dsimp only[Ty.den]at *;omega
  ·exact eV
  ·have e:n<a.length:=by exact eV
   refine⟨⟨n+1,by omega⟩,by simp only;omega,AC [(23,.nm 23)] rfl rfl ?_ ?_⟩
   ·simp only[hs];refine eM ?_;rw[As (by rw[g];exact NO _)]
   ·exact eN
  ·have e:n=a.length:=by exact eV
   subst e;refine FQ [23] ?_;have f:(GY .andNot a b a.length).take a.length=GY .andNot a b a.length:=As (by rw[Eq];exact NO _);repeat'(first|refine eS rfl ?_|refine rX c ?_ ?_)
   ·rw[f,Eq];exact ha
   ·rw[f];exact fI c [.tmp 4] (by unfold SQ;exact eR)
def E1 (a b:List Int):Bool:=((SQ a b).length:Int)==0
def QO:Aa:={ ins:=[BT,BT],pre:=λ(a,_,_)=>List.length a<=100000,out:=λ(a,b,_)=>[.p .bool (E1 a b)],lend:=true }
attribute [local go_sem] QO
theorem SR:Ad Tryz.prog 147 QO:=by
 refine fK [0,1,4] Tryz.func147 Tryz.ntmps147 (AF A2Q AH) ?_;rintro w0 O0 ⟨a,b,u⟩ c-ha;have ha:a.length<=100000:=ha;simp only[QO,AM];repeat'(first|exact trivial|refine eS rfl ?_|refine rX c ?_ ?_)
 ·exact ha
 ·exact fI c [.tmp 4] (by unfold E1;exact eR)
def DP (a b:List Int):Bool:=E1 a b&&E1 b a
def b9:Aa:={ ins:=[BT,BT],pre:=λ(a,b,_)=>List.length a<=100000/\List.length b<=100000,out:=λ(a,b,_)=>[.p .bool (DP a b)],lend:=true }
theorem z9:Ad Tryz.prog 204 b9:=by
 refine fK [0,1,4] Tryz.func204 Tryz.ntmps204 (AF SR AH) ?_;rintro w0 O0 ⟨a,b,u⟩ c-⟨ha,d⟩;simp only[b9,AM];repeat'(first|exact trivial|refine eS rfl ?_|refine rX c ?_ ?_)
 ·exact⟨ha,λ_=>d⟩
 ·exact fI c [.tmp 4] (by unfold DP;exact eR)
end
section
attribute [local go_sem] A2M
def HS (a b:List Int):Bool:=decide (a=b)
def WR:Aa:={ ins:=[BT,BT],pre:=λ_=>True,out:=λ(a,b,_)=>[.p .bool (HS a b)],lend:=true }
theorem wX:Ad Tryz.prog 153 WR:=by
 refine fK [0,1,4,5,10,14,25] Tryz.func153 Tryz.ntmps153 AH ?_;rintro w0 O0 ⟨a,b,u⟩ d ⟨⟨ha,-⟩,-⟩ -;simp only[AP]at ha;simp only[WR,AM];repeat'(first|exact trivial|refine eS rfl ?_|refine rX d ?_ ?_|refine rC ?_ ?_<;>intro c<;>try(cases c;done))
 ·have h1:HS a b=false:=by
   unfold HS;rw[Of];rintro rfl;exact c rfl
  exact fI d [.tmp 4] (by rw[h1];exact eR)
 ·have f:a.length=b.length:=by
   have:(a.length:Int)=(b.length:Int):=by simpa using c
   exact Int.ofNat_inj.1 this
  refine AK (ι:={k:Nat//k<=a.length/\a.take k=b.take k}) (λk=>⟨[(0,.p BT a),(1,.p BT b),(5,.p (.int .i64) (k.1:Int))],[]⟩) (λk=>a.length-k.1) ⟨0,IN _,rfl⟩ (eW []) (λk=>?_)
  ·obtain⟨k,hk,hf⟩:=k;simp only;repeat'(first|exact trivial|refine eS rfl ?_|refine AB ?_|refine rX d ?_ ?_|refine rC ?_ ?_<;>intro c<;>try(cases c;done))
   ·exact⟨c,by rw[<-f];exact c⟩
   ·have e:k<a.length:=by exact eV
    have h1:HS a b=false:=by
     unfold HS;rw[Of];rintro rfl;exact c rfl
    exact fI d [.tmp 4] (by rw[h1];exact eR)
   ·exact eV
   ·have e:k<a.length:=by exact eV
    have g:a.getD k 0=b.getD k 0:=by simpa using c
    refine⟨⟨k+1,by omega,?_⟩,by simp only;omega,AC [] rfl rfl ?_ ?_⟩
    ·rw[A0 a 0 e,A0 b 0 (by omega),hf];rw[show a.getD k 0=b.getD k 0 from g]
    ·exact eN
    ·exact eN
   ·have e:k=a.length:=by exact eV
    subst e;rw[Re,f,Re]at hf;have h1:HS a b=true:=by unfold HS;rw[hf];simp
    exact fI d [.tmp 4] (by rw[h1];exact eR)
end
section
attribute [local go_sem] A2M
def Nz (b:List Int) (n:Nat):List Int:=((List.range n).filter λ(i:Nat)=>Ua b (i:Int)).map λ(i:Nat)=>(i:Int)
def IA (b:List Int):List Int:=Nz b (64*b.length)
theorem mT (b:List Int) (n:Nat):Nz b (n+1)=Nz b n++if Ua b (n:Int)=true then [(n:Int)] else []:=by
 unfold Nz;rw[TD,AEp,iN]
 congr 1
 rw[f5,AEC];split<;>rfl
theorem A00 (b:List Int) (n:Nat):(Nz b n).length<=n:=by
 unfold Nz;rw[RU];exact Rc (aS _ _) (by simp)
def A2R:Aa:={ ins:=[BT],pre:=λ(b,_)=>List.length b<=100000,out:=λ(b,_)=>[.p Fv (IA b)] }
attribute [local go_sem] A2R
theorem A6X:Ad Tryz.prog 223 A2R:=by
 refine fK [0,2,3,4,9,14] Tryz.func223 Tryz.ntmps223 (AF A2N AH) ?_;rintro w0 O0 ⟨b,u⟩ c-e;have e:b.length<=100000:=e;simp only[A2R,AM];repeat'(first|exact trivial|refine eS rfl ?_|refine rX c ?_ ?_)
 refine AK (ι:={n:Nat//n<=64*b.length}) (λn=>⟨[(0,.p BT b),(3,.sr 18 T3 0 (Nz b n.1).length),(4,.p (.int .i64) (n.1:Int))],[(18,.arr 3 T3 (Nz b n.1))]⟩) (λn=>64*b.length-n.1) ⟨0,IN _⟩ (AC [(18,.nil)] rfl rfl ?_ ?_) (λn=>?_)
 ·refine eM ?_;rfl
 ·refine eM ?_;rfl
 ·obtain⟨n,hn⟩:=n;have f:=A00 b n;have hs:=mT b n;simp only;repeat'(first|exact trivial|refine eS rfl ?_|refine AB ?_|refine rX c ?_ ?_|refine rC ?_ ?_<;>intro a<;>try(cases a;done))
  ·exact eV
  ·rw[a,BY rfl]at hs;simp only[AP];dsimp only[Ty.den]at *;omega
  ·exact eV
  ·have d:n<64*b.length:=by exact eV
   rw[a,BY rfl]at hs;refine⟨⟨n+1,by omega⟩,by simp only;omega,AC [(18,.nm 18)] rfl rfl ?_ ?_⟩
   ·simp only[hs];exact eN
   ·simp only[hs];exact eN
  ·exact eV
  ·have d:n<64*b.length:=by exact eV
   rw[a,An (by simp),Rq]at hs;refine⟨⟨n+1,by omega⟩,by simp only;omega,AC [(18,.nm 18)] rfl rfl ?_ ?_⟩
   ·simp only[hs];exact eN
   ·simp only[hs];exact eN
  ·have d:n=64*b.length:=by exact eV
   subst d;refine FQ [18] ?_;exact fI c [.tmp 2] (by unfold IA;exact eR)
def mU:Aa:={ ins:=[BT],pre:=λ(b,_)=>List.length b<=100000,out:=λ(b,_)=>[.p T3 ((IA b).length:Int)],lend:=true }
theorem A2S:Ad Tryz.prog 207 mU:=by
 refine fK [0,2] Tryz.func207 Tryz.ntmps207 (AF A6X AH) ?_;rintro w0 O0 ⟨b,u⟩ a-c;simp only[mU,AM];repeat'(first|exact trivial|refine eS rfl ?_|refine rX a ?_ ?_)
 ·exact c
 ·exact fI a [.tmp 2]
end
section
attribute [local go_sem] Je A2I
abbrev AI:=ByteArray×List ByteArray×List (ByteArray×ByteArray)
abbrev d0:AI:=(ByteArray.empty,[],[])
def Cs (s:ByteArray):Nat->List AI->Int
 | _,[]=>-1
 | k,x :: l=>if AY x.1 s=true then (k:Int) else Cs s (k+1) l
def Ap (l:List AI) (s:ByteArray):Int:=Cs s 0 l
theorem Tn (s:ByteArray) (l:List AI) {k:Nat} (h:k<l.length):Cs s k (l.drop k)=if AY (l.getD k d0).1 s=true then (k:Int) else Cs s (k+1) (l.drop (k+1)):=by
 rw[On h];have e:l.getD k d0=l[k]:=by simp[AS,h]
 rw[e];rfl
def Oo:Aa:={ ins:=[FF,T9],pre:=λ_=>True,out:=λ(l,s,_)=>[.p T3 (Ap l s)] }
attribute [local go_sem] Oo
theorem MK:Ad Tryz.prog 219 Oo:=by
 refine fK [0,1,4,5,9,18] Tryz.func219 Tryz.ntmps219 AH ?_;rintro w0 O0 ⟨l,s,u⟩ c ⟨⟨d,-⟩,-⟩ -;simp only[AP]at d;simp only[Oo,AM];repeat'(first|exact trivial|refine eS rfl ?_|refine rX c ?_ ?_)
 refine AK (ι:={k:Nat//k<=l.length/\Cs s k (l.drop k)=Ap l s}) (λk=>⟨[(0,.p FF l),(1,.p T9 s),(5,.p (.int .i64) (k.1:Int))],[]⟩) (λk=>l.length-k.1) ⟨0,IN _,rfl⟩ (eW []) (λk=>?_)
 ·obtain⟨k,hk,hf⟩:=k;simp only;repeat'(first|exact trivial|refine eS rfl ?_|refine AB ?_|refine rX c ?_ ?_|refine rC ?_ ?_<;>intro b<;>try(cases b;done))
  ·exact b
  ·have a:k<l.length:=by exact eV
   rw[Tn s l a,BY b]at hf;exact fI c [.tmp 4] (by rw[<-hf];exact eR)
  ·exact eV
  ·have a:k<l.length:=by exact eV
   rw[Tn s l a,An (by rw[b];simp)]at hf;exact⟨⟨k+1,by omega,hf⟩,by simp only;omega,eW []⟩
  ·have a:l.drop k=[]:=By (by exact eV);rw[a]at hf;exact fI c [.tmp 4] (by rw[<-hf];first|exact eR|refine WL ?_;rfl)
def ML:List AI->Int
 | []=>0
 | x :: l=>if 256<x.2.1.length\/256<x.2.2.length then 7 else ML l
def FG (l:List AI):Int:=if 256<l.length then 7 else ML l
theorem Tp (l:List AI) {k:Nat} (h:k<l.length):ML (l.drop k)=if 256<(l.getD k d0).2.1.length\/256<(l.getD k d0).2.2.length then 7 else ML (l.drop (k+1)):=by
 rw[On h];have e:l.getD k d0=l[k]:=by simp[AS,h]
 rw[e];rfl
def cA:Aa:={ ins:=[FF],pre:=λ_=>True,out:=λ(l,_)=>[.p Lo (FG l)] }
attribute [local go_sem] cA
theorem A2T:Ad Tryz.prog 196 cA:=by
 refine fK [0,2,3,6,10,28] Tryz.func196 Tryz.ntmps196 AH ?_;rintro w0 O0 ⟨l,u⟩ b ⟨⟨d,-⟩,-⟩ -;simp only[AP]at d;simp only[cA,AM];repeat'(first|exact trivial|refine eS rfl ?_|refine rX b ?_ ?_|refine rC ?_ ?_<;>intro a<;>try(cases a;done))
 ·have h1:FG l=7:=by unfold FG;rw[BY (by exact eV)]
  exact fI b [.tmp 2] (by rw[h1];exact eR)
 ·have h1:FG l=ML l:=by unfold FG;rw[An (by exact eV)]
  refine AK (ι:={k:Nat//k<=l.length/\ML (l.drop k)=FG l}) (λk=>⟨[(0,.p FF l),(3,.p (.int .i64) (k.1:Int))],[]⟩) (λk=>l.length-k.1) ⟨0,IN _,h1.symm⟩ (eW []) (λk=>?_)
  ·obtain⟨k,hk,hf⟩:=k;simp only;repeat'(first|exact trivial|refine eS rfl ?_|refine AB ?_|refine rX b ?_ ?_|refine rC ?_ ?_<;>intro a<;>try(cases a;done))
   ·exact⟨a,λ_=>a⟩
   ·have c:k<l.length:=by exact eV
    rw[Tp l c,BY (by
     rcases a with h|h
     ·exact .inl (IS.1 h)
     ·exact .inr (IS.1 h))]at hf
    exact fI b [.tmp 2] (by rw[<-hf];exact eR)
   ·exact eV
   ·have c:k<l.length:=by exact eV
    rw[Tp l c,An (by
     rintro (h|h)
     ·have:=RY.1 a.1;exact absurd h (Nat.not_lt.2 this)
     ·have:=RY.1 a.2;exact absurd h (Nat.not_lt.2 this))]at hf
    exact⟨⟨k+1,by omega,hf⟩,by simp only;omega,eW []⟩
   ·have c:l.drop k=[]:=By (by exact eV);rw[c]at hf;exact fI b [.tmp 2] (by rw[<-hf];first|exact eR|refine WL ?_;rfl)
theorem GZ {α:Type} (l:List α) (d:α) (p:α->Bool) {k:Nat} (h:k<l.length):(l.take (k+1)).all p=((l.take k).all p&&p (l.getD k d)):=by
 rw[A0 l d h,AEE];simp
def Jf (x:AI) (done:List ByteArray):Bool:=x.2.1.all λs=>AZ done s
def cB:Aa:={ ins:=[z4,Fy],pre:=λ_=>True,out:=λ(x,l,_)=>[.p .bool (Jf x l)],lend:=true }
attribute [local go_sem] cB
theorem A2U:Ad Tryz.prog 220 cB:=by
 refine fK [0,1,2,4,5,10,20] Tryz.func220 Tryz.ntmps220 (AF Gx AH) ?_;rintro w0 O0 ⟨⟨nm,sup,d⟩,l,u⟩ c ⟨⟨-,⟨e,-⟩,-⟩,-⟩ -;simp only[AP]at e;simp only[cB,AM];repeat'(first|exact trivial|refine eS rfl ?_|refine rX c ?_ ?_)
 refine AK (ι:={k:Nat//k<=sup.length/\(sup.take k).all (λs=>AZ l s)=true}) (λk=>⟨[(1,.p Fy l),(2,.bp 2 [] 0),(5,.p (.int .i64) (k.1:Int))],[(2,.box 158 true [.p T9 nm,.p Fy sup,.p gP d])]⟩) (λk=>sup.length-k.1) ⟨0,by simp⟩ (eW [(2,.nm 2)]) (λk=>?_)
 ·obtain⟨k,hk,hf⟩:=k;simp only;repeat'(first|exact trivial|refine eS rfl ?_|refine AB ?_|refine rX c ?_ ?_|refine rC ?_ ?_<;>intro b<;>try(cases b;done))
  ·exact b
  ·have a:k<sup.length:=by exact eV
   have h1:Jf (nm,sup,d) l=false:=by
    unfold Jf;refine AEe.2 λh=>?_;have:=If.1 h _ (AE sup ByteArray.empty a);rw[b]at this;cases this
   exact fI c [.tmp 4] (by rw[h1];exact eR)
  ·have:=e;exact eV
  ·have a:k<sup.length:=by exact eV
   refine⟨⟨k+1,by omega,?_⟩,by simp only;omega,AC [(2,.nm 2)] rfl rfl ?_ ?_⟩
   ·rw[GZ sup ByteArray.empty _ a,hf];exact b
   ·exact eN
   ·exact eN
  ·have a:sup.take k=sup:=As (by exact eV);rw[a]at hf;have h1:Jf (nm,sup,d) l=true:=hf;exact fI c [.tmp 4] (by rw[h1];exact eR)
def Oq (d:List AI):Nat->List AI->Int
 | _,[]=>0
 | k,x :: l=>if Ep x.1 false=false then 1 else if Ap d x.1<(k:Int) then 4 else Oq d (k+1) l
def Ck (d:List AI):Int:=Oq d 0 d
theorem MM (d l:List AI) {k:Nat} (h:k<l.length):Oq d k (l.drop k)=if Ep (l.getD k d0).1 false=false then 1 else if Ap d (l.getD k d0).1<(k:Int) then 4 else Oq d (k+1) (l.drop (k+1)):=by
 rw[On h];have e:l.getD k d0=l[k]:=by simp[AS,h]
 rw[e];rfl
def cC:Aa:={ ins:=[FF],pre:=λ_=>True,out:=λ(l,_)=>[.p Lo (Ck l)] }
attribute [local go_sem] cC
theorem A2V:Ad Tryz.prog 197 cC:=by
 refine fK [0,2,3,7,16,25] Tryz.func197 Tryz.ntmps197 (AF A6W (AF MK AH)) ?_;rintro w0 O0 ⟨l,u⟩ c ⟨⟨e,-⟩,-⟩ -;simp only[AP]at e;simp only[cC,AM];repeat'(first|exact trivial|refine eS rfl ?_|refine rX c ?_ ?_)
 refine AK (ι:={k:Nat//k<=l.length/\Oq l k (l.drop k)=Ck l}) (λk=>⟨[(0,.p FF l),(3,.p (.int .i64) (k.1:Int))],[]⟩) (λk=>l.length-k.1) ⟨0,IN _,rfl⟩ (eW []) (λk=>?_)
 ·obtain⟨k,hk,hf⟩:=k;simp only;repeat'(first|exact trivial|refine eS rfl ?_|refine AB ?_|refine rX c ?_ ?_|refine rC ?_ ?_<;>intro b<;>try(cases b;done))
  ·exact b
  ·have a:k<l.length:=by exact eV
   rw[MM l l a,BY b]at hf;exact fI c [.tmp 2] (by rw[<-hf];exact eR)
  ·assumption
  ·rename_i d;have a:k<l.length:=by exact eV
   rw[MM l l a,An (by rw[d];simp),BY b]at hf;exact fI c [.tmp 2] (by rw[<-hf];exact eR)
  ·exact eV
  ·rename_i d;have a:k<l.length:=by exact eV
   rw[MM l l a,An (by rw[d];simp),An (AAh.2 b)]at hf;exact⟨⟨k+1,by omega,hf⟩,by simp only;omega,eW []⟩
  ·have a:l.drop k=[]:=By (by exact eV);rw[a]at hf;exact fI c [.tmp 2] (by rw[<-hf];first|exact eR|refine WL ?_;rfl)
def Ub (d:List AI) (l:List ByteArray):Nat->List ByteArray->Int
 | _,[]=>0
 | k,x :: r=>if Ap d x<0 then 5 else if AZ (l.take k) x=true then 4 else Ub d l (k+1) r
def Kv (d:List AI):List AI->Int
 | []=>0
 | x :: l=>if Ub d x.2.1 0 x.2.1≠0 then Ub d x.2.1 0 x.2.1 else Kv d l
def Kw (d:List AI):Int:=Kv d d
theorem SS (d:List AI) (l:List ByteArray) {k:Nat} (h:k<l.length):Ub d l k (l.drop k)=if Ap d (l.getD k ByteArray.empty)<0 then 5 else if AZ (l.take k) (l.getD k ByteArray.empty)=true then 4 else Ub d l (k+1) (l.drop (k+1)):=by
 rw[On h];have e:l.getD k ByteArray.empty=l[k]:=by simp[AS,h]
 rw[e];rfl
theorem cE (d l:List AI) {k:Nat} (h:k<l.length):Kv d (l.drop k)=if Ub d (l.getD k d0).2.1 0 (l.getD k d0).2.1≠0 then Ub d (l.getD k d0).2.1 0 (l.getD k d0).2.1 else Kv d (l.drop (k+1)):=by
 rw[On h];have e:l.getD k d0=l[k]:=by simp[AS,h]
 rw[e];rfl
def Ut:Aa:={ ins:=[FF],pre:=λ_=>True,out:=λ(l,_)=>[.p Lo (Kw l)] }
attribute [local go_sem] Ut
theorem A01:Ad Tryz.prog 198 Ut:=by
 refine fK [0,2,3,4,5,9,20,29,37] Tryz.func198 Tryz.ntmps198 (AF Gx (AF MK AH)) ?_;rintro w0 O0 ⟨l,u⟩ d ⟨⟨h,g⟩,-⟩ -;simp only[AP]at h;simp only[Ut,AM];repeat'(first|exact trivial|refine eS rfl ?_|refine rX d ?_ ?_)
 refine AK (ι:={i:Nat//i<=l.length/\Kv l (l.drop i)=Kw l}) (λi=>⟨[(0,.p FF l),(3,.p (.int .i64) (i.1:Int))],[]⟩) (λi=>l.length-i.1) ⟨0,IN _,rfl⟩ (eW []) (λi=>?_)
 ·obtain⟨i,hi,hf⟩:=i;simp only;repeat'(first|exact trivial|refine eS rfl ?_|refine rX d ?_ ?_|refine rC ?_ ?_<;>intro b<;>try(cases b;done))
  ·exact b
  ·have f:i<l.length:=by exact eV
   have j:=g _ (AE l d0 f);have m:(l.getD i d0).2.1.length<=AP:=j.2.1.1;simp only[AP]at m;rw[cE l l f]at hf;generalize (l.getD i d0).2.1=sup at *;refine AK (ι:={k:Nat//k<=sup.length/\Ub l sup k (sup.drop k)=Ub l sup 0 sup}) (λk=>⟨[(0,.p FF l),(3,.p (.int .i64) (i:Int)),(4,.p Fy sup),(5,.p (.int .i64) (k.1:Int))],[]⟩) (λk=>sup.length-k.1) ⟨0,IN _,rfl⟩ (eW []) (λk=>?_)
   ·obtain⟨k,hk,c⟩:=k;simp only;repeat'(first|exact trivial|refine eS rfl ?_|refine AB ?_|refine rX d ?_ ?_|refine rC ?_ ?_<;>intro b<;>try(cases b;done))
    ·exact b
    ·have a:k<sup.length:=by exact eV
     rw[SS l sup a,BY b]at c;rw[<-c,BY (by decide)]at hf;exact fI d [.tmp 2] (by rw[<-hf];exact eR)
    ·exact eV
    ·rename_i e;have a:k<sup.length:=by exact eV
     rw[SS l sup a,An (AAh.2 e),BY b]at c;rw[<-c,BY (by decide)]at hf;exact fI d [.tmp 2] (by rw[<-hf];exact eR)
    ·exact eV
    ·rename_i e;have a:k<sup.length:=by exact eV
     rw[SS l sup a,An (AAh.2 e),An (by rw[b];simp)]at c;exact⟨⟨k+1,by omega,c⟩,by simp only;omega,eW []⟩
    ·exact eV
    ·have a:sup.drop k=[]:=By (by exact eV);rw[a]at c;rw[<-c,An (by simp[Ub])]at hf;exact⟨⟨i+1,by omega,hf⟩,by simp only;omega,eW []⟩
  ·have a:l.drop i=[]:=By (by exact eV);rw[a]at hf;exact fI d [.tmp 2] (by rw[<-hf];first|exact eR|refine WL ?_;rfl)
end
section
attribute [local go_sem] Oo cB Je b8
theorem E2 {α β:Type} (g:β->α->β) (l:List α) (d:α) (t:β) {i:Nat} (hi:i<l.length):(l.take (i+1)).foldl g t=g ((l.take i).foldl g t) (l.getD i d):=by
 rw[A0 l d hi,AEu];rfl
theorem MN (l:List ByteArray) (s:ByteArray):(ET l s).length<=l.length+1:=by
 unfold ET;split
 ·omega
 ·have:=A8C (λx=>HQ x s) l;have a:atF l s<=l.length:=this;simp only[IF,OR,TE,RW];omega
def AO (l:List AI):List ByteArray:=l.foldl (λo x=>ET o x.1) []
theorem D0 (l:List AI) (k:Nat):(AO (l.take k)).length<=k:=by
 have key:∀(l:List AI) (o:List ByteArray),(l.foldl (λo x=>ET o x.1) o).length<=o.length+l.length:=by
  intro l;induction l with
  | nil=>intro o;simp
  | cons x l b =>
   intro o;have h1:=b (ET o x.1);have a:=MN o x.1;simp only[ON,OS];omega
 have h1:=key (l.take k) [];have a:=oN k l;unfold AO;simp only[ADk]at h1;omega
def QP:Aa:={ ins:=[FF],pre:=λ(l,_)=>List.length l<=100000,out:=λ(l,_)=>[.p Fy (AO l)] }
attribute [local go_sem] QP
theorem ZD:Ad Tryz.prog 161 QP:=by
 refine fK [0,2,3,4,8] Tryz.func161 Tryz.ntmps161 (AF SP AH) ?_;rintro w0 O0 ⟨l,u⟩ a-d;have d:l.length<=100000:=d;simp only[QP,AM];repeat'(first|exact trivial|refine eS rfl ?_|refine rX a ?_ ?_)
 refine AK (ι:={k:Nat//k<=l.length}) (λk=>⟨[(0,.p FF l),(3,.p Fy (AO (l.take k.1))),(4,.p (.int .i64) (k.1:Int))],[]⟩) (λk=>l.length-k.1) ⟨0,IN _⟩ (AC [] rfl rfl ?_ ?_) (λk=>?_)
 ·exact eN
 ·refine eM ?_;rfl
 ·obtain⟨k,hk⟩:=k;have hn:=D0 l k;have hs:=λh:k<l.length=>E2 (λ(o:List ByteArray) (x:AI)=>ET o x.1) l d0 [] h;simp only;repeat'(first|exact trivial|refine eS rfl ?_|refine AB ?_|refine rX a ?_ ?_|refine rC ?_ ?_<;>intro c<;>try(cases c;done))
  ·exact⟨c,by omega⟩
  ·exact eV
  ·have b:k<l.length:=by exact eV
   have e:=hs b;refine⟨⟨k+1,by omega⟩,by simp only;omega,AC [] rfl rfl ?_ ?_⟩
   ·exact eN
   ·simp only;have e:AO (l.take (k+1))=ET (AO (l.take k)) (l.getD k d0).1:=e;rw[e];exact eN
  ·have b:l.take k=l:=As (by exact eV);rw[b];exact fI a [.tmp 2]
def JA (out:List ByteArray) (s:Bool×ByteArray) (x:AI):Bool×ByteArray :=
 if (AZ out x.1||!Jf x out)=true then s else (true,if (!s.1||HQ x.1 s.2)=true then x.1 else s.2)
def IB (d:List AI) (out:List ByteArray):Bool×ByteArray:=d.foldl (JA out) (false,ByteArray.empty)
def JB (d:List AI):Nat->List ByteArray->List ByteArray
 | 0,out=>out
 | n+1,out=>if (IB d out).1=true then JB d n (out++[(IB d out).2]) else out
def Bj (d:List AI):List ByteArray:=JB d d.length []
def IC (d:List AI) (out:List ByteArray):Nat:=d.countP λx=>!AZ out x.1
theorem Ct (s:ByteArray):AY s s=true:=by unfold AY;simp
theorem Ot (out:List ByteArray) (s x:ByteArray):AZ (out++[s]) x=(AZ out x||AY s x):=by
 unfold AZ;simp[AED]
theorem A02 (d:List AI) (out:List ByteArray) (h:(IB d out).1=true):∃x∈d,x.1=(IB d out).2/\AZ out x.1=false:=by
 have key:∀(l:List AI) (s:Bool×ByteArray),(∀x∈l,x∈d)->(s.1=true->∃x∈d,x.1=s.2/\AZ out x.1=false)->(l.foldl (JA out) s).1=true ->
   ∃x∈d,x.1=(l.foldl (JA out) s).2/\AZ out x.1=false:=by
  intro l;induction l with
  | nil=>intro s _ hs h;exact hs h
  | cons y l g =>
   intro s c hs h;rw[ON]at h ⊢;refine g _ (λx e=>c x (by simp[e])) (λhp=>?_) h;unfold JA at hp ⊢;split
   ·rename_i a;rw[BY a]at hp;exact hs hp
   ·rename_i a;simp only;have f:AZ out y.1=false:=by
     cases hh:AZ out y.1 with
     | false=>rfl
     | true=>rw[hh]at a;simp at a
    split
    ·exact⟨y,c y (by simp),rfl,f⟩
    ·rename_i b;have:s.1=true:=by
      cases hh:s.1 with
      | true=>rfl
      | false=>rw[hh]at b;simp at b
     exact hs this
 exact key d _ (λ_ h=>h) (λh=>by cases h) h
theorem gY {d:List AI} {out:List ByteArray} (h:(IB d out).1=true):IC d (out++[(IB d out).2])<IC d out:=by
 obtain⟨x,e,h1,c⟩:=A02 d out h;generalize (IB d out).2=s at *;unfold IC;have key:∀l:List AI,(l.countP λy=>!AZ (out++[s]) y.1)<=l.countP λy=>!AZ out y.1:=by
  intro l;refine List.countP_mono_left λy _ a=>?_;rw[Ot]at a;cases hh:AZ out y.1 with
  | false=>rfl
  | true=>rw[hh]at a;simp at a
 obtain⟨f,g,rfl⟩:=List.append_of_mem e;rw[AFj,AFj,AEm,AEm];have i:=key f;have j:=key g;have b:AZ (out++[s]) x.1=true:=by rw[Ot,h1,Ct,Bool.or_true]
 rw[b,c];simp only[Bool.not_true,Bool.not_false,AAv];simp only[ADC,AE3];omega
def cF:Aa:={ ins:=[FF],pre:=λ(l,_)=>List.length l<=100000,out:=λ(l,_)=>[.p Fy (Bj l)] }
theorem A03:Ad Tryz.prog 199 cF:=by
 refine fK [0,2,3,4,5,6,7,11,29,40,46] Tryz.func199 Tryz.ntmps199 (AF Gx (AF A2U AH)) ?_;rintro w0 O0 ⟨d,u⟩ j-r;have r:d.length<=100000:=r;simp only[cF,AM];repeat'(first|exact trivial|refine eS rfl ?_|refine rX j ?_ ?_)
 refine AK (ι:={x:Nat×List ByteArray×Bool//x.1+x.2.1.length<=d.length/\(x.2.2=true->IC d x.2.1<=x.1/\JB d x.1 x.2.1=Bj d)/\(x.2.2=false->x.2.1=Bj d)}) (λx=>⟨[(0,.p FF d),(3,.sr 50 T9 0 x.1.2.1.length),(4,.p .bool x.1.2.2)],[(50,.arr 9 T9 x.1.2.1)]⟩) (λx=>(if x.1.2.2=true then x.1.1+1 else 0)) ⟨(d.length,[],true),by simp,λ_=>⟨List.countP_le_length,rfl⟩,λh=>by cases h⟩ (eW [(50,.nil)]) (λx=>?_)
 ·obtain⟨⟨n,out,C⟩,s,t,v⟩:=x;simp only at s t v;simp only;repeat'(first|exact trivial|refine eS rfl ?_|refine rX j ?_ ?_|refine rC ?_ ?_<;>intro a<;>try(cases a;done))
  ·subst a;obtain⟨hu,hp⟩:=t rfl;have B:({ data:=#[] }:ByteArray).size<=AP:=by decide
   rw[BY B];refine AK (ι:={y:Nat×Bool×ByteArray//y.1<=d.length/\(d.take y.1).foldl (JA out) (false,ByteArray.empty)=y.2}) (λy=>⟨[(0,.p FF d),(3,.sr 50 T9 0 out.length),(4,.p .bool y.1.2.1),(5,.p T9 y.1.2.2),(6,.p (.int .i64) (y.1.1:Int))],[(50,.arr 9 T9 out)]⟩) (λy=>d.length-y.1.1) ⟨(0,false,ByteArray.empty),by simp,rfl⟩ (AC [(50,.nm 50)] rfl rfl ?_ ?_) (λy=>?_)
   ·exact eN
   ·refine eM ?_;rfl
   ·obtain⟨⟨k,w,b⟩,hk,c⟩:=y;simp only at hk c;have q:∀h:k<d.length,(d.take (k+1)).foldl (JA out) (false,ByteArray.empty)=JA out (w,b) (d.getD k d0):=λh=>by
     rw[E2 (JA out) d d0 _ h,c]
    simp only;repeat'(first|exact trivial|refine eS rfl ?_|refine AB ?_|refine rX j ?_ ?_|refine rC ?_ ?_<;>intro a<;>try(cases a;done))
    ·exact⟨a,λ_=>a⟩
    ·exact eV
    ·have g:k<d.length:=by exact eV
     refine⟨⟨(k+1,w,b),by simp only;omega,?_⟩,by simp only;omega,AC [(50,.nm 50)] rfl rfl ?_ ?_⟩
     ·simp only;rw[q g];unfold JA;rw[BY];rw[S8,RZ];exact a
     ·exact eN
     ·exact eN
    ·exact λ_=>by assumption
    ·assumption
    ·exact eV
    ·rename_i f;have g:k<d.length:=by exact eV
     refine⟨⟨(k+1,true,(d.getD k d0).1),by simp only;omega,?_⟩,by simp only;omega,AC [(50,.nm 50)] rfl rfl ?_ ?_⟩
     ·simp only;rw[q g];unfold JA;rw[An (by rw[f.1,f.2];simp),BY (by rw[S8,RZ];exact a)]
     ·exact eN
     ·exact eN
    ·exact eV
    ·rename_i f;have g:k<d.length:=by exact eV
     refine⟨⟨(k+1,true,b),by simp only;omega,?_⟩,by simp only;omega,AC [(50,.nm 50)] rfl rfl ?_ ?_⟩
     ·simp only;rw[q g];unfold JA;rw[An (by rw[f.1,f.2];simp),An (by rw[S8,RZ];rintro (h|h)<;>simp_all)]
     ·exact eN
     ·exact eN
    ·simp only[AP];dsimp only[Ty.den]at *;omega
    ·subst a;have l:d.take k=d:=As (by exact eV);rw[l]at c;have i:IB d out=(true,b):=c;have m:=gY (d:=d) (out:=out) (by rw[i]);rw[i]at m;obtain⟨e,rfl⟩:∃e,n=e+1:=⟨n-1,by omega⟩;have o:JB d e (out++[b])=Bj d:=by
      rw[<-hp];show _=if (IB d out).1=true then JB d e (out++[(IB d out).2]) else out
      rw[i,BY rfl]
     have m:IC d (out++[b])<IC d out:=m;have A:IC d (out++[b])<=e:=by omega
     exact⟨⟨(e,out++[b],true),by simp only[IF,RW];omega,λ_=>⟨A,o⟩,λh=>by cases h⟩,by simp,eW [(50,.nm 50)]⟩
    ·subst a;have l:d.take k=d:=As (by exact eV);rw[l]at c;have i:IB d out=(false,b):=c;have o:out=Bj d:=by
      rw[<-hp];cases n with
      | zero=>rfl
      | succ n =>
       show _=if (IB d out).1=true then JB d n (out++[(IB d out).2]) else out
       rw[i,An (by simp)]
     exact⟨⟨(n,out,false),s,(λh=>by cases h),λ_=>o⟩,by simp,eW [(50,.nm 50)]⟩
  ·subst a;have z:=v rfl;rw[z];refine FQ [50] ?_;exact fI j [.tmp 2]
end
section
attribute [local go_sem] cA cC Ut cF
def ID (d:List AI):Nat:=d.countP λx=>x.2.1.length==0
theorem gZ (d:List AI) {k:Nat} (h:k<d.length):ID (d.take (k+1))=ID (d.take k)+if ((d.getD k d0).2.1.length==0)=true then 1 else 0:=by
 unfold ID;rw[A0 d d0 h,AFj,AEm,List.countP_nil];omega
theorem A04 (d:List AI):ID d<=d.length:=List.countP_le_length
def A5 (d:List AI):Int :=
 if FG d≠0 then FG d else if Ck d≠0 then Ck d else if Kw d≠0 then Kw d else if ID d≠1 then 1 else if (Bj d).length<d.length then 6 else 0
theorem Tq {d:List AI} (h:FG d=0):d.length<=256:=by
 unfold FG at h;split at h
 ·cases h
 ·omega
def Uu:Aa:={ ins:=[FF],pre:=λ_=>True,out:=λ(l,_)=>[.p Lo (A5 l)] }
attribute [local go_sem] Uu
theorem A05:Ad Tryz.prog 160 Uu:=by
 refine fK [0,2,3,4,5,6,7,11,16,21,26,35,39,45] Tryz.func160 Tryz.ntmps160 (AF A2T (AF A2V (AF A01 (AF A03 AH)))) ?_;rintro w0 O0 ⟨d,u⟩ c - -;simp only[Uu,AM];repeat'(first|exact trivial|refine eS rfl ?_|refine rX c ?_ ?_|refine rC ?_ ?_<;>intro a<;>try(cases a;done))
 ·have h1:A5 d=FG d:=by unfold A5;rw[BY a]
  exact fI c [.tmp 2] (by rw[h1];exact eR)
 ·rename_i hs;have hs:FG d=0:=by simpa using hs
  have h1:A5 d=Ck d:=by unfold A5;rw[An (by rw[hs];simp),BY a]
  exact fI c [.tmp 2] (by rw[h1];exact eR)
 ·rename_i hs hn;have hs:FG d=0:=by simpa using hs
  have hn:Ck d=0:=by simpa using hn
  have h1:A5 d=Kw d:=by unfold A5;rw[An (by rw[hs];simp),An (by rw[hn];simp),BY a]
  exact fI c [.tmp 2] (by rw[h1];exact eR)
 ·rename_i hs hn;have hs:FG d=0:=by simpa using hs
  have hn:Ck d=0:=by simpa using hn
  have hu:Kw d=0:=by simpa using a
  have i:=Tq hs;have h1:A5 d=if ID d≠1 then 1 else if (Bj d).length<d.length then 6 else 0:=by
   unfold A5;rw[An (by rw[hs];simp),An (by rw[hn];simp),An (by rw[hu];simp)]
  refine AK (ι:={k:Nat//k<=d.length}) (λk=>⟨[(0,.p FF d),(6,.p (.int .i64) (ID (d.take k.1):Int)),(7,.p (.int .i64) (k.1:Int))],[]⟩) (λk=>d.length-k.1) ⟨0,IN _⟩ (AC [] rfl rfl ?_ ?_) (λk=>?_)
  ·exact eN
  ·refine eM ?_;rfl
  ·obtain⟨k,hk⟩:=k;have j:=A04 (d.take k);have l:=oN k d;have g:=λh:k<d.length=>gZ d h;simp only;repeat'(first|exact trivial|refine eS rfl ?_|refine AB ?_|refine rX c ?_ ?_|refine rC ?_ ?_<;>intro a<;>try(cases a;done))
   ·exact a
   ·exact eV
   ·exact eV
   ·have b:k<d.length:=by exact eV
    have e:=g b;rw[BY (by rw[TC];exact Int.ofNat_eq_zero.1 a)]at e;refine⟨⟨k+1,by omega⟩,by simp only;omega,AC [] rfl rfl ?_ ?_⟩
    ·exact eN
    ·simp only[e];exact eN
   ·exact eV
   ·have b:k<d.length:=by exact eV
    have e:=g b;rw[An (by rw[TC];exact λh=>a (Int.ofNat_eq_zero.2 h))]at e;refine⟨⟨k+1,by omega⟩,by simp only;omega,AC [] rfl rfl ?_ ?_⟩
    ·exact eN
    ·simp only[e];exact eN
   ·have b:d.take k=d:=As (by exact eV);rw[b]at a;rw[BY (λh=>a (by rw[h];rfl))]at h1;exact fI c [.tmp 2] (by rw[h1];exact eR)
   ·show d.length<=100000;omega
   ·rename_i f;have b:d.take k=d:=As (by exact eV);rw[b]at f;have f:(ID d:Int)=1:=by simpa using f
    rw[An (by omega),BY (IS.1 a)]at h1;exact fI c [.tmp 2] (by rw[h1];exact eR)
   ·rename_i f;have b:d.take k=d:=As (by exact eV);rw[b]at f;have f:(ID d:Int)=1:=by simpa using f
    rw[An (by omega),An (λh=>absurd (RY.1 a) (Nat.not_le.2 h))]at h1;exact fI c [.tmp 2] (by rw[h1];exact eR)
end
section
attribute [local go_sem] Oo Je b8
def J7 (o:List ByteArray) (s:ByteArray):List ByteArray:=if AZ o s=true then o else o++[s]
def MO (d:List AI) (s:ByteArray):List ByteArray:=(d.getD (Ap d s).toNat d0).2.1
def IE (d:List AI):Nat->Nat->List ByteArray->List ByteArray
 | 0,_,o=>o
 | n+1,i,o=>if i<o.length then IE d n (i+1) ((MO d (o.getD i ByteArray.empty)).foldl J7 o) else o
def J8 (l:List ByteArray):List ByteArray:=l.foldl ET []
theorem ZE (l:List ByteArray):(J8 l).length<=l.length:=by
 have key:∀(l o:List ByteArray),(l.foldl ET o).length<=o.length+l.length:=by
  intro l;induction l with
  | nil=>intro o;simp
  | cons x l a =>
   intro o;have h1:=a (ET o x);have b:=MN o x;simp only[ON,OS];omega
 have:=key l [];simpa[J8] using this
def Kx (d:List AI) (s:ByteArray):List ByteArray:=if Ap d s<0 then [] else J8 (IE d d.length 0 [s])
def QQ (d:List AI):Prop:=∀x∈d,∀s∈x.2.1,0<=Ap d s
theorem ZF (s:ByteArray):∀(l:List AI) (k:Nat),Cs s k l=-1\/((k:Int)<=Cs s k l/\Cs s k l<(k:Int)+l.length/\AY (l.getD ((Cs s k l).toNat-k) d0).1 s=true)
 | [],_=>.inl rfl
 | x :: l,k=>by
  simp only[Cs];split
  ·rename_i h;right;refine⟨by omega,by simp only[OS];omega,?_⟩;have:((k:Int).toNat-k)=0:=by omega
   rw[this];exact h
  ·rcases ZF s l (k+1) with h|⟨h1,b,a⟩
   ·exact .inl h
   ·right;refine⟨by omega,by simp only[OS];omega,?_⟩;have:((Cs s (k+1) l).toNat-k)=((Cs s (k+1) l).toNat-(k+1))+1:=by omega
    rw[this];exact a
theorem DQ (d:List AI) (s:ByteArray):Ap d s<0\/(0<=Ap d s/\Ap d s<(d.length:Int)/\AY (d.getD (Ap d s).toNat d0).1 s=true):=by
 rcases ZF s d 0 with h|⟨h1,a,b⟩
 ·left;show Cs s 0 d<0;omega
 ·have a:Ap d s<((0:Nat):Int)+d.length:=a;exact .inr ⟨h1,by omega,b⟩
theorem Hi {a b:ByteArray}:AY a b=true↔a.toList=b.toList:=by unfold AY;simp
theorem D5 {a b:ByteArray} (h:AY a b=true):AY b a=true:=Hi.2 (Hi.1 h).symm
theorem BX {a b c:ByteArray} (h:AY a b=true) (g:AY b c=true):AY a c=true:=Hi.2 ((Hi.1 h).trans (Hi.1 g))
structure cH (d:List AI) (o:List ByteArray):Prop where
 decl:∀s∈o,0<=Ap d s
 nd:o.Pairwise λa b=>AY a b=false
theorem Ky (d:List AI):∀ {o:List ByteArray},cH d o->(o.map λs=>(Ap d s).toNat).Nodup
 | [],_=>by simp
 | s :: o,h=>by
  rw[Rp,TO];have c:=TA.1 h.nd;refine⟨λi=>?_,Ky d ⟨λx a=>h.decl x (by simp[a]),c.2⟩⟩;obtain⟨x,a,e⟩:=GO.1 i;have h1:=h.decl s (by simp);have j:=h.decl x (by simp[a]);rcases DQ d s with g|⟨_,_,f⟩
  ·omega
  ·rcases DQ d x with g|⟨_,_,b⟩
   ·omega
   ·rw[e]at b;have:=c.1 x a;rw[BX (D5 f) b]at this;cases this
theorem cH.len {d:List AI} {o:List ByteArray} (h:cH d o):o.length<=d.length:=by
 have:=EJ d.length (o.map λs=>(Ap d s).toNat) (Ky d h) (λj a=>by
  obtain⟨s,hs,rfl⟩:=GO.1 a;have h1:=h.decl s hs;rcases DQ d s with g|⟨_,g,_⟩<;>omega)
 simpa using this
theorem QR {o:List ByteArray} {s:ByteArray} (h:AZ o s=false):∀x∈o,AY x s=false:=λx a=>by
 cases hh:AY x s with
 | false=>rfl
 | true=>exact absurd h (by rw[show AZ o s=true from Rd.2 ⟨x,a,hh⟩];simp)
theorem wY {d:List AI} {o:List ByteArray} (h:cH d o) {s:ByteArray} (hs:0<=Ap d s):cH d (J7 o s):=by
 unfold J7;split
 ·exact h
 ·rename_i e;have e:AZ o s=false:=by simpa using e
  refine⟨λx c=>?_,?_⟩
  ·rcases No.1 c with c|c
   ·exact h.decl x c
   ·have:x=s:=by simpa using c
    rw[this];exact hs
  ·rw[AE2];refine⟨h.nd,by simp,λa ha b f=>?_⟩;have:b=s:=by simpa using f
   rw[this];exact QR e a ha
theorem g9 {d:List AI}:∀ {l o:List ByteArray},(∀s∈l,0<=Ap d s)->cH d o->cH d (l.foldl J7 o)/\o.length<=(l.foldl J7 o).length
 | [],o,_,h=>⟨h,NO _⟩
 | s :: l,o,a,h=>by
  obtain⟨b,c⟩:=g9 (l:=l) (λx e=>a x (by simp[e])) (wY h (a s (by simp)));refine⟨b,Rc ?_ c⟩;unfold J7;split<;>simp
theorem hC {d:List AI} (b:QQ d) (s:ByteArray):∀x∈MO d s,0<=Ap d x:=by
 intro x a;unfold MO at a;by_cases h:(Ap d s).toNat<d.length
 ·exact b _ (AE d d0 h) x a
 ·rw[AS,Rj (by omega)]at a;cases a
def mV:Aa:={ ins:=[FF,T9],pre:=λ(d,_,_)=>QQ d/\List.length d<=256,out:=λ(d,s,_)=>[.p Fy (Kx d s)] }
theorem A2W:Ad Tryz.prog 222 mV:=by
 refine fK [0,1,4,5,6,7,8,9,10,14,20,36,45,56] Tryz.func222 Tryz.ntmps222 (AF MK (AF Gx (AF SP AH))) ?_;rintro w0 O0 ⟨d,s,u⟩ b ⟨⟨Q,G⟩,-⟩ ⟨O,z⟩;have z:d.length<=256:=z;simp only[mV,AM];repeat'(first|exact trivial|refine eS rfl ?_|refine rX b ?_ ?_|refine rC ?_ ?_<;>intro a<;>try(cases a;done))
 ·have h1:Kx d s=[]:=by unfold Kx;rw[BY a]
  exact fI b [.tmp 4] (by rw[h1];exact eR)
 ·have h1:Kx d s=J8 (IE d d.length 0 [s]):=by unfold Kx;rw[An (AAh.2 a)]
  have F:cH d [s]:=⟨λx y=>by
   have:x=s:=by simpa using y
   rw[this];exact a,by simp⟩
  refine AK (ι:={x:Nat×List ByteArray//x.1<=x.2.length/\cH d x.2/\IE d (d.length-x.1) x.1 x.2=IE d d.length 0 [s]}) (λx=>⟨[(0,.p FF d),(1,.p T9 s),(5,.sr 16 T9 0 x.1.2.length),(6,.p (.int .i64) (x.1.1:Int))],[(16,.arr 9 T9 x.1.2)]⟩) (λx=>d.length-x.1.1) ⟨(0,[s]),by simp,F,rfl⟩ (eW [(16,.nm 16)]) (λx=>?_)
  ·obtain⟨⟨i,o⟩,hi,c,t⟩:=x;simp only at hi c t;have U:=c.len;simp only;repeat'(first|exact trivial|refine eS rfl ?_|refine rX b ?_ ?_|refine rC ?_ ?_<;>intro a<;>try(cases a;done))
   ·have q:i<o.length:=by exact eV
    have A:=c.decl _ (AE o ByteArray.empty q);refine⟨a,A,?_⟩;rcases DQ d (o.getD i ByteArray.empty) with g|⟨_,g,_⟩
    ·omega
    ·exact g
   ·have q:i<o.length:=by exact eV
    have A:=c.decl _ (AE o ByteArray.empty q);have K:=hC O (o.getD i ByteArray.empty);have C:IE d (d.length-(i+1)) (i+1) ((MO d (o.getD i ByteArray.empty)).foldl J7 o)=IE d d.length 0 [s]:=by
     rw[<-t];obtain⟨m,B⟩:∃m,d.length-i=m+1:=⟨d.length-i-1,by omega⟩;have H:d.length-(i+1)=m:=by omega
     rw[B,H];show _=if i<o.length then IE d m (i+1) ((MO d (o.getD i ByteArray.empty)).foldl J7 o) else o
     rw[BY q]
    have M:(MO d (o.getD i ByteArray.empty)).length<=AP:=by
     rcases DQ d (o.getD i ByteArray.empty) with g|⟨_,g,_⟩
     ·omega
     ·exact(G _ (AE d d0 (k:=(Ap d (o.getD i ByteArray.empty)).toNat) (by omega))).2.1.1
    have N:(List.getD d (Ap d (o.getD i ByteArray.empty)).toNat (ByteArray.empty,[],[])).2.1=MO d (o.getD i ByteArray.empty):=rfl;rw[N];generalize MO d (o.getD i ByteArray.empty)=sup at *;simp only[AP]at M;refine AK (ι:={k:Nat//k<=sup.length}) (λk=>⟨[(0,.p FF d),(1,.p T9 s),(5,.sr 16 T9 0 ((sup.take k.1).foldl J7 o).length),(6,.p (.int .i64) (i:Int)),(7,.p Fy sup),(8,.p (.int .i64) (k.1:Int))],[(16,.arr 9 T9 ((sup.take k.1).foldl J7 o))]⟩) (λk=>sup.length-k.1) ⟨0,IN _⟩ (AC [(16,.nm 16)] rfl rfl ?_ ?_) (λk=>?_)
    ·refine eM ?_;rfl
    ·refine eM ?_;rfl
    ·obtain⟨k,hk⟩:=k;have w:=g9 (l:=sup.take k) (o:=o) (λx y=>K x (gO y)) c;have S:=w.1.len;have E:=λh:k<sup.length=>E2 J7 sup ByteArray.empty o h;simp only;generalize D:(sup.take k).foldl J7 o=n at *;repeat'(first|exact trivial|refine eS rfl ?_|refine AB ?_|refine rX b ?_ ?_|refine rC ?_ ?_<;>intro a<;>try(cases a;done))
     ·exact a
     ·refine⟨by exact eV,?_⟩;simp only[AP];dsimp only[Ty.den]at *;omega
     ·exact eV
     ·have f:k<sup.length:=by exact eV
      have e:=E f;have r:J7 n (sup.getD k ByteArray.empty)=n++[sup.getD k ByteArray.empty]:=by unfold J7;rw[An (by rw[a];simp)]
      rw[r]at e;refine⟨⟨k+1,by omega⟩,by simp only;omega,AC [(16,.nm 16)] rfl rfl ?_ ?_⟩
      ·simp only[e];exact eN
      ·simp only[e];exact eN
     ·exact eV
     ·have f:k<sup.length:=by exact eV
      have e:=E f;have r:J7 n (sup.getD k ByteArray.empty)=n:=by unfold J7;rw[BY a]
      rw[r]at e;refine⟨⟨k+1,by omega⟩,by simp only;omega,AC [(16,.nm 16)] rfl rfl ?_ ?_⟩
      ·simp only[e];exact eN
      ·simp only[e];exact eN
     ·exact eV
     ·have f:sup.take k=sup:=As (by exact eV);rw[f]at D;rw[D]at C;have J:=w.1;have T:=w.2;exact⟨⟨(i+1,n),by simp only;omega,J,C⟩,by simp only;omega,eW [(16,.nm 16)]⟩
   ·have I:o=IE d d.length 0 [s]:=by
     rw[<-t];cases B:d.length-i with
     | zero=>rfl
     | succ m =>
      show _=if i<o.length then _ else o
      rw[An (by exact eV)]
    rw[<-I]at h1;refine AK (ι:={j:Nat//j<=o.length}) (λj=>⟨[(0,.p FF d),(5,.sr 16 T9 0 o.length),(9,.p Fy ((o.take j.1).foldl ET [])),(10,.p (.int .i64) (j.1:Int))],[(16,.arr 9 T9 o)]⟩) (λj=>o.length-j.1) ⟨0,IN _⟩ (AC [(16,.nm 16)] rfl rfl ?_ ?_) (λj=>?_)
    ·exact eN
    ·refine eM ?_;rfl
    ·obtain⟨j,R⟩:=j;have L:=λh:j<o.length=>E2 ET o ByteArray.empty [] h;simp only;repeat'(first|exact trivial|refine eS rfl ?_|refine AB ?_|refine rX b ?_ ?_|refine rC ?_ ?_<;>intro a<;>try(cases a;done))
     ·refine⟨a,?_⟩;have:=ZE (o.take j);have P:=oN j o;unfold J8 at this;dsimp only[Ty.den]at *;omega
     ·exact eV
     ·have v:j<o.length:=by exact eV
      have e:=L v;refine⟨⟨j+1,by omega⟩,by simp only;omega,AC [(16,.nm 16)] rfl rfl ?_ ?_⟩
      ·exact eN
      ·simp only[e];exact eN
     ·have v:o.take j=o:=As (by exact eV);rw[v];exact fI b [.tmp 4] (by rw[h1];unfold J8;exact eR)
end
section
attribute [local go_sem] Oo Je b8
def Y1 (s:ByteArray) (o:List ByteArray) (x:AI):List ByteArray:=if (AZ x.2.1 s&&!AZ o x.1)=true then o++[x.1] else o
def Cl (d:List AI):Nat->Nat->List ByteArray->List ByteArray
 | 0,_,o=>o
 | n+1,i,o=>if i<o.length then Cl d n (i+1) (d.foldl (Y1 (o.getD i ByteArray.empty)) o) else o
def Cm (d:List AI) (s:ByteArray):List ByteArray:=if Ap d s<0 then [] else J8 (Cl d d.length 0 [s])
theorem WT (s:ByteArray):∀(l:List AI) (k:Nat) (x:AI),x∈l->AY x.1 s=true->0<=Cs s k l
 | y :: l,k,x,a,h=>by
  simp only[Cs];split
  ·omega
  ·rename_i b;rcases DO.1 a with rfl|a
   ·exact absurd h b
   ·exact WT s l (k+1) x a h
theorem DX {d:List AI} {x:AI} (a:x∈d):0<=Ap d x.1:=WT x.1 d 0 x a (Ct _)
theorem A6Y {d:List AI} {o:List ByteArray} (h:cH d o) (s:ByteArray) {x:AI} (b:x∈d):cH d (Y1 s o x):=by
 unfold Y1;split
 ·rename_i a;rw[AT,RZ]at a;have:=wY h (DX b);unfold J7 at this
  rwa [An (by rw[a.2];simp)]at this
 ·exact h
theorem WU {d:List AI} (s:ByteArray):∀ {l:List AI} {o:List ByteArray},(∀x∈l,x∈d)->cH d o->cH d (l.foldl (Y1 s) o)/\o.length<=(l.foldl (Y1 s) o).length
 | [],o,_,h=>⟨h,NO _⟩
 | x :: l,o,a,h=>by
  obtain⟨b,c⟩:=WU s (l:=l) (λy e=>a y (by simp[e])) (A6Y h s (a x (by simp)));refine⟨b,Rc ?_ c⟩;unfold Y1;split<;>simp
theorem ST (s:ByteArray) {i:Nat}:∀ {l:List AI} {o:List ByteArray},i<o.length->(l.foldl (Y1 s) o).getD i ByteArray.empty=o.getD i ByteArray.empty
 | [],_,_=>rfl
 | x :: l,o,h=>by
  have a:i<(Y1 s o x).length/\(Y1 s o x).getD i ByteArray.empty=o.getD i ByteArray.empty:=by
   unfold Y1;split
   ·refine⟨by rw[IF];omega,?_⟩;simp only[AS];rw[Rn h]
   ·exact⟨h,rfl⟩
  rw[ON,ST s a.1,a.2]
def cI:Aa:={ ins:=[FF,T9],pre:=λ(d,_,_)=>List.length d<=256,out:=λ(d,s,_)=>[.p Fy (Cm d s)] }
attribute [local go_sem] cI
theorem A2X:Ad Tryz.prog 200 cI:=by
 refine fK [0,1,4,5,6,7,8,9,13,19,25,47,59] Tryz.func200 Tryz.ntmps200 (AF MK (AF Gx (AF SP AH))) ?_;rintro w0 O0 ⟨d,s,u⟩ b-y;have y:d.length<=256:=y;simp only[cI,AM];repeat'(first|exact trivial|refine eS rfl ?_|refine rX b ?_ ?_|refine rC ?_ ?_<;>intro a<;>try(cases a;done))
 ·have h1:Cm d s=[]:=by unfold Cm;rw[BY a]
  exact fI b [.tmp 4] (by rw[h1];exact eR)
 ·have h1:Cm d s=J8 (Cl d d.length 0 [s]):=by unfold Cm;rw[An (AAh.2 a)]
  have F:cH d [s]:=⟨λx v=>by
   have:x=s:=by simpa using v
   rw[this];exact a,by simp⟩
  refine AK (ι:={x:Nat×List ByteArray//x.1<=x.2.length/\cH d x.2/\Cl d (d.length-x.1) x.1 x.2=Cl d d.length 0 [s]}) (λx=>⟨[(0,.p FF d),(5,.sr 15 T9 0 x.1.2.length),(6,.p (.int .i64) (x.1.1:Int))],[(15,.arr 9 T9 x.1.2)]⟩) (λx=>d.length-x.1.1) ⟨(0,[s]),by simp,F,rfl⟩ (eW [(15,.nm 15)]) (λx=>?_)
  ·obtain⟨⟨i,o⟩,hi,q,r⟩:=x;simp only at hi q r;have P:=q.len;simp only;repeat'(first|exact trivial|refine eS rfl ?_|refine rX b ?_ ?_|refine rC ?_ ?_<;>intro a<;>try(cases a;done))
   ·have z:i<o.length:=by exact eV
    have B:Cl d (d.length-(i+1)) (i+1) (d.foldl (Y1 (o.getD i ByteArray.empty)) o)=Cl d d.length 0 [s]:=by
     rw[<-r];obtain⟨m,A⟩:∃m,d.length-i=m+1:=⟨d.length-i-1,by omega⟩;have G:d.length-(i+1)=m:=by omega
     rw[A,G];show _=if i<o.length then Cl d m (i+1) (d.foldl (Y1 (o.getD i ByteArray.empty)) o) else o
     rw[BY z]
    refine AK (ι:={k:Nat//k<=d.length}) (λk=>⟨[(0,.p FF d),(5,.sr 15 T9 0 ((d.take k.1).foldl (Y1 (o.getD i ByteArray.empty)) o).length),(6,.p (.int .i64) (i:Int)),(7,.p (.int .i64) (k.1:Int))],[(15,.arr 9 T9 ((d.take k.1).foldl (Y1 (o.getD i ByteArray.empty)) o))]⟩) (λk=>d.length-k.1) ⟨0,IN _⟩ (AC [(15,.nm 15)] rfl rfl ?_ ?_) (λk=>?_)
    ·refine eM ?_;rfl
    ·refine eM ?_;rfl
    ·obtain⟨k,hk⟩:=k;have g:=WU (o.getD i ByteArray.empty) (l:=d.take k) (o:=o) (λx v=>gO v) q;have N:=g.1.len;have E:=λh:k<d.length=>E2 (Y1 (o.getD i ByteArray.empty)) d d0 o h;have D:((d.take k).foldl (Y1 (o.getD i ByteArray.empty)) o).getD i ByteArray.empty=o.getD i ByteArray.empty:=ST _ z;simp only;generalize C:(d.take k).foldl (Y1 (o.getD i ByteArray.empty)) o=f at *;repeat'(first|exact trivial|refine eS rfl ?_|refine AB ?_|refine rX b ?_ ?_|refine rC ?_ ?_<;>intro a<;>try(cases a;done))
     ·have M:=g.2;refine⟨a,?_,λ_=>a⟩;dsimp only[Ty.den]at *;omega
     ·refine⟨by assumption,?_⟩;simp only[AP];dsimp only[Ty.den]at *;omega
     ·exact eV
     ·have c:k<d.length:=by exact eV
      have e:=E c;rw[D]at a;have n:Y1 (o.getD i ByteArray.empty) f (d.getD k d0)=f++[(d.getD k d0).1]:=by
       unfold Y1;rw[BY (by rw[AT,RZ];exact a)]
      rw[n]at e;refine⟨⟨k+1,by omega⟩,by simp only;omega,AC [(15,.nm 15)] rfl rfl ?_ ?_⟩
      ·simp only[e];exact eN
      ·simp only[e];exact eN
     ·exact eV
     ·have c:k<d.length:=by exact eV
      have e:=E c;rw[D]at a;have n:Y1 (o.getD i ByteArray.empty) f (d.getD k d0)=f:=by
       unfold Y1;rw[An];rw[AT,RZ];rintro⟨h1,w⟩;rw[a h1]at w;cases w
      rw[n]at e;refine⟨⟨k+1,by omega⟩,by simp only;omega,AC [(15,.nm 15)] rfl rfl ?_ ?_⟩
      ·simp only[e];exact eN
      ·simp only[e];exact eN
     ·exact eV
     ·have c:d.take k=d:=As (by exact eV);rw[c]at C;rw[C]at B;have I:=g.1;have O:=g.2;exact⟨⟨(i+1,f),by simp only;omega,I,B⟩,by simp only;omega,eW [(15,.nm 15)]⟩
   ·have H:o=Cl d d.length 0 [s]:=by
     rw[<-r];cases A:d.length-i with
     | zero=>rfl
     | succ m =>
      show _=if i<o.length then _ else o
      rw[An (by exact eV)]
    rw[<-H]at h1;refine AK (ι:={j:Nat//j<=o.length}) (λj=>⟨[(0,.p FF d),(5,.sr 15 T9 0 o.length),(8,.p Fy ((o.take j.1).foldl ET [])),(9,.p (.int .i64) (j.1:Int))],[(15,.arr 9 T9 o)]⟩) (λj=>o.length-j.1) ⟨0,IN _⟩ (AC [(15,.nm 15)] rfl rfl ?_ ?_) (λj=>?_)
    ·exact eN
    ·refine eM ?_;rfl
    ·obtain⟨j,L⟩:=j;have J:=λh:j<o.length=>E2 ET o ByteArray.empty [] h;simp only;repeat'(first|exact trivial|refine eS rfl ?_|refine AB ?_|refine rX b ?_ ?_|refine rC ?_ ?_<;>intro a<;>try(cases a;done))
     ·refine⟨a,?_⟩;have:=ZE (o.take j);have K:=oN j o;unfold J8 at this;dsimp only[Ty.den]at *;omega
     ·exact eV
     ·have t:j<o.length:=by exact eV
      have e:=J t;refine⟨⟨j+1,by omega⟩,by simp only;omega,AC [(15,.nm 15)] rfl rfl ?_ ?_⟩
      ·exact eN
      ·simp only[e];exact eN
     ·have t:o.take j=o:=As (by exact eV);rw[t];exact fI b [.tmp 4] (by rw[h1];unfold J8;exact eR)
end
section
attribute [local go_sem] Oo b8 mV Je
def FT (d:List AI) (o:List ByteArray) (x:ByteArray):List ByteArray:=if 0<=Ap d x then ET o x else o
def Bc (d:List AI) (l:List ByteArray):List ByteArray:=l.foldl (FT d) []
theorem Jg (d:List AI) (l:List ByteArray):(Bc d l).length<=l.length:=by
 have key:∀(l o:List ByteArray),(l.foldl (FT d) o).length<=o.length+l.length:=by
  intro l;induction l with
  | nil=>intro o;simp
  | cons x l a =>
   intro o;have h1:=a (FT d o x);have b:(FT d o x).length<=o.length+1:=by
    unfold FT;split
    ·exact MN o x
    ·omega
   simp only[ON,OS];omega
 have:=key l [];simpa[Bc] using this
def SU:Aa:={ ins:=[FF,Fy],pre:=λ(_,l,_)=>List.length l<=100000,out:=λ(d,l,_)=>[.p Fy (Bc d l)] }
attribute [local go_sem] SU
theorem hZ:Ad Tryz.prog 221 SU:=by
 refine fK [0,1,4,5,6,10,19] Tryz.func221 Tryz.ntmps221 (AF MK (AF SP AH)) ?_;rintro w0 O0 ⟨d,l,u⟩ c-f;have f:l.length<=100000:=f;simp only[SU,AM];repeat'(first|exact trivial|refine eS rfl ?_|refine rX c ?_ ?_)
 refine AK (ι:={k:Nat//k<=l.length}) (λk=>⟨[(0,.p FF d),(1,.p Fy l),(5,.p Fy (Bc d (l.take k.1))),(6,.p (.int .i64) (k.1:Int))],[]⟩) (λk=>l.length-k.1) ⟨0,IN _⟩ (AC [] rfl rfl ?_ ?_) (λk=>?_)
 ·exact eN
 ·refine eM ?_;rfl
 ·obtain⟨k,hk⟩:=k;have hn:=Jg d (l.take k);have g:=oN k l;have hs:=λh:k<l.length=>E2 (FT d) l ByteArray.empty [] h;simp only;repeat'(first|exact trivial|refine eS rfl ?_|refine AB ?_|refine rX c ?_ ?_|refine rC ?_ ?_<;>intro b<;>try(cases b;done))
  ·exact b
  ·exact⟨by assumption,by omega⟩
  ·exact eV
  ·have a:k<l.length:=by exact eV
   have e:Bc d (l.take (k+1))=FT d (Bc d (l.take k)) (l.getD k ByteArray.empty):=hs a;unfold FT at e;rw[BY b]at e;refine⟨⟨k+1,by omega⟩,by simp only;omega,AC [] rfl rfl ?_ ?_⟩
   ·exact eN
   ·simp only[e];exact eN
  ·exact eV
  ·have a:k<l.length:=by exact eV
   have e:Bc d (l.take (k+1))=FT d (Bc d (l.take k)) (l.getD k ByteArray.empty):=hs a;unfold FT at e;rw[An (oS.2 b)]at e;refine⟨⟨k+1,by omega⟩,by simp only;omega,AC [] rfl rfl ?_ ?_⟩
   ·exact eN
   ·simp only[e];exact eN
  ·have a:l.take k=l:=As (by exact eV);rw[a];exact fI c [.tmp 4]
def wZ (d:List AI) (all:List ByteArray) (i:Nat) (k:Nat):Bool:=(k:Int)==(i:Int)||!AZ (Kx d (all.getD i ByteArray.empty)) (all.getD k ByteArray.empty)
def QT (d:List AI) (all:List ByteArray) (i n:Nat):Bool:=(List.range n).all (wZ d all i)
def QU (d:List AI) (all:List ByteArray) (n:Nat):List ByteArray:=((List.range n).filter λi=>QT d all i all.length).map λi=>all.getD i ByteArray.empty
def A3 (d:List AI) (l:List ByteArray):List ByteArray:=QU d (Bc d l) (Bc d l).length
theorem A06 (d:List AI) (all:List ByteArray) (n:Nat):QU d all (n+1)=QU d all n++if QT d all n all.length=true then [all.getD n ByteArray.empty] else []:=by
 unfold QU;rw[TD,AEp,iN]
 congr 1
 rw[f5,AEC];split<;>rfl
theorem iA (d:List AI) (all:List ByteArray) (n:Nat):(QU d all n).length<=n:=by
 unfold QU;rw[RU];exact Rc (aS _ _) (by simp)
theorem mW (d:List AI) (all:List ByteArray) (i n:Nat):QT d all i (n+1)=(QT d all i n&&wZ d all i n):=by
 unfold QT;rw[TD,AEE];simp
def MP:Aa:={ ins:=[FF,Fy],pre:=λ(d,l,_)=>QQ d/\List.length d<=256/\List.length l<=100000,out:=λ(d,l,_)=>[.p Fy (A3 d l)] }
attribute [local go_sem] MP
theorem WV:Ad Tryz.prog 206 MP:=by
 refine fK [0,1,4,5,6,7,8,9,10,17,29,47] Tryz.func206 Tryz.ntmps206 (AF hZ (AF A2W (AF Gx AH))) ?_;rintro w0 O0 ⟨d,l,u⟩ c-⟨n,f,g⟩;have f:d.length<=256:=f;have g:l.length<=100000:=g;have m:A3 d l=QU d (Bc d l) (Bc d l).length:=rfl;have o:=Jg d l;simp only[MP,AM];repeat'(first|exact trivial|refine eS rfl ?_|refine rX c ?_ ?_)
 ·exact g
 ·rw[m];generalize Bc d l=all at *;refine AK (ι:={i:Nat//i<=all.length}) (λi=>⟨[(0,.p FF d),(5,.sr 54 T9 0 (QU d all i.1).length),(6,.p Fy all),(7,.p (.int .i64) (i.1:Int))],[(54,.arr 9 T9 (QU d all i.1))]⟩) (λi=>all.length-i.1) ⟨0,IN _⟩ (AC [(54,.nil)] rfl rfl ?_ ?_) (λi=>?_)
  ·refine eM ?_;rfl
  ·refine eM ?_;rfl
  ·obtain⟨i,hi⟩:=i;have q:=iA d all i;have b:=A06 d all i;simp only;repeat'(first|exact trivial|refine eS rfl ?_|refine rX c ?_ ?_|refine rC ?_ ?_<;>intro a<;>try(cases a;done))
   ·exact⟨a,n,f⟩
   ·have h:i<all.length:=by exact eV
    refine AK (ι:={k:Nat//k<=all.length}) (λk=>⟨[(0,.p FF d),(5,.sr 54 T9 0 (QU d all i).length),(6,.p Fy all),(7,.p (.int .i64) (i:Int)),(8,.p Fy (Kx d (all.getD i ByteArray.empty))),(9,.p .bool (QT d all i k.1)),(10,.p (.int .i64) (k.1:Int))],[(54,.arr 9 T9 (QU d all i))]⟩) (λk=>all.length-k.1) ⟨0,IN _⟩ (AC [(54,.nm 54)] rfl rfl ?_ ?_) (λk=>?_)
    ·exact eN
    ·refine eM ?_;rfl
    ·obtain⟨k,hk⟩:=k;have j:=mW d all i k;simp only;repeat'(first|exact trivial|refine eS rfl ?_|refine AB ?_|refine rX c ?_ ?_|refine rC ?_ ?_<;>intro a<;>try(cases a;done))
     ·exact λ_=>a
     ·exact eV
     ·have e:k<all.length:=by exact eV
      refine⟨⟨k+1,by omega⟩,by simp only;omega,AC [(54,.nm 54)] rfl rfl ?_ ?_⟩
      ·exact eN
      ·simp only[j];unfold wZ;exact eN
     ·refine⟨by assumption,?_⟩;simp only[AP];omega
     ·exact eV
     ·have e:k=all.length:=by exact eV
      subst e;rw[a,BY rfl]at b;refine⟨⟨i+1,by omega⟩,by simp only;omega,AC [(54,.nm 54)] rfl rfl ?_ ?_⟩
      ·simp only[b];exact eN
      ·simp only[b];exact eN
     ·exact eV
     ·have e:k=all.length:=by exact eV
      subst e;rw[a,An (by simp),Rq]at b;refine⟨⟨i+1,by omega⟩,by simp only;omega,AC [(54,.nm 54)] rfl rfl ?_ ?_⟩
      ·simp only[b];exact eN
      ·simp only[b];exact eN
   ·have h:i=all.length:=by exact eV
    subst h;refine FQ [54] ?_;exact fI c [.tmp 4]
end
section
attribute [local go_sem] Ku
def ofA (b:List Int) (x:Int):List Int:=b.set (x.tdiv 64).toNat (B9 .or .u64 (b.getD (x.tdiv 64).toNat 0) (UR .u64 1 (x.tmod 64)))
def ofL (l:List Int):List Int:=l.foldl ofA (List.replicate 64 0)
def okB (x:Int):Bool:=!(decide (x<0)||decide (4095<x))
def ofF (l:List Int):List Int×Int:=if l.all okB=true then (BM (ofL l),0) else ([],2)
theorem QV (l:List Int):(ofL l).length=64:=by
 have key:∀(l b:List Int),(l.foldl ofA b).length=b.length:=by
  intro l;induction l with
  | nil=>intro b;rfl
  | cons x l a =>
   intro b;rw[ON,a];simp[ofA]
 unfold ofL;rw[key];simp
def ofS:Aa:={ ins:=[Fv],pre:=λ_=>True,out:=λ(l,_)=>[.p BT (ofF l).1,.p Lo (ofF l).2] }
theorem AD5:Ad Tryz.prog 202 ofS:=by
 refine fK [0,2,3,4,5,10,24] Tryz.func202 Tryz.ntmps202 (AF NL AH) ?_;rintro w0 O0 ⟨l,u⟩ c ⟨⟨g,-⟩,-⟩ -;simp only[AP]at g;simp only[ofS,AM];repeat'(first|exact trivial|refine eS rfl ?_|refine rX c ?_ ?_)
 ·simp only[AP];omega
 ·refine AK (ι:={k:Nat//k<=l.length/\(l.take k).all okB=true}) (λk=>⟨[(0,.p Fv l),(4,.sr 6 QN 0 (ofL (l.take k.1)).length),(5,.p (.int .i64) (k.1:Int))],[(6,.arr 186 QN (ofL (l.take k.1)))]⟩) (λk=>l.length-k.1) ⟨0,IN _,rfl⟩ (AC [(6,.nm 6)] rfl rfl ?_ ?_) (λk=>?_)
  ·refine eM ?_;rfl
  ·refine eM ?_;rfl
  ·obtain⟨k,hk,hf⟩:=k;have i:=QV (l.take k);have hs:∀h:k<l.length,ofL (l.take (k+1))=ofA (ofL (l.take k)) (l.getD k 0):=λh=>E2 ofA l 0 _ h;simp only;repeat'(first|exact trivial|refine eS rfl ?_|refine AB ?_|refine rX c ?_ ?_|refine rC ?_ ?_<;>intro a<;>try(cases a;done))
   ·exact⟨a,λ_=>a⟩
   ·have b:k<l.length:=by exact eV
    have h1:ofF l=([],2):=by
     unfold ofF;rw[An];intro h;have:=If.1 h _ (AE l 0 b);unfold okB at this;rw[RZ,iS,Of,Of]at this;rcases a with h|h
     ·exact this.1 h
     ·exact this.2 h
    exact fI c [.tmp 2,.tmp 3] (by rw[h1];exact eR)
   ·obtain⟨h0,h1⟩:=a;have d:Int.tdiv (l.getD k 0) 64=l.getD k 0 / 64:=oR h0;have f:Int.tmod (l.getD k 0) 64=l.getD k 0 % 64:=AEk h0;rw[d,f,i];refine⟨?_,⟨by decide,?_,?_⟩,?_,⟨by decide,?_,?_⟩,⟨?_,?_⟩,?_,⟨by decide,?_,?_⟩,⟨?_,?_⟩,?_,?_,?_⟩<;>exact eV
   ·exact eV
   ·have b:k<l.length:=by exact eV
    have e:=hs b;refine⟨⟨k+1,by omega,?_⟩,by simp only;omega,AC [(6,.nm 6)] rfl rfl ?_ ?_⟩
    ·rw[GZ l 0 _ b,hf,AFs];unfold okB;rw[RZ,iS,Of,Of];exact⟨AAh.2 a.1,AAh.2 a.2⟩
    ·simp only[e];refine eM ?_;rfl
    ·simp only[e];refine eM ?_;rw[<-e,QV,QV]
   ·have b:l.take k=l:=As (by exact eV);rw[b]at hf ⊢;have h1:ofF l=(BM (ofL l),0):=by unfold ofF;rw[BY hf]
    have j:=QV l;refine FQ [6] ?_;repeat'(first|refine eS rfl ?_|refine rX c ?_ ?_)
    ·rw[j];decide
    ·exact fI c [.tmp 2,.tmp 3] (by rw[h1];exact eR)
end
section
attribute [local go_sem] WR QO
def mX (l:List (List Int)) (b:List Int):Bool:=l.any λx=>HS x b
def A9s:Aa:={ ins:=[UZ,BT],pre:=λ_=>True,out:=λ(l,b,_)=>[.p .bool (mX l b)],lend:=true }
theorem A9t:Ad Tryz.prog 203 A9s:=by
 refine fK [0,1,4,5,9,17] Tryz.func203 Tryz.ntmps203 (AF wX AH) ?_;rintro w0 O0 ⟨l,n,u⟩ a ⟨⟨e,-⟩,-⟩ -;simp only[AP]at e;simp only[A9s,AM];repeat'(first|exact trivial|refine eS rfl ?_|refine rX a ?_ ?_)
 refine AK (ι:={k:Nat//k<=l.length/\(l.take k).any (λx=>HS x n)=false}) (λk=>⟨[(0,.p UZ l),(1,.p BT n),(5,.p (.int .i64) (k.1:Int))],[]⟩) (λk=>l.length-k.1) ⟨0,by simp⟩ (eW []) (λk=>?_)
 ·obtain⟨k,hk,c⟩:=k;repeat'(first|exact trivial|refine eS rfl ?_|refine AB ?_|refine rX a ?_ ?_|refine rC ?_ ?_<;>intro b<;>try(cases b;done))
  ·exact eV
  ·have d:k<l.length:=by exact eV
   have h1:mX l n=true:=I9 l [] _ d b;exact fI a [.tmp 4] (by rw[h1];exact eR)
  ·exact eV
  ·have d:k<l.length:=by exact eV
   refine⟨⟨k+1,by exact eV,?_⟩,by simp only;exact eV,AC [] rfl rfl ?_ ?_⟩
   ·rw[NK l [] _ d,c];exact b
   ·exact eN
   ·exact eN
  ·have hk:l.take k=l:=As (by exact eV);rw[hk]at c;have h1:mX l n=false:=c;exact fI a [.tmp 4] (by rw[h1];exact eR)
abbrev AR:=ByteArray×List Int
abbrev c0:AR:=(ByteArray.empty,[])
def LV (l:List AR) (i j:Int):Bool:=E1 (l.getD j.toNat c0).2 (l.getD i.toNat c0).2
def w3:Aa:={ ins:=[J6,T3,T3],pre:=λ(l,i,j,_)=>((0:Int)<=i/\i<(List.length l:Int))/\((0:Int)<=j/\j<(List.length l:Int))/\(∀x∈(l:List AR),x.2.length<=100000),out:=λ(l,i,j,_)=>[.p .bool (LV l i j)],lend:=true }
theorem w4:Ad Tryz.prog 166 w3:=by
 refine fK [0,1,2,6] Tryz.func166 Tryz.ntmps166 (AF SR AH) ?_;rintro w0 O0 ⟨l,i,j,u⟩ a-⟨hi,b,c⟩;simp only[w3,AM];repeat'(first|exact trivial|refine eS rfl ?_|refine rX a ?_ ?_)
 ·exact⟨b,hi,c _ (AE (l:List AR) c0 (by exact eV))⟩
 ·exact fI a [.tmp 6] (by unfold LV;exact eR)
end
section
attribute [local go_sem] WR
def MQ (s:ByteArray):Nat->List AR->Int
 | _,[]=>-1
 | k,x :: l=>if AY x.1 s=true then (k:Int) else MQ s (k+1) l
def BN (l:List AR) (s:ByteArray):Int:=MQ s 0 l
theorem ZG (s:ByteArray) (l:List AR) {k:Nat} (h:k<l.length):MQ s k (l.drop k)=if AY (l.getD k c0).1 s=true then (k:Int) else MQ s (k+1) (l.drop (k+1)):=by
 rw[On h];have e:l.getD k c0=l[k]:=by simp[AS,h]
 rw[e];rfl
def Uv:Aa:={ ins:=[J6,T9],pre:=λ_=>True,out:=λ(l,s,_)=>[.p T3 (BN l s)],lend:=true }
theorem ZH:Ad Tryz.prog 168 Uv:=by
 refine fK [0,1,4,5,9,18] Tryz.func168 Tryz.ntmps168 AH ?_;rintro w0 O0 ⟨l,s,u⟩ c ⟨⟨d,-⟩,-⟩ -;simp only[AP]at d;simp only[Uv,AM];repeat'(first|exact trivial|refine eS rfl ?_|refine rX c ?_ ?_)
 refine AK (ι:={k:Nat//k<=l.length/\MQ s k (l.drop k)=BN l s}) (λk=>⟨[(0,.p J6 l),(1,.p T9 s),(5,.p (.int .i64) (k.1:Int))],[]⟩) (λk=>l.length-k.1) ⟨0,IN _,rfl⟩ (eW []) (λk=>?_)
 ·obtain⟨k,hk,hf⟩:=k;simp only;repeat'(first|exact trivial|refine eS rfl ?_|refine AB ?_|refine rX c ?_ ?_|refine rC ?_ ?_<;>intro b<;>try(cases b;done))
  ·exact b
  ·have a:k<l.length:=by exact eV
   rw[ZG s l a,BY b]at hf;exact fI c [.tmp 4] (by rw[<-hf];exact eR)
  ·exact eV
  ·have a:k<l.length:=by exact eV
   rw[ZG s l a,An (by rw[b];simp)]at hf;exact⟨⟨k+1,by omega,hf⟩,by simp only;omega,eW []⟩
  ·have a:l.drop k=[]:=By (by exact eV);rw[a]at hf;exact fI c [.tmp 4] (by rw[<-hf];first|exact eR|refine WL ?_;rfl)
end
section
attribute [local go_sem] WR Ku
def QW (s:List Int):Nat->List AR->Int
 | _,[]=>-1
 | k,x :: l=>if HS x.2 s=true then (k:Int) else QW s (k+1) l
def HK (l:List AR) (b:List Int):Int:=QW (BM b) 0 l
theorem WW (s:List Int) (l:List AR) {k:Nat} (h:k<l.length):QW s k (l.drop k)=if HS (l.getD k c0).2 s=true then (k:Int) else QW s (k+1) (l.drop (k+1)):=by
 rw[On h];have e:l.getD k c0=l[k]:=by simp[AS,h]
 rw[e];rfl
def mY:Aa:={ ins:=[J6,BT],pre:=λ(_,b,_)=>List.length b<=100000,out:=λ(l,b,_)=>[.p T3 (HK l b)],lend:=true }
theorem A2Y:Ad Tryz.prog 159 mY:=by
 refine fK [0,1,4,5,6,12,21] Tryz.func159 Tryz.ntmps159 (AF NL (AF wX AH)) ?_;rintro w0 O0 ⟨l,b,u⟩ d ⟨⟨g,-⟩,-⟩ e;simp only[AP]at g;simp only[mY,AM];repeat'(first|exact trivial|refine eS rfl ?_|refine rX d ?_ ?_)
 ·exact e
 ·have f:HK l b=QW (BM b) 0 l:=rfl;rw[f];generalize BM b=s at *;refine AK (ι:={k:Nat//k<=l.length/\QW s k (l.drop k)=QW s 0 l}) (λk=>⟨[(0,.p J6 l),(5,.p BT s),(6,.p (.int .i64) (k.1:Int))],[]⟩) (λk=>l.length-k.1) ⟨0,IN _,rfl⟩ (eW []) (λk=>?_)
  ·obtain⟨k,hk,hf⟩:=k;simp only;repeat'(first|exact trivial|refine eS rfl ?_|refine AB ?_|refine rX d ?_ ?_|refine rC ?_ ?_<;>intro c<;>try(cases c;done))
   ·exact c
   ·have a:k<l.length:=by exact eV
    rw[WW s l a,BY c]at hf;exact fI d [.tmp 4] (by rw[<-hf];exact eR)
   ·exact eV
   ·have a:k<l.length:=by exact eV
    rw[WW s l a,An (by rw[c];simp)]at hf;exact⟨⟨k+1,by omega,hf⟩,by simp only;omega,eW []⟩
   ·have a:l.drop k=[]:=By (by exact eV);rw[a]at hf;exact fI d [.tmp 4] (by rw[<-hf];first|exact eR|refine WL ?_;rfl)
end
section
attribute [local go_sem] WR
def iB (s:ByteArray):List (ByteArray×ByteArray)->ByteArray×Bool
 | []=>(ByteArray.empty,false)
 | x :: l=>if AY x.1 s=true then (x.2,true) else iB s l
def DE (x:AI) (s:ByteArray):ByteArray×Bool:=iB s x.2.2
theorem ZI (s:ByteArray) (l:List (ByteArray×ByteArray)) {k:Nat} (h:k<l.length):iB s (l.drop k)=if AY (l.getD k (ByteArray.empty,ByteArray.empty)).1 s=true then ((l.getD k (ByteArray.empty,ByteArray.empty)).2,true) else iB s (l.drop (k+1)):=by
 rw[On h];have e:l.getD k (ByteArray.empty,ByteArray.empty)=l[k]:=by simp[AS,h]
 rw[e];rfl
def cJ:Aa:={ ins:=[z4,T9],pre:=λ_=>True,out:=λ(x,s,_)=>[.p T9 (DE x s).1,.p .bool (DE x s).2],lend:=true }
theorem iC:Ad Tryz.prog 195 cJ:=by
 refine fK [0,1,2,4,5,6,11,21] Tryz.func195 Tryz.ntmps195 AH ?_;rintro w0 O0 ⟨⟨nm,sup,a⟩,s,u⟩ d ⟨⟨-,-,f,-⟩,-⟩ -;simp only[AP]at f;simp only[cJ,AM];repeat'(first|exact trivial|refine eS rfl ?_|refine rX d ?_ ?_)
 have e:({ data:=#[] }:ByteArray).size<=AP:=by decide
 rw[BY e];refine AK (ι:={k:Nat//k<=a.length/\iB s (a.drop k)=DE (nm,sup,a) s}) (λk=>⟨[(1,.p T9 s),(2,.bp 2 [] 0),(6,.p (.int .i64) (k.1:Int))],[(2,.box 158 true [.p T9 nm,.p Fy sup,.p gP a])]⟩) (λk=>a.length-k.1) ⟨0,IN _,rfl⟩ (eW [(2,.nm 2)]) (λk=>?_)
 ·obtain⟨k,hk,hf⟩:=k;simp only;repeat'(first|exact trivial|refine eS rfl ?_|refine AB ?_|refine rX d ?_ ?_|refine rC ?_ ?_<;>intro c<;>try(cases c;done))
  ·exact c
  ·assumption
  ·have b:k<a.length:=by exact eV
   rw[ZI s a b,BY c]at hf;exact fI d [.tmp 4,.tmp 5] (by rw[<-hf];exact eR)
  ·exact eV
  ·have b:k<a.length:=by exact eV
   rw[ZI s a b,An (by rw[c];simp)]at hf;exact⟨⟨k+1,by omega,hf⟩,by simp only;omega,eW [(2,.nm 2)]⟩
  ·have b:a.drop k=[]:=By (by exact eV);rw[b]at hf;rw[BY e];exact fI d [.tmp 4,.tmp 5] (by rw[<-hf];first|exact eR|refine WL ?_;exact⟨rfl,rfl⟩)
end
section
attribute [local go_sem] mU
def F9 (a b:AR):Bool:=decide (((IA b.2).length:Int)<((IA a.2).length:Int))||((IA a.2).length:Int)==((IA b.2).length:Int)&&HQ a.1 b.1
def cK:Aa:={ ins:=[b7,b7],pre:=λ(a,b,_)=>List.length (a:AR).2<=100000/\List.length (b:AR).2<=100000,out:=λ(a,b,_)=>[.p .bool (F9 a b)],lend:=true }
theorem A08:Ad Tryz.prog 165 cK:=by
 refine fK [0,1,2,3,4,5,6] Tryz.func165 Tryz.ntmps165 (AF A2S AH) ?_;rintro w0 O0 ⟨⟨c,ac⟩,⟨e,d⟩,u⟩ a-⟨ha,b⟩;simp only[cK,AM];repeat'(first|exact trivial|refine eS rfl ?_|refine rX a ?_ ?_)
 ·exact ha
 ·exact b
 ·exact fI a [.tmp 4] (by unfold F9;exact eR)
end
section
attribute [local go_sem] cI Je ofS
def Ou (low all:List ByteArray) (n:Nat):List Int:=((List.range n).filter λ(i:Nat)=>AZ low (all.getD i ByteArray.empty)).map λ(i:Nat)=>(i:Int)
theorem A09 (low all:List ByteArray) (n:Nat):Ou low all (n+1)=Ou low all n++if AZ low (all.getD n ByteArray.empty)=true then [(n:Int)] else []:=by
 unfold Ou;rw[TD,AEp,iN]
 congr 1
 rw[f5,AEC];split<;>rfl
theorem A2Z (low all:List ByteArray) (n:Nat):(Ou low all n).length<=n:=by
 unfold Ou;rw[RU];exact Rc (aS _ _) (by simp)
def Er (d:List AI) (all:List ByteArray) (s:ByteArray):List Int:=(ofF (Ou (Cm d s) all all.length)).1
def A30:Aa:={ ins:=[FF,Fy,T9],pre:=λ(d,l,_,_)=>List.length d<=256/\List.length l<=100000,out:=λ(d,l,s,_)=>[.p BT (Er d l s)] }
theorem A70:Ad Tryz.prog 162 A30:=by
 refine fK [0,1,2,6,7,8,9,10,18,26] Tryz.func162 Tryz.ntmps162 (AF A2X (AF Gx (AF AD5 AH))) ?_;rintro w0 O0 ⟨d,l,s,u⟩ b-⟨g,e⟩;have e:l.length<=100000:=e;have f:Er d l s=(ofF (Ou (Cm d s) l l.length)).1:=rfl;simp only[A30,AM];repeat'(first|exact trivial|refine eS rfl ?_|refine rX b ?_ ?_)
 ·exact g
 ·rw[f];generalize Cm d s=low at *;refine AK (ι:={n:Nat//n<=l.length}) (λn=>⟨[(0,.p FF d),(1,.p Fy l),(2,.p T9 s),(7,.p Fy low),(8,.sr 30 T3 0 (Ou low l n.1).length),(9,.p (.int .i64) (n.1:Int))],[(30,.arr 3 T3 (Ou low l n.1))]⟩) (λn=>l.length-n.1) ⟨0,IN _⟩ (AC [(30,.nil)] rfl rfl ?_ ?_) (λn=>?_)
  ·refine eM ?_;rfl
  ·refine eM ?_;rfl
  ·obtain⟨n,hn⟩:=n;have h:=A2Z low l n;have hs:=A09 low l n;simp only;repeat'(first|exact trivial|refine eS rfl ?_|refine AB ?_|refine rX b ?_ ?_|refine rC ?_ ?_<;>intro a<;>try(cases a;done))
   ·exact a
   ·rw[a,BY rfl]at hs;simp only[AP];dsimp only[Ty.den]at *;omega
   ·exact eV
   ·have c:n<l.length:=by exact eV
    rw[a,BY rfl]at hs;refine⟨⟨n+1,by omega⟩,by simp only;omega,AC [(30,.nm 30)] rfl rfl ?_ ?_⟩
    ·simp only[hs];exact eN
    ·simp only[hs];exact eN
   ·exact eV
   ·have c:n<l.length:=by exact eV
    rw[a,An (by simp),Rq]at hs;refine⟨⟨n+1,by omega⟩,by simp only;omega,AC [(30,.nm 30)] rfl rfl ?_ ?_⟩
    ·simp only[hs];exact eN
    ·simp only[hs];exact eN
   ·have c:n=l.length:=by exact eV
    subst c;refine FQ [30] ?_;repeat'(first|exact trivial|refine eS rfl ?_|refine rX b ?_ ?_)
    exact fI b [.tmp 6]
end
section
attribute [local go_sem] b8
def QX (o:List ByteArray) (f:ByteArray×ByteArray):List ByteArray:=ET o f.1
def SV (o:List ByteArray) (x:AI):List ByteArray:=x.2.2.foldl QX o
def BO (d:List AI):List ByteArray:=d.foldl SV []
theorem ZJ (l:List (ByteArray×ByteArray)):∀o:List ByteArray,(l.foldl QX o).length<=o.length+l.length:=by
 induction l with
 | nil=>intro o;simp
 | cons x l a =>
  intro o;have h1:=a (QX o x);have b:(QX o x).length<=o.length+1:=MN o x.1;simp only[ON,OS];omega
theorem mZ {d:List AI} (h:∀x∈d,x.2.2.length<=256):∀(l:List AI),(∀x∈l,x∈d)->∀o:List ByteArray,(l.foldl SV o).length<=o.length+256*l.length:=by
 intro l;induction l with
 | nil=>intro _ o;simp
 | cons x l c =>
  intro a o;have h1:=c (λy b=>a y (by simp[b])) (SV o x);have e:=ZJ x.2.2 o;have f:=h x (a x (by simp));have g:(SV o x).length=(x.2.2.foldl QX o).length:=rfl;simp only[ON,OS];omega
def WX:Aa:={ ins:=[FF],pre:=λ(d,_)=>List.length d<=256/\(∀x∈(d:List AI),x.2.2.length<=256),out:=λ(d,_)=>[.p Fy (BO d)] }
theorem WY:Ad Tryz.prog 157 WX:=by
 refine fK [0,2,3,4,5,9,19] Tryz.func157 Tryz.ntmps157 (AF SP AH) ?_;rintro w0 O0 ⟨d,u⟩ c-⟨f,m⟩;have f:d.length<=256:=f;simp only[WX,AM];repeat'(first|exact trivial|refine eS rfl ?_|refine rX c ?_ ?_)
 refine AK (ι:={i:Nat//i<=d.length}) (λi=>⟨[(0,.p FF d),(3,.p Fy (BO (d.take i.1))),(4,.p (.int .i64) (i.1:Int))],[]⟩) (λi=>d.length-i.1) ⟨0,IN _⟩ (AC [] rfl rfl ?_ ?_) (λi=>?_)
 ·exact eN
 ·refine eM ?_;rfl
 ·obtain⟨i,hi⟩:=i;have l:=mZ m (d.take i) (λx h=>gO h) [];have t:=oN i d;have hs:=λh:i<d.length=>E2 SV d d0 [] h;have g:∀e,BO e=e.foldl SV []:=λ_=>rfl;simp only;repeat'(first|exact trivial|refine eS rfl ?_|refine rX c ?_ ?_|refine rC ?_ ?_<;>intro a<;>try(cases a;done))
  ·have j:i<d.length:=by exact eV
   have v:=m _ (AE d d0 j);have hs:=hs j;rw[<-g,<-g]at hs;rw[<-g]at l;generalize BO (d.take i)=o at *;refine AK (ι:={k:Nat//k<=(d.getD i d0).2.2.length}) (λk=>⟨[(0,.p FF d),(3,.p Fy (((d.getD i d0).2.2.take k.1).foldl QX o)),(4,.p (.int .i64) (i:Int)),(5,.p (.int .i64) (k.1:Int))],[]⟩) (λk=>(d.getD i d0).2.2.length-k.1) ⟨0,IN _⟩ (AC [] rfl rfl ?_ ?_) (λk=>?_)
   ·exact eN
   ·refine eM ?_;rfl
   ·obtain⟨k,hk⟩:=k;have r:k<=(d.getD i d0).2.2.length:=hk;have q:=ZJ ((d.getD i d0).2.2.take k) o;have s:=oN k (d.getD i d0).2.2;have n:=λh:k<(d.getD i d0).2.2.length=>E2 QX (d.getD i d0).2.2 (ByteArray.empty,ByteArray.empty) o h;simp only;repeat'(first|refine eS rfl ?_|refine AB ?_|refine rX c ?_ ?_|refine rC ?_ ?_<;>intro a<;>try(cases a;done))
    ·assumption
    ·refine⟨by assumption,a,?_⟩;simp only[ADk]at l;dsimp only[Ty.den]at *;omega
    ·have h1:(k:Int)<((d.getD i d0).2.2.length:Int):=a;exact eV
    ·have b:k<(d.getD i d0).2.2.length:=IS.1 a;have e:=n b;refine⟨⟨k+1,b⟩,by simp only;omega,AC [] rfl rfl ?_ ?_⟩
     ·exact eN
     ·simp only[e];unfold QX;exact eN
    ·have:=f;exact eV
    ·have b:(d.getD i d0).2.2.take k=(d.getD i d0).2.2:=As (RY.1 a);have e:BO (d.take (i+1))=((d.getD i d0).2.2.take k).foldl QX o:=by rw[b];exact hs
     refine⟨⟨i+1,j⟩,by simp only;omega,AC [] rfl rfl ?_ ?_⟩
     ·exact eN
     ·simp only[e];exact eN
  ·have b:d.take i=d:=As (by exact eV);rw[b];exact fI c [.tmp 2]
end
theorem ZK {d:List AI} {l:List ByteArray}:∀ {r:List ByteArray} {k:Nat},Ub d l k r=0->∀s∈r,0<=Ap d s
 | [],_,_,s,hs=>by cases hs
 | x :: r,k,h,s,hs=>by
  simp only[Ub]at h;split at h
  ·cases h
  ·rename_i h1;split at h
   ·cases h
   ·rcases DO.1 hs with rfl|hs
    ·omega
    ·exact ZK h s hs
theorem QY {d:List AI}:∀ {l:List AI},Kv d l=0->∀x∈l,∀s∈x.2.1,0<=Ap d s
 | [],_,x,a=>by cases a
 | y :: l,h,x,a=>by
  simp only[Kv]at h;split at h
  ·rename_i h1;exact absurd h h1
  ·rename_i h1;rcases DO.1 a with rfl|a
   ·exact ZK (Do h1)
   ·exact QY h x a
theorem A31 {d:List AI} (h:Kw d=0):QQ d:=QY h
theorem Ay {d:List AI} (h:A5 d=0):QQ d/\d.length<=256/\ID d=1/\Ck d=0/\d.length<=(Bj d).length:=by
 unfold A5 at h;split at h
 ·rename_i h1;exact absurd h h1
 ·rename_i h1;split at h
  ·rename_i a;exact absurd h a
  ·rename_i a;split at h
   ·rename_i b;exact absurd h b
   ·rename_i b;split at h
    ·cases h
    ·rename_i c;split at h
     ·cases h
     ·rename_i e;exact⟨A31 (Do b),Tq (Do h1),Do c,Do a,by omega⟩
section
attribute [local go_sem] A9s A2O
def Ga (l:List (List Int)) (i k:Nat):List (List Int) :=
 if (decide (0<((Ec (l.getD i []) (l.getD k [])).length:Int))&&!mX l (Ec (l.getD i []) (l.getD k [])))=true then l++[Ec (l.getD i []) (l.getD k [])] else l
def Gb (i:Nat):Nat->Nat->List (List Int)->List (List Int)
 | 0,_,l=>l
 | n+1,k,l=>if l.length<=256 then Gb i n (k+1) (Ga l i k) else l
def IG:Nat->Nat->List (List Int)->List (List Int)
 | 0,_,l=>l
 | n+1,i,l=>if i<l.length/\l.length<=256 then IG n (i+1) (Gb i i 0 l) else l
def Av (c:List (List Int)):List (List Int):=IG 257 0 c
theorem iD (a b:List Int):(Ec a b).length<=a.length:=by
 unfold Ec BM;have:=Eq .and a b a.length;rw[OR];omega
structure A8D (l:List (List Int)):Prop where
 len:l.length<=257
 wid:∀c∈l,c.length<=64
theorem MR {l:List (List Int)} (h:∀c∈l,c.length<=64) (k:Nat):(l.getD k []).length<=64:=by
 rw[AS];cases hh:l[k]? with
 | none=>simp
 | some x=>exact h x (iF hh)
theorem iE {l:List (List Int)} (h:∀c∈l,c.length<=64) (i k:Nat):∀c∈Ga l i k,c.length<=64:=by
 unfold Ga;split
 ·intro c a;rcases No.1 a with a|a
  ·exact h c a
  ·have:c=Ec (l.getD i []) (l.getD k []):=by simpa using a
   rw[this];exact Rc (iD _ _) (MR h i)
 ·exact h
theorem A32 (l:List (List Int)) (i k:Nat):l.length<=(Ga l i k).length/\(Ga l i k).length<=l.length+1:=by
 unfold Ga;split
 ·simp
 ·exact⟨NO _,Nat.le_succ _⟩
def cL:Aa:={ ins:=[UZ],pre:=λ(c,_)=>List.length c<=256/\∀x∈(c:List (List Int)),x.length<=64,out:=λ(c,_)=>[.p UZ (Av c)] }
theorem A0a:Ad Tryz.prog 163 cL:=by
 refine fK [0,2,3,4,5,6,18,28,48] Tryz.func163 Tryz.ntmps163 (AF A2P (AF A9t AH)) ?_;rintro w0 O0 ⟨c,u⟩ d-⟨n,t⟩;have n:c.length<=256:=n;simp only[cL,AM];repeat'(first|exact trivial|refine eS rfl ?_|refine rX d ?_ ?_)
 ·simp only[AP];dsimp only[Ty.den]at *;omega
 ·refine AK (ι:={x:Nat×List (List Int)//x.1<=256/\A8D x.2/\IG (257-x.1) x.1 x.2=Av c}) (λx=>⟨[(3,.sr 7 BT 0 x.1.2.length),(4,.p (.int .i64) (x.1.1:Int))],[(7,.arr 140 BT x.1.2)]⟩) (λx=>257-x.1.1) ⟨(0,c),by simp,⟨by simp only;omega,t⟩,rfl⟩ (eW [(7,.nm 7)]) (λx=>?_)
  ·obtain⟨⟨i,l⟩,hi,⟨q,s⟩,f⟩:=x;simp only at hi q s f;simp only;repeat'(first|exact trivial|refine eS rfl ?_|refine rX d ?_ ?_|refine rC ?_ ?_<;>intro a<;>try(cases a;done))
   ·have w:i<l.length:=by omega
    have z:l.length<=256:=by omega
    have o:IG (256-i) (i+1) (Gb i i 0 l)=Av c:=by
     have e:257-i=(256-i)+1:=by omega
     rw[<-f,e];show _=if i<l.length/\l.length<=256 then IG (256-i) (i+1) (Gb i i 0 l) else l
     rw[BY ⟨w,z⟩]
    refine AK (ι:={y:Nat×List (List Int)//y.1<=i/\A8D y.2/\l.length<=y.2.length/\Gb i (i-y.1) y.1 y.2=Gb i i 0 l}) (λy=>⟨[(3,.sr 7 BT 0 y.1.2.length),(4,.p (.int .i64) (i:Int)),(5,.p (.int .i64) (y.1.1:Int))],[(7,.arr 140 BT y.1.2)]⟩) (λy=>i-y.1.1) ⟨(0,l),by simp,⟨q,s⟩,NO _,rfl⟩ (eW [(7,.nm 7)]) (λy=>?_)
    ·obtain⟨⟨k,m⟩,hk,⟨g,b⟩,r,hf⟩:=y;simp only at hk g b r hf;simp only;repeat'(first|exact trivial|refine eS rfl ?_|refine AB ?_|refine rX d ?_ ?_|refine rC ?_ ?_<;>intro a<;>try(cases a;done))
     ·exact⟨by exact eV,by exact eV,Rc (MR b i) (by decide)⟩
     ·simp only[AP];omega
     ·omega
     ·have e:Ga m i k=m++[Ec (m.getD i []) (m.getD k [])]:=by
       unfold Ga;rw[BY];rw[AT,Ff,RZ];exact a
      have C:=iE b i k;have D:=A32 m i k;refine⟨⟨(k+1,Ga m i k),by simp only;omega,⟨by simp only;omega,C⟩,by simp only;omega,?_⟩,by simp only;omega,AC [(7,.nm 7)] rfl rfl ?_ ?_⟩
      ·simp only;rw[<-hf,show i-k=(i-(k+1))+1 by omega];show _=if m.length<=256 then Gb i (i-(k+1)) (k+1) (Ga m i k) else m
       rw[BY (by omega)]
      ·simp only[e];exact eN
      ·simp only[e];exact eN
     ·omega
     ·have e:Ga m i k=m:=by
       unfold Ga;rw[An];rw[AT,Ff,RZ];intro h;rw[a h.1]at h;exact absurd h.2 (by simp)
      refine⟨⟨(k+1,m),by simp only;omega,⟨g,b⟩,r,?_⟩,by simp only;omega,AC [(7,.nm 7)] rfl rfl ?_ ?_⟩
      ·simp only;rw[<-hf,show i-k=(i-(k+1))+1 by omega];show _=if m.length<=256 then Gb i (i-(k+1)) (k+1) (Ga m i k) else m
       rw[BY (by omega),e]
      ·exact eN
      ·exact eN
     ·omega
     ·have B:m=Gb i i 0 l:=by
       rw[<-hf];cases A:i-k with
       | zero=>rfl
       | succ j =>
        show _=if m.length<=256 then _ else m
        rw[An (by omega)]
      rw[<-B]at o;refine⟨⟨(i+1,m),by simp only;omega,⟨g,b⟩,?_⟩,by simp only;omega,AC [(7,.nm 7)] rfl rfl ?_ ?_⟩
      ·simp only;rw[show 257-(i+1)=256-i by omega];exact o
      ·exact eN
      ·exact eN
   ·have v:l=Av c:=by
     rw[<-f];cases A:257-i with
     | zero=>rfl
     | succ m =>
      show _=if i<l.length/\l.length<=256 then _ else l
      rw[An (by omega)]
    rw[<-v];refine FQ [7] ?_;exact fI d [.tmp 2]
theorem cs0 {α:Type} (x y:α):(if ({ data:=#[] }:ByteArray).size<=AP then x else y)=x:=BY (by show 0<=AP;decide)
theorem cs1 {α:Type} (a:UInt8) (x y:α):(if ({ data:=#[a] }:ByteArray).size<=AP then x else y)=x:=BY (by show 1<=AP;decide)
theorem cs2 {α:Type} (a b:UInt8) (x y:α):(if ({ data:=#[a,b] }:ByteArray).size<=AP then x else y)=x:=BY (by show 2<=AP;decide)
theorem cs3 {α:Type} (a b c:UInt8) (x y:α):(if ({ data:=#[a,b,c] }:ByteArray).size<=AP then x else y)=x:=BY (by show 3<=AP;decide)
theorem cs4 {α:Type} (a b c d:UInt8) (x y:α):(if ({ data:=#[a,b,c,d] }:ByteArray).size<=AP then x else y)=x:=BY (by show 4<=AP;decide)
theorem cs5 {α:Type} (a b c d e:UInt8) (x y:α):(if ({ data:=#[a,b,c,d,e] }:ByteArray).size<=AP then x else y)=x:=BY (by show 5<=AP;decide)
theorem cs6 {α:Type} (a b c d e f:UInt8) (x y:α):(if ({ data:=#[a,b,c,d,e,f] }:ByteArray).size<=AP then x else y)=x:=BY (by show 6<=AP;decide)
theorem cs7 {α:Type} (a b c d e f g:UInt8) (x y:α):(if ({ data:=#[a,b,c,d,e,f,g] }:ByteArray).size<=AP then x else y)=x:=BY (by show 7<=AP;decide)
theorem cs8 {α:Type} (a b c d e f g h:UInt8) (x y:α):(if ({ data:=#[a,b,c,d,e,f,g,h] }:ByteArray).size<=AP then x else y)=x:=BY (by show 8<=AP;decide)
end
def BF (b:List Int) (i:Nat):Bool:=(b.getD (i / 64) 0).toNat.testBit (i % 64)
def U64 (x:Int):Prop:=0<=x/\x<18446744073709551616
theorem Fm {x:Int} (h:U64 x):(BitVec.ofInt 64 x).toNat=x.toNat:=by
 rw[BitVec.toNat_ofInt];have h1:=h.1;have a:=h.2;rw[Int.emod_eq_of_lt h1 (by simpa using a)]
theorem QZ {n:Nat} (h:n<18446744073709551616):IntKind.u64.wrap (n:Int)=n:=Ki (by rw[Ix];omega)
theorem A71 {x y:Int} (a:U64 x) (b:U64 y):B9 .or .u64 x y=((x.toNat ||| y.toNat:Nat):Int):=by
 have h1:(BitVec.ofInt IntKind.u64.bits x ||| BitVec.ofInt IntKind.u64.bits y).toNat=x.toNat ||| y.toNat:=by
  rw[BitVec.toNat_or];show (BitVec.ofInt 64 x).toNat ||| (BitVec.ofInt 64 y).toNat=_
  rw[Fm a,Fm b]
 unfold B9;simp only;rw[h1];have e:(18446744073709551616:Nat)=2 ^ 64:=by decide
 refine QZ ?_;rw[e];refine Nat.or_lt_two_pow ?_ ?_
 ·have:=a.2;have:=a.1;omega
 ·have:=b.2;have:=b.1;omega
theorem II {x y:Int} (a:U64 x) (b:U64 y):B9 .and .u64 x y=((x.toNat &&& y.toNat:Nat):Int):=by
 have h1:(BitVec.ofInt IntKind.u64.bits x &&& BitVec.ofInt IntKind.u64.bits y).toNat=x.toNat &&& y.toNat:=by
  rw[BitVec.toNat_and];show (BitVec.ofInt 64 x).toNat &&& (BitVec.ofInt 64 y).toNat=_;rw[Fm a,Fm b]
 unfold B9;simp only;rw[h1];refine QZ (AFb AF8 ?_);have:=a.2;have:=a.1;omega
theorem SW {x y:Int}:B9 .andNot .u64 x y=((BitVec.ofInt 64 x &&& ~~~BitVec.ofInt 64 y).toNat:Int):=by
 show IntKind.u64.wrap ((BitVec.ofInt 64 x &&& ~~~BitVec.ofInt 64 y).toNat:Int)=_;exact QZ (BitVec.isLt _)
theorem Tr {x y:Int} (d:U64 x) (e:U64 y) (h:B9 .andNot .u64 x y=0) {r:Nat} (c:r<64) (b:x.toNat.testBit r=true):y.toNat.testBit r=true:=by
 rw[SW]at h;have h1:(BitVec.ofInt 64 x &&& ~~~BitVec.ofInt 64 y).toNat=0:=by omega
 have a:(BitVec.ofInt 64 x &&& ~~~BitVec.ofInt 64 y).toNat.testBit r=false:=by rw[h1];exact Nat.zero_testBit r
 rw[AEt,BitVec.getLsbD_and,BitVec.getLsbD_not,<-AEt,<-AEt,Fm d,Fm e,b]at a;simpa[c] using a
theorem Ts {x:Int}:B9 .andNot .u64 x x=0:=by
 rw[SW];simp
theorem Ov {b:List Int}:∀ {n:Nat},∀k,Ci b n<=k->k<n->b.getD k 0=0
 | 0,k,_,h=>by omega
 | n+1,k,h1,c=>by
  unfold Ci at h1;split at h1
  ·rename_i a;by_cases hk:k=n
   ·rw[hk];exact a
   ·exact Ov k h1 (by omega)
  ·omega
theorem Qa (b:List Int) (k:Nat):(BM b).getD k 0=b.getD k 0:=by
 unfold BM;by_cases h:k<Ci b b.length
 ·simp[AS,Rs,h]
 ·have h1:(List.take (Ci b b.length) b).getD k 0=0:=by
   rw[AS,Rs,An h];rfl
  rw[h1];by_cases a:k<b.length
  ·exact(Ov k (by omega) a).symm
  ·rw[AS,Rj (by omega)];rfl
theorem Ow (b:List Int) (i:Nat):BF (BM b) i=BF b i:=by unfold BF;rw[Qa]
def IJ (b:List Int):Prop:=∀x∈b,U64 x
theorem BK {b:List Int} (h:IJ b) (k:Nat):U64 (b.getD k 0):=by
 rw[AS];cases hh:b[k]? with
 | none=>exact⟨by simp,by simp⟩
 | some x=>exact h x (iF hh)
theorem Ox {b:List Int} (h:IJ b):IJ (BM b):=λx a=>h x (gO a)
theorem Hj (b:List Int) (k:Nat):GL b (k:Int)=b.getD k 0:=by
 unfold GL;split
 ·simp
 ·rename_i h;rw[AS,Rj (by omega)];rfl
theorem NM (op:BinOp) (a b:List Int) {n k:Nat} (h:k<n):(GY op a b n).getD k 0=B9 op .u64 (a.getD k 0) (b.getD k 0):=by
 unfold GY;rw[AS,aT,ADS h];show B9 op .u64 (a.getD k 0) (GL b (k:Int))=_;rw[Hj]
theorem cM {a b:List Int} (h:E1 a b=true) {k:Nat} (hk:k<a.length):B9 .andNot .u64 (a.getD k 0) (b.getD k 0)=0:=by
 unfold E1 SQ BM at h;have h1:(List.take (Ci (GY .andNot a b a.length) (GY .andNot a b a.length).length) (GY .andNot a b a.length)).length=0:=by
  have:=TC.1 h;omega
 rw[OR,Eq]at h1;have d:=WQ (GY .andNot a b a.length) a.length;have c:=Ov (b:=GY .andNot a b a.length) (n:=a.length) k (by omega) hk;rw[NM _ _ _ hk]at c;exact c
theorem MS {a b:List Int} (ha:IJ a) (c:IJ b) (h:E1 a b=true) {i:Nat} (hi:BF a i=true):BF b i=true:=by
 by_cases hk:i / 64<a.length
 ·exact Tr (BK ha _) (BK c _) (cM h hk) (AFD _ (by decide)) hi
 ·exfalso;unfold BF at hi;rw[AS,Rj (by omega)]at hi;simp at hi
theorem SX {b:List Int}:∀ {n:Nat},(∀k,k<n->b.getD k 0=0)->Ci b n=0
 | 0,_=>rfl
 | n+1,h=>by
  unfold Ci;rw[BY (h n (by omega))];exact SX λk hk=>h k (by omega)
theorem iG (a:List Int):E1 a a=true:=by
 unfold E1 SQ BM;have h1:Ci (GY .andNot a a a.length) (GY .andNot a a a.length).length=0:=by
  rw[Eq];exact SX λk hk=>by rw[NM _ _ _ hk];exact Ts
 rw[h1];rfl
theorem iH (a:List Int):DP a a=true:=by unfold DP;rw[iG];rfl
theorem A72 {b:List Int} (j:IJ b) (l:b.length=64) {x:Int} (h0:0<=x) (h1:x<=4095) (i:Nat):BF (ofA b x) i=(BF b i||decide (x=(i:Int))):=by
 have d:Int.tdiv x 64=x / 64:=oR h0;have e:Int.tmod x 64=x % 64:=AEk h0;obtain⟨n,rfl⟩:∃n:Nat,x=(n:Int):=⟨x.toNat,by omega⟩;have hs:UR .u64 1 ((n:Int) % 64)=((2 ^ (n % 64):Nat):Int):=by
  unfold UR;have f:min ((n:Int) % 64).toNat IntKind.u64.bits=n % 64:=by
   have:((n:Int) % 64).toNat=n % 64:=by omega
   rw[this];have:IntKind.u64.bits=64:=rfl;omega
  rw[f,Int.one_mul];have:(2:Int) ^ (n % 64)=((2 ^ (n % 64):Nat):Int):=by simp
  rw[this];refine QZ ?_;have a:(2:Nat) ^ (n % 64)<2 ^ 64:=Nat.pow_lt_pow_right (by decide) (AFD _ (by decide));exact a
 have hu:U64 (UR .u64 1 ((n:Int) % 64)):=by
  rw[hs];have a:(2:Nat) ^ (n % 64)<2 ^ 64:=Nat.pow_lt_pow_right (by decide) (AFD _ (by decide));have g:(2:Nat) ^ 64=18446744073709551616:=by decide
  refine⟨bY _,?_⟩;rw[g]at a;exact IS.2 a
 have hn:((n:Int) / 64).toNat=n / 64:=by omega
 unfold ofA BF;rw[d,e,hn];by_cases c:i / 64=n / 64
 ·have k:n / 64<b.length:=by omega
  rw[c];have:(b.set (n / 64) (B9 .or .u64 (b.getD (n / 64) 0) (UR .u64 1 ((n:Int) % 64)))).getD (n / 64) 0=B9 .or .u64 (b.getD (n / 64) 0) (UR .u64 1 ((n:Int) % 64)):=by
   simp[AS,k]
  rw[this,A71 (BK j _) hu,hs];simp only[Rb,Nat.testBit_or,Nat.testBit_two_pow]
  congr 1
  rw[decide_eq_decide];omega
 ·have:(b.set (n / 64) (B9 .or .u64 (b.getD (n / 64) 0) (UR .u64 1 ((n:Int) % 64)))).getD (i / 64) 0=b.getD (i / 64) 0:=by
   simp[AS,ADA,Ne.symm c]
  rw[this];have:decide ((n:Int)=(i:Int))=false:=by
   rw[Of];intro h;exact c (by omega)
  rw[this,Bool.or_false]
theorem A73 {b:List Int} (c:IJ b) (x:Int):IJ (ofA b x):=by
 intro y a;unfold ofA at a;rcases AE4 a with h|h
 ·exact c y h
 ·rw[h];have:=M0 .u64 ((BitVec.ofInt IntKind.u64.bits (b.getD (x.tdiv 64).toNat 0) ||| BitVec.ofInt IntKind.u64.bits (UR .u64 1 (x.tmod 64))).toNat:Int);rw[Ix]at this;exact⟨this.1,by have:=this.2;show _<_;exact AFk this (by decide)⟩
theorem A74 {l:List Int} (h:l.all okB=true) (i:Nat):BF (ofL l) i=decide ((i:Int)∈l)/\IJ (ofL l):=by
 have key:∀(l b:List Int),l.all okB=true->IJ b->b.length=64->BF (l.foldl ofA b) i=(BF b i||decide ((i:Int)∈l))/\IJ (l.foldl ofA b):=by
  intro l;induction l with
  | nil=>intro b _ a _;simp[a]
  | cons x l m =>
   intro b c a d;rw[AE5,AT]at c;have e:=c.1;unfold okB at e;rw[RZ,iS,Of,Of]at e;obtain⟨f,g⟩:=m (ofA b x) c.2 (A73 a x) (by simp[ofA,d]);rw[ON];refine⟨?_,g⟩;rw[f,A72 a d (by omega) (by omega),Bool.or_assoc]
   congr 1
   rw[<-Bool.decide_or,decide_eq_decide,DO,eq_comm]
 have j:IJ (List.replicate 64 (0:Int)):=by
  intro y k;rw[(AFg.1 k).2];exact⟨by decide,by decide⟩
 have h1:=key l (List.replicate 64 0) h j (by simp);refine⟨?_,h1.2⟩;unfold ofL;rw[h1.1];have:BF (List.replicate 64 (0:Int)) i=false:=by
  unfold BF;have:(List.replicate 64 (0:Int)).getD (i / 64) 0=0:=by
   rw[AS,AEc];split<;>rfl
  rw[this];simp
 rw[this,AFt]
theorem A34 {low all:List ByteArray} {n i:Nat}:((i:Int)∈Ou low all n)↔i<n/\AZ low (all.getD i ByteArray.empty)=true:=by
 unfold Ou;rw[GO];constructor
 ·rintro⟨j,a,e⟩;have:j=i:=by omega
  subst this;rw[ADj,Ri]at a;exact a
 ·rintro⟨h1,b⟩;exact⟨i,by rw[ADj,Ri];exact⟨h1,b⟩,rfl⟩
theorem A75 {low all:List ByteArray} {n:Nat} (hn:n<=4096):(Ou low all n).all okB=true:=by
 rw[If];intro x a;unfold Ou at a;obtain⟨j,b,rfl⟩:=GO.1 a;rw[ADj,Ri]at b;unfold okB;rw[RZ,iS,Of,Of];exact⟨by omega,by omega⟩
theorem B5 {d:List AI} {all:List ByteArray} (c:all.length<=4096) (s:ByteArray) (i:Nat):(BF (Er d all s) i=true↔i<all.length/\AZ (Cm d s) (all.getD i ByteArray.empty)=true)/\IJ (Er d all s)/\(Er d all s).length<=64:=by
 have h1:=A75 (low:=Cm d s) (all:=all) c;have b:=A74 h1 i;have a:Er d all s=BM (ofL (Ou (Cm d s) all all.length)):=by
  unfold Er ofF;rw[BY h1]
 refine⟨?_,?_,?_⟩
 ·rw[a,Ow,b.1,Ff,A34]
 ·rw[a];exact Ox b.2
 ·rw[a];unfold BM;have:=QV (Ou (Cm d s) all all.length);rw[OR];omega
theorem JC (d:List AI) {s t:ByteArray} (h:AY s t=true):Ap d s=Ap d t:=by
 have key:∀(l:List AI) (k:Nat),Cs s k l=Cs t k l:=by
  intro l;induction l with
  | nil=>intro k;rfl
  | cons x l a =>
   intro k;simp only[Cs];have:AY x.1 s=AY x.1 t:=by grind [AY,BX,D5]
   rw[this,a]
 exact key d 0
theorem BE {α:Type} {l:List α} {d:α} {k:Nat} (h:k<l.length):l.getD k d∈l:=by grind
theorem CG {α:Type} {l:List α} (d:α) {x:α} (h:x∈l):∃k,k<l.length/\l.getD k d=x:=by
 obtain⟨k,hk,e⟩:=AAe.1 h;exact⟨k,hk,by rw[AS,At hk];exact e⟩
theorem JD {d:List AI}:∀ {r:List AI} {k:Nat},Oq d k r=0->∀j,j<r.length->¬Ap d (r.getD j d0).1<((k+j:Nat):Int)/\Ep (r.getD j d0).1 false=true
 | [],_,_,j,a=>by simp at a
 | x :: r,k,h,j,a=>by
  simp only[Oq]at h;split at h
  ·cases h
  ·rename_i h1;split at h
   ·cases h
   ·rename_i b;cases j with
    | zero=>exact⟨b,by simpa using h1⟩
    | succ j =>
     have:=JD h j (by simpa using a);have e:k+(j+1)=k+1+j:=by omega
     rw[e];exact this
theorem Qb (s:ByteArray):∀(l:List AI) (k j:Nat),j<l.length->AY (l.getD j d0).1 s=true->Cs s k l<=((k+j:Nat):Int)
 | [],_,j,h,_=>by simp at h
 | x :: l,k,j,h,e=>by
  simp only[Cs];split
  ·omega
  ·rename_i h1;cases j with
   | zero=>exact absurd e h1
   | succ j =>
    have:=Qb s l (k+1) j (by simpa using h) e;omega
theorem MT {d:List AI} (h:Ck d=0) {j:Nat} (b:j<d.length):Ap d (d.getD j d0).1=(j:Int):=by
 have h1:=(JD h j b).1;have a:=Qb (d.getD j d0).1 d 0 j b (Ct _);rw[ADG]at h1 a;have a:Ap d (d.getD j d0).1<=(j:Int):=a;omega
theorem Qc {d:List AI} (h:Ck d=0) {x y:AI} (a:x∈d) (b:y∈d) (e:AY x.1 y.1=true):x=y:=by
 obtain⟨i,hi,rfl⟩:=CG d0 a;obtain⟨j,c,rfl⟩:=CG d0 b;grind [MT,JC]
theorem m5 (d:List AI) (out:List ByteArray) (h:(IB d out).1=true):∃x∈d,x.1=(IB d out).2/\AZ out x.1=false/\Jf x out=true:=by
 have key:∀(l:List AI) (s:Bool×ByteArray),(∀x∈l,x∈d)->(s.1=true->∃x∈d,x.1=s.2/\AZ out x.1=false/\Jf x out=true)->(l.foldl (JA out) s).1=true ->
   ∃x∈d,x.1=(l.foldl (JA out) s).2/\AZ out x.1=false/\Jf x out=true:=by
  intro l;induction l with
  | nil=>intro s _ hs h;exact hs h
  | cons y l c =>
   intro s a hs h;rw[ON]at h ⊢;refine c _ (λx b=>a x (by simp[b])) (λhp=>?_) h;unfold JA at hp ⊢;split
   ·grind
   ·grind
 exact key d _ (λ_ h=>h) (λh=>by cases h) h
def PL (d:List AI) (o:List ByteArray):Prop:=∀j,j<o.length->∃x∈d,x.1=o.getD j ByteArray.empty/\AZ (o.take j) x.1=false/\Jf x (o.take j)=true
theorem PL.snoc {d:List AI} {o:List ByteArray} (h:PL d o) {x:AI} (i:x∈d) (h1:AZ o x.1=false) (f:Jf x o=true):PL d (o++[x.1]):=by
 intro j g;by_cases a:j<o.length
 ·obtain⟨y,k,b,c,e⟩:=h j a;grind
 ·grind
theorem WZ {d:List AI}:∀ {n:Nat} {o:List ByteArray},PL d o->PL d (JB d n o)
 | 0,_,h=>h
 | n+1,o,h=>by
  unfold JB;split
  ·rename_i hp;obtain⟨x,b,e,h1,a⟩:=m5 d o hp;rw[<-e];exact WZ (h.snoc b h1 a)
  ·exact h
theorem ZL (d:List AI):PL d (Bj d):=WZ λj a=>by simp at a
theorem PL.ok {d:List AI} {o:List ByteArray} (h:PL d o):cH d o:=by
 refine⟨λs hs=>?_,?_⟩
 ·obtain⟨j,a,rfl⟩:=CG ByteArray.empty hs;obtain⟨x,b,e,-⟩:=h j a;rw[<-e];exact DX b
 ·rw[Rh];intro i j hi a f;obtain⟨x,b,e,h1,-⟩:=h j a;have c:=QR h1 o[i] (by rw[AEr];exact⟨i,by omega,rfl⟩);grind
theorem m6 {n:Nat} {l:List Nat} (h:l.Nodup) (c:∀j∈l,j<n) (hn:n<=l.length) {k:Nat} (hk:k<n):k∈l:=by
 refine Do λb=>?_;have:=EJ n (k :: l) (TO.2 ⟨b,h⟩) (λj a=>by
  rcases DO.1 a with rfl|a
  ·exact hk
  ·exact c j a)
 simp at this;omega
theorem m7 {d:List AI} (f:d.length<=(Bj d).length) {x:AI} (h:x∈d):∃s∈Bj d,AY s x.1=true:=by
 have a:=(ZL d).ok;have h1:=Ky d a;have h0:=DX h;have l:=DQ d x.1;have b:=m6 (n:=d.length) h1 (λj c=>by
  obtain⟨s,hs,rfl⟩:=GO.1 c;have h1:=a.decl s hs;rcases DQ d s with g|⟨_,g,_⟩<;>omega) (by simpa using f) (k:=(Ap d x.1).toNat) (by omega)
 obtain⟨s,hs,e⟩:=GO.1 b;refine⟨s,hs,?_⟩;rcases DQ d s with g|⟨_,_,i⟩
 ·have:=a.decl s hs;omega
 ·grind [BX,D5]
def GM (d:List AI) (s:ByteArray):Nat:=(Bj d).findIdx λx=>AY x s
theorem IK (d:List AI) {s t:ByteArray} (h:AY s t=true):GM d s=GM d t:=by grind [GM,AY,BX,D5]
theorem Kz {d:List AI} (hn:Ck d=0) (o:d.length<=(Bj d).length) {x:AI} (g:x∈d) {s:ByteArray} (hs:AZ x.2.1 s=true):GM d s<GM d x.1:=by
 obtain⟨t,q,e⟩:=m7 o g;have c:GM d x.1<(Bj d).length:=List.findIdx_lt_length_of_exists ⟨t,q,e⟩;have heq:AY ((Bj d)[GM d x.1]) x.1=true:=List.findIdx_getElem (w:=c);obtain⟨y,r,a,-,j⟩:=ZL d (GM d x.1) c;rw[AS,At c]at a;have a:y.1=(Bj d)[GM d x.1]:=a;rw[<-a]at heq;have z:=Qc hn r g heq;subst z;obtain⟨u,hu,h⟩:=Rd.1 hs;have k:AZ ((Bj d).take (GM d y.1)) u=true:=If.1 j u hu;obtain⟨v,f,ev⟩:=Rd.1 k;rw[AEr]at f;obtain⟨i,hi,rfl⟩:=f;have n:i<GM d y.1:=by omega
 refine AFb ?_ n;refine Do λm=>?_;have b:=List.not_of_lt_findIdx (p:=λx=>AY x s) (xs:=Bj d) (i:=i) (by unfold GM at m;omega);have l:AY ((Bj d)[i]) s=true:=BX ev h;try simp only at b
 rw[l]at b;exact absurd b (by simp)
def YW (d:List AI) (s x:ByteArray):Prop:=AY s x=true\/GM d s<GM d x
theorem A0b {d:List AI} (hn:Ck d=0) (f:d.length<=(Bj d).length) {s c:ByteArray} (b:YW d s c) {o:List ByteArray} (e:∀x∈o,YW d s x) {x:AI} (g:x∈d):∀y∈Y1 c o x,YW d s y:=by
 intro y a;unfold Y1 at a;split at a
 ·rename_i h;rw[AT]at h;rcases No.1 a with a|a
  ·exact e y a
  ·have:y=x.1:=by simpa using a
   subst this;have h1:=Kz hn f g h.1;right;rcases b with b|b
   ·rw[IK d b];exact h1
   ·omega
 ·exact e y a
theorem Wa {d:List AI} (hn:Ck d=0) (e:d.length<=(Bj d).length) {s c:ByteArray} (b:YW d s c):∀ {l:List AI} {o:List ByteArray},(∀x∈l,x∈d)->(∀x∈o,YW d s x)->∀y∈l.foldl (Y1 c) o,YW d s y
 | [],_,_,a=>a
 | x :: l,o,f,a=>by
  rw[ON];exact Wa hn e b (λy g=>f y (by simp[g])) (A0b hn e b a (f x (by simp)))
theorem Tt {d:List AI} (hn:Ck d=0) (b:d.length<=(Bj d).length) {s:ByteArray}:∀ {n i:Nat} {o:List ByteArray},(∀x∈o,YW d s x)->∀y∈Cl d n i o,YW d s y
 | 0,_,_,a=>a
 | n+1,i,o,a=>by
  unfold Cl;split
  ·rename_i hi;exact Tt hn b (Wa hn b (a _ (BE hi)) (λ_ h=>h) a)
  ·exact a
theorem A35 {c:ByteArray} {o:List ByteArray} {x:AI} {y:ByteArray} (h:y∈o):y∈Y1 c o x:=by grind [Y1]
theorem NN {c:ByteArray} {y:ByteArray}:∀ {l:List AI} {o:List ByteArray},y∈o->y∈l.foldl (Y1 c) o
 | [],_,h=>h
 | x :: l,o,h=>by rw[ON];exact NN (A35 h)
theorem K0 {d:List AI} {y:ByteArray}:∀ {n i:Nat} {o:List ByteArray},y∈o->y∈Cl d n i o
 | 0,_,_,h=>h
 | n+1,i,o,h=>by
  unfold Cl;split
  ·exact K0 (NN h)
  ·exact h
theorem Gy {l:List ByteArray} {s x:ByteArray} (h:x∈ET l s):x∈l\/x=s:=by grind [ET]
theorem NP {l:List ByteArray} {s x:ByteArray} (h:x∈l):x∈ET l s:=by
 unfold ET;split
 ·exact h
 ·have a:x∈l.take (atF l s)\/x∈l.drop (atF l s):=No.1 (by rw[AE6];exact h);grind
theorem Qd {l:List ByteArray} {s:ByteArray}:AZ (ET l s) s=true:=by
 unfold ET;grind [I9,atF,AY,AZ,Ct]
theorem Fq {l:List ByteArray} {s:ByteArray} (h:s∈l):AZ l s=true:=Rd.2 ⟨s,h,Ct s⟩
theorem J9 {l m:List ByteArray} {s:ByteArray} (hs:∀x∈l,x∈m) (h:AZ l s=true):AZ m s=true:=by
 obtain⟨x,a,e⟩:=Rd.1 h;exact Rd.2 ⟨x,hs x a,e⟩
theorem Wb:∀ {l o:List ByteArray} {x:ByteArray},x∈l.foldl ET o->x∈o\/x∈l
 | [],_,_,h=>.inl h
 | y :: l,o,x,h=>by
  rw[ON]at h;rcases Wb h with h|h
  ·grind [Gy]
  ·grind
theorem ZM:∀ {l o:List ByteArray} {x:ByteArray},x∈o->x∈l.foldl ET o
 | [],_,_,h=>h
 | y :: l,o,x,h=>by rw[ON];exact ZM (NP h)
theorem Qf:∀ {l o:List ByteArray} {x:ByteArray},x∈l->AZ (l.foldl ET o) x=true
 | [],_,_,h=>by cases h
 | y :: l,o,x,h=>by
  rw[ON];rcases DO.1 h with rfl|h
  ·grind [J9,ZM,Qd]
  ·exact Qf h
theorem Oy {d:List AI} {s:ByteArray} (h:0<=Ap d s):AZ (Cm d s) s=true:=by
 unfold Cm;rw[An (by omega)];exact Qf (K0 (by simp))
theorem Wc {d:List AI} (hn:Ck d=0) (c:d.length<=(Bj d).length) {s x:ByteArray} (h:AZ (Cm d s) x=true):YW d s x:=by
 obtain⟨y,a,e⟩:=Rd.1 h;have b:YW d s y:=by
  unfold Cm at a;split at a
  ·cases a
  ·rcases Wb a with a|a
   ·cases a
   ·refine Tt hn c (λz f=>?_) y a;have:z=s:=by simpa using f
    rw[this];exact .inl (Ct s)
 rcases b with b|b
 ·exact .inl (BX b e)
 ·rw[IK d e]at b;exact .inr b
theorem DY {d:List AI} {s:ByteArray} (h:s∈AO d):∃x∈d,x.1=s:=by
 have key:∀(l:List AI) (o:List ByteArray),s∈l.foldl (λo x=>ET o x.1) o->s∈o\/∃x∈l,x.1=s:=by
  intro l;induction l with
  | nil=>intro o h;exact .inl h
  | cons x l a =>
   intro o h;rw[ON]at h;rcases a _ h with h|⟨y,b,e⟩
   ·grind [Gy]
   ·grind
 rcases key d [] h with h|h
 ·cases h
 ·exact h
theorem Oz {d:List AI} {x:AI} (h:x∈d):AZ (AO d) x.1=true:=by
 have b:∀(l:List AI) (o:List ByteArray),∀y∈o,y∈l.foldl (λo x=>ET o x.1) o:=by
  intro l;induction l with
  | nil=>intro o y h;exact h
  | cons x l a=>intro o y h;rw[ON];exact a _ y (NP h)
 have key:∀(l:List AI) (o:List ByteArray),x∈l->AZ (l.foldl (λo x=>ET o x.1) o) x.1=true:=by
  intro l;induction l with
  | nil=>intro o h;cases h
  | cons y l a =>
   intro o h;rw[ON];rcases DO.1 h with rfl|h
   ·grind [J9,Qd]
   ·exact a _ h
 exact key d [] h
theorem iI {d:List AI} (hn:Ck d=0) (g:d.length<=(Bj d).length) (r:d.length<=256) {i j:Nat} (hi:i<(AO d).length) (f:j<(AO d).length)
  (h:DP (Er d (AO d) ((AO d).getD i ByteArray.empty)) (Er d (AO d) ((AO d).getD j ByteArray.empty))=true):AY ((AO d).getD i ByteArray.empty) ((AO d).getD j ByteArray.empty)=true:=by
 have o:=D0 d d.length;rw[Re]at o;have a:(AO d).length<=4096:=by omega
 generalize hs:(AO d).getD i ByteArray.empty=s at *;generalize b:(AO d).getD j ByteArray.empty=t at *;have p:0<=Ap d s:=by
  obtain⟨x,c,e⟩:=DY (s:=s) (by rw[<-hs];exact BE hi);rw[<-e];exact DX c
 have q:0<=Ap d t:=by
  obtain⟨x,c,e⟩:=DY (s:=t) (by rw[<-b];exact BE f);rw[<-e];exact DX c
 obtain⟨c1,k,-⟩:=B5 (d:=d) a s i;obtain⟨c2,l,-⟩:=B5 (d:=d) a t i;obtain⟨m,-,-⟩:=B5 (d:=d) a s j;obtain⟨n,-,-⟩:=B5 (d:=d) a t j;unfold DP at h;rw[AT]at h;have b1:=Wc hn g (c2.1 (MS k l h.1 (c1.2 ⟨hi,by rw[hs];exact Oy p⟩))).2;have b2:=Wc hn g (m.1 (MS l k h.2 (n.2 ⟨f,by rw[b];exact Oy q⟩))).2;rw[hs]at b1;rw[b]at b2;rcases b1 with b1|b1
 ·exact D5 b1
 ·rcases b2 with b2|b2
  ·exact b2
  ·omega
section
attribute [local go_sem] b9 A2M MP cs0 cs1
def w5 (d:List AI) (all:List ByteArray) (codes:List (List Int)) (b:List Int):Nat->Nat->List ByteArray->ByteArray ⊕ List ByteArray
 | 0,_,l=>.inr l
 | n+1,i,l=>if DP (codes.getD i []) b=true then .inl (all.getD i ByteArray.empty) else w5 d all codes b n (i+1) (if Ua b (i:Int)=true then l++[all.getD i ByteArray.empty] else l)
def ZN (l:List ByteArray) (s:ByteArray) (i:Nat):ByteArray:=(if 0<(i:Int) then s++ByteArray.mk #[38] else s)++l.getD i ByteArray.empty
def iJ (l:List ByteArray):ByteArray:=(List.range l.length).foldl (ZN l) ByteArray.empty
def Gz (d:List AI) (all:List ByteArray) (codes:List (List Int)) (b:List Int):ByteArray :=
 match w5 d all codes b all.length 0 [] with
 | .inl s=>s
 | .inr l=>iJ (A3 d l)
theorem N0 {d:List AI} {x:ByteArray}:∀ {l o:List ByteArray},x∈l.foldl (FT d) o->x∈o\/x∈l
 | [],_,h=>.inl h
 | y :: l,o,h=>by
  rw[ON]at h;rcases N0 h with h|h
  ·unfold FT at h;split at h
   ·rcases Gy h with h|h
    ·exact .inl h
    ·exact .inr (by simp[h])
   ·exact .inl h
  ·exact .inr (by simp[h])
theorem HZ {d:List AI} {l:List ByteArray} {x:ByteArray} (h:x∈A3 d l):x∈l:=by
 unfold A3 QU at h;obtain⟨i,hi,rfl⟩:=GO.1 h;rw[ADj,Ri]at hi;rcases N0 (BE (d:=ByteArray.empty) hi.1) with h|h
 ·cases h
 ·exact h
theorem cN (d:List AI) (l:List ByteArray):(A3 d l).length<=l.length:=Rc (iA _ _ _) (Jg d l)
theorem m8 {l:List ByteArray} (h:∀s∈l,s.size<=32) (k:Nat):(l.getD k ByteArray.empty).size<=32:=by
 rw[AS];cases hh:l[k]? with
 | none=>simp
 | some x=>exact h x (iF hh)
def Qg (l:List ByteArray) (n:Nat):ByteArray:=(List.range n).foldl (ZN l) ByteArray.empty
theorem O2 (l:List ByteArray) (n:Nat):Qg l (n+1)=ZN l (Qg l n) n:=by
 unfold Qg;rw[TD,AEu];rfl
theorem Wd {l:List ByteArray} (h:∀s∈l,s.size<=32):∀n,(Qg l n).size<=33*n
 | 0=>by simp[Qg]
 | n+1=>by
  have h1:=Wd h n;have a:=m8 h n;rw[O2];unfold ZN;split
  ·rw[AEq,AEq];have:(ByteArray.mk #[38]).size=1:=rfl;omega
  ·rw[AEq];omega
def cO:Aa:={ ins:=[FF,Fy,UZ,BT],pre:=λ(d,all,codes,b,_)=>QQ d/\List.length d<=256/\List.length all<=256/\List.length codes=List.length all/\(∀s∈(all:List ByteArray),s.size<=32)/\(∀x∈(codes:List (List Int)),x.length<=64)/\List.length b<=64,out:=λ(d,all,codes,b,_)=>[.p T9 (Gz d all codes b)] }
theorem A0c:Ad Tryz.prog 164 cO:=by
 refine fK [0,1,2,3,8,9,10,11,12,16,24,31,45,49] Tryz.func164 Tryz.ntmps164 (AF z9 (AF A2N (AF WV AH))) ?_;rintro w0 O0 ⟨d,all,codes,b,u⟩ e-⟨hs,z,t,q,C,y,w⟩;have t:all.length<=256:=t;have q:codes.length=all.length:=q;simp only[cO,AM];repeat'(first|exact trivial|refine eS rfl ?_|refine rX e ?_ ?_)
 refine AK (ι:={x:Nat×List ByteArray//x.1<=all.length/\x.2.length<=x.1/\(∀s∈x.2,s.size<=32)/\w5 d all codes b (all.length-x.1) x.1 x.2=w5 d all codes b all.length 0 []}) (λx=>⟨[(0,.p FF d),(1,.p Fy all),(2,.p UZ codes),(3,.p BT b),(9,.sr 38 T9 0 x.1.2.length),(10,.p (.int .i64) (x.1.1:Int))],[(38,.arr 9 T9 x.1.2)]⟩) (λx=>all.length-x.1.1) ⟨(0,[]),by simp,by simp,by simp,rfl⟩ (eW [(38,.nil)]) (λx=>?_)
 ·obtain⟨⟨i,l⟩,hi,B,o,f⟩:=x;simp only at hi B o f;have r:i<all.length->w5 d all codes b (all.length-i) i l=if DP (codes.getD i []) b=true then .inl (all.getD i ByteArray.empty) else w5 d all codes b (all.length-(i+1)) (i+1) (if Ua b (i:Int)=true then l++[all.getD i ByteArray.empty] else l):=by
   intro h;rw[show all.length-i=(all.length-(i+1))+1 by omega];rfl
  simp only;repeat'(first|exact trivial|refine eS rfl ?_|refine AB ?_|refine rX e ?_ ?_|refine rC ?_ ?_<;>intro a<;>try(cases a;done))
  ·exact⟨by rw[q];exact a,Rc (MR y i) (by decide),Rc w (by decide)⟩
  ·assumption
  ·have c:i<all.length:=by exact eV
   have j:Gz d all codes b=all.getD i ByteArray.empty:=by
    unfold Gz;rw[<-f,r c,BY a]
   exact fI e [.tmp 8] (by rw[j];exact eR)
  ·have c:i<all.length:=by exact eV
   exact⟨IS.2 c,by simp only[AP];omega⟩
  ·exact eV
  ·have c:i<all.length:=by exact eV
   have hn:=r c;rw[An (by rw[‹DP _ _=false›];simp),BY a]at hn;refine⟨⟨(i+1,l++[all.getD i ByteArray.empty]),by simp only;omega,by simp only[IF,RW];omega,?_,hn.symm.trans f⟩,by simp only;omega,AC [(38,.nm 38)] rfl rfl ?_ ?_⟩
   ·intro s hs;rcases No.1 hs with hs|hs
    ·exact o s hs
    ·have:s=all.getD i ByteArray.empty:=by simpa using hs
     rw[this];exact m8 C i
   ·exact eN
   ·exact eN
  ·exact eV
  ·have c:i<all.length:=by exact eV
   have hn:=r c;rw[An (by rw[‹DP _ _=false›];simp),An (by rw[a];simp)]at hn;exact⟨⟨(i+1,l),by simp only;omega,by simp only;omega,o,hn.symm.trans f⟩,by simp only;omega,eW [(38,.nm 38)]⟩
  ·have j:Gz d all codes b=iJ (A3 d l):=by
    unfold Gz;rw[<-f];have:all.length-i=0:=by exact eV
    rw[this];rfl
   refine FQ [38] ?_;repeat'(first|exact trivial|refine eS rfl ?_|refine rX e ?_ ?_)
   ·exact⟨hs,z,by omega⟩
   ·have v:∀s∈A3 d l,s.size<=32:=λs h=>o s (HZ h);have E:=cN d l;have A:iJ (A3 d l)=Qg (A3 d l) (A3 d l).length:=rfl;rw[A]at j;generalize A3 d l=m at *;refine AK (ι:={k:Nat//k<=m.length}) (λk=>⟨[(9,.p Fy m),(11,.p T9 (Qg m k.1)),(12,.p (.int .i64) (k.1:Int))],[]⟩) (λk=>m.length-k.1) ⟨0,IN _⟩ (AC [] rfl rfl ?_ ?_) (λk=>?_)
    ·exact eN
    ·refine eM ?_;rfl
    ·obtain⟨k,hk⟩:=k;have hk:k<=m.length:=hk;have D:=Wd v k;have n:=O2 m k;have F:=m8 v k;unfold ZN at n;simp only;repeat'(first|exact trivial|refine eS rfl ?_|refine AB ?_|refine rX e ?_ ?_|refine rC ?_ ?_<;>intro a<;>try(cases a;done))
     ·have h1:(ByteArray.mk #[38]).size=1:=rfl;rw[h1];simp only[AP];exact eV
     ·refine⟨by assumption,?_⟩;have h1:(ByteArray.mk #[38]).size=1:=rfl;rw[AEq,h1];simp only[AP];exact eV
     ·exact eV
     ·have g:k<m.length:=by exact eV
      rw[BY a]at n;refine⟨⟨k+1,g⟩,by simp only;omega,AC [] rfl rfl ?_ ?_⟩
      ·exact eN
      ·simp only[n];exact eN
     ·refine⟨by assumption,?_⟩;simp only[AP];exact eV
     ·exact eV
     ·have g:k<m.length:=by exact eV
      rw[An (AAh.2 a)]at n;refine⟨⟨k+1,g⟩,by simp only;omega,AC [] rfl rfl ?_ ?_⟩
      ·exact eN
      ·simp only[n];exact eN
     ·have g:k=m.length:=by exact eV
      rw[<-g]at j;exact fI e [.tmp 8] (by rw[j];exact eR)
end
section
attribute [local go_sem] Uu QP A30 cL cO cK
def Fs (x:AR) (out:List AR):Nat->Nat
 | 0=>0
 | n+1=>if F9 x (out.getD n c0)=true then Fs x out n else n+1
def cQ (out:List AR) (x:AR):List AR:=out.take (Fs x out out.length)++[x]++out.drop (Fs x out out.length)
def AX (d:List AI):List (List Int):=(AO d).map λs=>Er d (AO d) s
def Gc (d:List AI) (all:List ByteArray) (codes:List (List Int)) (out:List AR) (b:List Int):List AR:=cQ out (Gz d all codes b,b)
def SY (d:List AI):List AR->List Int->List AR:=Gc d (AO d) (AX d)
theorem O3 (d:List AI) (all:List ByteArray) (codes:List (List Int)):∀(l:List (List Int)) (o:List AR),(l.foldl (Gc d all codes) o).length=o.length+l.length
 | [],o=>by simp
 | b :: l,o=>by
  rw[ON,O3 d all codes l];unfold Gc cQ;simp only[IF,OR,TE,OS,ADk];omega
theorem We {d:List AI} {all:List ByteArray} {codes:List (List Int)}:∀ {l:List (List Int)} {o:List AR},(∀c∈l,c.length<=64)->(∀y∈o,y.2.length<=64)->∀y∈l.foldl (Gc d all codes) o,y.2.length<=64
 | [],_,_,e=>e
 | b :: l,o,f,e=>by
  rw[ON];refine We (λc g=>f c (by simp[g])) (λy a=>?_);unfold Gc cQ at a;simp only[No,Rm]at a;rcases a with (a|a)|a
  ·exact e y (gO a)
  ·rw[a];exact f b (by simp)
  ·exact e y (AEb a)
theorem iK (x:AR) (out:List AR):∀n,Fs x out n<=n
 | 0=>NO _
 | n+1=>by
  unfold Fs;split
  ·exact Nat.le_succ_of_le (iK x out n)
  ·exact NO _
def AL (d:List AI):List AR:=(Av (AX d)).foldl (SY d) []
def B6 (d:List AI):List AR×Int :=
 if A5 d≠0 then ([],A5 d) else if 256<(Av (AX d)).length then ([],7) else (AL d,0)
theorem m9 {s:ByteArray} {b:Bool} (h:Ep s b=true):s.size<=32:=by
 unfold Ep at h;rw[AT]at h;have h1:=h.1;unfold SM at h1;simp only[RZ,iS,Of]at h1;have:=h1.1.1.2;omega
theorem iL {d:List AI} (hn:Ck d=0):∀s∈AO d,s.size<=32:=by
 intro s hs;obtain⟨x,b,rfl⟩:=DY hs;obtain⟨j,a,rfl⟩:=CG d0 b;exact m9 (JD hn j a).2
def LA (d:List AI) (n:Nat):List (List Int):=((AO d).take n).map λs=>Er d (AO d) s
theorem nA {d:List AI} {n:Nat} (h:n<=(AO d).length):(LA d n).length=n:=by simp[LA,h]
theorem iM {d:List AI} {n:Nat} (h:n<(AO d).length):LA d (n+1)=LA d n++[Er d (AO d) ((AO d).getD n ByteArray.empty)]:=by
 unfold LA;rw[A0 _ ByteArray.empty h,iN];rfl
theorem nB (d:List AI):LA d (AO d).length=AX d:=by simp[LA,AX]
theorem nC (d:List AI):(AX d).length=(AO d).length:=by simp[AX]
theorem O4 {d:List AI} (h:d.length<=256):∀c∈AX d,c.length<=64:=by
 intro c a;unfold AX at a;obtain⟨s,-,rfl⟩:=GO.1 a;have b:=D0 d d.length;rw[Re]at b;exact(B5 (d:=d) (all:=AO d) (by omega) s 0).2.2
theorem iO {i:Nat}:∀ {n k:Nat} {l:List (List Int)},(∀c∈l,c.length<=64)->∀c∈Gb i n k l,c.length<=64
 | 0,_,_,h=>h
 | n+1,k,l,h=>by
  unfold Gb;split
  ·exact iO (iE h i k)
  ·exact h
theorem Qh:∀ {n i:Nat} {l:List (List Int)},(∀c∈l,c.length<=64)->∀c∈IG n i l,c.length<=64
 | 0,_,_,h=>h
 | n+1,i,l,h=>by
  unfold IG;split
  ·exact Qh (iO h)
  ·exact h
theorem iP {out:List AR} {x y:AR}:y∈cQ out x↔y=x\/y∈out:=by
 unfold cQ;rw[No,No,Rm];have h:=No (a:=y) (s:=out.take (Fs x out out.length)) (t:=out.drop (Fs x out out.length));rw[AE6]at h;rw[h];constructor
 ·rintro ((h|h)|h)
  ·exact .inr (.inl h)
  ·exact .inl h
  ·exact .inr (.inr h)
 ·rintro (h|h|h)
  ·exact .inl (.inr h)
  ·exact .inl (.inl h)
  ·exact .inr h
def SZ:Aa:={ ins:=[FF],pre:=λ_=>True,out:=λ(d,_)=>[.p J6 (B6 d).1,.p Lo (B6 d).2] }
theorem Qi:Ad Tryz.prog 118 SZ:=by
 refine fK [0,2,3,4,5,6,7,8,9,10,11,12,13,17,24,41,45,73] Tryz.func118 Tryz.ntmps118 (AF A05 (AF ZD (AF A70 (AF A0a (AF A0c (AF A08 AH)))))) ?_;rintro w0 O0 ⟨d,u⟩ g - -;simp only[SZ,AM];repeat'(first|exact trivial|refine eS rfl ?_|refine rX g ?_ ?_|refine rC ?_ ?_<;>intro a<;>try(cases a;done))
 ·have h1:B6 d=([],A5 d):=by unfold B6;rw[BY a]
  exact fI g [.tmp 2,.tmp 3] (by rw[h1];exact eR)
 ·have i:A5 d=0:=by simpa using a
  obtain⟨-,E,-⟩:=Ay i;exact Rc E (by decide)
 ·have i:A5 d=0:=by simpa using a
  obtain⟨M,s,-,hn,-⟩:=Ay i;have F:=D0 d d.length;rw[Re]at F;have N:=iL hn;refine AK (ι:={n:Nat//n<=(AO d).length}) (λn=>⟨[(0,.p FF d),(5,.p Fy (AO d)),(6,.sr 36 BT 0 (LA d n.1).length),(7,.p (.int .i64) (n.1:Int))],[(36,.arr 140 BT (LA d n.1))]⟩) (λn=>(AO d).length-n.1) ⟨0,IN _⟩ (AC [(36,.nil)] rfl rfl ?_ ?_) (λn=>?_)
  ·refine eM ?_;rfl
  ·refine eM ?_;rfl
  ·obtain⟨n,I⟩:=n;have Q:=nA I;have hs:=λh=>iM (d:=d) (n:=n) h;simp only;repeat'(first|exact trivial|refine eS rfl ?_|refine AB ?_|refine rX g ?_ ?_|refine rC ?_ ?_<;>intro a<;>try(cases a;done))
   ·refine⟨a,⟨s,by dsimp only[Ty.den]at *;omega⟩,?_⟩;simp only[AP];dsimp only[Ty.den]at *;omega
   ·exact eV
   ·have w:n<(AO d).length:=by exact eV
    have e:=hs w;refine⟨⟨n+1,by omega⟩,by simp only;omega,AC [(36,.nm 36)] rfl rfl ?_ ?_⟩
    ·simp only[e];exact eN
    ·simp only[e];exact eN
   ·have w:n=(AO d).length:=by exact eV
    subst w;rw[nB];have H:=nC d;have x:=O4 s;have t:∀c∈Av (AX d),c.length<=64:=Qh x;refine FQ [36] ?_;repeat'(first|exact trivial|refine eS rfl ?_|refine rX g ?_ ?_|refine rC ?_ ?_<;>intro a<;>try(cases a;done))
    ·exact⟨by omega,x⟩
    ·have h1:B6 d=([],7):=by
      unfold B6;rw[An (by rw[i];simp),BY (by omega)]
     exact fI g [.tmp 2,.tmp 3] (by rw[h1];exact eR)
    ·have D:B6 d=((Av (AX d)).foldl (Gc d (AO d) (AX d)) [],0):=by
      unfold B6;rw[An (by rw[i];simp),An (by omega)];rfl
     generalize Av (AX d)=f at *;generalize AX d=codes at *;generalize AO d=all at *;refine AK (ι:={k:Nat//k<=f.length}) (λk=>⟨[(0,.p FF d),(5,.p Fy all),(6,.p UZ codes),(8,.p UZ f),(9,.sr 9 b7 0 ((f.take k.1).foldl (Gc d all codes) []).length),(10,.p (.int .i64) (k.1:Int))],[(9,.arr 152 b7 ((f.take k.1).foldl (Gc d all codes) []))]⟩) (λk=>f.length-k.1) ⟨0,IN _⟩ (AC [(9,.nil)] rfl rfl ?_ ?_) (λk=>?_)
     ·refine eM ?_;rfl
     ·refine eM ?_;rfl
     ·obtain⟨k,hk⟩:=k;have C:=O3 d all codes (f.take k) [];have O:(f.take k).length=k:=by rw[OR];exact AEh hk
      have J:=We (d:=d) (all:=all) (codes:=codes) (l:=f.take k) (o:=[]) (λc g=>t c (gO g)) (by simp);have L:=λh:k<f.length=>E2 (Gc d all codes) f [] [] h;rw[O]at C;simp only[ADk,ADG]at C;generalize B:(f.take k).foldl (Gc d all codes) []=out at *;simp only;repeat'(first|exact trivial|refine eS rfl ?_|refine rX g ?_ ?_|refine rC ?_ ?_<;>intro a<;>try(cases a;done))
      ·exact⟨a,⟨M,s,by omega,H,N,x,MR t k⟩,a⟩
      ·have v:k<f.length:=by exact eV
       have e:=L v;have G:=MR t k;generalize f.getD k []=b at *;unfold Gc at e;generalize Gz d all codes b=nm at *;refine AK (ι:={q:Nat//q<=out.length/\Fs (nm,b) out q=Fs (nm,b) out out.length}) (λq=>⟨[(0,.p FF d),(5,.p Fy all),(6,.p UZ codes),(8,.p UZ f),(9,.sr 9 b7 0 out.length),(10,.p (.int .i64) (k:Int)),(11,.bp 11 [] 0),(12,.p (.int .i64) (q.1:Int))],[(9,.arr 152 b7 out),(11,.box 152 true [.p T9 nm,.p BT b])]⟩) (λq=>q.1) ⟨out.length,NO _,rfl⟩ (eW [(9,.nm 9),(11,.nm 11)]) (λq=>?_)
       ·obtain⟨q,j,A⟩:=q;have j:q<=out.length:=j;simp only;repeat'(first|exact trivial|refine eS rfl ?_|refine AB ?_|refine rX g ?_ ?_|refine rC ?_ ?_<;>intro a<;>try(cases a;done))
        ·refine⟨λh=>by omega,λh=>by exact eV,λh=>⟨Rc G (by decide),Rc (J _ (AE out c0 (k:=((q:Int)-1).toNat) (by omega))) (by decide)⟩⟩
        ·omega
        ·obtain⟨P,z⟩:=a;obtain⟨q,rfl⟩:∃r,q=r+1:=⟨q-1,by omega⟩;have m:((q+1:Nat):Int)-1=(q:Int):=by omega
         refine⟨⟨q,by omega,?_⟩,AF3 q,AC [(9,.nm 9),(11,.nm 11)] rfl rfl ?_ ?_⟩
         ·rw[<-A];rw[m,Rb]at z;show _=if F9 (nm,b) (out.getD q c0)=true then Fs (nm,b) out q else q+1
          rw[BY z]
         ·exact eN
         ·refine eM ?_;show (q:Int)+1-1=q;omega
        ·refine⟨RY.2 j,?_⟩;rw[OR];simp only[AP];omega
        ·rw[OR];simp only[AP];omega
        ·refine⟨RY.2 j,?_⟩;rw[OR,TE];simp only[AP];omega
        ·omega
        ·have K:Fs (nm,b) out q=q:=by
          cases q with
          | zero=>rfl
          | succ q =>
           have m:((q+1:Nat):Int)-1=(q:Int):=by omega
           have:=a (by omega);rw[m,Rb]at this;show (if F9 (nm,b) (out.getD q c0)=true then Fs (nm,b) out q else q+1)=q+1;rw[An (by rw[this];simp)]
         unfold cQ at e;rw[<-A,K]at e;refine⟨⟨k+1,by omega⟩,by simp only;omega,AC [(9,.nm 80)] rfl rfl ?_ ?_⟩
         ·refine eM ?_;exact e.symm
         ·refine eM ?_;have y:=ADB List.length e;rw[IF,IF]at y;exact y.symm
      ·have v:k=f.length:=by exact eV
       rw[v,Re]at B;rw[B]at D;refine FQ [9] ?_;exact fI g [.tmp 2,.tmp 3] (by rw[D];exact eR)
end
theorem ZO {d:List AI}:∀ {l:List (List Int)} {o:List AR} {y:AR},y∈l.foldl (SY d) o↔y∈o\/∃b∈l,y=(Gz d (AO d) (AX d) b,b)
 | [],o,y=>by simp
 | b :: l,o,y=>by
  rw[ON,ZO];unfold SY Gc;rw[iP];simp only[DO];constructor
  ·rintro ((h|h)|⟨c,a,e⟩)
   ·exact .inr ⟨b,.inl rfl,h⟩
   ·exact .inl h
   ·exact .inr ⟨c,.inr a,e⟩
  ·rintro (h|⟨c,rfl|a,e⟩)
   ·exact .inl (.inr h)
   ·exact .inl (.inl e)
   ·exact .inr ⟨c,a,e⟩
theorem DZ {d:List AI} {y:AR}:y∈AL d↔∃b∈Av (AX d),y=(Gz d (AO d) (AX d) b,b):=by
 unfold AL;rw[ZO];simp
theorem IL (d:List AI):(AL d).length=(Av (AX d)).length:=by
 have h:=O3 d (AO d) (AX d) (Av (AX d)) [];rw[ADk,ADG]at h;exact h
theorem A36 {l:List (List Int)} {i k:Nat} {c:List Int} (h:c∈l):c∈Ga l i k:=by
 unfold Ga;split
 ·exact No.2 (.inl h)
 ·exact h
theorem iQ {i:Nat} {c:List Int}:∀ {n k:Nat} {l:List (List Int)},c∈l->c∈Gb i n k l
 | 0,_,_,h=>h
 | n+1,k,l,h=>by
  unfold Gb;split
  ·exact iQ (A36 h)
  ·exact h
theorem iR {c:List Int}:∀ {n i:Nat} {l:List (List Int)},c∈l->c∈IG n i l
 | 0,_,_,h=>h
 | n+1,i,l,h=>by
  unfold IG;split
  ·exact iR (iQ h)
  ·exact h
theorem JE (d:List AI) {i:Nat} (h:i<(AO d).length):(AX d).getD i []=Er d (AO d) ((AO d).getD i ByteArray.empty):=by
 unfold AX;simp[AS,h]
theorem w6 {d:List AI} (hn:Ck d=0) (f:d.length<=(Bj d).length) (c:d.length<=256) {j:Nat} (b:j<(AO d).length):∀(m i:Nat) (l:List ByteArray),i+m=(AO d).length->i<=j ->
  ∃s,w5 d (AO d) (AX d) ((AX d).getD j []) m i l=.inl s/\AY s ((AO d).getD j ByteArray.empty)=true
 | 0,i,l,h,g=>by omega
 | m+1,i,l,h,g=>by
  unfold w5;split
  ·rename_i a;refine⟨_,rfl,?_⟩;rw[JE d (by omega),JE d b]at a;exact iI hn f c (by omega) b a
  ·rename_i a;have k:i≠j:=by
    intro e;subst e;exact a (iH _)
   exact w6 hn f c b m (i+1) _ (by omega) (by omega)
theorem w7 (s:ByteArray):∀(l:List AR) (k:Nat),MQ s k l<((k+l.length:Nat):Int)
 | [],k=>by simp only[MQ];omega
 | x :: l,k=>by
  simp only[MQ];split
  ·simp only[OS];omega
  ·have:=w7 s l (k+1);simp only[OS];omega
theorem w8 (s:ByteArray):∀(l:List AR) (k:Nat) (x:AR),x∈l->AY x.1 s=true->0<=MQ s k l
 | [],_,_,h,_=>by cases h
 | y :: l,k,x,h,e=>by
  simp only[MQ];split
  ·omega
  ·rename_i a;rcases DO.1 h with rfl|h
   ·exact absurd e a
   ·exact w8 s l (k+1) x h e
theorem IM (l:List AR) (s:ByteArray):BN l s<(l.length:Int):=by
 have:=w7 s l 0;rw[ADG]at this;exact this
theorem G0 {d:List AI} (h:A5 d=0) {s:ByteArray} (hs:AZ (AO d) s=true):0<=BN (AL d) s:=by
 obtain⟨-,b,-,hn,f⟩:=Ay h;obtain⟨t,g,e⟩:=Rd.1 hs;obtain⟨j,c,rfl⟩:=CG ByteArray.empty g;obtain⟨u,hu,a⟩:=w6 hn f b c (AO d).length 0 [] (by omega) (by omega);have i:(AX d).length=(AO d).length:=by simp[AX]
 refine w8 s (AL d) 0 (u,(AX d).getD j []) ?_ (BX a e);rw[DZ];refine⟨(AX d).getD j [],iR (BE (by omega)),?_⟩;unfold Gz;rw[hu]
theorem Tu {d:List AI} (h:A5 d=0) {x:AI} (a:x∈d):0<=BN (AL d) x.1:=G0 h (Oz a)
theorem BZ {d:List AI} (h:(B6 d).2=0):A5 d=0/\(Av (AX d)).length<=256/\(B6 d).1=AL d:=by
 unfold B6 at h ⊢;split at h
 ·rename_i h1;exact absurd h h1
 ·rename_i h1;split at h
  ·cases h
  ·rename_i a;exact⟨Do h1,by omega,by rw[An h1,An a]⟩
theorem w9 {d:List AI} (h:A5 d=0):0<(AL d).length:=by
 obtain⟨-,-,a,-,-⟩:=Ay h;cases d with
 | nil=>cases a
 | cons x d =>
  have:=Tu h (x:=x) (by simp);have b:=IM (AL (x :: d)) x.1;omega
section
attribute [local go_sem] w3
def A9u (l:List AR) (i k:Int) (m:Nat):Bool:=(m:Int)==i||(m:Int)==k||!LV l k (m:Int)||!LV l (m:Int) i
def A0d (l:List AR) (i k:Int) (n:Nat):Bool:=(List.range n).all (A9u l i k)
def A0e (l:List AR) (i:Int) (k:Nat):Bool:=!((k:Int)==i||!LV l (k:Int) i)&&A0d l i (k:Int) l.length
def OA (l:List AR) (i:Int) (n:Nat):List Int:=((List.range n).filter λ(k:Nat)=>A0e l i k).map λ(k:Nat)=>(k:Int)
def ZP (l:List AR) (i:Int):List Int:=OA l i l.length
theorem nD (l:List AR) (i:Int) (n:Nat):OA l i (n+1)=OA l i n++if A0e l i n=true then [(n:Int)] else []:=by
 unfold OA;rw[TD,AEp,iN]
 congr 1
 rw[f5,AEC];split<;>rfl
theorem A0f (l:List AR) (i:Int) (n:Nat):(OA l i n).length<=n:=by
 unfold OA;rw[RU];exact Rc (aS _ _) (by simp)
theorem A0g (l:List AR) (i k:Int) (n:Nat):A0d l i k (n+1)=(A0d l i k n&&A9u l i k n):=by
 unfold A0d;rw[TD,AEE];simp
def A37:Aa:={ ins:=[J6,T3],pre:=λ(l,i,_)=>((0:Int)<=i/\i<(List.length l:Int))/\List.length l<=256/\(∀x∈(l:List AR),x.2.length<=64),out:=λ(l,i,_)=>[.p Fv (ZP l i)] }
theorem A76:Ad Tryz.prog 119 A37:=by
 refine fK [0,1,4,5,6,7,8,12,24,28,56] Tryz.func119 Tryz.ntmps119 (AF w4 AH) ?_;rintro w0 O0 ⟨l,i,u⟩ c-⟨hi,g,o⟩;have g:l.length<=256:=g;have f:∀x∈(l:List AR),x.2.length<=100000:=λx h=>Rc (o x h) (by decide);simp only[A37,AM];repeat'(first|exact trivial|refine eS rfl ?_|refine rX c ?_ ?_)
 refine AK (ι:={k:Nat//k<=l.length}) (λk=>⟨[(0,.p J6 l),(1,.p T3 i),(5,.sr 60 T3 0 (OA l i k.1).length),(6,.p (.int .i64) (k.1:Int))],[(60,.arr 3 T3 (OA l i k.1))]⟩) (λk=>l.length-k.1) ⟨0,IN _⟩ (AC [(60,.nil)] rfl rfl ?_ ?_) (λk=>?_)
 ·refine eM ?_;rfl
 ·refine eM ?_;rfl
 ·obtain⟨k,hk⟩:=k;have hk:k<=l.length:=hk;have q:=A0f l i k;have hs:=nD l i k;simp only;repeat'(first|exact trivial|refine eS rfl ?_|refine AB ?_|refine rX c ?_ ?_|refine rC ?_ ?_<;>intro a<;>try(cases a;done))
  ·intro h;exact⟨by assumption,hi,f⟩
  ·exact eV
  ·have e:k<l.length:=by exact eV
   have b:A0e l i k=false:=by
    unfold A0e;rw[AD6];left;rw[ADN,S8,TC,RZ];exact a
   rw[b,An (by simp),Rq]at hs;refine⟨⟨k+1,by omega⟩,by simp only;omega,AC [(60,.nm 60)] rfl rfl ?_ ?_⟩
   ·simp only[hs];exact eN
   ·simp only[hs];exact eN
  ·have e:k<l.length:=by exact eV
   have b:A0e l i k=A0d l i (k:Int) l.length:=by
    unfold A0e;rw[show ((k:Int)==i||!LV l (k:Int) i)=false by
     rw[iS,ADD,ADN];exact a]
    rfl
   refine AK (ι:={m:Nat//m<=l.length}) (λm=>⟨[(0,.p J6 l),(1,.p T3 i),(5,.sr 60 T3 0 (OA l i k).length),(6,.p (.int .i64) (k:Int)),(7,.p .bool (A0d l i (k:Int) m.1)),(8,.p (.int .i64) (m.1:Int))],[(60,.arr 3 T3 (OA l i k))]⟩) (λm=>l.length-m.1) ⟨0,IN _⟩ (AC [(60,.nm 60)] rfl rfl ?_ ?_) (λm=>?_)
   ·exact eN
   ·refine eM ?_;rfl
   ·obtain⟨m,j⟩:=m;have j:m<=l.length:=j;have n:=A0g l i (k:Int) m;simp only;repeat'(first|exact trivial|refine eS rfl ?_|refine AB ?_|refine rX c ?_ ?_|refine rC ?_ ?_<;>intro a<;>try(cases a;done))
    ·exact⟨λh=>⟨by assumption,a,f⟩,λh=>⟨a,hi,f⟩⟩
    ·exact eV
    ·have d:m<l.length:=by exact eV
     refine⟨⟨m+1,by omega⟩,by simp only;omega,AC [(60,.nm 60)] rfl rfl ?_ ?_⟩
     ·exact eN
     ·simp only[n];unfold A9u;exact eN
    ·simp only[AP];dsimp only[Ty.den]at *;omega
    ·exact eV
    ·have d:m=l.length:=by exact eV
     subst d;rw[b,BY a]at hs;refine⟨⟨k+1,by omega⟩,by simp only;omega,AC [(60,.nm 60)] rfl rfl ?_ ?_⟩
     ·simp only[hs];exact eN
     ·simp only[hs];exact eN
    ·exact eV
    ·have d:m=l.length:=by exact eV
     subst d;rw[b,An (by rw[a];simp),Rq]at hs;refine⟨⟨k+1,by omega⟩,by simp only;omega,AC [(60,.nm 60)] rfl rfl ?_ ?_⟩
     ·simp only[hs];exact eN
     ·simp only[hs];exact eN
  ·have e:k=l.length:=by exact eV
   subst e;refine FQ [60] ?_;exact fI c [.tmp 4] (by unfold ZP;exact eR)
end
section
attribute [local go_sem] QP WP Je
abbrev FV:=ByteArray×ByteArray
abbrev f0V:FV:=(ByteArray.empty,ByteArray.empty)
def dcG (all:List ByteArray) (l:List FV):Nat->List FV->Int
 | _,[]=>0
 | k,x :: r=>if Ep x.1 true=false then 1 else if ((l.take k).any λy=>AY y.1 x.1)=true then 4 else if AZ all x.2=false then 5 else dcG all l (k+1) r
def cR (all:List ByteArray):List AI->Int
 | []=>0
 | x :: l=>if dcG all x.2.2 0 x.2.2≠0 then dcG all x.2.2 0 x.2.2 else cR all l
def LB (d:List AI):Int:=cR (AO d) d
theorem A38 (all:List ByteArray) (l:List FV) {k:Nat} (h:k<l.length):dcG all l k (l.drop k)=if Ep (l.getD k f0V).1 true=false then 1 else if ((l.take k).any λy=>AY y.1 (l.getD k f0V).1)=true then 4 else if AZ all (l.getD k f0V).2=false then 5 else dcG all l (k+1) (l.drop (k+1)):=by
 rw[On h];have e:l.getD k f0V=l[k]:=by simp[AS,h]
 rw[e];rfl
theorem A0h (all:List ByteArray) (l:List AI) {k:Nat} (h:k<l.length):cR all (l.drop k)=if dcG all (l.getD k d0).2.2 0 (l.getD k d0).2.2≠0 then dcG all (l.getD k d0).2.2 0 (l.getD k d0).2.2 else cR all (l.drop (k+1)):=by
 rw[On h];have e:l.getD k d0=l[k]:=by simp[AS,h]
 rw[e];rfl
def nE:Aa:={ ins:=[FF],pre:=λ(d,_)=>List.length d<=256,out:=λ(d,_)=>[.p Lo (LB d)] }
theorem A39:Ad Tryz.prog 193 nE:=by
 refine fK [0,2,3,4,5,6,7,13,24,33,36,49,57] Tryz.func193 Tryz.ntmps193 (AF ZD (AF mR (AF Gx AH))) ?_;rintro w0 O0 ⟨d,u⟩ c ⟨⟨x,v⟩,-⟩ j;have j:d.length<=256:=j;simp only[nE,AM];repeat'(first|exact trivial|refine eS rfl ?_|refine rX c ?_ ?_)
 ·exact Rc j (by decide)
 ·have w:LB d=cR (AO d) d:=rfl;rw[w];generalize AO d=all at *;refine AK (ι:={i:Nat//i<=d.length/\cR all (d.drop i)=cR all d}) (λi=>⟨[(0,.p FF d),(3,.p Fy all),(4,.p (.int .i64) (i.1:Int))],[]⟩) (λi=>d.length-i.1) ⟨0,IN _,rfl⟩ (eW []) (λi=>?_)
  ·obtain⟨i,hi,hf⟩:=i;simp only;repeat'(first|exact trivial|refine eS rfl ?_|refine rX c ?_ ?_|refine rC ?_ ?_<;>intro a<;>try(cases a;done))
   ·exact a
   ·have o:i<d.length:=by exact eV
    rw[A0h all d o]at hf;have A:(d.getD i d0).2.2.length<=AP:=(v _ (AE d d0 o)).2.2.1;have z:(List.getD d i (ByteArray.empty,[],[])).2.2=(d.getD i d0).2.2:=rfl;rw[z];generalize (d.getD i d0).2.2=l at *;simp only[AP]at A;refine AK (ι:={k:Nat//k<=l.length/\dcG all l k (l.drop k)=dcG all l 0 l}) (λk=>⟨[(0,.p FF d),(3,.p Fy all),(4,.p (.int .i64) (i:Int)),(5,.p gP l),(6,.p (.int .i64) (k.1:Int))],[]⟩) (λk=>l.length-k.1) ⟨0,IN _,rfl⟩ (eW []) (λk=>?_)
    ·obtain⟨k,hk,b⟩:=k;have r:=λh:k<l.length=>A38 all l h;simp only;repeat'(first|exact trivial|refine eS rfl ?_|refine AB ?_|refine rX c ?_ ?_|refine rC ?_ ?_<;>intro a<;>try(cases a;done))
     ·exact a
     ·have e:k<l.length:=by exact eV
      rw[r e,BY a]at b;rw[<-b,BY (by decide)]at hf;exact fI c [.tmp 2] (by rw[<-hf];exact eR)
     ·have e:k<l.length:=by exact eV
      have q:(k:Int)<(l.length:Int):=IS.2 e;rw[r e,An (by rw[a];simp)]at b;refine AK (ι:={m:Nat//m<=k/\((l.take m).any λy=>AY y.1 (l.getD k f0V).1)=false}) (λm=>⟨[(0,.p FF d),(3,.p Fy all),(4,.p (.int .i64) (i:Int)),(5,.p gP l),(6,.p (.int .i64) (k:Int)),(7,.p (.int .i64) (m.1:Int))],[]⟩) (λm=>k-m.1) ⟨0,IN _,rfl⟩ (eW []) (λm=>?_)
      ·obtain⟨m,B,g⟩:=m;have s:=λh:m<l.length=>NK l f0V (λy=>AY y.1 (l.getD k f0V).1) h;simp only;repeat'(first|exact trivial|refine eS rfl ?_|refine AB ?_|refine rX c ?_ ?_|refine rC ?_ ?_<;>intro a<;>try(cases a;done))
       ·have h1:(m:Int)<(k:Int):=a;exact⟨by exact eV,q⟩
       ·have f:m<k:=IS.1 (by assumption);have n:=s (by omega);have t:((l.take k).any λy=>AY y.1 (l.getD k f0V).1)=true:=by
         rw[Rd];exact⟨l.getD m f0V,by
          rw[AEr];refine⟨m,by omega,?_⟩;simp[AS,show m<l.length by omega],a⟩
        rw[BY t]at b;rw[<-b,BY (by decide)]at hf;exact fI c [.tmp 2] (by rw[<-hf];exact eR)
       ·omega
       ·have f:m<k:=IS.1 (by assumption);have n:=s (by omega);refine⟨⟨m+1,by omega,?_⟩,by simp only;omega,AC [] rfl rfl ?_ ?_⟩
        ·rw[n,g];exact a
        ·exact eN
        ·exact eN
       ·exact q
       ·have f:m=k:=by omega
        subst f;rw[An (by rw[g];simp),BY a]at b;rw[<-b,BY (by decide)]at hf;exact fI c [.tmp 2] (by rw[<-hf];exact eR)
       ·have:=x;simp only[AP]at this;omega
       ·have f:m=k:=by omega
        subst f;rw[An (by rw[g];simp),An (by rw[a];simp)]at b;exact⟨⟨m+1,by omega,b⟩,by simp only;omega,eW []⟩
     ·omega
     ·have e:l.drop k=[]:=By (RY.1 a);rw[e]at b;rw[<-b,An (by simp[dcG])]at hf;exact⟨⟨i+1,by omega,hf⟩,by simp only;omega,eW []⟩
   ·have e:d.drop i=[]:=By (by exact eV);rw[e]at hf;exact fI c [.tmp 2] (by rw[<-hf];first|exact eR|refine WL ?_;rfl)
end
section
attribute [local go_sem] cJ b8 MP cs0
def HT (s:ByteArray) (o:List ByteArray) (x:AI):List ByteArray:=if (DE x s).2=true then ET o x.1 else o
def FZ (d:List AI) (s:ByteArray):List ByteArray:=d.foldl (HT s) []
theorem nF (s:ByteArray) (d:List AI) (k:Nat):(FZ (d.take k) s).length<=k:=by
 have key:∀(l:List AI) (o:List ByteArray),(l.foldl (HT s) o).length<=o.length+l.length:=by
  intro l;induction l with
  | nil=>intro o;simp
  | cons x l b =>
   intro o;have h1:=b (HT s o x);have a:(HT s o x).length<=o.length+1:=by
    unfold HT;split
    ·exact MN o x.1
    ·omega
   simp only[ON,OS];omega
 have h1:=key (d.take k) [];have a:=oN k d;unfold FZ;simp only[ADk]at h1;omega
def Da (d:List AI) (s:ByteArray):ByteArray×Bool:=if (A3 d (FZ d s)).length=1 then ((A3 d (FZ d s)).getD 0 ByteArray.empty,true) else (ByteArray.empty,false)
def cS:Aa:={ ins:=[FF,T9],pre:=λ(d,_,_)=>QQ d/\List.length d<=256,out:=λ(d,s,_)=>[.p T9 (Da d s).1,.p .bool (Da d s).2] }
theorem iT:Ad Tryz.prog 167 cS:=by
 refine fK [0,1,4,5,6,7,9,10,14,26,39] Tryz.func167 Tryz.ntmps167 (AF iC (AF SP (AF WV AH))) ?_;rintro w0 O0 ⟨d,s,u⟩ c-⟨l,f⟩;have f:d.length<=256:=f;simp only[cS,AM];repeat'(first|exact trivial|refine eS rfl ?_|refine rX c ?_ ?_)
 refine AK (ι:={i:Nat//i<=d.length}) (λi=>⟨[(0,.p FF d),(1,.p T9 s),(6,.p Fy (FZ (d.take i.1) s)),(7,.p (.int .i64) (i.1:Int))],[]⟩) (λi=>d.length-i.1) ⟨0,IN _⟩ (AC [] rfl rfl ?_ ?_) (λi=>?_)
 ·exact eN
 ·refine eM ?_;rfl
 ·obtain⟨i,hi⟩:=i;have hi:i<=d.length:=hi;have hn:=nF s d i;have hs:=λh:i<d.length=>E2 (HT s) d d0 [] h;have j:∀e,FZ e s=e.foldl (HT s) []:=λ_=>rfl;rw[<-j,<-j]at hs;unfold HT at hs;simp only;repeat'(first|exact trivial|refine eS rfl ?_|refine AB ?_|refine rX c ?_ ?_|refine rC ?_ ?_<;>intro a<;>try(cases a;done))
  ·exact a
  ·exact⟨by assumption,by omega⟩
  ·exact eV
  ·have b:i<d.length:=by exact eV
   have e:=hs b;rw[BY a]at e;refine⟨⟨i+1,by omega⟩,by simp only;omega,AC [] rfl rfl ?_ ?_⟩
   ·exact eN
   ·simp only[e];exact eN
  ·exact eV
  ·have b:i<d.length:=by exact eV
   have e:=hs b;rw[An (by rw[a];simp)]at e;refine⟨⟨i+1,by omega⟩,by simp only;omega,AC [] rfl rfl ?_ ?_⟩
   ·exact eN
   ·simp only[e];exact eN
  ·exact⟨l,f,by omega⟩
  ·have b:d.take i=d:=As (by exact eV);rw[b]at a ⊢;have h1:Da d s=(ByteArray.empty,false):=by
    unfold Da;rw[An (by omega)]
   exact fI c [.tmp 4,.tmp 5] (by rw[h1];first|exact eR|refine WL ?_;first|rfl|exact⟨rfl,rfl⟩)
  ·have g:((A3 d (FZ (d.take i) s)).length:Int)=1:=by simpa using a
   have k:(0:Int)<((A3 d (FZ (d.take i) s)).length:Int):=by rw[g];decide
   exact k
  ·have b:d.take i=d:=As (by exact eV);rw[b]at a ⊢;have g:((A3 d (FZ d s)).length:Int)=1:=by simpa using a
   have h1:Da d s=((A3 d (FZ d s)).getD 0 ByteArray.empty,true):=by
    unfold Da;rw[BY (by omega)]
   exact fI c [.tmp 4,.tmp 5] (by rw[h1];exact eR)
end
section
attribute [local go_sem] cJ Uv w3 A2O
def KA (l:List AR) (t:Int) (s:ByteArray) (o:List Int×Bool) (x:AI):List Int×Bool :=
 if (!(DE x s).2||!LV l (BN l x.1) t)=true then o else (Ec o.1 (l.getD (BN l (DE x s).1).toNat c0).2,true)
def Fa (d:List AI) (l:List AR) (t:Int) (s:ByteArray):List Int×Bool:=d.foldl (KA l t s) ((l.getD 0 c0).2,false)
def nG (d:List AI) (l:List AR):Prop:=(∀x∈d,0<=BN l x.1)/\∀x∈d,∀y∈x.2.2,0<=BN l y.2
theorem iU (s:ByteArray):∀(l:List (ByteArray×ByteArray)),(iB s l).2=true->∃y∈l,y.2=(iB s l).1
 | [],h=>by cases h
 | x :: l,h=>by
  simp only[iB]at h ⊢;split at h
  ·rename_i h1;rw[BY h1];exact⟨x,by simp,rfl⟩
  ·rename_i h1;rw[An h1];obtain⟨y,a,e⟩:=iU s l h;exact⟨y,by simp[a],e⟩
theorem nG.value {d:List AI} {l:List AR} (h:nG d l) {x:AI} (b:x∈d) {s:ByteArray} (a:(DE x s).2=true):0<=BN l (DE x s).1:=by
 obtain⟨y,c,e⟩:=iU s x.2.2 a;have:=h.2 x b y c;rw[e]at this;exact this
theorem A3a {l:List AR} (t:Int) (s:ByteArray) (x:AI) {o:List Int×Bool} (h:o.1.length<=64):(KA l t s o x).1.length<=64:=by
 unfold KA;split
 ·exact h
 ·exact Rc (iD _ _) h
theorem Wf {l:List AR} (t:Int) (s:ByteArray):∀(d:List AI) {o:List Int×Bool},o.1.length<=64->(d.foldl (KA l t s) o).1.length<=64
 | [],_,h=>h
 | x :: d,_,h=>by rw[ON];exact Wf t s d (A3a t s x h)
theorem iV (s:ByteArray):∀(l:List AR) (k:Nat),MQ s k l<((k+l.length:Nat):Int)
 | [],k=>by simp only[MQ];omega
 | x :: l,k=>by
  simp only[MQ];split
  ·simp only[OS];omega
  ·have:=iV s l (k+1);simp only[OS];omega
theorem Tv (l:List AR) (s:ByteArray):BN l s<(l.length:Int):=by
 have:=iV s l 0;rw[ADG]at this;exact this
def A78:Aa:={ ins:=[FF,J6,T3,T9],pre:=λ(d,l,t,_,_)=>nG d l/\((0:Int)<=t/\t<(List.length l:Int))/\List.length l<=256/\(∀x∈(l:List AR),x.2.length<=64),out:=λ(d,l,t,s,_)=>[.p BT (Fa d l t s).1,.p .bool (Fa d l t s).2] }
theorem A3b:Ad Tryz.prog 158 A78:=by
 refine fK [0,1,2,3,8,9,10,11,12,13,14,22,48] Tryz.func158 Tryz.ntmps158 (AF iC (AF ZH (AF w4 (AF A2P AH)))) ?_;rintro w0 O0 ⟨d,l,t,s,u⟩ f ⟨⟨A,G⟩,-⟩ ⟨r,j,n,w⟩;have n:l.length<=256:=n;have F:∀x∈(l:List AR),x.2.length<=100000:=λx h=>Rc (w x h) (by decide);have q:0<List.length l:=IS.1 (AFk j.1 j.2);simp only[AP]at A;simp only[A78,AM];repeat'(first|exact trivial|refine eS rfl ?_|refine rX f ?_ ?_)
 ·exact IS.2 q
 ·have m:Fa d l t s=d.foldl (KA l t s) ((l.getD 0 c0).2,false):=rfl;have y:(l.getD 0 c0).2.length<=64:=w _ (AE l c0 q);have z:(List.getD l 0 (ByteArray.empty,[])).2=(l.getD 0 c0).2:=rfl;rw[z];generalize (l.getD 0 c0).2=c at *;refine AK (ι:={i:Nat//i<=d.length}) (λi=>⟨[(0,.p FF d),(1,.p J6 l),(2,.p T3 t),(3,.p T9 s),(10,.p .bool ((d.take i.1).foldl (KA l t s) (c,false)).2),(11,.p BT ((d.take i.1).foldl (KA l t s) (c,false)).1),(12,.p (.int .i64) (i.1:Int))],[]⟩) (λi=>d.length-i.1) ⟨0,IN _⟩ (AC [] rfl rfl ?_ ?_) (λi=>?_)
  ·exact eN
  ·refine eM ?_;exact⟨rfl,rfl⟩
  ·obtain⟨i,hi⟩:=i;have hi:i<=d.length:=hi;have B:=Wf (l:=l) t s (d.take i) (o:=(c,false)) y;have hs:=λh:i<d.length=>E2 (KA l t s) d d0 (c,false) h;have E:=λh:i<d.length=>r.1 _ (AE d d0 h);have D:=λ(h:i<d.length) (g:(DE (d.getD i d0) s).2=true)=>r.value (AE d d0 h) g;have k:∀o x,KA l t s o x=(if (!(DE x s).2||!LV l (BN l x.1) t)=true then o else (Ec o.1 (l.getD (BN l (DE x s).1).toNat c0).2,true)):=λ_ _=>rfl;generalize v:(d.take i).foldl (KA l t s) (c,false)=o at *;simp only;repeat'(first|exact trivial|refine eS rfl ?_|refine AB ?_|refine rX f ?_ ?_|refine rC ?_ ?_<;>intro a<;>try(cases a;done))
   ·exact a
   ·have b:i<d.length:=IS.1 a;exact⟨λ_=>a,λ_=>⟨⟨E b,Tv _ _⟩,j,F⟩⟩
   ·exact eV
   ·have b:i<d.length:=IS.1 (by assumption);have e:=hs b;rw[k,BY (by rw[S8,RZ,RZ];exact a)]at e;refine⟨⟨i+1,by omega⟩,by simp only;omega,AC [] rfl rfl ?_ ?_⟩
    ·exact eN
    ·refine eM ?_;rw[e];exact⟨rfl,rfl⟩
   ·have b:i<d.length:=IS.1 (by assumption);exact⟨⟨D b a.1,Tv _ _⟩,Rc B (by decide)⟩
   ·exact eV
   ·have b:i<d.length:=IS.1 (by assumption);have e:=hs b;have C:¬(!(DE (d.getD i d0) s).2||!LV l (BN l (d.getD i d0).1) t)=true:=by
     rw[S8,RZ,RZ];rintro (h|h)
     ·rw[show (DE (d.getD i d0) s).2=true from a.1]at h;cases h
     ·rw[show LV l (BN l (d.getD i d0).1) t=true from a.2]at h;cases h
    rw[k,An C]at e;refine⟨⟨i+1,by omega⟩,by simp only;omega,AC [] rfl rfl ?_ ?_⟩
    ·exact eN
    ·refine eM ?_;rw[e];exact⟨rfl,rfl⟩
   ·have b:d.take i=d:=As (RY.1 a);rw[b]at v;rw[v]at m;exact fI f [.tmp 8,.tmp 9] (by rw[m];exact eR)
end
theorem Tw:∀ {l:List AI},ML l=0->∀x∈l,x.2.1.length<=256/\x.2.2.length<=256
 | [],_,x,a=>by cases a
 | y :: l,h,x,a=>by
  simp only[ML]at h;split at h
  ·cases h
  ·rename_i h1;rcases DO.1 a with rfl|a
   ·exact⟨by omega,by omega⟩
   ·exact Tw h x a
theorem LC {d:List AI} (h:A5 d=0):∀x∈d,x.2.1.length<=256/\x.2.2.length<=256:=by
 have h1:FG d=0:=by
  unfold A5 at h;split at h
  ·rename_i h1;exact absurd h h1
  ·rename_i h1;exact Do h1
 unfold FG at h1;split at h1
 ·cases h1
 ·exact Tw h1
theorem O5 {d:List AI} (h:A5 d=0):∀x∈AL d,x.2.length<=64:=by
 intro x e;obtain⟨-,a,-⟩:=Ay h;obtain⟨b,c,rfl⟩:=DZ.1 e;exact Qh (O4 a) b c
theorem iW {all:List ByteArray} {l:List FV}:∀ {r:List FV} {k:Nat},dcG all l k r=0->∀y∈r,AZ all y.2=true
 | [],_,_,y,a=>by cases a
 | x :: r,k,h,y,a=>by
  simp only[dcG]at h;split at h
  ·cases h
  ·split at h
   ·cases h
   ·split at h
    ·cases h
    ·rename_i b;rcases DO.1 a with rfl|a
     ·simpa using b
     ·exact iW h y a
theorem ZQ {all:List ByteArray}:∀ {l:List AI},cR all l=0->∀x∈l,∀y∈x.2.2,AZ all y.2=true
 | [],_,x,a=>by cases a
 | z :: l,h,x,a=>by
  simp only[cR]at h;split at h
  ·rename_i h1;exact absurd h h1
  ·rename_i h1;rcases DO.1 a with rfl|a
   ·exact iW (Do h1)
   ·exact ZQ h x a
theorem Qj {d:List AI} (h:A5 d=0) (b:LB d=0):nG d (AL d) :=
 ⟨λx a=>Tu h a,λx a y c=>G0 h (ZQ b x a y c)⟩
section
attribute [local go_sem] SZ WX nE cS A78
def LD (d:List AI) (l:List AR) (t:Nat) (s:ByteArray):Bool:=(Fa d l (t:Int) s).2&&((Fa d l (t:Int) s).1.length:Int)==0
def cU (d:List AI) (l:List AR) (f:List ByteArray) (t:Nat):Bool:=f.any (LD d l t)
def X1 (d:List AI) (l:List AR) (f:List ByteArray) (n:Nat):Bool:=(List.range n).any (cU d l f)
theorem iX (d:List AI) (l:List AR) (f:List ByteArray) (n:Nat):X1 d l f (n+1)=(X1 d l f n||cU d l f n):=by
 unfold X1;rw[TD,AED];simp
def Ax (d:List AI):Int :=
 if (B6 d).2≠0 then (B6 d).2 else if 64<(BO d).length then 7 else if LB d≠0 then LB d else
 if ((BO d).all λs=>(Da d s).2)=false then 10 else if X1 d (B6 d).1 (BO d) (B6 d).1.length=true then 11 else 0
def Uw:Aa:={ ins:=[FF],pre:=λ_=>True,out:=λ(d,_)=>[.p Lo (Ax d)] }
theorem ZR:Ad Tryz.prog 156 Uw:=by
 refine fK [0,2,3,4,5,6,7,9,10,11,12,13,20,26,30,35,48,52,58,77] Tryz.func156 Tryz.ntmps156 (AF Qi (AF WY (AF A39 (AF iT (AF A3b AH))))) ?_;rintro w0 O0 ⟨d,u⟩ b - -;simp only[Uw,AM];repeat'(first|exact trivial|refine eS rfl ?_|refine rX b ?_ ?_|refine rC ?_ ?_<;>intro a<;>try(cases a;done))
 ·have h1:Ax d=(B6 d).2:=by unfold Ax;rw[BY a]
  exact fI b [.tmp 2] (by rw[h1];exact eR)
 ·have c:(B6 d).2=0:=by simpa using a
  obtain⟨e,-,-⟩:=BZ c;obtain⟨-,r,-⟩:=Ay e;exact⟨r,λx L=>(LC e x L).2⟩
 ·have c:(B6 d).2=0:=by simpa using ‹((B6 d).2 != 0)=false›
  have h1:Ax d=7:=by
   unfold Ax;rw[An (by rw[c];simp),BY (by omega)]
  exact fI b [.tmp 2] (by rw[h1];exact eR)
 ·have c:(B6 d).2=0:=by simpa using ‹((B6 d).2 != 0)=false›
  obtain⟨e,-,-⟩:=BZ c;exact(Ay e).2.1
 ·have c:(B6 d).2=0:=by simpa using ‹((B6 d).2 != 0)=false›
  have h1:Ax d=LB d:=by
   unfold Ax;rw[An (by rw[c];simp),An (by omega),BY a]
  exact fI b [.tmp 2] (by rw[h1];exact eR)
 ·have c:(B6 d).2=0:=by simpa using ‹((B6 d).2 != 0)=false›
  have v:LB d=0:=by simpa using a
  obtain⟨e,C,B⟩:=BZ c;obtain⟨H,r,-⟩:=Ay e;have E:=Qj e v;have K:=O5 e;have M:=w9 e;have D:(AL d).length<=256:=by rw[IL];exact C
  have g:Ax d=if ((BO d).all λs=>(Da d s).2)=false then 10 else if X1 d (B6 d).1 (BO d) (B6 d).1.length=true then 11 else 0:=by
   unfold Ax;rw[An (by rw[c];simp),An (by omega),An (by rw[v];simp)]
  rw[B]at g ⊢;generalize AL d=l at *;generalize BO d=f at *;refine AK (ι:={i:Nat//i<=f.length/\((f.take i).all λs=>(Da d s).2)=true}) (λi=>⟨[(0,.p FF d),(3,.p J6 l),(5,.p Fy f),(7,.p (.int .i64) (i.1:Int))],[]⟩) (λi=>f.length-i.1) ⟨0,IN _,rfl⟩ (eW []) (λi=>?_)
  ·obtain⟨i,hi,n⟩:=i;have G:=λh:i<f.length=>GZ f ByteArray.empty (λs=>(Da d s).2) h;simp only;repeat'(first|exact trivial|refine eS rfl ?_|refine AB ?_|refine rX b ?_ ?_|refine rC ?_ ?_<;>intro a<;>try(cases a;done))
   ·exact⟨a,H,r⟩
   ·have j:i<f.length:=IS.1 (by assumption);have z:(f.all λs=>(Da d s).2)=false:=by
     rw[AEe];intro h;have:=If.1 h _ (AE f ByteArray.empty j);rw[show (Da d (f.getD i ByteArray.empty)).2=false from a]at this;cases this
    rw[BY z]at g;exact fI b [.tmp 2] (by rw[g];exact eR)
   ·omega
   ·have j:i<f.length:=IS.1 (by assumption);refine⟨⟨i+1,j,?_⟩,by simp only;omega,AC [] rfl rfl ?_ ?_⟩
    ·rw[G j,n];exact a
    ·exact eN
    ·exact eN
   ·have j:f.take i=f:=As (RY.1 a);rw[j]at n;rw[An (by rw[n];simp)]at g;refine AK (ι:={t:Nat//t<=l.length/\X1 d l f t=false}) (λt=>⟨[(0,.p FF d),(3,.p J6 l),(5,.p Fy f),(10,.p (.int .i64) (t.1:Int))],[]⟩) (λt=>l.length-t.1) ⟨0,IN _,rfl⟩ (eW []) (λt=>?_)
    ·obtain⟨t,N,y⟩:=t;have J:=iX d l f t;simp only;repeat'(first|exact trivial|refine eS rfl ?_|refine rX b ?_ ?_|refine rC ?_ ?_<;>intro a<;>try(cases a;done))
     ·have w:t<l.length:=IS.1 a;refine AK (ι:={k:Nat//k<=f.length/\(f.take k).any (LD d l t)=false}) (λk=>⟨[(0,.p FF d),(3,.p J6 l),(5,.p Fy f),(10,.p (.int .i64) (t:Int)),(11,.p (.int .i64) (k.1:Int))],[]⟩) (λk=>f.length-k.1) ⟨0,IN _,rfl⟩ (eW []) (λk=>?_)
      ·obtain⟨k,hk,o⟩:=k;have F:=λh:k<f.length=>NK f ByteArray.empty (LD d l t) h;simp only;repeat'(first|exact trivial|refine eS rfl ?_|refine AB ?_|refine rX b ?_ ?_|refine rC ?_ ?_<;>intro a<;>try(cases a;done))
       ·exact⟨a,E,by assumption,D,K⟩
       ·have m:k<f.length:=IS.1 (by assumption);have q:LD d l t (f.getD k ByteArray.empty)=true:=by
         unfold LD;rw[AT,TC];exact a
        have A:X1 d l f l.length=true:=by
         unfold X1;rw[Rd];exact⟨t,Ri.2 w,I9 f ByteArray.empty _ m q⟩
        rw[BY A]at g;exact fI b [.tmp 2] (by rw[g];exact eR)
       ·omega
       ·have m:k<f.length:=IS.1 (by assumption);have q:LD d l t (f.getD k ByteArray.empty)=false:=by
         rw[AEe];unfold LD;intro h;rw[AT,TC]at h;exact a h.1 h.2
        refine⟨⟨k+1,m,?_⟩,by simp only;omega,AC [] rfl rfl ?_ ?_⟩
        ·rw[F m,o,q];rfl
        ·exact eN
        ·exact eN
       ·omega
       ·have m:f.take k=f:=As (RY.1 a);rw[m]at o;refine⟨⟨t+1,w,?_⟩,by simp only;omega,AC [] rfl rfl ?_ ?_⟩
        ·rw[J,y];exact o
        ·exact eN
        ·exact eN
     ·have I:t=l.length:=by exact eV
      subst I;rw[An (by rw[y];simp)]at g;exact fI b [.tmp 2] (by rw[g];exact eR)
end
section
attribute [local go_sem] Uw SZ WX cS Uv
abbrev ZS:=ByteArray×Int
theorem CC {d:List AI} (h:Ax d=0):(B6 d).2=0/\(BO d).length<=64/\LB d=0:=by
 unfold Ax at h;split at h
 ·rename_i h1;exact absurd h h1
 ·rename_i h1;split at h
  ·cases h
  ·rename_i b;split at h
   ·rename_i a;exact absurd h a
   ·rename_i a;exact⟨Do h1,by omega,Do a⟩
def Qk (d:List AI) (s:ByteArray):ZS:=(s,BN (AL d) (Da d s).1)
def EK (d:List AI):List ZS×Int:=if Ax d≠0 then ([],Ax d) else ((BO d).map (Qk d),0)
theorem EL {α β:Type} (f:α->β) (l:List α) (d:α) {k:Nat} (h:k<l.length):(l.take (k+1)).map f=(l.take k).map f++[f (l.getD k d)]:=by
 rw[A0 l d h,iN];rfl
theorem cV {α β:Type} (f:α->β) (l:List α) {k:Nat} (h:k<=l.length):((l.take k).map f).length=k:=by simp[h]
def Sa:Aa:={ ins:=[FF],pre:=λ_=>True,out:=λ(d,_)=>[.p YV (EK d).1,.p Lo (EK d).2] }
theorem iY:Ad Tryz.prog 120 Sa:=by
 refine fK [0,2,3,4,5,7,8,9,10,15,27] Tryz.func120 Tryz.ntmps120 (AF ZR (AF Qi (AF WY (AF iT (AF ZH AH))))) ?_;rintro w0 O0 ⟨d,u⟩ g - -;simp only[Sa,AM];repeat'(first|exact trivial|refine eS rfl ?_|refine rX g ?_ ?_|refine rC ?_ ?_<;>intro a<;>try(cases a;done))
 ·have h1:EK d=([],Ax d):=by unfold EK;rw[BY a]
  exact fI g [.tmp 2,.tmp 3] (by rw[h1];exact eR)
 ·have c:Ax d=0:=by simpa using a
  obtain⟨k,-,-⟩:=CC c;obtain⟨b,-,-⟩:=BZ k;exact⟨(Ay b).2.1,λx r=>(LC b x r).2⟩
 ·have c:Ax d=0:=by simpa using a
  obtain⟨k,s,-⟩:=CC c;obtain⟨b,-,m⟩:=BZ k;obtain⟨q,l,-⟩:=Ay b;have o:EK d=((BO d).map (Qk d),0):=by unfold EK;rw[An (by rw[c];simp)]
  rw[m];generalize BO d=f at *;refine AK (ι:={i:Nat//i<=f.length}) (λi=>⟨[(0,.p FF d),(5,.p J6 (AL d)),(7,.p Fy f),(8,.sr 49 A2y 0 ((f.take i.1).map (Qk d)).length),(9,.p (.int .i64) (i.1:Int))],[(49,.arr 163 A2y ((f.take i.1).map (Qk d)))]⟩) (λi=>f.length-i.1) ⟨0,IN _⟩ (eW [(49,.nil)]) (λi=>?_)
  ·obtain⟨i,hi⟩:=i;have n:=cV (Qk d) f hi;have hs:=λh:i<f.length=>EL (Qk d) f ByteArray.empty h;simp only;repeat'(first|exact trivial|refine eS rfl ?_|refine AB ?_|refine rX g ?_ ?_|refine rC ?_ ?_<;>intro a<;>try(cases a;done))
   ·exact⟨a,q,l⟩
   ·refine⟨a,?_⟩;rw[n];simp only[AP];omega
   ·omega
   ·have j:i<f.length:=IS.1 a;have e:=hs j;refine⟨⟨i+1,j⟩,by simp only;omega,AC [(49,.nm 49)] rfl rfl ?_ ?_⟩
    ·simp only[e];refine eM ?_;rfl
    ·simp only[e];exact eN
   ·have j:f.take i=f:=As (RY.1 a);rw[j];refine FQ [49] ?_;exact fI g [.tmp 2,.tmp 3] (by rw[o];exact eR)
end
section
attribute [local go_sem] Uw SZ WX A78 mY
def Uc (d:List AI) (l:List AR) (f:List ByteArray) (t:Nat) (n:Nat):List (Int×Int) :=
 ((List.range n).filter λ(i:Nat)=>(Fa d l (t:Int) (f.getD i ByteArray.empty)).2).map λ(i:Nat)=>((i:Int),HK l (Fa d l (t:Int) (f.getD i ByteArray.empty)).1)
def KB (d:List AI) (l:List AR) (f:List ByteArray) (n:Nat):List (List (Int×Int)):=(List.range n).map λt=>Uc d l f t f.length
def BC (d:List AI):List (List (Int×Int))×Int:=if Ax d≠0 then ([],Ax d) else (KB d (AL d) (BO d) (AL d).length,0)
theorem ZT (d:List AI) (l:List AR) (f:List ByteArray) (t n:Nat):Uc d l f t (n+1)=Uc d l f t n++if (Fa d l (t:Int) (f.getD n ByteArray.empty)).2=true then [((n:Int),HK l (Fa d l (t:Int) (f.getD n ByteArray.empty)).1)] else []:=by
 unfold Uc;rw[TD,AEp,iN]
 congr 1
 rw[f5,AEC];split<;>rfl
theorem A3c (d:List AI) (l:List AR) (f:List ByteArray) (t n:Nat):(Uc d l f t n).length<=n:=by
 unfold Uc;rw[RU];exact Rc (aS _ _) (by simp)
theorem nH (d:List AI) (l:List AR) (f:List ByteArray) (n:Nat):KB d l f (n+1)=KB d l f n++[Uc d l f n f.length]:=by simp[KB,TD]
theorem ZU (d:List AI) (l:List AR) (f:List ByteArray) (n:Nat):(KB d l f n).length=n:=by simp[KB]
theorem A3d {d:List AI} {l:List AR} (h:∀x∈l,x.2.length<=64) (t:Int) (s:ByteArray):(Fa d l t s).1.length<=64:=by
 unfold Fa;refine Wf t s d ?_;rw[AS];cases hh:l[0]? with
 | none=>simp
 | some x=>exact h x (iF hh)
def Wg:Aa:={ ins:=[FF],pre:=λ_=>True,out:=λ(d,_)=>[.p A5J (BC d).1,.p Lo (BC d).2] }
theorem nI:Ad Tryz.prog 117 Wg:=by
 refine fK [0,2,3,4,5,7,8,9,10,11,12,13,17,29,35,49] Tryz.func117 Tryz.ntmps117 (AF ZR (AF Qi (AF WY (AF A3b (AF A2Y AH))))) ?_;rintro w0 O0 ⟨d,u⟩ e - -;simp only[Wg,AM];repeat'(first|exact trivial|refine eS rfl ?_|refine rX e ?_ ?_|refine rC ?_ ?_<;>intro a<;>try(cases a;done))
 ·have h1:BC d=([],Ax d):=by unfold BC;rw[BY a]
  exact fI e [.tmp 2,.tmp 3] (by rw[h1];exact eR)
 ·have h:Ax d=0:=by simpa using a
  obtain⟨m,-,-⟩:=CC h;obtain⟨b,-,-⟩:=BZ m;exact⟨(Ay b).2.1,λx z=>(LC b x z).2⟩
 ·have h:Ax d=0:=by simpa using a
  obtain⟨m,B,o⟩:=CC h;obtain⟨b,j,r⟩:=BZ m;obtain⟨D,A,-⟩:=Ay b;have y:BC d=(KB d (AL d) (BO d) (AL d).length,0):=by unfold BC;rw[An (by rw[h];simp)]
  have w:=Qj b o;have n:=O5 b;have v:(AL d).length<=256:=by rw[IL];exact j
  rw[r];generalize AL d=l at *;generalize BO d=f at *;have q:=λt s=>A3d (d:=d) n t s;refine AK (ι:={t:Nat//t<=l.length}) (λt=>⟨[(0,.p FF d),(5,.p J6 l),(7,.p Fy f),(8,.sr 61 WM 0 (KB d l f t.1).length),(9,.p (.int .i64) (t.1:Int))],[(61,.arr 142 WM (KB d l f t.1))]⟩) (λt=>l.length-t.1) ⟨0,IN _⟩ (AC [(61,.nil)] rfl rfl ?_ ?_) (λt=>?_)
  ·refine eM ?_;rfl
  ·refine eM ?_;rfl
  ·obtain⟨t,E⟩:=t;have j:=ZU d l f t;have hs:=nH d l f t;simp only;repeat'(first|exact trivial|refine eS rfl ?_|refine rX e ?_ ?_|refine rC ?_ ?_<;>intro a<;>try(cases a;done))
   ·refine AK (ι:={i:Nat//i<=f.length}) (λi=>⟨[(0,.p FF d),(5,.p J6 l),(7,.p Fy f),(8,.sr 61 WM 0 (KB d l f t).length),(9,.p (.int .i64) (t:Int)),(10,.sr 57 A2z 0 (Uc d l f t i.1).length),(11,.p (.int .i64) (i.1:Int))],[(61,.arr 142 WM (KB d l f t)),(57,.arr 170 A2z (Uc d l f t i.1))]⟩) (λi=>f.length-i.1) ⟨0,IN _⟩ (AC [(61,.nm 61),(57,.nil)] rfl rfl ?_ ?_) (λi=>?_)
    ·refine eM ?_;rfl
    ·refine eM ?_;rfl
    ·obtain⟨i,hi⟩:=i;have C:=A3c d l f t i;have c:=ZT d l f t i;simp only;repeat'(first|exact trivial|refine eS rfl ?_|refine AB ?_|refine rX e ?_ ?_|refine rC ?_ ?_<;>intro a<;>try(cases a;done))
     ·exact⟨a,w,by assumption,v,n⟩
     ·refine⟨Rc (q _ _) (by decide),?_⟩;simp only[AP];omega
     ·omega
     ·have g:i<f.length:=IS.1 (by assumption);rw[BY a]at c;refine⟨⟨i+1,g⟩,by simp only;omega,AC [(61,.nm 61),(57,.nm 57)] rfl rfl ?_ ?_⟩
      ·simp only[c];exact eN
      ·simp only[c];exact eN
     ·omega
     ·have g:i<f.length:=IS.1 (by assumption);rw[An (by rw[a];simp),Rq]at c;refine⟨⟨i+1,g⟩,by simp only;omega,AC [(61,.nm 61),(57,.nm 57)] rfl rfl ?_ ?_⟩
      ·simp only[c];exact eN
      ·simp only[c];exact eN
     ·rw[j];simp only[AP];omega
     ·omega
     ·have k:t<l.length:=IS.1 (by assumption);have g:i=f.length:=by omega
      subst g;refine⟨⟨t+1,k⟩,by simp only;omega,AC [(61,.nm 61)] rfl rfl ?_ ?_⟩
      ·simp only[hs];exact eN
      ·simp only[hs];exact eN
   ·have k:t=l.length:=by omega
    subst k;refine FQ [61] ?_;exact fI e [.tmp 2,.tmp 3] (by rw[y];exact eR)
end
section
attribute [local go_sem] cs0
def LX (l:List ByteArray) (n:Nat):List FV:=(List.range n).map λk=>(l.getD (2*k) ByteArray.empty,l.getD (2*k+1) ByteArray.empty)
theorem Wh (l:List ByteArray) (n:Nat):LX l (n+1)=LX l n++[(l.getD (2*n) ByteArray.empty,l.getD (2*n+1) ByteArray.empty)]:=by simp[LX,TD]
theorem ZV (l:List ByteArray) (n:Nat):(LX l n).length=n:=by simp[LX]
def cW (s:ByteArray):List ByteArray:=if AY s ByteArray.empty=true then [] else [s]
def GN (n s:ByteArray) (l:List ByteArray):AI:=(n,cW s,LX l (l.length / 2))
def A3e:Aa:={ ins:=[T9,T9,Fy],pre:=λ(_,_,l,_)=>List.length l<=1000,out:=λ(n,s,l,_)=>[.p z4 (GN n s l)] }
theorem A79:Ad Tryz.prog 121 A3e:=by
 refine fK [0,1,2,6,7,8,12,20] Tryz.func121 Tryz.ntmps121 AH ?_;rintro w0 O0 ⟨n,s,l,u⟩ b-i;have i:l.length<=1000:=i;simp only[A3e,AM];repeat'(first|exact trivial|refine eS rfl ?_|refine AB ?_|refine rX b ?_ ?_|refine rC ?_ ?_<;>intro a<;>try(cases a;done))
 ·have f:=a;refine FQ [14] ?_;refine AK (ι:={k:Nat//2*k<=l.length}) (λk=>⟨[(2,.p Fy l),(6,.bp 6 [] 0),(7,.bp 7 [] 0),(8,.p (.int .i64) ((2*k.1:Nat):Int))],[(6,.box 158 true [.p T9 ByteArray.empty,.raw (.slice none 0 0),.raw (.slice none 0 0)]),(7,.box 158 true [.p T9 n,.p Fy [s],.sr 36 mL 0 (LX l k.1).length]),(36,.arr 161 mL (LX l k.1))]⟩) (λk=>l.length-2*k.1) ⟨0,IN _⟩ (AC [(6,.nm 6),(7,.nm 7),(36,.nil)] rfl rfl ?_ ?_) (λk=>?_)
  ·first|exact eN|refine eM ?_
   exact⟨rfl,rfl⟩
  ·first|exact eN|refine eM ?_
  ·obtain⟨k,hk⟩:=k;have g:=ZV l k;have d:=Wh l k;simp only;repeat'(first|exact trivial|refine eS rfl ?_|refine AB ?_|refine rX b ?_ ?_|refine rC ?_ ?_<;>intro a<;>try(cases a;done))
   ·exact eV
   ·refine⟨by exact eV,⟨by exact eV,by exact eV⟩,⟨by exact eV,by exact eV⟩,?_⟩;rw[g];simp only[AP];exact eV
   ·exact eV
   ·have c:2*k+1<l.length:=by exact eV
    have e:((2*k:Nat):Int)+1=((2*k+1:Nat):Int):=by omega
    refine⟨⟨k+1,by omega⟩,by simp only;omega,AC [(6,.nm 6),(7,.nm 7),(36,.nm 36)] rfl rfl ?_ ?_⟩
    ·simp only[d];first|exact eN|refine eM ?_
     rw[e];rfl
    ·simp only[d];first|exact eN|refine eM ?_
     show ((2*k:Nat):Int)+2=((2*(k+1):Nat):Int);omega
   ·have c:k=l.length / 2:=by exact eV
    refine FQ [36] ?_;have h:GN n s l=(n,[s],LX l k):=by
     unfold GN cW;rw[<-c,An (by rw[show AY s ByteArray.empty=false from f];simp)]
    exact fI b [.cell 6 158] (by rw[h];exact eR)
 ·have f:=a;refine AK (ι:={k:Nat//2*k<=l.length}) (λk=>⟨[(2,.p Fy l),(6,.bp 6 [] 0),(7,.bp 7 [] 0),(8,.p (.int .i64) ((2*k.1:Nat):Int))],[(6,.box 158 true [.p T9 ByteArray.empty,.raw (.slice none 0 0),.raw (.slice none 0 0)]),(7,.box 158 true [.p T9 n,.p Fy ([]:List ByteArray),.sr 36 mL 0 (LX l k.1).length]),(36,.arr 161 mL (LX l k.1))]⟩) (λk=>l.length-2*k.1) ⟨0,IN _⟩ (AC [(6,.nm 6),(7,.nm 7),(36,.nil)] rfl rfl ?_ ?_) (λk=>?_)
  ·first|exact eN|refine eM ?_
   exact⟨rfl,rfl⟩
  ·first|exact eN|refine eM ?_
  ·obtain⟨k,hk⟩:=k;have g:=ZV l k;have d:=Wh l k;simp only;repeat'(first|exact trivial|refine eS rfl ?_|refine AB ?_|refine rX b ?_ ?_|refine rC ?_ ?_<;>intro a<;>try(cases a;done))
   ·exact eV
   ·refine⟨by exact eV,⟨by exact eV,by exact eV⟩,⟨by exact eV,by exact eV⟩,?_⟩;rw[g];simp only[AP];exact eV
   ·exact eV
   ·have c:2*k+1<l.length:=by exact eV
    have e:((2*k:Nat):Int)+1=((2*k+1:Nat):Int):=by omega
    refine⟨⟨k+1,by omega⟩,by simp only;omega,AC [(6,.nm 6),(7,.nm 7),(36,.nm 36)] rfl rfl ?_ ?_⟩
    ·simp only[d];first|exact eN|refine eM ?_
     rw[e];rfl
    ·simp only[d];first|exact eN|refine eM ?_
     show ((2*k:Nat):Int)+2=((2*(k+1):Nat):Int);omega
   ·have c:k=l.length / 2:=by exact eV
    refine FQ [36] ?_;have h:GN n s l=(n,([]:List ByteArray),LX l k):=by
     unfold GN cW;rw[<-c,BY (show AY s ByteArray.empty=true from f)]
    exact fI b [.cell 6 158] (by rw[h];exact eR)
end
section
attribute [local go_sem] A3e cs0 cs1 cs2 cs3 cs4 cs5 cs6 cs7 cs8
def Cu:List AI:=[
 GN { data:=#[116,111,112] } { data:=#[] } [],
 GN { data:=#[108,105,115,116] } { data:=#[116,111,112] } [],
 GN { data:=#[99,111,110,115] } { data:=#[108,105,115,116] } [{ data:=#[70,73,82,83,84] },{ data:=#[116,111,112] },{ data:=#[82,69,83,84] },{ data:=#[108,105,115,116] }],
 GN { data:=#[110,117,108,108] } { data:=#[108,105,115,116] } [],
 GN { data:=#[100,108,105,115,116] } { data:=#[116,111,112] } [{ data:=#[76,73,83,84] },{ data:=#[108,105,115,116] },{ data:=#[76,65,83,84] },{ data:=#[108,105,115,116] }],
 GN { data:=#[105,110,100,101,120] } { data:=#[116,111,112] } [],
 GN { data:=#[104,97,110,100,108,101] } { data:=#[105,110,100,101,120] } [],
 GN { data:=#[101,118,101,110,116] } { data:=#[105,110,100,101,120] } [],
 GN { data:=#[101,110,116,105,116,121] } { data:=#[105,110,100,101,120] } [],
 GN { data:=#[114,101,108] } { data:=#[116,111,112] } [{ data:=#[76,65,66,69,76] },{ data:=#[104,97,110,100,108,101] }],
 GN { data:=#[113,101,113] } { data:=#[116,111,112] } [{ data:=#[72,73,71,72] },{ data:=#[104,97,110,100,108,101] },{ data:=#[76,79,87] },{ data:=#[104,97,110,100,108,101] }],
 GN { data:=#[115,101,109] } { data:=#[116,111,112] } [{ data:=#[84,79,80] },{ data:=#[104,97,110,100,108,101] },{ data:=#[73,78,68,69,88] },{ data:=#[105,110,100,101,120] },{ data:=#[82,69,76,83] },{ data:=#[100,108,105,115,116] },{ data:=#[67,79,78,83] },{ data:=#[100,108,105,115,116] }],
 GN { data:=#[115,105,103,110] } { data:=#[116,111,112] } [{ data:=#[83,69,77] },{ data:=#[115,101,109] },{ data:=#[65,82,71,83] },{ data:=#[108,105,115,116] }]]
def KC:Aa:={ ins:=[],pre:=λ_=>True,out:=λ_=>[.p FF Cu] }
theorem Wi:Ad Tryz.prog 63 KC:=by
 refine z2 [0] [3,6,12,14,16,18,20] [] Tryz.func63 Tryz.ntmps63 (AF A79 AH) ?_;rintro w0 O0 u a - -;simp only[KC,AM];repeat'(first|exact trivial|refine eS rfl ?_|refine rX a ?_ ?_)
 exact fI a [.tmp 0] (by unfold Cu;exact eR)
end
section
attribute [local go_sem] Wg SZ A37 Sa
abbrev G2:=ByteArray×List Int×List Int×List (Int×Int)
abbrev AG:=List G2×List ZS
def EZ (l:List AR) (v:List (List (Int×Int))) (n:Nat):List G2:=(List.range n).map λi=>((l.getD i c0).1,(l.getD i c0).2,ZP l (i:Int),v.getD i [])
theorem nJ (l:List AR) (v:List (List (Int×Int))) (n:Nat):EZ l v (n+1)=EZ l v n++[((l.getD n c0).1,(l.getD n c0).2,ZP l (n:Int),v.getD n [])]:=by simp[EZ,TD]
theorem KD (l:List AR) (v:List (List (Int×Int))) (n:Nat):(EZ l v n).length=n:=by simp[EZ]
def Bq (d:List AI):AG:=(EZ (AL d) (BC d).1 (AL d).length,(EK d).1)
def Au (d:List AI):AG×Int:=if (BC d).2≠0 then (([],[]),(BC d).2) else (Bq d,0)
def KE:Aa:={ ins:=[FF],pre:=λ_=>True,out:=λ(d,_)=>[.p ER (Au d).1,.p Lo (Au d).2] }
theorem nK:Ad Tryz.prog 62 KE:=by
 refine fK [0,2,3,4,5,6,8,9,10,18,29] Tryz.func62 Tryz.ntmps62 (AF nI (AF Qi (AF A76 (AF iY AH)))) ?_;rintro w0 O0 ⟨d,u⟩ b - -;simp only[KE,AM];repeat'(first|exact trivial|refine eS rfl ?_|refine rX b ?_ ?_|refine rC ?_ ?_<;>intro a<;>try(cases a;done))
 ·have h1:Au d=(([],[]),(BC d).2):=by unfold Au;rw[BY a]
  exact fI b [.cell 2 31,.tmp 3] (by rw[h1];exact eR)
 ·have c:(BC d).2=0:=by simpa using a
  have f:Ax d=0:=by
   unfold BC at c;split at c
   ·rename_i h;exact absurd c h
   ·rename_i h;exact Do h
  obtain⟨t,x,w⟩:=CC f;obtain⟨j,m,k⟩:=BZ t;have g:Au d=(Bq d,0):=by unfold Au;rw[An (by rw[c];simp)]
  have r:(BC d).1.length=(AL d).length:=by
   unfold BC;rw[An (by rw[f];simp)];exact ZU _ _ _ _
  have s:=O5 j;have o:(AL d).length<=256:=by rw[IL];exact m
  unfold Bq at g;rw[k];generalize AL d=l at *;generalize (BC d).1=v at *;refine AK (ι:={n:Nat//n<=l.length}) (λn=>⟨[(0,.p FF d),(2,.bp 2 [] 0),(4,.p A5J v),(6,.p J6 l),(8,.bp 8 [] 0),(9,.p (.int .i64) (n.1:Int))],[(2,.box 31 true [.raw (.slice none 0 0),.raw (.slice none 0 0)]),(8,.box 31 true [.sr 53 mM 0 (EZ l v n.1).length,.raw (.slice none 0 0)]),(53,.arr 144 mM (EZ l v n.1))]⟩) (λn=>l.length-n.1) ⟨0,IN _⟩ (AC [(2,.nm 2),(8,.nm 8),(53,.nil)] rfl rfl ?_ ?_) (λn=>?_)
  ·refine eM ?_;exact⟨rfl,rfl⟩
  ·exact eN
  ·obtain⟨n,hn⟩:=n;have q:=KD l v n;have i:=nJ l v n;simp only;repeat'(first|exact trivial|refine eS rfl ?_|refine AB ?_|refine rX b ?_ ?_|refine rC ?_ ?_<;>intro a<;>try(cases a;done))
   ·refine⟨a,a,⟨a,o,s⟩,by rw[r];exact a,?_⟩;rw[q];simp only[AP];omega
   ·omega
   ·have e:n<l.length:=IS.1 a;refine⟨⟨n+1,e⟩,by simp only;omega,AC [(2,.nm 2),(8,.nm 8),(53,.nm 53)] rfl rfl ?_ ?_⟩
    ·simp only[i];exact eN
    ·simp only[i];exact eN
   ·have e:n=l.length:=by omega
    subst e;refine FQ [53] ?_;exact fI b [.cell 2 31,.tmp 3] (by rw[g];exact eR)
def IP (d:List AI):AG:=if d.length<=20/\(Au d).2=0 then (Au d).1 else (Au Cu).1
end
abbrev AD7:=Int×List (Int×Int)
def Fb (f:List AD7):Bool:=decide (f.length<=12)&&f.all λn=>decide (n.2.length<=12)
def Jh:Aa:={ ins:=[DR],pre:=λ_=>True,out:=λ(f,_)=>[.p .bool (Fb f)] }
theorem A3f:Ad Tryz.prog 18 Jh:=by
 refine fK [0,1,2,3,7,12,22] Tryz.func18 Tryz.ntmps18 AH ?_;rintro w0 O0 ⟨l,u⟩ a e f;simp only[Jh,AM];repeat'(first|exact trivial|refine eS rfl ?_|refine rX a ?_ ?_|refine rC ?_ ?_<;>intro b<;>try(cases b;done))
 ·have h1:Fb l=false:=by
   have h:¬(List.length l<=12):=by exact eV
   unfold Fb;rw[AE0 h];rfl
  exact fI a [.tmp 2] (by rw[h1];exact eR)
 ·refine AK (ι:={k:Nat//k<=l.length/\(l.take k).all (λn=>decide (n.2.length<=12))=true}) (λk=>⟨[(0,.p DR l),(1,.bp 1 [] 0),(3,.p (.int .i64) (k.1:Int))],[(1,.box 25 true [.p FY l])]⟩) (λk=>l.length-k.1) ⟨0,by simp⟩ (AC [(1,.nm 1)] rfl rfl ?_ ?_) (λk=>?_)
  ·exact eN
  ·exact eN
  ·obtain⟨k,hk,c⟩:=k;repeat'(first|exact trivial|refine eS rfl ?_|refine AB ?_|refine rX a ?_ ?_|refine rC ?_ ?_<;>intro b<;>try(cases b;done))
   ·exact eV
   ·have h1:Fb l=false:=by
     have hk:k<l.length:=by exact eV
     have h:=AE l (0,[]) hk;unfold Fb;rw[AD6];right;rw[ADY];exact⟨_,h,by simp only[Ff];exact eV⟩
    exact fI a [.tmp 2] (by rw[h1];exact eR)
   ·exact eV
   ·have hk:k<l.length:=by exact eV
    refine⟨⟨k+1,by exact eV,?_⟩,by simp only;exact eV,AC [(1,.nm 1)] rfl rfl ?_ ?_⟩
    ·have h1:=A0 l (0,[]) hk;have d:((l.take (k+1)).all λn=>decide (n.2.length<=12))=_:=ADB (λx=>List.all x λn=>decide (n.2.length<=12)) h1;rw[d,AEE,c];simp only[AE5,List.all_nil,Bool.and_true,AFs,Ff];exact eV
    ·exact eN
    ·exact eN
   ·have h1:Fb l=true:=by
     have hk:l.take k=l:=As (by exact eV);rw[hk]at c;unfold Fb;rw[c,ADZ (by exact eV)];rfl
    exact fI a [.tmp 2] (by rw[h1];exact eR)
def G7 (n:Int) (seen:List (Int×Int)):List (Int×Int)->Int
 | []=>0
 | x :: r=>if x.1<0\/x.2<0\/n<=x.2 then 2 else if (seen.any λy=>y.1==x.1)=true then 4 else G7 n (seen++[x]) r
def IQ (l:List (Int×Int)) (n:Int):Int:=G7 n [] l
def iZ:Aa:={ ins:=[DN,T3],pre:=λ_=>True,out:=λ(l,n,_)=>[.p Lo (IQ l n)] }
theorem O6 (n:Int) (l:List (Int×Int)) {k:Nat} (h:k<l.length):G7 n (l.take k) (l.drop k)=if (l.getD k (0,0)).1<0\/(l.getD k (0,0)).2<0\/n<=(l.getD k (0,0)).2 then 2 else if ((l.take k).any λy=>y.1==(l.getD k (0,0)).1)=true then 4 else G7 n (l.take (k+1)) (l.drop (k+1)):=by
 rw[A0 l (0,0) h,On h,AS,At h];rfl
theorem YX (l:List (Int×Int)) (f:Int) {k:Nat} (h:k<l.length):((l.take (k+1)).any λy=>y.1==f)=((l.take k).any (λy=>y.1==f)||((l.getD k (0,0)).1==f)):=by
 rw[A0 l (0,0) h,AED];simp
theorem A7a:Ad Tryz.prog 174 iZ:=by
 refine fK [0,1,4,5,6,10,35,38,51] Tryz.func174 Tryz.ntmps174 AH ?_;rintro w0 O0 ⟨l,n,u⟩ b ⟨⟨h,-⟩,-⟩ -;simp only[AP]at h;simp only[iZ,AM];repeat'(first|exact trivial|refine eS rfl ?_|refine rX b ?_ ?_)
 refine AK (ι:={k:Nat//k<=l.length/\G7 n (l.take k) (l.drop k)=IQ l n}) (λk=>⟨[(0,.p DN l),(1,.p T3 n),(5,.p (.int .i64) (k.1:Int))],[]⟩) (λk=>l.length-k.1) ⟨0,by simp[IQ]⟩ (AC [] rfl rfl ?_ ?_) (λk=>?_)
 ·exact eN
 ·exact eN
 ·obtain⟨k,hk,c⟩:=k;repeat'(first|exact trivial|refine eS rfl ?_|refine rX b ?_ ?_|refine rC ?_ ?_<;>intro a<;>try(cases a;done))
  ·exact eV
  ·have hk:k<l.length:=by exact eV
   have h1:IQ l n=2:=by
    rw[<-c,O6 n l hk,BY (by rw[<-or_assoc];exact a)]
   exact fI b [.tmp 4] (by rw[h1];exact eR)
  ·have hk:k<l.length:=by exact eV
   have hn:¬((l.getD k (0,0)).1<0\/(l.getD k (0,0)).2<0\/n<=(l.getD k (0,0)).2):=by
    have:=a;generalize l.getD k (0,0)=x at this;exact eV
   rw[O6 n l hk,An hn]at c;refine AK (ι:={j:Nat//j<=k/\((l.take j).any λy=>y.1==(l.getD k (0,0)).1)=false}) (λj=>⟨[(0,.p DN l),(1,.p T3 n),(5,.p (.int .i64) (k:Int)),(6,.p (.int .i64) (j.1:Int))],[]⟩) (λj=>k-j.1) ⟨0,by simp⟩ (AC [] rfl rfl ?_ ?_) (λj=>?_)
   ·exact eN
   ·exact eN
   ·obtain⟨j,i,f⟩:=j;repeat'(first|exact trivial|refine eS rfl ?_|refine AB ?_|refine rX b ?_ ?_|refine rC ?_ ?_<;>intro a<;>try(cases a;done))
    ·exact eV
    ·have e:j<l.length:=by exact eV
     have h1:IQ l n=4:=by
      have d:((l.take k).any λy=>y.1==(l.getD k (0,0)).1)=true:=by
       rw[Rd];refine⟨l.getD j (0,0),?_,by simpa using a⟩;rw[AS,At e];exact AEr.2 ⟨j,by exact eV,rfl⟩
      rw[<-c,BY d]
     exact fI b [.tmp 4] (by rw[h1];exact eR)
    ·exact eV
    ·have e:j<l.length:=by exact eV
     refine⟨⟨j+1,by exact eV,?_⟩,by simp only;exact eV,AC [] rfl rfl ?_ ?_⟩
     ·have d:=YX l (l.getD k (0,0)).1 e;refine d.trans ?_;rw[f];simpa using a
     ·exact eN
     ·exact eN
    ·exact eV
    ·have g:j=k:=by exact eV
     subst g;refine⟨⟨j+1,by exact eV,?_⟩,by simp only;exact eV,AC [] rfl rfl ?_ ?_⟩
     ·rw[<-c,An (by rw[f];simp)]
     ·exact eN
     ·exact eN
  ·have h1:IQ l n=0:=by
    have hk:l.length<=k:=by exact eV
    rw[<-c,By hk];rfl
   exact fI b [.tmp 4] (by rw[h1];exact eR)
def Wj (n:Int×List (Int×Int)):List Int:=n.1 :: (n.2.length:Int) :: n.2.flatMap λa=>[a.1,a.2]
def Bw (f:List (Int×List (Int×Int))):List Int:=(f.length:Int) :: f.flatMap Wj
def YY (l:List (Int×List (Int×Int))) (k:Nat):List Int:=(l.length:Int) :: (l.take k).flatMap Wj
def Wk (l:List (Int×List (Int×Int))) (k j:Nat):List Int:=YY l k++[(l.getD k (0,[])).1,((l.getD k (0,[])).2.length:Int)]++((l.getD k (0,[])).2.take j).flatMap λa=>[a.1,a.2]
theorem Sb:∀l:List (Int×Int),(l.flatMap λa=>[a.1,a.2]).length=2*l.length
 | []=>rfl
 | x :: l=>by simp[Sb l];omega
theorem A3g (n:Int×List (Int×Int)):(Wj n).length=2+2*n.2.length:=by
 have:=Sb n.2;simp only[Wj,OS];omega
theorem Wl:∀l:List (Int×List (Int×Int)),(∀n∈l,n.2.length<=100000)->(l.flatMap Wj).length<=l.length*200002
 | [],_=>by simp
 | x :: l,h=>by
  have h1:=h x (by simp);have a:=Wl l (λn hn=>h n (by simp[hn]));have b:=A3g x;simp only[AEG,IF,OS];omega
theorem i3 {l:List (Int×List (Int×Int))} (h:∀n∈l,n.2.length<=100000) {k:Nat} (hk:k<=l.length):(YY l k).length<=1+k*200002:=by
 have h1:=Wl (l.take k) (λn hn=>h n (gO hn));rw[OR,AEh hk]at h1;simp only[YY,OS];omega
theorem A3h {l:List (Int×List (Int×Int))} (h:∀n∈l,n.2.length<=100000) {k j:Nat} (hk:k<l.length) (b:j<=(l.getD k (0,[])).2.length):(Wk l k j).length<=3+k*200002+2*j:=by
 have h1:=i3 h (AFc hk);have a:=Sb ((l.getD k (0,[])).2.take j);rw[OR,AEh b]at a;simp only[Wk,IF,OS,ADk];omega
theorem ZW {l:List (Int×List (Int×Int))} {k:Nat} (hk:k<l.length):YY l (k+1)=Wk l k (l.getD k (0,[])).2.length:=by
 unfold YY Wk;rw[A0 l (0,[]) hk,List.flatMap_append,Re];simp[Wj,YY]
theorem ZX {l:List (Int×List (Int×Int))} {k j:Nat} (a:j<(l.getD k (0,[])).2.length):Wk l k (j+1)=Wk l k j++[((l.getD k (0,[])).2.getD j (0,0)).1,((l.getD k (0,[])).2.getD j (0,0)).2]:=by
 unfold Wk;rw[A0 _ (0,0) a,List.flatMap_append];simp
def Wm:Aa:={ ins:=[DR],pre:=λ(f,_)=>f.length<=100000/\∀n∈f,n.2.length<=100000,out:=λ(f,_)=>[.p Fv (Bw f)] }
theorem nL:Ad Tryz.prog 130 Wm:=by
 refine fK [0,1,2,3,4,5,6,15,38] Tryz.func130 Tryz.ntmps130 AH ?_;rintro w0 O0 ⟨l,u⟩ a ⟨h,-⟩ ⟨n,d⟩;simp only[Wm,AM];repeat'(first|exact trivial|refine eS rfl ?_|refine rX a ?_ ?_)
 refine AK (ι:={k:Nat//k<=l.length}) (λk=>⟨[(0,.p DR l),(1,.bp 1 [] 0),(3,.sr 10 T3 0 (YY l k.1).length),(4,.p (.int .i64) (k.1:Int))],[(1,.box 25 true [.p FY l]),(10,.arr 3 T3 (YY l k.1))]⟩) (λk=>l.length-k.1) ⟨0,by simp⟩ (AC [(1,.nm 1),(10,.nm 10)] rfl rfl ?_ ?_) (λk=>?_)
 ·refine eM ?_;rfl
 ·refine eM ?_;rfl
 ·obtain⟨k,hk⟩:=k;have i:=i3 d hk;repeat'(first|exact trivial|refine eS rfl ?_|refine rX a ?_ ?_|refine rC ?_ ?_<;>intro c<;>try(cases c;done))
  ·exact eV
  ·refine⟨by exact eV,?_⟩;simp only[AP];exact eV
  ·have b:k<l.length:=by exact eV
   have o:=d _ (AE l (0,[]) b);refine AK (ι:={j:Nat//j<=(l.getD k (0,[])).2.length}) (λj=>⟨[(0,.p DR l),(1,.bp 1 [] 0),(3,.sr 10 T3 0 (Wk l k j.1).length),(4,.p (.int .i64) (k:Int)),(5,.p DN (l.getD k (0,[])).2),(6,.p (.int .i64) (j.1:Int))],[(1,.box 25 true [.p FY l]),(10,.arr 3 T3 (Wk l k j.1))]⟩) (λj=>(l.getD k (0,[])).2.length-j.1) ⟨0,by simp⟩ (AC [(1,.nm 1),(10,.nm 10)] rfl rfl ?_ ?_) (λj=>?_)
   ·refine eM ?_;simp[Wk]
   ·refine eM ?_;simp[Wk]
   ·obtain⟨j,f⟩:=j;have m:=A3h d b f;repeat'(first|exact trivial|refine eS rfl ?_|refine AB ?_|refine rX a ?_ ?_|refine rC ?_ ?_<;>intro c<;>try(cases c;done))
    ·refine⟨by exact eV,by exact eV,?_⟩;simp only[AP];exact eV
    ·exact eV
    ·have e:j<(l.getD k (0,[])).2.length:=by exact eV
     refine⟨⟨j+1,by exact eV⟩,by simp only;exact eV,AC [(1,.nm 1),(10,.nm 10)] rfl rfl ?_ ?_⟩
     ·refine eM ?_;exact(ZX e).symm
     ·refine eM ?_;have:=ADB List.length (ZX (l:=l) e);rw[IF]at this;exact this.symm
    ·exact eV
    ·have g:j=(l.getD k (0,[])).2.length:=by exact eV
     subst g;refine⟨⟨k+1,by exact eV⟩,by simp only;exact eV,AC [(1,.nm 1),(10,.nm 10)] rfl rfl ?_ ?_⟩
     ·refine eM ?_;exact(ZW b).symm
     ·refine eM ?_;exact ADB List.length (ZW b).symm
  ·have hk:l.take k=l:=As (by exact eV);have h1:YY l k=Bw l:=by unfold YY Bw;rw[hk]
   exact fI a [.tmp 2] (by first|exact eR|refine WL ?_;exact h1)
section
attribute [local go_sem] Wm
def LE:List Int->List Int->Int
 | x :: xs,y :: ys=>if x<y then -1 else if y<x then 1 else LE xs ys
 | _,_=>0
theorem Sc (xs ys:List Int) {k:Nat} (h1:k<xs.length) (a:k<ys.length):LE (xs.drop k) (ys.drop k)=if xs.getD k 0<ys.getD k 0 then -1 else if ys.getD k 0<xs.getD k 0 then 1 else LE (xs.drop (k+1)) (ys.drop (k+1)):=by
 rw[On h1,On a,AS,At h1,AS,At a];rfl
theorem A3i (xs ys:List Int) {k:Nat} (h:xs.length<=k\/ys.length<=k):LE (xs.drop k) (ys.drop k)=0:=by
 rcases h with h|h
 ·rw[By h];simp[LE]
 ·rw[By h];simp[LE]
def Cj (a b:List (Int×List (Int×Int))):Int:=LE (Bw a) (Bw b)
def DF (f:List (Int×List (Int×Int))):Prop:=f.length<=100000/\∀n∈f,n.2.length<=100000
def Wn:Aa:={ ins:=[DR,DR],pre:=λ(a,b,_)=>DF a/\DF b,out:=λ(a,b,_)=>[.p T3 (Cj a b)] }
theorem Ql {f:List (Int×List (Int×Int))} (h:DF f):(Bw f).length<=1+f.length*200002:=by
 have:=Wl f h.2;simp only[Bw,OS];omega
theorem nM:Ad Tryz.prog 78 Wn:=by
 refine fK [0,1,2,3,4,5,6,7,21,32,41] Tryz.func78 Tryz.ntmps78 (AF nL AH) ?_;rintro w0 O0 ⟨a,b,u⟩ e-⟨⟨g,i⟩,⟨j,l⟩⟩;have m:=Ql ⟨g,i⟩;have n:=Ql ⟨j,l⟩;simp only[Wn,AM];repeat'(first|exact trivial|refine eS rfl ?_|refine rX e ?_ ?_)
 ·exact⟨g,i⟩
 ·exact⟨j,l⟩
 ·refine AK (ι:={k:Nat//LE ((Bw a).drop k) ((Bw b).drop k)=Cj a b}) (λk=>⟨[(5,.p Fv (Bw a)),(6,.p Fv (Bw b)),(7,.p (.int .i64) (k.1:Int))],[]⟩) (λk=>(Bw a).length-k.1) ⟨0,by simp[Cj]⟩ (AC [] rfl rfl ?_ ?_) (λk=>?_)
  ·exact eN
  ·exact eN
  ·obtain⟨k,hk⟩:=k;repeat'(first|exact trivial|refine eS rfl ?_|refine AB ?_|refine rX e ?_ ?_|refine rC ?_ ?_<;>intro f<;>try(cases f;done))
   ·exact eV
   ·obtain⟨h1,c⟩:k<(Bw a).length/\k<(Bw b).length:=by exact eV
    have d:Cj a b=-1:=by rw[<-hk,Sc _ _ h1 c,BY f]
    exact fI e [.tmp 4] (by rw[d];exact eR)
   ·exact eV
   ·obtain⟨h1,c⟩:k<(Bw a).length/\k<(Bw b).length:=by exact eV
    have d:Cj a b=1:=by rw[<-hk,Sc _ _ h1 c,An (by exact eV),BY f]
    exact fI e [.tmp 4] (by rw[d];exact eR)
   ·exact eV
   ·obtain⟨h1,c⟩:k<(Bw a).length/\k<(Bw b).length:=by exact eV
    refine⟨⟨k+1,?_⟩,by simp only;exact eV,AC [] rfl rfl ?_ ?_⟩
    ·rw[<-hk,Sc _ _ h1 c,An (by exact eV),An (by exact eV)]
    ·exact eN
    ·exact eN
   ·have d:Cj a b=0:=by
     rw[<-hk];apply A3i;by_cases h:k<(Bw a).length
     ·right;have:=f (by exact eV);exact eV
     ·left;exact eV
    exact fI e [.tmp 4] (by rw[d];exact eR)
def IR:Aa:={ ins:=[DR,DR],pre:=λ(a,b,_)=>DF a/\DF b,out:=λ(a,b,_)=>[.p .bool (Cj a b==0)] }
end
section
attribute [local go_sem] Wn iZ
theorem Wo:Ad Tryz.prog 25 IR:=by
 refine fK [0,1,2,3,4] Tryz.func25 Tryz.ntmps25 (AF nM AH) ?_;rintro w0 O0 ⟨a,b,u⟩ c-d;simp only[IR,AM];repeat'(first|exact trivial|refine eS rfl ?_|refine rX c ?_ ?_)
 ·exact d
 ·exact fI c [.tmp 4]
def G8 (m:Int):List (Int×List (Int×Int))->Int
 | []=>0
 | n :: r=>if n.1<0 then 2 else if IQ n.2 m≠0 then IQ n.2 m else G8 m r
def CH (f:List (Int×List (Int×Int))):Int:=if f.length=0 then 1 else if 4096<f.length then 7 else G8 f.length f
def A3j:Aa:={ ins:=[DR],pre:=λ_=>True,out:=λ(f,_)=>[.p Lo (CH f)] }
theorem IT (m:Int) (l:List (Int×List (Int×Int))) {k:Nat} (h:k<l.length):G8 m (l.drop k)=if (l.getD k (0,[])).1<0 then 2 else if IQ (l.getD k (0,[])).2 m≠0 then IQ (l.getD k (0,[])).2 m else G8 m (l.drop (k+1)):=by
 rw[On h,AS,At h];rfl
theorem A7b:Ad Tryz.prog 132 A3j:=by
 refine fK [0,1,2,3,4,8,12,17,26,38] Tryz.func132 Tryz.ntmps132 (AF A7a AH) ?_;rintro w0 O0 ⟨l,u⟩ a ⟨f,-⟩ -;simp only[A3j,AM];repeat'(first|exact trivial|refine eS rfl ?_|refine rX a ?_ ?_|refine rC ?_ ?_<;>intro b<;>try(cases b;done))
 ·have h1:CH l=1:=by
   have h:l.length=0:=by exact eV
   unfold CH;rw[BY h]
  exact fI a [.tmp 2] (by rw[h1];exact eR)
 ·have h1:CH l=7:=by
   have h:¬l.length=0:=by exact eV
   have e:4096<l.length:=by exact eV
   unfold CH;rw[An h,BY e]
  exact fI a [.tmp 2] (by rw[h1];exact eR)
 ·have h1:CH l=G8 l.length l:=by
   have h:¬l.length=0:=by exact eV
   have e:¬4096<l.length:=by exact eV
   unfold CH;rw[An h,An e]
  refine AK (ι:={k:Nat//k<=l.length/\G8 l.length (l.drop k)=CH l}) (λk=>⟨[(1,.bp 1 [] 0),(3,.p (.int .i64) (k.1:Int))],[(1,.box 25 true [.p FY l])]⟩) (λk=>l.length-k.1) ⟨0,by simp[h1]⟩ (AC [(1,.nm 1)] rfl rfl ?_ ?_) (λk=>?_)
  ·exact eN
  ·exact eN
  ·obtain⟨k,hk,hf⟩:=k;repeat'(first|exact trivial|refine eS rfl ?_|refine AB ?_|refine rX a ?_ ?_|refine rC ?_ ?_<;>intro b<;>try(cases b;done))
   ·exact eV
   ·have d:k<l.length:=by exact eV
    have c:CH l=2:=by rw[<-hf,IT _ _ d,BY b]
    exact fI a [.tmp 2] (by rw[c];exact eR)
   ·exact eV
   ·have d:k<l.length:=by exact eV
    have c:CH l=IQ (l.getD k (0,[])).2 l.length:=by rw[<-hf,IT _ _ d,An (by exact eV),BY b]
    exact fI a [.tmp 2] (by rw[c];exact eR)
   ·exact eV
   ·have d:k<l.length:=by exact eV
    refine⟨⟨k+1,by exact eV,?_⟩,by simp only;exact eV,AC [(1,.nm 1)] rfl rfl ?_ ?_⟩
    ·rw[<-hf,IT _ _ d,An (by exact eV),An (by simpa using b)]
    ·exact eN
    ·exact eN
   ·have c:CH l=0:=by
     have hk:l.length<=k:=by exact eV
     rw[<-hf,By hk];rfl
    exact fI a [.tmp 2] (by rw[c];exact eR)
end
def IU (x:Int×Int) (s:List (Int×Int)):Nat->Nat
 | 0=>0
 | n+1=>if x.1<(s.getD n (0,0)).1 then IU x s n else n+1
def O7 (s:List (Int×Int)) (x:Int×Int):List (Int×Int):=s.take (IU x s s.length)++[x]++s.drop (IU x s s.length)
def Ae (l:List (Int×Int)):List (Int×Int):=l.foldl O7 []
theorem Ux (x:Int×Int) (s:List (Int×Int)):∀n,IU x s n<=n
 | 0=>NO _
 | n+1=>by
  unfold IU;have:=Ux x s n;split<;>omega
theorem A3k (s:List (Int×Int)) (x:Int×Int):(O7 s x).length=s.length+1:=by
 have:=Ux x s s.length;simp[O7];omega
theorem Ha (l:List (Int×Int)) (x:Int×Int):Ae (l++[x])=O7 (Ae l) x:=by simp[Ae]
theorem MU:∀(l s:List (Int×Int)),(l.foldl O7 s).length=s.length+l.length
 | [],s=>by simp
 | x :: l,s=>by simp[MU l,A3k];omega
theorem Cn (l:List (Int×Int)):(Ae l).length=l.length:=by simp[Ae,MU]
def Qm:Aa:={ ins:=[DN],pre:=λ(l,_)=>l.length<=1000000,out:=λ(l,_)=>[.own 106 AW (Ae l)] }
theorem ZY:Ad Tryz.prog 152 Qm:=by
 refine fK [0,2,3,4,5,6,10,30] Tryz.func152 Tryz.ntmps152 AH ?_;rintro w0 O0 ⟨l,u⟩ c s j;simp only[Qm]at j;simp only[Qm,AM];repeat'(first|exact trivial|refine eS rfl ?_|refine rX c ?_ ?_)
 refine AK (ι:={p:Nat//p<=l.length}) (λk=>⟨[(0,.p DN l),(3,.sr 10 AW 0 (Ae (l.take k.1)).length),(4,.p (.int .i64) (k.1:Int))],[(10,.arr 106 AW (Ae (l.take k.1)))]⟩) (λk=>l.length-k.1) ⟨0,by omega⟩ (AC [(10,.nil)] rfl rfl ?_ ?_) (λk=>?_)
 ·refine eM ?_;rfl
 ·refine eM ?_;rfl
 ·obtain⟨k,g⟩:=k;have o:(Ae (l.take k)).length=k:=by rw[Cn,OR];exact AEh g
  repeat'(first|exact trivial|refine eS rfl ?_|refine rX c ?_ ?_|refine rC ?_ ?_<;>intro b<;>try(cases b;done))
  ·refine AK (ι:={q:Nat//q<=(Ae (l.take k)).length/\IU (l.getD k (0,0)) (Ae (l.take k)) q=IU (l.getD k (0,0)) (Ae (l.take k)) (Ae (l.take k)).length}) (λq=>⟨[(0,.p DN l),(3,.sr 10 AW 0 (Ae (l.take k)).length),(4,.p (.int .i64) (k:Int)),(5,.p (.int .i64) (q.1:Int))],[(10,.arr 106 AW (Ae (l.take k)))]⟩) (λq=>q.1) ⟨(Ae (l.take k)).length,by simp⟩ (eW [(10,.nm 10)]) (λq=>?_)
   ·obtain⟨q,m,hp⟩:=q;have h:k<l.length:=by omega
    have n:=l.length_take_le k;have d:(List.take q (Ae (List.take k l))).length=q:=by rw[OR];exact AEh m
    repeat'(first|exact trivial|refine eS rfl ?_|refine AB ?_|refine rX c ?_ ?_|refine rC ?_ ?_<;>intro b<;>try(cases b;done))
    ·exact eV
    ·exact eV
    ·obtain⟨h1,a⟩:=b;obtain⟨q,rfl⟩:∃r,q=r+1:=⟨q-1,by omega⟩;have e:((q+1:Nat):Int)-1=(q:Int):=by omega
     refine⟨⟨q,by omega,?_⟩,AF3 q,AC [(10,.nm 10)] rfl rfl ?_ ?_⟩
     ·rw[<-hp];simp only[IU];rw[e,Rb]at a;rw[BY a]
     ·exact eN
     ·refine eM ?_;show (q:Int)+1-1=q;omega
    ·refine⟨by exact eV,?_⟩;rw[d];unfold AP;omega
    ·refine⟨by exact eV,?_⟩;rw[d];simp only[AP];omega
    ·refine⟨by exact eV,?_⟩;rw[d];simp only[AP,TE];omega
    ·exact eV
    ·have i:IU (l.getD k (0,0)) (Ae (l.take k)) q=q:=by
      cases q with
      | zero=>rfl
      | succ q =>
       have e:((q+1:Nat):Int)-1=(q:Int):=by omega
       have:=b (by omega);rw[e,Rb]at this;simp only[IU];rw[An (by omega)]
     have h1:=A0 l (0,0) h;have a:Ae (l.take (k+1))=_:=(ADB Ae h1).trans (Ha _ _);unfold O7 at a;rw[<-hp,i]at a;refine⟨⟨k+1,by exact eV⟩,by simp only;exact eV,AC [(10,.nm 37)] rfl rfl ?_ ?_⟩
     ·refine eM ?_;exact a.symm
     ·refine eM ?_;have f:=ADB List.length a;rw[IF,IF]at f;exact f.symm
  ·have hk:l.take k=l:=As (by exact eV);refine OZ c (.inl rfl) (rv:=.tmp 2) rfl ?_;simp only[LR,JZ,Hv,go_sem,Nat.reduceEqDiff,reduceCtorEq,Nat.reduceAdd,Nat.reduceSub,Nat.reduceMul,Nat.reduceLeDiff,Nat.reduceLT,Int.reduceLE,Int.reduceToNat,Int.reduceNeg,↓reduceIte];rw[hk];first|rfl|exact⟨rfl,rfl⟩|exact⟨rfl,rfl,rfl⟩
section
attribute [local go_sem] Qm
abbrev AD:=Int×List (Int×Int)
def D6 (f:List AD):Nat->List Int×List Int->Int->List Int×List Int
 | 0,s,_=>s
 | k+1,s,n=>(Ae (f.getD n.toNat (0,[])).2).foldl (λs a=>if s.1.getD a.2.toNat 0<0 then D6 f k s a.2 else s) (s.1.set n.toNat (s.2.length:Int),s.2++[n])
def Ll (l:List Int):Nat:=l.countP (λx=>decide (x<0))
def AU (f:List AD):Prop:=f.length<=100000/\∀x∈f,x.2.length<=100000/\∀a∈x.2,0<=a.2/\a.2<(f.length:Int)
def Ud (f:List AD) (s:List Int×List Int):Prop:=s.1.length=f.length/\s.2.length+Ll s.1<=f.length
theorem A3l {l:List Int} {n:Nat} {v:Int} (hn:n<l.length) (a:l.getD n 0<0) (d:0<=v):Ll (l.set n v)+1=Ll l:=by
 induction l generalizing n with
 | nil=>simp at hn
 | cons x r c =>
  cases n with
  | zero =>
   have b:x<0:=by simpa using a
   have:¬v<0:=by omega
   simp[Ll,AEm,b,this]
  | succ n =>
   have h1:=c (n:=n) (by simpa using hn) (by simpa using a);simp only[Ll,AFe,AEm]at h1 ⊢;omega
theorem nN {f:List AD} {s:List Int×List Int} {n:Int} (h:Ud f s) (d:0<=n) (hn:n<f.length) (b:s.1.getD n.toNat 0<0) :
  Ud f (s.1.set n.toNat (s.2.length:Int),s.2++[n])/\Ll (s.1.set n.toNat (s.2.length:Int))+1=Ll s.1:=by
 obtain⟨h1,c⟩:=h;have a:=A3l (l:=s.1) (n:=n.toNat) (v:=(s.2.length:Int)) (by omega) b (by omega);refine⟨⟨by simpa using h1,?_⟩,a⟩;simp only[IF,RW];omega
theorem A0i (s:List (Int×Int)) (x:Int×Int):(O7 s x).Perm (x :: s):=by
 unfold O7;refine(List.perm_append_comm.append_right _).trans ?_;simp
theorem LY:∀(l s:List (Int×Int)),(l.foldl O7 s).Perm (l++s)
 | [],s=>List.Perm.refl _
 | x :: l,s=>by
  refine(LY l (O7 s x)).trans ?_;refine(List.Perm.append_left l (A0i s x)).trans ?_;exact AFw
theorem E3 (l:List (Int×Int)):(Ae l).Perm l:=by
 have:=LY l [];simpa[Ae] using this
theorem MV {f:List AD} (hf:AU f) (n:Int):List.length (f.getD n.toNat (0,[])).2<=100000:=by
 by_cases h:n.toNat<f.length
 ·have a:f.getD n.toNat (0,[])∈f:=by
   rw[AS,At h];exact oF h
  exact(hf.2 _ a).1
 ·rw[AS,Rj (by omega)];simp
theorem Uy {f:List AD} (hf:AU f) {n:Int} {a:Int×Int} (ha:a∈Ae (f.getD n.toNat (0,[])).2):0<=a.2/\a.2<f.length:=by
 have ha:=(E3 _).mem_iff.1 ha;by_cases h:n.toNat<f.length
 ·have b:f.getD n.toNat (0,[])∈f:=by
   rw[AS,At h];exact oF h
  exact(hf.2 _ b).2 a ha
 ·rw[AS,Rj (by omega)]at ha;simp at ha
def Ea (f:List AD) (k:Nat) (s:List Int×List Int) (a:Int×Int):List Int×List Int:=if s.1.getD a.2.toNat 0<0 then D6 f k s a.2 else s
theorem Ft (f:List AD) (k:Nat) (s:List Int×List Int) (n:Int):D6 f (k+1) s n=(Ae (f.getD n.toNat (0,[])).2).foldl (Ea f k) (s.1.set n.toNat (s.2.length:Int),s.2++[n]):=rfl
theorem Uz {f:List AD} {k:Nat} (i:∀(s:List Int×List Int) (n:Int),Ud f s->0<=n->n<f.length->s.1.getD n.toNat 0<0->Ud f (D6 f k s n)/\Ll (D6 f k s n).1<=Ll s.1) :
  ∀(l:List (Int×Int)) (t:List Int×List Int),(∀a∈l,0<=a.2/\a.2<(f.length:Int))->Ud f t->Ud f (l.foldl (Ea f k) t)/\Ll (l.foldl (Ea f k) t).1<=Ll t.1
 | [],t,_,d=>⟨d,NO _⟩
 | a :: l,t,c,d=>by
  simp only[ON];by_cases h:t.1.getD a.2.toNat 0<0
  ·obtain⟨j,m⟩:=i t a.2 d (c a (by simp)).1 (c a (by simp)).2 h;have e:Ea f k t a=D6 f k t a.2:=BY h;rw[e];obtain⟨o,p⟩:=Uz i l _ (λb g=>c b (by simp[g])) j;exact⟨o,Rc p m⟩
  ·have e:Ea f k t a=t:=An h;rw[e];exact Uz i l t (λb g=>c b (by simp[g])) d
theorem Sd {f:List AD} (hf:AU f):∀(k:Nat) (s:List Int×List Int) (n:Int),Ud f s->0<=n->n<f.length->s.1.getD n.toNat 0<0->Ud f (D6 f k s n)/\Ll (D6 f k s n).1<=Ll s.1
 | 0,s,n,h,_,_,_=>⟨h,NO _⟩
 | k+1,s,n,h,h0,h1,d=>by
  obtain⟨e,g⟩:=nN h h0 h1 d;obtain⟨b,c⟩:=Uz (Sd hf k) _ _ (λa ha=>Uy hf ha) e;rw[Ft];exact⟨b,by simp only at c g;omega⟩
theorem NQ {α β:Type} (g:β->α->β) (l:List α) (d:α) (t:β) {i:Nat} (hi:i<l.length):(l.take (i+1)).foldl g t=g ((l.take i).foldl g t) (l.getD i d):=by
 rw[A0 l d hi,AEu];rfl
def LZ (f:List AD) (s:List Int×List Int):List (Nat×Obj):=[(1,.box 184 true [.p DR f,.sr 2 T3 0 s.1.length,.sr 3 T3 0 s.2.length]),(2,.arr 3 T3 s.1),(3,.arr 3 T3 s.2)]
theorem A3m (f:List AD) (hf:AU f):∀(k:Nat) (s:List Int×List Int) (n:Int),Ud f s->0<=n->n<f.length->s.1.getD n.toNat 0<0->Ll s.1<=k ->
  BJ Tryz.prog 151 [.bp 1 [] 0,.p T3 n] (LZ f s) [1] (λres M=>res=.raw (.tuple #[])/\M=LZ f (D6 f k s n)):=by
 intro k;induction k with
 | zero =>
  intro s n h0 h1 u B N;obtain⟨_,O⟩:=nN h0 h1 u B;omega
 | succ k J =>
  intro s n A w m x hk;obtain⟨num,g⟩:=s;obtain⟨t,v⟩:=nN A w m x;obtain⟨G,H⟩:=A;simp only at G H x t v hk;refine Kt [0,1,4,5,40,54] [] [] Tryz.func151 Tryz.ntmps151 (AF ZY AH) ?_;intro w0 K O0 ρ0 c Q R;simp only[LZ,Ao];repeat'(first|exact trivial|refine eS rfl ?_|refine rX c ?_ ?_)
  ·exact eV
  ·have:=hf.1;simp only[AP];omega
  ·have I:=MV hf n;exact⟨⟨w,m⟩,Rc I (by omega)⟩
  ·have l:=λa (ha:a∈Ae (f.getD n.toNat (0,[])).2)=>Uy hf ha;have D:(Ae (f.getD n.toNat (0,[])).2).length<=100000:=by rw[Cn];exact MV hf n
   generalize C:Ae (f.getD n.toNat (0,[])).2=L at l D;generalize o:(num.set n.toNat (g.length:Int),g++[n])=s1 at t;have F:∀i,Ud f ((L.take i).foldl (Ea f k) s1)/\Ll ((L.take i).foldl (Ea f k) s1).1<=Ll s1.1:=λi=>Uz (Sd hf k) _ _ (λa ha=>l a (gO ha)) t;have m:num.set n.toNat (g.length:Int)=s1.1:=by rw[<-o]
   have P:g++[n]=s1.2:=by rw[<-o]
   rw[m]at v;refine AK (ι:={i:Nat//i<=L.length}) (λi=>⟨[(0,.bp 1 [] 0),(1,.p T3 n),(4,.p DN L),(5,.p (.int .i64) (i.1:Int))],LZ f ((L.take i.1).foldl (Ea f k) s1)⟩) (λi=>L.length-i.1) ⟨0,by omega⟩ (AAG [36] (AC [(1,.nm 1),(2,.nm 2),(3,.nm 3)] rfl rfl ?_ ?_)) (λi=>?_)
   ·simp only[LZ];refine eM ?_;simp only[List.foldl_nil];rw[<-o];simp
   ·exact eN
   ·obtain⟨i,hi⟩:=i;obtain⟨r,E⟩:=F i;have q:=λ(h:i<L.length)=>NQ (Ea f k) L (0,0) s1 h;generalize z:(L.take i).foldl (Ea f k) s1=b at r E q;simp only[LZ];repeat'(first|exact trivial|refine eS rfl ?_|refine AB ?_|refine rX c ?_ ?_|refine rC ?_ ?_<;>intro j<;>try(cases j;done))
    ·have d:i<L.length:=by exact eV
     have:=l _ (AE L (0,0) d);obtain⟨h1,u⟩:=r;refine⟨by exact eV,this.1,?_⟩;rw[h1];exact this.2
    ·have d:i<L.length:=by exact eV
     have y:=l _ (AE L (0,0) d);refine cP 6 c ?_ ?_
     ·exact eV
     ·refine rM c (J b (L.getD i (0,0)).2 r y.1 y.2 (by simpa using j) (by omega)) [(1,.nm 1),(2,.nm 2),(3,.nm 3)] [2,3] ?_ ?_ ?_
      ·exact eN
      ·simp only[LZ];exact eN
      ·rintro _ _ ⟨rfl,rfl⟩;refine⟨[(1,.nm 1),(2,.nm 2),(3,.nm 3)],.raw (.tuple #[]),LZ f (D6 f k b (L.getD i (0,0)).2),rfl,rfl,?_,?_,rfl,rfl,CP ?_⟩
       ·simp only[LZ];exact eN
       ·exact eN
       ·repeat'(first|refine eS rfl ?_|refine AB ?_|refine rX c ?_ ?_)
        ·exact eV
        ·have e:Ea f k b (L.getD i (0,0))=D6 f k b (L.getD i (0,0)).2:=BY (by simpa using j);refine⟨⟨i+1,by omega⟩,by simp only;omega,AC [(1,.nm 1),(2,.nm 2),(3,.nm 3)] rfl rfl ?_ ?_⟩
         ·simp only[LZ,q d,e];exact eN
         ·exact eN
    ·exact eV
    ·have d:i<L.length:=by exact eV
     have e:Ea f k b (L.getD i (0,0))=b:=An (by simpa using j);refine⟨⟨i+1,by omega⟩,by simp only;omega,AC [(1,.nm 1),(2,.nm 2),(3,.nm 3)] rfl rfl ?_ ?_⟩
     ·simp only[q d,e];exact eN
     ·exact eN
    ·have hk:L.take i=L:=As (by exact eV);rw[hk]at z;have h1:D6 f (k+1) (num,g) n=b:=by rw[Ft,C,<-z,<-o]
     rw[h1];exact fM c [] (.raw (.tuple #[])) rfl ⟨rfl,rfl⟩
end
section
attribute [local go_sem] Qm
def i4 (f:List AD) (s:List Int×List Int):Prop:=∀n∈s.2,0<=n/\n<(f.length:Int)
theorem Wp {f:List AD} (hf:AU f):∀(k:Nat) (s:List Int×List Int) (n:Int),i4 f s->0<=n->n<f.length->i4 f (D6 f k s n)
 | 0,s,n,h,_,_=>h
 | k+1,s,n,h,h0,h1=>by
  rw[Ft];have key:∀(l:List (Int×Int)) (t:List Int×List Int),(∀a∈l,0<=a.2/\a.2<(f.length:Int))->i4 f t->i4 f (l.foldl (Ea f k) t):=by
   intro l;induction l with
   | nil=>intro t _ d;exact d
   | cons a l i =>
    intro t e d;simp only[ON];refine i _ (λb g=>e b (by simp[g])) ?_;unfold Ea;split
    ·exact Wp hf k t a.2 d (e a (by simp)).1 (e a (by simp)).2
    ·exact d
  refine key _ _ (λa ha=>Uy hf ha) ?_;intro m c;simp only[No,Rm]at c;rcases c with c|rfl
  ·exact h m c
  ·exact⟨h0,h1⟩
def GP (f:List AD) (root:Int):List Int×List Int:=D6 f f.length (List.replicate f.length (-1),[]) root
def YZ (num:List Int) (a:Int×Int):Int×Int:=(a.1,num.getD a.2.toNat 0)
def MW (f:List AD) (num:List Int) (n:Int):AD:=((f.getD n.toNat (0,[])).1,(Ae (f.getD n.toNat (0,[])).2).map (YZ num))
def JF (f:List AD) (root:Int):List AD:=(GP f root).2.map (MW f (GP f root).1)
theorem i5 (m:Nat):Ll (List.replicate m (-1))=m:=by
 induction m with
 | zero=>rfl
 | succ m a=>simp only[Ll,AEM,AEm]at a ⊢;simp[a]
theorem tr0 (f:List AD):Ud f (List.replicate f.length (-1),[]):=⟨by simp,by simp[i5]⟩
theorem xA {f:List AD} {n:Int} (h0:0<=n) (h1:n<f.length):(List.replicate f.length (-1:Int)).getD n.toNat 0<0:=by
 have:n.toNat<f.length:=by omega
 simp[AS,AEc,this]
theorem xB {f:List AD} (hf:AU f) {n:Int} (h0:0<=n) (h1:n<f.length):Ud f (GP f n)/\i4 f (GP f n) :=
 ⟨(Sd hf _ _ n (tr0 f) h0 h1 (xA h0 h1)).1,Wp hf _ _ n (λm a=>by simp at a) h0 h1⟩
theorem Wq {α b:Type} (g:α->b) (h:b->α) (L:List α) (d:α) {k:Nat} (hk:k<L.length) (u:α->α):((L.take k).map u++L.drop k).set k (u (L.getD k d))=(L.take (k+1)).map u++L.drop (k+1)/\((L.take k).map u++L.drop k).getD k d=L.getD k d:=by
 have h1:((L.take k).map u).length=k:=by simp;omega
 have a:L.drop k=L.getD k d :: L.drop (k+1):=by
  rw[On hk,AS,At hk];rfl
 constructor
 ·rw[A0 L d hk,AEn _ _ (by omega),h1,ADX,a];simp
 ·rw[AS,Rr (by omega),h1,ADX,a];rfl
def ZZ:Aa:={ ins:=[DR,T3],pre:=λ(f,n,_)=>AU f/\0<=n/\n<(List.length f:Int),out:=λ(f,n,_)=>[.p DR (JF f n)] }
theorem A7c:Ad Tryz.prog 114 ZZ:=by
 refine fK [0,1,2,4,5,6,7,8,9,10,11,19,40,60] Tryz.func114 Tryz.ntmps114 (AF ZY AH) ?_;rintro w0 O0 ⟨f,root,u⟩ d-⟨hf,l,m⟩;simp only[ZZ,AM];have G:=hf.1;repeat'(first|exact trivial|refine eS rfl ?_|refine rX d ?_ ?_)
 refine AK (ι:={i:Nat//i<=f.length}) (λi=>⟨[(1,.p T3 root),(2,.bp 2 [] 0),(4,.bp 4 [] 0),(5,.bp 14 [] 0),(6,.p (.int .i64) (i.1:Int))],[(2,.box 25 true [.p FY f]),(4,.box 25 true [.raw (.slice none 0 0)]),(14,.box 184 true [.p DR f,.sr 10 T3 0 i.1,.raw (.slice none 0 0)]),(10,.arr 3 T3 (List.replicate i.1 (-1)))]⟩) (λi=>f.length-i.1) ⟨0,by omega⟩ (AC [(2,.nm 2),(4,.nm 4),(14,.nm 14),(10,.nil)] rfl rfl ?_ ?_) (λi=>?_)
 ·refine eM ?_;rfl
 ·exact eN
 ·obtain⟨i,hi⟩:=i;repeat'(first|exact trivial|refine eS rfl ?_|refine AB ?_|refine rX d ?_ ?_|refine rC ?_ ?_<;>intro h<;>try(cases h;done))
  ·simp only[AP];omega
  ·exact eV
  ·have hi:i<List.length f:=by exact eV
   refine⟨⟨i+1,by omega⟩,by simp only;omega,AC [(2,.nm 2),(4,.nm 4),(14,.nm 14),(10,.nm 10)] rfl rfl ?_ ?_⟩
   ·refine eM ?_;rw[AEH];simp
   ·exact eN
  ·have A:i=List.length f:=by exact eV
   subst A;have w:=xB hf l m;refine cP 2 d ?_ ?_
   ·trivial
   ·refine rM d (A3m f hf (List.length f) (List.replicate (List.length f) (-1),[]) root (tr0 f) l m (xA l m) (by rw[i5];exact NO _)) [(1,.nm 14),(2,.nm 10),(3,.nil)] [10] ?_ ?_ ?_
    ·exact eN
    ·simp only[LZ];refine eM ?_;simp
    ·rintro _ _ ⟨rfl,rfl⟩;refine⟨[(14,.nm 1),(101,.nm 2),(102,.nm 3)],.raw (.tuple #[]),[(14,.box 184 true [.p DR f,.sr 101 T3 0 (GP f root).1.length,.sr 102 T3 0 (GP f root).2.length]),(101,.arr 3 T3 (GP f root).1),(102,.arr 3 T3 (GP f root).2)],rfl,rfl,?_,?_,rfl,rfl,CP ?_⟩
     ·simp only[LZ,GP];exact eN
     ·exact eN
     ·have z:JF f root=(GP f root).2.map (MW f (GP f root).1):=rfl;rw[z];generalize GP f root=s at w;obtain⟨num,c⟩:=s;obtain⟨⟨r,t⟩,j⟩:=w;simp only at r t;have j:∀n∈c,0<=n/\n<(List.length f:Int):=j;repeat'(first|exact trivial|refine eS rfl ?_|refine rX d ?_ ?_)
      refine AK (ι:={i:Nat//i<=c.length}) (λi=>⟨[(2,.bp 2 [] 0),(4,.bp 4 [] 0),(5,.bp 14 [] 0),(7,.bp 7 [] 0),(8,.p (.int .i64) (i.1:Int))],[(2,.box 25 true [.p FY f]),(4,.box 25 true [.raw (.slice none 0 0)]),(14,.box 184 true [.p DR f,.sr 101 T3 0 num.length,.sr 102 T3 0 c.length]),(101,.arr 3 T3 num),(102,.arr 3 T3 c),(7,.box 25 true [.sr 200 NJ 0 i.1]),(200,.arr 93 NJ ((c.take i.1).map (MW f num)))]⟩) (λi=>c.length-i.1) ⟨0,by omega⟩ (eW [(2,.nm 2),(4,.nm 4),(14,.nm 14),(101,.nm 101),(102,.nm 102),(7,.nm 7),(200,.nil)]) (λi=>?_)
      ·obtain⟨i,hi⟩:=i;repeat'(first|exact trivial|refine eS rfl ?_|refine rX d ?_ ?_|refine rC ?_ ?_<;>intro h<;>try(cases h;done))
       ·have hi:i<c.length:=by exact eV
        exact⟨by exact eV,j _ (AE c 0 hi)⟩
       ·exact Rc (MV hf _) (by omega)
       ·have hi:i<c.length:=by exact eV
        have q:=λa (ha:a∈Ae (f.getD (Int.toNat (c.getD i 0)) (0,[])).2)=>Uy hf ha;have v:MW f num (c.getD i 0)=((f.getD (Int.toNat (c.getD i 0)) (0,[])).1,(Ae (f.getD (Int.toNat (c.getD i 0)) (0,[])).2).map (YZ num)):=rfl;have B:=MV hf (c.getD i 0);generalize List.getD f (Int.toNat (c.getD i 0)) (0,[])=x at *;obtain⟨E,o⟩:=x;simp only at q v B;have F:=Cn o;generalize Ae o=L at *;refine AK (ι:={k:Nat//k<=L.length}) (λk=>⟨[(2,.bp 2 [] 0),(4,.bp 4 [] 0),(5,.bp 14 [] 0),(7,.bp 7 [] 0),(8,.p (.int .i64) (i:Int)),(9,.bp 9 [] 0),(10,.sr 56 AW 0 L.length),(11,.p (.int .i64) (k.1:Int))],[(56,.arr 106 AW ((L.take k.1).map (YZ num)++L.drop k.1)),(9,.box 93 true [.p T3 E,.p DN o]),(2,.box 25 true [.p FY f]),(4,.box 25 true [.raw (.slice none 0 0)]),(14,.box 184 true [.p DR f,.sr 101 T3 0 num.length,.sr 102 T3 0 c.length]),(101,.arr 3 T3 num),(102,.arr 3 T3 c),(7,.box 25 true [.sr 200 NJ 0 i]),(200,.arr 93 NJ ((c.take i).map (MW f num)))]⟩) (λk=>L.length-k.1) ⟨0,by omega⟩ (eW [(2,.nm 2),(4,.nm 4),(14,.nm 14),(101,.nm 101),(102,.nm 102),(7,.nm 7),(200,.nm 200),(9,.nm 9),(56,.nm 56)]) (λk=>?_)
        ·obtain⟨k,hk⟩:=k;repeat'(first|exact trivial|refine eS rfl ?_|refine AB ?_|refine rX d ?_ ?_|refine rC ?_ ?_<;>intro h<;>try(cases h;done))
         ·have g:k<L.length:=by exact eV
          have e:=(Wq (YZ num) (λb=>b) L (0,0) g (YZ num)).2;rw[e];have:=q _ (AE L (0,0) g);rw[r];exact⟨by exact eV,this,by exact eV⟩
         ·exact eV
         ·have g:k<L.length:=by exact eV
          have e:=Wq (YZ num) (λb=>b) L (0,0) g (YZ num);refine⟨⟨k+1,by omega⟩,by simp only;omega,AC [(2,.nm 2),(4,.nm 4),(14,.nm 14),(101,.nm 101),(102,.nm 102),(7,.nm 7),(200,.nm 200),(9,.nm 9),(56,.nm 56)] rfl rfl ?_ ?_⟩
          ·refine eM ?_;rw[e.2];exact e.1
          ·exact eN
         ·simp only[AP];have:=t;omega
         ·exact eV
         ·have g:L.take k=L:=As (by exact eV);have y:L.drop k=[]:=By (by exact eV);refine⟨⟨i+1,by omega⟩,by simp only;omega,AC [(2,.nm 2),(4,.nm 4),(14,.nm 14),(101,.nm 101),(102,.nm 102),(7,.nm 7),(200,.nm 200)] rfl rfl ?_ ?_⟩
          ·refine eM ?_;rw[g,y,Rq,A0 c 0 hi,iN,Rp,AEY,v];have C:List.take i ((c.take i).map (MW f num))=(c.take i).map (MW f num):=As (by rw[RU,OR];omega);have D:List.take L.length (L.map (YZ num))=L.map (YZ num):=As (by rw[RU];omega);rw[C,D]
          ·exact eN
       ·have hk:c.take i=c:=As (by exact eV);rw[hk];refine fI d [.cell 4 25] (by first|exact eR|refine WL ?_;exact As (by rw[RU];exact eV))
end
section
attribute [local go_sem] A3j ZZ
theorem Wr {n:Int}:∀ {l seen:List (Int×Int)},G7 n seen l=0->∀a∈l,0<=a.1/\0<=a.2/\a.2<n
 | [],_,_,a,ha=>by cases ha
 | x :: l,seen,h,a,ha=>by
  simp only[G7]at h;split at h
  ·cases h
  ·split at h
   ·cases h
   ·rename_i h1 _;rcases DO.1 ha with rfl|ha
    ·omega
    ·exact Wr h a ha
theorem IV {m:Int}:∀ {f:List (Int×List (Int×Int))},G8 m f=0->∀x∈f,0<=x.1/\∀a∈x.2,0<=a.1/\0<=a.2/\a.2<m
 | [],_,x,c=>by cases c
 | y :: f,h,x,c=>by
  simp only[G8]at h;split at h
  ·cases h
  ·split at h
   ·rename_i h1 b;exact absurd h b
   ·rename_i h1 b;have b:IQ y.2 m=0:=Do b;rcases DO.1 c with rfl|c
    ·exact⟨by omega,Wr b⟩
    ·exact IV h x c
def Ws (f:List (Int×List (Int×Int))):Prop:=∀x∈f,x.2.length<=100000
theorem IW {f:List (Int×List (Int×Int))} (h:CH f=0) (hs:Ws f):AU f/\0<f.length:=by
 unfold CH at h;split at h
 ·cases h
 ·split at h
  ·cases h
  ·refine⟨⟨by omega,λx b=>⟨hs x b,λa ha=>?_⟩⟩,by omega⟩;have:=(IV h x b).2 a ha;exact⟨this.2.1,this.2.2⟩
def BG (f:List AD):List AD×Int:=if CH f=0 then (JF f 0,0) else ([],CH f)
def cX:Aa:={ ins:=[DR],pre:=λ(f,_)=>Ws f,out:=λ(f,_)=>[.p DR (BG f).1,.p Lo (BG f).2] }
theorem A3n:Ad Tryz.prog 82 cX:=by
 refine fK [0,1,2,3,4,8] Tryz.func82 Tryz.ntmps82 (AF A7b (AF A7c AH)) ?_;rintro w0 O0 ⟨f,u⟩ b-hs;simp only[cX,AM];repeat'(first|exact trivial|refine eS rfl ?_|refine rX b ?_ ?_|refine rC ?_ ?_<;>intro a<;>try(cases a;done))
 ·have h:¬CH f=0:=by simpa using a
  have e:BG f=([],CH f):=An h;exact fI b [.cell 2 25,.tmp 3] (by rw[e];exact eR)
 ·have h:CH f=0:=by simpa using a
  have:=IW h hs;exact⟨this.1,by exact eV⟩
 ·have h:CH f=0:=by simpa using a
  have e:BG f=(JF f 0,0):=BY h;exact fI b [.cell 2 25,.tmp 3] (by rw[e];exact eR)
end
def xC (l:List Int) (n:Int):Bool:=l.any λx=>x==n
def Wu:Aa:={ ins:=[T3],pre:=λ_=>True,out:=λ(t,_)=>[.p DR [(t,[])]] }
theorem xD:Ad Tryz.prog 27 Wu:=by
 refine fK [0,2] Tryz.func27 Tryz.ntmps27 AH ?_;rintro w0 O0 ⟨t,u⟩ a - -;simp only[Wu,AM];repeat'(first|exact trivial|refine eS rfl ?_|refine AB ?_|refine rX a ?_ ?_|refine rC ?_ ?_<;>intro b<;>try(cases b;done))
 exact fI a [.cell 2 25]
section
attribute [local go_sem] Jh cX IR
def ftB (a:Int×Int):Bool:=decide (a.1<64)
def ndB (x:AD):Bool:=decide (x.1<256)&&x.2.all ftB
def D7 (f:List AD):Bool:=Fb f&&f.all ndB&&((BG f).2==0&&(Cj (BG f).1 f==0))
theorem JG {f:List AD} (h:Fb f=true):f.length<=12/\∀x∈f,x.2.length<=12:=by
 unfold Fb at h;simp only[AT,Ff,If]at h;exact h
theorem nP {f:List AD} (hf:AU f) {n:Int} (h0:0<=n) (h1:n<f.length):DF (JF f n):=by
 obtain⟨⟨b,c⟩,_⟩:=xB hf h0 h1;have d:=hf.1;refine⟨?_,λx a=>?_⟩
 ·unfold JF;rw[RU];omega
 ·obtain⟨m,_,rfl⟩:=GO.1 a;unfold MW;simp only[RU,Cn];exact MV hf m
theorem Tx {f:List AD} (hs:Ws f):DF (BG f).1:=by
 unfold BG;split
 ·rename_i h;obtain⟨h1,b⟩:=IW h hs;exact nP h1 (by omega) (by omega)
 ·exact⟨by simp,λx a=>by cases a⟩
end
section
attribute [local go_sem] cX IR
def xE (h:AG) (a:Int×Int):Bool:=decide (a.1<(h.2.length:Int))
def U0 (h:AG) (x:AD):Bool:=decide (x.1<(h.1.length:Int))&&x.2.all (xE h)
def BP (h:AG) (f:List AD):Int:=if (BG f).2≠0 then (BG f).2 else if f.all (U0 h)=false then 2 else if (Cj f (BG f).1==0)=false then 3 else 0
def LF:Aa:={ ins:=[ER,DR],pre:=λ(_,f,_)=>DF f,out:=λ(h,f,_)=>[.p Lo (BP h f)] }
theorem Za:Ad Tryz.prog 33 LF:=by
 refine fK [0,1,2,3,4,5,6,7,8,9,16,22,35,40,52,56] Tryz.func33 Tryz.ntmps33 (AF A3n (AF Wo AH)) ?_;rintro w0 O0 ⟨⟨b,hf⟩,f,u⟩ d-hs;have hs:DF f:=hs;simp only[LF,AM];repeat'(first|exact trivial|refine eS rfl ?_|refine rX d ?_ ?_|refine rC ?_ ?_<;>intro a<;>try(cases a;done))
 ·exact hs.2
 ·have h1:BP (b,hf) f=(BG f).2:=by unfold BP;rw[BY a]
  exact fI d [.tmp 4] (by rw[h1];exact eR)
 ·have t:(BG f).2=0:=by simpa using a
  have q:=Tx hs.2;have w:=hs.1;have g:BP (b,hf) f=if f.all (U0 (b,hf))=false then 2 else if (Cj f (BG f).1==0)=false then 3 else 0:=by unfold BP;rw[An (by rw[t];simp)]
  refine AK (ι:={i:Nat//i<=f.length/\(f.take i).all (U0 (b,hf))=true}) (λi=>⟨[(2,.bp 2 [] 0),(3,.bp 3 [] 0),(5,.bp 5 [] 0),(7,.p (.int .i64) (i.1:Int))],[(2,.box 31 true [.p WN b,.p YV hf]),(3,.box 25 true [.p FY f]),(5,.box 25 true [.p FY (BG f).1])]⟩) (λi=>f.length-i.1) ⟨0,by simp⟩ (eW [(2,.nm 2),(3,.nm 3),(5,.nm 5)]) (λi=>?_)
  ·obtain⟨i,hi,l⟩:=i;have r:=λh:i<f.length=>GZ f (0,[]) (U0 (b,hf)) h;simp only;repeat'(first|exact trivial|refine eS rfl ?_|refine rX d ?_ ?_|refine rC ?_ ?_<;>intro a<;>try(cases a;done))
   ·exact a
   ·have c:i<f.length:=IS.1 (by assumption);have e:f.all (U0 (b,hf))=false:=by
     rw[ADY];refine⟨_,AE f (0,[]) c,?_⟩;unfold U0;rw[AE0 (AAh.2 a)];simp
    rw[BY e]at g;exact fI d [.tmp 4] (by rw[g];exact eR)
   ·have c:i<f.length:=IS.1 (by assumption);have n:=AE f (0,[]) c;have o:U0 (b,hf) (f.getD i (0,[]))=(f.getD i (0,[])).2.all (xE (b,hf)):=by
     unfold U0;rw[ADZ (show (f.getD i (0,[])).1<(b.length:Int) from a)];rfl
    have v:(f.getD i (0,[])).2.length<=100000:=hs.2 _ n;refine AK (ι:={k:Nat//k<=(f.getD i (0,[])).2.length/\((f.getD i (0,[])).2.take k).all (xE (b,hf))=true}) (λk=>⟨[(2,.bp 2 [] 0),(3,.bp 3 [] 0),(5,.bp 5 [] 0),(7,.p (.int .i64) (i:Int)),(8,.bp 8 [] 0),(9,.p (.int .i64) (k.1:Int))],[(2,.box 31 true [.p WN b,.p YV hf]),(3,.box 25 true [.p FY f]),(5,.box 25 true [.p FY (BG f).1]),(8,.box 93 true [.p T3 (f.getD i (0,[])).1,.p DN (f.getD i (0,[])).2])]⟩) (λk=>(f.getD i (0,[])).2.length-k.1) ⟨0,by simp⟩ (eW [(2,.nm 2),(3,.nm 3),(5,.nm 5),(8,.nm 8)]) (λk=>?_)
    ·obtain⟨k,hk,m⟩:=k;have s:=λh:k<(f.getD i (0,[])).2.length=>GZ (f.getD i (0,[])).2 (0,0) (xE (b,hf)) h;simp only;repeat'(first|exact trivial|refine eS rfl ?_|refine AB ?_|refine rX d ?_ ?_|refine rC ?_ ?_<;>intro a<;>try(cases a;done))
     ·exact a
     ·have j:k<(f.getD i (0,[])).2.length:=IS.1 (by assumption);have e:f.all (U0 (b,hf))=false:=by
       rw[ADY];refine⟨_,n,?_⟩;rw[o,ADY.2 ⟨_,AE (f.getD i (0,[])).2 (0,0) j,by unfold xE;rw[AE0 (AAh.2 a)];simp⟩];simp
      rw[BY e]at g;exact fI d [.tmp 4] (by rw[g];exact eR)
     ·exact eV
     ·have j:k<(f.getD i (0,[])).2.length:=IS.1 (by assumption);refine⟨⟨k+1,j,?_⟩,by simp only;omega,AC [(2,.nm 2),(3,.nm 3),(5,.nm 5),(8,.nm 8)] rfl rfl ?_ ?_⟩
      ·rw[s j,m];unfold xE;exact ADZ a
      ·exact eN
      ·exact eN
     ·exact eV
     ·have j:(f.getD i (0,[])).2.take k=(f.getD i (0,[])).2:=As (RY.1 a);rw[j]at m;refine⟨⟨i+1,c,?_⟩,by simp only;omega,AC [(2,.nm 2),(3,.nm 3),(5,.nm 5)] rfl rfl ?_ ?_⟩
      ·rw[r c,l,o,m];rfl
      ·exact eN
      ·exact eN
   ·exact⟨hs,q⟩
   ·have c:f.take i=f:=As (RY.1 (by assumption));rw[c]at l;rw[An (by rw[l];simp),BY (by simpa using a)]at g;exact fI d [.tmp 4] (by rw[g];exact eR)
   ·have c:f.take i=f:=As (RY.1 (by assumption));rw[c]at l;rw[An (by rw[l];simp),An (by rw[a];simp)]at g;exact fI d [.tmp 4] (by rw[g];exact eR)
def cZ (h:AG) (f:List AD):Bool:=Fb f&&BP h f==0
end
section
attribute [local go_sem] KE KC Jh LF
def xF (d:List AI):AG:=if d.length<=12/\(Au d).2=0 then (Au d).1 else (Au Cu).1
end
section
def nQ:Aa:={ ins:=[BT,T3],pre:=λ(_,i,_)=>(0:Int)<=i,out:=λ(b,i,_)=>[.p QN (GL b i)],lend:=true }
attribute [local go_sem] nQ
theorem A3o:Ad Tryz.prog 175 nQ:=by
 refine fK [0,1,4,8] Tryz.func175 Tryz.ntmps175 AH ?_;rintro w0 O0 ⟨b,i,u⟩ c-hi;simp only[nQ,AM];repeat'(first|exact trivial|refine eS rfl ?_|refine rX c ?_ ?_|refine rC ?_ ?_<;>intro a<;>try(cases a;done))
 ·exact⟨hi,a⟩
 ·have h1:GL b i=b.getD i.toNat 0:=by unfold GL;rw[BY a]
  exact fI c [.tmp 4] (by rw[h1];exact eR)
 ·have h1:GL b i=0:=by unfold GL;rw[An (AAh.2 a)]
  exact fI c [.tmp 4] (by rw[h1];exact eR)
def MX (a b:List Int):Bool:=(List.range a.length).all λi=>B9 .andNot .u64 (a.getD i 0) (GL b (i:Int))==0
def i6 (a b:List Int) (n:Nat):Bool:=(List.range n).all λi=>B9 .andNot .u64 (a.getD i 0) (GL b (i:Int))==0
theorem nS (a b:List Int) (n:Nat):i6 a b (n+1)=(i6 a b n&&B9 .andNot .u64 (a.getD n 0) (GL b (n:Int))==0):=by
 unfold i6;rw[TD,AEE];simp
def Qn:Aa:={ ins:=[BT,BT],pre:=λ_=>True,out:=λ(a,b,_)=>[.p .bool (MX a b)],lend:=true }
attribute [local go_sem] Qn
theorem Wv:Ad Tryz.prog 133 Qn:=by
 refine fK [0,1,4,5,6,7,8,9,10,19] Tryz.func133 Tryz.ntmps133 (AF A3o AH) ?_;rintro w0 O0 ⟨a,b,u⟩ e ⟨⟨g,-⟩,-⟩ -;simp only[AP]at g;simp only[Qn,AM];repeat'(first|exact trivial|refine eS rfl ?_|refine rX e ?_ ?_)
 have h:MX a b=i6 a b a.length:=rfl;refine AK (ι:={n:Nat//n<=a.length/\i6 a b n=true}) (λn=>⟨[(1,.p BT b),(7,.p BT a),(8,.p (.int .i64) (a.length:Int)),(9,.p (.int .i64) (n.1:Int))],[]⟩) (λn=>a.length-n.1) ⟨0,IN _,rfl⟩ (eW []) (λn=>?_)
 ·obtain⟨n,hn,f⟩:=n;have hs:=nS a b n;simp only;repeat'(first|exact trivial|refine eS rfl ?_|refine AB ?_|refine rX e ?_ ?_|refine rC ?_ ?_<;>intro d<;>try(cases d;done))
  ·exact d
  ·have c:n<a.length:=by exact eV
   have h1:MX a b=false:=by
    unfold MX;rw[ADY];exact⟨n,Ri.2 c,by simpa using d⟩
   exact fI e [.tmp 4] (by rw[h1];exact eR)
  ·exact eV
  ·have c:n<a.length:=by exact eV
   refine⟨⟨n+1,c,?_⟩,by simp only;omega,AC [] rfl rfl ?_ ?_⟩
   ·rw[hs,f];simpa using d
   ·exact eN
   ·exact eN
  ·have c:n=a.length:=by exact eV
   subst c;exact fI e [.tmp 4] (by rw[h,f];exact eR)
abbrev Tz:G2:=(ByteArray.empty,[],[],[])
def A7 (h:AG) (a b:Int):Bool:=MX (h.1.getD b.toNat Tz).2.1 (h.1.getD a.toNat Tz).2.1
def Ww:Aa:={ ins:=[ER,T3,T3],pre:=λ(h,a,b,_)=>((0:Int)<=a/\a<(List.length (h:AG).1:Int))/\((0:Int)<=b/\b<(List.length (h:AG).1:Int)),out:=λ(h,a,b,_)=>[.p .bool (A7 h a b)],lend:=true }
theorem c5:Ad Tryz.prog 84 Ww:=by
 refine fK [0,1,2,3,6] Tryz.func84 Tryz.ntmps84 (AF Wv AH) ?_;rintro w0 O0 ⟨⟨e,hf⟩,a,b,u⟩ c-⟨ha,d⟩;simp only[Ww,AM];repeat'(first|exact trivial|refine eS rfl ?_|refine rX c ?_ ?_)
 ·exact⟨d,ha⟩
 ·exact fI c [.tmp 6] (by unfold A7;exact eR)
end
section
attribute [local go_sem] Qn
def Wx:Aa:={ ins:=[BT],pre:=λ(b,_)=>List.length b<=100000,out:=λ(b,_)=>[.p BT (BM b)] }
attribute [local go_sem] Wx
theorem nT:Ad Tryz.prog 212 Wx:=by
 refine fK [0,2,3,15] Tryz.func212 Tryz.ntmps212 AH ?_;rintro w0 O0 ⟨b,u⟩ d-f;have f:b.length<=100000:=f;simp only[Wx,AM];repeat'(first|exact trivial|refine eS rfl ?_|refine rX d ?_ ?_)
 refine AK (ι:={n:Nat//n<=b.length/\Ci b n=Ci b b.length}) (λn=>⟨[(0,.p BT b),(3,.p (.int .i64) (n.1:Int))],[]⟩) (λn=>n.1) ⟨b.length,NO _,rfl⟩ (eW []) (λn=>?_)
 ·obtain⟨n,hn,g⟩:=n;simp only;repeat'(first|refine eS rfl ?_|refine AB ?_|refine rX d ?_ ?_|refine rC ?_ ?_<;>intro c<;>try(cases c;done))
  ·constructor
   ·exact eV
   ·intro h;refine⟨?_,?_⟩<;>exact eV
  ·exact eV
  ·obtain⟨h1,a⟩:=c;obtain⟨m,rfl⟩:∃m,n=m+1:=⟨n-1,by omega⟩;have e:(((m+1:Nat):Int)-1)=(m:Int):=by omega
   rw[e]at a;have a:b.getD m 0=0:=a;have j:Ci b m=Ci b b.length:=by
    rw[<-g];show _=if b.getD m 0=0 then Ci b m else m+1
    rw[BY a]
   refine⟨⟨m,by omega,j⟩,by simp,AC [] rfl rfl ?_ ?_⟩
   ·exact eN
   ·simp only[e];exact eN
  ·exact RY.2 hn
  ·have i:Ci b n=n:=by
    cases n with
    | zero=>rfl
    | succ m =>
     have e:(((m+1:Nat):Int)-1)=(m:Int):=by omega
     rw[e]at c;have a:=c (by omega);have a:¬b.getD m 0=0:=a;show (if b.getD m 0=0 then Ci b m else m+1)=m+1;rw[An a]
   have h1:BM b=b.take n:=by unfold BM;rw[<-g,i]
   rw[<-h1];exact fI d [.tmp 2]
def G9 (g:Nat->Int) (n i:Nat):List Int:=(List.range n).map λj=>if j<i then g j else 0
theorem Zb (g:Nat->Int) (n i:Nat):(G9 g n i).length=n:=by simp[G9]
theorem nU (g:Nat->Int) (n:Nat):G9 g n 0=List.replicate n 0:=by
 apply TF
 ·simp[G9]
 ·intro j h1 a;simp[G9]
theorem A0j (g:Nat->Int) (n i:Nat):(G9 g n i).set i (g i)=G9 g n (i+1):=by
 apply TF
 ·simp[G9]
 ·intro j h1 b;simp only[G9,List.getElem_set,AEl,AEo];split
  ·rename_i e;rw[BY (by omega),e]
  ·rename_i e;by_cases a:j<i
   ·rw[BY a,BY (by omega)]
   ·rw[An a,An (by omega)]
def c6 (a b:List Int) (i:Nat):Int:=B9 .and .u64 (a.getD i 0) (b.getD i 0)
def GA (a b:List Int):List Int:=BM (G9 (c6 a b) (min a.length b.length) (min a.length b.length))
def A3p:Aa:={ ins:=[BT,BT],pre:=λ(a,_,_)=>List.length a<=100000,out:=λ(a,b,_)=>[.p BT (GA a b)] }
attribute [local go_sem] A3p
theorem A7d:Ad Tryz.prog 176 A3p:=by
 refine fK [0,1,4,5,6,14,15,16] Tryz.func176 Tryz.ntmps176 (AF nT AH) ?_;rintro w0 O0 ⟨a,b,u⟩ d-ha;have ha:a.length<=100000:=ha;simp only[A3p,AM];repeat'(first|exact trivial|refine eS rfl ?_|refine rX d ?_ ?_)
 ·split<;>simp only[AP]<;>dsimp only[Ty.den]at *<;>omega
 ·have h:Int.toNat (if ((List.length b:Nat):Int)<((List.length a:Nat):Int) then ((List.length b:Nat):Int) else ((List.length a:Nat):Int))=min (List.length a) (List.length b):=by split<;>omega
  rw[h];have j:GA a b=BM (G9 (c6 a b) (min a.length b.length) (min a.length b.length)):=rfl;have k:min a.length b.length<=a.length:=Nat.min_le_left _ _;have l:min a.length b.length<=b.length:=Nat.min_le_right _ _;generalize min a.length b.length=n at *;refine AK (ι:={i:Nat//i<=n}) (λi=>⟨[(0,.p BT a),(1,.p BT b),(5,.sr 12 QN 0 n),(14,.p (.int .i64) (n:Int)),(15,.p (.int .i64) (i.1:Int))],[(12,.arr 186 QN (G9 (c6 a b) n i.1))]⟩) (λi=>n-i.1) ⟨0,IN _⟩ (AC [(12,.nm 12)] rfl rfl ?_ ?_) (λi=>?_)
  ·refine eM ?_;rw[nU]
  ·exact eN
  ·obtain⟨i,hi⟩:=i;have f:=Zb (c6 a b) n i;simp only;repeat'(first|exact trivial|refine eS rfl ?_|refine AB ?_|refine rX d ?_ ?_|refine rC ?_ ?_<;>intro c<;>try(cases c;done))
   ·have e:i<n:=IS.1 c;exact⟨by exact eV,by exact eV,c⟩
   ·exact eV
   ·have e:i<n:=IS.1 c;refine⟨⟨i+1,e⟩,by simp only;omega,AC [(12,.nm 12)] rfl rfl ?_ ?_⟩
    ·simp only[<-A0j];refine eM ?_;rfl
    ·exact eN
   ·have e:i=n:=by omega
    subst e;have g:(G9 (c6 a b) i i).take i=G9 (c6 a b) i i:=As (by rw[f];exact NO _);refine FQ [12] ?_;repeat'(first|refine eS rfl ?_|refine rX d ?_ ?_)
    ·rw[g,f];dsimp only[Ty.den]at *;omega
    ·rw[g];exact fI d [.tmp 4] (by rw[j];exact eR)
def D8 (a b:List Int):Bool:=MX a b&&MX b a
def c7:Aa:={ ins:=[BT,BT],pre:=λ_=>True,out:=λ(a,b,_)=>[.p .bool (D8 a b)],lend:=true }
attribute [local go_sem] c7
theorem A0k:Ad Tryz.prog 179 c7:=by
 refine fK [0,1,4] Tryz.func179 Tryz.ntmps179 (AF Wv AH) ?_;rintro w0 O0 ⟨a,b,u⟩ c - -;simp only[c7,AM];repeat'(first|exact trivial|refine eS rfl ?_|refine rX c ?_ ?_)
 exact fI c [.tmp 4] (by unfold D8;exact eR)
def E8 (c:List Int):Nat->List G2->Int
 | _,[]=>-1
 | k,t :: l=>if D8 t.2.1 c=true then (k:Int) else E8 c (k+1) l
theorem nV (c:List Int) (l:List G2) {k:Nat} (h:k<l.length):E8 c k (l.drop k)=if D8 (l.getD k Tz).2.1 c=true then (k:Int) else E8 c (k+1) (l.drop (k+1)):=by
 rw[On h];have e:l.getD k Tz=l[k]:=by simp[AS,h]
 rw[e];rfl
theorem A3q (c:List Int) (t:G2):BJ Tryz.prog 178 [.p mM t,.bp 1 [] 0] [(1,.box 140 false [.p BT c])] [1] (λres b=>res=.p .bool (D8 t.2.1 c)/\b=[(1,.box 140 false [.p BT c])]):=by
 refine Kt [0,1,2,3] [] [] Tryz.func178 Tryz.ntmps178 (AF A0k AH) ?_;intro w0 K O0 ρ0 a d e;simp only[Ao];repeat'(first|exact trivial|refine eS rfl ?_|refine rX a ?_ ?_)
 refine Ev.ent (σ':=⟨[(3,.p .bool (D8 t.2.1 c))],[(1,.box 140 false [.p BT c])]⟩) ?_ (AC [(1,.nm 1)] rfl rfl ?_ ?_)
 ·exact fM a [.tmp 3] (.p .bool (D8 t.2.1 c)) eT ⟨rfl,rfl⟩
 ·exact eN
 ·exact eN
theorem A0l (l:List G2) (c:List Int) (i:l.length<=100000):BJ Tryz.prog 177 [.p WN l,.clo 178 [1]] [(1,.box 140 false [.p BT c])] [1] (λres g=>res=.p T3 (E8 c 0 l)/\g=[(1,.box 140 false [.p BT c])]):=by
 refine Kt [0,1,4,5,7,8,9,16] [] [] Tryz.func177 Tryz.ntmps177 AH ?_;intro w0 K O0 ρ0 b j m;simp only[Ao];repeat'(first|exact trivial|refine eS rfl ?_|refine rX b ?_ ?_)
 refine AK (ι:={k:Nat//k<=l.length/\E8 c k (l.drop k)=E8 c 0 l}) (λk=>⟨[(0,.p WN l),(1,.clo 178 [1]),(7,.p (.int .i64) (l.length:Int)),(8,.p (.int .i64) (k.1:Int))],[(1,.box 140 false [.p BT c])]⟩) (λk=>l.length-k.1) ⟨0,IN _,rfl⟩ (eW [(1,.nm 1)]) (λk=>?_)
 ·obtain⟨k,hk,hf⟩:=k;have f:=λh:k<l.length=>nV c l h;simp only;repeat'(first|exact trivial|refine eS rfl ?_|refine rX b ?_ ?_|refine rC ?_ ?_<;>intro a<;>try(cases a;done))
  ·have d:k<l.length:=IS.1 a;have e:=f d;refine cP 5 b ?_ ?_
   ·exact a
   ·refine rM b (A3q c (l.getD k Tz)) [(1,.nm 1)] [] ?_ ?_ ?_
    ·exact eN
    ·exact eN
    ·rintro _ _ ⟨rfl,rfl⟩;refine⟨[(1,.nm 1)],.p .bool (D8 (l.getD k Tz).2.1 c),[(1,.box 140 false [.p BT c])],rfl,rfl,?_,?_,rfl,rfl,CP ?_⟩
     ·exact eN
     ·exact eN
     ·repeat'(first|exact trivial|refine eS rfl ?_|refine AB ?_|refine rX b ?_ ?_|refine rC ?_ ?_<;>intro a<;>try(cases a;done))
      ·have a:D8 (l.getD k Tz).2.1 c=true:=a;rw[BY a,hf]at e;refine Ev.ent (σ':=⟨[(4,.p (.int .i64) (k:Int))],[(1,.box 140 false [.p BT c])]⟩) ?_ (AC [(1,.nm 1)] rfl rfl ?_ ?_)
       ·exact fM b [.tmp 4] (.p T3 (k:Int)) eT ⟨by rw[e],rfl⟩
       ·exact eN
       ·exact eN
      ·omega
      ·have a:D8 (l.getD k Tz).2.1 c=false:=a;rw[An (by rw[a];simp)]at e;exact⟨⟨k+1,d,e.symm.trans hf⟩,by simp only;omega,eW [(1,.nm 1)]⟩
  ·have d:l.drop k=[]:=By (RY.1 a);rw[d]at hf;have hf:(-1:Int)=E8 c 0 l:=hf;refine Ev.ent (σ':=⟨[(4,.p (.int .i64) (-1))],[(1,.box 140 false [.p BT c])]⟩) ?_ (AC [(1,.nm 1)] rfl rfl ?_ ?_)
   ·exact fM b [.tmp 4] (.p T3 (-1)) eT ⟨by rw[hf],rfl⟩
   ·exact eN
   ·exact eN
def Bb (h:AG) (t:Int):List Int:=(h.1.getD t.toNat Tz).2.1
def Bm (h:AG) (a b:Int):Int×Bool :=
 if (GA (Bb h a) (Bb h b)).length=0 then (0,false) else if E8 (GA (Bb h a) (Bb h b)) 0 h.1<0 then (0,false) else (E8 (GA (Bb h a) (Bb h b)) 0 h.1,true)
def xG:Aa:={ ins:=[ER,T3,T3],pre:=λ(h,a,b,_)=>((0:Int)<=a/\a<(List.length (h:AG).1:Int))/\((0:Int)<=b/\b<(List.length (h:AG).1:Int))/\List.length (h:AG).1<=100000/\(∀x∈(h:AG).1,x.2.1.length<=100000),out:=λ(h,a,b,_)=>[.p T3 (Bm h a b).1,.p .bool (Bm h a b).2],lend:=true }
theorem xH:Ad Tryz.prog 135 xG:=by
 refine fK [0,1,2,3,6,7,8,9,25,31] Tryz.func135 Tryz.ntmps135 (AF A7d AH) ?_;rintro w0 O0 ⟨⟨d,hf⟩,a,b,u⟩ e-⟨ha,i,k,n⟩;simp only[xG,AM];refine Ev.ent (σ':=⟨[(0,.p ER (d,hf)),(1,.p T3 a),(2,.p T3 b)],[]⟩) ?_ (AC [] rfl rfl ?_ ?_)
 ·repeat'(first|exact trivial|refine eS rfl ?_|refine rX e ?_ ?_|refine rC ?_ ?_<;>intro f<;>try(cases f;done))
  ·refine⟨ha,i,?_⟩;have h1:Int.toNat a<List.length d:=(AF0 ha.1).2 ha.2;exact n _ (AE (d:List G2) Tz h1)
  ·have l:Bm (d,hf) a b=(0,false):=by
    unfold Bm;rw[BY (by unfold Bb;exact AFq f)]
   exact fI e [.tmp 6,.tmp 7] (by rw[l];exact eR)
  ·have j:∀c,c=GA (List.getD d (Int.toNat a) (ByteArray.empty,[],[],[])).2.1 (List.getD d (Int.toNat b) (ByteArray.empty,[],[],[])).2.1->c=GA (Bb (d,hf) a) (Bb (d,hf) b):=λc h=>h;have g:Bm (d,hf) a b=if E8 (GA (Bb (d,hf) a) (Bb (d,hf) b)) 0 d<0 then (0,false) else (E8 (GA (Bb (d,hf) a) (Bb (d,hf) b)) 0 d,true):=by
    unfold Bm;rw[An (λh=>f (by unfold Bb at h;exact ADB Int.ofNat h))]
   generalize o:GA (List.getD d (Int.toNat a) (ByteArray.empty,[],[],[])).2.1 (List.getD d (Int.toNat b) (ByteArray.empty,[],[],[])).2.1=c at *;rw[<-j c rfl]at g;refine cP 3 e ?_ ?_
   ·trivial
   ·refine rM e (A0l d c k) [(1,.nm 8)] [] ?_ ?_ ?_
    ·exact eN
    ·exact eN
    ·rintro _ _ ⟨rfl,rfl⟩;refine⟨[(8,.nm 1)],.p T3 (E8 c 0 d),[(8,.box 140 false [.p BT c])],rfl,rfl,?_,?_,rfl,rfl,?_⟩
     ·exact eN
     ·exact eN
     ·generalize E8 c 0 d=m at *;refine rL e ?_ ?_
      ·trivial
      ·repeat'(first|exact trivial|refine eS rfl ?_|refine rX e ?_ ?_|refine rC ?_ ?_<;>intro f<;>try(cases f;done))
       ·rw[BY f]at g;exact fI e [.tmp 6,.tmp 7] (by rw[g];exact eR)
       ·rw[An (AAh.2 f)]at g;exact fI e [.tmp 6,.tmp 7] (by rw[g];exact eR)
 ·exact eN
 ·exact eN
end
theorem Wy (l:List (List Int)) (i k:Nat):l <+: Ga l i k:=by
 unfold Ga;split
 ·exact AFf _ _
 ·exact AAg _
theorem Wz (i:Nat):∀(n k:Nat) (l:List (List Int)),l <+: Gb i n k l
 | 0,_,l=>AAg l
 | n+1,k,l=>by
  unfold Gb;split
  ·exact(Wy l i k).trans (Wz i n (k+1) _)
  ·exact AAg l
theorem Qo:∀(n i:Nat) (l:List (List Int)),l <+: IG n i l
 | 0,_,l=>AAg l
 | n+1,i,l=>by
  unfold IG;split
  ·exact(Wz i i 0 l).trans (Qo n (i+1) _)
  ·exact AAg l
theorem Qp {l m:List (List Int)} (h:l <+: m) {k:Nat} (hk:k<l.length):m.getD k []=l.getD k []:=by
 obtain⟨t,rfl⟩:=h;simp only[AS];rw[Rn hk]
def La (l:List (List Int)) (q p:Nat):Prop:=Ec (l.getD q []) (l.getD p [])=[]\/Ec (l.getD q []) (l.getD p [])∈l
theorem La.pre {l m:List (List Int)} (h:l <+: m) {q p:Nat} (b:q<l.length) (hp:p<l.length) (a:La l q p):La m q p:=by
 unfold La at a ⊢;rw[Qp h b,Qp h hp];rcases a with a|a
 ·exact .inl a
 ·exact .inr (h.subset a)
theorem A7e {l:List (List Int)} {b:List Int} (h:mX l b=true):b∈l:=by
 obtain⟨x,a,e⟩:=Rd.1 h;have:x=b:=by simpa[HS] using e
 rw[<-this];exact a
theorem nW {l:List (List Int)} {i k:Nat} (hi:i<l.length) (hk:k<l.length):La (Ga l i k) i k:=by
 have hp:=Wy l i k;unfold La;rw[Qp hp hi,Qp hp hk];unfold Ga;split
 ·right;simp
 ·rename_i a;rw[AT,Ff,RZ]at a;by_cases h0:0<((Ec (l.getD i []) (l.getD k [])).length:Int)
  ·right;cases hh:mX l (Ec (l.getD i []) (l.getD k [])) with
   | true=>exact A7e hh
   | false=>exact absurd ⟨h0,hh⟩ a
  ·left;exact Rk (by omega)
theorem W8 {i:Nat}:∀ {n k:Nat} {l:List (List Int)},n+k=i->i<l.length->(Gb i n k l).length<=256->(∀p,p<k->La l i p)->∀p,p<i->La (Gb i n k l) i p
 | 0,k,l,hn,hi,a,h=>λp hp=>h p (by omega)
 | n+1,k,l,hn,hi,a,h=>by
  unfold Gb at a ⊢;split at a
  ·rename_i b;rw[BY b];have hp:=Wy l i k;refine W8 (by omega) (AAi hi hp.length_le) a λp c=>?_;by_cases e:p=k
   ·subst e;exact nW hi (by omega)
   ·exact(h p (by omega)).pre hp hi (by omega)
  ·rename_i b;exact absurd (by omega:l.length<=256) b
theorem W9:∀ {n i:Nat} {l:List (List Int)},257<=n+i->(IG n i l).length<=256->i<=l.length->(∀q p,p<q->q<i->La l q p)->∀q p,p<q->q<(IG n i l).length->La (IG n i l) q p
 | 0,i,l,hn,a,f,h=>λq p c d=>by
  have j:l.length<=256:=a;omega
 | n+1,i,l,hn,a,f,h=>by
  unfold IG at a ⊢;split at a
  ·rename_i b;rw[BY b];have hp:=Wz i i 0 l;have k:=hp.length_le;have g:=(Qo n (i+1) (Gb i i 0 l)).length_le;refine W9 (by omega) a (by omega) λq p c d=>?_;by_cases e:q=i
   ·subst e;exact W8 (by omega) b.1 (by omega) (λp hp=>by omega) p c
   ·exact(h q p c (by omega)).pre hp (by omega) (by omega)
  ·rename_i b;rw[An b];intro q p c d;exact h q p c (by
    refine Do λhh=>b ⟨by omega,a⟩)
theorem c8 {c:List (List Int)} (a:(Av c).length<=256):∀q p,p<q->q<(Av c).length->La (Av c) q p :=
 W9 (by omega) a (IN _) (λq p _ h=>by omega)
theorem A3r (a b:List Int) (k:Nat):(Ec a b).getD k 0=if k<a.length then B9 .and .u64 (a.getD k 0) (b.getD k 0) else 0:=by
 unfold Ec;rw[Qa];split
 ·rename_i h;exact NM .and a b h
 ·rename_i h;rw[AS,Rj (by rw[Eq];omega)];rfl
theorem HA {b:List Int} {k:Nat} (h:¬k<b.length):b.getD k 0=0:=by
 rw[AS,Rj (by omega)];rfl
theorem Qq {a b:List Int} (ha:IJ a) (c:IJ b) (i:Nat):BF (Ec a b) i=(BF a i&&BF b i):=by
 unfold BF;rw[A3r];split
 ·rw[II (BK ha _) (BK c _),Rb,Nat.testBit_and]
 ·rename_i h;rw[HA h];simp
theorem Qr {a b:List Int} (ha:IJ a) (d:IJ b):IJ (Ec a b):=by
 refine Ox λx c=>?_;unfold GY at c;obtain⟨i,-,rfl⟩:=GO.1 c;rw[Hj,II (BK ha _) (BK d _)];have h1:=BK ha i;have e:(a.getD i 0).toNat &&& (b.getD i 0).toNat<=(a.getD i 0).toNat:=AF8;have f:=h1.1;have g:=h1.2;exact⟨bY _,by omega⟩
theorem Se (b:List Int):∀n,Ci b n=0\/b.getD (Ci b n-1) 0≠0
 | 0=>.inl rfl
 | n+1=>by
  unfold Ci;split
  ·exact Se b n
  ·rename_i h;right;simpa using h
theorem A7f {n:Nat} (h0:n≠0) (h1:n<18446744073709551616):∃r,r<64/\n.testBit r=true:=by
 refine Do λb=>h0 ?_;refine Nat.eq_of_testBit_eq λr=>?_;rw[Nat.zero_testBit];by_cases c:r<64
 ·cases a:n.testBit r with
  | false=>rfl
  | true=>exact absurd ⟨r,c,a⟩ b
 ·have e:(18446744073709551616:Nat)=2 ^ 64:=by decide
  rw[e]at h1;exact Nat.testBit_lt_two_pow (AAi h1 (Nat.pow_le_pow_right (by decide) (by omega)))
theorem i7 {b:List Int} (a:IJ b) {k:Nat} (h:b.getD k 0≠0):∃i,BF b i=true:=by
 have hu:=BK a k;have h1:=hu.1;have d:=hu.2;obtain⟨r,e,c⟩:=A7f (n:=(b.getD k 0).toNat) (by omega) (by omega);refine⟨64*k+r,?_⟩;unfold BF;rw[show (64*k+r) / 64=k by omega,show (64*k+r) % 64=r by omega];exact c
theorem nX {b:List Int} (a:IJ b) (h:BM b≠[]):∃i,BF b i=true:=by
 rcases Se b b.length with h1|h1
 ·exact absurd (by unfold BM;rw[h1];rfl) h
 ·exact i7 a h1
theorem Zc {a b:List Int} (ha:IJ a) (c:IJ b) (h:∀i,BF a i=true->BF b i=true) (k:Nat):B9 .andNot .u64 (a.getD k 0) (b.getD k 0)=0:=by
 rw[SW];have:(BitVec.ofInt 64 (a.getD k 0) &&& ~~~BitVec.ofInt 64 (b.getD k 0))=0#64:=by
  apply BitVec.eq_of_getLsbD_eq;intro r e;rw[BitVec.getLsbD_and,BitVec.getLsbD_not,<-AEt,<-AEt,Fm (BK ha k),Fm (BK c k)];have hk:=h (64*k+r);unfold BF at hk;rw[show (64*k+r) / 64=k by omega,show (64*k+r) % 64=r by omega]at hk;cases d:(a.getD k 0).toNat.testBit r with
  | false=>simp
  | true=>rw[hk d];simp
 rw[this];rfl
theorem Fc {a b:List Int} (ha:IJ a) (c:IJ b):E1 a b=true↔∀i,BF a i=true->BF b i=true:=by
 constructor
 ·exact λh i hi=>MS ha c h hi
 ·intro h;unfold E1 SQ BM;have h1:Ci (GY .andNot a b a.length) (GY .andNot a b a.length).length=0:=by
   rw[Eq];exact SX λk hk=>by rw[NM _ _ _ hk];exact Zc ha c h k
  rw[h1];rfl
structure JH (l:List (List Int)):Prop where
 wds:∀c∈l,IJ c
 some:∀c∈l,∃i,BF c i=true
 wid:∀c∈l,c.length<=64
 meet:∀a∈l,∀b∈l,(∃i,BF a i=true/\BF b i=true)->∃t∈l,∀i,BF t i=(BF a i&&BF b i)
structure Bs (l:List (List Int)):Prop where
 wds:∀c∈l,IJ c
 some:∀c∈l,∃i,BF c i=true
theorem Sf {l:List (List Int)} {k:Nat} (h:¬k<l.length):l.getD k []=[]:=by
 rw[AS,Rj (by omega)];rfl
theorem Bs.get {l:List (List Int)} (h:Bs l) (k:Nat):IJ (l.getD k []):=by
 by_cases hk:k<l.length
 ·exact h.wds _ (BE hk)
 ·rw[Sf hk];intro x a;cases a
theorem A7g {l:List (List Int)} (h:Bs l) (i k:Nat):Bs (Ga l i k):=by
 unfold Ga;split
 ·rename_i b;rw[AT,Ff]at b;refine⟨λc a=>?_,λc a=>?_⟩
  ·rcases No.1 a with a|a
   ·exact h.wds c a
   ·have:c=Ec (l.getD i []) (l.getD k []):=by simpa using a
    rw[this];exact Qr (h.get i) (h.get k)
  ·rcases No.1 a with a|a
   ·exact h.some c a
   ·have:c=Ec (l.getD i []) (l.getD k []):=by simpa using a
    rw[this];have g:Ec (l.getD i []) (l.getD k [])≠[]:=by
     intro e;rw[e]at b;exact absurd b.1 (by simp)
    have m:IJ (GY .and (l.getD i []) (l.getD k []) (l.getD i []).length):=by
     intro x d;unfold GY at d;obtain⟨j,-,rfl⟩:=GO.1 d;rw[Hj,II (BK (h.get i) _) (BK (h.get k) _)];have h1:=BK (h.get i) j;have n:((l.getD i []).getD j 0).toNat &&& ((l.getD k []).getD j 0).toNat<=((l.getD i []).getD j 0).toNat:=AF8;have o:=h1.1;have p:=h1.2;exact⟨bY _,by omega⟩
    obtain⟨j,f⟩:=nX m g;exact⟨j,by unfold Ec;rw[Ow];exact f⟩
 ·exact h
theorem xI {i:Nat}:∀ {n k:Nat} {l:List (List Int)},Bs l->Bs (Gb i n k l)
 | 0,_,_,h=>h
 | n+1,k,l,h=>by
  unfold Gb;split
  ·exact xI (A7g h i k)
  ·exact h
theorem xJ:∀ {n i:Nat} {l:List (List Int)},Bs l->Bs (IG n i l)
 | 0,_,_,h=>h
 | n+1,i,l,h=>by
  unfold IG;split
  ·exact xJ (xI h)
  ·exact h
theorem A0m {d:List AI} (f:A5 d=0):Bs (AX d):=by
 obtain⟨-,l,-⟩:=Ay f;have h:=D0 d d.length;rw[Re]at h;have b:(AO d).length<=4096:=by omega
 refine⟨λc a=>?_,λc a=>?_⟩
 ·unfold AX at a;obtain⟨s,-,rfl⟩:=GO.1 a;exact(B5 (d:=d) b s 0).2.1
 ·unfold AX at a;obtain⟨s,hs,rfl⟩:=GO.1 a;obtain⟨j,g,e⟩:=CG ByteArray.empty hs;have i:0<=Ap d s:=by
   obtain⟨x,k,e⟩:=DY hs;rw[<-e];exact DX k
  exact⟨j,(B5 (d:=d) b s j).1.2 ⟨g,by rw[e];exact Oy i⟩⟩
theorem XA {d:List AI} (l:A5 d=0) (s:(Av (AX d)).length<=256):JH (Av (AX d)):=by
 obtain⟨-,o,-⟩:=Ay l;have g:Bs (Av (AX d)):=xJ (A0m l);have n:=c8 s;refine⟨g.wds,g.some,Qh (O4 o),λa ha b r hi=>?_⟩;obtain⟨q,f,rfl⟩:=CG [] ha;obtain⟨p,hp,rfl⟩:=CG [] r;have key:∀q p,q<(Av (AX d)).length->p<(Av (AX d)).length->La (Av (AX d)) q p->(∃i,BF ((Av (AX d)).getD q []) i=true/\BF ((Av (AX d)).getD p []) i=true) ->
   ∃t∈Av (AX d),∀i,BF t i=(BF ((Av (AX d)).getD q []) i&&BF ((Av (AX d)).getD p []) i):=by
  intro q p f hp c hi;have m:=Qq (g.get q) (g.get p);rcases c with c|c
  ·obtain⟨i,j,k⟩:=hi;have:=m i;rw[c,j,k]at this;unfold BF at this;simp at this
  ·exact⟨_,c,m⟩
 rcases AET p q with h|h|h
 ·exact key q p f hp (n q p h f) hi
 ·subst h;exact⟨_,BE f,λi=>by rw[Bool.and_self]⟩
 ·obtain⟨t,u,e⟩:=key p q hp f (n p q h hp) (by obtain⟨i,j,k⟩:=hi;exact⟨i,k,j⟩);exact⟨t,u,λi=>by rw[e i,AFu]⟩
def GH (h:AG):Prop:=JH (h.1.map λt=>t.2.1)/\h.1.length<=256
theorem JJ (d:List AI):GH (Au d).1:=by
 unfold Au;split
 ·exact⟨⟨λc h=>(by cases h),λc h=>(by cases h),λc h=>(by cases h),λc h=>(by cases h)⟩,by simp⟩
 ·rename_i g;have g:(BC d).2=0:=Do g;have m:Ax d=0:=by
   unfold BC at g;split at g
   ·rename_i h;exact absurd g h
   ·rename_i h;exact Do h
  obtain⟨p,-,-⟩:=CC m;obtain⟨l,k,-⟩:=BZ p;have hf:=XA l k;have f:∀c,c∈((Bq d).1.map λt=>t.2.1)↔c∈Av (AX d):=by
   intro c;have e:((Bq d).1.map λt=>t.2.1)=(AL d).map λx=>x.2:=by
    show ((EZ _ _ _).map λt=>t.2.1)=_;unfold EZ;rw[AAd];apply TF
    ·simp
    ·intro i h1 q;simp[AS,show i<(AL d).length by simpa using h1]
   rw[e];constructor
   ·intro h;obtain⟨x,o,rfl⟩:=GO.1 h;obtain⟨b,j,rfl⟩:=DZ.1 o;exact j
   ·intro h;exact GO.2 ⟨_,DZ.2 ⟨c,h,rfl⟩,rfl⟩
  refine⟨⟨λc h=>hf.wds c ((f c).1 h),λc h=>hf.some c ((f c).1 h),λc h=>hf.wid c ((f c).1 h),λa ha b j hi=>?_⟩,?_⟩
  ·obtain⟨t,n,e⟩:=hf.meet a ((f a).1 ha) b ((f b).1 j) hi;exact⟨t,(f t).2 n,e⟩
  ·show (EZ _ _ _).length<=256;rw[KD,IL];exact k
theorem CV {h:AG} {t:Int} (a:0<=t) (b:t<(h.1.length:Int)):Bb h t∈h.1.map λt=>t.2.1 :=
 GO.2 ⟨_,AE h.1 Tz (k:=t.toNat) (by omega),rfl⟩
theorem XB {a b:List Int} (ha:IJ a) (c:IJ b):MX a b=true↔∀i,BF a i=true->BF b i=true:=by
 constructor
 ·intro h i hi;by_cases hk:i / 64<a.length
  ·have h1:=If.1 h (i / 64) (Ri.2 hk);rw[TC,Hj]at h1;exact Tr (BK ha _) (BK c _) h1 (AFD _ (by decide)) hi
  ·exfalso;unfold BF at hi;rw[HA hk]at hi;simp at hi
 ·intro h;unfold MX;rw[If];intro k _;rw[TC,Hj];exact Zc ha c h k
theorem A3s {a b:List Int} (ha:IJ a) (c:IJ b) (i:Nat):BF (GA a b) i=(BF a i&&BF b i):=by
 unfold GA;rw[Ow];unfold BF;have:(G9 (c6 a b) (min a.length b.length) (min a.length b.length)).getD (i / 64) 0=B9 .and .u64 (a.getD (i / 64) 0) (b.getD (i / 64) 0):=by
  by_cases h:i / 64<min a.length b.length
  ·unfold G9;rw[AS,aT,ADS h];show (if i / 64<min a.length b.length then c6 a b (i / 64) else 0)=_;rw[BY h];rfl
  ·rw[HA (by rw[Zb];exact h),II (BK ha _) (BK c _)];by_cases h1:i / 64<a.length
   ·rw[HA (b:=b) (by omega)];simp
   ·rw[HA (b:=a) h1];simp
 rw[this,II (BK ha _) (BK c _),Rb,Nat.testBit_and]
theorem A3t {a b:List Int} (ha:IJ a) (d:IJ b):IJ (GA a b):=by
 refine Ox λx c=>?_;unfold G9 at c;obtain⟨j,-,rfl⟩:=GO.1 c;split
 ·unfold c6;rw[II (BK ha _) (BK d _)];have h1:=BK ha j;have e:(a.getD j 0).toNat &&& (b.getD j 0).toNat<=(a.getD j 0).toNat:=AF8;have f:=h1.1;have g:=h1.2;exact⟨bY _,by omega⟩
 ·exact⟨by decide,by decide⟩
theorem XC (c:List Int):∀(l:List G2) (k:Nat),(E8 c k l=-1/\∀t∈l,D8 t.2.1 c=false)\/((k:Int)<=E8 c k l/\E8 c k l<(k:Int)+l.length/\D8 (l.getD ((E8 c k l).toNat-k) Tz).2.1 c=true)
 | [],k=>.inl ⟨rfl,λt a=>by cases a⟩
 | x :: l,k=>by
  simp only[E8];split
  ·rename_i h;right;refine⟨by omega,by simp only[OS];omega,?_⟩;rw[show ((k:Int).toNat-k)=0 by omega];exact h
  ·rename_i h;have h:D8 x.2.1 c=false:=by simpa using h
   rcases XC c l (k+1) with ⟨h1,b⟩|⟨h1,b,d⟩
   ·left;refine⟨h1,λt a=>?_⟩;rcases DO.1 a with rfl|a
    ·exact h
    ·exact b t a
   ·right;refine⟨by omega,by simp only[OS];omega,?_⟩;rw[show ((E8 c (k+1) l).toNat-k)=((E8 c (k+1) l).toNat-(k+1))+1 by omega];exact d
def Tb2 (h:AG) (t:Int) (i:Nat):Bool:=BF (Bb h t) i
theorem Bx {h:AG} (hk:GH h) {a b:Int} (c:0<=a) (d:a<(h.1.length:Int)) (e:0<=b) (b1:b<(h.1.length:Int)):A7 h a b=true↔∀i,Tb2 h b i=true->Tb2 h a i=true :=
 XB (hk.1.wds _ (CV e b1)) (hk.1.wds _ (CV c d))
theorem A3v {h:AG} (hk:GH h) {a b:Int} (g:0<=a) (j:a<(h.1.length:Int)) (l:0<=b) (b1:b<(h.1.length:Int)) :
  ((Bm h a b).2=true->0<=(Bm h a b).1/\(Bm h a b).1<(h.1.length:Int)/\∀i,Tb2 h (Bm h a b).1 i=(Tb2 h a i&&Tb2 h b i))/\((∃i,Tb2 h a i=true/\Tb2 h b i=true)->(Bm h a b).2=true):=by
 have s:=hk.1.wds _ (CV g j);have u:=hk.1.wds _ (CV l b1);have c:=A3s s u;have o:=A3t s u;have heq:∀t∈h.1,D8 t.2.1 (GA (Bb h a) (Bb h b))=true↔∀i,BF t.2.1 i=BF (GA (Bb h a) (Bb h b)) i:=by
  intro t d;have wt:=hk.1.wds t.2.1 (GO.2 ⟨t,d,rfl⟩);unfold D8;rw[AT,XB wt o,XB o wt];constructor
  ·rintro⟨v,w⟩ i;rw[AE9];exact⟨v i,w i⟩
  ·intro e;exact⟨λi hi=>by rw[<-e i];exact hi,λi hi=>by rw[e i];exact hi⟩
 unfold Bm;by_cases f:(GA (Bb h a) (Bb h b)).length=0
 ·rw[BY f];refine⟨λe=>(by cases e),?_⟩;rintro⟨i,q,r⟩;exfalso;have:=c i;rw[Rk f]at this;unfold Tb2 at q r;rw[q,r]at this;unfold BF at this;simp at this
 ·rw[An f];rcases XC (GA (Bb h a) (Bb h b)) h.1 0 with ⟨h1,m⟩|⟨h1,m,n⟩
  ·rw[BY (by omega)];refine⟨λe=>(by cases e),λhi=>?_⟩;exfalso;obtain⟨t,d,e⟩:=hk.1.meet _ (CV g j) _ (CV l b1) hi;obtain⟨x,p,rfl⟩:=GO.1 d;have:=(heq x p).2 (λi=>by rw[c i];exact e i);rw[m x p]at this;cases this
  ·have h1:0<=E8 (GA (Bb h a) (Bb h b)) 0 h.1:=by omega
   rw[An (by omega)];refine⟨λ_=>⟨h1,by simp only;omega,λi=>?_⟩,λ_=>rfl⟩;rw[Nat.sub_zero]at n;have y:=AE h.1 Tz (k:=(E8 (GA (Bb h a) (Bb h b)) 0 h.1).toNat) (by omega);have:=(heq _ y).1 n i;rw[c i]at this;exact this
theorem MY {h:AG} (hk:GH h) {a b:Int} (l:0<=a) (m:a<(h.1.length:Int)) (n:0<=b) (b1:b<(h.1.length:Int)) :
  ((Bm h a b).2=true->0<=(Bm h a b).1/\(Bm h a b).1<(h.1.length:Int)/\A7 h a (Bm h a b).1=true/\A7 h b (Bm h a b).1=true) /\
  ∀x,0<=x->x<(h.1.length:Int)->A7 h a x=true->A7 h b x=true->(Bm h a b).2=true/\A7 h (Bm h a b).1 x=true:=by
 obtain⟨r,u⟩:=A3v hk l m n b1;refine⟨λe=>?_,λx g k s t=>?_⟩
 ·obtain⟨c,d,f⟩:=r e;refine⟨c,d,(Bx hk l m c d).2 λi hi=>?_,(Bx hk n b1 c d).2 λi hi=>?_⟩
  ·rw[f i,AT]at hi;exact hi.1
  ·rw[f i,AT]at hi;exact hi.2
 ·have o:=(Bx hk l m g k).1 s;have p:=(Bx hk n b1 g k).1 t;obtain⟨i,hi⟩:=hk.1.some _ (CV g k);have e:=u ⟨i,o i hi,p i hi⟩;obtain⟨c,d,f⟩:=r e;refine⟨e,(Bx hk c d g k).2 λj q=>?_⟩;rw[f j,AT];exact⟨o j q,p j q⟩
def Nrm (c:List Int):Prop:=c.length=0\/c.getD (c.length-1) 0≠0
theorem O8 (b:List Int):Nrm (BM b):=by
 unfold Nrm BM;have a:=WQ b b.length;rw[OR,AEh a];rcases Se b b.length with h|h
 ·exact .inl h
 ·by_cases h0:Ci b b.length=0
  ·exact .inl h0
  ·right;rw[AS,List.getElem?_take_of_lt (by omega),<-AS];exact h
theorem A7h {a b:List Int} (ha:IJ a) (f:IJ b) (h:∀i,BF a i=BF b i) (k:Nat):a.getD k 0=b.getD k 0:=by
 have c:=BK ha k;have d:=BK f k;have j:=c.1;have l:=c.2;have m:=d.1;have o:=d.2;have e:(a.getD k 0).toNat=(b.getD k 0).toNat:=by
  refine Nat.eq_of_testBit_eq λr=>?_;by_cases g:r<64
  ·have:=h (64*k+r);unfold BF at this;rw[show (64*k+r) / 64=k by omega,show (64*k+r) % 64=r by omega]at this;exact this
  ·have big:∀n:Nat,n<18446744073709551616->n.testBit r=false:=λn hn=>by
    have e:(18446744073709551616:Nat)=2 ^ 64:=by decide
    rw[e]at hn;exact Nat.testBit_lt_two_pow (AAi hn (Nat.pow_le_pow_right (by decide) (by omega)))
   rw[big _ (by omega),big _ (by omega)]
 omega
theorem xK {a b:List Int} (d:∀k,a.getD k 0=b.getD k 0) (c:Nrm b):b.length<=a.length:=by
 rcases c with h|h
 ·omega
 ·refine Do λe=>h ?_;rw[<-d];exact HA (by omega)
theorem nY {a b:List Int} (ha:IJ a) (e:IJ b) (g:Nrm a) (j:Nrm b) (h:∀i,BF a i=BF b i):a=b:=by
 have c:=A7h ha e h;have f:a.length=b.length:=AEi (xK (λk=>(c k).symm) g) (xK c j);refine TF f λi h1 d=>?_;have:=c i;simpa[AS,h1,d] using this
theorem i8 {α:Type} (l:List α) (x:α) (n:Nat):List.Perm (l.take n++[x]++l.drop n) (x :: l):=by
 have h:l.take n++[x]++l.drop n=l.take n++x :: l.drop n:=by simp
 rw[h];refine AFw.trans ?_;rw[AE6]
def xL (l:List ByteArray):Prop:=l.Pairwise λa b=>AY a b=false
theorem MZ {a b:ByteArray} (h:AY a b=false):AY b a=false:=by
 cases hh:AY b a with
 | false=>rfl
 | true=>rw[D5 hh]at h;cases h
theorem XD {l:List ByteArray} {s:ByteArray} (h:xL l) (hs:∀x∈l,AY x s=false):xL (ET l s):=by
 unfold ET;split
 ·exact h
 ·refine(List.Perm.pairwise_iff (λb=>MZ b) (i8 l s _)).2 ?_;exact TA.2 ⟨λx a=>MZ (hs x a),h⟩
theorem XE {d:List AI} (hn:Ck d=0):xL (AO d):=by
 have key:∀k,k<=d.length->xL (AO (d.take k))/\∀s∈AO (d.take k),∃i,i<k/\(d.getD i d0).1=s:=by
  intro k;induction k with
  | zero =>
   intro _;exact⟨.nil,λs hs=>by cases hs⟩
  | succ k c =>
   intro hk;obtain⟨h1,a⟩:=c (by omega);have e:AO (d.take (k+1))=ET (AO (d.take k)) (d.getD k d0).1:=by
    have:d.take (k+1)=d.take k++[d.getD k d0]:=A0 d d0 (by omega);rw[this];unfold AO;rw[AEu];rfl
   rw[e];refine⟨XD h1 λx b=>?_,λs hs=>?_⟩
   ·obtain⟨i,hi,rfl⟩:=a x b;cases hh:AY (d.getD i d0).1 (d.getD k d0).1 with
    | false=>rfl
    | true =>
     have g:=JC d hh;rw[MT hn (j:=i) (by omega),MT hn (j:=k) (by omega)]at g;omega
   ·rcases Gy hs with hs|hs
    ·obtain⟨i,hi,e⟩:=a s hs;exact⟨i,by omega,e⟩
    ·exact⟨k,by omega,hs.symm⟩
 have:=(key d.length (NO _)).1
 rwa [Re]at this
structure Nd (l:List (List Int)):Prop where
 nd:l.Nodup
 nrm:∀c∈l,Nrm c
theorem A7i {l:List (List Int)} {c:List Int} (h:Nd l) (b:c∉l) (hn:Nrm c):Nd (l++[c]):=by
 refine⟨?_,λx a=>?_⟩
 ·rw[ADF];refine⟨h.nd,by simp,λx a y d e=>b ?_⟩;have:y=c:=by simpa using d
  rw[<-this,<-e];exact a
 ·rcases No.1 a with a|a
  ·exact h.nrm x a
  ·have:x=c:=by simpa using a
   rw[this];exact hn
theorem A7j {l:List (List Int)} (h:Nd l) (i k:Nat):Nd (Ga l i k):=by
 unfold Ga;split
 ·rename_i a;rw[AT,RZ]at a;refine A7i h (λb=>?_) (O8 _);have:mX l (Ec (l.getD i []) (l.getD k []))=true:=Rd.2 ⟨_,b,by unfold HS;exact ADZ rfl⟩;rw[this]at a;cases a.2
 ·exact h
theorem xM {i:Nat}:∀ {n k:Nat} {l:List (List Int)},Nd l->Nd (Gb i n k l)
 | 0,_,_,h=>h
 | n+1,k,l,h=>by
  unfold Gb;split
  ·exact xM (A7j h i k)
  ·exact h
theorem VA:∀ {n i:Nat} {l:List (List Int)},Nd l->Nd (IG n i l)
 | 0,_,_,h=>h
 | n+1,i,l,h=>by
  unfold IG;split
  ·exact VA (xM h)
  ·exact h
theorem Sg {d:List AI} (m:A5 d=0):Nd (AX d):=by
 obtain⟨-,l,-,hn,p⟩:=Ay m;have q:=D0 d d.length;rw[Re]at q;have hap:=XE hn;refine⟨?_,λc n=>?_⟩
 ·unfold AX List.Nodup;rw[ADz,Rh];intro i j hi a o e;have h1:=(Rh.1 hap) i j hi a o;have g:∀k,(hk:k<(AO d).length)->(AO d).getD k ByteArray.empty=(AO d)[k]:=λk hk=>by simp[AS,hk]
  have f:=(B5 (d:=d) (all:=AO d) (by omega) (AO d)[j] 0).2.1;have b:=iI hn p l hi a (by
   rw[g i hi,g j a,e];unfold DP;have:=(Fc f f).2 λ_ h=>h;rw[this];rfl)
  rw[g i hi,g j a,h1]at b;cases b
 ·obtain⟨s,hs,rfl⟩:=GO.1 n;unfold Er ofF;split
  ·exact O8 _
  ·exact .inl rfl
theorem Ma {d:List AI}:∀ {l:List (List Int)} {o:List AR},(o.map (·.2)++l).Nodup->((l.foldl (SY d) o).map (·.2)).Nodup
 | [],o,h=>by simpa using h
 | b :: l,o,h=>by
  rw[ON];refine Ma ?_;unfold SY Gc cQ;have hp:=(i8 o (Gz d (AO d) (AX d) b,b) (Fs (Gz d (AO d) (AX d) b,b) o o.length)).map (λx:AR=>x.2);have c:List.Perm ((o.take (Fs (Gz d (AO d) (AX d) b,b) o o.length)++[(Gz d (AO d) (AX d) b,b)]++o.drop (Fs (Gz d (AO d) (AX d) b,b) o o.length)).map (λx:AR=>x.2)++l) (o.map (·.2)++b :: l) :=
   (hp.append_right l).trans (AFw (a:=b)).symm
  exact c.nodup_iff.2 h
def Lm (h:AG):Prop:=∀a b,0<=a->a<(h.1.length:Int)->0<=b->b<(h.1.length:Int)->A7 h a b=true->A7 h b a=true->a=b
theorem A9v {h:AG} (hk:GH h) (hn:Nd (h.1.map λt=>t.2.1)):Lm h:=by
 intro a b c d f b1 h1 j;have m:=hk.1.wds _ (CV c d);have n:=hk.1.wds _ (CV f b1);have e:Bb h a=Bb h b:=nY m n (hn.nrm _ (CV c d)) (hn.nrm _ (CV f b1)) λi=>by
  rw[AE9];exact⟨(Bx hk f b1 c d).1 j i,(Bx hk c d f b1).1 h1 i⟩
 have hp:=Rh.1 hn.nd;have g:∀k:Int,0<=k->(hk:k<(h.1.length:Int))->Bb h k=(h.1.map λt=>t.2.1)[k.toNat]'(by rw[RU];omega):=λk o p=>by
  unfold Bb;simp[AS,show k.toNat<h.1.length by omega]
 rw[g a c d,g b f b1]at e;rcases Int.lt_trichotomy a b with l|heq|l
 ·exact absurd e (hp a.toNat b.toNat (by rw[RU];omega) (by rw[RU];omega) (by omega))
 ·exact heq
 ·exact absurd e.symm (hp b.toNat a.toNat (by rw[RU];omega) (by rw[RU];omega) (by omega))
theorem i9 (d:List AI):Lm (Au d).1:=by
 refine A9v (JJ d) ?_;unfold Au;split
 ·exact⟨.nil,λc h=>(by cases h)⟩
 ·rename_i a;have a:(BC d).2=0:=Do a;have g:Ax d=0:=by
   unfold BC at a;split at a
   ·rename_i h;exact absurd a h
   ·rename_i h;exact Do h
  obtain⟨m,-,-⟩:=CC g;obtain⟨f,o,-⟩:=BZ m;have hf:Nd (Av (AX d)):=VA (Sg f);have e:((Bq d).1.map λt=>t.2.1)=(AL d).map λx=>x.2:=by
   show ((EZ _ _ _).map λt=>t.2.1)=_;unfold EZ;rw[AAd];apply TF
   ·simp
   ·intro i h1 n;simp[AS,show i<(AL d).length by simpa using h1]
  show Nd ((Bq d).1.map λt=>t.2.1);rw[e];refine⟨Ma (by simpa using hf.nd),λc k=>?_⟩;obtain⟨x,l,rfl⟩:=GO.1 k;obtain⟨b,j,rfl⟩:=DZ.1 l;exact hf.nrm b j
section
attribute [local go_sem] xG
def EH (f:Int):List (Int×Int)->Int×Bool
 | []=>(0,false)
 | x :: l=>if x.1=f then (x.2,true) else EH f l
theorem XF (f:Int) (l:List (Int×Int)) {k:Nat} (h:k<l.length):EH f (l.drop k)=if (l.getD k (0,0)).1=f then ((l.getD k (0,0)).2,true) else EH f (l.drop (k+1)):=by
 rw[On h];have e:l.getD k (0,0)=l[k]:=by simp[AS,h]
 rw[e];rfl
def c9 (h:AG) (t:Int):List (Int×Int):=(h.1.getD t.toNat Tz).2.2.2
def B7 (h:AG) (t f:Int):Int×Bool:=EH f (c9 h t)
def OB:Aa:={ ins:=[ER,T3,T3],pre:=λ(h,t,_,_)=>(0:Int)<=t/\t<(List.length (h:AG).1:Int),out:=λ(h,t,f,_)=>[.p T3 (B7 h t f).1,.p .bool (B7 h t f).2],lend:=true }
attribute [local go_sem] OB
theorem xN:Ad Tryz.prog 83 OB:=by
 refine fK [0,1,2,3,6,7,9,15,16,17,18,26] Tryz.func83 Tryz.ntmps83 AH ?_;rintro w0 O0 ⟨⟨d,hf⟩,t,f,u⟩ a q ⟨j,m⟩;simp only[OB,AM];refine Ev.ent (σ':=⟨[(0,.p ER (d,hf)),(1,.p T3 t),(2,.p T3 f)],[]⟩) ?_ (AC [] rfl rfl ?_ ?_)
 ·repeat'(first|exact trivial|refine eS rfl ?_|refine rX a ?_ ?_)
  ·exact⟨j,m⟩
  ·have o:∀l,l=(List.getD d (Int.toNat t) (ByteArray.empty,[],[],[])).2.2.2->B7 (d,hf) t f=EH f l:=λl e=>by rw[e];rfl
   have r:List.length (List.getD d (Int.toNat t) (ByteArray.empty,[],[],[])).2.2.2<=140737488355328:=(q.1.1.2 _ (AE (d:List G2) Tz ((AF0 j).2 m))).2.2.2.1;generalize (List.getD d (Int.toNat t) (ByteArray.empty,[],[],[])).2.2.2=l at *;rw[o l rfl];refine AK (ι:={k:Nat//k<=List.length l/\EH f l=EH f (l.drop k)}) (λk=>⟨[(2,.p T3 f),(15,.p WM l),(16,.p (.int .i64) (List.length l:Int)),(17,.p (.int .i64) (k.1:Int))],[]⟩) (λk=>List.length l-k.1) ⟨0,IN _,rfl⟩ (eW []) (λk=>?_)
   ·obtain⟨k,hk,b⟩:=k;have i:=λh:k<List.length l=>XF f l h;simp only;repeat'(first|exact trivial|refine eS rfl ?_|refine rX a ?_ ?_|refine rC ?_ ?_<;>intro c<;>try(cases c;done))
    ·exact c
    ·refine cP 5 a ?_ ?_
     ·trivial
     ·refine ADR a ?_;refine rL a ?_ ?_
      ·trivial
      ·repeat'(first|exact trivial|refine eS rfl ?_|refine AB ?_|refine rX a ?_ ?_|refine rC ?_ ?_<;>intro c<;>try(cases c;done))
       ·have g:k<List.length l:=by exact eV
        rw[i g,BY c]at b;exact fI a [.tmp 6,.tmp 7] (by rw[b];exact eR)
       ·omega
       ·have g:k<List.length l:=by exact eV
        rw[i g,An c]at b;exact⟨⟨k+1,g,b⟩,by simp only;omega,eW []⟩
    ·have n:List.drop k (l:List (Int×Int))=[]:=By (by exact eV);rw[n]at b;have b:EH f l=(0,false):=b;exact fI a [.tmp 6,.tmp 7] (by rw[b];exact eR)
 ·exact eN
 ·exact eN
abbrev EU:=List Int×List Int
def DG (h:AG) (s:EU) (n t:Int):Option EU :=
 if (Bm h (s.1.getD n.toNat 0) t).2=true then some (if (Bm h (s.1.getD n.toNat 0) t).1=s.1.getD n.toNat 0 then s else (s.1.set n.toNat (Bm h (s.1.getD n.toNat 0) t).1,s.2++[n])) else none
def D9 (h:AG) (s:EU):List (Nat×Obj):=[(1,.box 205 true [.p ER h,.sr 2 T3 0 s.1.length,.p Fv s.2]),(2,.arr 3 T3 s.1)]
theorem jA (h:AG) (hk:GH h) (s:EU) {n t:Int} (n0:0<=n) (n1:n<(s.1.length:Int)) (f:0<=s.1.getD n.toNat 0) (ty1:s.1.getD n.toNat 0<(h.1.length:Int)) (k:0<=t) (l:t<(h.1.length:Int)) (i:s.2.length<=1000000000) :
  BJ Tryz.prog 211 [.bp 1 [] 0,.p T3 n,.p T3 t] (D9 h s) [1]
  (λres d=>(DG h s n t=none/\res=.p .bool false/\d=D9 h s)\/∃e,DG h s n t=some e/\res=.p .bool true/\d=D9 h e):=by
 obtain⟨ty,w⟩:=s;simp only at n1 f ty1 i;have hh:h.1.length<=100000:=Rc hk.2 (by omega);have g:∀x∈h.1,x.2.1.length<=100000:=λx j=>Rc (hk.1.wid x.2.1 (GO.2 ⟨x,j,rfl⟩)) (by omega);refine Kt [0,1,2,6,7,8,26,35] [] [] Tryz.func211 Tryz.ntmps211 (AF xH AH) ?_;intro w0 K O0 ρ0 c o q;simp only[D9,Ao];repeat'(first|exact trivial|refine eS rfl ?_|refine rX c ?_ ?_|refine rC ?_ ?_<;>intro b<;>try(cases b;done))
 ·exact⟨⟨n0,n1⟩,⟨f,ty1⟩,⟨k,l⟩,hh,g⟩
 ·have a:DG h (ty,w) n t=none:=by unfold DG;rw[An (by simp only;rw[b];simp)]
  refine Ev.ent (σ':=⟨[(6,.p .bool false)],D9 h (ty,w)⟩) ?_ (AC [(1,.nm 1),(2,.nm 2)] rfl rfl ?_ ?_)
  ·exact fM c [.tmp 6] (.p .bool false) eT (.inl ⟨a,rfl,rfl⟩)
  ·unfold D9;exact eN
  ·exact eN
 ·exact⟨n0,n1⟩
 ·exact⟨n0,n1⟩
 ·simp only[AP];omega
 ·have a:DG h (ty,w) n t=some (ty.set n.toNat (Bm h (ty.getD n.toNat 0) t).1,w++[n]):=by unfold DG;rw[BY (by assumption),An b]
  generalize (Bm h (ty.getD n.toNat 0) t).1=m at *;have r:(w++[n]).take (w.length+1)=w++[n]:=As (by simp);refine FQ [61] ?_;refine Ev.ent (σ':=⟨[(6,.p .bool true)],D9 h (ty.set n.toNat m,w++[n])⟩) ?_ (AC [(1,.nm 1),(2,.nm 2)] rfl rfl ?_ ?_)
  ·exact fM c [.tmp 6] (.p .bool true) eT (.inr ⟨_,a,rfl,rfl⟩)
  ·unfold D9;simp only[TH];exact eN
  ·exact eN
 ·have a:DG h (ty,w) n t=some (ty,w):=by unfold DG;rw[BY (by assumption),BY (by simpa using b)]
  refine Ev.ent (σ':=⟨[(6,.p .bool true)],D9 h (ty,w)⟩) ?_ (AC [(1,.nm 1),(2,.nm 2)] rfl rfl ?_ ?_)
  ·exact fM c [.tmp 6] (.p .bool true) eT (.inr ⟨_,a,rfl,rfl⟩)
  ·unfold D9;exact eN
  ·exact eN
end
section
def nZ:Aa:={ ins:=[T3],pre:=λ_=>True,out:=λ_=>[.p .bool false] }
attribute [local go_sem] nZ
def Fx (a b:Int):Int:=if a<b then -1 else if b<a then 1 else 0
def HB:Aa:={ ins:=[T3,T3],pre:=λ_=>True,out:=λ(a,b,_)=>[.p T3 (Fx a b)] }
attribute [local go_sem] HB
def Cv:Aa:={ ins:=[AW,AW],pre:=λ_=>True,out:=λ(a,b,_)=>[.p T3 (Fx (Prod.fst a) (Prod.fst b))] }
attribute [local go_sem] Cv
theorem A3w:Ad Tryz.prog 224 nZ:=by
 refine fK [0,2] Tryz.func224 Tryz.ntmps224 AH ?_;rintro w0 O0 ⟨x,u⟩ a - -;simp only[nZ,AM];repeat'(first|exact trivial|refine eS rfl ?_|refine rX a ?_ ?_)
 exact fI a [.tmp 2]
theorem Gj:Ad Tryz.prog 208 HB:=by
 refine fK [0,1,4,5,6,11,12,13,16,19] Tryz.func208 Tryz.ntmps208 (AF A3w AH) ?_;rintro w0 O0 ⟨a,b,u⟩ c - -;simp only[HB,AM];repeat'(first|exact trivial|refine eS rfl ?_|refine rX c ?_ ?_|refine rC ?_ ?_<;>intro d<;>try(cases d;done))
 ·have e:Fx a b=-1:=BY d;exact fI c [.tmp 4] (by rw[e];exact eR)
 ·have e:Fx a b=1:=by unfold Fx;rw[An (by omega),BY d]
  exact fI c [.tmp 4] (by rw[e];exact eR)
 ·have e:Fx a b=0:=by unfold Fx;rw[An (by omega),An (by omega)]
  exact fI c [.tmp 4] (by rw[e];exact eR)
theorem E4:Ad Tryz.prog 192 Cv:=by
 refine fK [0,1,2,3,4] Tryz.func192 Tryz.ntmps192 (AF Gj AH) ?_;rintro w0 O0 ⟨a,b,u⟩ c - -;simp only[Cv,AM];repeat'(first|exact trivial|refine eS rfl ?_|refine rX c ?_ ?_)
 exact fI c [.tmp 4]
def jB (l:List (Int×Int)):Prop:=∀i,i+1<l.length->(l.getD i (0,0)).1<(l.getD (i+1) (0,0)).1
end
end Go.Proofs.YtapkhdkbkodbjaaGreat.Fw
