/- Contracts of the program's and the reference's functions, and the plain laws of what they compute: C1 C2 C9 C10 C11 C12 C13 C3 C4 C5 C6 C7 C8 C14 C15 C16 C17 C18 C19 C20 C21 C22 C23 N1 N2 C24 C25 N3 C26 C27 C28 C29 N4 C30 C31 C32 C33 C34 C35 R07a R07b R07c R07d R07e Sorted R07f R07g R07h R15c P8 C37 H1 D1 D4 N5 N6 N7 T4 G1. -/
import Derived.Test.YtapkhdkbkodbjaaGreatJZJ
import Derived.Test.YtapkhdkbkodbjaaGreatJZI
set_option linter.unusedVariables false
set_option linter.unusedSimpArgs false
namespace Go.Proofs.YtapkhdkbkodbjaaGreat.Fw
open Go
attribute [local irreducible] Ev
attribute [local go_sem] fT AL List.toList_toArray B1 evG evK YL E2 Ke Gw GA GQ Pi LS CP DX M5 Ce Ct frz lC Gq DW BB F2 Bg AV.frz AV.frzs AV.drp AV.drps AV.names AV.namess aq Gt LR KT Tj JS Bh Bp Jp El Il Em Io Im Ip VJ Pb HJ KV F4 Ed VK Ra qUn Jq Iq Lv FX Dz JV KW Eo Tk Cl Ep FH Rb Ir Nv Fg Nu Pc Rc Lw JW KX DM DB Fh D0 Hn Dj FI Dk Eq F6 Ce Cs PZ RZ OT Gm JU JT KU Nw Pf Ly L2 Lz Ka Sm L1 Kb aR Ph Pg AV.trn AV.trns EY Ck Obj.trn J5 gF DP Dm DN Er Ci FJ Ak lk HV Gr Hk bin lB YP lE Sk yQ yR pfs AV.cells CL Jn Pa KZ Pe Ca Ns Ty.cell1 Ik FD Dy GP LQ Eh KS Lu RW Ff HI Nl Th VI Lt KQ aP eL Sj Nt DF Jo RV.flat Ty.flat Ty.size St.add upd del Bi Value.oneCell' Ln Ty.dflt Ij P0 Hz QH List.take_succ_cons List.take_zero List.length_cons f3 f4 QG Jz MJ Hf J0 A1Q GB NF NG NH NI Rl Rm NJ Iz Va Option.map_some Option.map_none Option.bind_some Option.getD_some Option.getD_none Option.isNone_none Option.isNone_some Bool.and_true Bool.true_and Bool.and_false Bool.false_and Bool.not_true Bool.not_false if_true if_false List.length_cons List.length_nil and_true true_and and_self List.all_cons List.all_nil List.append_nil List.nil_append List.cons_append List.getElem?_cons_zero List.getElem?_cons_succ List.getElem?_nil List.map_cons List.map_nil List.set_cons_zero List.set_cons_succ List.isEmpty_nil List.isEmpty_cons decide_true decide_false beq_self_eq_true bne_self_eq_false Nat.zero_add Nat.add_zero Nat.sub_zero Int.toNat_natCast Int.toNat_zero Int.toNat_one List.take_length List.length_append List.length_singleton true_or or_true or_self false_or or_false Ty.agg.injEq Ty.slice.injEq Ty.prod.injEq Ty.int.injEq Option.some.injEq beq_iff_eq Lo evMG evMQ opM H5 MF B8 Jy Gx QA Jw H0 I0 Kn LZ Oh N0 Oi Tn MG QB QC Jx Ac Ap Op.operands Call.operands List.filterMap_cons List.filterMap_nil List.append_eq Bool.cond_false_right Bool.cond_true_left cond_true cond_false implies_true decide_eq_true_eq beq_true beq_false Bool.or_true Bool.or_false Bool.true_or Bool.false_or Option.isSome_some Array.empty_append List.append_toArray F3 M6 FK Hl aQ Pd F5 GX GW It Hm KY Lx YQ lD Hj inB Kd F7 Gn Jr Ar f5 List.drop_zero Dr H6 bP CU Kr Bu AV.fgt AV.fgts Obj.fgt Ao Am Ac DR Ii BS Gy List.any_cons List.any_nil l9 f8 bQ f9 MM Rr qs List.flatMap_cons List.flatMap_nil List.cons_append tn bU J6 List.take_succ_cons List.drop_succ_cons bZ HK BV qE NN CD CT Ag FN Km Br FM D6 Hx Iy Gb Hy
attribute [local go_sem] ty1 ty2 ty3 ty4 ty5 ty9 A5y A5z A5A A5B A5C A5D A5E A5F A5G A5H A5I A5J A5K A5L A5M A5N A5O A5P A5Q A5R A5S A5T A5U A5V A5W A5X A5Y A5Z A60 A61 A62 A63 A64 A65 A66 A67 A68 A69 A6a A6b A6c A6d A6e A6f A6g A6h A6i A6j A6k A6l A6m A6n A6o A6p A6q A6r A6s A6t A6u A6v A6w A6x A6y A6z A6A A6B A6C A6D A6E A6F A6G qL qM qN qO qP qQ qR qS qT qU qV qW qX qY qZ q9 rA rB rD rE rF rG rH rI rJ rK rO rQ rR rS rU rV rW rZ r7 r8 r9 sA sB sC sD sE sF sG sH sI sJ sK sL sM sN sO sP sQ sR sS sT sU sV sW sX sY sZ s5 s6 s7 s8 s9 tA tB tC tD tE tF tG tH tI tJ tK tL tM tN tP tQ tR tS tT tU tV tW tX tY tZ t8 t9 uA uB uC uD uE uF uG uH uI uJ uK uL uM uN uP uQ uR uS uT uU uV uW uX uY uZ u3 u4 u5 u6 u7 u9 vA vB vC vD vE vF vG vH vI vJ vK vL vM vN vO vP vQ vS vT vU vV vW vX vY vZ v4 v5 v6 v7 v8 v9 wA wB wC wD wF wG wH wI wJ
set_option maxRecDepth 100000
set_option maxHeartbeats 4000000
section
def Jg (a b c:Int):Bool:=decide (a<=c)&&decide (c<=b)
def mL:Aa:={ ins:=[.int .u8],pre:=λ_=>True,out:=λ(c,_)=>[.p .bool (Jg 48 57 c)] }
attribute [local go_sem] mL
def mM:Aa:={ ins:=[.int .u8],pre:=λ_=>True,out:=λ(c,_)=>[.p .bool (Jg 65 90 c)] }
attribute [local go_sem] mM
def mN:Aa:={ ins:=[.int .u8],pre:=λ_=>True,out:=λ(c,_)=>[.p .bool (Jg 97 122 c)] }
attribute [local go_sem] mN
theorem gU:Ab Tryz.prog 242 mL:=by
 refine fK [0,2] Tryz.func242 Tryz.ntmps242 AG ?_;rintro w0 O0 ⟨c,u⟩ a - -;simp only[mL,AL];repeat'(first|exact trivial|refine eS rfl ?_|refine rX a ?_ ?_)
 exact fI a [.tmp 2] (by unfold Jg;exact eR)
theorem A2t:Ab Tryz.prog 249 mM:=by
 refine fK [0,2] Tryz.func249 Tryz.ntmps249 AG ?_;rintro w0 O0 ⟨c,u⟩ a - -;simp only[mM,AL];repeat'(first|exact trivial|refine eS rfl ?_|refine rX a ?_ ?_)
 exact fI a [.tmp 2] (by unfold Jg;exact eR)
theorem A2u:Ab Tryz.prog 250 mN:=by
 refine fK [0,2] Tryz.func250 Tryz.ntmps250 AG ?_;rintro w0 O0 ⟨c,u⟩ a - -;simp only[mN,AL];repeat'(first|exact trivial|refine eS rfl ?_|refine rX a ?_ ?_)
 exact fI a [.tmp 2] (by unfold Jg;exact eR)
def WD (c:Int) (big:Bool):Bool:=Jg 48 57 c||c==45||big&&Jg 65 90 c||!big&&Jg 97 122 c
def A2v:Aa:={ ins:=[.int .u8,.bool],pre:=λ_=>True,out:=λ(c,b,_)=>[.p .bool (WD c b)] }
attribute [local go_sem] A2v
theorem A6I:Ab Tryz.prog 243 A2v:=by
 refine fK [0,1,4] Tryz.func243 Tryz.ntmps243 (AF gU (AF A2t (AF A2u AG))) ?_;rintro w0 O0 ⟨c,b,u⟩ a - -;simp only[A2v,AL];repeat'(first|exact trivial|refine eS rfl ?_|refine rX a ?_ ?_)
 exact fI a [.tmp 4] (by unfold WD;exact eR)
abbrev chr (s:ByteArray) (i:Nat):Int:=((s.data.getD i 0).toNat:Int)
def Ry (s:ByteArray):Bool:=decide ((s.size:Int)<1)||decide (32<(s.size:Int))||Jg 48 57 (chr s 0)||chr s 0==45
def Ew (s:ByteArray) (big:Bool):Bool:=!Ry s&&(List.range s.size).all λi=>WD (chr s i) big
def mO:Aa:={ ins:=[T9,.bool],pre:=λ_=>True,out:=λ(s,b,_)=>[.p .bool (Ew s b)] }
attribute [local go_sem] mO
theorem gV:Ab Tryz.prog 231 mO:=by
 refine fK [0,1,4,5,23,27,35] Tryz.func231 Tryz.ntmps231 (AF gU (AF A6I AG)) ?_;rintro w0 O0 ⟨s,b,u⟩ d - -;simp only[mO,AL];repeat'(first|exact trivial|refine eS rfl ?_|refine rX d ?_ ?_|refine rC ?_ ?_<;>intro a<;>try(cases a;done))
 ·constructor
  ·intro h;simp only[UB,iF,On]at h;have:1<=(s.size:Int):=by omega
   exact this
  ·intro h;simp only[UB,iF,On]at h;have:1<=(s.size:Int):=by omega
   exact this
 ·have h1:Ry s=true:=by
   unfold Ry chr;simp only[UU,Fe,YD];exact a
  have c:Ew s b=false:=by unfold Ew;rw[h1];rfl
  exact fI d [.tmp 4] (by rw[c];exact eR)
 ·have h1:Ry s=false:=by
   unfold Ry chr;simp only[iF,On,ADC];exact⟨⟨⟨by omega,by omega⟩,a.1.2⟩,a.2⟩
  have g:s.size<=32:=by omega
  refine AJ (ι:={k:Nat//k<=s.size/\((List.range k).all λi=>WD (chr s i) b)=true}) (λk=>⟨[(0,.p T9 s),(1,.p .bool b),(5,.p (.int .i64) (k.1:Int))],[]⟩) (λk=>s.size-k.1) ⟨0,by simp⟩ (eW []) (λk=>?_)
  ·obtain⟨k,hk,f⟩:=k;repeat'(first|exact trivial|refine eS rfl ?_|refine AB ?_|refine rX d ?_ ?_|refine rC ?_ ?_<;>intro a<;>try(cases a;done))
   ·exact a
   ·have e:k<s.size:=by omega
    have c:Ew s b=false:=by
     unfold Ew;rw[ADt];refine .inr (AEf.2 λh=>?_);have:=Is.1 h k (UM.2 e);rw[show WD (chr s k) b=false from a]at this;cases this
    exact fI d [.tmp 4] (by rw[c];exact eR)
   ·omega
   ·have e:k<s.size:=by omega
    refine⟨⟨k+1,by omega,?_⟩,by simp only;omega,AC [] rfl rfl ?_ ?_⟩
    ·rw[YF,AED,f];rw[AFr,AE7,List.all_nil,Bool.and_true];exact a
    ·exact eN
    ·exact eN
   ·have e:k=s.size:=by omega
    subst e;have c:Ew s b=true:=by unfold Ew;rw[h1,f];rfl
    exact fI d [.tmp 4] (by rw[c];exact eR)
def A2w:Aa:={ ins:=[T9],pre:=λ_=>True,out:=λ(s,_)=>[.p .bool (Ew s false)] }
def WE:Aa:={ ins:=[T9],pre:=λ_=>True,out:=λ(s,_)=>[.p .bool (Ew s true)] }
theorem A6J:Ab Tryz.prog 218 A2w:=by
 refine fK [0,2] Tryz.func218 Tryz.ntmps218 (AF gV AG) ?_;rintro w0 O0 ⟨s,u⟩ a - -;simp only[A2w,AL];repeat'(first|exact trivial|refine eS rfl ?_|refine rX a ?_ ?_)
 exact fI a [.tmp 2]
theorem mP:Ab Tryz.prog 217 WE:=by
 refine fK [0,2] Tryz.func217 Tryz.ntmps217 (AF gV AG) ?_;rintro w0 O0 ⟨s,u⟩ a - -;simp only[WE,AL];repeat'(first|exact trivial|refine eS rfl ?_|refine rX a ?_ ?_)
 exact fI a [.tmp 2]
end
section
theorem NR {α:Type} (l:List α) (d:α) (p:α->Bool) {k:Nat} (h:k<l.length):(l.take (k+1)).any p=((l.take k).any p||p (l.getD k d)):=by
 rw[Az l d h,AEC];simp
theorem JB {α:Type} (l:List α) (d:α) (p:α->Bool) {k:Nat} (h:k<l.length) (hp:p (l.getD k d)=true):l.any p=true :=
 UF.2 ⟨_,AE l d h,hp⟩
def AZ (l:List ByteArray) (s:ByteArray):Bool:=l.any λx=>AY x s
def Jh:Aa:={ ins:=[F1,T9],pre:=λ_=>True,out:=λ(l,n,_)=>[.p .bool (AZ l n)],lend:=true }
attribute [local go_sem] Jh
theorem Gz:Ab Tryz.prog 201 Jh:=by
 refine fK [0,1,4,5,9,17] Tryz.func201 Tryz.ntmps201 AG ?_;rintro w0 O0 ⟨l,n,u⟩ a ⟨⟨e,-⟩,-⟩ -;simp only[AP]at e;simp only[Jh,AL];repeat'(first|exact trivial|refine eS rfl ?_|refine rX a ?_ ?_)
 refine AJ (ι:={k:Nat//k<=l.length/\(l.take k).any (λx=>AY x n)=false}) (λk=>⟨[(0,.p F1 l),(1,.p T9 n),(5,.p (.int .i64) (k.1:Int))],[]⟩) (λk=>l.length-k.1) ⟨0,by simp⟩ (eW []) (λk=>?_)
 ·obtain⟨k,hk,c⟩:=k;repeat'(first|exact trivial|refine eS rfl ?_|refine AB ?_|refine rX a ?_ ?_|refine rC ?_ ?_<;>intro b<;>try(cases b;done))
  ·exact eV
  ·have d:k<l.length:=by exact eV
   have h1:AZ l n=true:=JB l ByteArray.empty _ d b;exact fI a [.tmp 4] (by rw[h1];exact eR)
  ·exact eV
  ·have d:k<l.length:=by exact eV
   refine⟨⟨k+1,by exact eV,?_⟩,by simp only;exact eV,AC [] rfl rfl ?_ ?_⟩
   ·rw[NR l ByteArray.empty _ d,c];exact b
   ·exact eN
   ·exact eN
  ·have hk:l.take k=l:=As (by exact eV);rw[hk]at c;have h1:AZ l n=false:=c;exact fI a [.tmp 4] (by rw[h1];exact eR)
def atF (l:List ByteArray) (s:ByteArray):Nat:=(l.takeWhile λx=>HR x s).length
theorem A2y {α:Type} (p:α->Bool) (d:α):∀(l:List α) (k:Nat),k<=(l.takeWhile p).length->((k<l.length/\p (l.getD k d)=true)↔k+1<=(l.takeWhile p).length)
 | [],k,h=>by simp
 | x :: l,k,h=>by
  by_cases a:p x=true
  ·rw[List.takeWhile_cons,BY a]at h ⊢;cases k with
   | zero=>simp[a]
   | succ k =>
    have:=A2y p d l k (by simpa using h);simpa using this
  ·rw[List.takeWhile_cons,An a]at h ⊢;have hk:k=0:=by simpa using h
   subst hk;simp[a]
theorem A8u {α:Type} (p:α->Bool) (l:List α):(l.takeWhile p).length<=l.length:=(List.takeWhile_sublist p).length_le
def Ea (l:List ByteArray) (s:ByteArray):List ByteArray :=
 if (decide (atF l s<l.length)&&AY (l.getD (atF l s) ByteArray.empty) s)=true then l else l.take (atF l s)++[s]++l.drop (atF l s)
def b5:Aa:={ ins:=[F1,T9],pre:=λ(l,_,_)=>List.length l<=100000,out:=λ(l,n,_)=>[.p F1 (Ea l n)] }
attribute [local go_sem] b5
theorem Rz:Ab Tryz.prog 194 b5:=by
 refine fK [0,1,4,5,6,18,32] Tryz.func194 Tryz.ntmps194 AG ?_;rintro w0 O0 ⟨l,n,u⟩ c-m;have m:l.length<=100000:=m;simp only[b5,AL];repeat'(first|exact trivial|refine eS rfl ?_|refine rX c ?_ ?_)
 refine AJ (ι:={k:Nat//k<=atF l n}) (λk=>⟨[(0,.p F1 l),(1,.p T9 n),(5,.raw (.slice none 0 0)),(6,.p (.int .i64) (k.1:Int))],[]⟩) (λk=>l.length-k.1) ⟨0,by simp⟩ (eW []) (λk=>?_)
 ·obtain⟨k,hk⟩:=k;have d:=A8u (λx=>HR x n) l;have i:=A2y (λx=>HR x n) ByteArray.empty l k hk;simp only;repeat'(first|exact trivial|refine eS rfl ?_|refine AB ?_|refine rX c ?_ ?_|refine rC ?_ ?_<;>intro a<;>try(cases a;done))
  ·exact λh=>h
  ·have h1:k<l.length/\HR (l.getD k ByteArray.empty) n=true:=⟨by exact eV,a.2⟩;exact eV
  ·have h1:k<l.length/\HR (l.getD k ByteArray.empty) n=true:=⟨by exact eV,a.2⟩;exact⟨⟨k+1,i.1 h1⟩,by simp only;omega,eW []⟩
  ·exact λh=>h
  ·rename_i f;have g:k=atF l n:=by
    refine AE8 hk (Nat.le_of_not_lt λh=>?_);have:=i.2 h;rw[f (IN.2 this.1)]at this;cases this.2
   have e:Ea l n=l:=by
    unfold Ea;rw[<-g,BY];rw[AT,Fe];exact⟨IN.1 a.1,a.2⟩
   exact fI c [.tmp 4] (by rw[e];exact eR)
  ·have j:=oN k l;have b:k<=l.length:=UD hk d;simp only[AP];exact⟨UA.2 b,by dsimp only[Ty.den]at *;omega⟩
  ·have j:=oN k l;have b:k<=l.length:=UD hk d;simp only[AP];dsimp only[Ty.den]at *;omega
  ·have j:=oN k l;have b:k<=l.length:=UD hk d;have q:(l.drop k).length<=l.length:=by rw[YE];omega
   simp only[AP];exact⟨UA.2 b,by dsimp only[Ty.den]at *;omega⟩
  ·rename_i f;have g:k=atF l n:=by
    refine AE8 hk (Nat.le_of_not_lt λh=>?_);have:=i.2 h;rw[f (IN.2 this.1)]at this;cases this.2
   have e:Ea l n=l.take k++[n]++l.drop k:=by
    unfold Ea;rw[<-g,An];rw[AT,Fe];intro h;rw[a (IN.2 h.1)]at h;cases h.2
   have b:k<=l.length:=UD hk d;have o:(l.take k).length+1+(l.drop k).length=(l.take k++[n]++l.drop k).length:=by simp only[GO,To]
   rw[o,<-e];refine FP [38] ?_;exact fI c [.tmp 4]
end
section
def GR (b:List Int) (i:Int):Int:=if i<b.length then b.getD i.toNat 0 else 0
def gW:Aa:={ ins:=[BT,T3],pre:=λ(_,i,_)=>(0:Int)<=i,out:=λ(b,i,_)=>[.p QO (GR b i)],lend:=true }
attribute [local go_sem] gW
theorem wM:Ab Tryz.prog 154 gW:=by
 refine fK [0,1,4,8] Tryz.func154 Tryz.ntmps154 AG ?_;rintro w0 O0 ⟨b,i,u⟩ c-hi;simp only[gW,AL];repeat'(first|exact trivial|refine eS rfl ?_|refine rX c ?_ ?_|refine rC ?_ ?_<;>intro a<;>try(cases a;done))
 ·exact⟨hi,a⟩
 ·have h1:GR b i=b.getD i.toNat 0:=by unfold GR;rw[BY a]
  exact fI c [.tmp 4] (by rw[h1];exact eR)
 ·have h1:GR b i=0:=by unfold GR;rw[An (AAb.2 a)]
  exact fI c [.tmp 4] (by rw[h1];exact eR)
def Cj (b:List Int):Nat->Nat
 | 0=>0
 | n+1=>if b.getD n 0=0 then Cj b n else n+1
def BM (b:List Int):List Int:=b.take (Cj b b.length)
theorem WF (b:List Int):∀n,Cj b n<=n
 | 0=>NO _
 | n+1=>by
  unfold Cj;split
  ·exact Nat.le_succ_of_le (WF b n)
  ·exact NO _
def Kw:Aa:={ ins:=[BT],pre:=λ(b,_)=>List.length b<=100000,out:=λ(b,_)=>[.p BT (BM b)] }
attribute [local go_sem] Kw
theorem NS:Ab Tryz.prog 155 Kw:=by
 refine fK [0,2,3,15] Tryz.func155 Tryz.ntmps155 AG ?_;rintro w0 O0 ⟨b,u⟩ d-f;have f:b.length<=100000:=f;simp only[Kw,AL];repeat'(first|exact trivial|refine eS rfl ?_|refine rX d ?_ ?_)
 refine AJ (ι:={n:Nat//n<=b.length/\Cj b n=Cj b b.length}) (λn=>⟨[(0,.p BT b),(3,.p (.int .i64) (n.1:Int))],[]⟩) (λn=>n.1) ⟨b.length,NO _,rfl⟩ (eW []) (λn=>?_)
 ·obtain⟨n,hn,g⟩:=n;simp only;repeat'(first|refine eS rfl ?_|refine AB ?_|refine rX d ?_ ?_|refine rC ?_ ?_<;>intro c<;>try(cases c;done))
  ·constructor
   ·exact eV
   ·intro h;refine⟨?_,?_⟩<;>exact eV
  ·exact eV
  ·obtain⟨h1,a⟩:=c;obtain⟨m,rfl⟩:∃m,n=m+1:=⟨n-1,by omega⟩;have e:(((m+1:Nat):Int)-1)=(m:Int):=by omega
   rw[e]at a;have a:b.getD m 0=0:=a;have j:Cj b m=Cj b b.length:=by
    rw[<-g];show _=if b.getD m 0=0 then Cj b m else m+1
    rw[BY a]
   refine⟨⟨m,by omega,j⟩,by simp,AC [] rfl rfl ?_ ?_⟩
   ·exact eN
   ·simp only[e];exact eN
  ·have k:=oN n b;simp only[AP];exact⟨UA.2 hn,by dsimp only[Ty.den]at *;omega⟩
  ·have i:Cj b n=n:=by
    cases n with
    | zero=>rfl
    | succ m =>
     have e:(((m+1:Nat):Int)-1)=(m:Int):=by omega
     rw[e]at c;have a:=c (by omega);have a:¬b.getD m 0=0:=a;show (if b.getD m 0=0 then Cj b m else m+1)=m+1;rw[An a]
   have h1:BM b=b.take n:=by unfold BM;rw[<-g,i]
   rw[<-h1];refine FP [18] ?_;exact fI d [.tmp 2]
end
section
attribute [local go_sem] gW Kw
def A2z (w:Int) (r:Int):Bool:=CC .and .u64 (YO .u64 w r) 1==1
def Ts (b:List Int) (i:Int):Bool:=if (decide (i<0)||decide ((b.length:Int)<=i.tdiv 64))=true then false else A2z (b.getD (i.tdiv 64).toNat 0) (i.tmod 64)
def A2A:Aa:={ ins:=[BT,T3],pre:=λ_=>True,out:=λ(b,i,_)=>[.p .bool (Ts b i)],lend:=true }
theorem A9h {w:Int} (h0:0<=w) (r:Int):0<=YO .u64 w r/\YO .u64 w r<=w:=by
 unfold YO;have hp:(0:Int)<2 ^ (min r.toNat IntKind.u64.bits):=Int.pow_pos (by decide);rw[Int.fdiv_eq_ediv_of_nonneg _ (AFy hp)];exact⟨Int.ediv_nonneg h0 (AFy hp),Int.ediv_le_self _ h0⟩
theorem A2B:Ab Tryz.prog 205 A2A:=by
 refine fK [0,1,4,13] Tryz.func205 Tryz.ntmps205 AG ?_;rintro w0 O0 ⟨b,i,u⟩ d ⟨⟨m,k⟩,e,-⟩ -;have e:KO .i64 i:=e;rw[NJ]at e;have j:0<=i->Int.tdiv i 64=i / 64/\Int.tmod i 64=i % 64:=λh=>⟨oS h,AEk h⟩;simp only[A2A,AL];repeat'(first|exact trivial|refine eS rfl ?_|refine rX d ?_ ?_|refine rC ?_ ?_<;>intro c<;>try(cases c;done))
 ·intro h;have h0:0<=i:=by simpa using h
  obtain⟨a,g⟩:=j h0;rw[a];refine⟨by decide,?_,?_⟩<;>exact eV
 ·have h1:Ts b i=false:=by
   unfold Ts;rw[BY];rw[UU,Fe,Fe];exact c
  exact fI d [.tmp 4] (by rw[h1];exact eR)
 ·obtain⟨h0,l⟩:=c;obtain⟨a,g⟩:=j h0;rw[a]at l;have f:KO .u64 (b.getD (i / 64).toNat 0):=k _ (AE b 0 (by exact eV));rw[Iz]at f;have hs:=A9h f.1 (i % 64);rw[a,g];refine⟨⟨by decide,by exact eV,by exact eV⟩,⟨by exact eV,by exact eV⟩,⟨by decide,by exact eV,by exact eV⟩,⟨by exact eV,by exact eV⟩,by exact eV,hs.1,ADD hs.2 f.2⟩
 ·have h1:Ts b i=A2z (b.getD (i.tdiv 64).toNat 0) (i.tmod 64):=by
   unfold Ts;rw[An];rw[UU,Fe,Fe];rintro (h|h)<;>omega
  exact fI d [.tmp 4] (by rw[h1];unfold A2z;exact eR)
end
section
attribute [local go_sem] gW Kw
def Gd (op:BinOp) (a b:List Int) (n:Nat):List Int:=(List.range n).map λi=>CC op .u64 (a.getD i 0) (GR b (i:Int))
theorem Ex (op:BinOp) (a b:List Int) (n:Nat):(Gd op a b n).length=n:=by simp[Gd]
theorem ZC (op:BinOp) (a b:List Int) (n:Nat):Gd op a b (n+1)=Gd op a b n++[CC op .u64 (a.getD n 0) (GR b (n:Int))]:=by simp[Gd,YF]
def Ej (a b:List Int):List Int:=BM (Gd .and a b a.length)
def A2C:Aa:={ ins:=[BT,BT],pre:=λ(a,_,_)=>List.length a<=100000,out:=λ(a,b,_)=>[.p BT (Ej a b)] }
theorem A2D:Ab Tryz.prog 116 A2C:=by
 refine fK [0,1,4,5,6,10] Tryz.func116 Tryz.ntmps116 (AF wM (AF NS AG)) ?_;rintro w0 O0 ⟨a,b,u⟩ c-ha;have ha:a.length<=100000:=ha;simp only[A2C,AL];repeat'(first|exact trivial|refine eS rfl ?_|refine rX c ?_ ?_)
 refine AJ (ι:={n:Nat//n<=a.length}) (λn=>⟨[(0,.p BT a),(1,.p BT b),(5,.sr 23 QO 0 n.1),(6,.p (.int .i64) (n.1:Int))],[(23,.arr 186 QO (Gd .and a b n.1))]⟩) (λn=>a.length-n.1) ⟨0,IS _⟩ (AC [(23,.nil)] rfl rfl ?_ ?_) (λn=>?_)
 ·refine eM ?_;rfl
 ·exact eN
 ·obtain⟨n,hn⟩:=n;have g:=Ex .and a b n;have hs:=ZC .and a b n;simp only;repeat'(first|exact trivial|refine eS rfl ?_|refine AB ?_|refine rX c ?_ ?_|refine rC ?_ ?_<;>intro d<;>try(cases d;done))
  ·refine⟨d,?_⟩;simp only[AP];dsimp only[Ty.den]at *;omega
  ·exact eV
  ·have e:n<a.length:=by exact eV
   refine⟨⟨n+1,by omega⟩,by simp only;omega,AC [(23,.nm 23)] rfl rfl ?_ ?_⟩
   ·simp only[hs];refine eM ?_;rw[As (by rw[g];exact NO _)]
   ·exact eN
  ·have e:n=a.length:=by exact eV
   subst e;refine FP [23] ?_;have f:(Gd .and a b a.length).take a.length=Gd .and a b a.length:=As (by rw[Ex];exact NO _);repeat'(first|refine eS rfl ?_|refine rX c ?_ ?_)
   ·rw[f,Ex];exact ha
   ·rw[f];exact fI c [.tmp 4] (by unfold Ej;exact eR)
def R0 (a b:List Int):List Int:=BM (Gd .andNot a b a.length)
def mQ:Aa:={ ins:=[BT,BT],pre:=λ(a,_,_)=>List.length a<=100000,out:=λ(a,b,_)=>[.p BT (R0 a b)] }
attribute [local go_sem] mQ
theorem A2E:Ab Tryz.prog 188 mQ:=by
 refine fK [0,1,4,5,6,10] Tryz.func188 Tryz.ntmps188 (AF wM (AF NS AG)) ?_;rintro w0 O0 ⟨a,b,u⟩ c-ha;have ha:a.length<=100000:=ha;simp only[mQ,AL];repeat'(first|exact trivial|refine eS rfl ?_|refine rX c ?_ ?_)
 refine AJ (ι:={n:Nat//n<=a.length}) (λn=>⟨[(0,.p BT a),(1,.p BT b),(5,.sr 23 QO 0 n.1),(6,.p (.int .i64) (n.1:Int))],[(23,.arr 186 QO (Gd .andNot a b n.1))]⟩) (λn=>a.length-n.1) ⟨0,IS _⟩ (AC [(23,.nil)] rfl rfl ?_ ?_) (λn=>?_)
 ·refine eM ?_;rfl
 ·exact eN
 ·obtain⟨n,hn⟩:=n;have g:=Ex .andNot a b n;have hs:=ZC .andNot a b n;simp only;repeat'(first|exact trivial|refine eS rfl ?_|refine AB ?_|refine rX c ?_ ?_|refine rC ?_ ?_<;>intro d<;>try(cases d;done))
  ·refine⟨d,?_⟩;simp only[AP];dsimp only[Ty.den]at *;omega
  ·exact eV
  ·have e:n<a.length:=by exact eV
   refine⟨⟨n+1,by omega⟩,by simp only;omega,AC [(23,.nm 23)] rfl rfl ?_ ?_⟩
   ·simp only[hs];refine eM ?_;rw[As (by rw[g];exact NO _)]
   ·exact eN
  ·have e:n=a.length:=by exact eV
   subst e;refine FP [23] ?_;have f:(Gd .andNot a b a.length).take a.length=Gd .andNot a b a.length:=As (by rw[Ex];exact NO _);repeat'(first|refine eS rfl ?_|refine rX c ?_ ?_)
   ·rw[f,Ex];exact ha
   ·rw[f];exact fI c [.tmp 4] (by unfold R0;exact eR)
def E4 (a b:List Int):Bool:=((R0 a b).length:Int)==0
def QP:Aa:={ ins:=[BT,BT],pre:=λ(a,_,_)=>List.length a<=100000,out:=λ(a,b,_)=>[.p .bool (E4 a b)],lend:=true }
attribute [local go_sem] QP
theorem R1:Ab Tryz.prog 147 QP:=by
 refine fK [0,1,4] Tryz.func147 Tryz.ntmps147 (AF A2E AG) ?_;rintro w0 O0 ⟨a,b,u⟩ c-ha;have ha:a.length<=100000:=ha;simp only[QP,AL];repeat'(first|exact trivial|refine eS rfl ?_|refine rX c ?_ ?_)
 ·exact ha
 ·exact fI c [.tmp 4] (by unfold E4;exact eR)
def DT (a b:List Int):Bool:=E4 a b&&E4 b a
def b6:Aa:={ ins:=[BT,BT],pre:=λ(a,b,_)=>List.length a<=100000/\List.length b<=100000,out:=λ(a,b,_)=>[.p .bool (DT a b)],lend:=true }
theorem zY:Ab Tryz.prog 204 b6:=by
 refine fK [0,1,4] Tryz.func204 Tryz.ntmps204 (AF R1 AG) ?_;rintro w0 O0 ⟨a,b,u⟩ c-⟨ha,d⟩;simp only[b6,AL];repeat'(first|exact trivial|refine eS rfl ?_|refine rX c ?_ ?_)
 ·exact⟨ha,λ_=>d⟩
 ·exact fI c [.tmp 4] (by unfold DT;exact eR)
end
section
attribute [local go_sem] A2A
def HS (a b:List Int):Bool:=decide (a=b)
def WG:Aa:={ ins:=[BT,BT],pre:=λ_=>True,out:=λ(a,b,_)=>[.p .bool (HS a b)],lend:=true }
theorem wN:Ab Tryz.prog 153 WG:=by
 refine fK [0,1,4,5,10,14,25] Tryz.func153 Tryz.ntmps153 AG ?_;rintro w0 O0 ⟨a,b,u⟩ d ⟨⟨ha,-⟩,-⟩ -;simp only[AP]at ha;simp only[WG,AL];repeat'(first|exact trivial|refine eS rfl ?_|refine rX d ?_ ?_|refine rC ?_ ?_<;>intro c<;>try(cases c;done))
 ·have h1:HS a b=false:=by
   unfold HS;rw[On];rintro rfl;exact c rfl
  exact fI d [.tmp 4] (by rw[h1];exact eR)
 ·have f:a.length=b.length:=by
   have:(a.length:Int)=(b.length:Int):=by simpa using c
   exact Int.ofNat_inj.1 this
  refine AJ (ι:={k:Nat//k<=a.length/\a.take k=b.take k}) (λk=>⟨[(0,.p BT a),(1,.p BT b),(5,.p (.int .i64) (k.1:Int))],[]⟩) (λk=>a.length-k.1) ⟨0,IS _,rfl⟩ (eW []) (λk=>?_)
  ·obtain⟨k,hk,hf⟩:=k;simp only;repeat'(first|exact trivial|refine eS rfl ?_|refine AB ?_|refine rX d ?_ ?_|refine rC ?_ ?_<;>intro c<;>try(cases c;done))
   ·exact⟨c,by rw[<-f];exact c⟩
   ·have e:k<a.length:=by exact eV
    have h1:HS a b=false:=by
     unfold HS;rw[On];rintro rfl;exact c rfl
    exact fI d [.tmp 4] (by rw[h1];exact eR)
   ·exact eV
   ·have e:k<a.length:=by exact eV
    have g:a.getD k 0=b.getD k 0:=by simpa using c
    refine⟨⟨k+1,by omega,?_⟩,by simp only;omega,AC [] rfl rfl ?_ ?_⟩
    ·rw[Az a 0 e,Az b 0 (by omega),hf];rw[show a.getD k 0=b.getD k 0 from g]
    ·exact eN
    ·exact eN
   ·have e:k=a.length:=by exact eV
    subst e;rw[UE,f,UE]at hf;have h1:HS a b=true:=by unfold HS;rw[hf];simp
    exact fI d [.tmp 4] (by rw[h1];exact eR)
end
section
attribute [local go_sem] A2A
def OD (b:List Int) (n:Nat):List Int:=((List.range n).filter λ(i:Nat)=>Ts b (i:Int)).map λ(i:Nat)=>(i:Int)
def IA (b:List Int):List Int:=OD b (64*b.length)
theorem mR (b:List Int) (n:Nat):OD b (n+1)=OD b n++if Ts b (n:Int)=true then [(n:Int)] else []:=by
 unfold OD;rw[YF,AEq,YK]
 congr 1
 rw[dO,AEB];split<;>rfl
theorem zZ (b:List Int) (n:Nat):(OD b n).length<=n:=by
 unfold OD;rw[Of];exact UD (YH _ _) (by simp)
def A2F:Aa:={ ins:=[BT],pre:=λ(b,_)=>List.length b<=100000,out:=λ(b,_)=>[.p Ft (IA b)] }
attribute [local go_sem] A2F
theorem A6K:Ab Tryz.prog 223 A2F:=by
 refine fK [0,2,3,4,9,14] Tryz.func223 Tryz.ntmps223 (AF A2B AG) ?_;rintro w0 O0 ⟨b,u⟩ c-e;have e:b.length<=100000:=e;simp only[A2F,AL];repeat'(first|exact trivial|refine eS rfl ?_|refine rX c ?_ ?_)
 refine AJ (ι:={n:Nat//n<=64*b.length}) (λn=>⟨[(0,.p BT b),(3,.sr 18 T3 0 (OD b n.1).length),(4,.p (.int .i64) (n.1:Int))],[(18,.arr 3 T3 (OD b n.1))]⟩) (λn=>64*b.length-n.1) ⟨0,IS _⟩ (AC [(18,.nil)] rfl rfl ?_ ?_) (λn=>?_)
 ·refine eM ?_;rfl
 ·refine eM ?_;rfl
 ·obtain⟨n,hn⟩:=n;have f:=zZ b n;have hs:=mR b n;simp only;repeat'(first|exact trivial|refine eS rfl ?_|refine AB ?_|refine rX c ?_ ?_|refine rC ?_ ?_<;>intro a<;>try(cases a;done))
  ·exact eV
  ·rw[a,BY rfl]at hs;simp only[AP];dsimp only[Ty.den]at *;omega
  ·exact eV
  ·have d:n<64*b.length:=by exact eV
   rw[a,BY rfl]at hs;refine⟨⟨n+1,by omega⟩,by simp only;omega,AC [(18,.nm 18)] rfl rfl ?_ ?_⟩
   ·simp only[hs];exact eN
   ·simp only[hs];exact eN
  ·exact eV
  ·have d:n<64*b.length:=by exact eV
   rw[a,An (by simp),UO]at hs;refine⟨⟨n+1,by omega⟩,by simp only;omega,AC [(18,.nm 18)] rfl rfl ?_ ?_⟩
   ·simp only[hs];exact eN
   ·simp only[hs];exact eN
  ·have d:n=64*b.length:=by exact eV
   subst d;refine FP [18] ?_;exact fI c [.tmp 2] (by unfold IA;exact eR)
def mS:Aa:={ ins:=[BT],pre:=λ(b,_)=>List.length b<=100000,out:=λ(b,_)=>[.p T3 ((IA b).length:Int)],lend:=true }
theorem A2G:Ab Tryz.prog 207 mS:=by
 refine fK [0,2] Tryz.func207 Tryz.ntmps207 (AF A6K AG) ?_;rintro w0 O0 ⟨b,u⟩ a-c;simp only[mS,AL];repeat'(first|exact trivial|refine eS rfl ?_|refine rX a ?_ ?_)
 ·exact c
 ·exact fI a [.tmp 2]
end
section
attribute [local go_sem] Jh A2w
abbrev AI:=ByteArray×List ByteArray×List (ByteArray×ByteArray)
abbrev d0:AI:=(ByteArray.empty,[],[])
def Cu (s:ByteArray):Nat->List AI->Int
 | _,[]=>-1
 | k,x :: l=>if AY x.1 s=true then (k:Int) else Cu s (k+1) l
def Au (l:List AI) (s:ByteArray):Int:=Cu s 0 l
theorem TB (s:ByteArray) (l:List AI) {k:Nat} (h:k<l.length):Cu s k (l.drop k)=if AY (l.getD k d0).1 s=true then (k:Int) else Cu s (k+1) (l.drop (k+1)):=by
 rw[TO h];have e:l.getD k d0=l[k]:=by simp[AS,h]
 rw[e];rfl
def Ot:Aa:={ ins:=[FE,T9],pre:=λ_=>True,out:=λ(l,s,_)=>[.p T3 (Au l s)] }
attribute [local go_sem] Ot
theorem MQ:Ab Tryz.prog 219 Ot:=by
 refine fK [0,1,4,5,9,18] Tryz.func219 Tryz.ntmps219 AG ?_;rintro w0 O0 ⟨l,s,u⟩ c ⟨⟨d,-⟩,-⟩ -;simp only[AP]at d;simp only[Ot,AL];repeat'(first|exact trivial|refine eS rfl ?_|refine rX c ?_ ?_)
 refine AJ (ι:={k:Nat//k<=l.length/\Cu s k (l.drop k)=Au l s}) (λk=>⟨[(0,.p FE l),(1,.p T9 s),(5,.p (.int .i64) (k.1:Int))],[]⟩) (λk=>l.length-k.1) ⟨0,IS _,rfl⟩ (eW []) (λk=>?_)
 ·obtain⟨k,hk,hf⟩:=k;simp only;repeat'(first|exact trivial|refine eS rfl ?_|refine AB ?_|refine rX c ?_ ?_|refine rC ?_ ?_<;>intro b<;>try(cases b;done))
  ·exact b
  ·have a:k<l.length:=by exact eV
   rw[TB s l a,BY b]at hf;exact fI c [.tmp 4] (by rw[<-hf];exact eR)
  ·exact eV
  ·have a:k<l.length:=by exact eV
   rw[TB s l a,An (by rw[b];simp)]at hf;exact⟨⟨k+1,by omega,hf⟩,by simp only;omega,eW []⟩
  ·have a:l.drop k=[]:=By (by exact eV);rw[a]at hf;exact fI c [.tmp 4] (by rw[<-hf];first|exact eR|refine YM ?_;rfl)
def MR:List AI->Int
 | []=>0
 | x :: l=>if 256<x.2.1.length\/256<x.2.2.length then 7 else MR l
def FF (l:List AI):Int:=if 256<l.length then 7 else MR l
theorem TC (l:List AI) {k:Nat} (h:k<l.length):MR (l.drop k)=if 256<(l.getD k d0).2.1.length\/256<(l.getD k d0).2.2.length then 7 else MR (l.drop (k+1)):=by
 rw[TO h];have e:l.getD k d0=l[k]:=by simp[AS,h]
 rw[e];rfl
def b7:Aa:={ ins:=[FE],pre:=λ_=>True,out:=λ(l,_)=>[.p Lr (FF l)] }
attribute [local go_sem] b7
theorem A2H:Ab Tryz.prog 196 b7:=by
 refine fK [0,2,3,6,10,28] Tryz.func196 Tryz.ntmps196 AG ?_;rintro w0 O0 ⟨l,u⟩ b ⟨⟨d,-⟩,-⟩ -;simp only[AP]at d;simp only[b7,AL];repeat'(first|exact trivial|refine eS rfl ?_|refine rX b ?_ ?_|refine rC ?_ ?_<;>intro a<;>try(cases a;done))
 ·have h1:FF l=7:=by unfold FF;rw[BY (by exact eV)]
  exact fI b [.tmp 2] (by rw[h1];exact eR)
 ·have h1:FF l=MR l:=by unfold FF;rw[An (by exact eV)]
  refine AJ (ι:={k:Nat//k<=l.length/\MR (l.drop k)=FF l}) (λk=>⟨[(0,.p FE l),(3,.p (.int .i64) (k.1:Int))],[]⟩) (λk=>l.length-k.1) ⟨0,IS _,h1.symm⟩ (eW []) (λk=>?_)
  ·obtain⟨k,hk,hf⟩:=k;simp only;repeat'(first|exact trivial|refine eS rfl ?_|refine AB ?_|refine rX b ?_ ?_|refine rC ?_ ?_<;>intro a<;>try(cases a;done))
   ·exact⟨a,λ_=>a⟩
   ·have c:k<l.length:=by exact eV
    rw[TC l c,BY (by
     rcases a with h|h
     ·exact .inl (IN.1 h)
     ·exact .inr (IN.1 h))]at hf
    exact fI b [.tmp 2] (by rw[<-hf];exact eR)
   ·exact eV
   ·have c:k<l.length:=by exact eV
    rw[TC l c,An (by
     rintro (h|h)
     ·have:=UA.1 a.1;exact absurd h (Nat.not_lt.2 this)
     ·have:=UA.1 a.2;exact absurd h (Nat.not_lt.2 this))]at hf
    exact⟨⟨k+1,by omega,hf⟩,by simp only;omega,eW []⟩
   ·have c:l.drop k=[]:=By (by exact eV);rw[c]at hf;exact fI b [.tmp 2] (by rw[<-hf];first|exact eR|refine YM ?_;rfl)
theorem Ge {α:Type} (l:List α) (d:α) (p:α->Bool) {k:Nat} (h:k<l.length):(l.take (k+1)).all p=((l.take k).all p&&p (l.getD k d)):=by
 rw[Az l d h,AED];simp
def Ji (x:AI) (done:List ByteArray):Bool:=x.2.1.all λs=>AZ done s
def b8:Aa:={ ins:=[zT,F1],pre:=λ_=>True,out:=λ(x,l,_)=>[.p .bool (Ji x l)],lend:=true }
attribute [local go_sem] b8
theorem A2I:Ab Tryz.prog 220 b8:=by
 refine fK [0,1,2,4,5,10,20] Tryz.func220 Tryz.ntmps220 (AF Gz AG) ?_;rintro w0 O0 ⟨⟨nm,sup,d⟩,l,u⟩ c ⟨⟨-,⟨e,-⟩,-⟩,-⟩ -;simp only[AP]at e;simp only[b8,AL];repeat'(first|exact trivial|refine eS rfl ?_|refine rX c ?_ ?_)
 refine AJ (ι:={k:Nat//k<=sup.length/\(sup.take k).all (λs=>AZ l s)=true}) (λk=>⟨[(1,.p F1 l),(2,.bp 2 [] 0),(5,.p (.int .i64) (k.1:Int))],[(2,.box 158 true [.p T9 nm,.p F1 sup,.p gN d])]⟩) (λk=>sup.length-k.1) ⟨0,by simp⟩ (eW [(2,.nm 2)]) (λk=>?_)
 ·obtain⟨k,hk,hf⟩:=k;simp only;repeat'(first|exact trivial|refine eS rfl ?_|refine AB ?_|refine rX c ?_ ?_|refine rC ?_ ?_<;>intro b<;>try(cases b;done))
  ·exact b
  ·have a:k<sup.length:=by exact eV
   have h1:Ji (nm,sup,d) l=false:=by
    unfold Ji;refine AEf.2 λh=>?_;have:=Is.1 h _ (AE sup ByteArray.empty a);rw[b]at this;cases this
   exact fI c [.tmp 4] (by rw[h1];exact eR)
  ·have:=e;exact eV
  ·have a:k<sup.length:=by exact eV
   refine⟨⟨k+1,by omega,?_⟩,by simp only;omega,AC [(2,.nm 2)] rfl rfl ?_ ?_⟩
   ·rw[Ge sup ByteArray.empty _ a,hf];exact b
   ·exact eN
   ·exact eN
  ·have a:sup.take k=sup:=As (by exact eV);rw[a]at hf;have h1:Ji (nm,sup,d) l=true:=hf;exact fI c [.tmp 4] (by rw[h1];exact eR)
def Ou (d:List AI):Nat->List AI->Int
 | _,[]=>0
 | k,x :: l=>if Ew x.1 false=false then 1 else if Au d x.1<(k:Int) then 4 else Ou d (k+1) l
def Cm (d:List AI):Int:=Ou d 0 d
theorem MS (d l:List AI) {k:Nat} (h:k<l.length):Ou d k (l.drop k)=if Ew (l.getD k d0).1 false=false then 1 else if Au d (l.getD k d0).1<(k:Int) then 4 else Ou d (k+1) (l.drop (k+1)):=by
 rw[TO h];have e:l.getD k d0=l[k]:=by simp[AS,h]
 rw[e];rfl
def b9:Aa:={ ins:=[FE],pre:=λ_=>True,out:=λ(l,_)=>[.p Lr (Cm l)] }
attribute [local go_sem] b9
theorem A2J:Ab Tryz.prog 197 b9:=by
 refine fK [0,2,3,7,16,25] Tryz.func197 Tryz.ntmps197 (AF A6J (AF MQ AG)) ?_;rintro w0 O0 ⟨l,u⟩ c ⟨⟨e,-⟩,-⟩ -;simp only[AP]at e;simp only[b9,AL];repeat'(first|exact trivial|refine eS rfl ?_|refine rX c ?_ ?_)
 refine AJ (ι:={k:Nat//k<=l.length/\Ou l k (l.drop k)=Cm l}) (λk=>⟨[(0,.p FE l),(3,.p (.int .i64) (k.1:Int))],[]⟩) (λk=>l.length-k.1) ⟨0,IS _,rfl⟩ (eW []) (λk=>?_)
 ·obtain⟨k,hk,hf⟩:=k;simp only;repeat'(first|exact trivial|refine eS rfl ?_|refine AB ?_|refine rX c ?_ ?_|refine rC ?_ ?_<;>intro b<;>try(cases b;done))
  ·exact b
  ·have a:k<l.length:=by exact eV
   rw[MS l l a,BY b]at hf;exact fI c [.tmp 2] (by rw[<-hf];exact eR)
  ·assumption
  ·rename_i d;have a:k<l.length:=by exact eV
   rw[MS l l a,An (by rw[d];simp),BY b]at hf;exact fI c [.tmp 2] (by rw[<-hf];exact eR)
  ·exact eV
  ·rename_i d;have a:k<l.length:=by exact eV
   rw[MS l l a,An (by rw[d];simp),An (AAb.2 b)]at hf;exact⟨⟨k+1,by omega,hf⟩,by simp only;omega,eW []⟩
  ·have a:l.drop k=[]:=By (by exact eV);rw[a]at hf;exact fI c [.tmp 2] (by rw[<-hf];first|exact eR|refine YM ?_;rfl)
def Tt (d:List AI) (l:List ByteArray):Nat->List ByteArray->Int
 | _,[]=>0
 | k,x :: r=>if Au d x<0 then 5 else if AZ (l.take k) x=true then 4 else Tt d l (k+1) r
def Kx (d:List AI):List AI->Int
 | []=>0
 | x :: l=>if Tt d x.2.1 0 x.2.1≠0 then Tt d x.2.1 0 x.2.1 else Kx d l
def Ky (d:List AI):Int:=Kx d d
theorem R2 (d:List AI) (l:List ByteArray) {k:Nat} (h:k<l.length):Tt d l k (l.drop k)=if Au d (l.getD k ByteArray.empty)<0 then 5 else if AZ (l.take k) (l.getD k ByteArray.empty)=true then 4 else Tt d l (k+1) (l.drop (k+1)):=by
 rw[TO h];have e:l.getD k ByteArray.empty=l[k]:=by simp[AS,h]
 rw[e];rfl
theorem cA (d l:List AI) {k:Nat} (h:k<l.length):Kx d (l.drop k)=if Tt d (l.getD k d0).2.1 0 (l.getD k d0).2.1≠0 then Tt d (l.getD k d0).2.1 0 (l.getD k d0).2.1 else Kx d (l.drop (k+1)):=by
 rw[TO h];have e:l.getD k d0=l[k]:=by simp[AS,h]
 rw[e];rfl
def Uk:Aa:={ ins:=[FE],pre:=λ_=>True,out:=λ(l,_)=>[.p Lr (Ky l)] }
attribute [local go_sem] Uk
theorem z0:Ab Tryz.prog 198 Uk:=by
 refine fK [0,2,3,4,5,9,20,29,37] Tryz.func198 Tryz.ntmps198 (AF Gz (AF MQ AG)) ?_;rintro w0 O0 ⟨l,u⟩ d ⟨⟨h,g⟩,-⟩ -;simp only[AP]at h;simp only[Uk,AL];repeat'(first|exact trivial|refine eS rfl ?_|refine rX d ?_ ?_)
 refine AJ (ι:={i:Nat//i<=l.length/\Kx l (l.drop i)=Ky l}) (λi=>⟨[(0,.p FE l),(3,.p (.int .i64) (i.1:Int))],[]⟩) (λi=>l.length-i.1) ⟨0,IS _,rfl⟩ (eW []) (λi=>?_)
 ·obtain⟨i,hi,hf⟩:=i;simp only;repeat'(first|exact trivial|refine eS rfl ?_|refine rX d ?_ ?_|refine rC ?_ ?_<;>intro b<;>try(cases b;done))
  ·exact b
  ·have f:i<l.length:=by exact eV
   have j:=g _ (AE l d0 f);have m:(l.getD i d0).2.1.length<=AP:=j.2.1.1;simp only[AP]at m;rw[cA l l f]at hf;generalize (l.getD i d0).2.1=sup at *;refine AJ (ι:={k:Nat//k<=sup.length/\Tt l sup k (sup.drop k)=Tt l sup 0 sup}) (λk=>⟨[(0,.p FE l),(3,.p (.int .i64) (i:Int)),(4,.p F1 sup),(5,.p (.int .i64) (k.1:Int))],[]⟩) (λk=>sup.length-k.1) ⟨0,IS _,rfl⟩ (eW []) (λk=>?_)
   ·obtain⟨k,hk,c⟩:=k;simp only;repeat'(first|exact trivial|refine eS rfl ?_|refine AB ?_|refine rX d ?_ ?_|refine rC ?_ ?_<;>intro b<;>try(cases b;done))
    ·exact b
    ·have a:k<sup.length:=by exact eV
     rw[R2 l sup a,BY b]at c;rw[<-c,BY (by decide)]at hf;exact fI d [.tmp 2] (by rw[<-hf];exact eR)
    ·exact eV
    ·rename_i e;have a:k<sup.length:=by exact eV
     rw[R2 l sup a,An (AAb.2 e),BY b]at c;rw[<-c,BY (by decide)]at hf;exact fI d [.tmp 2] (by rw[<-hf];exact eR)
    ·exact eV
    ·rename_i e;have a:k<sup.length:=by exact eV
     rw[R2 l sup a,An (AAb.2 e),An (by rw[b];simp)]at c;exact⟨⟨k+1,by omega,c⟩,by simp only;omega,eW []⟩
    ·exact eV
    ·have a:sup.drop k=[]:=By (by exact eV);rw[a]at c;rw[<-c,An (by simp[Tt])]at hf;exact⟨⟨i+1,by omega,hf⟩,by simp only;omega,eW []⟩
  ·have a:l.drop i=[]:=By (by exact eV);rw[a]at hf;exact fI d [.tmp 2] (by rw[<-hf];first|exact eR|refine YM ?_;rfl)
end
section
attribute [local go_sem] Ot b8 Jh b5
theorem E5 {α β:Type} (g:β->α->β) (l:List α) (d:α) (t:β) {i:Nat} (hi:i<l.length):(l.take (i+1)).foldl g t=g ((l.take i).foldl g t) (l.getD i d):=by
 rw[Az l d hi,AEx];rfl
theorem MT (l:List ByteArray) (s:ByteArray):(Ea l s).length<=l.length+1:=by
 unfold Ea;split
 ·omega
 ·have:=A8u (λx=>HR x s) l;have a:atF l s<=l.length:=this;simp only[GO,ON,YE,To];omega
def AO (l:List AI):List ByteArray:=l.foldl (λo x=>Ea o x.1) []
theorem D7 (l:List AI) (k:Nat):(AO (l.take k)).length<=k:=by
 have key:∀(l:List AI) (o:List ByteArray),(l.foldl (λo x=>Ea o x.1) o).length<=o.length+l.length:=by
  intro l;induction l with
  | nil=>intro o;simp
  | cons x l b =>
   intro o;have h1:=b (Ea o x.1);have a:=MT o x.1;simp only[OR,OS];omega
 have h1:=key (l.take k) [];have a:=oN k l;unfold AO;simp only[ADw]at h1;omega
def QQ:Aa:={ ins:=[FE],pre:=λ(l,_)=>List.length l<=100000,out:=λ(l,_)=>[.p F1 (AO l)] }
attribute [local go_sem] QQ
theorem ZD:Ab Tryz.prog 161 QQ:=by
 refine fK [0,2,3,4,8] Tryz.func161 Tryz.ntmps161 (AF Rz AG) ?_;rintro w0 O0 ⟨l,u⟩ a-d;have d:l.length<=100000:=d;simp only[QQ,AL];repeat'(first|exact trivial|refine eS rfl ?_|refine rX a ?_ ?_)
 refine AJ (ι:={k:Nat//k<=l.length}) (λk=>⟨[(0,.p FE l),(3,.p F1 (AO (l.take k.1))),(4,.p (.int .i64) (k.1:Int))],[]⟩) (λk=>l.length-k.1) ⟨0,IS _⟩ (AC [] rfl rfl ?_ ?_) (λk=>?_)
 ·exact eN
 ·refine eM ?_;rfl
 ·obtain⟨k,hk⟩:=k;have hn:=D7 l k;have hs:=λh:k<l.length=>E5 (λ(o:List ByteArray) (x:AI)=>Ea o x.1) l d0 [] h;simp only;repeat'(first|exact trivial|refine eS rfl ?_|refine AB ?_|refine rX a ?_ ?_|refine rC ?_ ?_<;>intro c<;>try(cases c;done))
  ·exact⟨c,by omega⟩
  ·exact eV
  ·have b:k<l.length:=by exact eV
   have e:=hs b;refine⟨⟨k+1,by omega⟩,by simp only;omega,AC [] rfl rfl ?_ ?_⟩
   ·exact eN
   ·simp only;have e:AO (l.take (k+1))=Ea (AO (l.take k)) (l.getD k d0).1:=e;rw[e];exact eN
  ·have b:l.take k=l:=As (by exact eV);rw[b];exact fI a [.tmp 2]
def JC (out:List ByteArray) (s:Bool×ByteArray) (x:AI):Bool×ByteArray :=
 if (AZ out x.1||!Ji x out)=true then s else (true,if (!s.1||HR x.1 s.2)=true then x.1 else s.2)
def IB (d:List AI) (out:List ByteArray):Bool×ByteArray:=d.foldl (JC out) (false,ByteArray.empty)
def JD (d:List AI):Nat->List ByteArray->List ByteArray
 | 0,out=>out
 | n+1,out=>if (IB d out).1=true then JD d n (out++[(IB d out).2]) else out
def Bk (d:List AI):List ByteArray:=JD d d.length []
def IC (d:List AI) (out:List ByteArray):Nat:=d.countP λx=>!AZ out x.1
theorem Cv (s:ByteArray):AY s s=true:=by unfold AY;simp
theorem Ov (out:List ByteArray) (s x:ByteArray):AZ (out++[s]) x=(AZ out x||AY s x):=by
 unfold AZ;simp[AEC]
theorem z1 (d:List AI) (out:List ByteArray) (h:(IB d out).1=true):∃x∈d,x.1=(IB d out).2/\AZ out x.1=false:=by
 have key:∀(l:List AI) (s:Bool×ByteArray),(∀x∈l,x∈d)->(s.1=true->∃x∈d,x.1=s.2/\AZ out x.1=false)->(l.foldl (JC out) s).1=true ->
   ∃x∈d,x.1=(l.foldl (JC out) s).2/\AZ out x.1=false:=by
  intro l;induction l with
  | nil=>intro s _ hs h;exact hs h
  | cons y l g =>
   intro s c hs h;rw[OR]at h ⊢;refine g _ (λx e=>c x (by simp[e])) (λhp=>?_) h;unfold JC at hp ⊢;split
   ·rename_i a;rw[BY a]at hp;exact hs hp
   ·rename_i a;simp only;have f:AZ out y.1=false:=by
     cases hh:AZ out y.1 with
     | false=>rfl
     | true=>rw[hh]at a;simp at a
    split
    ·exact⟨y,c y (by simp),rfl,f⟩
    ·rename_i b;have:s.1=true:=by
      cases hh:s.1 with
      | true=>rfl
      | false=>rw[hh]at b;simp at b
     exact hs this
 exact key d _ (λ_ h=>h) (λh=>by cases h) h
theorem gX {d:List AI} {out:List ByteArray} (h:(IB d out).1=true):IC d (out++[(IB d out).2])<IC d out:=by
 obtain⟨x,e,h1,c⟩:=z1 d out h;generalize (IB d out).2=s at *;unfold IC;have key:∀l:List AI,(l.countP λy=>!AZ (out++[s]) y.1)<=l.countP λy=>!AZ out y.1:=by
  intro l;refine List.countP_mono_left λy _ a=>?_;rw[Ov]at a;cases hh:AZ out y.1 with
  | false=>rfl
  | true=>rw[hh]at a;simp at a
 obtain⟨f,g,rfl⟩:=List.append_of_mem e;rw[AFj,AFj,AEm,AEm];have i:=key f;have j:=key g;have b:AZ (out++[s]) x.1=true:=by rw[Ov,h1,Cv,Bool.or_true]
 rw[b,c];simp only[Bool.not_true,Bool.not_false,AD1];simp only[ADB,AE4];omega
def cB:Aa:={ ins:=[FE],pre:=λ(l,_)=>List.length l<=100000,out:=λ(l,_)=>[.p F1 (Bk l)] }
theorem z2:Ab Tryz.prog 199 cB:=by
 refine fK [0,2,3,4,5,6,7,11,29,40,46] Tryz.func199 Tryz.ntmps199 (AF Gz (AF A2I AG)) ?_;rintro w0 O0 ⟨d,u⟩ j-r;have r:d.length<=100000:=r;simp only[cB,AL];repeat'(first|exact trivial|refine eS rfl ?_|refine rX j ?_ ?_)
 refine AJ (ι:={x:Nat×List ByteArray×Bool//x.1+x.2.1.length<=d.length/\(x.2.2=true->IC d x.2.1<=x.1/\JD d x.1 x.2.1=Bk d)/\(x.2.2=false->x.2.1=Bk d)}) (λx=>⟨[(0,.p FE d),(3,.sr 50 T9 0 x.1.2.1.length),(4,.p .bool x.1.2.2)],[(50,.arr 9 T9 x.1.2.1)]⟩) (λx=>(if x.1.2.2=true then x.1.1+1 else 0)) ⟨(d.length,[],true),by simp,λ_=>⟨List.countP_le_length,rfl⟩,λh=>by cases h⟩ (eW [(50,.nil)]) (λx=>?_)
 ·obtain⟨⟨n,out,C⟩,s,t,v⟩:=x;simp only at s t v;simp only;repeat'(first|exact trivial|refine eS rfl ?_|refine rX j ?_ ?_|refine rC ?_ ?_<;>intro a<;>try(cases a;done))
  ·subst a;obtain⟨hu,hp⟩:=t rfl;have B:({ data:=#[] }:ByteArray).size<=AP:=by decide
   rw[BY B];refine AJ (ι:={y:Nat×Bool×ByteArray//y.1<=d.length/\(d.take y.1).foldl (JC out) (false,ByteArray.empty)=y.2}) (λy=>⟨[(0,.p FE d),(3,.sr 50 T9 0 out.length),(4,.p .bool y.1.2.1),(5,.p T9 y.1.2.2),(6,.p (.int .i64) (y.1.1:Int))],[(50,.arr 9 T9 out)]⟩) (λy=>d.length-y.1.1) ⟨(0,false,ByteArray.empty),by simp,rfl⟩ (AC [(50,.nm 50)] rfl rfl ?_ ?_) (λy=>?_)
   ·exact eN
   ·refine eM ?_;rfl
   ·obtain⟨⟨k,w,b⟩,hk,c⟩:=y;simp only at hk c;have q:∀h:k<d.length,(d.take (k+1)).foldl (JC out) (false,ByteArray.empty)=JC out (w,b) (d.getD k d0):=λh=>by
     rw[E5 (JC out) d d0 _ h,c]
    simp only;repeat'(first|exact trivial|refine eS rfl ?_|refine AB ?_|refine rX j ?_ ?_|refine rC ?_ ?_<;>intro a<;>try(cases a;done))
    ·exact⟨a,λ_=>a⟩
    ·exact eV
    ·have g:k<d.length:=by exact eV
     refine⟨⟨(k+1,w,b),by simp only;omega,?_⟩,by simp only;omega,AC [(50,.nm 50)] rfl rfl ?_ ?_⟩
     ·simp only;rw[q g];unfold JC;rw[BY];rw[UU,UB];exact a
     ·exact eN
     ·exact eN
    ·exact λ_=>by assumption
    ·assumption
    ·exact eV
    ·rename_i f;have g:k<d.length:=by exact eV
     refine⟨⟨(k+1,true,(d.getD k d0).1),by simp only;omega,?_⟩,by simp only;omega,AC [(50,.nm 50)] rfl rfl ?_ ?_⟩
     ·simp only;rw[q g];unfold JC;rw[An (by rw[f.1,f.2];simp),BY (by rw[UU,UB];exact a)]
     ·exact eN
     ·exact eN
    ·exact eV
    ·rename_i f;have g:k<d.length:=by exact eV
     refine⟨⟨(k+1,true,b),by simp only;omega,?_⟩,by simp only;omega,AC [(50,.nm 50)] rfl rfl ?_ ?_⟩
     ·simp only;rw[q g];unfold JC;rw[An (by rw[f.1,f.2];simp),An (by rw[UU,UB];rintro (h|h)<;>simp_all)]
     ·exact eN
     ·exact eN
    ·simp only[AP];dsimp only[Ty.den]at *;omega
    ·subst a;have l:d.take k=d:=As (by exact eV);rw[l]at c;have i:IB d out=(true,b):=c;have m:=gX (d:=d) (out:=out) (by rw[i]);rw[i]at m;obtain⟨e,rfl⟩:∃e,n=e+1:=⟨n-1,by omega⟩;have o:JD d e (out++[b])=Bk d:=by
      rw[<-hp];show _=if (IB d out).1=true then JD d e (out++[(IB d out).2]) else out
      rw[i,BY rfl]
     have m:IC d (out++[b])<IC d out:=m;have A:IC d (out++[b])<=e:=by omega
     exact⟨⟨(e,out++[b],true),by simp only[GO,To];omega,λ_=>⟨A,o⟩,λh=>by cases h⟩,by simp,eW [(50,.nm 50)]⟩
    ·subst a;have l:d.take k=d:=As (by exact eV);rw[l]at c;have i:IB d out=(false,b):=c;have o:out=Bk d:=by
      rw[<-hp];cases n with
      | zero=>rfl
      | succ n =>
       show _=if (IB d out).1=true then JD d n (out++[(IB d out).2]) else out
       rw[i,An (by simp)]
     exact⟨⟨(n,out,false),s,(λh=>by cases h),λ_=>o⟩,by simp,eW [(50,.nm 50)]⟩
  ·subst a;have z:=v rfl;rw[z];refine FP [50] ?_;exact fI j [.tmp 2]
end
section
attribute [local go_sem] b7 b9 Uk cB
def ID (d:List AI):Nat:=d.countP λx=>x.2.1.length==0
theorem gY (d:List AI) {k:Nat} (h:k<d.length):ID (d.take (k+1))=ID (d.take k)+if ((d.getD k d0).2.1.length==0)=true then 1 else 0:=by
 unfold ID;rw[Az d d0 h,AFj,AEm,List.countP_nil];omega
theorem z3 (d:List AI):ID d<=d.length:=List.countP_le_length
def A7 (d:List AI):Int :=
 if FF d≠0 then FF d else if Cm d≠0 then Cm d else if Ky d≠0 then Ky d else if ID d≠1 then 1 else if (Bk d).length<d.length then 6 else 0
theorem TD {d:List AI} (h:FF d=0):d.length<=256:=by
 unfold FF at h;split at h
 ·cases h
 ·omega
def Ul:Aa:={ ins:=[FE],pre:=λ_=>True,out:=λ(l,_)=>[.p Lr (A7 l)] }
attribute [local go_sem] Ul
theorem z4:Ab Tryz.prog 160 Ul:=by
 refine fK [0,2,3,4,5,6,7,11,16,21,26,35,39,45] Tryz.func160 Tryz.ntmps160 (AF A2H (AF A2J (AF z0 (AF z2 AG)))) ?_;rintro w0 O0 ⟨d,u⟩ c - -;simp only[Ul,AL];repeat'(first|exact trivial|refine eS rfl ?_|refine rX c ?_ ?_|refine rC ?_ ?_<;>intro a<;>try(cases a;done))
 ·have h1:A7 d=FF d:=by unfold A7;rw[BY a]
  exact fI c [.tmp 2] (by rw[h1];exact eR)
 ·rename_i hs;have hs:FF d=0:=by simpa using hs
  have h1:A7 d=Cm d:=by unfold A7;rw[An (by rw[hs];simp),BY a]
  exact fI c [.tmp 2] (by rw[h1];exact eR)
 ·rename_i hs hn;have hs:FF d=0:=by simpa using hs
  have hn:Cm d=0:=by simpa using hn
  have h1:A7 d=Ky d:=by unfold A7;rw[An (by rw[hs];simp),An (by rw[hn];simp),BY a]
  exact fI c [.tmp 2] (by rw[h1];exact eR)
 ·rename_i hs hn;have hs:FF d=0:=by simpa using hs
  have hn:Cm d=0:=by simpa using hn
  have hu:Ky d=0:=by simpa using a
  have i:=TD hs;have h1:A7 d=if ID d≠1 then 1 else if (Bk d).length<d.length then 6 else 0:=by
   unfold A7;rw[An (by rw[hs];simp),An (by rw[hn];simp),An (by rw[hu];simp)]
  refine AJ (ι:={k:Nat//k<=d.length}) (λk=>⟨[(0,.p FE d),(6,.p (.int .i64) (ID (d.take k.1):Int)),(7,.p (.int .i64) (k.1:Int))],[]⟩) (λk=>d.length-k.1) ⟨0,IS _⟩ (AC [] rfl rfl ?_ ?_) (λk=>?_)
  ·exact eN
  ·refine eM ?_;rfl
  ·obtain⟨k,hk⟩:=k;have j:=z3 (d.take k);have l:=oN k d;have g:=λh:k<d.length=>gY d h;simp only;repeat'(first|exact trivial|refine eS rfl ?_|refine AB ?_|refine rX c ?_ ?_|refine rC ?_ ?_<;>intro a<;>try(cases a;done))
   ·exact a
   ·exact eV
   ·exact eV
   ·have b:k<d.length:=by exact eV
    have e:=g b;rw[BY (by rw[YD];exact Int.ofNat_eq_zero.1 a)]at e;refine⟨⟨k+1,by omega⟩,by simp only;omega,AC [] rfl rfl ?_ ?_⟩
    ·exact eN
    ·simp only[e];exact eN
   ·exact eV
   ·have b:k<d.length:=by exact eV
    have e:=g b;rw[An (by rw[YD];exact λh=>a (Int.ofNat_eq_zero.2 h))]at e;refine⟨⟨k+1,by omega⟩,by simp only;omega,AC [] rfl rfl ?_ ?_⟩
    ·exact eN
    ·simp only[e];exact eN
   ·have b:d.take k=d:=As (by exact eV);rw[b]at a;rw[BY (λh=>a (by rw[h];rfl))]at h1;exact fI c [.tmp 2] (by rw[h1];exact eR)
   ·show d.length<=100000;omega
   ·rename_i f;have b:d.take k=d:=As (by exact eV);rw[b]at f;have f:(ID d:Int)=1:=by simpa using f
    rw[An (by omega),BY (IN.1 a)]at h1;exact fI c [.tmp 2] (by rw[h1];exact eR)
   ·rename_i f;have b:d.take k=d:=As (by exact eV);rw[b]at f;have f:(ID d:Int)=1:=by simpa using f
    rw[An (by omega),An (λh=>absurd (UA.1 a) (Nat.not_le.2 h))]at h1;exact fI c [.tmp 2] (by rw[h1];exact eR)
end
section
attribute [local go_sem] Ot Jh b5
def J8 (o:List ByteArray) (s:ByteArray):List ByteArray:=if AZ o s=true then o else o++[s]
def MU (d:List AI) (s:ByteArray):List ByteArray:=(d.getD (Au d s).toNat d0).2.1
def IE (d:List AI):Nat->Nat->List ByteArray->List ByteArray
 | 0,_,o=>o
 | n+1,i,o=>if i<o.length then IE d n (i+1) ((MU d (o.getD i ByteArray.empty)).foldl J8 o) else o
def J9 (l:List ByteArray):List ByteArray:=l.foldl Ea []
theorem ZE (l:List ByteArray):(J9 l).length<=l.length:=by
 have key:∀(l o:List ByteArray),(l.foldl Ea o).length<=o.length+l.length:=by
  intro l;induction l with
  | nil=>intro o;simp
  | cons x l a =>
   intro o;have h1:=a (Ea o x);have b:=MT o x;simp only[OR,OS];omega
 have:=key l [];simpa[J9] using this
def Kz (d:List AI) (s:ByteArray):List ByteArray:=if Au d s<0 then [] else J9 (IE d d.length 0 [s])
def QR (d:List AI):Prop:=∀x∈d,∀s∈x.2.1,0<=Au d s
theorem ZF (s:ByteArray):∀(l:List AI) (k:Nat),Cu s k l=-1\/((k:Int)<=Cu s k l/\Cu s k l<(k:Int)+l.length/\AY (l.getD ((Cu s k l).toNat-k) d0).1 s=true)
 | [],_=>.inl rfl
 | x :: l,k=>by
  simp only[Cu];split
  ·rename_i h;right;refine⟨by omega,by simp only[OS];omega,?_⟩;have:((k:Int).toNat-k)=0:=by omega
   rw[this];exact h
  ·rcases ZF s l (k+1) with h|⟨h1,b,a⟩
   ·exact .inl h
   ·right;refine⟨by omega,by simp only[OS];omega,?_⟩;have:((Cu s (k+1) l).toNat-k)=((Cu s (k+1) l).toNat-(k+1))+1:=by omega
    rw[this];exact a
theorem DU (d:List AI) (s:ByteArray):Au d s<0\/(0<=Au d s/\Au d s<(d.length:Int)/\AY (d.getD (Au d s).toNat d0).1 s=true):=by
 rcases ZF s d 0 with h|⟨h1,a,b⟩
 ·left;show Cu s 0 d<0;omega
 ·have a:Au d s<((0:Nat):Int)+d.length:=a;exact .inr ⟨h1,by omega,b⟩
theorem Hg {a b:ByteArray}:AY a b=true↔a.toList=b.toList:=by unfold AY;simp
theorem D8 {a b:ByteArray} (h:AY a b=true):AY b a=true:=Hg.2 (Hg.1 h).symm
theorem BX {a b c:ByteArray} (h:AY a b=true) (g:AY b c=true):AY a c=true:=Hg.2 ((Hg.1 h).trans (Hg.1 g))
structure cC (d:List AI) (o:List ByteArray):Prop where
 decl:∀s∈o,0<=Au d s
 nd:o.Pairwise λa b=>AY a b=false
theorem K0 (d:List AI):∀ {o:List ByteArray},cC d o->(o.map λs=>(Au d s).toNat).Nodup
 | [],_=>by simp
 | s :: o,h=>by
  rw[UQ,aT];have c:=UW.1 h.nd;refine⟨λi=>?_,K0 d ⟨λx a=>h.decl x (by simp[a]),c.2⟩⟩;obtain⟨x,a,e⟩:=IF.1 i;have h1:=h.decl s (by simp);have j:=h.decl x (by simp[a]);rcases DU d s with g|⟨_,_,f⟩
  ·omega
  ·rcases DU d x with g|⟨_,_,b⟩
   ·omega
   ·rw[e]at b;have:=c.1 x a;rw[BX (D8 f) b]at this;cases this
theorem cC.len {d:List AI} {o:List ByteArray} (h:cC d o):o.length<=d.length:=by
 have:=EP d.length (o.map λs=>(Au d s).toNat) (K0 d h) (λj a=>by
  obtain⟨s,hs,rfl⟩:=IF.1 a;have h1:=h.decl s hs;rcases DU d s with g|⟨_,g,_⟩<;>omega)
 simpa using this
theorem QT {o:List ByteArray} {s:ByteArray} (h:AZ o s=false):∀x∈o,AY x s=false:=λx a=>by
 cases hh:AY x s with
 | false=>rfl
 | true=>exact absurd h (by rw[show AZ o s=true from UF.2 ⟨x,a,hh⟩];simp)
theorem wP {d:List AI} {o:List ByteArray} (h:cC d o) {s:ByteArray} (hs:0<=Au d s):cC d (J8 o s):=by
 unfold J8;split
 ·exact h
 ·rename_i e;have e:AZ o s=false:=by simpa using e
  refine⟨λx c=>?_,?_⟩
  ·rcases No.1 c with c|c
   ·exact h.decl x c
   ·have:x=s:=by simpa using c
    rw[this];exact hs
  ·rw[AE2];refine⟨h.nd,by simp,λa ha b f=>?_⟩;have:b=s:=by simpa using f
   rw[this];exact QT e a ha
theorem gZ {d:List AI}:∀ {l o:List ByteArray},(∀s∈l,0<=Au d s)->cC d o->cC d (l.foldl J8 o)/\o.length<=(l.foldl J8 o).length
 | [],o,_,h=>⟨h,NO _⟩
 | s :: l,o,a,h=>by
  obtain⟨b,c⟩:=gZ (l:=l) (λx e=>a x (by simp[e])) (wP h (a s (by simp)));refine⟨b,UD ?_ c⟩;unfold J8;split<;>simp
theorem g9 {d:List AI} (b:QR d) (s:ByteArray):∀x∈MU d s,0<=Au d x:=by
 intro x a;unfold MU at a;by_cases h:(Au d s).toNat<d.length
 ·exact b _ (AE d d0 h) x a
 ·rw[AS,UJ (by omega)]at a;cases a
def mT:Aa:={ ins:=[FE,T9],pre:=λ(d,_,_)=>QR d/\List.length d<=256,out:=λ(d,s,_)=>[.p F1 (Kz d s)] }
theorem A2K:Ab Tryz.prog 222 mT:=by
 refine fK [0,1,4,5,6,7,8,9,10,14,20,36,45,56] Tryz.func222 Tryz.ntmps222 (AF MQ (AF Gz (AF Rz AG))) ?_;rintro w0 O0 ⟨d,s,u⟩ b ⟨⟨Q,G⟩,-⟩ ⟨O,z⟩;have z:d.length<=256:=z;simp only[mT,AL];repeat'(first|exact trivial|refine eS rfl ?_|refine rX b ?_ ?_|refine rC ?_ ?_<;>intro a<;>try(cases a;done))
 ·have h1:Kz d s=[]:=by unfold Kz;rw[BY a]
  exact fI b [.tmp 4] (by rw[h1];exact eR)
 ·have h1:Kz d s=J9 (IE d d.length 0 [s]):=by unfold Kz;rw[An (AAb.2 a)]
  have F:cC d [s]:=⟨λx y=>by
   have:x=s:=by simpa using y
   rw[this];exact a,by simp⟩
  refine AJ (ι:={x:Nat×List ByteArray//x.1<=x.2.length/\cC d x.2/\IE d (d.length-x.1) x.1 x.2=IE d d.length 0 [s]}) (λx=>⟨[(0,.p FE d),(1,.p T9 s),(5,.sr 16 T9 0 x.1.2.length),(6,.p (.int .i64) (x.1.1:Int))],[(16,.arr 9 T9 x.1.2)]⟩) (λx=>d.length-x.1.1) ⟨(0,[s]),by simp,F,rfl⟩ (eW [(16,.nm 16)]) (λx=>?_)
  ·obtain⟨⟨i,o⟩,hi,c,t⟩:=x;simp only at hi c t;have U:=c.len;simp only;repeat'(first|exact trivial|refine eS rfl ?_|refine rX b ?_ ?_|refine rC ?_ ?_<;>intro a<;>try(cases a;done))
   ·have q:i<o.length:=by exact eV
    have A:=c.decl _ (AE o ByteArray.empty q);refine⟨a,A,?_⟩;rcases DU d (o.getD i ByteArray.empty) with g|⟨_,g,_⟩
    ·omega
    ·exact g
   ·have q:i<o.length:=by exact eV
    have A:=c.decl _ (AE o ByteArray.empty q);have K:=g9 O (o.getD i ByteArray.empty);have C:IE d (d.length-(i+1)) (i+1) ((MU d (o.getD i ByteArray.empty)).foldl J8 o)=IE d d.length 0 [s]:=by
     rw[<-t];obtain⟨m,B⟩:∃m,d.length-i=m+1:=⟨d.length-i-1,by omega⟩;have H:d.length-(i+1)=m:=by omega
     rw[B,H];show _=if i<o.length then IE d m (i+1) ((MU d (o.getD i ByteArray.empty)).foldl J8 o) else o
     rw[BY q]
    have M:(MU d (o.getD i ByteArray.empty)).length<=AP:=by
     rcases DU d (o.getD i ByteArray.empty) with g|⟨_,g,_⟩
     ·omega
     ·exact(G _ (AE d d0 (k:=(Au d (o.getD i ByteArray.empty)).toNat) (by omega))).2.1.1
    have N:(List.getD d (Au d (o.getD i ByteArray.empty)).toNat (ByteArray.empty,[],[])).2.1=MU d (o.getD i ByteArray.empty):=rfl;rw[N];generalize MU d (o.getD i ByteArray.empty)=sup at *;simp only[AP]at M;refine AJ (ι:={k:Nat//k<=sup.length}) (λk=>⟨[(0,.p FE d),(1,.p T9 s),(5,.sr 16 T9 0 ((sup.take k.1).foldl J8 o).length),(6,.p (.int .i64) (i:Int)),(7,.p F1 sup),(8,.p (.int .i64) (k.1:Int))],[(16,.arr 9 T9 ((sup.take k.1).foldl J8 o))]⟩) (λk=>sup.length-k.1) ⟨0,IS _⟩ (AC [(16,.nm 16)] rfl rfl ?_ ?_) (λk=>?_)
    ·refine eM ?_;rfl
    ·refine eM ?_;rfl
    ·obtain⟨k,hk⟩:=k;have w:=gZ (l:=sup.take k) (o:=o) (λx y=>K x (f6 y)) c;have S:=w.1.len;have E:=λh:k<sup.length=>E5 J8 sup ByteArray.empty o h;simp only;generalize D:(sup.take k).foldl J8 o=n at *;repeat'(first|exact trivial|refine eS rfl ?_|refine AB ?_|refine rX b ?_ ?_|refine rC ?_ ?_<;>intro a<;>try(cases a;done))
     ·exact a
     ·refine⟨by exact eV,?_⟩;simp only[AP];dsimp only[Ty.den]at *;omega
     ·exact eV
     ·have f:k<sup.length:=by exact eV
      have e:=E f;have r:J8 n (sup.getD k ByteArray.empty)=n++[sup.getD k ByteArray.empty]:=by unfold J8;rw[An (by rw[a];simp)]
      rw[r]at e;refine⟨⟨k+1,by omega⟩,by simp only;omega,AC [(16,.nm 16)] rfl rfl ?_ ?_⟩
      ·simp only[e];exact eN
      ·simp only[e];exact eN
     ·exact eV
     ·have f:k<sup.length:=by exact eV
      have e:=E f;have r:J8 n (sup.getD k ByteArray.empty)=n:=by unfold J8;rw[BY a]
      rw[r]at e;refine⟨⟨k+1,by omega⟩,by simp only;omega,AC [(16,.nm 16)] rfl rfl ?_ ?_⟩
      ·simp only[e];exact eN
      ·simp only[e];exact eN
     ·exact eV
     ·have f:sup.take k=sup:=As (by exact eV);rw[f]at D;rw[D]at C;have J:=w.1;have T:=w.2;exact⟨⟨(i+1,n),by simp only;omega,J,C⟩,by simp only;omega,eW [(16,.nm 16)]⟩
   ·have I:o=IE d d.length 0 [s]:=by
     rw[<-t];cases B:d.length-i with
     | zero=>rfl
     | succ m =>
      show _=if i<o.length then _ else o
      rw[An (by exact eV)]
    rw[<-I]at h1;refine AJ (ι:={j:Nat//j<=o.length}) (λj=>⟨[(0,.p FE d),(5,.sr 16 T9 0 o.length),(9,.p F1 ((o.take j.1).foldl Ea [])),(10,.p (.int .i64) (j.1:Int))],[(16,.arr 9 T9 o)]⟩) (λj=>o.length-j.1) ⟨0,IS _⟩ (AC [(16,.nm 16)] rfl rfl ?_ ?_) (λj=>?_)
    ·exact eN
    ·refine eM ?_;rfl
    ·obtain⟨j,R⟩:=j;have L:=λh:j<o.length=>E5 Ea o ByteArray.empty [] h;simp only;repeat'(first|exact trivial|refine eS rfl ?_|refine AB ?_|refine rX b ?_ ?_|refine rC ?_ ?_<;>intro a<;>try(cases a;done))
     ·refine⟨a,?_⟩;have:=ZE (o.take j);have P:=oN j o;unfold J9 at this;dsimp only[Ty.den]at *;omega
     ·exact eV
     ·have v:j<o.length:=by exact eV
      have e:=L v;refine⟨⟨j+1,by omega⟩,by simp only;omega,AC [(16,.nm 16)] rfl rfl ?_ ?_⟩
      ·exact eN
      ·simp only[e];exact eN
     ·have v:o.take j=o:=As (by exact eV);rw[v];exact fI b [.tmp 4] (by rw[h1];unfold J9;exact eR)
end
section
attribute [local go_sem] Ot Jh b5
def Y1 (s:ByteArray) (o:List ByteArray) (x:AI):List ByteArray:=if (AZ x.2.1 s&&!AZ o x.1)=true then o++[x.1] else o
def Cn (d:List AI):Nat->Nat->List ByteArray->List ByteArray
 | 0,_,o=>o
 | n+1,i,o=>if i<o.length then Cn d n (i+1) (d.foldl (Y1 (o.getD i ByteArray.empty)) o) else o
def Co (d:List AI) (s:ByteArray):List ByteArray:=if Au d s<0 then [] else J9 (Cn d d.length 0 [s])
theorem WH (s:ByteArray):∀(l:List AI) (k:Nat) (x:AI),x∈l->AY x.1 s=true->0<=Cu s k l
 | y :: l,k,x,a,h=>by
  simp only[Cu];split
  ·omega
  ·rename_i b;rcases DO.1 a with rfl|a
   ·exact absurd h b
   ·exact WH s l (k+1) x a h
theorem Db {d:List AI} {x:AI} (a:x∈d):0<=Au d x.1:=WH x.1 d 0 x a (Cv _)
theorem A6L {d:List AI} {o:List ByteArray} (h:cC d o) (s:ByteArray) {x:AI} (b:x∈d):cC d (Y1 s o x):=by
 unfold Y1;split
 ·rename_i a;rw[AT,UB]at a;have:=wP h (Db b);unfold J8 at this
  rwa [An (by rw[a.2];simp)]at this
 ·exact h
theorem WI {d:List AI} (s:ByteArray):∀ {l:List AI} {o:List ByteArray},(∀x∈l,x∈d)->cC d o->cC d (l.foldl (Y1 s) o)/\o.length<=(l.foldl (Y1 s) o).length
 | [],o,_,h=>⟨h,NO _⟩
 | x :: l,o,a,h=>by
  obtain⟨b,c⟩:=WI s (l:=l) (λy e=>a y (by simp[e])) (A6L h s (a x (by simp)));refine⟨b,UD ?_ c⟩;unfold Y1;split<;>simp
theorem R3 (s:ByteArray) {i:Nat}:∀ {l:List AI} {o:List ByteArray},i<o.length->(l.foldl (Y1 s) o).getD i ByteArray.empty=o.getD i ByteArray.empty
 | [],_,_=>rfl
 | x :: l,o,h=>by
  have a:i<(Y1 s o x).length/\(Y1 s o x).getD i ByteArray.empty=o.getD i ByteArray.empty:=by
   unfold Y1;split
   ·refine⟨by rw[GO];omega,?_⟩;simp only[AS];rw[UR h]
   ·exact⟨h,rfl⟩
  rw[OR,R3 s a.1,a.2]
def cE:Aa:={ ins:=[FE,T9],pre:=λ(d,_,_)=>List.length d<=256,out:=λ(d,s,_)=>[.p F1 (Co d s)] }
attribute [local go_sem] cE
theorem A2L:Ab Tryz.prog 200 cE:=by
 refine fK [0,1,4,5,6,7,8,9,13,19,25,47,59] Tryz.func200 Tryz.ntmps200 (AF MQ (AF Gz (AF Rz AG))) ?_;rintro w0 O0 ⟨d,s,u⟩ b-y;have y:d.length<=256:=y;simp only[cE,AL];repeat'(first|exact trivial|refine eS rfl ?_|refine rX b ?_ ?_|refine rC ?_ ?_<;>intro a<;>try(cases a;done))
 ·have h1:Co d s=[]:=by unfold Co;rw[BY a]
  exact fI b [.tmp 4] (by rw[h1];exact eR)
 ·have h1:Co d s=J9 (Cn d d.length 0 [s]):=by unfold Co;rw[An (AAb.2 a)]
  have F:cC d [s]:=⟨λx v=>by
   have:x=s:=by simpa using v
   rw[this];exact a,by simp⟩
  refine AJ (ι:={x:Nat×List ByteArray//x.1<=x.2.length/\cC d x.2/\Cn d (d.length-x.1) x.1 x.2=Cn d d.length 0 [s]}) (λx=>⟨[(0,.p FE d),(5,.sr 15 T9 0 x.1.2.length),(6,.p (.int .i64) (x.1.1:Int))],[(15,.arr 9 T9 x.1.2)]⟩) (λx=>d.length-x.1.1) ⟨(0,[s]),by simp,F,rfl⟩ (eW [(15,.nm 15)]) (λx=>?_)
  ·obtain⟨⟨i,o⟩,hi,q,r⟩:=x;simp only at hi q r;have P:=q.len;simp only;repeat'(first|exact trivial|refine eS rfl ?_|refine rX b ?_ ?_|refine rC ?_ ?_<;>intro a<;>try(cases a;done))
   ·have z:i<o.length:=by exact eV
    have B:Cn d (d.length-(i+1)) (i+1) (d.foldl (Y1 (o.getD i ByteArray.empty)) o)=Cn d d.length 0 [s]:=by
     rw[<-r];obtain⟨m,A⟩:∃m,d.length-i=m+1:=⟨d.length-i-1,by omega⟩;have G:d.length-(i+1)=m:=by omega
     rw[A,G];show _=if i<o.length then Cn d m (i+1) (d.foldl (Y1 (o.getD i ByteArray.empty)) o) else o
     rw[BY z]
    refine AJ (ι:={k:Nat//k<=d.length}) (λk=>⟨[(0,.p FE d),(5,.sr 15 T9 0 ((d.take k.1).foldl (Y1 (o.getD i ByteArray.empty)) o).length),(6,.p (.int .i64) (i:Int)),(7,.p (.int .i64) (k.1:Int))],[(15,.arr 9 T9 ((d.take k.1).foldl (Y1 (o.getD i ByteArray.empty)) o))]⟩) (λk=>d.length-k.1) ⟨0,IS _⟩ (AC [(15,.nm 15)] rfl rfl ?_ ?_) (λk=>?_)
    ·refine eM ?_;rfl
    ·refine eM ?_;rfl
    ·obtain⟨k,hk⟩:=k;have g:=WI (o.getD i ByteArray.empty) (l:=d.take k) (o:=o) (λx v=>f6 v) q;have N:=g.1.len;have E:=λh:k<d.length=>E5 (Y1 (o.getD i ByteArray.empty)) d d0 o h;have D:((d.take k).foldl (Y1 (o.getD i ByteArray.empty)) o).getD i ByteArray.empty=o.getD i ByteArray.empty:=R3 _ z;simp only;generalize C:(d.take k).foldl (Y1 (o.getD i ByteArray.empty)) o=f at *;repeat'(first|exact trivial|refine eS rfl ?_|refine AB ?_|refine rX b ?_ ?_|refine rC ?_ ?_<;>intro a<;>try(cases a;done))
     ·have M:=g.2;refine⟨a,?_,λ_=>a⟩;dsimp only[Ty.den]at *;omega
     ·refine⟨by assumption,?_⟩;simp only[AP];dsimp only[Ty.den]at *;omega
     ·exact eV
     ·have c:k<d.length:=by exact eV
      have e:=E c;rw[D]at a;have n:Y1 (o.getD i ByteArray.empty) f (d.getD k d0)=f++[(d.getD k d0).1]:=by
       unfold Y1;rw[BY (by rw[AT,UB];exact a)]
      rw[n]at e;refine⟨⟨k+1,by omega⟩,by simp only;omega,AC [(15,.nm 15)] rfl rfl ?_ ?_⟩
      ·simp only[e];exact eN
      ·simp only[e];exact eN
     ·exact eV
     ·have c:k<d.length:=by exact eV
      have e:=E c;rw[D]at a;have n:Y1 (o.getD i ByteArray.empty) f (d.getD k d0)=f:=by
       unfold Y1;rw[An];rw[AT,UB];rintro⟨h1,w⟩;rw[a h1]at w;cases w
      rw[n]at e;refine⟨⟨k+1,by omega⟩,by simp only;omega,AC [(15,.nm 15)] rfl rfl ?_ ?_⟩
      ·simp only[e];exact eN
      ·simp only[e];exact eN
     ·exact eV
     ·have c:d.take k=d:=As (by exact eV);rw[c]at C;rw[C]at B;have I:=g.1;have O:=g.2;exact⟨⟨(i+1,f),by simp only;omega,I,B⟩,by simp only;omega,eW [(15,.nm 15)]⟩
   ·have H:o=Cn d d.length 0 [s]:=by
     rw[<-r];cases A:d.length-i with
     | zero=>rfl
     | succ m =>
      show _=if i<o.length then _ else o
      rw[An (by exact eV)]
    rw[<-H]at h1;refine AJ (ι:={j:Nat//j<=o.length}) (λj=>⟨[(0,.p FE d),(5,.sr 15 T9 0 o.length),(8,.p F1 ((o.take j.1).foldl Ea [])),(9,.p (.int .i64) (j.1:Int))],[(15,.arr 9 T9 o)]⟩) (λj=>o.length-j.1) ⟨0,IS _⟩ (AC [(15,.nm 15)] rfl rfl ?_ ?_) (λj=>?_)
    ·exact eN
    ·refine eM ?_;rfl
    ·obtain⟨j,L⟩:=j;have J:=λh:j<o.length=>E5 Ea o ByteArray.empty [] h;simp only;repeat'(first|exact trivial|refine eS rfl ?_|refine AB ?_|refine rX b ?_ ?_|refine rC ?_ ?_<;>intro a<;>try(cases a;done))
     ·refine⟨a,?_⟩;have:=ZE (o.take j);have K:=oN j o;unfold J9 at this;dsimp only[Ty.den]at *;omega
     ·exact eV
     ·have t:j<o.length:=by exact eV
      have e:=J t;refine⟨⟨j+1,by omega⟩,by simp only;omega,AC [(15,.nm 15)] rfl rfl ?_ ?_⟩
      ·exact eN
      ·simp only[e];exact eN
     ·have t:o.take j=o:=As (by exact eV);rw[t];exact fI b [.tmp 4] (by rw[h1];unfold J9;exact eR)
end
section
attribute [local go_sem] Ot b5 mT Jh
def FT (d:List AI) (o:List ByteArray) (x:ByteArray):List ByteArray:=if 0<=Au d x then Ea o x else o
def Bc (d:List AI) (l:List ByteArray):List ByteArray:=l.foldl (FT d) []
theorem Jj (d:List AI) (l:List ByteArray):(Bc d l).length<=l.length:=by
 have key:∀(l o:List ByteArray),(l.foldl (FT d) o).length<=o.length+l.length:=by
  intro l;induction l with
  | nil=>intro o;simp
  | cons x l a =>
   intro o;have h1:=a (FT d o x);have b:(FT d o x).length<=o.length+1:=by
    unfold FT;split
    ·exact MT o x
    ·omega
   simp only[OR,OS];omega
 have:=key l [];simpa[Bc] using this
def R4:Aa:={ ins:=[FE,F1],pre:=λ(_,l,_)=>List.length l<=100000,out:=λ(d,l,_)=>[.p F1 (Bc d l)] }
attribute [local go_sem] R4
theorem hC:Ab Tryz.prog 221 R4:=by
 refine fK [0,1,4,5,6,10,19] Tryz.func221 Tryz.ntmps221 (AF MQ (AF Rz AG)) ?_;rintro w0 O0 ⟨d,l,u⟩ c-f;have f:l.length<=100000:=f;simp only[R4,AL];repeat'(first|exact trivial|refine eS rfl ?_|refine rX c ?_ ?_)
 refine AJ (ι:={k:Nat//k<=l.length}) (λk=>⟨[(0,.p FE d),(1,.p F1 l),(5,.p F1 (Bc d (l.take k.1))),(6,.p (.int .i64) (k.1:Int))],[]⟩) (λk=>l.length-k.1) ⟨0,IS _⟩ (AC [] rfl rfl ?_ ?_) (λk=>?_)
 ·exact eN
 ·refine eM ?_;rfl
 ·obtain⟨k,hk⟩:=k;have hn:=Jj d (l.take k);have g:=oN k l;have hs:=λh:k<l.length=>E5 (FT d) l ByteArray.empty [] h;simp only;repeat'(first|exact trivial|refine eS rfl ?_|refine AB ?_|refine rX c ?_ ?_|refine rC ?_ ?_<;>intro b<;>try(cases b;done))
  ·exact b
  ·exact⟨by assumption,by omega⟩
  ·exact eV
  ·have a:k<l.length:=by exact eV
   have e:Bc d (l.take (k+1))=FT d (Bc d (l.take k)) (l.getD k ByteArray.empty):=hs a;unfold FT at e;rw[BY b]at e;refine⟨⟨k+1,by omega⟩,by simp only;omega,AC [] rfl rfl ?_ ?_⟩
   ·exact eN
   ·simp only[e];exact eN
  ·exact eV
  ·have a:k<l.length:=by exact eV
   have e:Bc d (l.take (k+1))=FT d (Bc d (l.take k)) (l.getD k ByteArray.empty):=hs a;unfold FT at e;rw[An (oR.2 b)]at e;refine⟨⟨k+1,by omega⟩,by simp only;omega,AC [] rfl rfl ?_ ?_⟩
   ·exact eN
   ·simp only[e];exact eN
  ·have a:l.take k=l:=As (by exact eV);rw[a];exact fI c [.tmp 4]
def wQ (d:List AI) (all:List ByteArray) (i:Nat) (k:Nat):Bool:=(k:Int)==(i:Int)||!AZ (Kz d (all.getD i ByteArray.empty)) (all.getD k ByteArray.empty)
def QU (d:List AI) (all:List ByteArray) (i n:Nat):Bool:=(List.range n).all (wQ d all i)
def QV (d:List AI) (all:List ByteArray) (n:Nat):List ByteArray:=((List.range n).filter λi=>QU d all i all.length).map λi=>all.getD i ByteArray.empty
def A4 (d:List AI) (l:List ByteArray):List ByteArray:=QV d (Bc d l) (Bc d l).length
theorem z5 (d:List AI) (all:List ByteArray) (n:Nat):QV d all (n+1)=QV d all n++if QU d all n all.length=true then [all.getD n ByteArray.empty] else []:=by
 unfold QV;rw[YF,AEq,YK]
 congr 1
 rw[dO,AEB];split<;>rfl
theorem hH (d:List AI) (all:List ByteArray) (n:Nat):(QV d all n).length<=n:=by
 unfold QV;rw[Of];exact UD (YH _ _) (by simp)
theorem mU (d:List AI) (all:List ByteArray) (i n:Nat):QU d all i (n+1)=(QU d all i n&&wQ d all i n):=by
 unfold QU;rw[YF,AED];simp
def MV:Aa:={ ins:=[FE,F1],pre:=λ(d,l,_)=>QR d/\List.length d<=256/\List.length l<=100000,out:=λ(d,l,_)=>[.p F1 (A4 d l)] }
attribute [local go_sem] MV
theorem WJ:Ab Tryz.prog 206 MV:=by
 refine fK [0,1,4,5,6,7,8,9,10,17,29,47] Tryz.func206 Tryz.ntmps206 (AF hC (AF A2K (AF Gz AG))) ?_;rintro w0 O0 ⟨d,l,u⟩ c-⟨n,f,g⟩;have f:d.length<=256:=f;have g:l.length<=100000:=g;have m:A4 d l=QV d (Bc d l) (Bc d l).length:=rfl;have o:=Jj d l;simp only[MV,AL];repeat'(first|exact trivial|refine eS rfl ?_|refine rX c ?_ ?_)
 ·exact g
 ·rw[m];generalize Bc d l=all at *;refine AJ (ι:={i:Nat//i<=all.length}) (λi=>⟨[(0,.p FE d),(5,.sr 54 T9 0 (QV d all i.1).length),(6,.p F1 all),(7,.p (.int .i64) (i.1:Int))],[(54,.arr 9 T9 (QV d all i.1))]⟩) (λi=>all.length-i.1) ⟨0,IS _⟩ (AC [(54,.nil)] rfl rfl ?_ ?_) (λi=>?_)
  ·refine eM ?_;rfl
  ·refine eM ?_;rfl
  ·obtain⟨i,hi⟩:=i;have q:=hH d all i;have b:=z5 d all i;simp only;repeat'(first|exact trivial|refine eS rfl ?_|refine rX c ?_ ?_|refine rC ?_ ?_<;>intro a<;>try(cases a;done))
   ·exact⟨a,n,f⟩
   ·have h:i<all.length:=by exact eV
    refine AJ (ι:={k:Nat//k<=all.length}) (λk=>⟨[(0,.p FE d),(5,.sr 54 T9 0 (QV d all i).length),(6,.p F1 all),(7,.p (.int .i64) (i:Int)),(8,.p F1 (Kz d (all.getD i ByteArray.empty))),(9,.p .bool (QU d all i k.1)),(10,.p (.int .i64) (k.1:Int))],[(54,.arr 9 T9 (QV d all i))]⟩) (λk=>all.length-k.1) ⟨0,IS _⟩ (AC [(54,.nm 54)] rfl rfl ?_ ?_) (λk=>?_)
    ·exact eN
    ·refine eM ?_;rfl
    ·obtain⟨k,hk⟩:=k;have j:=mU d all i k;simp only;repeat'(first|exact trivial|refine eS rfl ?_|refine AB ?_|refine rX c ?_ ?_|refine rC ?_ ?_<;>intro a<;>try(cases a;done))
     ·exact λ_=>a
     ·exact eV
     ·have e:k<all.length:=by exact eV
      refine⟨⟨k+1,by omega⟩,by simp only;omega,AC [(54,.nm 54)] rfl rfl ?_ ?_⟩
      ·exact eN
      ·simp only[j];unfold wQ;exact eN
     ·refine⟨by assumption,?_⟩;simp only[AP];omega
     ·exact eV
     ·have e:k=all.length:=by exact eV
      subst e;rw[a,BY rfl]at b;refine⟨⟨i+1,by omega⟩,by simp only;omega,AC [(54,.nm 54)] rfl rfl ?_ ?_⟩
      ·simp only[b];exact eN
      ·simp only[b];exact eN
     ·exact eV
     ·have e:k=all.length:=by exact eV
      subst e;rw[a,An (by simp),UO]at b;refine⟨⟨i+1,by omega⟩,by simp only;omega,AC [(54,.nm 54)] rfl rfl ?_ ?_⟩
      ·simp only[b];exact eN
      ·simp only[b];exact eN
   ·have h:i=all.length:=by exact eV
    subst h;refine FP [54] ?_;exact fI c [.tmp 4]
end
section
attribute [local go_sem] Kw
def z6 (b:List Int) (x:Int):List Int:=b.set (x.tdiv 64).toNat (CC .or .u64 (b.getD (x.tdiv 64).toNat 0) (Ti .u64 1 (x.tmod 64)))
def ofL (l:List Int):List Int:=l.foldl z6 (List.replicate 64 0)
def okB (x:Int):Bool:=!(decide (x<0)||decide (4095<x))
def ofF (l:List Int):List Int×Int:=if l.all okB=true then (BM (ofL l),0) else ([],2)
theorem QW (l:List Int):(ofL l).length=64:=by
 have key:∀(l b:List Int),(l.foldl z6 b).length=b.length:=by
  intro l;induction l with
  | nil=>intro b;rfl
  | cons x l a =>
   intro b;rw[OR,a];simp[z6]
 unfold ofL;rw[key];simp
def ofS:Aa:={ ins:=[Ft],pre:=λ_=>True,out:=λ(l,_)=>[.p BT (ofF l).1,.p Lr (ofF l).2] }
theorem AD0:Ab Tryz.prog 202 ofS:=by
 refine fK [0,2,3,4,5,10,24] Tryz.func202 Tryz.ntmps202 (AF NS AG) ?_;rintro w0 O0 ⟨l,u⟩ c ⟨⟨g,-⟩,-⟩ -;simp only[AP]at g;simp only[ofS,AL];repeat'(first|exact trivial|refine eS rfl ?_|refine rX c ?_ ?_)
 ·simp only[AP];omega
 ·refine AJ (ι:={k:Nat//k<=l.length/\(l.take k).all okB=true}) (λk=>⟨[(0,.p Ft l),(4,.sr 6 QO 0 (ofL (l.take k.1)).length),(5,.p (.int .i64) (k.1:Int))],[(6,.arr 186 QO (ofL (l.take k.1)))]⟩) (λk=>l.length-k.1) ⟨0,IS _,rfl⟩ (AC [(6,.nm 6)] rfl rfl ?_ ?_) (λk=>?_)
  ·refine eM ?_;rfl
  ·refine eM ?_;rfl
  ·obtain⟨k,hk,hf⟩:=k;have i:=QW (l.take k);have hs:∀h:k<l.length,ofL (l.take (k+1))=z6 (ofL (l.take k)) (l.getD k 0):=λh=>E5 z6 l 0 _ h;simp only;repeat'(first|exact trivial|refine eS rfl ?_|refine AB ?_|refine rX c ?_ ?_|refine rC ?_ ?_<;>intro a<;>try(cases a;done))
   ·exact⟨a,λ_=>a⟩
   ·have b:k<l.length:=by exact eV
    have h1:ofF l=([],2):=by
     unfold ofF;rw[An];intro h;have:=Is.1 h _ (AE l 0 b);unfold okB at this;rw[UB,iF,On,On]at this;rcases a with h|h
     ·exact this.1 h
     ·exact this.2 h
    exact fI c [.tmp 2,.tmp 3] (by rw[h1];exact eR)
   ·obtain⟨h0,h1⟩:=a;have d:Int.tdiv (l.getD k 0) 64=l.getD k 0 / 64:=oS h0;have f:Int.tmod (l.getD k 0) 64=l.getD k 0 % 64:=AEk h0;rw[d,f,i];refine⟨?_,⟨by decide,?_,?_⟩,?_,⟨by decide,?_,?_⟩,⟨?_,?_⟩,?_,⟨by decide,?_,?_⟩,⟨?_,?_⟩,?_,?_,?_⟩<;>exact eV
   ·exact eV
   ·have b:k<l.length:=by exact eV
    have e:=hs b;refine⟨⟨k+1,by omega,?_⟩,by simp only;omega,AC [(6,.nm 6)] rfl rfl ?_ ?_⟩
    ·rw[Ge l 0 _ b,hf,AFr];unfold okB;rw[UB,iF,On,On];exact⟨AAb.2 a.1,AAb.2 a.2⟩
    ·simp only[e];refine eM ?_;rfl
    ·simp only[e];refine eM ?_;rw[<-e,QW,QW]
   ·have b:l.take k=l:=As (by exact eV);rw[b]at hf ⊢;have h1:ofF l=(BM (ofL l),0):=by unfold ofF;rw[BY hf]
    have j:=QW l;refine FP [6] ?_;repeat'(first|refine eS rfl ?_|refine rX c ?_ ?_)
    ·rw[j];decide
    ·exact fI c [.tmp 2,.tmp 3] (by rw[h1];exact eR)
end
section
attribute [local go_sem] WG QP
def mV (l:List (List Int)) (b:List Int):Bool:=l.any λx=>HS x b
def A9i:Aa:={ ins:=[Tq,BT],pre:=λ_=>True,out:=λ(l,b,_)=>[.p .bool (mV l b)],lend:=true }
theorem A9j:Ab Tryz.prog 203 A9i:=by
 refine fK [0,1,4,5,9,17] Tryz.func203 Tryz.ntmps203 (AF wN AG) ?_;rintro w0 O0 ⟨l,n,u⟩ a ⟨⟨e,-⟩,-⟩ -;simp only[AP]at e;simp only[A9i,AL];repeat'(first|exact trivial|refine eS rfl ?_|refine rX a ?_ ?_)
 refine AJ (ι:={k:Nat//k<=l.length/\(l.take k).any (λx=>HS x n)=false}) (λk=>⟨[(0,.p Tq l),(1,.p BT n),(5,.p (.int .i64) (k.1:Int))],[]⟩) (λk=>l.length-k.1) ⟨0,by simp⟩ (eW []) (λk=>?_)
 ·obtain⟨k,hk,c⟩:=k;repeat'(first|exact trivial|refine eS rfl ?_|refine AB ?_|refine rX a ?_ ?_|refine rC ?_ ?_<;>intro b<;>try(cases b;done))
  ·exact eV
  ·have d:k<l.length:=by exact eV
   have h1:mV l n=true:=JB l [] _ d b;exact fI a [.tmp 4] (by rw[h1];exact eR)
  ·exact eV
  ·have d:k<l.length:=by exact eV
   refine⟨⟨k+1,by exact eV,?_⟩,by simp only;exact eV,AC [] rfl rfl ?_ ?_⟩
   ·rw[NR l [] _ d,c];exact b
   ·exact eN
   ·exact eN
  ·have hk:l.take k=l:=As (by exact eV);rw[hk]at c;have h1:mV l n=false:=c;exact fI a [.tmp 4] (by rw[h1];exact eR)
abbrev AQ:=ByteArray×List Int
abbrev c0:AQ:=(ByteArray.empty,[])
def La (l:List AQ) (i j:Int):Bool:=E4 (l.getD j.toNat c0).2 (l.getD i.toNat c0).2
def wR:Aa:={ ins:=[J7,T3,T3],pre:=λ(l,i,j,_)=>((0:Int)<=i/\i<(List.length l:Int))/\((0:Int)<=j/\j<(List.length l:Int))/\(∀x∈(l:List AQ),x.2.length<=100000),out:=λ(l,i,j,_)=>[.p .bool (La l i j)],lend:=true }
theorem wS:Ab Tryz.prog 166 wR:=by
 refine fK [0,1,2,6] Tryz.func166 Tryz.ntmps166 (AF R1 AG) ?_;rintro w0 O0 ⟨l,i,j,u⟩ a-⟨hi,b,c⟩;simp only[wR,AL];repeat'(first|exact trivial|refine eS rfl ?_|refine rX a ?_ ?_)
 ·exact⟨b,hi,c _ (AE (l:List AQ) c0 (by exact eV))⟩
 ·exact fI a [.tmp 6] (by unfold La;exact eR)
end
section
attribute [local go_sem] WG
def MW (s:ByteArray):Nat->List AQ->Int
 | _,[]=>-1
 | k,x :: l=>if AY x.1 s=true then (k:Int) else MW s (k+1) l
def BN (l:List AQ) (s:ByteArray):Int:=MW s 0 l
theorem ZG (s:ByteArray) (l:List AQ) {k:Nat} (h:k<l.length):MW s k (l.drop k)=if AY (l.getD k c0).1 s=true then (k:Int) else MW s (k+1) (l.drop (k+1)):=by
 rw[TO h];have e:l.getD k c0=l[k]:=by simp[AS,h]
 rw[e];rfl
def Um:Aa:={ ins:=[J7,T9],pre:=λ_=>True,out:=λ(l,s,_)=>[.p T3 (BN l s)],lend:=true }
theorem ZH:Ab Tryz.prog 168 Um:=by
 refine fK [0,1,4,5,9,18] Tryz.func168 Tryz.ntmps168 AG ?_;rintro w0 O0 ⟨l,s,u⟩ c ⟨⟨d,-⟩,-⟩ -;simp only[AP]at d;simp only[Um,AL];repeat'(first|exact trivial|refine eS rfl ?_|refine rX c ?_ ?_)
 refine AJ (ι:={k:Nat//k<=l.length/\MW s k (l.drop k)=BN l s}) (λk=>⟨[(0,.p J7 l),(1,.p T9 s),(5,.p (.int .i64) (k.1:Int))],[]⟩) (λk=>l.length-k.1) ⟨0,IS _,rfl⟩ (eW []) (λk=>?_)
 ·obtain⟨k,hk,hf⟩:=k;simp only;repeat'(first|exact trivial|refine eS rfl ?_|refine AB ?_|refine rX c ?_ ?_|refine rC ?_ ?_<;>intro b<;>try(cases b;done))
  ·exact b
  ·have a:k<l.length:=by exact eV
   rw[ZG s l a,BY b]at hf;exact fI c [.tmp 4] (by rw[<-hf];exact eR)
  ·exact eV
  ·have a:k<l.length:=by exact eV
   rw[ZG s l a,An (by rw[b];simp)]at hf;exact⟨⟨k+1,by omega,hf⟩,by simp only;omega,eW []⟩
  ·have a:l.drop k=[]:=By (by exact eV);rw[a]at hf;exact fI c [.tmp 4] (by rw[<-hf];first|exact eR|refine YM ?_;rfl)
end
section
attribute [local go_sem] WG Kw
def QX (s:List Int):Nat->List AQ->Int
 | _,[]=>-1
 | k,x :: l=>if HS x.2 s=true then (k:Int) else QX s (k+1) l
def HL (l:List AQ) (b:List Int):Int:=QX (BM b) 0 l
theorem WK (s:List Int) (l:List AQ) {k:Nat} (h:k<l.length):QX s k (l.drop k)=if HS (l.getD k c0).2 s=true then (k:Int) else QX s (k+1) (l.drop (k+1)):=by
 rw[TO h];have e:l.getD k c0=l[k]:=by simp[AS,h]
 rw[e];rfl
def mW:Aa:={ ins:=[J7,BT],pre:=λ(_,b,_)=>List.length b<=100000,out:=λ(l,b,_)=>[.p T3 (HL l b)],lend:=true }
theorem A2M:Ab Tryz.prog 159 mW:=by
 refine fK [0,1,4,5,6,12,21] Tryz.func159 Tryz.ntmps159 (AF NS (AF wN AG)) ?_;rintro w0 O0 ⟨l,b,u⟩ d ⟨⟨g,-⟩,-⟩ e;simp only[AP]at g;simp only[mW,AL];repeat'(first|exact trivial|refine eS rfl ?_|refine rX d ?_ ?_)
 ·exact e
 ·have f:HL l b=QX (BM b) 0 l:=rfl;rw[f];generalize BM b=s at *;refine AJ (ι:={k:Nat//k<=l.length/\QX s k (l.drop k)=QX s 0 l}) (λk=>⟨[(0,.p J7 l),(5,.p BT s),(6,.p (.int .i64) (k.1:Int))],[]⟩) (λk=>l.length-k.1) ⟨0,IS _,rfl⟩ (eW []) (λk=>?_)
  ·obtain⟨k,hk,hf⟩:=k;simp only;repeat'(first|exact trivial|refine eS rfl ?_|refine AB ?_|refine rX d ?_ ?_|refine rC ?_ ?_<;>intro c<;>try(cases c;done))
   ·exact c
   ·have a:k<l.length:=by exact eV
    rw[WK s l a,BY c]at hf;exact fI d [.tmp 4] (by rw[<-hf];exact eR)
   ·exact eV
   ·have a:k<l.length:=by exact eV
    rw[WK s l a,An (by rw[c];simp)]at hf;exact⟨⟨k+1,by omega,hf⟩,by simp only;omega,eW []⟩
   ·have a:l.drop k=[]:=By (by exact eV);rw[a]at hf;exact fI d [.tmp 4] (by rw[<-hf];first|exact eR|refine YM ?_;rfl)
end
section
attribute [local go_sem] WG
def hZ (s:ByteArray):List (ByteArray×ByteArray)->ByteArray×Bool
 | []=>(ByteArray.empty,false)
 | x :: l=>if AY x.1 s=true then (x.2,true) else hZ s l
def DI (x:AI) (s:ByteArray):ByteArray×Bool:=hZ s x.2.2
theorem ZI (s:ByteArray) (l:List (ByteArray×ByteArray)) {k:Nat} (h:k<l.length):hZ s (l.drop k)=if AY (l.getD k (ByteArray.empty,ByteArray.empty)).1 s=true then ((l.getD k (ByteArray.empty,ByteArray.empty)).2,true) else hZ s (l.drop (k+1)):=by
 rw[TO h];have e:l.getD k (ByteArray.empty,ByteArray.empty)=l[k]:=by simp[AS,h]
 rw[e];rfl
def cF:Aa:={ ins:=[zT,T9],pre:=λ_=>True,out:=λ(x,s,_)=>[.p T9 (DI x s).1,.p .bool (DI x s).2],lend:=true }
theorem iA:Ab Tryz.prog 195 cF:=by
 refine fK [0,1,2,4,5,6,11,21] Tryz.func195 Tryz.ntmps195 AG ?_;rintro w0 O0 ⟨⟨nm,sup,a⟩,s,u⟩ d ⟨⟨-,-,f,-⟩,-⟩ -;simp only[AP]at f;simp only[cF,AL];repeat'(first|exact trivial|refine eS rfl ?_|refine rX d ?_ ?_)
 have e:({ data:=#[] }:ByteArray).size<=AP:=by decide
 rw[BY e];refine AJ (ι:={k:Nat//k<=a.length/\hZ s (a.drop k)=DI (nm,sup,a) s}) (λk=>⟨[(1,.p T9 s),(2,.bp 2 [] 0),(6,.p (.int .i64) (k.1:Int))],[(2,.box 158 true [.p T9 nm,.p F1 sup,.p gN a])]⟩) (λk=>a.length-k.1) ⟨0,IS _,rfl⟩ (eW [(2,.nm 2)]) (λk=>?_)
 ·obtain⟨k,hk,hf⟩:=k;simp only;repeat'(first|exact trivial|refine eS rfl ?_|refine AB ?_|refine rX d ?_ ?_|refine rC ?_ ?_<;>intro c<;>try(cases c;done))
  ·exact c
  ·assumption
  ·have b:k<a.length:=by exact eV
   rw[ZI s a b,BY c]at hf;exact fI d [.tmp 4,.tmp 5] (by rw[<-hf];exact eR)
  ·exact eV
  ·have b:k<a.length:=by exact eV
   rw[ZI s a b,An (by rw[c];simp)]at hf;exact⟨⟨k+1,by omega,hf⟩,by simp only;omega,eW [(2,.nm 2)]⟩
  ·have b:a.drop k=[]:=By (by exact eV);rw[b]at hf;rw[BY e];exact fI d [.tmp 4,.tmp 5] (by rw[<-hf];first|exact eR|refine YM ?_;exact⟨rfl,rfl⟩)
end
section
attribute [local go_sem] mS
def GC (a b:AQ):Bool:=decide (((IA b.2).length:Int)<((IA a.2).length:Int))||((IA a.2).length:Int)==((IA b.2).length:Int)&&HR a.1 b.1
def cH:Aa:={ ins:=[b4,b4],pre:=λ(a,b,_)=>List.length (a:AQ).2<=100000/\List.length (b:AQ).2<=100000,out:=λ(a,b,_)=>[.p .bool (GC a b)],lend:=true }
theorem z7:Ab Tryz.prog 165 cH:=by
 refine fK [0,1,2,3,4,5,6] Tryz.func165 Tryz.ntmps165 (AF A2G AG) ?_;rintro w0 O0 ⟨⟨c,ac⟩,⟨e,d⟩,u⟩ a-⟨ha,b⟩;simp only[cH,AL];repeat'(first|exact trivial|refine eS rfl ?_|refine rX a ?_ ?_)
 ·exact ha
 ·exact b
 ·exact fI a [.tmp 4] (by unfold GC;exact eR)
end
section
attribute [local go_sem] cE Jh ofS
def Ow (low all:List ByteArray) (n:Nat):List Int:=((List.range n).filter λ(i:Nat)=>AZ low (all.getD i ByteArray.empty)).map λ(i:Nat)=>(i:Int)
theorem z8 (low all:List ByteArray) (n:Nat):Ow low all (n+1)=Ow low all n++if AZ low (all.getD n ByteArray.empty)=true then [(n:Int)] else []:=by
 unfold Ow;rw[YF,AEq,YK]
 congr 1
 rw[dO,AEB];split<;>rfl
theorem A2N (low all:List ByteArray) (n:Nat):(Ow low all n).length<=n:=by
 unfold Ow;rw[Of];exact UD (YH _ _) (by simp)
def Ey (d:List AI) (all:List ByteArray) (s:ByteArray):List Int:=(ofF (Ow (Co d s) all all.length)).1
def A2O:Aa:={ ins:=[FE,F1,T9],pre:=λ(d,l,_,_)=>List.length d<=256/\List.length l<=100000,out:=λ(d,l,s,_)=>[.p BT (Ey d l s)] }
theorem A6N:Ab Tryz.prog 162 A2O:=by
 refine fK [0,1,2,6,7,8,9,10,18,26] Tryz.func162 Tryz.ntmps162 (AF A2L (AF Gz (AF AD0 AG))) ?_;rintro w0 O0 ⟨d,l,s,u⟩ b-⟨g,e⟩;have e:l.length<=100000:=e;have f:Ey d l s=(ofF (Ow (Co d s) l l.length)).1:=rfl;simp only[A2O,AL];repeat'(first|exact trivial|refine eS rfl ?_|refine rX b ?_ ?_)
 ·exact g
 ·rw[f];generalize Co d s=low at *;refine AJ (ι:={n:Nat//n<=l.length}) (λn=>⟨[(0,.p FE d),(1,.p F1 l),(2,.p T9 s),(7,.p F1 low),(8,.sr 30 T3 0 (Ow low l n.1).length),(9,.p (.int .i64) (n.1:Int))],[(30,.arr 3 T3 (Ow low l n.1))]⟩) (λn=>l.length-n.1) ⟨0,IS _⟩ (AC [(30,.nil)] rfl rfl ?_ ?_) (λn=>?_)
  ·refine eM ?_;rfl
  ·refine eM ?_;rfl
  ·obtain⟨n,hn⟩:=n;have h:=A2N low l n;have hs:=z8 low l n;simp only;repeat'(first|exact trivial|refine eS rfl ?_|refine AB ?_|refine rX b ?_ ?_|refine rC ?_ ?_<;>intro a<;>try(cases a;done))
   ·exact a
   ·rw[a,BY rfl]at hs;simp only[AP];dsimp only[Ty.den]at *;omega
   ·exact eV
   ·have c:n<l.length:=by exact eV
    rw[a,BY rfl]at hs;refine⟨⟨n+1,by omega⟩,by simp only;omega,AC [(30,.nm 30)] rfl rfl ?_ ?_⟩
    ·simp only[hs];exact eN
    ·simp only[hs];exact eN
   ·exact eV
   ·have c:n<l.length:=by exact eV
    rw[a,An (by simp),UO]at hs;refine⟨⟨n+1,by omega⟩,by simp only;omega,AC [(30,.nm 30)] rfl rfl ?_ ?_⟩
    ·simp only[hs];exact eN
    ·simp only[hs];exact eN
   ·have c:n=l.length:=by exact eV
    subst c;refine FP [30] ?_;repeat'(first|exact trivial|refine eS rfl ?_|refine rX b ?_ ?_)
    exact fI b [.tmp 6]
end
section
attribute [local go_sem] b5
def QY (o:List ByteArray) (f:ByteArray×ByteArray):List ByteArray:=Ea o f.1
def R5 (o:List ByteArray) (x:AI):List ByteArray:=x.2.2.foldl QY o
def BO (d:List AI):List ByteArray:=d.foldl R5 []
theorem ZJ (l:List (ByteArray×ByteArray)):∀o:List ByteArray,(l.foldl QY o).length<=o.length+l.length:=by
 induction l with
 | nil=>intro o;simp
 | cons x l a =>
  intro o;have h1:=a (QY o x);have b:(QY o x).length<=o.length+1:=MT o x.1;simp only[OR,OS];omega
theorem mX {d:List AI} (h:∀x∈d,x.2.2.length<=256):∀(l:List AI),(∀x∈l,x∈d)->∀o:List ByteArray,(l.foldl R5 o).length<=o.length+256*l.length:=by
 intro l;induction l with
 | nil=>intro _ o;simp
 | cons x l c =>
  intro a o;have h1:=c (λy b=>a y (by simp[b])) (R5 o x);have e:=ZJ x.2.2 o;have f:=h x (a x (by simp));have g:(R5 o x).length=(x.2.2.foldl QY o).length:=rfl;simp only[OR,OS];omega
def WL:Aa:={ ins:=[FE],pre:=λ(d,_)=>List.length d<=256/\(∀x∈(d:List AI),x.2.2.length<=256),out:=λ(d,_)=>[.p F1 (BO d)] }
theorem WM:Ab Tryz.prog 157 WL:=by
 refine fK [0,2,3,4,5,9,19] Tryz.func157 Tryz.ntmps157 (AF Rz AG) ?_;rintro w0 O0 ⟨d,u⟩ c-⟨f,m⟩;have f:d.length<=256:=f;simp only[WL,AL];repeat'(first|exact trivial|refine eS rfl ?_|refine rX c ?_ ?_)
 refine AJ (ι:={i:Nat//i<=d.length}) (λi=>⟨[(0,.p FE d),(3,.p F1 (BO (d.take i.1))),(4,.p (.int .i64) (i.1:Int))],[]⟩) (λi=>d.length-i.1) ⟨0,IS _⟩ (AC [] rfl rfl ?_ ?_) (λi=>?_)
 ·exact eN
 ·refine eM ?_;rfl
 ·obtain⟨i,hi⟩:=i;have l:=mX m (d.take i) (λx h=>f6 h) [];have t:=oN i d;have hs:=λh:i<d.length=>E5 R5 d d0 [] h;have g:∀e,BO e=e.foldl R5 []:=λ_=>rfl;simp only;repeat'(first|exact trivial|refine eS rfl ?_|refine rX c ?_ ?_|refine rC ?_ ?_<;>intro a<;>try(cases a;done))
  ·have j:i<d.length:=by exact eV
   have v:=m _ (AE d d0 j);have hs:=hs j;rw[<-g,<-g]at hs;rw[<-g]at l;generalize BO (d.take i)=o at *;refine AJ (ι:={k:Nat//k<=(d.getD i d0).2.2.length}) (λk=>⟨[(0,.p FE d),(3,.p F1 (((d.getD i d0).2.2.take k.1).foldl QY o)),(4,.p (.int .i64) (i:Int)),(5,.p (.int .i64) (k.1:Int))],[]⟩) (λk=>(d.getD i d0).2.2.length-k.1) ⟨0,IS _⟩ (AC [] rfl rfl ?_ ?_) (λk=>?_)
   ·exact eN
   ·refine eM ?_;rfl
   ·obtain⟨k,hk⟩:=k;have r:k<=(d.getD i d0).2.2.length:=hk;have q:=ZJ ((d.getD i d0).2.2.take k) o;have s:=oN k (d.getD i d0).2.2;have n:=λh:k<(d.getD i d0).2.2.length=>E5 QY (d.getD i d0).2.2 (ByteArray.empty,ByteArray.empty) o h;simp only;repeat'(first|refine eS rfl ?_|refine AB ?_|refine rX c ?_ ?_|refine rC ?_ ?_<;>intro a<;>try(cases a;done))
    ·assumption
    ·refine⟨by assumption,a,?_⟩;simp only[ADw]at l;dsimp only[Ty.den]at *;omega
    ·have h1:(k:Int)<((d.getD i d0).2.2.length:Int):=a;exact eV
    ·have b:k<(d.getD i d0).2.2.length:=IN.1 a;have e:=n b;refine⟨⟨k+1,b⟩,by simp only;omega,AC [] rfl rfl ?_ ?_⟩
     ·exact eN
     ·simp only[e];unfold QY;exact eN
    ·have:=f;exact eV
    ·have b:(d.getD i d0).2.2.take k=(d.getD i d0).2.2:=As (UA.1 a);have e:BO (d.take (i+1))=((d.getD i d0).2.2.take k).foldl QY o:=by rw[b];exact hs
     refine⟨⟨i+1,j⟩,by simp only;omega,AC [] rfl rfl ?_ ?_⟩
     ·exact eN
     ·simp only[e];exact eN
  ·have b:d.take i=d:=As (by exact eV);rw[b];exact fI c [.tmp 2]
end
theorem ZK {d:List AI} {l:List ByteArray}:∀ {r:List ByteArray} {k:Nat},Tt d l k r=0->∀s∈r,0<=Au d s
 | [],_,_,s,hs=>by cases hs
 | x :: r,k,h,s,hs=>by
  simp only[Tt]at h;split at h
  ·cases h
  ·rename_i h1;split at h
   ·cases h
   ·rcases DO.1 hs with rfl|hs
    ·omega
    ·exact ZK h s hs
theorem QZ {d:List AI}:∀ {l:List AI},Kx d l=0->∀x∈l,∀s∈x.2.1,0<=Au d s
 | [],_,x,a=>by cases a
 | y :: l,h,x,a=>by
  simp only[Kx]at h;split at h
  ·rename_i h1;exact absurd h h1
  ·rename_i h1;rcases DO.1 a with rfl|a
   ·exact ZK (Do h1)
   ·exact QZ h x a
theorem A2P {d:List AI} (h:Ky d=0):QR d:=QZ h
theorem A1 {d:List AI} (h:A7 d=0):QR d/\d.length<=256/\ID d=1/\Cm d=0/\d.length<=(Bk d).length:=by
 unfold A7 at h;split at h
 ·rename_i h1;exact absurd h h1
 ·rename_i h1;split at h
  ·rename_i a;exact absurd h a
  ·rename_i a;split at h
   ·rename_i b;exact absurd h b
   ·rename_i b;split at h
    ·cases h
    ·rename_i c;split at h
     ·cases h
     ·rename_i e;exact⟨A2P (Do b),TD (Do h1),Do c,Do a,by omega⟩
section
attribute [local go_sem] A9i A2C
def Gf (l:List (List Int)) (i k:Nat):List (List Int) :=
 if (decide (0<((Ej (l.getD i []) (l.getD k [])).length:Int))&&!mV l (Ej (l.getD i []) (l.getD k [])))=true then l++[Ej (l.getD i []) (l.getD k [])] else l
def Gg (i:Nat):Nat->Nat->List (List Int)->List (List Int)
 | 0,_,l=>l
 | n+1,k,l=>if l.length<=256 then Gg i n (k+1) (Gf l i k) else l
def IG:Nat->Nat->List (List Int)->List (List Int)
 | 0,_,l=>l
 | n+1,i,l=>if i<l.length/\l.length<=256 then IG n (i+1) (Gg i i 0 l) else l
def Ay (c:List (List Int)):List (List Int):=IG 257 0 c
theorem iB (a b:List Int):(Ej a b).length<=a.length:=by
 unfold Ej BM;have:=Ex .and a b a.length;rw[ON];omega
structure A8v (l:List (List Int)):Prop where
 len:l.length<=257
 wid:∀c∈l,c.length<=64
theorem MX {l:List (List Int)} (h:∀c∈l,c.length<=64) (k:Nat):(l.getD k []).length<=64:=by
 rw[AS];cases hh:l[k]? with
 | none=>simp
 | some x=>exact h x (gO hh)
theorem iC {l:List (List Int)} (h:∀c∈l,c.length<=64) (i k:Nat):∀c∈Gf l i k,c.length<=64:=by
 unfold Gf;split
 ·intro c a;rcases No.1 a with a|a
  ·exact h c a
  ·have:c=Ej (l.getD i []) (l.getD k []):=by simpa using a
   rw[this];exact UD (iB _ _) (MX h i)
 ·exact h
theorem A2Q (l:List (List Int)) (i k:Nat):l.length<=(Gf l i k).length/\(Gf l i k).length<=l.length+1:=by
 unfold Gf;split
 ·simp
 ·exact⟨NO _,Nat.le_succ _⟩
def cI:Aa:={ ins:=[Tq],pre:=λ(c,_)=>List.length c<=256/\∀x∈(c:List (List Int)),x.length<=64,out:=λ(c,_)=>[.p Tq (Ay c)] }
theorem z9:Ab Tryz.prog 163 cI:=by
 refine fK [0,2,3,4,5,6,18,28,48] Tryz.func163 Tryz.ntmps163 (AF A2D (AF A9j AG)) ?_;rintro w0 O0 ⟨c,u⟩ d-⟨n,t⟩;have n:c.length<=256:=n;simp only[cI,AL];repeat'(first|exact trivial|refine eS rfl ?_|refine rX d ?_ ?_)
 ·simp only[AP];dsimp only[Ty.den]at *;omega
 ·refine AJ (ι:={x:Nat×List (List Int)//x.1<=256/\A8v x.2/\IG (257-x.1) x.1 x.2=Ay c}) (λx=>⟨[(3,.sr 7 BT 0 x.1.2.length),(4,.p (.int .i64) (x.1.1:Int))],[(7,.arr 140 BT x.1.2)]⟩) (λx=>257-x.1.1) ⟨(0,c),by simp,⟨by simp only;omega,t⟩,rfl⟩ (eW [(7,.nm 7)]) (λx=>?_)
  ·obtain⟨⟨i,l⟩,hi,⟨q,s⟩,f⟩:=x;simp only at hi q s f;simp only;repeat'(first|exact trivial|refine eS rfl ?_|refine rX d ?_ ?_|refine rC ?_ ?_<;>intro a<;>try(cases a;done))
   ·have w:i<l.length:=by omega
    have z:l.length<=256:=by omega
    have o:IG (256-i) (i+1) (Gg i i 0 l)=Ay c:=by
     have e:257-i=(256-i)+1:=by omega
     rw[<-f,e];show _=if i<l.length/\l.length<=256 then IG (256-i) (i+1) (Gg i i 0 l) else l
     rw[BY ⟨w,z⟩]
    refine AJ (ι:={y:Nat×List (List Int)//y.1<=i/\A8v y.2/\l.length<=y.2.length/\Gg i (i-y.1) y.1 y.2=Gg i i 0 l}) (λy=>⟨[(3,.sr 7 BT 0 y.1.2.length),(4,.p (.int .i64) (i:Int)),(5,.p (.int .i64) (y.1.1:Int))],[(7,.arr 140 BT y.1.2)]⟩) (λy=>i-y.1.1) ⟨(0,l),by simp,⟨q,s⟩,NO _,rfl⟩ (eW [(7,.nm 7)]) (λy=>?_)
    ·obtain⟨⟨k,m⟩,hk,⟨g,b⟩,r,hf⟩:=y;simp only at hk g b r hf;simp only;repeat'(first|exact trivial|refine eS rfl ?_|refine AB ?_|refine rX d ?_ ?_|refine rC ?_ ?_<;>intro a<;>try(cases a;done))
     ·exact⟨by exact eV,by exact eV,UD (MX b i) (by decide)⟩
     ·simp only[AP];omega
     ·omega
     ·have e:Gf m i k=m++[Ej (m.getD i []) (m.getD k [])]:=by
       unfold Gf;rw[BY];rw[AT,Fe,UB];exact a
      have C:=iC b i k;have D:=A2Q m i k;refine⟨⟨(k+1,Gf m i k),by simp only;omega,⟨by simp only;omega,C⟩,by simp only;omega,?_⟩,by simp only;omega,AC [(7,.nm 7)] rfl rfl ?_ ?_⟩
      ·simp only;rw[<-hf,show i-k=(i-(k+1))+1 by omega];show _=if m.length<=256 then Gg i (i-(k+1)) (k+1) (Gf m i k) else m
       rw[BY (by omega)]
      ·simp only[e];exact eN
      ·simp only[e];exact eN
     ·omega
     ·have e:Gf m i k=m:=by
       unfold Gf;rw[An];rw[AT,Fe,UB];intro h;rw[a h.1]at h;exact absurd h.2 (by simp)
      refine⟨⟨(k+1,m),by simp only;omega,⟨g,b⟩,r,?_⟩,by simp only;omega,AC [(7,.nm 7)] rfl rfl ?_ ?_⟩
      ·simp only;rw[<-hf,show i-k=(i-(k+1))+1 by omega];show _=if m.length<=256 then Gg i (i-(k+1)) (k+1) (Gf m i k) else m
       rw[BY (by omega),e]
      ·exact eN
      ·exact eN
     ·omega
     ·have B:m=Gg i i 0 l:=by
       rw[<-hf];cases A:i-k with
       | zero=>rfl
       | succ j =>
        show _=if m.length<=256 then _ else m
        rw[An (by omega)]
      rw[<-B]at o;refine⟨⟨(i+1,m),by simp only;omega,⟨g,b⟩,?_⟩,by simp only;omega,AC [(7,.nm 7)] rfl rfl ?_ ?_⟩
      ·simp only;rw[show 257-(i+1)=256-i by omega];exact o
      ·exact eN
      ·exact eN
   ·have v:l=Ay c:=by
     rw[<-f];cases A:257-i with
     | zero=>rfl
     | succ m =>
      show _=if i<l.length/\l.length<=256 then _ else l
      rw[An (by omega)]
    rw[<-v];refine FP [7] ?_;exact fI d [.tmp 2]
theorem cs0 {α:Type} (x y:α):(if ({ data:=#[] }:ByteArray).size<=AP then x else y)=x:=BY (by show 0<=AP;decide)
theorem cs1 {α:Type} (a:UInt8) (x y:α):(if ({ data:=#[a] }:ByteArray).size<=AP then x else y)=x:=BY (by show 1<=AP;decide)
theorem cs2 {α:Type} (a b:UInt8) (x y:α):(if ({ data:=#[a,b] }:ByteArray).size<=AP then x else y)=x:=BY (by show 2<=AP;decide)
theorem cs3 {α:Type} (a b c:UInt8) (x y:α):(if ({ data:=#[a,b,c] }:ByteArray).size<=AP then x else y)=x:=BY (by show 3<=AP;decide)
theorem cs4 {α:Type} (a b c d:UInt8) (x y:α):(if ({ data:=#[a,b,c,d] }:ByteArray).size<=AP then x else y)=x:=BY (by show 4<=AP;decide)
theorem cs5 {α:Type} (a b c d e:UInt8) (x y:α):(if ({ data:=#[a,b,c,d,e] }:ByteArray).size<=AP then x else y)=x:=BY (by show 5<=AP;decide)
theorem cs6 {α:Type} (a b c d e f:UInt8) (x y:α):(if ({ data:=#[a,b,c,d,e,f] }:ByteArray).size<=AP then x else y)=x:=BY (by show 6<=AP;decide)
theorem cs7 {α:Type} (a b c d e f g:UInt8) (x y:α):(if ({ data:=#[a,b,c,d,e,f,g] }:ByteArray).size<=AP then x else y)=x:=BY (by show 7<=AP;decide)
theorem cs8 {α:Type} (a b c d e f g h:UInt8) (x y:α):(if ({ data:=#[a,b,c,d,e,f,g,h] }:ByteArray).size<=AP then x else y)=x:=BY (by show 8<=AP;decide)
end
def BF (b:List Int) (i:Nat):Bool:=(b.getD (i / 64) 0).toNat.testBit (i % 64)
def U64 (x:Int):Prop:=0<=x/\x<18446744073709551616
theorem Fu {x:Int} (h:U64 x):(BitVec.ofInt 64 x).toNat=x.toNat:=by
 rw[BitVec.toNat_ofInt];have h1:=h.1;have a:=h.2;rw[Int.emod_eq_of_lt h1 (by simpa using a)]
theorem Qa {n:Nat} (h:n<18446744073709551616):IntKind.u64.wrap (n:Int)=n:=Ki (by rw[Iz];omega)
theorem A6O {x y:Int} (a:U64 x) (b:U64 y):CC .or .u64 x y=((x.toNat ||| y.toNat:Nat):Int):=by
 have h1:(BitVec.ofInt IntKind.u64.bits x ||| BitVec.ofInt IntKind.u64.bits y).toNat=x.toNat ||| y.toNat:=by
  rw[BitVec.toNat_or];show (BitVec.ofInt 64 x).toNat ||| (BitVec.ofInt 64 y).toNat=_
  rw[Fu a,Fu b]
 unfold CC;simp only;rw[h1];have e:(18446744073709551616:Nat)=2 ^ 64:=by decide
 refine Qa ?_;rw[e];refine Nat.or_lt_two_pow ?_ ?_
 ·have:=a.2;have:=a.1;omega
 ·have:=b.2;have:=b.1;omega
theorem II {x y:Int} (a:U64 x) (b:U64 y):CC .and .u64 x y=((x.toNat &&& y.toNat:Nat):Int):=by
 have h1:(BitVec.ofInt IntKind.u64.bits x &&& BitVec.ofInt IntKind.u64.bits y).toNat=x.toNat &&& y.toNat:=by
  rw[BitVec.toNat_and];show (BitVec.ofInt 64 x).toNat &&& (BitVec.ofInt 64 y).toNat=_;rw[Fu a,Fu b]
 unfold CC;simp only;rw[h1];refine Qa (AFc AF9 ?_);have:=a.2;have:=a.1;omega
theorem R6 {x y:Int}:CC .andNot .u64 x y=((BitVec.ofInt 64 x &&& ~~~BitVec.ofInt 64 y).toNat:Int):=by
 show IntKind.u64.wrap ((BitVec.ofInt 64 x &&& ~~~BitVec.ofInt 64 y).toNat:Int)=_;exact Qa (BitVec.isLt _)
theorem TE {x y:Int} (d:U64 x) (e:U64 y) (h:CC .andNot .u64 x y=0) {r:Nat} (c:r<64) (b:x.toNat.testBit r=true):y.toNat.testBit r=true:=by
 rw[R6]at h;have h1:(BitVec.ofInt 64 x &&& ~~~BitVec.ofInt 64 y).toNat=0:=by omega
 have a:(BitVec.ofInt 64 x &&& ~~~BitVec.ofInt 64 y).toNat.testBit r=false:=by rw[h1];exact Nat.zero_testBit r
 rw[AEw,BitVec.getLsbD_and,BitVec.getLsbD_not,<-AEw,<-AEw,Fu d,Fu e,b]at a;simpa[c] using a
theorem TF {x:Int}:CC .andNot .u64 x x=0:=by
 rw[R6];simp
theorem Ox {b:List Int}:∀ {n:Nat},∀k,Cj b n<=k->k<n->b.getD k 0=0
 | 0,k,_,h=>by omega
 | n+1,k,h1,c=>by
  unfold Cj at h1;split at h1
  ·rename_i a;by_cases hk:k=n
   ·rw[hk];exact a
   ·exact Ox k h1 (by omega)
  ·omega
theorem Qb (b:List Int) (k:Nat):(BM b).getD k 0=b.getD k 0:=by
 unfold BM;by_cases h:k<Cj b b.length
 ·simp[AS,US,h]
 ·have h1:(List.take (Cj b b.length) b).getD k 0=0:=by
   rw[AS,US,An h];rfl
  rw[h1];by_cases a:k<b.length
  ·exact(Ox k (by omega) a).symm
  ·rw[AS,UJ (by omega)];rfl
theorem Oy (b:List Int) (i:Nat):BF (BM b) i=BF b i:=by unfold BF;rw[Qb]
def IJ (b:List Int):Prop:=∀x∈b,U64 x
theorem BK {b:List Int} (h:IJ b) (k:Nat):U64 (b.getD k 0):=by
 rw[AS];cases hh:b[k]? with
 | none=>exact⟨by simp,by simp⟩
 | some x=>exact h x (gO hh)
theorem Oz {b:List Int} (h:IJ b):IJ (BM b):=λx a=>h x (f6 a)
theorem Hh (b:List Int) (k:Nat):GR b (k:Int)=b.getD k 0:=by
 unfold GR;split
 ·simp
 ·rename_i h;rw[AS,UJ (by omega)];rfl
theorem NT (op:BinOp) (a b:List Int) {n k:Nat} (h:k<n):(Gd op a b n).getD k 0=CC op .u64 (a.getD k 0) (b.getD k 0):=by
 unfold Gd;rw[AS,iS,AE5 h];show CC op .u64 (a.getD k 0) (GR b (k:Int))=_;rw[Hh]
theorem cJ {a b:List Int} (h:E4 a b=true) {k:Nat} (hk:k<a.length):CC .andNot .u64 (a.getD k 0) (b.getD k 0)=0:=by
 unfold E4 R0 BM at h;have h1:(List.take (Cj (Gd .andNot a b a.length) (Gd .andNot a b a.length).length) (Gd .andNot a b a.length)).length=0:=by
  have:=YD.1 h;omega
 rw[ON,Ex]at h1;have d:=WF (Gd .andNot a b a.length) a.length;have c:=Ox (b:=Gd .andNot a b a.length) (n:=a.length) k (by omega) hk;rw[NT _ _ _ hk]at c;exact c
theorem MY {a b:List Int} (ha:IJ a) (c:IJ b) (h:E4 a b=true) {i:Nat} (hi:BF a i=true):BF b i=true:=by
 by_cases hk:i / 64<a.length
 ·exact TE (BK ha _) (BK c _) (cJ h hk) (AFA _ (by decide)) hi
 ·exfalso;unfold BF at hi;rw[AS,UJ (by omega)]at hi;simp at hi
theorem R7 {b:List Int}:∀ {n:Nat},(∀k,k<n->b.getD k 0=0)->Cj b n=0
 | 0,_=>rfl
 | n+1,h=>by
  unfold Cj;rw[BY (h n (by omega))];exact R7 λk hk=>h k (by omega)
theorem iD (a:List Int):E4 a a=true:=by
 unfold E4 R0 BM;have h1:Cj (Gd .andNot a a a.length) (Gd .andNot a a a.length).length=0:=by
  rw[Ex];exact R7 λk hk=>by rw[NT _ _ _ hk];exact TF
 rw[h1];rfl
theorem iE (a:List Int):DT a a=true:=by unfold DT;rw[iD];rfl
theorem A6P {b:List Int} (j:IJ b) (l:b.length=64) {x:Int} (h0:0<=x) (h1:x<=4095) (i:Nat):BF (z6 b x) i=(BF b i||decide (x=(i:Int))):=by
 have d:Int.tdiv x 64=x / 64:=oS h0;have e:Int.tmod x 64=x % 64:=AEk h0;obtain⟨n,rfl⟩:∃n:Nat,x=(n:Int):=⟨x.toNat,by omega⟩;have hs:Ti .u64 1 ((n:Int) % 64)=((2 ^ (n % 64):Nat):Int):=by
  unfold Ti;have f:min ((n:Int) % 64).toNat IntKind.u64.bits=n % 64:=by
   have:((n:Int) % 64).toNat=n % 64:=by omega
   rw[this];have:IntKind.u64.bits=64:=rfl;omega
  rw[f,Int.one_mul];have:(2:Int) ^ (n % 64)=((2 ^ (n % 64):Nat):Int):=by simp
  rw[this];refine Qa ?_;have a:(2:Nat) ^ (n % 64)<2 ^ 64:=Nat.pow_lt_pow_right (by decide) (AFA _ (by decide));exact a
 have hu:U64 (Ti .u64 1 ((n:Int) % 64)):=by
  rw[hs];have a:(2:Nat) ^ (n % 64)<2 ^ 64:=Nat.pow_lt_pow_right (by decide) (AFA _ (by decide));have g:(2:Nat) ^ 64=18446744073709551616:=by decide
  refine⟨oF _,?_⟩;rw[g]at a;exact IN.2 a
 have hn:((n:Int) / 64).toNat=n / 64:=by omega
 unfold z6 BF;rw[d,e,hn];by_cases c:i / 64=n / 64
 ·have k:n / 64<b.length:=by omega
  rw[c];have:(b.set (n / 64) (CC .or .u64 (b.getD (n / 64) 0) (Ti .u64 1 ((n:Int) % 64)))).getD (n / 64) 0=CC .or .u64 (b.getD (n / 64) 0) (Ti .u64 1 ((n:Int) % 64)):=by
   simp[AS,k]
  rw[this,A6O (BK j _) hu,hs];simp only[UG,Nat.testBit_or,Nat.testBit_two_pow]
  congr 1
  rw[decide_eq_decide];omega
 ·have:(b.set (n / 64) (CC .or .u64 (b.getD (n / 64) 0) (Ti .u64 1 ((n:Int) % 64)))).getD (i / 64) 0=b.getD (i / 64) 0:=by
   simp[AS,ADz,Ne.symm c]
  rw[this];have:decide ((n:Int)=(i:Int))=false:=by
   rw[On];intro h;exact c (by omega)
  rw[this,Bool.or_false]
theorem A6Q {b:List Int} (c:IJ b) (x:Int):IJ (z6 b x):=by
 intro y a;unfold z6 at a;rcases AE6 a with h|h
 ·exact c y h
 ·rw[h];have:=M9 .u64 ((BitVec.ofInt IntKind.u64.bits (b.getD (x.tdiv 64).toNat 0) ||| BitVec.ofInt IntKind.u64.bits (Ti .u64 1 (x.tmod 64))).toNat:Int);rw[Iz]at this;exact⟨this.1,by have:=this.2;show _<_;exact AFk this (by decide)⟩
theorem A6R {l:List Int} (h:l.all okB=true) (i:Nat):BF (ofL l) i=decide ((i:Int)∈l)/\IJ (ofL l):=by
 have key:∀(l b:List Int),l.all okB=true->IJ b->b.length=64->BF (l.foldl z6 b) i=(BF b i||decide ((i:Int)∈l))/\IJ (l.foldl z6 b):=by
  intro l;induction l with
  | nil=>intro b _ a _;simp[a]
  | cons x l m =>
   intro b c a d;rw[AE7,AT]at c;have e:=c.1;unfold okB at e;rw[UB,iF,On,On]at e;obtain⟨f,g⟩:=m (z6 b x) c.2 (A6Q a x) (by simp[z6,d]);rw[OR];refine⟨?_,g⟩;rw[f,A6P a d (by omega) (by omega),Bool.or_assoc]
   congr 1
   rw[<-Bool.decide_or,decide_eq_decide,DO,eq_comm]
 have j:IJ (List.replicate 64 (0:Int)):=by
  intro y k;rw[(List.mem_replicate.1 k).2];exact⟨by decide,by decide⟩
 have h1:=key l (List.replicate 64 0) h j (by simp);refine⟨?_,h1.2⟩;unfold ofL;rw[h1.1];have:BF (List.replicate 64 (0:Int)) i=false:=by
  unfold BF;have:(List.replicate 64 (0:Int)).getD (i / 64) 0=0:=by
   rw[AS,AEd];split<;>rfl
  rw[this];simp
 rw[this,AFs]
theorem A2S {low all:List ByteArray} {n i:Nat}:((i:Int)∈Ow low all n)↔i<n/\AZ low (all.getD i ByteArray.empty)=true:=by
 unfold Ow;rw[IF];constructor
 ·rintro⟨j,a,e⟩;have:j=i:=by omega
  subst this;rw[ADv,UM]at a;exact a
 ·rintro⟨h1,b⟩;exact⟨i,by rw[ADv,UM];exact⟨h1,b⟩,rfl⟩
theorem A6S {low all:List ByteArray} {n:Nat} (hn:n<=4096):(Ow low all n).all okB=true:=by
 rw[Is];intro x a;unfold Ow at a;obtain⟨j,b,rfl⟩:=IF.1 a;rw[ADv,UM]at b;unfold okB;rw[UB,iF,On,On];exact⟨by omega,by omega⟩
theorem B9 {d:List AI} {all:List ByteArray} (c:all.length<=4096) (s:ByteArray) (i:Nat):(BF (Ey d all s) i=true↔i<all.length/\AZ (Co d s) (all.getD i ByteArray.empty)=true)/\IJ (Ey d all s)/\(Ey d all s).length<=64:=by
 have h1:=A6S (low:=Co d s) (all:=all) c;have b:=A6R h1 i;have a:Ey d all s=BM (ofL (Ow (Co d s) all all.length)):=by
  unfold Ey ofF;rw[BY h1]
 refine⟨?_,?_,?_⟩
 ·rw[a,Oy,b.1,Fe,A2S]
 ·rw[a];exact Oz b.2
 ·rw[a];unfold BM;have:=QW (Ow (Co d s) all all.length);rw[ON];omega
theorem JE (d:List AI) {s t:ByteArray} (h:AY s t=true):Au d s=Au d t:=by
 have key:∀(l:List AI) (k:Nat),Cu s k l=Cu t k l:=by
  intro l;induction l with
  | nil=>intro k;rfl
  | cons x l a =>
   intro k;simp only[Cu];have:AY x.1 s=AY x.1 t:=by grind [AY,BX,D8]
   rw[this,a]
 exact key d 0
theorem BD {α:Type} {l:List α} {d:α} {k:Nat} (h:k<l.length):l.getD k d∈l:=by grind
theorem CH {α:Type} {l:List α} (d:α) {x:α} (h:x∈l):∃k,k<l.length/\l.getD k d=x:=by
 obtain⟨k,hk,e⟩:=AAd.1 h;exact⟨k,hk,by rw[AS,At hk];exact e⟩
theorem JF {d:List AI}:∀ {r:List AI} {k:Nat},Ou d k r=0->∀j,j<r.length->¬Au d (r.getD j d0).1<((k+j:Nat):Int)/\Ew (r.getD j d0).1 false=true
 | [],_,_,j,a=>by simp at a
 | x :: r,k,h,j,a=>by
  simp only[Ou]at h;split at h
  ·cases h
  ·rename_i h1;split at h
   ·cases h
   ·rename_i b;cases j with
    | zero=>exact⟨b,by simpa using h1⟩
    | succ j =>
     have:=JF h j (by simpa using a);have e:k+(j+1)=k+1+j:=by omega
     rw[e];exact this
theorem Qc (s:ByteArray):∀(l:List AI) (k j:Nat),j<l.length->AY (l.getD j d0).1 s=true->Cu s k l<=((k+j:Nat):Int)
 | [],_,j,h,_=>by simp at h
 | x :: l,k,j,h,e=>by
  simp only[Cu];split
  ·omega
  ·rename_i h1;cases j with
   | zero=>exact absurd e h1
   | succ j =>
    have:=Qc s l (k+1) j (by simpa using h) e;omega
theorem MZ {d:List AI} (h:Cm d=0) {j:Nat} (b:j<d.length):Au d (d.getD j d0).1=(j:Int):=by
 have h1:=(JF h j b).1;have a:=Qc (d.getD j d0).1 d 0 j b (Cv _);rw[ADK]at h1 a;have a:Au d (d.getD j d0).1<=(j:Int):=a;omega
theorem Qd {d:List AI} (h:Cm d=0) {x y:AI} (a:x∈d) (b:y∈d) (e:AY x.1 y.1=true):x=y:=by
 obtain⟨i,hi,rfl⟩:=CH d0 a;obtain⟨j,c,rfl⟩:=CH d0 b;grind [MZ,JE]
theorem mY (d:List AI) (out:List ByteArray) (h:(IB d out).1=true):∃x∈d,x.1=(IB d out).2/\AZ out x.1=false/\Ji x out=true:=by
 have key:∀(l:List AI) (s:Bool×ByteArray),(∀x∈l,x∈d)->(s.1=true->∃x∈d,x.1=s.2/\AZ out x.1=false/\Ji x out=true)->(l.foldl (JC out) s).1=true ->
   ∃x∈d,x.1=(l.foldl (JC out) s).2/\AZ out x.1=false/\Ji x out=true:=by
  intro l;induction l with
  | nil=>intro s _ hs h;exact hs h
  | cons y l c =>
   intro s a hs h;rw[OR]at h ⊢;refine c _ (λx b=>a x (by simp[b])) (λhp=>?_) h;unfold JC at hp ⊢;split
   ·grind
   ·grind
 exact key d _ (λ_ h=>h) (λh=>by cases h) h
def PL (d:List AI) (o:List ByteArray):Prop:=∀j,j<o.length->∃x∈d,x.1=o.getD j ByteArray.empty/\AZ (o.take j) x.1=false/\Ji x (o.take j)=true
theorem PL.snoc {d:List AI} {o:List ByteArray} (h:PL d o) {x:AI} (i:x∈d) (h1:AZ o x.1=false) (f:Ji x o=true):PL d (o++[x.1]):=by
 intro j g;by_cases a:j<o.length
 ·obtain⟨y,k,b,c,e⟩:=h j a;grind
 ·grind
theorem WN {d:List AI}:∀ {n:Nat} {o:List ByteArray},PL d o->PL d (JD d n o)
 | 0,_,h=>h
 | n+1,o,h=>by
  unfold JD;split
  ·rename_i hp;obtain⟨x,b,e,h1,a⟩:=mY d o hp;rw[<-e];exact WN (h.snoc b h1 a)
  ·exact h
theorem ZL (d:List AI):PL d (Bk d):=WN λj a=>by simp at a
theorem PL.ok {d:List AI} {o:List ByteArray} (h:PL d o):cC d o:=by
 refine⟨λs hs=>?_,?_⟩
 ·obtain⟨j,a,rfl⟩:=CH ByteArray.empty hs;obtain⟨x,b,e,-⟩:=h j a;rw[<-e];exact Db b
 ·rw[UK];intro i j hi a f;obtain⟨x,b,e,h1,-⟩:=h j a;have c:=QT h1 o[i] (by rw[AEt];exact⟨i,by omega,rfl⟩);grind
theorem mZ {n:Nat} {l:List Nat} (h:l.Nodup) (c:∀j∈l,j<n) (hn:n<=l.length) {k:Nat} (hk:k<n):k∈l:=by
 refine Do λb=>?_;have:=EP n (k :: l) (aT.2 ⟨b,h⟩) (λj a=>by
  rcases DO.1 a with rfl|a
  ·exact hk
  ·exact c j a)
 simp at this;omega
theorem m5 {d:List AI} (f:d.length<=(Bk d).length) {x:AI} (h:x∈d):∃s∈Bk d,AY s x.1=true:=by
 have a:=(ZL d).ok;have h1:=K0 d a;have h0:=Db h;have l:=DU d x.1;have b:=mZ (n:=d.length) h1 (λj c=>by
  obtain⟨s,hs,rfl⟩:=IF.1 c;have h1:=a.decl s hs;rcases DU d s with g|⟨_,g,_⟩<;>omega) (by simpa using f) (k:=(Au d x.1).toNat) (by omega)
 obtain⟨s,hs,e⟩:=IF.1 b;refine⟨s,hs,?_⟩;rcases DU d s with g|⟨_,_,i⟩
 ·have:=a.decl s hs;omega
 ·grind [BX,D8]
def GS (d:List AI) (s:ByteArray):Nat:=(Bk d).findIdx λx=>AY x s
theorem IK (d:List AI) {s t:ByteArray} (h:AY s t=true):GS d s=GS d t:=by grind [GS,AY,BX,D8]
theorem LA {d:List AI} (hn:Cm d=0) (o:d.length<=(Bk d).length) {x:AI} (g:x∈d) {s:ByteArray} (hs:AZ x.2.1 s=true):GS d s<GS d x.1:=by
 obtain⟨t,q,e⟩:=m5 o g;have c:GS d x.1<(Bk d).length:=List.findIdx_lt_length_of_exists ⟨t,q,e⟩;have heq:AY ((Bk d)[GS d x.1]) x.1=true:=List.findIdx_getElem (w:=c);obtain⟨y,r,a,-,j⟩:=ZL d (GS d x.1) c;rw[AS,At c]at a;have a:y.1=(Bk d)[GS d x.1]:=a;rw[<-a]at heq;have z:=Qd hn r g heq;subst z;obtain⟨u,hu,h⟩:=UF.1 hs;have k:AZ ((Bk d).take (GS d y.1)) u=true:=Is.1 j u hu;obtain⟨v,f,ev⟩:=UF.1 k;rw[AEt]at f;obtain⟨i,hi,rfl⟩:=f;have n:i<GS d y.1:=by omega
 refine AFc ?_ n;refine Do λm=>?_;have b:=List.not_of_lt_findIdx (p:=λx=>AY x s) (xs:=Bk d) (i:=i) (by unfold GS at m;omega);have l:AY ((Bk d)[i]) s=true:=BX ev h;try simp only at b
 rw[l]at b;exact absurd b (by simp)
def YU (d:List AI) (s x:ByteArray):Prop:=AY s x=true\/GS d s<GS d x
theorem A00 {d:List AI} (hn:Cm d=0) (f:d.length<=(Bk d).length) {s c:ByteArray} (b:YU d s c) {o:List ByteArray} (e:∀x∈o,YU d s x) {x:AI} (g:x∈d):∀y∈Y1 c o x,YU d s y:=by
 intro y a;unfold Y1 at a;split at a
 ·rename_i h;rw[AT]at h;rcases No.1 a with a|a
  ·exact e y a
  ·have:y=x.1:=by simpa using a
   subst this;have h1:=LA hn f g h.1;right;rcases b with b|b
   ·rw[IK d b];exact h1
   ·omega
 ·exact e y a
theorem WO {d:List AI} (hn:Cm d=0) (e:d.length<=(Bk d).length) {s c:ByteArray} (b:YU d s c):∀ {l:List AI} {o:List ByteArray},(∀x∈l,x∈d)->(∀x∈o,YU d s x)->∀y∈l.foldl (Y1 c) o,YU d s y
 | [],_,_,a=>a
 | x :: l,o,f,a=>by
  rw[OR];exact WO hn e b (λy g=>f y (by simp[g])) (A00 hn e b a (f x (by simp)))
theorem TG {d:List AI} (hn:Cm d=0) (b:d.length<=(Bk d).length) {s:ByteArray}:∀ {n i:Nat} {o:List ByteArray},(∀x∈o,YU d s x)->∀y∈Cn d n i o,YU d s y
 | 0,_,_,a=>a
 | n+1,i,o,a=>by
  unfold Cn;split
  ·rename_i hi;exact TG hn b (WO hn b (a _ (BD hi)) (λ_ h=>h) a)
  ·exact a
theorem A2T {c:ByteArray} {o:List ByteArray} {x:AI} {y:ByteArray} (h:y∈o):y∈Y1 c o x:=by grind [Y1]
theorem NU {c:ByteArray} {y:ByteArray}:∀ {l:List AI} {o:List ByteArray},y∈o->y∈l.foldl (Y1 c) o
 | [],_,h=>h
 | x :: l,o,h=>by rw[OR];exact NU (A2T h)
theorem LB {d:List AI} {y:ByteArray}:∀ {n i:Nat} {o:List ByteArray},y∈o->y∈Cn d n i o
 | 0,_,_,h=>h
 | n+1,i,o,h=>by
  unfold Cn;split
  ·exact LB (NU h)
  ·exact h
theorem G0 {l:List ByteArray} {s x:ByteArray} (h:x∈Ea l s):x∈l\/x=s:=by grind [Ea]
theorem NV {l:List ByteArray} {s x:ByteArray} (h:x∈l):x∈Ea l s:=by
 unfold Ea;split
 ·exact h
 ·have a:x∈l.take (atF l s)\/x∈l.drop (atF l s):=No.1 (by rw[AEn];exact h);grind
theorem Qf {l:List ByteArray} {s:ByteArray}:AZ (Ea l s) s=true:=by
 unfold Ea;grind [JB,atF,AY,AZ,Cv]
theorem Fv {l:List ByteArray} {s:ByteArray} (h:s∈l):AZ l s=true:=UF.2 ⟨s,h,Cv s⟩
theorem KA {l m:List ByteArray} {s:ByteArray} (hs:∀x∈l,x∈m) (h:AZ l s=true):AZ m s=true:=by
 obtain⟨x,a,e⟩:=UF.1 h;exact UF.2 ⟨x,hs x a,e⟩
theorem WP:∀ {l o:List ByteArray} {x:ByteArray},x∈l.foldl Ea o->x∈o\/x∈l
 | [],_,_,h=>.inl h
 | y :: l,o,x,h=>by
  rw[OR]at h;rcases WP h with h|h
  ·grind [G0]
  ·grind
theorem ZM:∀ {l o:List ByteArray} {x:ByteArray},x∈o->x∈l.foldl Ea o
 | [],_,_,h=>h
 | y :: l,o,x,h=>by rw[OR];exact ZM (NV h)
theorem Qg:∀ {l o:List ByteArray} {x:ByteArray},x∈l->AZ (l.foldl Ea o) x=true
 | [],_,_,h=>by cases h
 | y :: l,o,x,h=>by
  rw[OR];rcases DO.1 h with rfl|h
  ·grind [KA,ZM,Qf]
  ·exact Qg h
theorem O2 {d:List AI} {s:ByteArray} (h:0<=Au d s):AZ (Co d s) s=true:=by
 unfold Co;rw[An (by omega)];exact Qg (LB (by simp))
theorem WQ {d:List AI} (hn:Cm d=0) (c:d.length<=(Bk d).length) {s x:ByteArray} (h:AZ (Co d s) x=true):YU d s x:=by
 obtain⟨y,a,e⟩:=UF.1 h;have b:YU d s y:=by
  unfold Co at a;split at a
  ·cases a
  ·rcases WP a with a|a
   ·cases a
   ·refine TG hn c (λz f=>?_) y a;have:z=s:=by simpa using f
    rw[this];exact .inl (Cv s)
 rcases b with b|b
 ·exact .inl (BX b e)
 ·rw[IK d e]at b;exact .inr b
theorem Dd {d:List AI} {s:ByteArray} (h:s∈AO d):∃x∈d,x.1=s:=by
 have key:∀(l:List AI) (o:List ByteArray),s∈l.foldl (λo x=>Ea o x.1) o->s∈o\/∃x∈l,x.1=s:=by
  intro l;induction l with
  | nil=>intro o h;exact .inl h
  | cons x l a =>
   intro o h;rw[OR]at h;rcases a _ h with h|⟨y,b,e⟩
   ·grind [G0]
   ·grind
 rcases key d [] h with h|h
 ·cases h
 ·exact h
theorem O3 {d:List AI} {x:AI} (h:x∈d):AZ (AO d) x.1=true:=by
 have b:∀(l:List AI) (o:List ByteArray),∀y∈o,y∈l.foldl (λo x=>Ea o x.1) o:=by
  intro l;induction l with
  | nil=>intro o y h;exact h
  | cons x l a=>intro o y h;rw[OR];exact a _ y (NV h)
 have key:∀(l:List AI) (o:List ByteArray),x∈l->AZ (l.foldl (λo x=>Ea o x.1) o) x.1=true:=by
  intro l;induction l with
  | nil=>intro o h;cases h
  | cons y l a =>
   intro o h;rw[OR];rcases DO.1 h with rfl|h
   ·grind [KA,Qf]
   ·exact a _ h
 exact key d [] h
theorem iG {d:List AI} (hn:Cm d=0) (g:d.length<=(Bk d).length) (r:d.length<=256) {i j:Nat} (hi:i<(AO d).length) (f:j<(AO d).length)
  (h:DT (Ey d (AO d) ((AO d).getD i ByteArray.empty)) (Ey d (AO d) ((AO d).getD j ByteArray.empty))=true):AY ((AO d).getD i ByteArray.empty) ((AO d).getD j ByteArray.empty)=true:=by
 have o:=D7 d d.length;rw[UE]at o;have a:(AO d).length<=4096:=by omega
 generalize hs:(AO d).getD i ByteArray.empty=s at *;generalize b:(AO d).getD j ByteArray.empty=t at *;have p:0<=Au d s:=by
  obtain⟨x,c,e⟩:=Dd (s:=s) (by rw[<-hs];exact BD hi);rw[<-e];exact Db c
 have q:0<=Au d t:=by
  obtain⟨x,c,e⟩:=Dd (s:=t) (by rw[<-b];exact BD f);rw[<-e];exact Db c
 obtain⟨c1,k,-⟩:=B9 (d:=d) a s i;obtain⟨c2,l,-⟩:=B9 (d:=d) a t i;obtain⟨m,-,-⟩:=B9 (d:=d) a s j;obtain⟨n,-,-⟩:=B9 (d:=d) a t j;unfold DT at h;rw[AT]at h;have b1:=WQ hn g (c2.1 (MY k l h.1 (c1.2 ⟨hi,by rw[hs];exact O2 p⟩))).2;have b2:=WQ hn g (m.1 (MY l k h.2 (n.2 ⟨f,by rw[b];exact O2 q⟩))).2;rw[hs]at b1;rw[b]at b2;rcases b1 with b1|b1
 ·exact D8 b1
 ·rcases b2 with b2|b2
  ·exact b2
  ·omega
section
attribute [local go_sem] b6 A2A MV cs0 cs1
def wT (d:List AI) (all:List ByteArray) (codes:List (List Int)) (b:List Int):Nat->Nat->List ByteArray->ByteArray ⊕ List ByteArray
 | 0,_,l=>.inr l
 | n+1,i,l=>if DT (codes.getD i []) b=true then .inl (all.getD i ByteArray.empty) else wT d all codes b n (i+1) (if Ts b (i:Int)=true then l++[all.getD i ByteArray.empty] else l)
def ZN (l:List ByteArray) (s:ByteArray) (i:Nat):ByteArray:=(if 0<(i:Int) then s++ByteArray.mk #[38] else s)++l.getD i ByteArray.empty
def iH (l:List ByteArray):ByteArray:=(List.range l.length).foldl (ZN l) ByteArray.empty
def G2 (d:List AI) (all:List ByteArray) (codes:List (List Int)) (b:List Int):ByteArray :=
 match wT d all codes b all.length 0 [] with
 | .inl s=>s
 | .inr l=>iH (A4 d l)
theorem OE {d:List AI} {x:ByteArray}:∀ {l o:List ByteArray},x∈l.foldl (FT d) o->x∈o\/x∈l
 | [],_,h=>.inl h
 | y :: l,o,h=>by
  rw[OR]at h;rcases OE h with h|h
  ·unfold FT at h;split at h
   ·rcases G0 h with h|h
    ·exact .inl h
    ·exact .inr (by simp[h])
   ·exact .inl h
  ·exact .inr (by simp[h])
theorem HZ {d:List AI} {l:List ByteArray} {x:ByteArray} (h:x∈A4 d l):x∈l:=by
 unfold A4 QV at h;obtain⟨i,hi,rfl⟩:=IF.1 h;rw[ADv,UM]at hi;rcases OE (BD (d:=ByteArray.empty) hi.1) with h|h
 ·cases h
 ·exact h
theorem cK (d:List AI) (l:List ByteArray):(A4 d l).length<=l.length:=UD (hH _ _ _) (Jj d l)
theorem m6 {l:List ByteArray} (h:∀s∈l,s.size<=32) (k:Nat):(l.getD k ByteArray.empty).size<=32:=by
 rw[AS];cases hh:l[k]? with
 | none=>simp
 | some x=>exact h x (gO hh)
def Qh (l:List ByteArray) (n:Nat):ByteArray:=(List.range n).foldl (ZN l) ByteArray.empty
theorem O4 (l:List ByteArray) (n:Nat):Qh l (n+1)=ZN l (Qh l n) n:=by
 unfold Qh;rw[YF,AEx];rfl
theorem WR {l:List ByteArray} (h:∀s∈l,s.size<=32):∀n,(Qh l n).size<=33*n
 | 0=>by simp[Qh]
 | n+1=>by
  have h1:=WR h n;have a:=m6 h n;rw[O4];unfold ZN;split
  ·rw[AEs,AEs];have:(ByteArray.mk #[38]).size=1:=rfl;omega
  ·rw[AEs];omega
def cL:Aa:={ ins:=[FE,F1,Tq,BT],pre:=λ(d,all,codes,b,_)=>QR d/\List.length d<=256/\List.length all<=256/\List.length codes=List.length all/\(∀s∈(all:List ByteArray),s.size<=32)/\(∀x∈(codes:List (List Int)),x.length<=64)/\List.length b<=64,out:=λ(d,all,codes,b,_)=>[.p T9 (G2 d all codes b)] }
theorem A01:Ab Tryz.prog 164 cL:=by
 refine fK [0,1,2,3,8,9,10,11,12,16,24,31,45,49] Tryz.func164 Tryz.ntmps164 (AF zY (AF A2B (AF WJ AG))) ?_;rintro w0 O0 ⟨d,all,codes,b,u⟩ e-⟨hs,z,t,q,C,y,w⟩;have t:all.length<=256:=t;have q:codes.length=all.length:=q;simp only[cL,AL];repeat'(first|exact trivial|refine eS rfl ?_|refine rX e ?_ ?_)
 refine AJ (ι:={x:Nat×List ByteArray//x.1<=all.length/\x.2.length<=x.1/\(∀s∈x.2,s.size<=32)/\wT d all codes b (all.length-x.1) x.1 x.2=wT d all codes b all.length 0 []}) (λx=>⟨[(0,.p FE d),(1,.p F1 all),(2,.p Tq codes),(3,.p BT b),(9,.sr 38 T9 0 x.1.2.length),(10,.p (.int .i64) (x.1.1:Int))],[(38,.arr 9 T9 x.1.2)]⟩) (λx=>all.length-x.1.1) ⟨(0,[]),by simp,by simp,by simp,rfl⟩ (eW [(38,.nil)]) (λx=>?_)
 ·obtain⟨⟨i,l⟩,hi,B,o,f⟩:=x;simp only at hi B o f;have r:i<all.length->wT d all codes b (all.length-i) i l=if DT (codes.getD i []) b=true then .inl (all.getD i ByteArray.empty) else wT d all codes b (all.length-(i+1)) (i+1) (if Ts b (i:Int)=true then l++[all.getD i ByteArray.empty] else l):=by
   intro h;rw[show all.length-i=(all.length-(i+1))+1 by omega];rfl
  simp only;repeat'(first|exact trivial|refine eS rfl ?_|refine AB ?_|refine rX e ?_ ?_|refine rC ?_ ?_<;>intro a<;>try(cases a;done))
  ·exact⟨by rw[q];exact a,UD (MX y i) (by decide),UD w (by decide)⟩
  ·assumption
  ·have c:i<all.length:=by exact eV
   have j:G2 d all codes b=all.getD i ByteArray.empty:=by
    unfold G2;rw[<-f,r c,BY a]
   exact fI e [.tmp 8] (by rw[j];exact eR)
  ·have c:i<all.length:=by exact eV
   exact⟨IN.2 c,by simp only[AP];omega⟩
  ·exact eV
  ·have c:i<all.length:=by exact eV
   have hn:=r c;rw[An (by rw[‹DT _ _=false›];simp),BY a]at hn;refine⟨⟨(i+1,l++[all.getD i ByteArray.empty]),by simp only;omega,by simp only[GO,To];omega,?_,hn.symm.trans f⟩,by simp only;omega,AC [(38,.nm 38)] rfl rfl ?_ ?_⟩
   ·intro s hs;rcases No.1 hs with hs|hs
    ·exact o s hs
    ·have:s=all.getD i ByteArray.empty:=by simpa using hs
     rw[this];exact m6 C i
   ·exact eN
   ·exact eN
  ·exact eV
  ·have c:i<all.length:=by exact eV
   have hn:=r c;rw[An (by rw[‹DT _ _=false›];simp),An (by rw[a];simp)]at hn;exact⟨⟨(i+1,l),by simp only;omega,by simp only;omega,o,hn.symm.trans f⟩,by simp only;omega,eW [(38,.nm 38)]⟩
  ·have j:G2 d all codes b=iH (A4 d l):=by
    unfold G2;rw[<-f];have:all.length-i=0:=by exact eV
    rw[this];rfl
   refine FP [38] ?_;repeat'(first|exact trivial|refine eS rfl ?_|refine rX e ?_ ?_)
   ·exact⟨hs,z,by omega⟩
   ·have v:∀s∈A4 d l,s.size<=32:=λs h=>o s (HZ h);have E:=cK d l;have A:iH (A4 d l)=Qh (A4 d l) (A4 d l).length:=rfl;rw[A]at j;generalize A4 d l=m at *;refine AJ (ι:={k:Nat//k<=m.length}) (λk=>⟨[(9,.p F1 m),(11,.p T9 (Qh m k.1)),(12,.p (.int .i64) (k.1:Int))],[]⟩) (λk=>m.length-k.1) ⟨0,IS _⟩ (AC [] rfl rfl ?_ ?_) (λk=>?_)
    ·exact eN
    ·refine eM ?_;rfl
    ·obtain⟨k,hk⟩:=k;have hk:k<=m.length:=hk;have D:=WR v k;have n:=O4 m k;have F:=m6 v k;unfold ZN at n;simp only;repeat'(first|exact trivial|refine eS rfl ?_|refine AB ?_|refine rX e ?_ ?_|refine rC ?_ ?_<;>intro a<;>try(cases a;done))
     ·have h1:(ByteArray.mk #[38]).size=1:=rfl;rw[h1];simp only[AP];exact eV
     ·refine⟨by assumption,?_⟩;have h1:(ByteArray.mk #[38]).size=1:=rfl;rw[AEs,h1];simp only[AP];exact eV
     ·exact eV
     ·have g:k<m.length:=by exact eV
      rw[BY a]at n;refine⟨⟨k+1,g⟩,by simp only;omega,AC [] rfl rfl ?_ ?_⟩
      ·exact eN
      ·simp only[n];exact eN
     ·refine⟨by assumption,?_⟩;simp only[AP];exact eV
     ·exact eV
     ·have g:k<m.length:=by exact eV
      rw[An (AAb.2 a)]at n;refine⟨⟨k+1,g⟩,by simp only;omega,AC [] rfl rfl ?_ ?_⟩
      ·exact eN
      ·simp only[n];exact eN
     ·have g:k=m.length:=by exact eV
      rw[<-g]at j;exact fI e [.tmp 8] (by rw[j];exact eR)
end
section
attribute [local go_sem] Ul QQ A2O cI cL cH
def Fx (x:AQ) (out:List AQ):Nat->Nat
 | 0=>0
 | n+1=>if GC x (out.getD n c0)=true then Fx x out n else n+1
def cM (out:List AQ) (x:AQ):List AQ:=out.take (Fx x out out.length)++[x]++out.drop (Fx x out out.length)
def AX (d:List AI):List (List Int):=(AO d).map λs=>Ey d (AO d) s
def Gh (d:List AI) (all:List ByteArray) (codes:List (List Int)) (out:List AQ) (b:List Int):List AQ:=cM out (G2 d all codes b,b)
def R8 (d:List AI):List AQ->List Int->List AQ:=Gh d (AO d) (AX d)
theorem O5 (d:List AI) (all:List ByteArray) (codes:List (List Int)):∀(l:List (List Int)) (o:List AQ),(l.foldl (Gh d all codes) o).length=o.length+l.length
 | [],o=>by simp
 | b :: l,o=>by
  rw[OR,O5 d all codes l];unfold Gh cM;simp only[GO,ON,YE,OS,ADw];omega
theorem WT {d:List AI} {all:List ByteArray} {codes:List (List Int)}:∀ {l:List (List Int)} {o:List AQ},(∀c∈l,c.length<=64)->(∀y∈o,y.2.length<=64)->∀y∈l.foldl (Gh d all codes) o,y.2.length<=64
 | [],_,_,e=>e
 | b :: l,o,f,e=>by
  rw[OR];refine WT (λc g=>f c (by simp[g])) (λy a=>?_);unfold Gh cM at a;simp only[No,YB]at a;rcases a with (a|a)|a
  ·exact e y (f6 a)
  ·rw[a];exact f b (by simp)
  ·exact e y (AEc a)
theorem iI (x:AQ) (out:List AQ):∀n,Fx x out n<=n
 | 0=>NO _
 | n+1=>by
  unfold Fx;split
  ·exact Nat.le_succ_of_le (iI x out n)
  ·exact NO _
def AM (d:List AI):List AQ:=(Ay (AX d)).foldl (R8 d) []
def CA (d:List AI):List AQ×Int :=
 if A7 d≠0 then ([],A7 d) else if 256<(Ay (AX d)).length then ([],7) else (AM d,0)
theorem m7 {s:ByteArray} {b:Bool} (h:Ew s b=true):s.size<=32:=by
 unfold Ew at h;rw[AT]at h;have h1:=h.1;unfold Ry at h1;simp only[UB,iF,On]at h1;have:=h1.1.1.2;omega
theorem iJ {d:List AI} (hn:Cm d=0):∀s∈AO d,s.size<=32:=by
 intro s hs;obtain⟨x,b,rfl⟩:=Dd hs;obtain⟨j,a,rfl⟩:=CH d0 b;exact m7 (JF hn j a).2
def LC (d:List AI) (n:Nat):List (List Int):=((AO d).take n).map λs=>Ey d (AO d) s
theorem m8 {d:List AI} {n:Nat} (h:n<=(AO d).length):(LC d n).length=n:=by simp[LC,h]
theorem iK {d:List AI} {n:Nat} (h:n<(AO d).length):LC d (n+1)=LC d n++[Ey d (AO d) ((AO d).getD n ByteArray.empty)]:=by
 unfold LC;rw[Az _ ByteArray.empty h,YK];rfl
theorem m9 (d:List AI):LC d (AO d).length=AX d:=by simp[LC,AX]
theorem nA (d:List AI):(AX d).length=(AO d).length:=by simp[AX]
theorem O6 {d:List AI} (h:d.length<=256):∀c∈AX d,c.length<=64:=by
 intro c a;unfold AX at a;obtain⟨s,-,rfl⟩:=IF.1 a;have b:=D7 d d.length;rw[UE]at b;exact(B9 (d:=d) (all:=AO d) (by omega) s 0).2.2
theorem iL {i:Nat}:∀ {n k:Nat} {l:List (List Int)},(∀c∈l,c.length<=64)->∀c∈Gg i n k l,c.length<=64
 | 0,_,_,h=>h
 | n+1,k,l,h=>by
  unfold Gg;split
  ·exact iL (iC h i k)
  ·exact h
theorem Qi:∀ {n i:Nat} {l:List (List Int)},(∀c∈l,c.length<=64)->∀c∈IG n i l,c.length<=64
 | 0,_,_,h=>h
 | n+1,i,l,h=>by
  unfold IG;split
  ·exact Qi (iL h)
  ·exact h
theorem iM {out:List AQ} {x y:AQ}:y∈cM out x↔y=x\/y∈out:=by
 unfold cM;rw[No,No,YB];have h:=No (a:=y) (s:=out.take (Fx x out out.length)) (t:=out.drop (Fx x out out.length));rw[AEn]at h;rw[h];constructor
 ·rintro ((h|h)|h)
  ·exact .inr (.inl h)
  ·exact .inl h
  ·exact .inr (.inr h)
 ·rintro (h|h|h)
  ·exact .inl (.inr h)
  ·exact .inl (.inl h)
  ·exact .inr h
def R9:Aa:={ ins:=[FE],pre:=λ_=>True,out:=λ(d,_)=>[.p J7 (CA d).1,.p Lr (CA d).2] }
theorem Qj:Ab Tryz.prog 118 R9:=by
 refine fK [0,2,3,4,5,6,7,8,9,10,11,12,13,17,24,41,45,73] Tryz.func118 Tryz.ntmps118 (AF z4 (AF ZD (AF A6N (AF z9 (AF A01 (AF z7 AG)))))) ?_;rintro w0 O0 ⟨d,u⟩ g - -;simp only[R9,AL];repeat'(first|exact trivial|refine eS rfl ?_|refine rX g ?_ ?_|refine rC ?_ ?_<;>intro a<;>try(cases a;done))
 ·have h1:CA d=([],A7 d):=by unfold CA;rw[BY a]
  exact fI g [.tmp 2,.tmp 3] (by rw[h1];exact eR)
 ·have i:A7 d=0:=by simpa using a
  obtain⟨-,E,-⟩:=A1 i;exact UD E (by decide)
 ·have i:A7 d=0:=by simpa using a
  obtain⟨M,s,-,hn,-⟩:=A1 i;have F:=D7 d d.length;rw[UE]at F;have N:=iJ hn;refine AJ (ι:={n:Nat//n<=(AO d).length}) (λn=>⟨[(0,.p FE d),(5,.p F1 (AO d)),(6,.sr 36 BT 0 (LC d n.1).length),(7,.p (.int .i64) (n.1:Int))],[(36,.arr 140 BT (LC d n.1))]⟩) (λn=>(AO d).length-n.1) ⟨0,IS _⟩ (AC [(36,.nil)] rfl rfl ?_ ?_) (λn=>?_)
  ·refine eM ?_;rfl
  ·refine eM ?_;rfl
  ·obtain⟨n,I⟩:=n;have Q:=m8 I;have hs:=λh=>iK (d:=d) (n:=n) h;simp only;repeat'(first|exact trivial|refine eS rfl ?_|refine AB ?_|refine rX g ?_ ?_|refine rC ?_ ?_<;>intro a<;>try(cases a;done))
   ·refine⟨a,⟨s,by dsimp only[Ty.den]at *;omega⟩,?_⟩;simp only[AP];dsimp only[Ty.den]at *;omega
   ·exact eV
   ·have w:n<(AO d).length:=by exact eV
    have e:=hs w;refine⟨⟨n+1,by omega⟩,by simp only;omega,AC [(36,.nm 36)] rfl rfl ?_ ?_⟩
    ·simp only[e];exact eN
    ·simp only[e];exact eN
   ·have w:n=(AO d).length:=by exact eV
    subst w;rw[m9];have H:=nA d;have x:=O6 s;have t:∀c∈Ay (AX d),c.length<=64:=Qi x;refine FP [36] ?_;repeat'(first|exact trivial|refine eS rfl ?_|refine rX g ?_ ?_|refine rC ?_ ?_<;>intro a<;>try(cases a;done))
    ·exact⟨by omega,x⟩
    ·have h1:CA d=([],7):=by
      unfold CA;rw[An (by rw[i];simp),BY (by omega)]
     exact fI g [.tmp 2,.tmp 3] (by rw[h1];exact eR)
    ·have D:CA d=((Ay (AX d)).foldl (Gh d (AO d) (AX d)) [],0):=by
      unfold CA;rw[An (by rw[i];simp),An (by omega)];rfl
     generalize Ay (AX d)=f at *;generalize AX d=codes at *;generalize AO d=all at *;refine AJ (ι:={k:Nat//k<=f.length}) (λk=>⟨[(0,.p FE d),(5,.p F1 all),(6,.p Tq codes),(8,.p Tq f),(9,.sr 9 b4 0 ((f.take k.1).foldl (Gh d all codes) []).length),(10,.p (.int .i64) (k.1:Int))],[(9,.arr 152 b4 ((f.take k.1).foldl (Gh d all codes) []))]⟩) (λk=>f.length-k.1) ⟨0,IS _⟩ (AC [(9,.nil)] rfl rfl ?_ ?_) (λk=>?_)
     ·refine eM ?_;rfl
     ·refine eM ?_;rfl
     ·obtain⟨k,hk⟩:=k;have C:=O5 d all codes (f.take k) [];have O:(f.take k).length=k:=by rw[ON];exact AEi hk
      have J:=WT (d:=d) (all:=all) (codes:=codes) (l:=f.take k) (o:=[]) (λc g=>t c (f6 g)) (by simp);have L:=λh:k<f.length=>E5 (Gh d all codes) f [] [] h;rw[O]at C;simp only[ADw,ADK]at C;generalize B:(f.take k).foldl (Gh d all codes) []=out at *;simp only;repeat'(first|exact trivial|refine eS rfl ?_|refine rX g ?_ ?_|refine rC ?_ ?_<;>intro a<;>try(cases a;done))
      ·exact⟨a,⟨M,s,by omega,H,N,x,MX t k⟩,a⟩
      ·have v:k<f.length:=by exact eV
       have e:=L v;have G:=MX t k;generalize f.getD k []=b at *;unfold Gh at e;generalize G2 d all codes b=nm at *;refine AJ (ι:={q:Nat//q<=out.length/\Fx (nm,b) out q=Fx (nm,b) out out.length}) (λq=>⟨[(0,.p FE d),(5,.p F1 all),(6,.p Tq codes),(8,.p Tq f),(9,.sr 9 b4 0 out.length),(10,.p (.int .i64) (k:Int)),(11,.bp 11 [] 0),(12,.p (.int .i64) (q.1:Int))],[(9,.arr 152 b4 out),(11,.box 152 true [.p T9 nm,.p BT b])]⟩) (λq=>q.1) ⟨out.length,NO _,rfl⟩ (eW [(9,.nm 9),(11,.nm 11)]) (λq=>?_)
       ·obtain⟨q,j,A⟩:=q;have j:q<=out.length:=j;simp only;repeat'(first|exact trivial|refine eS rfl ?_|refine AB ?_|refine rX g ?_ ?_|refine rC ?_ ?_<;>intro a<;>try(cases a;done))
        ·refine⟨λh=>by omega,λh=>by exact eV,λh=>⟨UD G (by decide),UD (J _ (AE out c0 (k:=((q:Int)-1).toNat) (by omega))) (by decide)⟩⟩
        ·omega
        ·obtain⟨P,z⟩:=a;obtain⟨q,rfl⟩:∃r,q=r+1:=⟨q-1,by omega⟩;have m:((q+1:Nat):Int)-1=(q:Int):=by omega
         refine⟨⟨q,by omega,?_⟩,AF2 q,AC [(9,.nm 9),(11,.nm 11)] rfl rfl ?_ ?_⟩
         ·rw[<-A];rw[m,UG]at z;show _=if GC (nm,b) (out.getD q c0)=true then Fx (nm,b) out q else q+1
          rw[BY z]
         ·exact eN
         ·refine eM ?_;show (q:Int)+1-1=q;omega
        ·refine⟨UA.2 j,?_⟩;rw[ON];simp only[AP];omega
        ·rw[ON];simp only[AP];omega
        ·refine⟨UA.2 j,?_⟩;rw[ON,YE];simp only[AP];omega
        ·omega
        ·have K:Fx (nm,b) out q=q:=by
          cases q with
          | zero=>rfl
          | succ q =>
           have m:((q+1:Nat):Int)-1=(q:Int):=by omega
           have:=a (by omega);rw[m,UG]at this;show (if GC (nm,b) (out.getD q c0)=true then Fx (nm,b) out q else q+1)=q+1;rw[An (by rw[this];simp)]
         unfold cM at e;rw[<-A,K]at e;refine⟨⟨k+1,by omega⟩,by simp only;omega,AC [(9,.nm 80)] rfl rfl ?_ ?_⟩
         ·refine eM ?_;exact e.symm
         ·refine eM ?_;have y:=ADx List.length e;rw[GO,GO]at y;exact y.symm
      ·have v:k=f.length:=by exact eV
       rw[v,UE]at B;rw[B]at D;refine FP [9] ?_;exact fI g [.tmp 2,.tmp 3] (by rw[D];exact eR)
end
theorem ZO {d:List AI}:∀ {l:List (List Int)} {o:List AQ} {y:AQ},y∈l.foldl (R8 d) o↔y∈o\/∃b∈l,y=(G2 d (AO d) (AX d) b,b)
 | [],o,y=>by simp
 | b :: l,o,y=>by
  rw[OR,ZO];unfold R8 Gh;rw[iM];simp only[DO];constructor
  ·rintro ((h|h)|⟨c,a,e⟩)
   ·exact .inr ⟨b,.inl rfl,h⟩
   ·exact .inl h
   ·exact .inr ⟨c,.inr a,e⟩
  ·rintro (h|⟨c,rfl|a,e⟩)
   ·exact .inl (.inr h)
   ·exact .inl (.inl e)
   ·exact .inr ⟨c,a,e⟩
theorem De {d:List AI} {y:AQ}:y∈AM d↔∃b∈Ay (AX d),y=(G2 d (AO d) (AX d) b,b):=by
 unfold AM;rw[ZO];simp
theorem IL (d:List AI):(AM d).length=(Ay (AX d)).length:=by
 have h:=O5 d (AO d) (AX d) (Ay (AX d)) [];rw[ADw,ADK]at h;exact h
theorem A2U {l:List (List Int)} {i k:Nat} {c:List Int} (h:c∈l):c∈Gf l i k:=by
 unfold Gf;split
 ·exact No.2 (.inl h)
 ·exact h
theorem iO {i:Nat} {c:List Int}:∀ {n k:Nat} {l:List (List Int)},c∈l->c∈Gg i n k l
 | 0,_,_,h=>h
 | n+1,k,l,h=>by
  unfold Gg;split
  ·exact iO (A2U h)
  ·exact h
theorem iP {c:List Int}:∀ {n i:Nat} {l:List (List Int)},c∈l->c∈IG n i l
 | 0,_,_,h=>h
 | n+1,i,l,h=>by
  unfold IG;split
  ·exact iP (iO h)
  ·exact h
theorem JG (d:List AI) {i:Nat} (h:i<(AO d).length):(AX d).getD i []=Ey d (AO d) ((AO d).getD i ByteArray.empty):=by
 unfold AX;simp[AS,h]
theorem wU {d:List AI} (hn:Cm d=0) (f:d.length<=(Bk d).length) (c:d.length<=256) {j:Nat} (b:j<(AO d).length):∀(m i:Nat) (l:List ByteArray),i+m=(AO d).length->i<=j ->
  ∃s,wT d (AO d) (AX d) ((AX d).getD j []) m i l=.inl s/\AY s ((AO d).getD j ByteArray.empty)=true
 | 0,i,l,h,g=>by omega
 | m+1,i,l,h,g=>by
  unfold wT;split
  ·rename_i a;refine⟨_,rfl,?_⟩;rw[JG d (by omega),JG d b]at a;exact iG hn f c (by omega) b a
  ·rename_i a;have k:i≠j:=by
    intro e;subst e;exact a (iE _)
   exact wU hn f c b m (i+1) _ (by omega) (by omega)
theorem wV (s:ByteArray):∀(l:List AQ) (k:Nat),MW s k l<((k+l.length:Nat):Int)
 | [],k=>by simp only[MW];omega
 | x :: l,k=>by
  simp only[MW];split
  ·simp only[OS];omega
  ·have:=wV s l (k+1);simp only[OS];omega
theorem wW (s:ByteArray):∀(l:List AQ) (k:Nat) (x:AQ),x∈l->AY x.1 s=true->0<=MW s k l
 | [],_,_,h,_=>by cases h
 | y :: l,k,x,h,e=>by
  simp only[MW];split
  ·omega
  ·rename_i a;rcases DO.1 h with rfl|h
   ·exact absurd e a
   ·exact wW s l (k+1) x h e
theorem IM (l:List AQ) (s:ByteArray):BN l s<(l.length:Int):=by
 have:=wV s l 0;rw[ADK]at this;exact this
theorem G7 {d:List AI} (h:A7 d=0) {s:ByteArray} (hs:AZ (AO d) s=true):0<=BN (AM d) s:=by
 obtain⟨-,b,-,hn,f⟩:=A1 h;obtain⟨t,g,e⟩:=UF.1 hs;obtain⟨j,c,rfl⟩:=CH ByteArray.empty g;obtain⟨u,hu,a⟩:=wU hn f b c (AO d).length 0 [] (by omega) (by omega);have i:(AX d).length=(AO d).length:=by simp[AX]
 refine wW s (AM d) 0 (u,(AX d).getD j []) ?_ (BX a e);rw[De];refine⟨(AX d).getD j [],iP (BD (by omega)),?_⟩;unfold G2;rw[hu]
theorem TH {d:List AI} (h:A7 d=0) {x:AI} (a:x∈d):0<=BN (AM d) x.1:=G7 h (O3 a)
theorem BZ {d:List AI} (h:(CA d).2=0):A7 d=0/\(Ay (AX d)).length<=256/\(CA d).1=AM d:=by
 unfold CA at h ⊢;split at h
 ·rename_i h1;exact absurd h h1
 ·rename_i h1;split at h
  ·cases h
  ·rename_i a;exact⟨Do h1,by omega,by rw[An h1,An a]⟩
theorem wX {d:List AI} (h:A7 d=0):0<(AM d).length:=by
 obtain⟨-,-,a,-,-⟩:=A1 h;cases d with
 | nil=>cases a
 | cons x d =>
  have:=TH h (x:=x) (by simp);have b:=IM (AM (x :: d)) x.1;omega
section
attribute [local go_sem] wR
def A9k (l:List AQ) (i k:Int) (m:Nat):Bool:=(m:Int)==i||(m:Int)==k||!La l k (m:Int)||!La l (m:Int) i
def A02 (l:List AQ) (i k:Int) (n:Nat):Bool:=(List.range n).all (A9k l i k)
def A03 (l:List AQ) (i:Int) (k:Nat):Bool:=!((k:Int)==i||!La l (k:Int) i)&&A02 l i (k:Int) l.length
def OG (l:List AQ) (i:Int) (n:Nat):List Int:=((List.range n).filter λ(k:Nat)=>A03 l i k).map λ(k:Nat)=>(k:Int)
def ZP (l:List AQ) (i:Int):List Int:=OG l i l.length
theorem nB (l:List AQ) (i:Int) (n:Nat):OG l i (n+1)=OG l i n++if A03 l i n=true then [(n:Int)] else []:=by
 unfold OG;rw[YF,AEq,YK]
 congr 1
 rw[dO,AEB];split<;>rfl
theorem A04 (l:List AQ) (i:Int) (n:Nat):(OG l i n).length<=n:=by
 unfold OG;rw[Of];exact UD (YH _ _) (by simp)
theorem A05 (l:List AQ) (i k:Int) (n:Nat):A02 l i k (n+1)=(A02 l i k n&&A9k l i k n):=by
 unfold A02;rw[YF,AED];simp
def A2V:Aa:={ ins:=[J7,T3],pre:=λ(l,i,_)=>((0:Int)<=i/\i<(List.length l:Int))/\List.length l<=256/\(∀x∈(l:List AQ),x.2.length<=64),out:=λ(l,i,_)=>[.p Ft (ZP l i)] }
theorem A6T:Ab Tryz.prog 119 A2V:=by
 refine fK [0,1,4,5,6,7,8,12,24,28,56] Tryz.func119 Tryz.ntmps119 (AF wS AG) ?_;rintro w0 O0 ⟨l,i,u⟩ c-⟨hi,g,o⟩;have g:l.length<=256:=g;have f:∀x∈(l:List AQ),x.2.length<=100000:=λx h=>UD (o x h) (by decide);simp only[A2V,AL];repeat'(first|exact trivial|refine eS rfl ?_|refine rX c ?_ ?_)
 refine AJ (ι:={k:Nat//k<=l.length}) (λk=>⟨[(0,.p J7 l),(1,.p T3 i),(5,.sr 60 T3 0 (OG l i k.1).length),(6,.p (.int .i64) (k.1:Int))],[(60,.arr 3 T3 (OG l i k.1))]⟩) (λk=>l.length-k.1) ⟨0,IS _⟩ (AC [(60,.nil)] rfl rfl ?_ ?_) (λk=>?_)
 ·refine eM ?_;rfl
 ·refine eM ?_;rfl
 ·obtain⟨k,hk⟩:=k;have hk:k<=l.length:=hk;have q:=A04 l i k;have hs:=nB l i k;simp only;repeat'(first|exact trivial|refine eS rfl ?_|refine AB ?_|refine rX c ?_ ?_|refine rC ?_ ?_<;>intro a<;>try(cases a;done))
  ·intro h;exact⟨by assumption,hi,f⟩
  ·exact eV
  ·have e:k<l.length:=by exact eV
   have b:A03 l i k=false:=by
    unfold A03;rw[ADt];left;rw[ADQ,UU,YD,UB];exact a
   rw[b,An (by simp),UO]at hs;refine⟨⟨k+1,by omega⟩,by simp only;omega,AC [(60,.nm 60)] rfl rfl ?_ ?_⟩
   ·simp only[hs];exact eN
   ·simp only[hs];exact eN
  ·have e:k<l.length:=by exact eV
   have b:A03 l i k=A02 l i (k:Int) l.length:=by
    unfold A03;rw[show ((k:Int)==i||!La l (k:Int) i)=false by
     rw[iF,ADC,ADQ];exact a]
    rfl
   refine AJ (ι:={m:Nat//m<=l.length}) (λm=>⟨[(0,.p J7 l),(1,.p T3 i),(5,.sr 60 T3 0 (OG l i k).length),(6,.p (.int .i64) (k:Int)),(7,.p .bool (A02 l i (k:Int) m.1)),(8,.p (.int .i64) (m.1:Int))],[(60,.arr 3 T3 (OG l i k))]⟩) (λm=>l.length-m.1) ⟨0,IS _⟩ (AC [(60,.nm 60)] rfl rfl ?_ ?_) (λm=>?_)
   ·exact eN
   ·refine eM ?_;rfl
   ·obtain⟨m,j⟩:=m;have j:m<=l.length:=j;have n:=A05 l i (k:Int) m;simp only;repeat'(first|exact trivial|refine eS rfl ?_|refine AB ?_|refine rX c ?_ ?_|refine rC ?_ ?_<;>intro a<;>try(cases a;done))
    ·exact⟨λh=>⟨by assumption,a,f⟩,λh=>⟨a,hi,f⟩⟩
    ·exact eV
    ·have d:m<l.length:=by exact eV
     refine⟨⟨m+1,by omega⟩,by simp only;omega,AC [(60,.nm 60)] rfl rfl ?_ ?_⟩
     ·exact eN
     ·simp only[n];unfold A9k;exact eN
    ·simp only[AP];dsimp only[Ty.den]at *;omega
    ·exact eV
    ·have d:m=l.length:=by exact eV
     subst d;rw[b,BY a]at hs;refine⟨⟨k+1,by omega⟩,by simp only;omega,AC [(60,.nm 60)] rfl rfl ?_ ?_⟩
     ·simp only[hs];exact eN
     ·simp only[hs];exact eN
    ·exact eV
    ·have d:m=l.length:=by exact eV
     subst d;rw[b,An (by rw[a];simp),UO]at hs;refine⟨⟨k+1,by omega⟩,by simp only;omega,AC [(60,.nm 60)] rfl rfl ?_ ?_⟩
     ·simp only[hs];exact eN
     ·simp only[hs];exact eN
  ·have e:k=l.length:=by exact eV
   subst e;refine FP [60] ?_;exact fI c [.tmp 4] (by unfold ZP;exact eR)
end
section
attribute [local go_sem] QQ WE Jh
abbrev FV:=ByteArray×ByteArray
abbrev f0V:FV:=(ByteArray.empty,ByteArray.empty)
def dcG (all:List ByteArray) (l:List FV):Nat->List FV->Int
 | _,[]=>0
 | k,x :: r=>if Ew x.1 true=false then 1 else if ((l.take k).any λy=>AY y.1 x.1)=true then 4 else if AZ all x.2=false then 5 else dcG all l (k+1) r
def cN (all:List ByteArray):List AI->Int
 | []=>0
 | x :: l=>if dcG all x.2.2 0 x.2.2≠0 then dcG all x.2.2 0 x.2.2 else cN all l
def LD (d:List AI):Int:=cN (AO d) d
theorem A2W (all:List ByteArray) (l:List FV) {k:Nat} (h:k<l.length):dcG all l k (l.drop k)=if Ew (l.getD k f0V).1 true=false then 1 else if ((l.take k).any λy=>AY y.1 (l.getD k f0V).1)=true then 4 else if AZ all (l.getD k f0V).2=false then 5 else dcG all l (k+1) (l.drop (k+1)):=by
 rw[TO h];have e:l.getD k f0V=l[k]:=by simp[AS,h]
 rw[e];rfl
theorem A06 (all:List ByteArray) (l:List AI) {k:Nat} (h:k<l.length):cN all (l.drop k)=if dcG all (l.getD k d0).2.2 0 (l.getD k d0).2.2≠0 then dcG all (l.getD k d0).2.2 0 (l.getD k d0).2.2 else cN all (l.drop (k+1)):=by
 rw[TO h];have e:l.getD k d0=l[k]:=by simp[AS,h]
 rw[e];rfl
def nC:Aa:={ ins:=[FE],pre:=λ(d,_)=>List.length d<=256,out:=λ(d,_)=>[.p Lr (LD d)] }
theorem A2X:Ab Tryz.prog 193 nC:=by
 refine fK [0,2,3,4,5,6,7,13,24,33,36,49,57] Tryz.func193 Tryz.ntmps193 (AF ZD (AF mP (AF Gz AG))) ?_;rintro w0 O0 ⟨d,u⟩ c ⟨⟨x,v⟩,-⟩ j;have j:d.length<=256:=j;simp only[nC,AL];repeat'(first|exact trivial|refine eS rfl ?_|refine rX c ?_ ?_)
 ·exact UD j (by decide)
 ·have w:LD d=cN (AO d) d:=rfl;rw[w];generalize AO d=all at *;refine AJ (ι:={i:Nat//i<=d.length/\cN all (d.drop i)=cN all d}) (λi=>⟨[(0,.p FE d),(3,.p F1 all),(4,.p (.int .i64) (i.1:Int))],[]⟩) (λi=>d.length-i.1) ⟨0,IS _,rfl⟩ (eW []) (λi=>?_)
  ·obtain⟨i,hi,hf⟩:=i;simp only;repeat'(first|exact trivial|refine eS rfl ?_|refine rX c ?_ ?_|refine rC ?_ ?_<;>intro a<;>try(cases a;done))
   ·exact a
   ·have o:i<d.length:=by exact eV
    rw[A06 all d o]at hf;have A:(d.getD i d0).2.2.length<=AP:=(v _ (AE d d0 o)).2.2.1;have z:(List.getD d i (ByteArray.empty,[],[])).2.2=(d.getD i d0).2.2:=rfl;rw[z];generalize (d.getD i d0).2.2=l at *;simp only[AP]at A;refine AJ (ι:={k:Nat//k<=l.length/\dcG all l k (l.drop k)=dcG all l 0 l}) (λk=>⟨[(0,.p FE d),(3,.p F1 all),(4,.p (.int .i64) (i:Int)),(5,.p gN l),(6,.p (.int .i64) (k.1:Int))],[]⟩) (λk=>l.length-k.1) ⟨0,IS _,rfl⟩ (eW []) (λk=>?_)
    ·obtain⟨k,hk,b⟩:=k;have r:=λh:k<l.length=>A2W all l h;simp only;repeat'(first|exact trivial|refine eS rfl ?_|refine AB ?_|refine rX c ?_ ?_|refine rC ?_ ?_<;>intro a<;>try(cases a;done))
     ·exact a
     ·have e:k<l.length:=by exact eV
      rw[r e,BY a]at b;rw[<-b,BY (by decide)]at hf;exact fI c [.tmp 2] (by rw[<-hf];exact eR)
     ·have e:k<l.length:=by exact eV
      have q:(k:Int)<(l.length:Int):=IN.2 e;rw[r e,An (by rw[a];simp)]at b;refine AJ (ι:={m:Nat//m<=k/\((l.take m).any λy=>AY y.1 (l.getD k f0V).1)=false}) (λm=>⟨[(0,.p FE d),(3,.p F1 all),(4,.p (.int .i64) (i:Int)),(5,.p gN l),(6,.p (.int .i64) (k:Int)),(7,.p (.int .i64) (m.1:Int))],[]⟩) (λm=>k-m.1) ⟨0,IS _,rfl⟩ (eW []) (λm=>?_)
      ·obtain⟨m,B,g⟩:=m;have s:=λh:m<l.length=>NR l f0V (λy=>AY y.1 (l.getD k f0V).1) h;simp only;repeat'(first|exact trivial|refine eS rfl ?_|refine AB ?_|refine rX c ?_ ?_|refine rC ?_ ?_<;>intro a<;>try(cases a;done))
       ·have h1:(m:Int)<(k:Int):=a;exact⟨by exact eV,q⟩
       ·have f:m<k:=IN.1 (by assumption);have n:=s (by omega);have t:((l.take k).any λy=>AY y.1 (l.getD k f0V).1)=true:=by
         rw[UF];exact⟨l.getD m f0V,by
          rw[AEt];refine⟨m,by omega,?_⟩;simp[AS,show m<l.length by omega],a⟩
        rw[BY t]at b;rw[<-b,BY (by decide)]at hf;exact fI c [.tmp 2] (by rw[<-hf];exact eR)
       ·omega
       ·have f:m<k:=IN.1 (by assumption);have n:=s (by omega);refine⟨⟨m+1,by omega,?_⟩,by simp only;omega,AC [] rfl rfl ?_ ?_⟩
        ·rw[n,g];exact a
        ·exact eN
        ·exact eN
       ·exact q
       ·have f:m=k:=by omega
        subst f;rw[An (by rw[g];simp),BY a]at b;rw[<-b,BY (by decide)]at hf;exact fI c [.tmp 2] (by rw[<-hf];exact eR)
       ·have:=x;simp only[AP]at this;omega
       ·have f:m=k:=by omega
        subst f;rw[An (by rw[g];simp),An (by rw[a];simp)]at b;exact⟨⟨m+1,by omega,b⟩,by simp only;omega,eW []⟩
     ·omega
     ·have e:l.drop k=[]:=By (UA.1 a);rw[e]at b;rw[<-b,An (by simp[dcG])]at hf;exact⟨⟨i+1,by omega,hf⟩,by simp only;omega,eW []⟩
   ·have e:d.drop i=[]:=By (by exact eV);rw[e]at hf;exact fI c [.tmp 2] (by rw[<-hf];first|exact eR|refine YM ?_;rfl)
end
section
attribute [local go_sem] cF b5 MV cs0
def HT (s:ByteArray) (o:List ByteArray) (x:AI):List ByteArray:=if (DI x s).2=true then Ea o x.1 else o
def FZ (d:List AI) (s:ByteArray):List ByteArray:=d.foldl (HT s) []
theorem nD (s:ByteArray) (d:List AI) (k:Nat):(FZ (d.take k) s).length<=k:=by
 have key:∀(l:List AI) (o:List ByteArray),(l.foldl (HT s) o).length<=o.length+l.length:=by
  intro l;induction l with
  | nil=>intro o;simp
  | cons x l b =>
   intro o;have h1:=b (HT s o x);have a:(HT s o x).length<=o.length+1:=by
    unfold HT;split
    ·exact MT o x.1
    ·omega
   simp only[OR,OS];omega
 have h1:=key (d.take k) [];have a:=oN k d;unfold FZ;simp only[ADw]at h1;omega
def Df (d:List AI) (s:ByteArray):ByteArray×Bool:=if (A4 d (FZ d s)).length=1 then ((A4 d (FZ d s)).getD 0 ByteArray.empty,true) else (ByteArray.empty,false)
def cO:Aa:={ ins:=[FE,T9],pre:=λ(d,_,_)=>QR d/\List.length d<=256,out:=λ(d,s,_)=>[.p T9 (Df d s).1,.p .bool (Df d s).2] }
theorem iQ:Ab Tryz.prog 167 cO:=by
 refine fK [0,1,4,5,6,7,9,10,14,26,39] Tryz.func167 Tryz.ntmps167 (AF iA (AF Rz (AF WJ AG))) ?_;rintro w0 O0 ⟨d,s,u⟩ c-⟨l,f⟩;have f:d.length<=256:=f;simp only[cO,AL];repeat'(first|exact trivial|refine eS rfl ?_|refine rX c ?_ ?_)
 refine AJ (ι:={i:Nat//i<=d.length}) (λi=>⟨[(0,.p FE d),(1,.p T9 s),(6,.p F1 (FZ (d.take i.1) s)),(7,.p (.int .i64) (i.1:Int))],[]⟩) (λi=>d.length-i.1) ⟨0,IS _⟩ (AC [] rfl rfl ?_ ?_) (λi=>?_)
 ·exact eN
 ·refine eM ?_;rfl
 ·obtain⟨i,hi⟩:=i;have hi:i<=d.length:=hi;have hn:=nD s d i;have hs:=λh:i<d.length=>E5 (HT s) d d0 [] h;have j:∀e,FZ e s=e.foldl (HT s) []:=λ_=>rfl;rw[<-j,<-j]at hs;unfold HT at hs;simp only;repeat'(first|exact trivial|refine eS rfl ?_|refine AB ?_|refine rX c ?_ ?_|refine rC ?_ ?_<;>intro a<;>try(cases a;done))
  ·exact a
  ·exact⟨by assumption,by omega⟩
  ·exact eV
  ·have b:i<d.length:=by exact eV
   have e:=hs b;rw[BY a]at e;refine⟨⟨i+1,by omega⟩,by simp only;omega,AC [] rfl rfl ?_ ?_⟩
   ·exact eN
   ·simp only[e];exact eN
  ·exact eV
  ·have b:i<d.length:=by exact eV
   have e:=hs b;rw[An (by rw[a];simp)]at e;refine⟨⟨i+1,by omega⟩,by simp only;omega,AC [] rfl rfl ?_ ?_⟩
   ·exact eN
   ·simp only[e];exact eN
  ·exact⟨l,f,by omega⟩
  ·have b:d.take i=d:=As (by exact eV);rw[b]at a ⊢;have h1:Df d s=(ByteArray.empty,false):=by
    unfold Df;rw[An (by omega)]
   exact fI c [.tmp 4,.tmp 5] (by rw[h1];first|exact eR|refine YM ?_;first|rfl|exact⟨rfl,rfl⟩)
  ·have g:((A4 d (FZ (d.take i) s)).length:Int)=1:=by simpa using a
   have k:(0:Int)<((A4 d (FZ (d.take i) s)).length:Int):=by rw[g];decide
   exact k
  ·have b:d.take i=d:=As (by exact eV);rw[b]at a ⊢;have g:((A4 d (FZ d s)).length:Int)=1:=by simpa using a
   have h1:Df d s=((A4 d (FZ d s)).getD 0 ByteArray.empty,true):=by
    unfold Df;rw[BY (by omega)]
   exact fI c [.tmp 4,.tmp 5] (by rw[h1];exact eR)
end
section
attribute [local go_sem] cF Um wR A2C
def KB (l:List AQ) (t:Int) (s:ByteArray) (o:List Int×Bool) (x:AI):List Int×Bool :=
 if (!(DI x s).2||!La l (BN l x.1) t)=true then o else (Ej o.1 (l.getD (BN l (DI x s).1).toNat c0).2,true)
def Fa (d:List AI) (l:List AQ) (t:Int) (s:ByteArray):List Int×Bool:=d.foldl (KB l t s) ((l.getD 0 c0).2,false)
def nE (d:List AI) (l:List AQ):Prop:=(∀x∈d,0<=BN l x.1)/\∀x∈d,∀y∈x.2.2,0<=BN l y.2
theorem iR (s:ByteArray):∀(l:List (ByteArray×ByteArray)),(hZ s l).2=true->∃y∈l,y.2=(hZ s l).1
 | [],h=>by cases h
 | x :: l,h=>by
  simp only[hZ]at h ⊢;split at h
  ·rename_i h1;rw[BY h1];exact⟨x,by simp,rfl⟩
  ·rename_i h1;rw[An h1];obtain⟨y,a,e⟩:=iR s l h;exact⟨y,by simp[a],e⟩
theorem nE.value {d:List AI} {l:List AQ} (h:nE d l) {x:AI} (b:x∈d) {s:ByteArray} (a:(DI x s).2=true):0<=BN l (DI x s).1:=by
 obtain⟨y,c,e⟩:=iR s x.2.2 a;have:=h.2 x b y c;rw[e]at this;exact this
theorem A2Y {l:List AQ} (t:Int) (s:ByteArray) (x:AI) {o:List Int×Bool} (h:o.1.length<=64):(KB l t s o x).1.length<=64:=by
 unfold KB;split
 ·exact h
 ·exact UD (iB _ _) h
theorem WU {l:List AQ} (t:Int) (s:ByteArray):∀(d:List AI) {o:List Int×Bool},o.1.length<=64->(d.foldl (KB l t s) o).1.length<=64
 | [],_,h=>h
 | x :: d,_,h=>by rw[OR];exact WU t s d (A2Y t s x h)
theorem iT (s:ByteArray):∀(l:List AQ) (k:Nat),MW s k l<((k+l.length:Nat):Int)
 | [],k=>by simp only[MW];omega
 | x :: l,k=>by
  simp only[MW];split
  ·simp only[OS];omega
  ·have:=iT s l (k+1);simp only[OS];omega
theorem TJ (l:List AQ) (s:ByteArray):BN l s<(l.length:Int):=by
 have:=iT s l 0;rw[ADK]at this;exact this
def A6V:Aa:={ ins:=[FE,J7,T3,T9],pre:=λ(d,l,t,_,_)=>nE d l/\((0:Int)<=t/\t<(List.length l:Int))/\List.length l<=256/\(∀x∈(l:List AQ),x.2.length<=64),out:=λ(d,l,t,s,_)=>[.p BT (Fa d l t s).1,.p .bool (Fa d l t s).2] }
theorem A2Z:Ab Tryz.prog 158 A6V:=by
 refine fK [0,1,2,3,8,9,10,11,12,13,14,22,48] Tryz.func158 Tryz.ntmps158 (AF iA (AF ZH (AF wS (AF A2D AG)))) ?_;rintro w0 O0 ⟨d,l,t,s,u⟩ f ⟨⟨A,G⟩,-⟩ ⟨r,j,n,w⟩;have n:l.length<=256:=n;have F:∀x∈(l:List AQ),x.2.length<=100000:=λx h=>UD (w x h) (by decide);have q:0<List.length l:=IN.1 (AFk j.1 j.2);simp only[AP]at A;simp only[A6V,AL];repeat'(first|exact trivial|refine eS rfl ?_|refine rX f ?_ ?_)
 ·exact IN.2 q
 ·have m:Fa d l t s=d.foldl (KB l t s) ((l.getD 0 c0).2,false):=rfl;have y:(l.getD 0 c0).2.length<=64:=w _ (AE l c0 q);have z:(List.getD l 0 (ByteArray.empty,[])).2=(l.getD 0 c0).2:=rfl;rw[z];generalize (l.getD 0 c0).2=c at *;refine AJ (ι:={i:Nat//i<=d.length}) (λi=>⟨[(0,.p FE d),(1,.p J7 l),(2,.p T3 t),(3,.p T9 s),(10,.p .bool ((d.take i.1).foldl (KB l t s) (c,false)).2),(11,.p BT ((d.take i.1).foldl (KB l t s) (c,false)).1),(12,.p (.int .i64) (i.1:Int))],[]⟩) (λi=>d.length-i.1) ⟨0,IS _⟩ (AC [] rfl rfl ?_ ?_) (λi=>?_)
  ·exact eN
  ·refine eM ?_;exact⟨rfl,rfl⟩
  ·obtain⟨i,hi⟩:=i;have hi:i<=d.length:=hi;have B:=WU (l:=l) t s (d.take i) (o:=(c,false)) y;have hs:=λh:i<d.length=>E5 (KB l t s) d d0 (c,false) h;have E:=λh:i<d.length=>r.1 _ (AE d d0 h);have D:=λ(h:i<d.length) (g:(DI (d.getD i d0) s).2=true)=>r.value (AE d d0 h) g;have k:∀o x,KB l t s o x=(if (!(DI x s).2||!La l (BN l x.1) t)=true then o else (Ej o.1 (l.getD (BN l (DI x s).1).toNat c0).2,true)):=λ_ _=>rfl;generalize v:(d.take i).foldl (KB l t s) (c,false)=o at *;simp only;repeat'(first|exact trivial|refine eS rfl ?_|refine AB ?_|refine rX f ?_ ?_|refine rC ?_ ?_<;>intro a<;>try(cases a;done))
   ·exact a
   ·have b:i<d.length:=IN.1 a;exact⟨λ_=>a,λ_=>⟨⟨E b,TJ _ _⟩,j,F⟩⟩
   ·exact eV
   ·have b:i<d.length:=IN.1 (by assumption);have e:=hs b;rw[k,BY (by rw[UU,UB,UB];exact a)]at e;refine⟨⟨i+1,by omega⟩,by simp only;omega,AC [] rfl rfl ?_ ?_⟩
    ·exact eN
    ·refine eM ?_;rw[e];exact⟨rfl,rfl⟩
   ·have b:i<d.length:=IN.1 (by assumption);exact⟨⟨D b a.1,TJ _ _⟩,UD B (by decide)⟩
   ·exact eV
   ·have b:i<d.length:=IN.1 (by assumption);have e:=hs b;have C:¬(!(DI (d.getD i d0) s).2||!La l (BN l (d.getD i d0).1) t)=true:=by
     rw[UU,UB,UB];rintro (h|h)
     ·rw[show (DI (d.getD i d0) s).2=true from a.1]at h;cases h
     ·rw[show La l (BN l (d.getD i d0).1) t=true from a.2]at h;cases h
    rw[k,An C]at e;refine⟨⟨i+1,by omega⟩,by simp only;omega,AC [] rfl rfl ?_ ?_⟩
    ·exact eN
    ·refine eM ?_;rw[e];exact⟨rfl,rfl⟩
   ·have b:d.take i=d:=As (UA.1 a);rw[b]at v;rw[v]at m;exact fI f [.tmp 8,.tmp 9] (by rw[m];exact eR)
end
theorem TK:∀ {l:List AI},MR l=0->∀x∈l,x.2.1.length<=256/\x.2.2.length<=256
 | [],_,x,a=>by cases a
 | y :: l,h,x,a=>by
  simp only[MR]at h;split at h
  ·cases h
  ·rename_i h1;rcases DO.1 a with rfl|a
   ·exact⟨by omega,by omega⟩
   ·exact TK h x a
theorem LE {d:List AI} (h:A7 d=0):∀x∈d,x.2.1.length<=256/\x.2.2.length<=256:=by
 have h1:FF d=0:=by
  unfold A7 at h;split at h
  ·rename_i h1;exact absurd h h1
  ·rename_i h1;exact Do h1
 unfold FF at h1;split at h1
 ·cases h1
 ·exact TK h1
theorem O7 {d:List AI} (h:A7 d=0):∀x∈AM d,x.2.length<=64:=by
 intro x e;obtain⟨-,a,-⟩:=A1 h;obtain⟨b,c,rfl⟩:=De.1 e;exact Qi (O6 a) b c
theorem iU {all:List ByteArray} {l:List FV}:∀ {r:List FV} {k:Nat},dcG all l k r=0->∀y∈r,AZ all y.2=true
 | [],_,_,y,a=>by cases a
 | x :: r,k,h,y,a=>by
  simp only[dcG]at h;split at h
  ·cases h
  ·split at h
   ·cases h
   ·split at h
    ·cases h
    ·rename_i b;rcases DO.1 a with rfl|a
     ·simpa using b
     ·exact iU h y a
theorem ZQ {all:List ByteArray}:∀ {l:List AI},cN all l=0->∀x∈l,∀y∈x.2.2,AZ all y.2=true
 | [],_,x,a=>by cases a
 | z :: l,h,x,a=>by
  simp only[cN]at h;split at h
  ·rename_i h1;exact absurd h h1
  ·rename_i h1;rcases DO.1 a with rfl|a
   ·exact iU (Do h1)
   ·exact ZQ h x a
theorem Qk {d:List AI} (h:A7 d=0) (b:LD d=0):nE d (AM d) :=
 ⟨λx a=>TH h a,λx a y c=>G7 h (ZQ b x a y c)⟩
section
attribute [local go_sem] R9 WL nC cO A6V
def LF (d:List AI) (l:List AQ) (t:Nat) (s:ByteArray):Bool:=(Fa d l (t:Int) s).2&&((Fa d l (t:Int) s).1.length:Int)==0
def cQ (d:List AI) (l:List AQ) (f:List ByteArray) (t:Nat):Bool:=f.any (LF d l t)
def X1 (d:List AI) (l:List AQ) (f:List ByteArray) (n:Nat):Bool:=(List.range n).any (cQ d l f)
theorem iV (d:List AI) (l:List AQ) (f:List ByteArray) (n:Nat):X1 d l f (n+1)=(X1 d l f n||cQ d l f n):=by
 unfold X1;rw[YF,AEC];simp
def A0 (d:List AI):Int :=
 if (CA d).2≠0 then (CA d).2 else if 64<(BO d).length then 7 else if LD d≠0 then LD d else
 if ((BO d).all λs=>(Df d s).2)=false then 10 else if X1 d (CA d).1 (BO d) (CA d).1.length=true then 11 else 0
def Un:Aa:={ ins:=[FE],pre:=λ_=>True,out:=λ(d,_)=>[.p Lr (A0 d)] }
theorem ZR:Ab Tryz.prog 156 Un:=by
 refine fK [0,2,3,4,5,6,7,9,10,11,12,13,20,26,30,35,48,52,58,77] Tryz.func156 Tryz.ntmps156 (AF Qj (AF WM (AF A2X (AF iQ (AF A2Z AG))))) ?_;rintro w0 O0 ⟨d,u⟩ b - -;simp only[Un,AL];repeat'(first|exact trivial|refine eS rfl ?_|refine rX b ?_ ?_|refine rC ?_ ?_<;>intro a<;>try(cases a;done))
 ·have h1:A0 d=(CA d).2:=by unfold A0;rw[BY a]
  exact fI b [.tmp 2] (by rw[h1];exact eR)
 ·have c:(CA d).2=0:=by simpa using a
  obtain⟨e,-,-⟩:=BZ c;obtain⟨-,r,-⟩:=A1 e;exact⟨r,λx L=>(LE e x L).2⟩
 ·have c:(CA d).2=0:=by simpa using ‹((CA d).2 != 0)=false›
  have h1:A0 d=7:=by
   unfold A0;rw[An (by rw[c];simp),BY (by omega)]
  exact fI b [.tmp 2] (by rw[h1];exact eR)
 ·have c:(CA d).2=0:=by simpa using ‹((CA d).2 != 0)=false›
  obtain⟨e,-,-⟩:=BZ c;exact(A1 e).2.1
 ·have c:(CA d).2=0:=by simpa using ‹((CA d).2 != 0)=false›
  have h1:A0 d=LD d:=by
   unfold A0;rw[An (by rw[c];simp),An (by omega),BY a]
  exact fI b [.tmp 2] (by rw[h1];exact eR)
 ·have c:(CA d).2=0:=by simpa using ‹((CA d).2 != 0)=false›
  have v:LD d=0:=by simpa using a
  obtain⟨e,C,B⟩:=BZ c;obtain⟨H,r,-⟩:=A1 e;have E:=Qk e v;have K:=O7 e;have M:=wX e;have D:(AM d).length<=256:=by rw[IL];exact C
  have g:A0 d=if ((BO d).all λs=>(Df d s).2)=false then 10 else if X1 d (CA d).1 (BO d) (CA d).1.length=true then 11 else 0:=by
   unfold A0;rw[An (by rw[c];simp),An (by omega),An (by rw[v];simp)]
  rw[B]at g ⊢;generalize AM d=l at *;generalize BO d=f at *;refine AJ (ι:={i:Nat//i<=f.length/\((f.take i).all λs=>(Df d s).2)=true}) (λi=>⟨[(0,.p FE d),(3,.p J7 l),(5,.p F1 f),(7,.p (.int .i64) (i.1:Int))],[]⟩) (λi=>f.length-i.1) ⟨0,IS _,rfl⟩ (eW []) (λi=>?_)
  ·obtain⟨i,hi,n⟩:=i;have G:=λh:i<f.length=>Ge f ByteArray.empty (λs=>(Df d s).2) h;simp only;repeat'(first|exact trivial|refine eS rfl ?_|refine AB ?_|refine rX b ?_ ?_|refine rC ?_ ?_<;>intro a<;>try(cases a;done))
   ·exact⟨a,H,r⟩
   ·have j:i<f.length:=IN.1 (by assumption);have z:(f.all λs=>(Df d s).2)=false:=by
     rw[AEf];intro h;have:=Is.1 h _ (AE f ByteArray.empty j);rw[show (Df d (f.getD i ByteArray.empty)).2=false from a]at this;cases this
    rw[BY z]at g;exact fI b [.tmp 2] (by rw[g];exact eR)
   ·omega
   ·have j:i<f.length:=IN.1 (by assumption);refine⟨⟨i+1,j,?_⟩,by simp only;omega,AC [] rfl rfl ?_ ?_⟩
    ·rw[G j,n];exact a
    ·exact eN
    ·exact eN
   ·have j:f.take i=f:=As (UA.1 a);rw[j]at n;rw[An (by rw[n];simp)]at g;refine AJ (ι:={t:Nat//t<=l.length/\X1 d l f t=false}) (λt=>⟨[(0,.p FE d),(3,.p J7 l),(5,.p F1 f),(10,.p (.int .i64) (t.1:Int))],[]⟩) (λt=>l.length-t.1) ⟨0,IS _,rfl⟩ (eW []) (λt=>?_)
    ·obtain⟨t,N,y⟩:=t;have J:=iV d l f t;simp only;repeat'(first|exact trivial|refine eS rfl ?_|refine rX b ?_ ?_|refine rC ?_ ?_<;>intro a<;>try(cases a;done))
     ·have w:t<l.length:=IN.1 a;refine AJ (ι:={k:Nat//k<=f.length/\(f.take k).any (LF d l t)=false}) (λk=>⟨[(0,.p FE d),(3,.p J7 l),(5,.p F1 f),(10,.p (.int .i64) (t:Int)),(11,.p (.int .i64) (k.1:Int))],[]⟩) (λk=>f.length-k.1) ⟨0,IS _,rfl⟩ (eW []) (λk=>?_)
      ·obtain⟨k,hk,o⟩:=k;have F:=λh:k<f.length=>NR f ByteArray.empty (LF d l t) h;simp only;repeat'(first|exact trivial|refine eS rfl ?_|refine AB ?_|refine rX b ?_ ?_|refine rC ?_ ?_<;>intro a<;>try(cases a;done))
       ·exact⟨a,E,by assumption,D,K⟩
       ·have m:k<f.length:=IN.1 (by assumption);have q:LF d l t (f.getD k ByteArray.empty)=true:=by
         unfold LF;rw[AT,YD];exact a
        have A:X1 d l f l.length=true:=by
         unfold X1;rw[UF];exact⟨t,UM.2 w,JB f ByteArray.empty _ m q⟩
        rw[BY A]at g;exact fI b [.tmp 2] (by rw[g];exact eR)
       ·omega
       ·have m:k<f.length:=IN.1 (by assumption);have q:LF d l t (f.getD k ByteArray.empty)=false:=by
         rw[AEf];unfold LF;intro h;rw[AT,YD]at h;exact a h.1 h.2
        refine⟨⟨k+1,m,?_⟩,by simp only;omega,AC [] rfl rfl ?_ ?_⟩
        ·rw[F m,o,q];rfl
        ·exact eN
        ·exact eN
       ·omega
       ·have m:f.take k=f:=As (UA.1 a);rw[m]at o;refine⟨⟨t+1,w,?_⟩,by simp only;omega,AC [] rfl rfl ?_ ?_⟩
        ·rw[J,y];exact o
        ·exact eN
        ·exact eN
     ·have I:t=l.length:=by exact eV
      subst I;rw[An (by rw[y];simp)]at g;exact fI b [.tmp 2] (by rw[g];exact eR)
end
section
attribute [local go_sem] Un R9 WL cO Um
abbrev ZS:=ByteArray×Int
theorem CE {d:List AI} (h:A0 d=0):(CA d).2=0/\(BO d).length<=64/\LD d=0:=by
 unfold A0 at h;split at h
 ·rename_i h1;exact absurd h h1
 ·rename_i h1;split at h
  ·cases h
  ·rename_i b;split at h
   ·rename_i a;exact absurd h a
   ·rename_i a;exact⟨Do h1,by omega,Do a⟩
def Ql (d:List AI) (s:ByteArray):ZS:=(s,BN (AM d) (Df d s).1)
def ET (d:List AI):List ZS×Int:=if A0 d≠0 then ([],A0 d) else ((BO d).map (Ql d),0)
theorem EU {α β:Type} (f:α->β) (l:List α) (d:α) {k:Nat} (h:k<l.length):(l.take (k+1)).map f=(l.take k).map f++[f (l.getD k d)]:=by
 rw[Az l d h,YK];rfl
theorem cR {α β:Type} (f:α->β) (l:List α) {k:Nat} (h:k<=l.length):((l.take k).map f).length=k:=by simp[h]
def SA:Aa:={ ins:=[FE],pre:=λ_=>True,out:=λ(d,_)=>[.p WB (ET d).1,.p Lr (ET d).2] }
theorem iW:Ab Tryz.prog 120 SA:=by
 refine fK [0,2,3,4,5,7,8,9,10,15,27] Tryz.func120 Tryz.ntmps120 (AF ZR (AF Qj (AF WM (AF iQ (AF ZH AG))))) ?_;rintro w0 O0 ⟨d,u⟩ g - -;simp only[SA,AL];repeat'(first|exact trivial|refine eS rfl ?_|refine rX g ?_ ?_|refine rC ?_ ?_<;>intro a<;>try(cases a;done))
 ·have h1:ET d=([],A0 d):=by unfold ET;rw[BY a]
  exact fI g [.tmp 2,.tmp 3] (by rw[h1];exact eR)
 ·have c:A0 d=0:=by simpa using a
  obtain⟨k,-,-⟩:=CE c;obtain⟨b,-,-⟩:=BZ k;exact⟨(A1 b).2.1,λx r=>(LE b x r).2⟩
 ·have c:A0 d=0:=by simpa using a
  obtain⟨k,s,-⟩:=CE c;obtain⟨b,-,m⟩:=BZ k;obtain⟨q,l,-⟩:=A1 b;have o:ET d=((BO d).map (Ql d),0):=by unfold ET;rw[An (by rw[c];simp)]
  rw[m];generalize BO d=f at *;refine AJ (ι:={i:Nat//i<=f.length}) (λi=>⟨[(0,.p FE d),(5,.p J7 (AM d)),(7,.p F1 f),(8,.sr 49 A2m 0 ((f.take i.1).map (Ql d)).length),(9,.p (.int .i64) (i.1:Int))],[(49,.arr 163 A2m ((f.take i.1).map (Ql d)))]⟩) (λi=>f.length-i.1) ⟨0,IS _⟩ (eW [(49,.nil)]) (λi=>?_)
  ·obtain⟨i,hi⟩:=i;have n:=cR (Ql d) f hi;have hs:=λh:i<f.length=>EU (Ql d) f ByteArray.empty h;simp only;repeat'(first|exact trivial|refine eS rfl ?_|refine AB ?_|refine rX g ?_ ?_|refine rC ?_ ?_<;>intro a<;>try(cases a;done))
   ·exact⟨a,q,l⟩
   ·refine⟨a,?_⟩;rw[n];simp only[AP];omega
   ·omega
   ·have j:i<f.length:=IN.1 a;have e:=hs j;refine⟨⟨i+1,j⟩,by simp only;omega,AC [(49,.nm 49)] rfl rfl ?_ ?_⟩
    ·simp only[e];refine eM ?_;rfl
    ·simp only[e];exact eN
   ·have j:f.take i=f:=As (UA.1 a);rw[j];refine FP [49] ?_;exact fI g [.tmp 2,.tmp 3] (by rw[o];exact eR)
end
section
attribute [local go_sem] Un R9 WL A6V mW
def Tu (d:List AI) (l:List AQ) (f:List ByteArray) (t:Nat) (n:Nat):List (Int×Int) :=
 ((List.range n).filter λ(i:Nat)=>(Fa d l (t:Int) (f.getD i ByteArray.empty)).2).map λ(i:Nat)=>((i:Int),HL l (Fa d l (t:Int) (f.getD i ByteArray.empty)).1)
def KC (d:List AI) (l:List AQ) (f:List ByteArray) (n:Nat):List (List (Int×Int)):=(List.range n).map λt=>Tu d l f t f.length
def BC (d:List AI):List (List (Int×Int))×Int:=if A0 d≠0 then ([],A0 d) else (KC d (AM d) (BO d) (AM d).length,0)
theorem ZT (d:List AI) (l:List AQ) (f:List ByteArray) (t n:Nat):Tu d l f t (n+1)=Tu d l f t n++if (Fa d l (t:Int) (f.getD n ByteArray.empty)).2=true then [((n:Int),HL l (Fa d l (t:Int) (f.getD n ByteArray.empty)).1)] else []:=by
 unfold Tu;rw[YF,AEq,YK]
 congr 1
 rw[dO,AEB];split<;>rfl
theorem A30 (d:List AI) (l:List AQ) (f:List ByteArray) (t n:Nat):(Tu d l f t n).length<=n:=by
 unfold Tu;rw[Of];exact UD (YH _ _) (by simp)
theorem nF (d:List AI) (l:List AQ) (f:List ByteArray) (n:Nat):KC d l f (n+1)=KC d l f n++[Tu d l f n f.length]:=by simp[KC,YF]
theorem ZU (d:List AI) (l:List AQ) (f:List ByteArray) (n:Nat):(KC d l f n).length=n:=by simp[KC]
theorem A31 {d:List AI} {l:List AQ} (h:∀x∈l,x.2.length<=64) (t:Int) (s:ByteArray):(Fa d l t s).1.length<=64:=by
 unfold Fa;refine WU t s d ?_;rw[AS];cases hh:l[0]? with
 | none=>simp
 | some x=>exact h x (gO hh)
def WV:Aa:={ ins:=[FE],pre:=λ_=>True,out:=λ(d,_)=>[.p A5x (BC d).1,.p Lr (BC d).2] }
theorem nG:Ab Tryz.prog 117 WV:=by
 refine fK [0,2,3,4,5,7,8,9,10,11,12,13,17,29,35,49] Tryz.func117 Tryz.ntmps117 (AF ZR (AF Qj (AF WM (AF A2Z (AF A2M AG))))) ?_;rintro w0 O0 ⟨d,u⟩ e - -;simp only[WV,AL];repeat'(first|exact trivial|refine eS rfl ?_|refine rX e ?_ ?_|refine rC ?_ ?_<;>intro a<;>try(cases a;done))
 ·have h1:BC d=([],A0 d):=by unfold BC;rw[BY a]
  exact fI e [.tmp 2,.tmp 3] (by rw[h1];exact eR)
 ·have h:A0 d=0:=by simpa using a
  obtain⟨m,-,-⟩:=CE h;obtain⟨b,-,-⟩:=BZ m;exact⟨(A1 b).2.1,λx z=>(LE b x z).2⟩
 ·have h:A0 d=0:=by simpa using a
  obtain⟨m,B,o⟩:=CE h;obtain⟨b,j,r⟩:=BZ m;obtain⟨D,A,-⟩:=A1 b;have y:BC d=(KC d (AM d) (BO d) (AM d).length,0):=by unfold BC;rw[An (by rw[h];simp)]
  have w:=Qk b o;have n:=O7 b;have v:(AM d).length<=256:=by rw[IL];exact j
  rw[r];generalize AM d=l at *;generalize BO d=f at *;have q:=λt s=>A31 (d:=d) n t s;refine AJ (ι:={t:Nat//t<=l.length}) (λt=>⟨[(0,.p FE d),(5,.p J7 l),(7,.p F1 f),(8,.sr 61 WC 0 (KC d l f t.1).length),(9,.p (.int .i64) (t.1:Int))],[(61,.arr 142 WC (KC d l f t.1))]⟩) (λt=>l.length-t.1) ⟨0,IS _⟩ (AC [(61,.nil)] rfl rfl ?_ ?_) (λt=>?_)
  ·refine eM ?_;rfl
  ·refine eM ?_;rfl
  ·obtain⟨t,E⟩:=t;have j:=ZU d l f t;have hs:=nF d l f t;simp only;repeat'(first|exact trivial|refine eS rfl ?_|refine rX e ?_ ?_|refine rC ?_ ?_<;>intro a<;>try(cases a;done))
   ·refine AJ (ι:={i:Nat//i<=f.length}) (λi=>⟨[(0,.p FE d),(5,.p J7 l),(7,.p F1 f),(8,.sr 61 WC 0 (KC d l f t).length),(9,.p (.int .i64) (t:Int)),(10,.sr 57 A2n 0 (Tu d l f t i.1).length),(11,.p (.int .i64) (i.1:Int))],[(61,.arr 142 WC (KC d l f t)),(57,.arr 170 A2n (Tu d l f t i.1))]⟩) (λi=>f.length-i.1) ⟨0,IS _⟩ (AC [(61,.nm 61),(57,.nil)] rfl rfl ?_ ?_) (λi=>?_)
    ·refine eM ?_;rfl
    ·refine eM ?_;rfl
    ·obtain⟨i,hi⟩:=i;have C:=A30 d l f t i;have c:=ZT d l f t i;simp only;repeat'(first|exact trivial|refine eS rfl ?_|refine AB ?_|refine rX e ?_ ?_|refine rC ?_ ?_<;>intro a<;>try(cases a;done))
     ·exact⟨a,w,by assumption,v,n⟩
     ·refine⟨UD (q _ _) (by decide),?_⟩;simp only[AP];omega
     ·omega
     ·have g:i<f.length:=IN.1 (by assumption);rw[BY a]at c;refine⟨⟨i+1,g⟩,by simp only;omega,AC [(61,.nm 61),(57,.nm 57)] rfl rfl ?_ ?_⟩
      ·simp only[c];exact eN
      ·simp only[c];exact eN
     ·omega
     ·have g:i<f.length:=IN.1 (by assumption);rw[An (by rw[a];simp),UO]at c;refine⟨⟨i+1,g⟩,by simp only;omega,AC [(61,.nm 61),(57,.nm 57)] rfl rfl ?_ ?_⟩
      ·simp only[c];exact eN
      ·simp only[c];exact eN
     ·rw[j];simp only[AP];omega
     ·omega
     ·have k:t<l.length:=IN.1 (by assumption);have g:i=f.length:=by omega
      subst g;refine⟨⟨t+1,k⟩,by simp only;omega,AC [(61,.nm 61)] rfl rfl ?_ ?_⟩
      ·simp only[hs];exact eN
      ·simp only[hs];exact eN
   ·have k:t=l.length:=by omega
    subst k;refine FP [61] ?_;exact fI e [.tmp 2,.tmp 3] (by rw[y];exact eR)
end
section
attribute [local go_sem] cs0
def Lb (l:List ByteArray) (n:Nat):List FV:=(List.range n).map λk=>(l.getD (2*k) ByteArray.empty,l.getD (2*k+1) ByteArray.empty)
theorem WW (l:List ByteArray) (n:Nat):Lb l (n+1)=Lb l n++[(l.getD (2*n) ByteArray.empty,l.getD (2*n+1) ByteArray.empty)]:=by simp[Lb,YF]
theorem ZV (l:List ByteArray) (n:Nat):(Lb l n).length=n:=by simp[Lb]
def cS (s:ByteArray):List ByteArray:=if AY s ByteArray.empty=true then [] else [s]
def GT (n s:ByteArray) (l:List ByteArray):AI:=(n,cS s,Lb l (l.length / 2))
def A32:Aa:={ ins:=[T9,T9,F1],pre:=λ(_,_,l,_)=>List.length l<=1000,out:=λ(n,s,l,_)=>[.p zT (GT n s l)] }
theorem A6W:Ab Tryz.prog 121 A32:=by
 refine fK [0,1,2,6,7,8,12,20] Tryz.func121 Tryz.ntmps121 AG ?_;rintro w0 O0 ⟨n,s,l,u⟩ b-i;have i:l.length<=1000:=i;simp only[A32,AL];repeat'(first|exact trivial|refine eS rfl ?_|refine AB ?_|refine rX b ?_ ?_|refine rC ?_ ?_<;>intro a<;>try(cases a;done))
 ·have f:=a;refine FP [14] ?_;refine AJ (ι:={k:Nat//2*k<=l.length}) (λk=>⟨[(2,.p F1 l),(6,.bp 6 [] 0),(7,.bp 7 [] 0),(8,.p (.int .i64) ((2*k.1:Nat):Int))],[(6,.box 158 true [.p T9 ByteArray.empty,.raw (.slice none 0 0),.raw (.slice none 0 0)]),(7,.box 158 true [.p T9 n,.p F1 [s],.sr 36 mJ 0 (Lb l k.1).length]),(36,.arr 161 mJ (Lb l k.1))]⟩) (λk=>l.length-2*k.1) ⟨0,IS _⟩ (AC [(6,.nm 6),(7,.nm 7),(36,.nil)] rfl rfl ?_ ?_) (λk=>?_)
  ·first|exact eN|refine eM ?_
   exact⟨rfl,rfl⟩
  ·first|exact eN|refine eM ?_
  ·obtain⟨k,hk⟩:=k;have g:=ZV l k;have d:=WW l k;simp only;repeat'(first|exact trivial|refine eS rfl ?_|refine AB ?_|refine rX b ?_ ?_|refine rC ?_ ?_<;>intro a<;>try(cases a;done))
   ·exact eV
   ·refine⟨by exact eV,⟨by exact eV,by exact eV⟩,⟨by exact eV,by exact eV⟩,?_⟩;rw[g];simp only[AP];exact eV
   ·exact eV
   ·have c:2*k+1<l.length:=by exact eV
    have e:((2*k:Nat):Int)+1=((2*k+1:Nat):Int):=by omega
    refine⟨⟨k+1,by omega⟩,by simp only;omega,AC [(6,.nm 6),(7,.nm 7),(36,.nm 36)] rfl rfl ?_ ?_⟩
    ·simp only[d];first|exact eN|refine eM ?_
     rw[e];rfl
    ·simp only[d];first|exact eN|refine eM ?_
     show ((2*k:Nat):Int)+2=((2*(k+1):Nat):Int);omega
   ·have c:k=l.length / 2:=by exact eV
    refine FP [36] ?_;have h:GT n s l=(n,[s],Lb l k):=by
     unfold GT cS;rw[<-c,An (by rw[show AY s ByteArray.empty=false from f];simp)]
    exact fI b [.cell 6 158] (by rw[h];exact eR)
 ·have f:=a;refine AJ (ι:={k:Nat//2*k<=l.length}) (λk=>⟨[(2,.p F1 l),(6,.bp 6 [] 0),(7,.bp 7 [] 0),(8,.p (.int .i64) ((2*k.1:Nat):Int))],[(6,.box 158 true [.p T9 ByteArray.empty,.raw (.slice none 0 0),.raw (.slice none 0 0)]),(7,.box 158 true [.p T9 n,.p F1 ([]:List ByteArray),.sr 36 mJ 0 (Lb l k.1).length]),(36,.arr 161 mJ (Lb l k.1))]⟩) (λk=>l.length-2*k.1) ⟨0,IS _⟩ (AC [(6,.nm 6),(7,.nm 7),(36,.nil)] rfl rfl ?_ ?_) (λk=>?_)
  ·first|exact eN|refine eM ?_
   exact⟨rfl,rfl⟩
  ·first|exact eN|refine eM ?_
  ·obtain⟨k,hk⟩:=k;have g:=ZV l k;have d:=WW l k;simp only;repeat'(first|exact trivial|refine eS rfl ?_|refine AB ?_|refine rX b ?_ ?_|refine rC ?_ ?_<;>intro a<;>try(cases a;done))
   ·exact eV
   ·refine⟨by exact eV,⟨by exact eV,by exact eV⟩,⟨by exact eV,by exact eV⟩,?_⟩;rw[g];simp only[AP];exact eV
   ·exact eV
   ·have c:2*k+1<l.length:=by exact eV
    have e:((2*k:Nat):Int)+1=((2*k+1:Nat):Int):=by omega
    refine⟨⟨k+1,by omega⟩,by simp only;omega,AC [(6,.nm 6),(7,.nm 7),(36,.nm 36)] rfl rfl ?_ ?_⟩
    ·simp only[d];first|exact eN|refine eM ?_
     rw[e];rfl
    ·simp only[d];first|exact eN|refine eM ?_
     show ((2*k:Nat):Int)+2=((2*(k+1):Nat):Int);omega
   ·have c:k=l.length / 2:=by exact eV
    refine FP [36] ?_;have h:GT n s l=(n,([]:List ByteArray),Lb l k):=by
     unfold GT cS;rw[<-c,BY (show AY s ByteArray.empty=true from f)]
    exact fI b [.cell 6 158] (by rw[h];exact eR)
end
section
attribute [local go_sem] A32 cs0 cs1 cs2 cs3 cs4 cs5 cs6 cs7 cs8
def Cw:List AI:=[
 GT { data:=#[116,111,112] } { data:=#[] } [],
 GT { data:=#[108,105,115,116] } { data:=#[116,111,112] } [],
 GT { data:=#[99,111,110,115] } { data:=#[108,105,115,116] } [{ data:=#[70,73,82,83,84] },{ data:=#[116,111,112] },{ data:=#[82,69,83,84] },{ data:=#[108,105,115,116] }],
 GT { data:=#[110,117,108,108] } { data:=#[108,105,115,116] } [],
 GT { data:=#[100,108,105,115,116] } { data:=#[116,111,112] } [{ data:=#[76,73,83,84] },{ data:=#[108,105,115,116] },{ data:=#[76,65,83,84] },{ data:=#[108,105,115,116] }],
 GT { data:=#[105,110,100,101,120] } { data:=#[116,111,112] } [],
 GT { data:=#[104,97,110,100,108,101] } { data:=#[105,110,100,101,120] } [],
 GT { data:=#[101,118,101,110,116] } { data:=#[105,110,100,101,120] } [],
 GT { data:=#[101,110,116,105,116,121] } { data:=#[105,110,100,101,120] } [],
 GT { data:=#[114,101,108] } { data:=#[116,111,112] } [{ data:=#[76,65,66,69,76] },{ data:=#[104,97,110,100,108,101] }],
 GT { data:=#[113,101,113] } { data:=#[116,111,112] } [{ data:=#[72,73,71,72] },{ data:=#[104,97,110,100,108,101] },{ data:=#[76,79,87] },{ data:=#[104,97,110,100,108,101] }],
 GT { data:=#[115,101,109] } { data:=#[116,111,112] } [{ data:=#[84,79,80] },{ data:=#[104,97,110,100,108,101] },{ data:=#[73,78,68,69,88] },{ data:=#[105,110,100,101,120] },{ data:=#[82,69,76,83] },{ data:=#[100,108,105,115,116] },{ data:=#[67,79,78,83] },{ data:=#[100,108,105,115,116] }],
 GT { data:=#[115,105,103,110] } { data:=#[116,111,112] } [{ data:=#[83,69,77] },{ data:=#[115,101,109] },{ data:=#[65,82,71,83] },{ data:=#[108,105,115,116] }]]
def KD:Aa:={ ins:=[],pre:=λ_=>True,out:=λ_=>[.p FE Cw] }
theorem WX:Ab Tryz.prog 63 KD:=by
 refine qJ [0] [3,6,12,14,16,18,20] [] Tryz.func63 Tryz.ntmps63 (AF A6W AG) ?_;rintro w0 O0 u a - -;simp only[KD,AL];repeat'(first|exact trivial|refine eS rfl ?_|refine rX a ?_ ?_)
 exact fI a [.tmp 0] (by unfold Cw;exact eR)
end
section
attribute [local go_sem] WV R9 A2V SA
abbrev G8:=ByteArray×List Int×List Int×List (Int×Int)
abbrev AH:=List G8×List ZS
def Ee (l:List AQ) (v:List (List (Int×Int))) (n:Nat):List G8:=(List.range n).map λi=>((l.getD i c0).1,(l.getD i c0).2,ZP l (i:Int),v.getD i [])
theorem nH (l:List AQ) (v:List (List (Int×Int))) (n:Nat):Ee l v (n+1)=Ee l v n++[((l.getD n c0).1,(l.getD n c0).2,ZP l (n:Int),v.getD n [])]:=by simp[Ee,YF]
theorem KE (l:List AQ) (v:List (List (Int×Int))) (n:Nat):(Ee l v n).length=n:=by simp[Ee]
def Bt (d:List AI):AH:=(Ee (AM d) (BC d).1 (AM d).length,(ET d).1)
def Ax (d:List AI):AH×Int:=if (BC d).2≠0 then (([],[]),(BC d).2) else (Bt d,0)
def KF:Aa:={ ins:=[FE],pre:=λ_=>True,out:=λ(d,_)=>[.p ER (Ax d).1,.p Lr (Ax d).2] }
theorem nI:Ab Tryz.prog 62 KF:=by
 refine fK [0,2,3,4,5,6,8,9,10,18,29] Tryz.func62 Tryz.ntmps62 (AF nG (AF Qj (AF A6T (AF iW AG)))) ?_;rintro w0 O0 ⟨d,u⟩ b - -;simp only[KF,AL];repeat'(first|exact trivial|refine eS rfl ?_|refine rX b ?_ ?_|refine rC ?_ ?_<;>intro a<;>try(cases a;done))
 ·have h1:Ax d=(([],[]),(BC d).2):=by unfold Ax;rw[BY a]
  exact fI b [.cell 2 31,.tmp 3] (by rw[h1];exact eR)
 ·have c:(BC d).2=0:=by simpa using a
  have f:A0 d=0:=by
   unfold BC at c;split at c
   ·rename_i h;exact absurd c h
   ·rename_i h;exact Do h
  obtain⟨t,x,w⟩:=CE f;obtain⟨j,m,k⟩:=BZ t;have g:Ax d=(Bt d,0):=by unfold Ax;rw[An (by rw[c];simp)]
  have r:(BC d).1.length=(AM d).length:=by
   unfold BC;rw[An (by rw[f];simp)];exact ZU _ _ _ _
  have s:=O7 j;have o:(AM d).length<=256:=by rw[IL];exact m
  unfold Bt at g;rw[k];generalize AM d=l at *;generalize (BC d).1=v at *;refine AJ (ι:={n:Nat//n<=l.length}) (λn=>⟨[(0,.p FE d),(2,.bp 2 [] 0),(4,.p A5x v),(6,.p J7 l),(8,.bp 8 [] 0),(9,.p (.int .i64) (n.1:Int))],[(2,.box 31 true [.raw (.slice none 0 0),.raw (.slice none 0 0)]),(8,.box 31 true [.sr 53 mK 0 (Ee l v n.1).length,.raw (.slice none 0 0)]),(53,.arr 144 mK (Ee l v n.1))]⟩) (λn=>l.length-n.1) ⟨0,IS _⟩ (AC [(2,.nm 2),(8,.nm 8),(53,.nil)] rfl rfl ?_ ?_) (λn=>?_)
  ·refine eM ?_;exact⟨rfl,rfl⟩
  ·exact eN
  ·obtain⟨n,hn⟩:=n;have q:=KE l v n;have i:=nH l v n;simp only;repeat'(first|exact trivial|refine eS rfl ?_|refine AB ?_|refine rX b ?_ ?_|refine rC ?_ ?_<;>intro a<;>try(cases a;done))
   ·refine⟨a,a,⟨a,o,s⟩,by rw[r];exact a,?_⟩;rw[q];simp only[AP];omega
   ·omega
   ·have e:n<l.length:=IN.1 a;refine⟨⟨n+1,e⟩,by simp only;omega,AC [(2,.nm 2),(8,.nm 8),(53,.nm 53)] rfl rfl ?_ ?_⟩
    ·simp only[i];exact eN
    ·simp only[i];exact eN
   ·have e:n=l.length:=by omega
    subst e;refine FP [53] ?_;exact fI b [.cell 2 31,.tmp 3] (by rw[g];exact eR)
def IP (d:List AI):AH:=if d.length<=20/\(Ax d).2=0 then (Ax d).1 else (Ax Cw).1
end
abbrev AD2:=Int×List (Int×Int)
def Fb (f:List AD2):Bool:=decide (f.length<=12)&&f.all λn=>decide (n.2.length<=12)
def LG:Aa:={ ins:=[Da],pre:=λ_=>True,out:=λ(f,_)=>[.p .bool (Fb f)] }
theorem A33:Ab Tryz.prog 18 LG:=by
 refine fK [0,1,2,3,7,12,22] Tryz.func18 Tryz.ntmps18 AG ?_;rintro w0 O0 ⟨l,u⟩ a e f;simp only[LG,AL];repeat'(first|exact trivial|refine eS rfl ?_|refine rX a ?_ ?_|refine rC ?_ ?_<;>intro b<;>try(cases b;done))
 ·have h1:Fb l=false:=by
   have h:¬(List.length l<=12):=by exact eV
   unfold Fb;rw[ADY h];rfl
  exact fI a [.tmp 2] (by rw[h1];exact eR)
 ·refine AJ (ι:={k:Nat//k<=l.length/\(l.take k).all (λn=>decide (n.2.length<=12))=true}) (λk=>⟨[(0,.p Da l),(1,.bp 1 [] 0),(3,.p (.int .i64) (k.1:Int))],[(1,.box 25 true [.p FQ l])]⟩) (λk=>l.length-k.1) ⟨0,by simp⟩ (AC [(1,.nm 1)] rfl rfl ?_ ?_) (λk=>?_)
  ·exact eN
  ·exact eN
  ·obtain⟨k,hk,c⟩:=k;repeat'(first|exact trivial|refine eS rfl ?_|refine AB ?_|refine rX a ?_ ?_|refine rC ?_ ?_<;>intro b<;>try(cases b;done))
   ·exact eV
   ·have h1:Fb l=false:=by
     have hk:k<l.length:=by exact eV
     have h:=AE l (0,[]) hk;unfold Fb;rw[ADt];right;rw[ADW];exact⟨_,h,by simp only[Fe];exact eV⟩
    exact fI a [.tmp 2] (by rw[h1];exact eR)
   ·exact eV
   ·have hk:k<l.length:=by exact eV
    refine⟨⟨k+1,by exact eV,?_⟩,by simp only;exact eV,AC [(1,.nm 1)] rfl rfl ?_ ?_⟩
    ·have h1:=Az l (0,[]) hk;have d:((l.take (k+1)).all λn=>decide (n.2.length<=12))=_:=ADx (λx=>List.all x λn=>decide (n.2.length<=12)) h1;rw[d,AED,c];simp only[AE7,List.all_nil,Bool.and_true,AFr,Fe];exact eV
    ·exact eN
    ·exact eN
   ·have h1:Fb l=true:=by
     have hk:l.take k=l:=As (by exact eV);rw[hk]at c;unfold Fb;rw[c,ADX (by exact eV)];rfl
    exact fI a [.tmp 2] (by rw[h1];exact eR)
def G9 (n:Int) (seen:List (Int×Int)):List (Int×Int)->Int
 | []=>0
 | x :: r=>if x.1<0\/x.2<0\/n<=x.2 then 2 else if (seen.any λy=>y.1==x.1)=true then 4 else G9 n (seen++[x]) r
def IQ (l:List (Int×Int)) (n:Int):Int:=G9 n [] l
def iX:Aa:={ ins:=[DS,T3],pre:=λ_=>True,out:=λ(l,n,_)=>[.p Lr (IQ l n)] }
theorem O8 (n:Int) (l:List (Int×Int)) {k:Nat} (h:k<l.length):G9 n (l.take k) (l.drop k)=if (l.getD k (0,0)).1<0\/(l.getD k (0,0)).2<0\/n<=(l.getD k (0,0)).2 then 2 else if ((l.take k).any λy=>y.1==(l.getD k (0,0)).1)=true then 4 else G9 n (l.take (k+1)) (l.drop (k+1)):=by
 rw[Az l (0,0) h,TO h,AS,At h];rfl
theorem YV (l:List (Int×Int)) (f:Int) {k:Nat} (h:k<l.length):((l.take (k+1)).any λy=>y.1==f)=((l.take k).any (λy=>y.1==f)||((l.getD k (0,0)).1==f)):=by
 rw[Az l (0,0) h,AEC];simp
theorem A6X:Ab Tryz.prog 174 iX:=by
 refine fK [0,1,4,5,6,10,35,38,51] Tryz.func174 Tryz.ntmps174 AG ?_;rintro w0 O0 ⟨l,n,u⟩ b ⟨⟨h,-⟩,-⟩ -;simp only[AP]at h;simp only[iX,AL];repeat'(first|exact trivial|refine eS rfl ?_|refine rX b ?_ ?_)
 refine AJ (ι:={k:Nat//k<=l.length/\G9 n (l.take k) (l.drop k)=IQ l n}) (λk=>⟨[(0,.p DS l),(1,.p T3 n),(5,.p (.int .i64) (k.1:Int))],[]⟩) (λk=>l.length-k.1) ⟨0,by simp[IQ]⟩ (AC [] rfl rfl ?_ ?_) (λk=>?_)
 ·exact eN
 ·exact eN
 ·obtain⟨k,hk,c⟩:=k;repeat'(first|exact trivial|refine eS rfl ?_|refine rX b ?_ ?_|refine rC ?_ ?_<;>intro a<;>try(cases a;done))
  ·exact eV
  ·have hk:k<l.length:=by exact eV
   have h1:IQ l n=2:=by
    rw[<-c,O8 n l hk,BY (by rw[<-or_assoc];exact a)]
   exact fI b [.tmp 4] (by rw[h1];exact eR)
  ·have hk:k<l.length:=by exact eV
   have hn:¬((l.getD k (0,0)).1<0\/(l.getD k (0,0)).2<0\/n<=(l.getD k (0,0)).2):=by
    have:=a;generalize l.getD k (0,0)=x at this;exact eV
   rw[O8 n l hk,An hn]at c;refine AJ (ι:={j:Nat//j<=k/\((l.take j).any λy=>y.1==(l.getD k (0,0)).1)=false}) (λj=>⟨[(0,.p DS l),(1,.p T3 n),(5,.p (.int .i64) (k:Int)),(6,.p (.int .i64) (j.1:Int))],[]⟩) (λj=>k-j.1) ⟨0,by simp⟩ (AC [] rfl rfl ?_ ?_) (λj=>?_)
   ·exact eN
   ·exact eN
   ·obtain⟨j,i,f⟩:=j;repeat'(first|exact trivial|refine eS rfl ?_|refine AB ?_|refine rX b ?_ ?_|refine rC ?_ ?_<;>intro a<;>try(cases a;done))
    ·exact eV
    ·have e:j<l.length:=by exact eV
     have h1:IQ l n=4:=by
      have d:((l.take k).any λy=>y.1==(l.getD k (0,0)).1)=true:=by
       rw[UF];refine⟨l.getD j (0,0),?_,by simpa using a⟩;rw[AS,At e];exact AEt.2 ⟨j,by exact eV,rfl⟩
      rw[<-c,BY d]
     exact fI b [.tmp 4] (by rw[h1];exact eR)
    ·exact eV
    ·have e:j<l.length:=by exact eV
     refine⟨⟨j+1,by exact eV,?_⟩,by simp only;exact eV,AC [] rfl rfl ?_ ?_⟩
     ·have d:=YV l (l.getD k (0,0)).1 e;refine d.trans ?_;rw[f];simpa using a
     ·exact eN
     ·exact eN
    ·exact eV
    ·have g:j=k:=by exact eV
     subst g;refine⟨⟨j+1,by exact eV,?_⟩,by simp only;exact eV,AC [] rfl rfl ?_ ?_⟩
     ·rw[<-c,An (by rw[f];simp)]
     ·exact eN
     ·exact eN
  ·have h1:IQ l n=0:=by
    have hk:l.length<=k:=by exact eV
    rw[<-c,By hk];rfl
   exact fI b [.tmp 4] (by rw[h1];exact eR)
def WY (n:Int×List (Int×Int)):List Int:=n.1 :: (n.2.length:Int) :: n.2.flatMap λa=>[a.1,a.2]
def B2 (f:List (Int×List (Int×Int))):List Int:=(f.length:Int) :: f.flatMap WY
def YW (l:List (Int×List (Int×Int))) (k:Nat):List Int:=(l.length:Int) :: (l.take k).flatMap WY
def WZ (l:List (Int×List (Int×Int))) (k j:Nat):List Int:=YW l k++[(l.getD k (0,[])).1,((l.getD k (0,[])).2.length:Int)]++((l.getD k (0,[])).2.take j).flatMap λa=>[a.1,a.2]
theorem SB:∀l:List (Int×Int),(l.flatMap λa=>[a.1,a.2]).length=2*l.length
 | []=>rfl
 | x :: l=>by simp[SB l];omega
theorem A34 (n:Int×List (Int×Int)):(WY n).length=2+2*n.2.length:=by
 have:=SB n.2;simp only[WY,OS];omega
theorem Wa:∀l:List (Int×List (Int×Int)),(∀n∈l,n.2.length<=100000)->(l.flatMap WY).length<=l.length*200002
 | [],_=>by simp
 | x :: l,h=>by
  have h1:=h x (by simp);have a:=Wa l (λn hn=>h n (by simp[hn]));have b:=A34 x;simp only[AEF,GO,OS];omega
theorem iY {l:List (Int×List (Int×Int))} (h:∀n∈l,n.2.length<=100000) {k:Nat} (hk:k<=l.length):(YW l k).length<=1+k*200002:=by
 have h1:=Wa (l.take k) (λn hn=>h n (f6 hn));rw[ON,AEi hk]at h1;simp only[YW,OS];omega
theorem A35 {l:List (Int×List (Int×Int))} (h:∀n∈l,n.2.length<=100000) {k j:Nat} (hk:k<l.length) (b:j<=(l.getD k (0,[])).2.length):(WZ l k j).length<=3+k*200002+2*j:=by
 have h1:=iY h (AFd hk);have a:=SB ((l.getD k (0,[])).2.take j);rw[ON,AEi b]at a;simp only[WZ,GO,OS,ADw];omega
theorem ZW {l:List (Int×List (Int×Int))} {k:Nat} (hk:k<l.length):YW l (k+1)=WZ l k (l.getD k (0,[])).2.length:=by
 unfold YW WZ;rw[Az l (0,[]) hk,List.flatMap_append,UE];simp[WY,YW]
theorem ZX {l:List (Int×List (Int×Int))} {k j:Nat} (a:j<(l.getD k (0,[])).2.length):WZ l k (j+1)=WZ l k j++[((l.getD k (0,[])).2.getD j (0,0)).1,((l.getD k (0,[])).2.getD j (0,0)).2]:=by
 unfold WZ;rw[Az _ (0,0) a,List.flatMap_append];simp
def Wb:Aa:={ ins:=[Da],pre:=λ(f,_)=>f.length<=100000/\∀n∈f,n.2.length<=100000,out:=λ(f,_)=>[.p Ft (B2 f)] }
theorem nJ:Ab Tryz.prog 130 Wb:=by
 refine fK [0,1,2,3,4,5,6,15,38] Tryz.func130 Tryz.ntmps130 AG ?_;rintro w0 O0 ⟨l,u⟩ a ⟨h,-⟩ ⟨n,d⟩;simp only[Wb,AL];repeat'(first|exact trivial|refine eS rfl ?_|refine rX a ?_ ?_)
 refine AJ (ι:={k:Nat//k<=l.length}) (λk=>⟨[(0,.p Da l),(1,.bp 1 [] 0),(3,.sr 10 T3 0 (YW l k.1).length),(4,.p (.int .i64) (k.1:Int))],[(1,.box 25 true [.p FQ l]),(10,.arr 3 T3 (YW l k.1))]⟩) (λk=>l.length-k.1) ⟨0,by simp⟩ (AC [(1,.nm 1),(10,.nm 10)] rfl rfl ?_ ?_) (λk=>?_)
 ·refine eM ?_;rfl
 ·refine eM ?_;rfl
 ·obtain⟨k,hk⟩:=k;have i:=iY d hk;repeat'(first|exact trivial|refine eS rfl ?_|refine rX a ?_ ?_|refine rC ?_ ?_<;>intro c<;>try(cases c;done))
  ·exact eV
  ·refine⟨by exact eV,?_⟩;simp only[AP];exact eV
  ·have b:k<l.length:=by exact eV
   have o:=d _ (AE l (0,[]) b);refine AJ (ι:={j:Nat//j<=(l.getD k (0,[])).2.length}) (λj=>⟨[(0,.p Da l),(1,.bp 1 [] 0),(3,.sr 10 T3 0 (WZ l k j.1).length),(4,.p (.int .i64) (k:Int)),(5,.p DS (l.getD k (0,[])).2),(6,.p (.int .i64) (j.1:Int))],[(1,.box 25 true [.p FQ l]),(10,.arr 3 T3 (WZ l k j.1))]⟩) (λj=>(l.getD k (0,[])).2.length-j.1) ⟨0,by simp⟩ (AC [(1,.nm 1),(10,.nm 10)] rfl rfl ?_ ?_) (λj=>?_)
   ·refine eM ?_;simp[WZ]
   ·refine eM ?_;simp[WZ]
   ·obtain⟨j,f⟩:=j;have m:=A35 d b f;repeat'(first|exact trivial|refine eS rfl ?_|refine AB ?_|refine rX a ?_ ?_|refine rC ?_ ?_<;>intro c<;>try(cases c;done))
    ·refine⟨by exact eV,by exact eV,?_⟩;simp only[AP];exact eV
    ·exact eV
    ·have e:j<(l.getD k (0,[])).2.length:=by exact eV
     refine⟨⟨j+1,by exact eV⟩,by simp only;exact eV,AC [(1,.nm 1),(10,.nm 10)] rfl rfl ?_ ?_⟩
     ·refine eM ?_;exact(ZX e).symm
     ·refine eM ?_;have:=ADx List.length (ZX (l:=l) e);rw[GO]at this;exact this.symm
    ·exact eV
    ·have g:j=(l.getD k (0,[])).2.length:=by exact eV
     subst g;refine⟨⟨k+1,by exact eV⟩,by simp only;exact eV,AC [(1,.nm 1),(10,.nm 10)] rfl rfl ?_ ?_⟩
     ·refine eM ?_;exact(ZW b).symm
     ·refine eM ?_;exact ADx List.length (ZW b).symm
  ·have hk:l.take k=l:=As (by exact eV);have h1:YW l k=B2 l:=by unfold YW B2;rw[hk]
   exact fI a [.tmp 2] (by first|exact eR|refine YM ?_;exact h1)
section
attribute [local go_sem] Wb
def LH:List Int->List Int->Int
 | x :: xs,y :: ys=>if x<y then -1 else if y<x then 1 else LH xs ys
 | _,_=>0
theorem SC (xs ys:List Int) {k:Nat} (h1:k<xs.length) (a:k<ys.length):LH (xs.drop k) (ys.drop k)=if xs.getD k 0<ys.getD k 0 then -1 else if ys.getD k 0<xs.getD k 0 then 1 else LH (xs.drop (k+1)) (ys.drop (k+1)):=by
 rw[TO h1,TO a,AS,At h1,AS,At a];rfl
theorem A36 (xs ys:List Int) {k:Nat} (h:xs.length<=k\/ys.length<=k):LH (xs.drop k) (ys.drop k)=0:=by
 rcases h with h|h
 ·rw[By h];simp[LH]
 ·rw[By h];simp[LH]
def Cy (a b:List (Int×List (Int×Int))):Int:=LH (B2 a) (B2 b)
def Cz (f:List (Int×List (Int×Int))):Prop:=f.length<=100000/\∀n∈f,n.2.length<=100000
def Wc:Aa:={ ins:=[Da,Da],pre:=λ(a,b,_)=>Cz a/\Cz b,out:=λ(a,b,_)=>[.p T3 (Cy a b)] }
theorem Qm {f:List (Int×List (Int×Int))} (h:Cz f):(B2 f).length<=1+f.length*200002:=by
 have:=Wa f h.2;simp only[B2,OS];omega
theorem nK:Ab Tryz.prog 78 Wc:=by
 refine fK [0,1,2,3,4,5,6,7,21,32,41] Tryz.func78 Tryz.ntmps78 (AF nJ AG) ?_;rintro w0 O0 ⟨a,b,u⟩ e-⟨⟨g,i⟩,⟨j,l⟩⟩;have m:=Qm ⟨g,i⟩;have n:=Qm ⟨j,l⟩;simp only[Wc,AL];repeat'(first|exact trivial|refine eS rfl ?_|refine rX e ?_ ?_)
 ·exact⟨g,i⟩
 ·exact⟨j,l⟩
 ·refine AJ (ι:={k:Nat//LH ((B2 a).drop k) ((B2 b).drop k)=Cy a b}) (λk=>⟨[(5,.p Ft (B2 a)),(6,.p Ft (B2 b)),(7,.p (.int .i64) (k.1:Int))],[]⟩) (λk=>(B2 a).length-k.1) ⟨0,by simp[Cy]⟩ (AC [] rfl rfl ?_ ?_) (λk=>?_)
  ·exact eN
  ·exact eN
  ·obtain⟨k,hk⟩:=k;repeat'(first|exact trivial|refine eS rfl ?_|refine AB ?_|refine rX e ?_ ?_|refine rC ?_ ?_<;>intro f<;>try(cases f;done))
   ·exact eV
   ·obtain⟨h1,c⟩:k<(B2 a).length/\k<(B2 b).length:=by exact eV
    have d:Cy a b=-1:=by rw[<-hk,SC _ _ h1 c,BY f]
    exact fI e [.tmp 4] (by rw[d];exact eR)
   ·exact eV
   ·obtain⟨h1,c⟩:k<(B2 a).length/\k<(B2 b).length:=by exact eV
    have d:Cy a b=1:=by rw[<-hk,SC _ _ h1 c,An (by exact eV),BY f]
    exact fI e [.tmp 4] (by rw[d];exact eR)
   ·exact eV
   ·obtain⟨h1,c⟩:k<(B2 a).length/\k<(B2 b).length:=by exact eV
    refine⟨⟨k+1,?_⟩,by simp only;exact eV,AC [] rfl rfl ?_ ?_⟩
    ·rw[<-hk,SC _ _ h1 c,An (by exact eV),An (by exact eV)]
    ·exact eN
    ·exact eN
   ·have d:Cy a b=0:=by
     rw[<-hk];apply A36;by_cases h:k<(B2 a).length
     ·right;have:=f (by exact eV);exact eV
     ·left;exact eV
    exact fI e [.tmp 4] (by rw[d];exact eR)
def Jk:Aa:={ ins:=[Da,Da],pre:=λ(a,b,_)=>Cz a/\Cz b,out:=λ(a,b,_)=>[.p .bool (Cy a b==0)] }
end
section
attribute [local go_sem] Wc iX
theorem Wd:Ab Tryz.prog 25 Jk:=by
 refine fK [0,1,2,3,4] Tryz.func25 Tryz.ntmps25 (AF nK AG) ?_;rintro w0 O0 ⟨a,b,u⟩ c-d;simp only[Jk,AL];repeat'(first|exact trivial|refine eS rfl ?_|refine rX c ?_ ?_)
 ·exact d
 ·exact fI c [.tmp 4]
def HA (m:Int):List (Int×List (Int×Int))->Int
 | []=>0
 | n :: r=>if n.1<0 then 2 else if IQ n.2 m≠0 then IQ n.2 m else HA m r
def CJ (f:List (Int×List (Int×Int))):Int:=if f.length=0 then 1 else if 4096<f.length then 7 else HA f.length f
def A37:Aa:={ ins:=[Da],pre:=λ_=>True,out:=λ(f,_)=>[.p Lr (CJ f)] }
theorem IR (m:Int) (l:List (Int×List (Int×Int))) {k:Nat} (h:k<l.length):HA m (l.drop k)=if (l.getD k (0,[])).1<0 then 2 else if IQ (l.getD k (0,[])).2 m≠0 then IQ (l.getD k (0,[])).2 m else HA m (l.drop (k+1)):=by
 rw[TO h,AS,At h];rfl
theorem A6Y:Ab Tryz.prog 132 A37:=by
 refine fK [0,1,2,3,4,8,12,17,26,38] Tryz.func132 Tryz.ntmps132 (AF A6X AG) ?_;rintro w0 O0 ⟨l,u⟩ a ⟨f,-⟩ -;simp only[A37,AL];repeat'(first|exact trivial|refine eS rfl ?_|refine rX a ?_ ?_|refine rC ?_ ?_<;>intro b<;>try(cases b;done))
 ·have h1:CJ l=1:=by
   have h:l.length=0:=by exact eV
   unfold CJ;rw[BY h]
  exact fI a [.tmp 2] (by rw[h1];exact eR)
 ·have h1:CJ l=7:=by
   have h:¬l.length=0:=by exact eV
   have e:4096<l.length:=by exact eV
   unfold CJ;rw[An h,BY e]
  exact fI a [.tmp 2] (by rw[h1];exact eR)
 ·have h1:CJ l=HA l.length l:=by
   have h:¬l.length=0:=by exact eV
   have e:¬4096<l.length:=by exact eV
   unfold CJ;rw[An h,An e]
  refine AJ (ι:={k:Nat//k<=l.length/\HA l.length (l.drop k)=CJ l}) (λk=>⟨[(1,.bp 1 [] 0),(3,.p (.int .i64) (k.1:Int))],[(1,.box 25 true [.p FQ l])]⟩) (λk=>l.length-k.1) ⟨0,by simp[h1]⟩ (AC [(1,.nm 1)] rfl rfl ?_ ?_) (λk=>?_)
  ·exact eN
  ·exact eN
  ·obtain⟨k,hk,hf⟩:=k;repeat'(first|exact trivial|refine eS rfl ?_|refine AB ?_|refine rX a ?_ ?_|refine rC ?_ ?_<;>intro b<;>try(cases b;done))
   ·exact eV
   ·have d:k<l.length:=by exact eV
    have c:CJ l=2:=by rw[<-hf,IR _ _ d,BY b]
    exact fI a [.tmp 2] (by rw[c];exact eR)
   ·exact eV
   ·have d:k<l.length:=by exact eV
    have c:CJ l=IQ (l.getD k (0,[])).2 l.length:=by rw[<-hf,IR _ _ d,An (by exact eV),BY b]
    exact fI a [.tmp 2] (by rw[c];exact eR)
   ·exact eV
   ·have d:k<l.length:=by exact eV
    refine⟨⟨k+1,by exact eV,?_⟩,by simp only;exact eV,AC [(1,.nm 1)] rfl rfl ?_ ?_⟩
    ·rw[<-hf,IR _ _ d,An (by exact eV),An (by simpa using b)]
    ·exact eN
    ·exact eN
   ·have c:CJ l=0:=by
     have hk:l.length<=k:=by exact eV
     rw[<-hf,By hk];rfl
    exact fI a [.tmp 2] (by rw[c];exact eR)
end
def IT (x:Int×Int) (s:List (Int×Int)):Nat->Nat
 | 0=>0
 | n+1=>if x.1<(s.getD n (0,0)).1 then IT x s n else n+1
def O9 (s:List (Int×Int)) (x:Int×Int):List (Int×Int):=s.take (IT x s s.length)++[x]++s.drop (IT x s s.length)
def Ae (l:List (Int×Int)):List (Int×Int):=l.foldl O9 []
theorem Uo (x:Int×Int) (s:List (Int×Int)):∀n,IT x s n<=n
 | 0=>NO _
 | n+1=>by
  unfold IT;have:=Uo x s n;split<;>omega
theorem A38 (s:List (Int×Int)) (x:Int×Int):(O9 s x).length=s.length+1:=by
 have:=Uo x s s.length;simp[O9];omega
theorem Ha (l:List (Int×Int)) (x:Int×Int):Ae (l++[x])=O9 (Ae l) x:=by simp[Ae]
theorem Ma:∀(l s:List (Int×Int)),(l.foldl O9 s).length=s.length+l.length
 | [],s=>by simp
 | x :: l,s=>by simp[Ma l,A38];omega
theorem Cp (l:List (Int×Int)):(Ae l).length=l.length:=by simp[Ae,Ma]
def Qn:Aa:={ ins:=[DS],pre:=λ(l,_)=>l.length<=1000000,out:=λ(l,_)=>[.own 106 AU (Ae l)] }
theorem ZY:Ab Tryz.prog 152 Qn:=by
 refine fK [0,2,3,4,5,6,10,30] Tryz.func152 Tryz.ntmps152 AG ?_;rintro w0 O0 ⟨l,u⟩ c s j;simp only[Qn]at j;simp only[Qn,AL];repeat'(first|exact trivial|refine eS rfl ?_|refine rX c ?_ ?_)
 refine AJ (ι:={p:Nat//p<=l.length}) (λk=>⟨[(0,.p DS l),(3,.sr 10 AU 0 (Ae (l.take k.1)).length),(4,.p (.int .i64) (k.1:Int))],[(10,.arr 106 AU (Ae (l.take k.1)))]⟩) (λk=>l.length-k.1) ⟨0,by omega⟩ (AC [(10,.nil)] rfl rfl ?_ ?_) (λk=>?_)
 ·refine eM ?_;rfl
 ·refine eM ?_;rfl
 ·obtain⟨k,g⟩:=k;have o:(Ae (l.take k)).length=k:=by rw[Cp,ON];exact AEi g
  repeat'(first|exact trivial|refine eS rfl ?_|refine rX c ?_ ?_|refine rC ?_ ?_<;>intro b<;>try(cases b;done))
  ·refine AJ (ι:={q:Nat//q<=(Ae (l.take k)).length/\IT (l.getD k (0,0)) (Ae (l.take k)) q=IT (l.getD k (0,0)) (Ae (l.take k)) (Ae (l.take k)).length}) (λq=>⟨[(0,.p DS l),(3,.sr 10 AU 0 (Ae (l.take k)).length),(4,.p (.int .i64) (k:Int)),(5,.p (.int .i64) (q.1:Int))],[(10,.arr 106 AU (Ae (l.take k)))]⟩) (λq=>q.1) ⟨(Ae (l.take k)).length,by simp⟩ (eW [(10,.nm 10)]) (λq=>?_)
   ·obtain⟨q,m,hp⟩:=q;have h:k<l.length:=by omega
    have n:=l.length_take_le k;have d:(List.take q (Ae (List.take k l))).length=q:=by rw[ON];exact AEi m
    repeat'(first|exact trivial|refine eS rfl ?_|refine AB ?_|refine rX c ?_ ?_|refine rC ?_ ?_<;>intro b<;>try(cases b;done))
    ·exact eV
    ·exact eV
    ·obtain⟨h1,a⟩:=b;obtain⟨q,rfl⟩:∃r,q=r+1:=⟨q-1,by omega⟩;have e:((q+1:Nat):Int)-1=(q:Int):=by omega
     refine⟨⟨q,by omega,?_⟩,AF2 q,AC [(10,.nm 10)] rfl rfl ?_ ?_⟩
     ·rw[<-hp];simp only[IT];rw[e,UG]at a;rw[BY a]
     ·exact eN
     ·refine eM ?_;show (q:Int)+1-1=q;omega
    ·refine⟨by exact eV,?_⟩;rw[d];unfold AP;omega
    ·refine⟨by exact eV,?_⟩;rw[d];simp only[AP];omega
    ·refine⟨by exact eV,?_⟩;rw[d];simp only[AP,YE];omega
    ·exact eV
    ·have i:IT (l.getD k (0,0)) (Ae (l.take k)) q=q:=by
      cases q with
      | zero=>rfl
      | succ q =>
       have e:((q+1:Nat):Int)-1=(q:Int):=by omega
       have:=b (by omega);rw[e,UG]at this;simp only[IT];rw[An (by omega)]
     have h1:=Az l (0,0) h;have a:Ae (l.take (k+1))=_:=(ADx Ae h1).trans (Ha _ _);unfold O9 at a;rw[<-hp,i]at a;refine⟨⟨k+1,by exact eV⟩,by simp only;exact eV,AC [(10,.nm 37)] rfl rfl ?_ ?_⟩
     ·refine eM ?_;exact a.symm
     ·refine eM ?_;have f:=ADx List.length a;rw[GO,GO]at f;exact f.symm
  ·have hk:l.take k=l:=As (by exact eV);refine Od c (.inl rfl) (rv:=.tmp 2) rfl ?_;simp only[LV,Jb,Hv,go_sem,Nat.reduceEqDiff,reduceCtorEq,Nat.reduceAdd,Nat.reduceSub,Nat.reduceMul,Nat.reduceLeDiff,Nat.reduceLT,Int.reduceLE,Int.reduceToNat,Int.reduceNeg,↓reduceIte];rw[hk];first|rfl|exact⟨rfl,rfl⟩|exact⟨rfl,rfl,rfl⟩
section
attribute [local go_sem] Qn
abbrev AD:=Int×List (Int×Int)
def D9 (f:List AD):Nat->List Int×List Int->Int->List Int×List Int
 | 0,s,_=>s
 | k+1,s,n=>(Ae (f.getD n.toNat (0,[])).2).foldl (λs a=>if s.1.getD a.2.toNat 0<0 then D9 f k s a.2 else s) (s.1.set n.toNat (s.2.length:Int),s.2++[n])
def Lp (l:List Int):Nat:=l.countP (λx=>decide (x<0))
def AW (f:List AD):Prop:=f.length<=100000/\∀x∈f,x.2.length<=100000/\∀a∈x.2,0<=a.2/\a.2<(f.length:Int)
def Tv (f:List AD) (s:List Int×List Int):Prop:=s.1.length=f.length/\s.2.length+Lp s.1<=f.length
theorem A39 {l:List Int} {n:Nat} {v:Int} (hn:n<l.length) (a:l.getD n 0<0) (d:0<=v):Lp (l.set n v)+1=Lp l:=by
 induction l generalizing n with
 | nil=>simp at hn
 | cons x r c =>
  cases n with
  | zero =>
   have b:x<0:=by simpa using a
   have:¬v<0:=by omega
   simp[Lp,AEm,b,this]
  | succ n =>
   have h1:=c (n:=n) (by simpa using hn) (by simpa using a);simp only[Lp,AFf,AEm]at h1 ⊢;omega
theorem nL {f:List AD} {s:List Int×List Int} {n:Int} (h:Tv f s) (d:0<=n) (hn:n<f.length) (b:s.1.getD n.toNat 0<0) :
  Tv f (s.1.set n.toNat (s.2.length:Int),s.2++[n])/\Lp (s.1.set n.toNat (s.2.length:Int))+1=Lp s.1:=by
 obtain⟨h1,c⟩:=h;have a:=A39 (l:=s.1) (n:=n.toNat) (v:=(s.2.length:Int)) (by omega) b (by omega);refine⟨⟨by simpa using h1,?_⟩,a⟩;simp only[GO,To];omega
theorem A07 (s:List (Int×Int)) (x:Int×Int):(O9 s x).Perm (x :: s):=by
 unfold O9;refine(List.perm_append_comm.append_right _).trans ?_;simp
theorem Lc:∀(l s:List (Int×Int)),(l.foldl O9 s).Perm (l++s)
 | [],s=>List.Perm.refl _
 | x :: l,s=>by
  refine(Lc l (O9 s x)).trans ?_;refine(List.Perm.append_left l (A07 s x)).trans ?_;exact AFv
theorem E6 (l:List (Int×Int)):(Ae l).Perm l:=by
 have:=Lc l [];simpa[Ae] using this
theorem Mb {f:List AD} (hf:AW f) (n:Int):List.length (f.getD n.toNat (0,[])).2<=100000:=by
 by_cases h:n.toNat<f.length
 ·have a:f.getD n.toNat (0,[])∈f:=by
   rw[AS,At h];exact nO h
  exact(hf.2 _ a).1
 ·rw[AS,UJ (by omega)];simp
theorem Uq {f:List AD} (hf:AW f) {n:Int} {a:Int×Int} (ha:a∈Ae (f.getD n.toNat (0,[])).2):0<=a.2/\a.2<f.length:=by
 have ha:=(E6 _).mem_iff.1 ha;by_cases h:n.toNat<f.length
 ·have b:f.getD n.toNat (0,[])∈f:=by
   rw[AS,At h];exact nO h
  exact(hf.2 _ b).2 a ha
 ·rw[AS,UJ (by omega)]at ha;simp at ha
def Ef (f:List AD) (k:Nat) (s:List Int×List Int) (a:Int×Int):List Int×List Int:=if s.1.getD a.2.toNat 0<0 then D9 f k s a.2 else s
theorem Fy (f:List AD) (k:Nat) (s:List Int×List Int) (n:Int):D9 f (k+1) s n=(Ae (f.getD n.toNat (0,[])).2).foldl (Ef f k) (s.1.set n.toNat (s.2.length:Int),s.2++[n]):=rfl
theorem Ur {f:List AD} {k:Nat} (i:∀(s:List Int×List Int) (n:Int),Tv f s->0<=n->n<f.length->s.1.getD n.toNat 0<0->Tv f (D9 f k s n)/\Lp (D9 f k s n).1<=Lp s.1) :
  ∀(l:List (Int×Int)) (t:List Int×List Int),(∀a∈l,0<=a.2/\a.2<(f.length:Int))->Tv f t->Tv f (l.foldl (Ef f k) t)/\Lp (l.foldl (Ef f k) t).1<=Lp t.1
 | [],t,_,d=>⟨d,NO _⟩
 | a :: l,t,c,d=>by
  simp only[OR];by_cases h:t.1.getD a.2.toNat 0<0
  ·obtain⟨j,m⟩:=i t a.2 d (c a (by simp)).1 (c a (by simp)).2 h;have e:Ef f k t a=D9 f k t a.2:=BY h;rw[e];obtain⟨o,p⟩:=Ur i l _ (λb g=>c b (by simp[g])) j;exact⟨o,UD p m⟩
  ·have e:Ef f k t a=t:=An h;rw[e];exact Ur i l t (λb g=>c b (by simp[g])) d
theorem SD {f:List AD} (hf:AW f):∀(k:Nat) (s:List Int×List Int) (n:Int),Tv f s->0<=n->n<f.length->s.1.getD n.toNat 0<0->Tv f (D9 f k s n)/\Lp (D9 f k s n).1<=Lp s.1
 | 0,s,n,h,_,_,_=>⟨h,NO _⟩
 | k+1,s,n,h,h0,h1,d=>by
  obtain⟨e,g⟩:=nL h h0 h1 d;obtain⟨b,c⟩:=Ur (SD hf k) _ _ (λa ha=>Uq hf ha) e;rw[Fy];exact⟨b,by simp only at c g;omega⟩
theorem NW {α β:Type} (g:β->α->β) (l:List α) (d:α) (t:β) {i:Nat} (hi:i<l.length):(l.take (i+1)).foldl g t=g ((l.take i).foldl g t) (l.getD i d):=by
 rw[Az l d hi,AEx];rfl
def Ld (f:List AD) (s:List Int×List Int):List (Nat×Obj):=[(1,.box 184 true [.p Da f,.sr 2 T3 0 s.1.length,.sr 3 T3 0 s.2.length]),(2,.arr 3 T3 s.1),(3,.arr 3 T3 s.2)]
theorem A3a (f:List AD) (hf:AW f):∀(k:Nat) (s:List Int×List Int) (n:Int),Tv f s->0<=n->n<f.length->s.1.getD n.toNat 0<0->Lp s.1<=k ->
  BJ Tryz.prog 151 [.bp 1 [] 0,.p T3 n] (Ld f s) [1] (λres M=>res=.raw (.tuple #[])/\M=Ld f (D9 f k s n)):=by
 intro k;induction k with
 | zero =>
  intro s n h0 h1 u B N;obtain⟨_,O⟩:=nL h0 h1 u B;omega
 | succ k J =>
  intro s n A w m x hk;obtain⟨num,g⟩:=s;obtain⟨t,v⟩:=nL A w m x;obtain⟨G,H⟩:=A;simp only at G H x t v hk;refine Kv [0,1,4,5,40,54] [] [] Tryz.func151 Tryz.ntmps151 (AF ZY AG) ?_;intro w0 K O0 ρ0 c Q R;simp only[Ld,Ar];repeat'(first|exact trivial|refine eS rfl ?_|refine rX c ?_ ?_)
  ·exact eV
  ·have:=hf.1;simp only[AP];omega
  ·have I:=Mb hf n;exact⟨⟨w,m⟩,UD I (by omega)⟩
  ·have l:=λa (ha:a∈Ae (f.getD n.toNat (0,[])).2)=>Uq hf ha;have D:(Ae (f.getD n.toNat (0,[])).2).length<=100000:=by rw[Cp];exact Mb hf n
   generalize C:Ae (f.getD n.toNat (0,[])).2=L at l D;generalize o:(num.set n.toNat (g.length:Int),g++[n])=s1 at t;have F:∀i,Tv f ((L.take i).foldl (Ef f k) s1)/\Lp ((L.take i).foldl (Ef f k) s1).1<=Lp s1.1:=λi=>Ur (SD hf k) _ _ (λa ha=>l a (f6 ha)) t;have m:num.set n.toNat (g.length:Int)=s1.1:=by rw[<-o]
   have P:g++[n]=s1.2:=by rw[<-o]
   rw[m]at v;refine AJ (ι:={i:Nat//i<=L.length}) (λi=>⟨[(0,.bp 1 [] 0),(1,.p T3 n),(4,.p DS L),(5,.p (.int .i64) (i.1:Int))],Ld f ((L.take i.1).foldl (Ef f k) s1)⟩) (λi=>L.length-i.1) ⟨0,by omega⟩ (AAB [36] (AC [(1,.nm 1),(2,.nm 2),(3,.nm 3)] rfl rfl ?_ ?_)) (λi=>?_)
   ·simp only[Ld];refine eM ?_;simp only[List.foldl_nil];rw[<-o];simp
   ·exact eN
   ·obtain⟨i,hi⟩:=i;obtain⟨r,E⟩:=F i;have q:=λ(h:i<L.length)=>NW (Ef f k) L (0,0) s1 h;generalize z:(L.take i).foldl (Ef f k) s1=b at r E q;simp only[Ld];repeat'(first|exact trivial|refine eS rfl ?_|refine AB ?_|refine rX c ?_ ?_|refine rC ?_ ?_<;>intro j<;>try(cases j;done))
    ·have d:i<L.length:=by exact eV
     have:=l _ (AE L (0,0) d);obtain⟨h1,u⟩:=r;refine⟨by exact eV,this.1,?_⟩;rw[h1];exact this.2
    ·have d:i<L.length:=by exact eV
     have y:=l _ (AE L (0,0) d);refine cP 6 c ?_ ?_
     ·exact eV
     ·refine rM c (J b (L.getD i (0,0)).2 r y.1 y.2 (by simpa using j) (by omega)) [(1,.nm 1),(2,.nm 2),(3,.nm 3)] [2,3] ?_ ?_ ?_
      ·exact eN
      ·simp only[Ld];exact eN
      ·rintro _ _ ⟨rfl,rfl⟩;refine⟨[(1,.nm 1),(2,.nm 2),(3,.nm 3)],.raw (.tuple #[]),Ld f (D9 f k b (L.getD i (0,0)).2),rfl,rfl,?_,?_,rfl,rfl,CR ?_⟩
       ·simp only[Ld];exact eN
       ·exact eN
       ·repeat'(first|refine eS rfl ?_|refine AB ?_|refine rX c ?_ ?_)
        ·exact eV
        ·have e:Ef f k b (L.getD i (0,0))=D9 f k b (L.getD i (0,0)).2:=BY (by simpa using j);refine⟨⟨i+1,by omega⟩,by simp only;omega,AC [(1,.nm 1),(2,.nm 2),(3,.nm 3)] rfl rfl ?_ ?_⟩
         ·simp only[Ld,q d,e];exact eN
         ·exact eN
    ·exact eV
    ·have d:i<L.length:=by exact eV
     have e:Ef f k b (L.getD i (0,0))=b:=An (by simpa using j);refine⟨⟨i+1,by omega⟩,by simp only;omega,AC [(1,.nm 1),(2,.nm 2),(3,.nm 3)] rfl rfl ?_ ?_⟩
     ·simp only[q d,e];exact eN
     ·exact eN
    ·have hk:L.take i=L:=As (by exact eV);rw[hk]at z;have h1:D9 f (k+1) (num,g) n=b:=by rw[Fy,C,<-z,<-o]
     rw[h1];exact fM c [] (.raw (.tuple #[])) rfl ⟨rfl,rfl⟩
end
section
attribute [local go_sem] Qn
def iZ (f:List AD) (s:List Int×List Int):Prop:=∀n∈s.2,0<=n/\n<(f.length:Int)
theorem We {f:List AD} (hf:AW f):∀(k:Nat) (s:List Int×List Int) (n:Int),iZ f s->0<=n->n<f.length->iZ f (D9 f k s n)
 | 0,s,n,h,_,_=>h
 | k+1,s,n,h,h0,h1=>by
  rw[Fy];have key:∀(l:List (Int×Int)) (t:List Int×List Int),(∀a∈l,0<=a.2/\a.2<(f.length:Int))->iZ f t->iZ f (l.foldl (Ef f k) t):=by
   intro l;induction l with
   | nil=>intro t _ d;exact d
   | cons a l i =>
    intro t e d;simp only[OR];refine i _ (λb g=>e b (by simp[g])) ?_;unfold Ef;split
    ·exact We hf k t a.2 d (e a (by simp)).1 (e a (by simp)).2
    ·exact d
  refine key _ _ (λa ha=>Uq hf ha) ?_;intro m c;simp only[No,YB]at c;rcases c with c|rfl
  ·exact h m c
  ·exact⟨h0,h1⟩
def GU (f:List AD) (root:Int):List Int×List Int:=D9 f f.length (List.replicate f.length (-1),[]) root
def YX (num:List Int) (a:Int×Int):Int×Int:=(a.1,num.getD a.2.toNat 0)
def Mc (f:List AD) (num:List Int) (n:Int):AD:=((f.getD n.toNat (0,[])).1,(Ae (f.getD n.toNat (0,[])).2).map (YX num))
def IU (f:List AD) (root:Int):List AD:=(GU f root).2.map (Mc f (GU f root).1)
theorem i3 (m:Nat):Lp (List.replicate m (-1))=m:=by
 induction m with
 | zero=>rfl
 | succ m a=>simp only[Lp,AEK,AEm]at a ⊢;simp[a]
theorem tr0 (f:List AD):Tv f (List.replicate f.length (-1),[]):=⟨by simp,by simp[i3]⟩
theorem wY {f:List AD} {n:Int} (h0:0<=n) (h1:n<f.length):(List.replicate f.length (-1:Int)).getD n.toNat 0<0:=by
 have:n.toNat<f.length:=by omega
 simp[AS,AEd,this]
theorem wZ {f:List AD} (hf:AW f) {n:Int} (h0:0<=n) (h1:n<f.length):Tv f (GU f n)/\iZ f (GU f n) :=
 ⟨(SD hf _ _ n (tr0 f) h0 h1 (wY h0 h1)).1,We hf _ _ n (λm a=>by simp at a) h0 h1⟩
theorem Wf {α b:Type} (g:α->b) (h:b->α) (L:List α) (d:α) {k:Nat} (hk:k<L.length) (u:α->α):((L.take k).map u++L.drop k).set k (u (L.getD k d))=(L.take (k+1)).map u++L.drop (k+1)/\((L.take k).map u++L.drop k).getD k d=L.getD k d:=by
 have h1:((L.take k).map u).length=k:=by simp;omega
 have a:L.drop k=L.getD k d :: L.drop (k+1):=by
  rw[TO hk,AS,At hk];rfl
 constructor
 ·rw[Az L d hk,AEo _ _ (by omega),h1,AE3,a];simp
 ·rw[AS,UT (by omega),h1,AE3,a];rfl
def TL:Aa:={ ins:=[Da,T3],pre:=λ(f,n,_)=>AW f/\0<=n/\n<(List.length f:Int),out:=λ(f,n,_)=>[.p Da (IU f n)] }
theorem cU:Ab Tryz.prog 114 TL:=by
 refine fK [0,1,2,4,5,6,7,8,9,10,11,19,40,60] Tryz.func114 Tryz.ntmps114 (AF ZY AG) ?_;rintro w0 O0 ⟨f,root,u⟩ d-⟨hf,l,m⟩;simp only[TL,AL];have G:=hf.1;repeat'(first|exact trivial|refine eS rfl ?_|refine rX d ?_ ?_)
 refine AJ (ι:={i:Nat//i<=f.length}) (λi=>⟨[(1,.p T3 root),(2,.bp 2 [] 0),(4,.bp 4 [] 0),(5,.bp 14 [] 0),(6,.p (.int .i64) (i.1:Int))],[(2,.box 25 true [.p FQ f]),(4,.box 25 true [.raw (.slice none 0 0)]),(14,.box 184 true [.p Da f,.sr 10 T3 0 i.1,.raw (.slice none 0 0)]),(10,.arr 3 T3 (List.replicate i.1 (-1)))]⟩) (λi=>f.length-i.1) ⟨0,by omega⟩ (AC [(2,.nm 2),(4,.nm 4),(14,.nm 14),(10,.nil)] rfl rfl ?_ ?_) (λi=>?_)
 ·refine eM ?_;rfl
 ·exact eN
 ·obtain⟨i,hi⟩:=i;repeat'(first|exact trivial|refine eS rfl ?_|refine AB ?_|refine rX d ?_ ?_|refine rC ?_ ?_<;>intro h<;>try(cases h;done))
  ·simp only[AP];omega
  ·exact eV
  ·have hi:i<List.length f:=by exact eV
   refine⟨⟨i+1,by omega⟩,by simp only;omega,AC [(2,.nm 2),(4,.nm 4),(14,.nm 14),(10,.nm 10)] rfl rfl ?_ ?_⟩
   ·refine eM ?_;rw[AF5];simp
   ·exact eN
  ·have A:i=List.length f:=by exact eV
   subst A;have w:=wZ hf l m;refine cP 2 d ?_ ?_
   ·trivial
   ·refine rM d (A3a f hf (List.length f) (List.replicate (List.length f) (-1),[]) root (tr0 f) l m (wY l m) (by rw[i3];exact NO _)) [(1,.nm 14),(2,.nm 10),(3,.nil)] [10] ?_ ?_ ?_
    ·exact eN
    ·simp only[Ld];refine eM ?_;simp
    ·rintro _ _ ⟨rfl,rfl⟩;refine⟨[(14,.nm 1),(101,.nm 2),(102,.nm 3)],.raw (.tuple #[]),[(14,.box 184 true [.p Da f,.sr 101 T3 0 (GU f root).1.length,.sr 102 T3 0 (GU f root).2.length]),(101,.arr 3 T3 (GU f root).1),(102,.arr 3 T3 (GU f root).2)],rfl,rfl,?_,?_,rfl,rfl,CR ?_⟩
     ·simp only[Ld,GU];exact eN
     ·exact eN
     ·have z:IU f root=(GU f root).2.map (Mc f (GU f root).1):=rfl;rw[z];generalize GU f root=s at w;obtain⟨num,c⟩:=s;obtain⟨⟨r,t⟩,j⟩:=w;simp only at r t;have j:∀n∈c,0<=n/\n<(List.length f:Int):=j;repeat'(first|exact trivial|refine eS rfl ?_|refine rX d ?_ ?_)
      refine AJ (ι:={i:Nat//i<=c.length}) (λi=>⟨[(2,.bp 2 [] 0),(4,.bp 4 [] 0),(5,.bp 14 [] 0),(7,.bp 7 [] 0),(8,.p (.int .i64) (i.1:Int))],[(2,.box 25 true [.p FQ f]),(4,.box 25 true [.raw (.slice none 0 0)]),(14,.box 184 true [.p Da f,.sr 101 T3 0 num.length,.sr 102 T3 0 c.length]),(101,.arr 3 T3 num),(102,.arr 3 T3 c),(7,.box 25 true [.sr 200 Ls 0 i.1]),(200,.arr 93 Ls ((c.take i.1).map (Mc f num)))]⟩) (λi=>c.length-i.1) ⟨0,by omega⟩ (eW [(2,.nm 2),(4,.nm 4),(14,.nm 14),(101,.nm 101),(102,.nm 102),(7,.nm 7),(200,.nil)]) (λi=>?_)
      ·obtain⟨i,hi⟩:=i;repeat'(first|exact trivial|refine eS rfl ?_|refine rX d ?_ ?_|refine rC ?_ ?_<;>intro h<;>try(cases h;done))
       ·have hi:i<c.length:=by exact eV
        exact⟨by exact eV,j _ (AE c 0 hi)⟩
       ·exact UD (Mb hf _) (by omega)
       ·have hi:i<c.length:=by exact eV
        have q:=λa (ha:a∈Ae (f.getD (Int.toNat (c.getD i 0)) (0,[])).2)=>Uq hf ha;have v:Mc f num (c.getD i 0)=((f.getD (Int.toNat (c.getD i 0)) (0,[])).1,(Ae (f.getD (Int.toNat (c.getD i 0)) (0,[])).2).map (YX num)):=rfl;have B:=Mb hf (c.getD i 0);generalize List.getD f (Int.toNat (c.getD i 0)) (0,[])=x at *;obtain⟨E,o⟩:=x;simp only at q v B;have F:=Cp o;generalize Ae o=L at *;refine AJ (ι:={k:Nat//k<=L.length}) (λk=>⟨[(2,.bp 2 [] 0),(4,.bp 4 [] 0),(5,.bp 14 [] 0),(7,.bp 7 [] 0),(8,.p (.int .i64) (i:Int)),(9,.bp 9 [] 0),(10,.sr 56 AU 0 L.length),(11,.p (.int .i64) (k.1:Int))],[(56,.arr 106 AU ((L.take k.1).map (YX num)++L.drop k.1)),(9,.box 93 true [.p T3 E,.p DS o]),(2,.box 25 true [.p FQ f]),(4,.box 25 true [.raw (.slice none 0 0)]),(14,.box 184 true [.p Da f,.sr 101 T3 0 num.length,.sr 102 T3 0 c.length]),(101,.arr 3 T3 num),(102,.arr 3 T3 c),(7,.box 25 true [.sr 200 Ls 0 i]),(200,.arr 93 Ls ((c.take i).map (Mc f num)))]⟩) (λk=>L.length-k.1) ⟨0,by omega⟩ (eW [(2,.nm 2),(4,.nm 4),(14,.nm 14),(101,.nm 101),(102,.nm 102),(7,.nm 7),(200,.nm 200),(9,.nm 9),(56,.nm 56)]) (λk=>?_)
        ·obtain⟨k,hk⟩:=k;repeat'(first|exact trivial|refine eS rfl ?_|refine AB ?_|refine rX d ?_ ?_|refine rC ?_ ?_<;>intro h<;>try(cases h;done))
         ·have g:k<L.length:=by exact eV
          have e:=(Wf (YX num) (λb=>b) L (0,0) g (YX num)).2;rw[e];have:=q _ (AE L (0,0) g);rw[r];exact⟨by exact eV,this,by exact eV⟩
         ·exact eV
         ·have g:k<L.length:=by exact eV
          have e:=Wf (YX num) (λb=>b) L (0,0) g (YX num);refine⟨⟨k+1,by omega⟩,by simp only;omega,AC [(2,.nm 2),(4,.nm 4),(14,.nm 14),(101,.nm 101),(102,.nm 102),(7,.nm 7),(200,.nm 200),(9,.nm 9),(56,.nm 56)] rfl rfl ?_ ?_⟩
          ·refine eM ?_;rw[e.2];exact e.1
          ·exact eN
         ·simp only[AP];have:=t;omega
         ·exact eV
         ·have g:L.take k=L:=As (by exact eV);have y:L.drop k=[]:=By (by exact eV);refine⟨⟨i+1,by omega⟩,by simp only;omega,AC [(2,.nm 2),(4,.nm 4),(14,.nm 14),(101,.nm 101),(102,.nm 102),(7,.nm 7),(200,.nm 200)] rfl rfl ?_ ?_⟩
          ·refine eM ?_;rw[g,y,UO,Az c 0 hi,YK,UQ,AEW,v];have C:List.take i ((c.take i).map (Mc f num))=(c.take i).map (Mc f num):=As (by rw[Of,ON];omega);have D:List.take L.length (L.map (YX num))=L.map (YX num):=As (by rw[Of];omega);rw[C,D]
          ·exact eN
       ·have hk:c.take i=c:=As (by exact eV);rw[hk];refine fI d [.cell 4 25] (by first|exact eR|refine YM ?_;exact As (by rw[Of];exact eV))
end
section
attribute [local go_sem] A37 TL
theorem Wg {n:Int}:∀ {l seen:List (Int×Int)},G9 n seen l=0->∀a∈l,0<=a.1/\0<=a.2/\a.2<n
 | [],_,_,a,ha=>by cases ha
 | x :: l,seen,h,a,ha=>by
  simp only[G9]at h;split at h
  ·cases h
  ·split at h
   ·cases h
   ·rename_i h1 _;rcases DO.1 ha with rfl|ha
    ·omega
    ·exact Wg h a ha
theorem IV {m:Int}:∀ {f:List (Int×List (Int×Int))},HA m f=0->∀x∈f,0<=x.1/\∀a∈x.2,0<=a.1/\0<=a.2/\a.2<m
 | [],_,x,c=>by cases c
 | y :: f,h,x,c=>by
  simp only[HA]at h;split at h
  ·cases h
  ·split at h
   ·rename_i h1 b;exact absurd h b
   ·rename_i h1 b;have b:IQ y.2 m=0:=Do b;rcases DO.1 c with rfl|c
    ·exact⟨by omega,Wg b⟩
    ·exact IV h x c
def Wh (f:List (Int×List (Int×Int))):Prop:=∀x∈f,x.2.length<=100000
theorem IW {f:List (Int×List (Int×Int))} (h:CJ f=0) (hs:Wh f):AW f/\0<f.length:=by
 unfold CJ at h;split at h
 ·cases h
 ·split at h
  ·cases h
  ·refine⟨⟨by omega,λx b=>⟨hs x b,λa ha=>?_⟩⟩,by omega⟩;have:=(IV h x b).2 a ha;exact⟨this.2.1,this.2.2⟩
def BG (f:List AD):List AD×Int:=if CJ f=0 then (IU f 0,0) else ([],CJ f)
def cV:Aa:={ ins:=[Da],pre:=λ(f,_)=>Wh f,out:=λ(f,_)=>[.p Da (BG f).1,.p Lr (BG f).2] }
theorem A3b:Ab Tryz.prog 82 cV:=by
 refine fK [0,1,2,3,4,8] Tryz.func82 Tryz.ntmps82 (AF A6Y (AF cU AG)) ?_;rintro w0 O0 ⟨f,u⟩ b-hs;simp only[cV,AL];repeat'(first|exact trivial|refine eS rfl ?_|refine rX b ?_ ?_|refine rC ?_ ?_<;>intro a<;>try(cases a;done))
 ·have h:¬CJ f=0:=by simpa using a
  have e:BG f=([],CJ f):=An h;exact fI b [.cell 2 25,.tmp 3] (by rw[e];exact eR)
 ·have h:CJ f=0:=by simpa using a
  have:=IW h hs;exact⟨this.1,by exact eV⟩
 ·have h:CJ f=0:=by simpa using a
  have e:BG f=(IU f 0,0):=BY h;exact fI b [.cell 2 25,.tmp 3] (by rw[e];exact eR)
end
def w3 (l:List Int) (n:Int):Bool:=l.any λx=>x==n
def ZZ:Aa:={ ins:=[T3],pre:=λ_=>True,out:=λ(t,_)=>[.p Da [(t,[])]] }
theorem A6Z:Ab Tryz.prog 27 ZZ:=by
 refine fK [0,2] Tryz.func27 Tryz.ntmps27 AG ?_;rintro w0 O0 ⟨t,u⟩ a - -;simp only[ZZ,AL];repeat'(first|exact trivial|refine eS rfl ?_|refine AB ?_|refine rX a ?_ ?_|refine rC ?_ ?_<;>intro b<;>try(cases b;done))
 exact fI a [.cell 2 25]
section
attribute [local go_sem] LG cV Jk
def ftB (a:Int×Int):Bool:=decide (a.1<64)
def ndB (x:AD):Bool:=decide (x.1<256)&&x.2.all ftB
def EA (f:List AD):Bool:=Fb f&&f.all ndB&&((BG f).2==0&&(Cy (BG f).1 f==0))
theorem JH {f:List AD} (h:Fb f=true):f.length<=12/\∀x∈f,x.2.length<=12:=by
 unfold Fb at h;simp only[AT,Fe,Is]at h;exact h
theorem nM {f:List AD} (hf:AW f) {n:Int} (h0:0<=n) (h1:n<f.length):Cz (IU f n):=by
 obtain⟨⟨b,c⟩,_⟩:=wZ hf h0 h1;have d:=hf.1;refine⟨?_,λx a=>?_⟩
 ·unfold IU;rw[Of];omega
 ·obtain⟨m,_,rfl⟩:=IF.1 a;unfold Mc;simp only[Of,Cp];exact Mb hf m
theorem TM {f:List AD} (hs:Wh f):Cz (BG f).1:=by
 unfold BG;split
 ·rename_i h;obtain⟨h1,b⟩:=IW h hs;exact nM h1 (by omega) (by omega)
 ·exact⟨by simp,λx a=>by cases a⟩
end
section
attribute [local go_sem] cV Jk
def w4 (h:AH) (a:Int×Int):Bool:=decide (a.1<(h.2.length:Int))
def Us (h:AH) (x:AD):Bool:=decide (x.1<(h.1.length:Int))&&x.2.all (w4 h)
def BP (h:AH) (f:List AD):Int:=if (BG f).2≠0 then (BG f).2 else if f.all (Us h)=false then 2 else if (Cy f (BG f).1==0)=false then 3 else 0
def LI:Aa:={ ins:=[ER,Da],pre:=λ(_,f,_)=>Cz f,out:=λ(h,f,_)=>[.p Lr (BP h f)] }
theorem Za:Ab Tryz.prog 33 LI:=by
 refine fK [0,1,2,3,4,5,6,7,8,9,16,22,35,40,52,56] Tryz.func33 Tryz.ntmps33 (AF A3b (AF Wd AG)) ?_;rintro w0 O0 ⟨⟨b,hf⟩,f,u⟩ d-hs;have hs:Cz f:=hs;simp only[LI,AL];repeat'(first|exact trivial|refine eS rfl ?_|refine rX d ?_ ?_|refine rC ?_ ?_<;>intro a<;>try(cases a;done))
 ·exact hs.2
 ·have h1:BP (b,hf) f=(BG f).2:=by unfold BP;rw[BY a]
  exact fI d [.tmp 4] (by rw[h1];exact eR)
 ·have t:(BG f).2=0:=by simpa using a
  have q:=TM hs.2;have w:=hs.1;have g:BP (b,hf) f=if f.all (Us (b,hf))=false then 2 else if (Cy f (BG f).1==0)=false then 3 else 0:=by unfold BP;rw[An (by rw[t];simp)]
  refine AJ (ι:={i:Nat//i<=f.length/\(f.take i).all (Us (b,hf))=true}) (λi=>⟨[(2,.bp 2 [] 0),(3,.bp 3 [] 0),(5,.bp 5 [] 0),(7,.p (.int .i64) (i.1:Int))],[(2,.box 31 true [.p Tr b,.p WB hf]),(3,.box 25 true [.p FQ f]),(5,.box 25 true [.p FQ (BG f).1])]⟩) (λi=>f.length-i.1) ⟨0,by simp⟩ (eW [(2,.nm 2),(3,.nm 3),(5,.nm 5)]) (λi=>?_)
  ·obtain⟨i,hi,l⟩:=i;have r:=λh:i<f.length=>Ge f (0,[]) (Us (b,hf)) h;simp only;repeat'(first|exact trivial|refine eS rfl ?_|refine rX d ?_ ?_|refine rC ?_ ?_<;>intro a<;>try(cases a;done))
   ·exact a
   ·have c:i<f.length:=IN.1 (by assumption);have e:f.all (Us (b,hf))=false:=by
     rw[ADW];refine⟨_,AE f (0,[]) c,?_⟩;unfold Us;rw[ADY (AAb.2 a)];simp
    rw[BY e]at g;exact fI d [.tmp 4] (by rw[g];exact eR)
   ·have c:i<f.length:=IN.1 (by assumption);have n:=AE f (0,[]) c;have o:Us (b,hf) (f.getD i (0,[]))=(f.getD i (0,[])).2.all (w4 (b,hf)):=by
     unfold Us;rw[ADX (show (f.getD i (0,[])).1<(b.length:Int) from a)];rfl
    have v:(f.getD i (0,[])).2.length<=100000:=hs.2 _ n;refine AJ (ι:={k:Nat//k<=(f.getD i (0,[])).2.length/\((f.getD i (0,[])).2.take k).all (w4 (b,hf))=true}) (λk=>⟨[(2,.bp 2 [] 0),(3,.bp 3 [] 0),(5,.bp 5 [] 0),(7,.p (.int .i64) (i:Int)),(8,.bp 8 [] 0),(9,.p (.int .i64) (k.1:Int))],[(2,.box 31 true [.p Tr b,.p WB hf]),(3,.box 25 true [.p FQ f]),(5,.box 25 true [.p FQ (BG f).1]),(8,.box 93 true [.p T3 (f.getD i (0,[])).1,.p DS (f.getD i (0,[])).2])]⟩) (λk=>(f.getD i (0,[])).2.length-k.1) ⟨0,by simp⟩ (eW [(2,.nm 2),(3,.nm 3),(5,.nm 5),(8,.nm 8)]) (λk=>?_)
    ·obtain⟨k,hk,m⟩:=k;have s:=λh:k<(f.getD i (0,[])).2.length=>Ge (f.getD i (0,[])).2 (0,0) (w4 (b,hf)) h;simp only;repeat'(first|exact trivial|refine eS rfl ?_|refine AB ?_|refine rX d ?_ ?_|refine rC ?_ ?_<;>intro a<;>try(cases a;done))
     ·exact a
     ·have j:k<(f.getD i (0,[])).2.length:=IN.1 (by assumption);have e:f.all (Us (b,hf))=false:=by
       rw[ADW];refine⟨_,n,?_⟩;rw[o,ADW.2 ⟨_,AE (f.getD i (0,[])).2 (0,0) j,by unfold w4;rw[ADY (AAb.2 a)];simp⟩];simp
      rw[BY e]at g;exact fI d [.tmp 4] (by rw[g];exact eR)
     ·exact eV
     ·have j:k<(f.getD i (0,[])).2.length:=IN.1 (by assumption);refine⟨⟨k+1,j,?_⟩,by simp only;omega,AC [(2,.nm 2),(3,.nm 3),(5,.nm 5),(8,.nm 8)] rfl rfl ?_ ?_⟩
      ·rw[s j,m];unfold w4;exact ADX a
      ·exact eN
      ·exact eN
     ·exact eV
     ·have j:(f.getD i (0,[])).2.take k=(f.getD i (0,[])).2:=As (UA.1 a);rw[j]at m;refine⟨⟨i+1,c,?_⟩,by simp only;omega,AC [(2,.nm 2),(3,.nm 3),(5,.nm 5)] rfl rfl ?_ ?_⟩
      ·rw[r c,l,o,m];rfl
      ·exact eN
      ·exact eN
   ·exact⟨hs,q⟩
   ·have c:f.take i=f:=As (UA.1 (by assumption));rw[c]at l;rw[An (by rw[l];simp),BY (by simpa using a)]at g;exact fI d [.tmp 4] (by rw[g];exact eR)
   ·have c:f.take i=f:=As (UA.1 (by assumption));rw[c]at l;rw[An (by rw[l];simp),An (by rw[a];simp)]at g;exact fI d [.tmp 4] (by rw[g];exact eR)
def cW (h:AH) (f:List AD):Bool:=Fb f&&BP h f==0
end
section
attribute [local go_sem] KF KD LG LI
def w5 (d:List AI):AH:=if d.length<=12/\(Ax d).2=0 then (Ax d).1 else (Ax Cw).1
end
section
def nN:Aa:={ ins:=[BT,T3],pre:=λ(_,i,_)=>(0:Int)<=i,out:=λ(b,i,_)=>[.p QO (GR b i)],lend:=true }
attribute [local go_sem] nN
theorem A3c:Ab Tryz.prog 175 nN:=by
 refine fK [0,1,4,8] Tryz.func175 Tryz.ntmps175 AG ?_;rintro w0 O0 ⟨b,i,u⟩ c-hi;simp only[nN,AL];repeat'(first|exact trivial|refine eS rfl ?_|refine rX c ?_ ?_|refine rC ?_ ?_<;>intro a<;>try(cases a;done))
 ·exact⟨hi,a⟩
 ·have h1:GR b i=b.getD i.toNat 0:=by unfold GR;rw[BY a]
  exact fI c [.tmp 4] (by rw[h1];exact eR)
 ·have h1:GR b i=0:=by unfold GR;rw[An (AAb.2 a)]
  exact fI c [.tmp 4] (by rw[h1];exact eR)
def Md (a b:List Int):Bool:=(List.range a.length).all λi=>CC .andNot .u64 (a.getD i 0) (GR b (i:Int))==0
def i4 (a b:List Int) (n:Nat):Bool:=(List.range n).all λi=>CC .andNot .u64 (a.getD i 0) (GR b (i:Int))==0
theorem nP (a b:List Int) (n:Nat):i4 a b (n+1)=(i4 a b n&&CC .andNot .u64 (a.getD n 0) (GR b (n:Int))==0):=by
 unfold i4;rw[YF,AED];simp
def Qo:Aa:={ ins:=[BT,BT],pre:=λ_=>True,out:=λ(a,b,_)=>[.p .bool (Md a b)],lend:=true }
attribute [local go_sem] Qo
theorem Wi:Ab Tryz.prog 133 Qo:=by
 refine fK [0,1,4,5,6,7,8,9,10,19] Tryz.func133 Tryz.ntmps133 (AF A3c AG) ?_;rintro w0 O0 ⟨a,b,u⟩ e ⟨⟨g,-⟩,-⟩ -;simp only[AP]at g;simp only[Qo,AL];repeat'(first|exact trivial|refine eS rfl ?_|refine rX e ?_ ?_)
 have h:Md a b=i4 a b a.length:=rfl;refine AJ (ι:={n:Nat//n<=a.length/\i4 a b n=true}) (λn=>⟨[(1,.p BT b),(7,.p BT a),(8,.p (.int .i64) (a.length:Int)),(9,.p (.int .i64) (n.1:Int))],[]⟩) (λn=>a.length-n.1) ⟨0,IS _,rfl⟩ (eW []) (λn=>?_)
 ·obtain⟨n,hn,f⟩:=n;have hs:=nP a b n;simp only;repeat'(first|exact trivial|refine eS rfl ?_|refine AB ?_|refine rX e ?_ ?_|refine rC ?_ ?_<;>intro d<;>try(cases d;done))
  ·exact d
  ·have c:n<a.length:=by exact eV
   have h1:Md a b=false:=by
    unfold Md;rw[ADW];exact⟨n,UM.2 c,by simpa using d⟩
   exact fI e [.tmp 4] (by rw[h1];exact eR)
  ·exact eV
  ·have c:n<a.length:=by exact eV
   refine⟨⟨n+1,c,?_⟩,by simp only;omega,AC [] rfl rfl ?_ ?_⟩
   ·rw[hs,f];simpa using d
   ·exact eN
   ·exact eN
  ·have c:n=a.length:=by exact eV
   subst c;exact fI e [.tmp 4] (by rw[h,f];exact eR)
abbrev TN:G8:=(ByteArray.empty,[],[],[])
def BA (h:AH) (a b:Int):Bool:=Md (h.1.getD b.toNat TN).2.1 (h.1.getD a.toNat TN).2.1
def Wj:Aa:={ ins:=[ER,T3,T3],pre:=λ(h,a,b,_)=>((0:Int)<=a/\a<(List.length (h:AH).1:Int))/\((0:Int)<=b/\b<(List.length (h:AH).1:Int)),out:=λ(h,a,b,_)=>[.p .bool (BA h a b)],lend:=true }
theorem cX:Ab Tryz.prog 84 Wj:=by
 refine fK [0,1,2,3,6] Tryz.func84 Tryz.ntmps84 (AF Wi AG) ?_;rintro w0 O0 ⟨⟨e,hf⟩,a,b,u⟩ c-⟨ha,d⟩;simp only[Wj,AL];repeat'(first|exact trivial|refine eS rfl ?_|refine rX c ?_ ?_)
 ·exact⟨d,ha⟩
 ·exact fI c [.tmp 6] (by unfold BA;exact eR)
end
section
attribute [local go_sem] Qo
def Wk:Aa:={ ins:=[BT],pre:=λ(b,_)=>List.length b<=100000,out:=λ(b,_)=>[.p BT (BM b)] }
attribute [local go_sem] Wk
theorem nQ:Ab Tryz.prog 212 Wk:=by
 refine fK [0,2,3,15] Tryz.func212 Tryz.ntmps212 AG ?_;rintro w0 O0 ⟨b,u⟩ d-f;have f:b.length<=100000:=f;simp only[Wk,AL];repeat'(first|exact trivial|refine eS rfl ?_|refine rX d ?_ ?_)
 refine AJ (ι:={n:Nat//n<=b.length/\Cj b n=Cj b b.length}) (λn=>⟨[(0,.p BT b),(3,.p (.int .i64) (n.1:Int))],[]⟩) (λn=>n.1) ⟨b.length,NO _,rfl⟩ (eW []) (λn=>?_)
 ·obtain⟨n,hn,g⟩:=n;simp only;repeat'(first|refine eS rfl ?_|refine AB ?_|refine rX d ?_ ?_|refine rC ?_ ?_<;>intro c<;>try(cases c;done))
  ·constructor
   ·exact eV
   ·intro h;refine⟨?_,?_⟩<;>exact eV
  ·exact eV
  ·obtain⟨h1,a⟩:=c;obtain⟨m,rfl⟩:∃m,n=m+1:=⟨n-1,by omega⟩;have e:(((m+1:Nat):Int)-1)=(m:Int):=by omega
   rw[e]at a;have a:b.getD m 0=0:=a;have j:Cj b m=Cj b b.length:=by
    rw[<-g];show _=if b.getD m 0=0 then Cj b m else m+1
    rw[BY a]
   refine⟨⟨m,by omega,j⟩,by simp,AC [] rfl rfl ?_ ?_⟩
   ·exact eN
   ·simp only[e];exact eN
  ·exact UA.2 hn
  ·have i:Cj b n=n:=by
    cases n with
    | zero=>rfl
    | succ m =>
     have e:(((m+1:Nat):Int)-1)=(m:Int):=by omega
     rw[e]at c;have a:=c (by omega);have a:¬b.getD m 0=0:=a;show (if b.getD m 0=0 then Cj b m else m+1)=m+1;rw[An a]
   have h1:BM b=b.take n:=by unfold BM;rw[<-g,i]
   rw[<-h1];exact fI d [.tmp 2]
def HB (g:Nat->Int) (n i:Nat):List Int:=(List.range n).map λj=>if j<i then g j else 0
theorem Zb (g:Nat->Int) (n i:Nat):(HB g n i).length=n:=by simp[HB]
theorem nS (g:Nat->Int) (n:Nat):HB g n 0=List.replicate n 0:=by
 apply YI
 ·simp[HB]
 ·intro j h1 a;simp[HB]
theorem A08 (g:Nat->Int) (n i:Nat):(HB g n i).set i (g i)=HB g n (i+1):=by
 apply YI
 ·simp[HB]
 ·intro j h1 b;simp only[HB,List.getElem_set,AEl,AEp];split
  ·rename_i e;rw[BY (by omega),e]
  ·rename_i e;by_cases a:j<i
   ·rw[BY a,BY (by omega)]
   ·rw[An a,An (by omega)]
def cZ (a b:List Int) (i:Nat):Int:=CC .and .u64 (a.getD i 0) (b.getD i 0)
def GD (a b:List Int):List Int:=BM (HB (cZ a b) (min a.length b.length) (min a.length b.length))
def A3d:Aa:={ ins:=[BT,BT],pre:=λ(a,_,_)=>List.length a<=100000,out:=λ(a,b,_)=>[.p BT (GD a b)] }
attribute [local go_sem] A3d
theorem A70:Ab Tryz.prog 176 A3d:=by
 refine fK [0,1,4,5,6,14,15,16] Tryz.func176 Tryz.ntmps176 (AF nQ AG) ?_;rintro w0 O0 ⟨a,b,u⟩ d-ha;have ha:a.length<=100000:=ha;simp only[A3d,AL];repeat'(first|exact trivial|refine eS rfl ?_|refine rX d ?_ ?_)
 ·split<;>simp only[AP]<;>dsimp only[Ty.den]at *<;>omega
 ·have h:Int.toNat (if ((List.length b:Nat):Int)<((List.length a:Nat):Int) then ((List.length b:Nat):Int) else ((List.length a:Nat):Int))=min (List.length a) (List.length b):=by split<;>omega
  rw[h];have j:GD a b=BM (HB (cZ a b) (min a.length b.length) (min a.length b.length)):=rfl;have k:min a.length b.length<=a.length:=Nat.min_le_left _ _;have l:min a.length b.length<=b.length:=Nat.min_le_right _ _;generalize min a.length b.length=n at *;refine AJ (ι:={i:Nat//i<=n}) (λi=>⟨[(0,.p BT a),(1,.p BT b),(5,.sr 12 QO 0 n),(14,.p (.int .i64) (n:Int)),(15,.p (.int .i64) (i.1:Int))],[(12,.arr 186 QO (HB (cZ a b) n i.1))]⟩) (λi=>n-i.1) ⟨0,IS _⟩ (AC [(12,.nm 12)] rfl rfl ?_ ?_) (λi=>?_)
  ·refine eM ?_;rw[nS]
  ·exact eN
  ·obtain⟨i,hi⟩:=i;have f:=Zb (cZ a b) n i;simp only;repeat'(first|exact trivial|refine eS rfl ?_|refine AB ?_|refine rX d ?_ ?_|refine rC ?_ ?_<;>intro c<;>try(cases c;done))
   ·have e:i<n:=IN.1 c;exact⟨by exact eV,by exact eV,c⟩
   ·exact eV
   ·have e:i<n:=IN.1 c;refine⟨⟨i+1,e⟩,by simp only;omega,AC [(12,.nm 12)] rfl rfl ?_ ?_⟩
    ·simp only[<-A08];refine eM ?_;rfl
    ·exact eN
   ·have e:i=n:=by omega
    subst e;have g:(HB (cZ a b) i i).take i=HB (cZ a b) i i:=As (by rw[f];exact NO _);refine FP [12] ?_;repeat'(first|refine eS rfl ?_|refine rX d ?_ ?_)
    ·rw[g,f];dsimp only[Ty.den]at *;omega
    ·rw[g];exact fI d [.tmp 4] (by rw[j];exact eR)
def EB (a b:List Int):Bool:=Md a b&&Md b a
def c5:Aa:={ ins:=[BT,BT],pre:=λ_=>True,out:=λ(a,b,_)=>[.p .bool (EB a b)],lend:=true }
attribute [local go_sem] c5
theorem A09:Ab Tryz.prog 179 c5:=by
 refine fK [0,1,4] Tryz.func179 Tryz.ntmps179 (AF Wi AG) ?_;rintro w0 O0 ⟨a,b,u⟩ c - -;simp only[c5,AL];repeat'(first|exact trivial|refine eS rfl ?_|refine rX c ?_ ?_)
 exact fI c [.tmp 4] (by unfold EB;exact eR)
def FB (c:List Int):Nat->List G8->Int
 | _,[]=>-1
 | k,t :: l=>if EB t.2.1 c=true then (k:Int) else FB c (k+1) l
theorem nT (c:List Int) (l:List G8) {k:Nat} (h:k<l.length):FB c k (l.drop k)=if EB (l.getD k TN).2.1 c=true then (k:Int) else FB c (k+1) (l.drop (k+1)):=by
 rw[TO h];have e:l.getD k TN=l[k]:=by simp[AS,h]
 rw[e];rfl
theorem A3e (c:List Int) (t:G8):BJ Tryz.prog 178 [.p mK t,.bp 1 [] 0] [(1,.box 140 false [.p BT c])] [1] (λres b=>res=.p .bool (EB t.2.1 c)/\b=[(1,.box 140 false [.p BT c])]):=by
 refine Kv [0,1,2,3] [] [] Tryz.func178 Tryz.ntmps178 (AF A09 AG) ?_;intro w0 K O0 ρ0 a d e;simp only[Ar];repeat'(first|exact trivial|refine eS rfl ?_|refine rX a ?_ ?_)
 refine Ev.ent (σ':=⟨[(3,.p .bool (EB t.2.1 c))],[(1,.box 140 false [.p BT c])]⟩) ?_ (AC [(1,.nm 1)] rfl rfl ?_ ?_)
 ·exact fM a [.tmp 3] (.p .bool (EB t.2.1 c)) eT ⟨rfl,rfl⟩
 ·exact eN
 ·exact eN
theorem A0a (l:List G8) (c:List Int) (i:l.length<=100000):BJ Tryz.prog 177 [.p Tr l,.clo 178 [1]] [(1,.box 140 false [.p BT c])] [1] (λres g=>res=.p T3 (FB c 0 l)/\g=[(1,.box 140 false [.p BT c])]):=by
 refine Kv [0,1,4,5,7,8,9,16] [] [] Tryz.func177 Tryz.ntmps177 AG ?_;intro w0 K O0 ρ0 b j m;simp only[Ar];repeat'(first|exact trivial|refine eS rfl ?_|refine rX b ?_ ?_)
 refine AJ (ι:={k:Nat//k<=l.length/\FB c k (l.drop k)=FB c 0 l}) (λk=>⟨[(0,.p Tr l),(1,.clo 178 [1]),(7,.p (.int .i64) (l.length:Int)),(8,.p (.int .i64) (k.1:Int))],[(1,.box 140 false [.p BT c])]⟩) (λk=>l.length-k.1) ⟨0,IS _,rfl⟩ (eW [(1,.nm 1)]) (λk=>?_)
 ·obtain⟨k,hk,hf⟩:=k;have f:=λh:k<l.length=>nT c l h;simp only;repeat'(first|exact trivial|refine eS rfl ?_|refine rX b ?_ ?_|refine rC ?_ ?_<;>intro a<;>try(cases a;done))
  ·have d:k<l.length:=IN.1 a;have e:=f d;refine cP 5 b ?_ ?_
   ·exact a
   ·refine rM b (A3e c (l.getD k TN)) [(1,.nm 1)] [] ?_ ?_ ?_
    ·exact eN
    ·exact eN
    ·rintro _ _ ⟨rfl,rfl⟩;refine⟨[(1,.nm 1)],.p .bool (EB (l.getD k TN).2.1 c),[(1,.box 140 false [.p BT c])],rfl,rfl,?_,?_,rfl,rfl,CR ?_⟩
     ·exact eN
     ·exact eN
     ·repeat'(first|exact trivial|refine eS rfl ?_|refine AB ?_|refine rX b ?_ ?_|refine rC ?_ ?_<;>intro a<;>try(cases a;done))
      ·have a:EB (l.getD k TN).2.1 c=true:=a;rw[BY a,hf]at e;refine Ev.ent (σ':=⟨[(4,.p (.int .i64) (k:Int))],[(1,.box 140 false [.p BT c])]⟩) ?_ (AC [(1,.nm 1)] rfl rfl ?_ ?_)
       ·exact fM b [.tmp 4] (.p T3 (k:Int)) eT ⟨by rw[e],rfl⟩
       ·exact eN
       ·exact eN
      ·omega
      ·have a:EB (l.getD k TN).2.1 c=false:=a;rw[An (by rw[a];simp)]at e;exact⟨⟨k+1,d,e.symm.trans hf⟩,by simp only;omega,eW [(1,.nm 1)]⟩
  ·have d:l.drop k=[]:=By (UA.1 a);rw[d]at hf;have hf:(-1:Int)=FB c 0 l:=hf;refine Ev.ent (σ':=⟨[(4,.p (.int .i64) (-1))],[(1,.box 140 false [.p BT c])]⟩) ?_ (AC [(1,.nm 1)] rfl rfl ?_ ?_)
   ·exact fM b [.tmp 4] (.p T3 (-1)) eT ⟨by rw[hf],rfl⟩
   ·exact eN
   ·exact eN
def Bb (h:AH) (t:Int):List Int:=(h.1.getD t.toNat TN).2.1
def Bo (h:AH) (a b:Int):Int×Bool :=
 if (GD (Bb h a) (Bb h b)).length=0 then (0,false) else if FB (GD (Bb h a) (Bb h b)) 0 h.1<0 then (0,false) else (FB (GD (Bb h a) (Bb h b)) 0 h.1,true)
def w6:Aa:={ ins:=[ER,T3,T3],pre:=λ(h,a,b,_)=>((0:Int)<=a/\a<(List.length (h:AH).1:Int))/\((0:Int)<=b/\b<(List.length (h:AH).1:Int))/\List.length (h:AH).1<=100000/\(∀x∈(h:AH).1,x.2.1.length<=100000),out:=λ(h,a,b,_)=>[.p T3 (Bo h a b).1,.p .bool (Bo h a b).2],lend:=true }
theorem w7:Ab Tryz.prog 135 w6:=by
 refine fK [0,1,2,3,6,7,8,9,25,31] Tryz.func135 Tryz.ntmps135 (AF A70 AG) ?_;rintro w0 O0 ⟨⟨d,hf⟩,a,b,u⟩ e-⟨ha,i,k,n⟩;simp only[w6,AL];refine Ev.ent (σ':=⟨[(0,.p ER (d,hf)),(1,.p T3 a),(2,.p T3 b)],[]⟩) ?_ (AC [] rfl rfl ?_ ?_)
 ·repeat'(first|exact trivial|refine eS rfl ?_|refine rX e ?_ ?_|refine rC ?_ ?_<;>intro f<;>try(cases f;done))
  ·refine⟨ha,i,?_⟩;have h1:Int.toNat a<List.length d:=(AEZ ha.1).2 ha.2;exact n _ (AE (d:List G8) TN h1)
  ·have l:Bo (d,hf) a b=(0,false):=by
    unfold Bo;rw[BY (by unfold Bb;exact AFp f)]
   exact fI e [.tmp 6,.tmp 7] (by rw[l];exact eR)
  ·have j:∀c,c=GD (List.getD d (Int.toNat a) (ByteArray.empty,[],[],[])).2.1 (List.getD d (Int.toNat b) (ByteArray.empty,[],[],[])).2.1->c=GD (Bb (d,hf) a) (Bb (d,hf) b):=λc h=>h;have g:Bo (d,hf) a b=if FB (GD (Bb (d,hf) a) (Bb (d,hf) b)) 0 d<0 then (0,false) else (FB (GD (Bb (d,hf) a) (Bb (d,hf) b)) 0 d,true):=by
    unfold Bo;rw[An (λh=>f (by unfold Bb at h;exact ADx Int.ofNat h))]
   generalize o:GD (List.getD d (Int.toNat a) (ByteArray.empty,[],[],[])).2.1 (List.getD d (Int.toNat b) (ByteArray.empty,[],[],[])).2.1=c at *;rw[<-j c rfl]at g;refine cP 3 e ?_ ?_
   ·trivial
   ·refine rM e (A0a d c k) [(1,.nm 8)] [] ?_ ?_ ?_
    ·exact eN
    ·exact eN
    ·rintro _ _ ⟨rfl,rfl⟩;refine⟨[(8,.nm 1)],.p T3 (FB c 0 d),[(8,.box 140 false [.p BT c])],rfl,rfl,?_,?_,rfl,rfl,?_⟩
     ·exact eN
     ·exact eN
     ·generalize FB c 0 d=m at *;refine rL e ?_ ?_
      ·trivial
      ·repeat'(first|exact trivial|refine eS rfl ?_|refine rX e ?_ ?_|refine rC ?_ ?_<;>intro f<;>try(cases f;done))
       ·rw[BY f]at g;exact fI e [.tmp 6,.tmp 7] (by rw[g];exact eR)
       ·rw[An (AAb.2 f)]at g;exact fI e [.tmp 6,.tmp 7] (by rw[g];exact eR)
 ·exact eN
 ·exact eN
end
theorem Wl (l:List (List Int)) (i k:Nat):l <+: Gf l i k:=by
 unfold Gf;split
 ·exact AFg _ _
 ·exact AAq _
theorem Wm (i:Nat):∀(n k:Nat) (l:List (List Int)),l <+: Gg i n k l
 | 0,_,l=>AAq l
 | n+1,k,l=>by
  unfold Gg;split
  ·exact(Wl l i k).trans (Wm i n (k+1) _)
  ·exact AAq l
theorem Qp:∀(n i:Nat) (l:List (List Int)),l <+: IG n i l
 | 0,_,l=>AAq l
 | n+1,i,l=>by
  unfold IG;split
  ·exact(Wm i i 0 l).trans (Qp n (i+1) _)
  ·exact AAq l
theorem Qq {l m:List (List Int)} (h:l <+: m) {k:Nat} (hk:k<l.length):m.getD k []=l.getD k []:=by
 obtain⟨t,rfl⟩:=h;simp only[AS];rw[UR hk]
def Le (l:List (List Int)) (q p:Nat):Prop:=Ej (l.getD q []) (l.getD p [])=[]\/Ej (l.getD q []) (l.getD p [])∈l
theorem Le.pre {l m:List (List Int)} (h:l <+: m) {q p:Nat} (b:q<l.length) (hp:p<l.length) (a:Le l q p):Le m q p:=by
 unfold Le at a ⊢;rw[Qq h b,Qq h hp];rcases a with a|a
 ·exact .inl a
 ·exact .inr (h.subset a)
theorem A71 {l:List (List Int)} {b:List Int} (h:mV l b=true):b∈l:=by
 obtain⟨x,a,e⟩:=UF.1 h;have:x=b:=by simpa[HS] using e
 rw[<-this];exact a
theorem nU {l:List (List Int)} {i k:Nat} (hi:i<l.length) (hk:k<l.length):Le (Gf l i k) i k:=by
 have hp:=Wl l i k;unfold Le;rw[Qq hp hi,Qq hp hk];unfold Gf;split
 ·right;simp
 ·rename_i a;rw[AT,Fe,UB]at a;by_cases h0:0<((Ej (l.getD i []) (l.getD k [])).length:Int)
  ·right;cases hh:mV l (Ej (l.getD i []) (l.getD k [])) with
   | true=>exact A71 hh
   | false=>exact absurd ⟨h0,hh⟩ a
  ·left;exact UL (by omega)
theorem Wn {i:Nat}:∀ {n k:Nat} {l:List (List Int)},n+k=i->i<l.length->(Gg i n k l).length<=256->(∀p,p<k->Le l i p)->∀p,p<i->Le (Gg i n k l) i p
 | 0,k,l,hn,hi,a,h=>λp hp=>h p (by omega)
 | n+1,k,l,hn,hi,a,h=>by
  unfold Gg at a ⊢;split at a
  ·rename_i b;rw[BY b];have hp:=Wl l i k;refine Wn (by omega) (AA8 hi hp.length_le) a λp c=>?_;by_cases e:p=k
   ·subst e;exact nU hi (by omega)
   ·exact(h p (by omega)).pre hp hi (by omega)
  ·rename_i b;exact absurd (by omega:l.length<=256) b
theorem Wo:∀ {n i:Nat} {l:List (List Int)},257<=n+i->(IG n i l).length<=256->i<=l.length->(∀q p,p<q->q<i->Le l q p)->∀q p,p<q->q<(IG n i l).length->Le (IG n i l) q p
 | 0,i,l,hn,a,f,h=>λq p c d=>by
  have j:l.length<=256:=a;omega
 | n+1,i,l,hn,a,f,h=>by
  unfold IG at a ⊢;split at a
  ·rename_i b;rw[BY b];have hp:=Wm i i 0 l;have k:=hp.length_le;have g:=(Qp n (i+1) (Gg i i 0 l)).length_le;refine Wo (by omega) a (by omega) λq p c d=>?_;by_cases e:q=i
   ·subst e;exact Wn (by omega) b.1 (by omega) (λp hp=>by omega) p c
   ·exact(h q p c (by omega)).pre hp (by omega) (by omega)
  ·rename_i b;rw[An b];intro q p c d;exact h q p c (by
    refine Do λhh=>b ⟨by omega,a⟩)
theorem c6 {c:List (List Int)} (a:(Ay c).length<=256):∀q p,p<q->q<(Ay c).length->Le (Ay c) q p :=
 Wo (by omega) a (IS _) (λq p _ h=>by omega)
theorem A3f (a b:List Int) (k:Nat):(Ej a b).getD k 0=if k<a.length then CC .and .u64 (a.getD k 0) (b.getD k 0) else 0:=by
 unfold Ej;rw[Qb];split
 ·rename_i h;exact NT .and a b h
 ·rename_i h;rw[AS,UJ (by rw[Ex];omega)];rfl
theorem HC {b:List Int} {k:Nat} (h:¬k<b.length):b.getD k 0=0:=by
 rw[AS,UJ (by omega)];rfl
theorem Qr {a b:List Int} (ha:IJ a) (c:IJ b) (i:Nat):BF (Ej a b) i=(BF a i&&BF b i):=by
 unfold BF;rw[A3f];split
 ·rw[II (BK ha _) (BK c _),UG,Nat.testBit_and]
 ·rename_i h;rw[HC h];simp
theorem Qs {a b:List Int} (ha:IJ a) (d:IJ b):IJ (Ej a b):=by
 refine Oz λx c=>?_;unfold Gd at c;obtain⟨i,-,rfl⟩:=IF.1 c;rw[Hh,II (BK ha _) (BK d _)];have h1:=BK ha i;have e:(a.getD i 0).toNat &&& (b.getD i 0).toNat<=(a.getD i 0).toNat:=AF9;have f:=h1.1;have g:=h1.2;exact⟨oF _,by omega⟩
theorem SE (b:List Int):∀n,Cj b n=0\/b.getD (Cj b n-1) 0≠0
 | 0=>.inl rfl
 | n+1=>by
  unfold Cj;split
  ·exact SE b n
  ·rename_i h;right;simpa using h
theorem A72 {n:Nat} (h0:n≠0) (h1:n<18446744073709551616):∃r,r<64/\n.testBit r=true:=by
 refine Do λb=>h0 ?_;refine Nat.eq_of_testBit_eq λr=>?_;rw[Nat.zero_testBit];by_cases c:r<64
 ·cases a:n.testBit r with
  | false=>rfl
  | true=>exact absurd ⟨r,c,a⟩ b
 ·have e:(18446744073709551616:Nat)=2 ^ 64:=by decide
  rw[e]at h1;exact Nat.testBit_lt_two_pow (AA8 h1 (Nat.pow_le_pow_right (by decide) (by omega)))
theorem i5 {b:List Int} (a:IJ b) {k:Nat} (h:b.getD k 0≠0):∃i,BF b i=true:=by
 have hu:=BK a k;have h1:=hu.1;have d:=hu.2;obtain⟨r,e,c⟩:=A72 (n:=(b.getD k 0).toNat) (by omega) (by omega);refine⟨64*k+r,?_⟩;unfold BF;rw[show (64*k+r) / 64=k by omega,show (64*k+r) % 64=r by omega];exact c
theorem nV {b:List Int} (a:IJ b) (h:BM b≠[]):∃i,BF b i=true:=by
 rcases SE b b.length with h1|h1
 ·exact absurd (by unfold BM;rw[h1];rfl) h
 ·exact i5 a h1
theorem Zc {a b:List Int} (ha:IJ a) (c:IJ b) (h:∀i,BF a i=true->BF b i=true) (k:Nat):CC .andNot .u64 (a.getD k 0) (b.getD k 0)=0:=by
 rw[R6];have:(BitVec.ofInt 64 (a.getD k 0) &&& ~~~BitVec.ofInt 64 (b.getD k 0))=0#64:=by
  apply BitVec.eq_of_getLsbD_eq;intro r e;rw[BitVec.getLsbD_and,BitVec.getLsbD_not,<-AEw,<-AEw,Fu (BK ha k),Fu (BK c k)];have hk:=h (64*k+r);unfold BF at hk;rw[show (64*k+r) / 64=k by omega,show (64*k+r) % 64=r by omega]at hk;cases d:(a.getD k 0).toNat.testBit r with
  | false=>simp
  | true=>rw[hk d];simp
 rw[this];rfl
theorem Fc {a b:List Int} (ha:IJ a) (c:IJ b):E4 a b=true↔∀i,BF a i=true->BF b i=true:=by
 constructor
 ·exact λh i hi=>MY ha c h hi
 ·intro h;unfold E4 R0 BM;have h1:Cj (Gd .andNot a b a.length) (Gd .andNot a b a.length).length=0:=by
   rw[Ex];exact R7 λk hk=>by rw[NT _ _ _ hk];exact Zc ha c h k
  rw[h1];rfl
structure JJ (l:List (List Int)):Prop where
 wds:∀c∈l,IJ c
 some:∀c∈l,∃i,BF c i=true
 wid:∀c∈l,c.length<=64
 meet:∀a∈l,∀b∈l,(∃i,BF a i=true/\BF b i=true)->∃t∈l,∀i,BF t i=(BF a i&&BF b i)
structure Bs (l:List (List Int)):Prop where
 wds:∀c∈l,IJ c
 some:∀c∈l,∃i,BF c i=true
theorem SF {l:List (List Int)} {k:Nat} (h:¬k<l.length):l.getD k []=[]:=by
 rw[AS,UJ (by omega)];rfl
theorem Bs.get {l:List (List Int)} (h:Bs l) (k:Nat):IJ (l.getD k []):=by
 by_cases hk:k<l.length
 ·exact h.wds _ (BD hk)
 ·rw[SF hk];intro x a;cases a
theorem A73 {l:List (List Int)} (h:Bs l) (i k:Nat):Bs (Gf l i k):=by
 unfold Gf;split
 ·rename_i b;rw[AT,Fe]at b;refine⟨λc a=>?_,λc a=>?_⟩
  ·rcases No.1 a with a|a
   ·exact h.wds c a
   ·have:c=Ej (l.getD i []) (l.getD k []):=by simpa using a
    rw[this];exact Qs (h.get i) (h.get k)
  ·rcases No.1 a with a|a
   ·exact h.some c a
   ·have:c=Ej (l.getD i []) (l.getD k []):=by simpa using a
    rw[this];have g:Ej (l.getD i []) (l.getD k [])≠[]:=by
     intro e;rw[e]at b;exact absurd b.1 (by simp)
    have m:IJ (Gd .and (l.getD i []) (l.getD k []) (l.getD i []).length):=by
     intro x d;unfold Gd at d;obtain⟨j,-,rfl⟩:=IF.1 d;rw[Hh,II (BK (h.get i) _) (BK (h.get k) _)];have h1:=BK (h.get i) j;have n:((l.getD i []).getD j 0).toNat &&& ((l.getD k []).getD j 0).toNat<=((l.getD i []).getD j 0).toNat:=AF9;have o:=h1.1;have p:=h1.2;exact⟨oF _,by omega⟩
    obtain⟨j,f⟩:=nV m g;exact⟨j,by unfold Ej;rw[Oy];exact f⟩
 ·exact h
theorem w8 {i:Nat}:∀ {n k:Nat} {l:List (List Int)},Bs l->Bs (Gg i n k l)
 | 0,_,_,h=>h
 | n+1,k,l,h=>by
  unfold Gg;split
  ·exact w8 (A73 h i k)
  ·exact h
theorem w9:∀ {n i:Nat} {l:List (List Int)},Bs l->Bs (IG n i l)
 | 0,_,_,h=>h
 | n+1,i,l,h=>by
  unfold IG;split
  ·exact w9 (w8 h)
  ·exact h
theorem A0b {d:List AI} (f:A7 d=0):Bs (AX d):=by
 obtain⟨-,l,-⟩:=A1 f;have h:=D7 d d.length;rw[UE]at h;have b:(AO d).length<=4096:=by omega
 refine⟨λc a=>?_,λc a=>?_⟩
 ·unfold AX at a;obtain⟨s,-,rfl⟩:=IF.1 a;exact(B9 (d:=d) b s 0).2.1
 ·unfold AX at a;obtain⟨s,hs,rfl⟩:=IF.1 a;obtain⟨j,g,e⟩:=CH ByteArray.empty hs;have i:0<=Au d s:=by
   obtain⟨x,k,e⟩:=Dd hs;rw[<-e];exact Db k
  exact⟨j,(B9 (d:=d) b s j).1.2 ⟨g,by rw[e];exact O2 i⟩⟩
theorem Wp {d:List AI} (l:A7 d=0) (s:(Ay (AX d)).length<=256):JJ (Ay (AX d)):=by
 obtain⟨-,o,-⟩:=A1 l;have g:Bs (Ay (AX d)):=w9 (A0b l);have n:=c6 s;refine⟨g.wds,g.some,Qi (O6 o),λa ha b r hi=>?_⟩;obtain⟨q,f,rfl⟩:=CH [] ha;obtain⟨p,hp,rfl⟩:=CH [] r;have key:∀q p,q<(Ay (AX d)).length->p<(Ay (AX d)).length->Le (Ay (AX d)) q p->(∃i,BF ((Ay (AX d)).getD q []) i=true/\BF ((Ay (AX d)).getD p []) i=true) ->
   ∃t∈Ay (AX d),∀i,BF t i=(BF ((Ay (AX d)).getD q []) i&&BF ((Ay (AX d)).getD p []) i):=by
  intro q p f hp c hi;have m:=Qr (g.get q) (g.get p);rcases c with c|c
  ·obtain⟨i,j,k⟩:=hi;have:=m i;rw[c,j,k]at this;unfold BF at this;simp at this
  ·exact⟨_,c,m⟩
 rcases AES p q with h|h|h
 ·exact key q p f hp (n q p h f) hi
 ·subst h;exact⟨_,BD f,λi=>by rw[Bool.and_self]⟩
 ·obtain⟨t,u,e⟩:=key p q hp f (n p q h hp) (by obtain⟨i,j,k⟩:=hi;exact⟨i,k,j⟩);exact⟨t,u,λi=>by rw[e i,AFt]⟩
def GL (h:AH):Prop:=JJ (h.1.map λt=>t.2.1)/\h.1.length<=256
theorem JK (d:List AI):GL (Ax d).1:=by
 unfold Ax;split
 ·exact⟨⟨λc h=>(by cases h),λc h=>(by cases h),λc h=>(by cases h),λc h=>(by cases h)⟩,by simp⟩
 ·rename_i g;have g:(BC d).2=0:=Do g;have m:A0 d=0:=by
   unfold BC at g;split at g
   ·rename_i h;exact absurd g h
   ·rename_i h;exact Do h
  obtain⟨p,-,-⟩:=CE m;obtain⟨l,k,-⟩:=BZ p;have hf:=Wp l k;have f:∀c,c∈((Bt d).1.map λt=>t.2.1)↔c∈Ay (AX d):=by
   intro c;have e:((Bt d).1.map λt=>t.2.1)=(AM d).map λx=>x.2:=by
    show ((Ee _ _ _).map λt=>t.2.1)=_;unfold Ee;rw[AAc];apply YI
    ·simp
    ·intro i h1 q;simp[AS,show i<(AM d).length by simpa using h1]
   rw[e];constructor
   ·intro h;obtain⟨x,o,rfl⟩:=IF.1 h;obtain⟨b,j,rfl⟩:=De.1 o;exact j
   ·intro h;exact IF.2 ⟨_,De.2 ⟨c,h,rfl⟩,rfl⟩
  refine⟨⟨λc h=>hf.wds c ((f c).1 h),λc h=>hf.some c ((f c).1 h),λc h=>hf.wid c ((f c).1 h),λa ha b j hi=>?_⟩,?_⟩
  ·obtain⟨t,n,e⟩:=hf.meet a ((f a).1 ha) b ((f b).1 j) hi;exact⟨t,(f t).2 n,e⟩
  ·show (Ee _ _ _).length<=256;rw[KE,IL];exact k
theorem CW {h:AH} {t:Int} (a:0<=t) (b:t<(h.1.length:Int)):Bb h t∈h.1.map λt=>t.2.1 :=
 IF.2 ⟨_,AE h.1 TN (k:=t.toNat) (by omega),rfl⟩
theorem Wq {a b:List Int} (ha:IJ a) (c:IJ b):Md a b=true↔∀i,BF a i=true->BF b i=true:=by
 constructor
 ·intro h i hi;by_cases hk:i / 64<a.length
  ·have h1:=Is.1 h (i / 64) (UM.2 hk);rw[YD,Hh]at h1;exact TE (BK ha _) (BK c _) h1 (AFA _ (by decide)) hi
  ·exfalso;unfold BF at hi;rw[HC hk]at hi;simp at hi
 ·intro h;unfold Md;rw[Is];intro k _;rw[YD,Hh];exact Zc ha c h k
theorem A3g {a b:List Int} (ha:IJ a) (c:IJ b) (i:Nat):BF (GD a b) i=(BF a i&&BF b i):=by
 unfold GD;rw[Oy];unfold BF;have:(HB (cZ a b) (min a.length b.length) (min a.length b.length)).getD (i / 64) 0=CC .and .u64 (a.getD (i / 64) 0) (b.getD (i / 64) 0):=by
  by_cases h:i / 64<min a.length b.length
  ·unfold HB;rw[AS,iS,AE5 h];show (if i / 64<min a.length b.length then cZ a b (i / 64) else 0)=_;rw[BY h];rfl
  ·rw[HC (by rw[Zb];exact h),II (BK ha _) (BK c _)];by_cases h1:i / 64<a.length
   ·rw[HC (b:=b) (by omega)];simp
   ·rw[HC (b:=a) h1];simp
 rw[this,II (BK ha _) (BK c _),UG,Nat.testBit_and]
theorem A3h {a b:List Int} (ha:IJ a) (d:IJ b):IJ (GD a b):=by
 refine Oz λx c=>?_;unfold HB at c;obtain⟨j,-,rfl⟩:=IF.1 c;split
 ·unfold cZ;rw[II (BK ha _) (BK d _)];have h1:=BK ha j;have e:(a.getD j 0).toNat &&& (b.getD j 0).toNat<=(a.getD j 0).toNat:=AF9;have f:=h1.1;have g:=h1.2;exact⟨oF _,by omega⟩
 ·exact⟨by decide,by decide⟩
theorem Wr (c:List Int):∀(l:List G8) (k:Nat),(FB c k l=-1/\∀t∈l,EB t.2.1 c=false)\/((k:Int)<=FB c k l/\FB c k l<(k:Int)+l.length/\EB (l.getD ((FB c k l).toNat-k) TN).2.1 c=true)
 | [],k=>.inl ⟨rfl,λt a=>by cases a⟩
 | x :: l,k=>by
  simp only[FB];split
  ·rename_i h;right;refine⟨by omega,by simp only[OS];omega,?_⟩;rw[show ((k:Int).toNat-k)=0 by omega];exact h
  ·rename_i h;have h:EB x.2.1 c=false:=by simpa using h
   rcases Wr c l (k+1) with ⟨h1,b⟩|⟨h1,b,d⟩
   ·left;refine⟨h1,λt a=>?_⟩;rcases DO.1 a with rfl|a
    ·exact h
    ·exact b t a
   ·right;refine⟨by omega,by simp only[OS];omega,?_⟩;rw[show ((FB c (k+1) l).toNat-k)=((FB c (k+1) l).toNat-(k+1))+1 by omega];exact d
def Tb2 (h:AH) (t:Int) (i:Nat):Bool:=BF (Bb h t) i
theorem B3 {h:AH} (hk:GL h) {a b:Int} (c:0<=a) (d:a<(h.1.length:Int)) (e:0<=b) (b1:b<(h.1.length:Int)):BA h a b=true↔∀i,Tb2 h b i=true->Tb2 h a i=true :=
 Wq (hk.1.wds _ (CW e b1)) (hk.1.wds _ (CW c d))
theorem A3j {h:AH} (hk:GL h) {a b:Int} (g:0<=a) (j:a<(h.1.length:Int)) (l:0<=b) (b1:b<(h.1.length:Int)) :
  ((Bo h a b).2=true->0<=(Bo h a b).1/\(Bo h a b).1<(h.1.length:Int)/\∀i,Tb2 h (Bo h a b).1 i=(Tb2 h a i&&Tb2 h b i))/\((∃i,Tb2 h a i=true/\Tb2 h b i=true)->(Bo h a b).2=true):=by
 have s:=hk.1.wds _ (CW g j);have u:=hk.1.wds _ (CW l b1);have c:=A3g s u;have o:=A3h s u;have heq:∀t∈h.1,EB t.2.1 (GD (Bb h a) (Bb h b))=true↔∀i,BF t.2.1 i=BF (GD (Bb h a) (Bb h b)) i:=by
  intro t d;have wt:=hk.1.wds t.2.1 (IF.2 ⟨t,d,rfl⟩);unfold EB;rw[AT,Wq wt o,Wq o wt];constructor
  ·rintro⟨v,w⟩ i;rw[AEa];exact⟨v i,w i⟩
  ·intro e;exact⟨λi hi=>by rw[<-e i];exact hi,λi hi=>by rw[e i];exact hi⟩
 unfold Bo;by_cases f:(GD (Bb h a) (Bb h b)).length=0
 ·rw[BY f];refine⟨λe=>(by cases e),?_⟩;rintro⟨i,q,r⟩;exfalso;have:=c i;rw[UL f]at this;unfold Tb2 at q r;rw[q,r]at this;unfold BF at this;simp at this
 ·rw[An f];rcases Wr (GD (Bb h a) (Bb h b)) h.1 0 with ⟨h1,m⟩|⟨h1,m,n⟩
  ·rw[BY (by omega)];refine⟨λe=>(by cases e),λhi=>?_⟩;exfalso;obtain⟨t,d,e⟩:=hk.1.meet _ (CW g j) _ (CW l b1) hi;obtain⟨x,p,rfl⟩:=IF.1 d;have:=(heq x p).2 (λi=>by rw[c i];exact e i);rw[m x p]at this;cases this
  ·have h1:0<=FB (GD (Bb h a) (Bb h b)) 0 h.1:=by omega
   rw[An (by omega)];refine⟨λ_=>⟨h1,by simp only;omega,λi=>?_⟩,λ_=>rfl⟩;rw[Nat.sub_zero]at n;have y:=AE h.1 TN (k:=(FB (GD (Bb h a) (Bb h b)) 0 h.1).toNat) (by omega);have:=(heq _ y).1 n i;rw[c i]at this;exact this
theorem Me {h:AH} (hk:GL h) {a b:Int} (l:0<=a) (m:a<(h.1.length:Int)) (n:0<=b) (b1:b<(h.1.length:Int)) :
  ((Bo h a b).2=true->0<=(Bo h a b).1/\(Bo h a b).1<(h.1.length:Int)/\BA h a (Bo h a b).1=true/\BA h b (Bo h a b).1=true) /\
  ∀x,0<=x->x<(h.1.length:Int)->BA h a x=true->BA h b x=true->(Bo h a b).2=true/\BA h (Bo h a b).1 x=true:=by
 obtain⟨r,u⟩:=A3j hk l m n b1;refine⟨λe=>?_,λx g k s t=>?_⟩
 ·obtain⟨c,d,f⟩:=r e;refine⟨c,d,(B3 hk l m c d).2 λi hi=>?_,(B3 hk n b1 c d).2 λi hi=>?_⟩
  ·rw[f i,AT]at hi;exact hi.1
  ·rw[f i,AT]at hi;exact hi.2
 ·have o:=(B3 hk l m g k).1 s;have p:=(B3 hk n b1 g k).1 t;obtain⟨i,hi⟩:=hk.1.some _ (CW g k);have e:=u ⟨i,o i hi,p i hi⟩;obtain⟨c,d,f⟩:=r e;refine⟨e,(B3 hk c d g k).2 λj q=>?_⟩;rw[f j,AT];exact⟨o j q,p j q⟩
def Nrm (c:List Int):Prop:=c.length=0\/c.getD (c.length-1) 0≠0
theorem PI (b:List Int):Nrm (BM b):=by
 unfold Nrm BM;have a:=WF b b.length;rw[ON,AEi a];rcases SE b b.length with h|h
 ·exact .inl h
 ·by_cases h0:Cj b b.length=0
  ·exact .inl h0
  ·right;rw[AS,List.getElem?_take_of_lt (by omega),<-AS];exact h
theorem A74 {a b:List Int} (ha:IJ a) (f:IJ b) (h:∀i,BF a i=BF b i) (k:Nat):a.getD k 0=b.getD k 0:=by
 have c:=BK ha k;have d:=BK f k;have j:=c.1;have l:=c.2;have m:=d.1;have o:=d.2;have e:(a.getD k 0).toNat=(b.getD k 0).toNat:=by
  refine Nat.eq_of_testBit_eq λr=>?_;by_cases g:r<64
  ·have:=h (64*k+r);unfold BF at this;rw[show (64*k+r) / 64=k by omega,show (64*k+r) % 64=r by omega]at this;exact this
  ·have big:∀n:Nat,n<18446744073709551616->n.testBit r=false:=λn hn=>by
    have e:(18446744073709551616:Nat)=2 ^ 64:=by decide
    rw[e]at hn;exact Nat.testBit_lt_two_pow (AA8 hn (Nat.pow_le_pow_right (by decide) (by omega)))
   rw[big _ (by omega),big _ (by omega)]
 omega
theorem xA {a b:List Int} (d:∀k,a.getD k 0=b.getD k 0) (c:Nrm b):b.length<=a.length:=by
 rcases c with h|h
 ·omega
 ·refine Do λe=>h ?_;rw[<-d];exact HC (by omega)
theorem nW {a b:List Int} (ha:IJ a) (e:IJ b) (g:Nrm a) (j:Nrm b) (h:∀i,BF a i=BF b i):a=b:=by
 have c:=A74 ha e h;have f:a.length=b.length:=AE8 (xA (λk=>(c k).symm) g) (xA c j);refine YI f λi h1 d=>?_;have:=c i;simpa[AS,h1,d] using this
theorem i6 {α:Type} (l:List α) (x:α) (n:Nat):List.Perm (l.take n++[x]++l.drop n) (x :: l):=by
 have h:l.take n++[x]++l.drop n=l.take n++x :: l.drop n:=by simp
 rw[h];refine AFv.trans ?_;rw[AEn]
def xB (l:List ByteArray):Prop:=l.Pairwise λa b=>AY a b=false
theorem Mf {a b:ByteArray} (h:AY a b=false):AY b a=false:=by
 cases hh:AY b a with
 | false=>rfl
 | true=>rw[D8 hh]at h;cases h
theorem Ws {l:List ByteArray} {s:ByteArray} (h:xB l) (hs:∀x∈l,AY x s=false):xB (Ea l s):=by
 unfold Ea;split
 ·exact h
 ·refine(List.Perm.pairwise_iff (λb=>Mf b) (i6 l s _)).2 ?_;exact UW.2 ⟨λx a=>Mf (hs x a),h⟩
theorem Wu {d:List AI} (hn:Cm d=0):xB (AO d):=by
 have key:∀k,k<=d.length->xB (AO (d.take k))/\∀s∈AO (d.take k),∃i,i<k/\(d.getD i d0).1=s:=by
  intro k;induction k with
  | zero =>
   intro _;exact⟨.nil,λs hs=>by cases hs⟩
  | succ k c =>
   intro hk;obtain⟨h1,a⟩:=c (by omega);have e:AO (d.take (k+1))=Ea (AO (d.take k)) (d.getD k d0).1:=by
    have:d.take (k+1)=d.take k++[d.getD k d0]:=Az d d0 (by omega);rw[this];unfold AO;rw[AEx];rfl
   rw[e];refine⟨Ws h1 λx b=>?_,λs hs=>?_⟩
   ·obtain⟨i,hi,rfl⟩:=a x b;cases hh:AY (d.getD i d0).1 (d.getD k d0).1 with
    | false=>rfl
    | true =>
     have g:=JE d hh;rw[MZ hn (j:=i) (by omega),MZ hn (j:=k) (by omega)]at g;omega
   ·rcases G0 hs with hs|hs
    ·obtain⟨i,hi,e⟩:=a s hs;exact⟨i,by omega,e⟩
    ·exact⟨k,by omega,hs.symm⟩
 have:=(key d.length (NO _)).1
 rwa [UE]at this
structure Nd (l:List (List Int)):Prop where
 nd:l.Nodup
 nrm:∀c∈l,Nrm c
theorem A75 {l:List (List Int)} {c:List Int} (h:Nd l) (b:c∉l) (hn:Nrm c):Nd (l++[c]):=by
 refine⟨?_,λx a=>?_⟩
 ·rw[ADJ];refine⟨h.nd,by simp,λx a y d e=>b ?_⟩;have:y=c:=by simpa using d
  rw[<-this,<-e];exact a
 ·rcases No.1 a with a|a
  ·exact h.nrm x a
  ·have:x=c:=by simpa using a
   rw[this];exact hn
theorem A76 {l:List (List Int)} (h:Nd l) (i k:Nat):Nd (Gf l i k):=by
 unfold Gf;split
 ·rename_i a;rw[AT,UB]at a;refine A75 h (λb=>?_) (PI _);have:mV l (Ej (l.getD i []) (l.getD k []))=true:=UF.2 ⟨_,b,by unfold HS;exact ADX rfl⟩;rw[this]at a;cases a.2
 ·exact h
theorem xC {i:Nat}:∀ {n k:Nat} {l:List (List Int)},Nd l->Nd (Gg i n k l)
 | 0,_,_,h=>h
 | n+1,k,l,h=>by
  unfold Gg;split
  ·exact xC (A76 h i k)
  ·exact h
theorem Ut:∀ {n i:Nat} {l:List (List Int)},Nd l->Nd (IG n i l)
 | 0,_,_,h=>h
 | n+1,i,l,h=>by
  unfold IG;split
  ·exact Ut (xC h)
  ·exact h
theorem SG {d:List AI} (m:A7 d=0):Nd (AX d):=by
 obtain⟨-,l,-,hn,p⟩:=A1 m;have q:=D7 d d.length;rw[UE]at q;have hap:=Wu hn;refine⟨?_,λc n=>?_⟩
 ·unfold AX List.Nodup;rw[ADy,UK];intro i j hi a o e;have h1:=(UK.1 hap) i j hi a o;have g:∀k,(hk:k<(AO d).length)->(AO d).getD k ByteArray.empty=(AO d)[k]:=λk hk=>by simp[AS,hk]
  have f:=(B9 (d:=d) (all:=AO d) (by omega) (AO d)[j] 0).2.1;have b:=iG hn p l hi a (by
   rw[g i hi,g j a,e];unfold DT;have:=(Fc f f).2 λ_ h=>h;rw[this];rfl)
  rw[g i hi,g j a,h1]at b;cases b
 ·obtain⟨s,hs,rfl⟩:=IF.1 n;unfold Ey ofF;split
  ·exact PI _
  ·exact .inl rfl
theorem Mg {d:List AI}:∀ {l:List (List Int)} {o:List AQ},(o.map (·.2)++l).Nodup->((l.foldl (R8 d) o).map (·.2)).Nodup
 | [],o,h=>by simpa using h
 | b :: l,o,h=>by
  rw[OR];refine Mg ?_;unfold R8 Gh cM;have hp:=(i6 o (G2 d (AO d) (AX d) b,b) (Fx (G2 d (AO d) (AX d) b,b) o o.length)).map (λx:AQ=>x.2);have c:List.Perm ((o.take (Fx (G2 d (AO d) (AX d) b,b) o o.length)++[(G2 d (AO d) (AX d) b,b)]++o.drop (Fx (G2 d (AO d) (AX d) b,b) o o.length)).map (λx:AQ=>x.2)++l) (o.map (·.2)++b :: l) :=
   (hp.append_right l).trans (AFv (a:=b)).symm
  exact c.nodup_iff.2 h
def Lq (h:AH):Prop:=∀a b,0<=a->a<(h.1.length:Int)->0<=b->b<(h.1.length:Int)->BA h a b=true->BA h b a=true->a=b
theorem A9l {h:AH} (hk:GL h) (hn:Nd (h.1.map λt=>t.2.1)):Lq h:=by
 intro a b c d f b1 h1 j;have m:=hk.1.wds _ (CW c d);have n:=hk.1.wds _ (CW f b1);have e:Bb h a=Bb h b:=nW m n (hn.nrm _ (CW c d)) (hn.nrm _ (CW f b1)) λi=>by
  rw[AEa];exact⟨(B3 hk f b1 c d).1 j i,(B3 hk c d f b1).1 h1 i⟩
 have hp:=UK.1 hn.nd;have g:∀k:Int,0<=k->(hk:k<(h.1.length:Int))->Bb h k=(h.1.map λt=>t.2.1)[k.toNat]'(by rw[Of];omega):=λk o p=>by
  unfold Bb;simp[AS,show k.toNat<h.1.length by omega]
 rw[g a c d,g b f b1]at e;rcases Int.lt_trichotomy a b with l|heq|l
 ·exact absurd e (hp a.toNat b.toNat (by rw[Of];omega) (by rw[Of];omega) (by omega))
 ·exact heq
 ·exact absurd e.symm (hp b.toNat a.toNat (by rw[Of];omega) (by rw[Of];omega) (by omega))
theorem i7 (d:List AI):Lq (Ax d).1:=by
 refine A9l (JK d) ?_;unfold Ax;split
 ·exact⟨.nil,λc h=>(by cases h)⟩
 ·rename_i a;have a:(BC d).2=0:=Do a;have g:A0 d=0:=by
   unfold BC at a;split at a
   ·rename_i h;exact absurd a h
   ·rename_i h;exact Do h
  obtain⟨m,-,-⟩:=CE g;obtain⟨f,o,-⟩:=BZ m;have hf:Nd (Ay (AX d)):=Ut (SG f);have e:((Bt d).1.map λt=>t.2.1)=(AM d).map λx=>x.2:=by
   show ((Ee _ _ _).map λt=>t.2.1)=_;unfold Ee;rw[AAc];apply YI
   ·simp
   ·intro i h1 n;simp[AS,show i<(AM d).length by simpa using h1]
  show Nd ((Bt d).1.map λt=>t.2.1);rw[e];refine⟨Mg (by simpa using hf.nd),λc k=>?_⟩;obtain⟨x,l,rfl⟩:=IF.1 k;obtain⟨b,j,rfl⟩:=De.1 l;exact hf.nrm b j
section
attribute [local go_sem] w6
def EK (f:Int):List (Int×Int)->Int×Bool
 | []=>(0,false)
 | x :: l=>if x.1=f then (x.2,true) else EK f l
theorem Wv (f:Int) (l:List (Int×Int)) {k:Nat} (h:k<l.length):EK f (l.drop k)=if (l.getD k (0,0)).1=f then ((l.getD k (0,0)).2,true) else EK f (l.drop (k+1)):=by
 rw[TO h];have e:l.getD k (0,0)=l[k]:=by simp[AS,h]
 rw[e];rfl
def c7 (h:AH) (t:Int):List (Int×Int):=(h.1.getD t.toNat TN).2.2.2
def CB (h:AH) (t f:Int):Int×Bool:=EK f (c7 h t)
def OH:Aa:={ ins:=[ER,T3,T3],pre:=λ(h,t,_,_)=>(0:Int)<=t/\t<(List.length (h:AH).1:Int),out:=λ(h,t,f,_)=>[.p T3 (CB h t f).1,.p .bool (CB h t f).2],lend:=true }
attribute [local go_sem] OH
theorem xD:Ab Tryz.prog 83 OH:=by
 refine fK [0,1,2,3,6,7,9,15,16,17,18,26] Tryz.func83 Tryz.ntmps83 AG ?_;rintro w0 O0 ⟨⟨d,hf⟩,t,f,u⟩ a q ⟨j,m⟩;simp only[OH,AL];refine Ev.ent (σ':=⟨[(0,.p ER (d,hf)),(1,.p T3 t),(2,.p T3 f)],[]⟩) ?_ (AC [] rfl rfl ?_ ?_)
 ·repeat'(first|exact trivial|refine eS rfl ?_|refine rX a ?_ ?_)
  ·exact⟨j,m⟩
  ·have o:∀l,l=(List.getD d (Int.toNat t) (ByteArray.empty,[],[],[])).2.2.2->CB (d,hf) t f=EK f l:=λl e=>by rw[e];rfl
   have r:List.length (List.getD d (Int.toNat t) (ByteArray.empty,[],[],[])).2.2.2<=140737488355328:=(q.1.1.2 _ (AE (d:List G8) TN ((AEZ j).2 m))).2.2.2.1;generalize (List.getD d (Int.toNat t) (ByteArray.empty,[],[],[])).2.2.2=l at *;rw[o l rfl];refine AJ (ι:={k:Nat//k<=List.length l/\EK f l=EK f (l.drop k)}) (λk=>⟨[(2,.p T3 f),(15,.p WC l),(16,.p (.int .i64) (List.length l:Int)),(17,.p (.int .i64) (k.1:Int))],[]⟩) (λk=>List.length l-k.1) ⟨0,IS _,rfl⟩ (eW []) (λk=>?_)
   ·obtain⟨k,hk,b⟩:=k;have i:=λh:k<List.length l=>Wv f l h;simp only;repeat'(first|exact trivial|refine eS rfl ?_|refine rX a ?_ ?_|refine rC ?_ ?_<;>intro c<;>try(cases c;done))
    ·exact c
    ·refine cP 5 a ?_ ?_
     ·trivial
     ·refine ADP a ?_;refine rL a ?_ ?_
      ·trivial
      ·repeat'(first|exact trivial|refine eS rfl ?_|refine AB ?_|refine rX a ?_ ?_|refine rC ?_ ?_<;>intro c<;>try(cases c;done))
       ·have g:k<List.length l:=by exact eV
        rw[i g,BY c]at b;exact fI a [.tmp 6,.tmp 7] (by rw[b];exact eR)
       ·omega
       ·have g:k<List.length l:=by exact eV
        rw[i g,An c]at b;exact⟨⟨k+1,g,b⟩,by simp only;omega,eW []⟩
    ·have n:List.drop k (l:List (Int×Int))=[]:=By (by exact eV);rw[n]at b;have b:EK f l=(0,false):=b;exact fI a [.tmp 6,.tmp 7] (by rw[b];exact eR)
 ·exact eN
 ·exact eN
abbrev Eb:=List Int×List Int
def DJ (h:AH) (s:Eb) (n t:Int):Option Eb :=
 if (Bo h (s.1.getD n.toNat 0) t).2=true then some (if (Bo h (s.1.getD n.toNat 0) t).1=s.1.getD n.toNat 0 then s else (s.1.set n.toNat (Bo h (s.1.getD n.toNat 0) t).1,s.2++[n])) else none
def EC (h:AH) (s:Eb):List (Nat×Obj):=[(1,.box 205 true [.p ER h,.sr 2 T3 0 s.1.length,.p Ft s.2]),(2,.arr 3 T3 s.1)]
theorem i8 (h:AH) (hk:GL h) (s:Eb) {n t:Int} (n0:0<=n) (n1:n<(s.1.length:Int)) (f:0<=s.1.getD n.toNat 0) (ty1:s.1.getD n.toNat 0<(h.1.length:Int)) (k:0<=t) (l:t<(h.1.length:Int)) (i:s.2.length<=1000000000) :
  BJ Tryz.prog 211 [.bp 1 [] 0,.p T3 n,.p T3 t] (EC h s) [1]
  (λres d=>(DJ h s n t=none/\res=.p .bool false/\d=EC h s)\/∃e,DJ h s n t=some e/\res=.p .bool true/\d=EC h e):=by
 obtain⟨ty,w⟩:=s;simp only at n1 f ty1 i;have hh:h.1.length<=100000:=UD hk.2 (by omega);have g:∀x∈h.1,x.2.1.length<=100000:=λx j=>UD (hk.1.wid x.2.1 (IF.2 ⟨x,j,rfl⟩)) (by omega);refine Kv [0,1,2,6,7,8,26,35] [] [] Tryz.func211 Tryz.ntmps211 (AF w7 AG) ?_;intro w0 K O0 ρ0 c o q;simp only[EC,Ar];repeat'(first|exact trivial|refine eS rfl ?_|refine rX c ?_ ?_|refine rC ?_ ?_<;>intro b<;>try(cases b;done))
 ·exact⟨⟨n0,n1⟩,⟨f,ty1⟩,⟨k,l⟩,hh,g⟩
 ·have a:DJ h (ty,w) n t=none:=by unfold DJ;rw[An (by simp only;rw[b];simp)]
  refine Ev.ent (σ':=⟨[(6,.p .bool false)],EC h (ty,w)⟩) ?_ (AC [(1,.nm 1),(2,.nm 2)] rfl rfl ?_ ?_)
  ·exact fM c [.tmp 6] (.p .bool false) eT (.inl ⟨a,rfl,rfl⟩)
  ·unfold EC;exact eN
  ·exact eN
 ·exact⟨n0,n1⟩
 ·exact⟨n0,n1⟩
 ·simp only[AP];omega
 ·have a:DJ h (ty,w) n t=some (ty.set n.toNat (Bo h (ty.getD n.toNat 0) t).1,w++[n]):=by unfold DJ;rw[BY (by assumption),An b]
  generalize (Bo h (ty.getD n.toNat 0) t).1=m at *;have r:(w++[n]).take (w.length+1)=w++[n]:=As (by simp);refine FP [61] ?_;refine Ev.ent (σ':=⟨[(6,.p .bool true)],EC h (ty.set n.toNat m,w++[n])⟩) ?_ (AC [(1,.nm 1),(2,.nm 2)] rfl rfl ?_ ?_)
  ·exact fM c [.tmp 6] (.p .bool true) eT (.inr ⟨_,a,rfl,rfl⟩)
  ·unfold EC;simp only[YG];exact eN
  ·exact eN
 ·have a:DJ h (ty,w) n t=some (ty,w):=by unfold DJ;rw[BY (by assumption),BY (by simpa using b)]
  refine Ev.ent (σ':=⟨[(6,.p .bool true)],EC h (ty,w)⟩) ?_ (AC [(1,.nm 1),(2,.nm 2)] rfl rfl ?_ ?_)
  ·exact fM c [.tmp 6] (.p .bool true) eT (.inr ⟨_,a,rfl,rfl⟩)
  ·unfold EC;exact eN
  ·exact eN
end
section
def nX:Aa:={ ins:=[T3],pre:=λ_=>True,out:=λ_=>[.p .bool false] }
attribute [local go_sem] nX
def F0 (a b:Int):Int:=if a<b then -1 else if b<a then 1 else 0
def HD:Aa:={ ins:=[T3,T3],pre:=λ_=>True,out:=λ(a,b,_)=>[.p T3 (F0 a b)] }
attribute [local go_sem] HD
def C0:Aa:={ ins:=[AU,AU],pre:=λ_=>True,out:=λ(a,b,_)=>[.p T3 (F0 (Prod.fst a) (Prod.fst b))] }
attribute [local go_sem] C0
theorem A3k:Ab Tryz.prog 224 nX:=by
 refine fK [0,2] Tryz.func224 Tryz.ntmps224 AG ?_;rintro w0 O0 ⟨x,u⟩ a - -;simp only[nX,AL];repeat'(first|exact trivial|refine eS rfl ?_|refine rX a ?_ ?_)
 exact fI a [.tmp 2]
theorem Gp:Ab Tryz.prog 208 HD:=by
 refine fK [0,1,4,5,6,11,12,13,16,19] Tryz.func208 Tryz.ntmps208 (AF A3k AG) ?_;rintro w0 O0 ⟨a,b,u⟩ c - -;simp only[HD,AL];repeat'(first|exact trivial|refine eS rfl ?_|refine rX c ?_ ?_|refine rC ?_ ?_<;>intro d<;>try(cases d;done))
 ·have e:F0 a b=-1:=BY d;exact fI c [.tmp 4] (by rw[e];exact eR)
 ·have e:F0 a b=1:=by unfold F0;rw[An (by omega),BY d]
  exact fI c [.tmp 4] (by rw[e];exact eR)
 ·have e:F0 a b=0:=by unfold F0;rw[An (by omega),An (by omega)]
  exact fI c [.tmp 4] (by rw[e];exact eR)
theorem E7:Ab Tryz.prog 192 C0:=by
 refine fK [0,1,2,3,4] Tryz.func192 Tryz.ntmps192 (AF Gp AG) ?_;rintro w0 O0 ⟨a,b,u⟩ c - -;simp only[C0,AL];repeat'(first|exact trivial|refine eS rfl ?_|refine rX c ?_ ?_)
 exact fI c [.tmp 4]
def i9 (l:List (Int×Int)):Prop:=∀i,i+1<l.length->(l.getD i (0,0)).1<(l.getD (i+1) (0,0)).1
end
end Go.Proofs.YtapkhdkbkodbjaaGreat.Fw
