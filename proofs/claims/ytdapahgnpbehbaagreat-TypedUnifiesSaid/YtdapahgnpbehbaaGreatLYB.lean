/- Contracts of the program's and the reference's functions, and the plain laws of what they compute: R07c R07d R07e Sorted R07f R07g R07h R15c P8 C37 H1 D1 D4 N5 N6 N7 T4 G1 G3 PS PA PB PC PD PE PF PL PG. -/
import Derived.Test.YtdapahgnpbehbaaGreatLZJ
import Derived.Test.YtdapahgnpbehbaaGreatLYA
import Derived.Test.YtdapahgnpbehbaaGreatLZI
set_option linter.unusedVariables false
set_option linter.unusedSimpArgs false
namespace Go.Proofs.YtdapahgnpbehbaaGreat.Fw
open Go
attribute [local irreducible] Ev
attribute [local go_sem] XB AM List.toList_toArray Br evG evK Te Ef Ju Fm E6 F7 Nl KI CG Ct K2 B0 Ck frz aD GX DJ A7 FY BW AV.frz AV.frzs AV.drp AV.drps AV.names AV.namess aq GY KH Jl Qq ID BQ BX JJ Ea Hn Eb Hq Ho Hr Si Nf GZ JK Fa Dz Sj PJ xZ JL II Kw FE Dk IJ Jn EE Qr Ca EF Eq PK IK PM Lk IL Jo Cs Cj FK Dl HL DR Er DS EH FJ B0 Ci O6 O8 MB F5 IG IE Jm MC Ni Ll K0 Ky Jr PN Kz Js Wa Nk Nj AV.trn AV.trns Dy CZ Obj.trn JY Y8 DF DT DE EI CV Es Aj lk Gr GP HJ yC aC Tc aF PI pY pZ pfs AV.cells CE JG OB Jq Nh CU L9 Ty.cell1 Hm Ep Dj F4 Kv EZ KG Lj O7 Eo Gy L8 Qp Sg L5 KF WX Yj O9 MA Cr JH RV.flat Ty.flat Ty.size St.add upd del Bd Value.oneCell' Kt Ty.dflt Hl M7 G0 ND List.take_succ_cons List.take_zero List.length_cons XI XJ NC IV KS Ge H9 uE E7 LB LC LD LE OL OM JQ Hx Q1 Option.map_some Option.map_none Option.bind_some Option.getD_some Option.getD_none Option.isNone_none Option.isNone_some Bool.and_true Bool.true_and Bool.and_false Bool.false_and Bool.not_true Bool.not_false if_true if_false List.length_cons List.length_nil and_true true_and and_self List.all_cons List.all_nil List.append_nil List.nil_append List.cons_append List.getElem?_cons_zero List.getElem?_cons_succ List.getElem?_nil List.map_cons List.map_nil List.set_cons_zero List.set_cons_succ List.isEmpty_nil List.isEmpty_cons decide_true decide_false beq_self_eq_true bne_self_eq_false Nat.zero_add Nat.add_zero Nat.sub_zero Int.toNat_natCast Int.toNat_zero Int.toNat_one List.take_length List.length_append List.length_singleton true_or or_true or_self false_or or_false Ty.agg.injEq Ty.slice.injEq Ty.prod.injEq Ty.int.injEq Option.some.injEq beq_iff_eq Lr evMG evMQ x5 HQ Lq Bx JS GL MN JR HP Hy JT KR MO MQ MP Q2 KQ M9 NA H8 AY Al Op.operands Call.operands List.filterMap_cons List.filterMap_nil List.append_eq Bool.cond_false_right Bool.cond_true_left cond_true cond_false implies_true decide_eq_true_eq beq_true beq_false Bool.or_true Bool.or_false Bool.true_or Bool.false_or Option.isSome_some Array.empty_append List.append_toArray FZ K3 Et He WZ Ng FI Fg Ff IM HK Jp Kx Td aE Jk inB Jt FT F6 X1 Ah XK List.drop_zero De Hi We CK Jz BV AV.fgt AV.fgts Obj.fgt Af Ai AY Cu IW BH GB List.any_cons List.any_nil lD Y5 Wf Y6 L6 Pl qs List.flatMap_cons List.flatMap_nil List.cons_append tn Wg Hj List.take_succ_cons List.drop_succ_cons Wh HS Bl bT KU B2 CO Aa Ex Jy Bg Ew Dm HN Hw GA HO
attribute [local go_sem] J3 mO ty3 ty4 ty5 ty9 A02 A03 A04 A05 A06 A07 A08 A09 A0a A0b A0c A0d A0e A0f A0g A0h A0i A0j A0k A0l A0m A0n A0o A0p A0q A0r A0s A0t A0u A0v A0w A0x A0y A0z A0A A0B A0C A0D A0E A0F A0G A0H A0I A0J A0K A0L A0M A0N A0O A0P A0Q A0R A0S A0T A0U A0V A0W A0X A0Y A0Z A10 A11 A12 A13 A14 A15 A16 A17 A18 A19 A1a A1b A1c A1d b6 b7 b8 b9 cA cB cC cE cF cG cH cI cJ cK cL cM cN cO cQ cR cS cU cV cW cX cZ c5 c6 c7 c8 c9 dA dB dC dD dE dF dG dH dI dJ dK dL dM dN dP dQ dR dS dT dU dV dW dX dY dZ d3 d4 d5 d6 d7 d8 d9 eB eC eD eE eF eG eH eI eJ eK eL eO eQ eU eX eY eZ e5 e7 e9 fA fB fC fD fE fF fG fH fJ fL fN fO fP fQ fR fS fT fU fV fW fX fY fZ f3 f4 f5 f6 f7 f9 gB gC gD gE gF gG gH
set_option maxRecDepth 100000
set_option maxHeartbeats 4000000
def Uv (n:Int×List (Int×Int)):List Int:=n.1 :: (n.2.length:Int) :: n.2.flatMap fun a=>[a.1,a.2]
def Bu (f:List (Int×List (Int×Int))):List Int:=(f.length:Int) :: f.flatMap Uv
def Wk (l:List (Int×List (Int×Int))) (k:Nat):List Int:=(l.length:Int) :: (l.take k).flatMap Uv
def Uw (l:List (Int×List (Int×Int))) (k j:Nat):List Int:=Wk l k++[(l.getD k (0,[])).1,((l.getD k (0,[])).2.length:Int)]++((l.getD k (0,[])).2.take j).flatMap fun a=>[a.1,a.2]
theorem RQ:∀l:List (Int×Int),(l.flatMap fun a=>[a.1,a.2]).length=2*l.length
 | []=>rfl
 | x :: l=>by simp[RQ l];omega
theorem A1U (n:Int×List (Int×Int)):(Uv n).length=2+2*n.2.length:=by
 have:=RQ n.2;simp only[Uv,OF];omega
theorem Ux:∀l:List (Int×List (Int×Int)),(∀n∈l,n.2.length≤100000)→(l.flatMap Uv).length≤l.length*200002
 | [],_=>by simp
 | x :: l,h=>by
  have h1:=h x (by simp);have a:=Ux l (fun n hn=>h n (by simp[hn]));have b:=A1U x;simp only[ABV,Do,OF];omega
theorem iQ {l:List (Int×List (Int×Int))} (h:∀n∈l,n.2.length≤100000) {k:Nat} (hk:k≤l.length):(Wk l k).length≤1+k*200002:=by
 have h1:=Ux (l.take k) (fun n hn=>h n (AAu hn));rw[OS,AAU hk]at h1;simp only[Wk,OF];omega
theorem A1V {l:List (Int×List (Int×Int))} (h:∀n∈l,n.2.length≤100000) {k j:Nat} (hk:k<l.length) (b:j≤(l.getD k (0,[])).2.length):(Uw l k j).length≤3+k*200002+2*j:=by
 have h1:=iQ h (ABT hk);have a:=RQ ((l.getD k (0,[])).2.take j);rw[OS,AAU b]at a;simp only[Uw,Do,OF,AAW];omega
theorem Xu {l:List (Int×List (Int×Int))} {k:Nat} (hk:k<l.length):Wk l (k+1)=Uw l k (l.getD k (0,[])).2.length:=by
 unfold Wk Uw;rw[AX l (0,[]) hk,List.flatMap_append,iS];simp[Uv,Wk]
theorem Xv {l:List (Int×List (Int×Int))} {k j:Nat} (a:j<(l.getD k (0,[])).2.length):Uw l k (j+1)=Uw l k j++[((l.getD k (0,[])).2.getD j (0,0)).1,((l.getD k (0,[])).2.getD j (0,0)).2]:=by
 unfold Uw;rw[AX _ (0,0) a,List.flatMap_append];simp
def Uy:Ad:={ ins:=[E9],pre:=fun(f,_)=>f.length≤100000∧∀n∈f,n.2.length≤100000,out:=fun(f,_)=>[.p GM (Bu f)] }
theorem nQ:Ag Tryz.prog 74 Uy:=by
 refine fK [0,1,2,3,4,5,6,15,38] Tryz.func74 Tryz.ntmps74 AG ?_;rintro w0 O0 ⟨l,u⟩ b ⟨h,-⟩ ⟨n,d⟩;simp only[Uy,AM];repeat'(first|exact trivial|refine eS rfl ?_|refine AB ?_|refine rX b ?_ ?_|refine rC ?_ ?_<;>intro a<;>try(cases a;done))
 refine AH (ι:={k:Nat//k≤l.length}) (fun k=>⟨[(0,.p E9 l),(1,.bp 1 [] 0),(3,.sr 10 T3 0 (Wk l k.1).length),(4,.p (.int .i64) (k.1:Int))],[(1,.box 25 true [.p Em l]),(10,.arr 3 T3 (Wk l k.1))]⟩) (fun k=>l.length-k.1) ⟨0,by simp⟩ (AC [(1,.nm 1),(10,.nm 10)] rfl rfl ?_ ?_) (fun k=>?_)
 ·refine eM ?_;rfl
 ·refine eM ?_;rfl
 ·obtain⟨k,hk⟩:=k;have i:=iQ d hk;repeat'(first|exact trivial|refine eS rfl ?_|refine AB ?_|refine rX b ?_ ?_|refine rC ?_ ?_<;>intro a<;>try(cases a;done))
  ·exact eV
  ·refine⟨by exact eV,?_⟩;simp only[AO];exact eV
  ·have c:k<l.length:=by exact eV
   have o:=d _ (AD l (0,[]) c);refine AH (ι:={j:Nat//j≤(l.getD k (0,[])).2.length}) (fun j=>⟨[(0,.p E9 l),(1,.bp 1 [] 0),(3,.sr 10 T3 0 (Uw l k j.1).length),(4,.p (.int .i64) (k:Int)),(5,.p Cl (l.getD k (0,[])).2),(6,.p (.int .i64) (j.1:Int))],[(1,.box 25 true [.p Em l]),(10,.arr 3 T3 (Uw l k j.1))]⟩) (fun j=>(l.getD k (0,[])).2.length-j.1) ⟨0,by simp⟩ (AC [(1,.nm 1),(10,.nm 10)] rfl rfl ?_ ?_) (fun j=>?_)
   ·refine eM ?_;simp[Uw]
   ·refine eM ?_;simp[Uw]
   ·obtain⟨j,f⟩:=j;have m:=A1V d c f;repeat'(first|exact trivial|refine eS rfl ?_|refine AB ?_|refine rX b ?_ ?_|refine rC ?_ ?_<;>intro a<;>try(cases a;done))
    ·refine⟨by exact eV,by exact eV,?_⟩;simp only[AO];exact eV
    ·exact eV
    ·have e:j<(l.getD k (0,[])).2.length:=by exact eV
     refine⟨⟨j+1,by exact eV⟩,by simp only;exact eV,AC [(1,.nm 1),(10,.nm 10)] rfl rfl ?_ ?_⟩
     ·refine eM ?_;exact(Xv e).symm
     ·refine eM ?_;have:=AB6 List.length (Xv (l:=l) e);rw[Do]at this;exact this.symm
    ·exact eV
    ·have g:j=(l.getD k (0,[])).2.length:=by exact eV
     subst g;refine⟨⟨k+1,by exact eV⟩,by simp only;exact eV,AC [(1,.nm 1),(10,.nm 10)] rfl rfl ?_ ?_⟩
     ·refine eM ?_;exact(Xu c).symm
     ·refine eM ?_;exact AB6 List.length (Xu c).symm
  ·have hk:l.take k=l:=An (by exact eV);have h1:Wk l k=Bu l:=by unfold Wk Bu;rw[hk]
   exact fI b [.tmp 2] (by first|exact eR|refine bW ?_;exact h1)
section
attribute [local go_sem] Uy
def LX:List Int→List Int→Int
 | x :: xs,y :: ys=>if x<y then -1 else if y<x then 1 else LX xs ys
 | _,_=>0
theorem RR (xs ys:List Int) {k:Nat} (h1:k<xs.length) (a:k<ys.length):LX (xs.drop k) (ys.drop k)=if xs.getD k 0<ys.getD k 0 then -1 else if ys.getD k 0<xs.getD k 0 then 1 else LX (xs.drop (k+1)) (ys.drop (k+1)):=by
 rw[ON h1,ON a,AS,AT h1,AS,AT a];rfl
theorem A1W (xs ys:List Int) {k:Nat} (h:xs.length≤k∨ys.length≤k):LX (xs.drop k) (ys.drop k)=0:=by
 rcases h with h|h
 ·rw[IF h];simp[LX]
 ·rw[IF h];simp[LX]
def Cz (a b:List (Int×List (Int×Int))):Int:=LX (Bu a) (Bu b)
def C0 (f:List (Int×List (Int×Int))):Prop:=f.length≤100000∧∀n∈f,n.2.length≤100000
def Uz:Ad:={ ins:=[E9,E9],pre:=fun(a,b,_)=>C0 a∧C0 b,out:=fun(a,b,_)=>[.p T3 (Cz a b)] }
theorem QM {f:List (Int×List (Int×Int))} (h:C0 f):(Bu f).length≤1+f.length*200002:=by
 have:=Ux f h.2;simp only[Bu,OF];omega
theorem nS:Ag Tryz.prog 47 Uz:=by
 refine fK [0,1,2,3,4,5,6,7,21,32,41] Tryz.func47 Tryz.ntmps47 (AF nQ AG) ?_;rintro w0 O0 ⟨a,b,u⟩ f-⟨⟨g,i⟩,⟨j,l⟩⟩;have m:=QM ⟨g,i⟩;have n:=QM ⟨j,l⟩;simp only[Uz,AM];repeat'(first|exact trivial|refine eS rfl ?_|refine AB ?_|refine rX f ?_ ?_|refine rC ?_ ?_<;>intro c<;>try(cases c;done))
 ·exact⟨g,i⟩
 ·exact⟨j,l⟩
 ·refine AH (ι:={k:Nat//LX ((Bu a).drop k) ((Bu b).drop k)=Cz a b}) (fun k=>⟨[(5,.p GM (Bu a)),(6,.p GM (Bu b)),(7,.p (.int .i64) (k.1:Int))],[]⟩) (fun k=>(Bu a).length-k.1) ⟨0,by simp[Cz]⟩ (AC [] rfl rfl ?_ ?_) (fun k=>?_)
  ·exact eN
  ·exact eN
  ·obtain⟨k,hk⟩:=k;repeat'(first|exact trivial|refine eS rfl ?_|refine AB ?_|refine rX f ?_ ?_|refine rC ?_ ?_<;>intro c<;>try(cases c;done))
   ·exact eV
   ·obtain⟨h1,d⟩:k<(Bu a).length∧k<(Bu b).length:=by exact eV
    have e:Cz a b=-1:=by rw[←hk,RR _ _ h1 d,BY c]
    exact fI f [.tmp 4] (by rw[e];exact eR)
   ·exact eV
   ·obtain⟨h1,d⟩:k<(Bu a).length∧k<(Bu b).length:=by exact eV
    have e:Cz a b=1:=by rw[←hk,RR _ _ h1 d,At (by exact eV),BY c]
    exact fI f [.tmp 4] (by rw[e];exact eR)
   ·exact eV
   ·obtain⟨h1,d⟩:k<(Bu a).length∧k<(Bu b).length:=by exact eV
    refine⟨⟨k+1,?_⟩,by simp only;exact eV,AC [] rfl rfl ?_ ?_⟩
    ·rw[←hk,RR _ _ h1 d,At (by exact eV),At (by exact eV)]
    ·exact eN
    ·exact eN
   ·have e:Cz a b=0:=by
     rw[←hk];apply A1W;by_cases h:k<(Bu a).length
     ·right;have:=c (by exact eV);exact eV
     ·left;exact eV
    exact fI f [.tmp 4] (by rw[e];exact eR)
def Ol:Ad:={ ins:=[E9,E9],pre:=fun(a,b,_)=>C0 a∧C0 b,out:=fun(a,b,_)=>[.p .bool (Cz a b==0)] }
end
section
attribute [local go_sem] Uz iP
theorem U0:Ag Tryz.prog 20 Ol:=by
 refine fK [0,1,2,3,4] Tryz.func20 Tryz.ntmps20 (AF nS AG) ?_;rintro w0 O0 ⟨a,b,u⟩ c-e;simp only[Ol,AM];repeat'(first|exact trivial|refine eS rfl ?_|refine AB ?_|refine rX c ?_ ?_|refine rC ?_ ?_<;>intro d<;>try(cases d;done))
 ·exact e
 ·exact fI c [.tmp 4]
def HC (m:Int):List (Int×List (Int×Int))→Int
 | []=>0
 | n :: r=>if n.1<0 then 2 else if Ir n.2 m≠0 then Ir n.2 m else HC m r
def CH (f:List (Int×List (Int×Int))):Int:=if f.length=0 then 1 else if 4096<f.length then 7 else HC f.length f
def A1X:Ad:={ ins:=[E9],pre:=fun _=>True,out:=fun(f,_)=>[.p WV (CH f)] }
theorem It (m:Int) (l:List (Int×List (Int×Int))) {k:Nat} (h:k<l.length):HC m (l.drop k)=if (l.getD k (0,[])).1<0 then 2 else if Ir (l.getD k (0,[])).2 m≠0 then Ir (l.getD k (0,[])).2 m else HC m (l.drop (k+1)):=by
 rw[ON h,AS,AT h];rfl
theorem A4J:Ag Tryz.prog 108 A1X:=by
 refine fK [0,1,2,3,4,8,12,17,26,38] Tryz.func108 Tryz.ntmps108 (AF A4I AG) ?_;rintro w0 O0 ⟨l,u⟩ a ⟨f,-⟩ -;simp only[A1X,AM];repeat'(first|exact trivial|refine eS rfl ?_|refine AB ?_|refine rX a ?_ ?_|refine rC ?_ ?_<;>intro b<;>try(cases b;done))
 ·have h1:CH l=1:=by
   have h:l.length=0:=by exact eV
   unfold CH;rw[BY h]
  exact fI a [.tmp 2] (by rw[h1];exact eR)
 ·have h1:CH l=7:=by
   have h:¬l.length=0:=by exact eV
   have e:4096<l.length:=by exact eV
   unfold CH;rw[At h,BY e]
  exact fI a [.tmp 2] (by rw[h1];exact eR)
 ·have h1:CH l=HC l.length l:=by
   have h:¬l.length=0:=by exact eV
   have e:¬4096<l.length:=by exact eV
   unfold CH;rw[At h,At e]
  refine AH (ι:={k:Nat//k≤l.length∧HC l.length (l.drop k)=CH l}) (fun k=>⟨[(1,.bp 1 [] 0),(3,.p (.int .i64) (k.1:Int))],[(1,.box 25 true [.p Em l])]⟩) (fun k=>l.length-k.1) ⟨0,by simp[h1]⟩ (AC [(1,.nm 1)] rfl rfl ?_ ?_) (fun k=>?_)
  ·exact eN
  ·exact eN
  ·obtain⟨k,hk,hf⟩:=k;repeat'(first|exact trivial|refine eS rfl ?_|refine AB ?_|refine rX a ?_ ?_|refine rC ?_ ?_<;>intro b<;>try(cases b;done))
   ·exact eV
   ·have d:k<l.length:=by exact eV
    have c:CH l=2:=by rw[←hf,It _ _ d,BY b]
    exact fI a [.tmp 2] (by rw[c];exact eR)
   ·exact eV
   ·have d:k<l.length:=by exact eV
    have c:CH l=Ir (l.getD k (0,[])).2 l.length:=by rw[←hf,It _ _ d,At (by exact eV),BY b]
    exact fI a [.tmp 2] (by rw[c];exact eR)
   ·exact eV
   ·have d:k<l.length:=by exact eV
    refine⟨⟨k+1,by exact eV,?_⟩,by simp only;exact eV,AC [(1,.nm 1)] rfl rfl ?_ ?_⟩
    ·rw[←hf,It _ _ d,At (by exact eV),At (by simpa using b)]
    ·exact eN
    ·exact eN
   ·have c:CH l=0:=by
     have hk:l.length≤k:=by exact eV
     rw[←hf,IF hk];rfl
    exact fI a [.tmp 2] (by rw[c];exact eR)
end
def Iu (x:Int×Int) (s:List (Int×Int)):Nat→Nat
 | 0=>0
 | n+1=>if x.1<(s.getD n (0,0)).1 then Iu x s n else n+1
def Om (s:List (Int×Int)) (x:Int×Int):List (Int×Int):=s.take (Iu x s s.length)++[x]++s.drop (Iu x s s.length)
def AU (l:List (Int×Int)):List (Int×Int):=l.foldl Om []
theorem TD (x:Int×Int) (s:List (Int×Int)):∀n,Iu x s n≤n
 | 0=>Is _
 | n+1=>by
  unfold Iu;have:=TD x s n;split<;>omega
theorem A1Y (s:List (Int×Int)) (x:Int×Int):(Om s x).length=s.length+1:=by
 have:=TD x s s.length;simp[Om];omega
theorem H0 (l:List (Int×Int)) (x:Int×Int):AU (l++[x])=Om (AU l) x:=by simp[AU]
theorem Mg:∀(l s:List (Int×Int)),(l.foldl Om s).length=s.length+l.length
 | [],s=>by simp
 | x :: l,s=>by simp[Mg l,A1Y];omega
theorem Cq (l:List (Int×Int)):(AU l).length=l.length:=by simp[AU,Mg]
def QN:Ad:={ ins:=[Cl],pre:=fun(l,_)=>l.length≤1000000,out:=fun(l,_)=>[.own 53 BE (AU l)] }
theorem Xw:Ag Tryz.prog 79 QN:=by
 refine fK [0,2,3,4,5,6,10,30] Tryz.func79 Tryz.ntmps79 AG ?_;rintro w0 O0 ⟨l,u⟩ c s j;simp only[QN]at j;simp only[QN,AM];repeat'(first|exact trivial|refine eS rfl ?_|refine AB ?_|refine rX c ?_ ?_|refine rC ?_ ?_<;>intro a<;>try(cases a;done))
 refine AH (ι:={p:Nat//p≤l.length}) (fun k=>⟨[(0,.p Cl l),(3,.sr 10 BE 0 (AU (l.take k.1)).length),(4,.p (.int .i64) (k.1:Int))],[(10,.arr 53 BE (AU (l.take k.1)))]⟩) (fun k=>l.length-k.1) ⟨0,by omega⟩ (AC [(10,.nil)] rfl rfl ?_ ?_) (fun k=>?_)
 ·refine eM ?_;rfl
 ·refine eM ?_;rfl
 ·obtain⟨k,g⟩:=k;have o:(AU (l.take k)).length=k:=by rw[Cq,OS];exact AAU g
  repeat'(first|exact trivial|refine eS rfl ?_|refine AB ?_|refine rX c ?_ ?_|refine rC ?_ ?_<;>intro a<;>try(cases a;done))
  ·refine AH (ι:={q:Nat//q≤(AU (l.take k)).length∧Iu (l.getD k (0,0)) (AU (l.take k)) q=Iu (l.getD k (0,0)) (AU (l.take k)) (AU (l.take k)).length}) (fun q=>⟨[(0,.p Cl l),(3,.sr 10 BE 0 (AU (l.take k)).length),(4,.p (.int .i64) (k:Int)),(5,.p (.int .i64) (q.1:Int))],[(10,.arr 53 BE (AU (l.take k)))]⟩) (fun q=>q.1) ⟨(AU (l.take k)).length,by simp⟩ (eW [(10,.nm 10)]) (fun q=>?_)
   ·obtain⟨q,m,hp⟩:=q;have h:k<l.length:=by omega
    have n:=l.length_take_le k;have d:(List.take q (AU (List.take k l))).length=q:=by rw[OS];exact AAU m
    repeat'(first|exact trivial|refine eS rfl ?_|refine AB ?_|refine rX c ?_ ?_|refine rC ?_ ?_<;>intro a<;>try(cases a;done))
    ·exact eV
    ·exact eV
    ·obtain⟨h1,b⟩:=a;obtain⟨q,rfl⟩:∃r,q=r+1:=⟨q-1,by omega⟩;have e:((q+1:Nat):Int)-1=(q:Int):=by omega
     refine⟨⟨q,by omega,?_⟩,ACM q,AC [(10,.nm 10)] rfl rfl ?_ ?_⟩
     ·rw[←hp];simp only[Iu];rw[e,iN]at b;rw[BY b]
     ·exact eN
     ·refine eM ?_;show (q:Int)+1-1=q;omega
    ·refine⟨by exact eV,?_⟩;rw[d];unfold AO;omega
    ·refine⟨by exact eV,?_⟩;rw[d];simp only[AO];omega
    ·refine⟨by exact eV,?_⟩;rw[d];simp only[AO,AAr];omega
    ·exact eV
    ·have i:Iu (l.getD k (0,0)) (AU (l.take k)) q=q:=by
      cases q with
      | zero=>rfl
      | succ q =>
       have e:((q+1:Nat):Int)-1=(q:Int):=by omega
       have:=a (by omega);rw[e,iN]at this;simp only[Iu];rw[At (by omega)]
     have h1:=AX l (0,0) h;have b:AU (l.take (k+1))=_:=(AB6 AU h1).trans (H0 _ _);unfold Om at b;rw[←hp,i]at b;refine⟨⟨k+1,by exact eV⟩,by simp only;exact eV,AC [(10,.nm 37)] rfl rfl ?_ ?_⟩
     ·refine eM ?_;exact b.symm
     ·refine eM ?_;have f:=AB6 List.length b;rw[Do,Do]at f;exact f.symm
  ·have hk:l.take k=l:=An (by exact eV);refine Gd c (.inl rfl) (rv:=.tmp 2) rfl ?_;simp only[IT,Hv,GQ,go_sem,Nat.reduceEqDiff,reduceCtorEq,Nat.reduceAdd,Nat.reduceSub,Nat.reduceMul,Nat.reduceLeDiff,Nat.reduceLT,Int.reduceLE,Int.reduceToNat,Int.reduceNeg,↓reduceIte];rw[hk];first|rfl|exact⟨rfl,rfl⟩|exact⟨rfl,rfl,rfl⟩
section
attribute [local go_sem] QN
abbrev AE:=Int×List (Int×Int)
def Di (f:List AE):Nat→List Int×List Int→Int→List Int×List Int
 | 0,s,_=>s
 | k+1,s,n=>(AU (f.getD n.toNat (0,[])).2).foldl (fun s a=>if s.1.getD a.2.toNat 0<0 then Di f k s a.2 else s) (s.1.set n.toNat (s.2.length:Int),s.2++[n])
def L7 (l:List Int):Nat:=l.countP (fun x=>decide (x<0))
def Ae (f:List AE):Prop:=f.length≤100000∧∀x∈f,x.2.length≤100000∧∀a∈x.2,0≤a.2∧a.2<(f.length:Int)
def Sr (f:List AE) (s:List Int×List Int):Prop:=s.1.length=f.length∧s.2.length+L7 s.1≤f.length
theorem A1Z {l:List Int} {n:Nat} {v:Int} (hn:n<l.length) (a:l.getD n 0<0) (d:0≤v):L7 (l.set n v)+1=L7 l:=by
 induction l generalizing n with
 | nil=>simp at hn
 | cons x r c =>
  cases n with
  | zero =>
   have b:x<0:=by simpa using a
   have:¬v<0:=by omega
   simp[L7,ABi,b,this]
  | succ n =>
   have h1:=c (n:=n) (by simpa using hn) (by simpa using a);simp only[L7,AC2,ABi]at h1 ⊢;omega
theorem nT {f:List AE} {s:List Int×List Int} {n:Int} (h:Sr f s) (d:0≤n) (hn:n<f.length) (b:s.1.getD n.toNat 0<0) :
  Sr f (s.1.set n.toNat (s.2.length:Int),s.2++[n])∧L7 (s.1.set n.toNat (s.2.length:Int))+1=L7 s.1:=by
 obtain⟨h1,c⟩:=h;have a:=A1Z (l:=s.1) (n:=n.toNat) (v:=(s.2.length:Int)) (by omega) b (by omega);refine⟨⟨by simpa using h1,?_⟩,a⟩;simp only[Do,aS];omega
theorem vR (s:List (Int×Int)) (x:Int×Int):(Om s x).Perm (x :: s):=by
 unfold Om;refine(List.perm_append_comm.append_right _).trans ?_;simp
theorem Lv:∀(l s:List (Int×Int)),(l.foldl Om s).Perm (l++s)
 | [],s=>List.Perm.refl _
 | x :: l,s=>by
  refine(Lv l (Om s x)).trans ?_;refine(List.Perm.append_left l (vR s x)).trans ?_;exact ACO
theorem B5 (l:List (Int×Int)):(AU l).Perm l:=by
 have:=Lv l [];simpa[AU] using this
theorem Mh {f:List AE} (hf:Ae f) (n:Int):List.length (f.getD n.toNat (0,[])).2≤100000:=by
 by_cases h:n.toNat<f.length
 ·have a:f.getD n.toNat (0,[])∈f:=by
   rw[AS,AT h];exact AAs h
  exact(hf.2 _ a).1
 ·rw[AS,dO (by omega)];simp
theorem TE {f:List AE} (hf:Ae f) {n:Int} {a:Int×Int} (ha:a∈AU (f.getD n.toNat (0,[])).2):0≤a.2∧a.2<f.length:=by
 have ha:=(B5 _).mem_iff.1 ha;by_cases h:n.toNat<f.length
 ·have b:f.getD n.toNat (0,[])∈f:=by
   rw[AS,AT h];exact AAs h
  exact(hf.2 _ b).2 a ha
 ·rw[AS,dO (by omega)]at ha;simp at ha
def EP (f:List AE) (k:Nat) (s:List Int×List Int) (a:Int×Int):List Int×List Int:=if s.1.getD a.2.toNat 0<0 then Di f k s a.2 else s
theorem Dw (f:List AE) (k:Nat) (s:List Int×List Int) (n:Int):Di f (k+1) s n=(AU (f.getD n.toNat (0,[])).2).foldl (EP f k) (s.1.set n.toNat (s.2.length:Int),s.2++[n]):=rfl
theorem TF {f:List AE} {k:Nat} (i:∀(s:List Int×List Int) (n:Int),Sr f s→0≤n→n<f.length→s.1.getD n.toNat 0<0→Sr f (Di f k s n)∧L7 (Di f k s n).1≤L7 s.1) :
  ∀(l:List (Int×Int)) (t:List Int×List Int),(∀a∈l,0≤a.2∧a.2<(f.length:Int))→Sr f t→Sr f (l.foldl (EP f k) t)∧L7 (l.foldl (EP f k) t).1≤L7 t.1
 | [],t,_,d=>⟨d,Is _⟩
 | a :: l,t,c,d=>by
  simp only[O5];by_cases h:t.1.getD a.2.toNat 0<0
  ·obtain⟨j,m⟩:=i t a.2 d (c a (by simp)).1 (c a (by simp)).2 h;have e:EP f k t a=Di f k t a.2:=BY h;rw[e];obtain⟨o,p⟩:=TF i l _ (fun b g=>c b (by simp[g])) j;exact⟨o,TO p m⟩
  ·have e:EP f k t a=t:=At h;rw[e];exact TF i l t (fun b g=>c b (by simp[g])) d
theorem RS {f:List AE} (hf:Ae f):∀(k:Nat) (s:List Int×List Int) (n:Int),Sr f s→0≤n→n<f.length→s.1.getD n.toNat 0<0→Sr f (Di f k s n)∧L7 (Di f k s n).1≤L7 s.1
 | 0,s,n,h,_,_,_=>⟨h,Is _⟩
 | k+1,s,n,h,h0,h1,d=>by
  obtain⟨e,g⟩:=nT h h0 h1 d;obtain⟨b,c⟩:=TF (RS hf k) _ _ (fun a ha=>TE hf ha) e;rw[Dw];exact⟨b,by simp only at c g;omega⟩
theorem NK {α β:Type} (g:β→α→β) (l:List α) (d:α) (t:β) {i:Nat} (hi:i<l.length):(l.take (i+1)).foldl g t=g ((l.take i).foldl g t) (l.getD i d):=by
 rw[AX l d hi,ABu];rfl
def Lw (f:List AE) (s:List Int×List Int):List (Nat×Obj):=[(1,.box 123 true [.p E9 f,.sr 2 T3 0 s.1.length,.sr 3 T3 0 s.2.length]),(2,.arr 3 T3 s.1),(3,.arr 3 T3 s.2)]
theorem A20 (f:List AE) (hf:Ae f):∀(k:Nat) (s:List Int×List Int) (n:Int),Sr f s→0≤n→n<f.length→s.1.getD n.toNat 0<0→L7 s.1≤k →
  BA Tryz.prog 78 [.bp 1 [] 0,.p T3 n] (Lw f s) [1] (fun res M=>res=.raw (.tuple #[])∧M=Lw f (Di f k s n)):=by
 intro k;induction k with
 | zero =>
  intro s n h0 h1 u B N;obtain⟨_,O⟩:=nT h0 h1 u B;omega
 | succ k J =>
  intro s n A w m x hk;obtain⟨num,j⟩:=s;obtain⟨t,v⟩:=nT A w m x;obtain⟨G,H⟩:=A;simp only at G H x t v hk;refine J1 [0,1,4,5,40,54] [] [] Tryz.func78 Tryz.ntmps78 (AF Xw AG) ?_;intro w0 K O0 ρ0 d Q R;simp only[Lw,Ah];repeat'(first|exact trivial|refine eS rfl ?_|refine AB ?_|refine rX d ?_ ?_|refine rC ?_ ?_<;>intro b<;>try(cases b;done))
  ·exact eV
  ·have:=hf.1;simp only[AO];omega
  ·have I:=Mh hf n;exact⟨⟨w,m⟩,TO I (by omega)⟩
  ·have l:=fun a (ha:a∈AU (f.getD n.toNat (0,[])).2)=>TE hf ha;have D:(AU (f.getD n.toNat (0,[])).2).length≤100000:=by rw[Cq];exact Mh hf n
   generalize C:AU (f.getD n.toNat (0,[])).2=L at l D;generalize o:(num.set n.toNat (j.length:Int),j++[n])=s1 at t;have F:∀i,Sr f ((L.take i).foldl (EP f k) s1)∧L7 ((L.take i).foldl (EP f k) s1).1≤L7 s1.1:=fun i=>TF (RS hf k) _ _ (fun a ha=>l a (AAu ha)) t;have m:num.set n.toNat (j.length:Int)=s1.1:=by rw[←o]
   have P:j++[n]=s1.2:=by rw[←o]
   rw[m]at v;refine AH (ι:={i:Nat//i≤L.length}) (fun i=>⟨[(0,.bp 1 [] 0),(1,.p T3 n),(4,.p Cl L),(5,.p (.int .i64) (i.1:Int))],Lw f ((L.take i.1).foldl (EP f k) s1)⟩) (fun i=>L.length-i.1) ⟨0,by omega⟩ (A7D [36] (AC [(1,.nm 1),(2,.nm 2),(3,.nm 3)] rfl rfl ?_ ?_)) (fun i=>?_)
   ·simp only[Lw];refine eM ?_;simp only[ACE];rw[←o];simp
   ·exact eN
   ·obtain⟨i,hi⟩:=i;obtain⟨r,E⟩:=F i;have q:=fun(h:i<L.length)=>NK (EP f k) L (0,0) s1 h;generalize z:(L.take i).foldl (EP f k) s1=c at r E q;simp only[Lw];repeat'(first|exact trivial|refine eS rfl ?_|refine AB ?_|refine rX d ?_ ?_|refine rC ?_ ?_<;>intro b<;>try(cases b;done))
    ·have g:i<L.length:=by exact eV
     have:=l _ (AD L (0,0) g);obtain⟨h1,u⟩:=r;refine⟨by exact eV,this.1,?_⟩;rw[h1];exact this.2
    ·have g:i<L.length:=by exact eV
     have y:=l _ (AD L (0,0) g);refine cP 6 d ?_ ?_
     ·exact eV
     ·refine rM d (J c (L.getD i (0,0)).2 r y.1 y.2 (by simpa using b) (by omega)) [(1,.nm 1),(2,.nm 2),(3,.nm 3)] [2,3] ?_ ?_ ?_
      ·exact eN
      ·simp only[Lw];exact eN
      ·rintro _ _ ⟨rfl,rfl⟩;refine⟨[(1,.nm 1),(2,.nm 2),(3,.nm 3)],.raw (.tuple #[]),Lw f (Di f k c (L.getD i (0,0)).2),rfl,rfl,?_,?_,rfl,rfl,CS ?_⟩
       ·simp only[Lw];exact eN
       ·exact eN
       ·repeat'(first|exact trivial|refine eS rfl ?_|refine AB ?_|refine rX d ?_ ?_|refine rC ?_ ?_<;>intro b<;>try(cases b;done))
        ·exact eV
        ·have e:EP f k c (L.getD i (0,0))=Di f k c (L.getD i (0,0)).2:=BY (by simpa using b);refine⟨⟨i+1,by omega⟩,by simp only;omega,AC [(1,.nm 1),(2,.nm 2),(3,.nm 3)] rfl rfl ?_ ?_⟩
         ·simp only[Lw,q g,e];exact eN
         ·exact eN
    ·exact eV
    ·have g:i<L.length:=by exact eV
     have e:EP f k c (L.getD i (0,0))=c:=At (by simpa using b);refine⟨⟨i+1,by omega⟩,by simp only;omega,AC [(1,.nm 1),(2,.nm 2),(3,.nm 3)] rfl rfl ?_ ?_⟩
     ·simp only[q g,e];exact eN
     ·exact eN
    ·have hk:L.take i=L:=An (by exact eV);rw[hk]at z;have h1:Di f (k+1) (num,j) n=c:=by rw[Dw,C,←z,←o]
     rw[h1];exact fM d [] (.raw (.tuple #[])) rfl ⟨rfl,rfl⟩
end
section
attribute [local go_sem] QN
def iR (f:List AE) (s:List Int×List Int):Prop:=∀n∈s.2,0≤n∧n<(f.length:Int)
theorem VA {f:List AE} (hf:Ae f):∀(k:Nat) (s:List Int×List Int) (n:Int),iR f s→0≤n→n<f.length→iR f (Di f k s n)
 | 0,s,n,h,_,_=>h
 | k+1,s,n,h,h0,h1=>by
  rw[Dw];have key:∀(l:List (Int×Int)) (t:List Int×List Int),(∀a∈l,0≤a.2∧a.2<(f.length:Int))→iR f t→iR f (l.foldl (EP f k) t):=by
   intro l;induction l with
   | nil=>intro t _ d;exact d
   | cons a l i =>
    intro t e d;simp only[O5];refine i _ (fun b g=>e b (by simp[g])) ?_;unfold EP;split
    ·exact VA hf k t a.2 d (e a (by simp)).1 (e a (by simp)).2
    ·exact d
  refine key _ _ (fun a ha=>TE hf ha) ?_;intro m c;simp only[Of,AB1]at c;rcases c with c|rfl
  ·exact h m c
  ·exact⟨h0,h1⟩
def GD (f:List AE) (root:Int):List Int×List Int:=Di f f.length (List.replicate f.length (-1),[]) root
def Wl (num:List Int) (a:Int×Int):Int×Int:=(a.1,num.getD a.2.toNat 0)
def Lx (f:List AE) (num:List Int) (n:Int):AE:=((f.getD n.toNat (0,[])).1,(AU (f.getD n.toNat (0,[])).2).map (Wl num))
def Fx (f:List AE) (root:Int):List AE:=(GD f root).2.map (Lx f (GD f root).1)
theorem iT (m:Nat):L7 (List.replicate m (-1))=m:=by
 induction m with
 | zero=>rfl
 | succ m a=>simp only[L7,AC0,ABi]at a ⊢;simp[a]
theorem tr0 (f:List AE):Sr f (List.replicate f.length (-1),[]):=⟨by simp,by simp[iT]⟩
theorem rO {f:List AE} {n:Int} (h0:0≤n) (h1:n<f.length):(List.replicate f.length (-1:Int)).getD n.toNat 0<0:=by
 have:n.toNat<f.length:=by omega
 simp[AS,AAY,this]
theorem rQ {f:List AE} (hf:Ae f) {n:Int} (h0:0≤n) (h1:n<f.length):Sr f (GD f n)∧iR f (GD f n) :=
 ⟨(RS hf _ _ n (tr0 f) h0 h1 (rO h0 h1)).1,VA hf _ _ n (fun m a=>by simp at a) h0 h1⟩
theorem VB {α b:Type} (g:α→b) (h:b→α) (L:List α) (d:α) {k:Nat} (hk:k<L.length) (u:α→α):((L.take k).map u++L.drop k).set k (u (L.getD k d))=(L.take (k+1)).map u++L.drop (k+1)∧((L.take k).map u++L.drop k).getD k d=L.getD k d:=by
 have h1:((L.take k).map u).length=k:=by simp;omega
 have a:L.drop k=L.getD k d :: L.drop (k+1):=by
  rw[ON hk,AS,AT hk];rfl
 constructor
 ·rw[AX L d hk,AAO _ _ (by omega),h1,AAI,a];simp
 ·rw[AS,AA2 (by omega),h1,AAI,a];rfl
def rR:Ad:={ ins:=[E9,T3],pre:=fun(f,n,_)=>Ae f∧0≤n∧n<(List.length f:Int),out:=fun(f,n,_)=>[.p E9 (Fx f n)] }
theorem rS:Ag Tryz.prog 54 rR:=by
 refine fK [0,1,2,4,5,6,7,8,9,10,11,19,40,60] Tryz.func54 Tryz.ntmps54 (AF Xw AG) ?_;rintro w0 O0 ⟨f,root,u⟩ g-⟨hf,l,m⟩;simp only[rR,AM];have G:=hf.1;repeat'(first|exact trivial|refine eS rfl ?_|refine AB ?_|refine rX g ?_ ?_|refine rC ?_ ?_<;>intro d<;>try(cases d;done))
 refine AH (ι:={i:Nat//i≤f.length}) (fun i=>⟨[(1,.p T3 root),(2,.bp 2 [] 0),(4,.bp 4 [] 0),(5,.bp 14 [] 0),(6,.p (.int .i64) (i.1:Int))],[(2,.box 25 true [.p Em f]),(4,.box 25 true [.raw (.slice none 0 0)]),(14,.box 123 true [.p E9 f,.sr 10 T3 0 i.1,.raw (.slice none 0 0)]),(10,.arr 3 T3 (List.replicate i.1 (-1)))]⟩) (fun i=>f.length-i.1) ⟨0,by omega⟩ (AC [(2,.nm 2),(4,.nm 4),(14,.nm 14),(10,.nil)] rfl rfl ?_ ?_) (fun i=>?_)
 ·refine eM ?_;rfl
 ·exact eN
 ·obtain⟨i,hi⟩:=i;repeat'(first|exact trivial|refine eS rfl ?_|refine AB ?_|refine rX g ?_ ?_|refine rC ?_ ?_<;>intro d<;>try(cases d;done))
  ·simp only[AO];omega
  ·exact eV
  ·have hi:i<List.length f:=by exact eV
   refine⟨⟨i+1,by omega⟩,by simp only;omega,AC [(2,.nm 2),(4,.nm 4),(14,.nm 14),(10,.nm 10)] rfl rfl ?_ ?_⟩
   ·refine eM ?_;rw[List.replicate_succ'];simp
   ·exact eN
  ·have A:i=List.length f:=by exact eV
   subst A;have w:=rQ hf l m;refine cP 2 g ?_ ?_
   ·trivial
   ·refine rM g (A20 f hf (List.length f) (List.replicate (List.length f) (-1),[]) root (tr0 f) l m (rO l m) (by rw[iT];exact Is _)) [(1,.nm 14),(2,.nm 10),(3,.nil)] [10] ?_ ?_ ?_
    ·exact eN
    ·simp only[Lw];refine eM ?_;simp
    ·rintro _ _ ⟨rfl,rfl⟩;refine⟨[(14,.nm 1),(101,.nm 2),(102,.nm 3)],.raw (.tuple #[]),[(14,.box 123 true [.p E9 f,.sr 101 T3 0 (GD f root).1.length,.sr 102 T3 0 (GD f root).2.length]),(101,.arr 3 T3 (GD f root).1),(102,.arr 3 T3 (GD f root).2)],rfl,rfl,?_,?_,rfl,rfl,CS ?_⟩
     ·simp only[Lw,GD];exact eN
     ·exact eN
     ·have z:Fx f root=(GD f root).2.map (Lx f (GD f root).1):=rfl;rw[z];generalize GD f root=s at w;obtain⟨num,c⟩:=s;obtain⟨⟨r,t⟩,j⟩:=w;simp only at r t;have j:∀n∈c,0≤n∧n<(List.length f:Int):=j;repeat'(first|exact trivial|refine eS rfl ?_|refine AB ?_|refine rX g ?_ ?_|refine rC ?_ ?_<;>intro d<;>try(cases d;done))
      refine AH (ι:={i:Nat//i≤c.length}) (fun i=>⟨[(2,.bp 2 [] 0),(4,.bp 4 [] 0),(5,.bp 14 [] 0),(7,.bp 7 [] 0),(8,.p (.int .i64) (i.1:Int))],[(2,.box 25 true [.p Em f]),(4,.box 25 true [.raw (.slice none 0 0)]),(14,.box 123 true [.p E9 f,.sr 101 T3 0 num.length,.sr 102 T3 0 c.length]),(101,.arr 3 T3 num),(102,.arr 3 T3 c),(7,.box 25 true [.sr 200 JD 0 i.1]),(200,.arr 49 JD ((c.take i.1).map (Lx f num)))]⟩) (fun i=>c.length-i.1) ⟨0,by omega⟩ (eW [(2,.nm 2),(4,.nm 4),(14,.nm 14),(101,.nm 101),(102,.nm 102),(7,.nm 7),(200,.nil)]) (fun i=>?_)
      ·obtain⟨i,hi⟩:=i;repeat'(first|exact trivial|refine eS rfl ?_|refine AB ?_|refine rX g ?_ ?_|refine rC ?_ ?_<;>intro d<;>try(cases d;done))
       ·have hi:i<c.length:=by exact eV
        exact⟨by exact eV,j _ (AD c 0 hi)⟩
       ·exact TO (Mh hf _) (by omega)
       ·have hi:i<c.length:=by exact eV
        have q:=fun a (ha:a∈AU (f.getD (Int.toNat (c.getD i 0)) (0,[])).2)=>TE hf ha;have v:Lx f num (c.getD i 0)=((f.getD (Int.toNat (c.getD i 0)) (0,[])).1,(AU (f.getD (Int.toNat (c.getD i 0)) (0,[])).2).map (Wl num)):=rfl;have B:=Mh hf (c.getD i 0);generalize List.getD f (Int.toNat (c.getD i 0)) (0,[])=x at *;obtain⟨E,o⟩:=x;simp only at q v B;have F:=Cq o;generalize AU o=L at *;refine AH (ι:={k:Nat//k≤L.length}) (fun k=>⟨[(2,.bp 2 [] 0),(4,.bp 4 [] 0),(5,.bp 14 [] 0),(7,.bp 7 [] 0),(8,.p (.int .i64) (i:Int)),(9,.bp 9 [] 0),(10,.sr 56 BE 0 L.length),(11,.p (.int .i64) (k.1:Int))],[(56,.arr 53 BE ((L.take k.1).map (Wl num)++L.drop k.1)),(9,.box 49 true [.p T3 E,.p Cl o]),(2,.box 25 true [.p Em f]),(4,.box 25 true [.raw (.slice none 0 0)]),(14,.box 123 true [.p E9 f,.sr 101 T3 0 num.length,.sr 102 T3 0 c.length]),(101,.arr 3 T3 num),(102,.arr 3 T3 c),(7,.box 25 true [.sr 200 JD 0 i]),(200,.arr 49 JD ((c.take i).map (Lx f num)))]⟩) (fun k=>L.length-k.1) ⟨0,by omega⟩ (eW [(2,.nm 2),(4,.nm 4),(14,.nm 14),(101,.nm 101),(102,.nm 102),(7,.nm 7),(200,.nm 200),(9,.nm 9),(56,.nm 56)]) (fun k=>?_)
        ·obtain⟨k,hk⟩:=k;repeat'(first|exact trivial|refine eS rfl ?_|refine AB ?_|refine rX g ?_ ?_|refine rC ?_ ?_<;>intro d<;>try(cases d;done))
         ·have h:k<L.length:=by exact eV
          have e:=(VB (Wl num) (fun b=>b) L (0,0) h (Wl num)).2;rw[e];have:=q _ (AD L (0,0) h);rw[r];exact⟨by exact eV,this,by exact eV⟩
         ·exact eV
         ·have h:k<L.length:=by exact eV
          have e:=VB (Wl num) (fun b=>b) L (0,0) h (Wl num);refine⟨⟨k+1,by omega⟩,by simp only;omega,AC [(2,.nm 2),(4,.nm 4),(14,.nm 14),(101,.nm 101),(102,.nm 102),(7,.nm 7),(200,.nm 200),(9,.nm 9),(56,.nm 56)] rfl rfl ?_ ?_⟩
          ·refine eM ?_;rw[e.2];exact e.1
          ·exact eN
         ·simp only[AO];have:=t;omega
         ·exact eV
         ·have h:L.take k=L:=An (by exact eV);have y:L.drop k=[]:=IF (by exact eV);refine⟨⟨i+1,by omega⟩,by simp only;omega,AC [(2,.nm 2),(4,.nm 4),(14,.nm 14),(101,.nm 101),(102,.nm 102),(7,.nm 7),(200,.nm 200)] rfl rfl ?_ ?_⟩
          ·refine eM ?_;rw[h,y,AAh,AX c 0 hi,AAl,AA4,ACi,v];have C:List.take i ((c.take i).map (Lx f num))=(c.take i).map (Lx f num):=An (by rw[To,OS];omega);have D:List.take L.length (L.map (Wl num))=L.map (Wl num):=An (by rw[To];omega);rw[C,D]
          ·exact eN
       ·have hk:c.take i=c:=An (by exact eV);rw[hk];refine fI g [.cell 4 25] (by first|exact eR|refine bW ?_;exact An (by rw[To];exact eV))
end
section
attribute [local go_sem] A1X rR
theorem VC {n:Int}:∀ {l seen:List (Int×Int)},HB n seen l=0→∀a∈l,0≤a.1∧0≤a.2∧a.2<n
 | [],_,_,a,ha=>by cases ha
 | x :: l,seen,h,a,ha=>by
  simp only[HB]at h;split at h
  ·cases h
  ·split at h
   ·cases h
   ·rename_i h1 _;rcases By.1 ha with rfl|ha
    ·omega
    ·exact VC h a ha
theorem Iv {m:Int}:∀ {f:List (Int×List (Int×Int))},HC m f=0→∀x∈f,0≤x.1∧∀a∈x.2,0≤a.1∧0≤a.2∧a.2<m
 | [],_,x,c=>by cases c
 | y :: f,h,x,c=>by
  simp only[HC]at h;split at h
  ·cases h
  ·split at h
   ·rename_i h1 b;exact absurd h b
   ·rename_i h1 b;have b:Ir y.2 m=0:=DO b;rcases By.1 c with rfl|c
    ·exact⟨by omega,VC b⟩
    ·exact Iv h x c
def VD (f:List (Int×List (Int×Int))):Prop:=∀x∈f,x.2.length≤100000
theorem Iw {f:List (Int×List (Int×Int))} (h:CH f=0) (hs:VD f):Ae f∧0<f.length:=by
 unfold CH at h;split at h
 ·cases h
 ·split at h
  ·cases h
  ·refine⟨⟨by omega,fun x b=>⟨hs x b,fun a ha=>?_⟩⟩,by omega⟩;have:=(Iv h x b).2 a ha;exact⟨this.2.1,this.2.2⟩
def A4 (f:List AE):List AE×Int:=if CH f=0 then (Fx f 0,0) else ([],CH f)
def ZZ:Ad:={ ins:=[E9],pre:=fun(f,_)=>VD f,out:=fun(f,_)=>[.p E9 (A4 f).1,.p WV (A4 f).2] }
theorem A21:Ag Tryz.prog 70 ZZ:=by
 refine fK [0,1,2,3,4,8] Tryz.func70 Tryz.ntmps70 (AF A4J (AF rS AG)) ?_;rintro w0 O0 ⟨f,u⟩ b-hs;simp only[ZZ,AM];repeat'(first|exact trivial|refine eS rfl ?_|refine AB ?_|refine rX b ?_ ?_|refine rC ?_ ?_<;>intro a<;>try(cases a;done))
 ·have h:¬CH f=0:=by simpa using a
  have e:A4 f=([],CH f):=At h;exact fI b [.cell 2 25,.tmp 3] (by rw[e];exact eR)
 ·have h:CH f=0:=by simpa using a
  have:=Iw h hs;exact⟨this.1,by exact eV⟩
 ·have h:CH f=0:=by simpa using a
  have e:A4 f=(Fx f 0,0):=BY h;exact fI b [.cell 2 25,.tmp 3] (by rw[e];exact eR)
end
def rT:Ad:={ ins:=[T3],pre:=fun _=>True,out:=fun(t,_)=>[.p E9 [(t,[])]] }
theorem A4K:Ag Tryz.prog 35 rT:=by
 refine fK [0,2] Tryz.func35 Tryz.ntmps35 AG ?_;rintro w0 O0 ⟨t,u⟩ a - -;simp only[rT,AM];repeat'(first|exact trivial|refine eS rfl ?_|refine AB ?_|refine rX a ?_ ?_|refine rC ?_ ?_<;>intro b<;>try(cases b;done))
 exact fI a [.cell 2 25]
section
attribute [local go_sem] Uu ZZ Ol
def ftB (a:Int×Int):Bool:=decide (a.1<64)
def ndB (x:AE):Bool:=decide (x.1<256)&&x.2.all ftB
def D8 (f:List AE):Bool:=HV f&&f.all ndB&&((A4 f).2==0&&(Cz (A4 f).1 f==0))
theorem Mi {f:List AE} (h:HV f=true):f.length≤12∧∀x∈f,x.2.length≤12:=by
 unfold HV at h;simp only[As,IS,IN]at h;exact h
theorem nU {f:List AE} (hf:Ae f) {n:Int} (h0:0≤n) (h1:n<f.length):C0 (Fx f n):=by
 obtain⟨⟨b,c⟩,_⟩:=rQ hf h0 h1;have d:=hf.1;refine⟨?_,fun x a=>?_⟩
 ·unfold Fx;rw[To];omega
 ·obtain⟨m,_,rfl⟩:=GO.1 a;unfold Lx;simp only[To,Cq];exact Mh hf m
theorem ST {f:List AE} (hs:VD f):C0 (A4 f).1:=by
 unfold A4;split
 ·rename_i h;obtain⟨h1,b⟩:=Iw h hs;exact nU h1 (by omega) (by omega)
 ·exact⟨by simp,fun x a=>by cases a⟩
end
section
attribute [local go_sem] ZZ Ol
def rU (h:AJ) (a:Int×Int):Bool:=decide (a.1<(h.2.length:Int))
def TG (h:AJ) (x:AE):Bool:=decide (x.1<(h.1.length:Int))&&x.2.all (rU h)
def Cp (h:AJ) (f:List AE):Int:=if (A4 f).2≠0 then (A4 f).2 else if f.all (TG h)=false then 2 else if (Cz f (A4 f).1==0)=false then 3 else 0
def QO:Ad:={ ins:=[GN,E9],pre:=fun(_,f,_)=>C0 f,out:=fun(h,f,_)=>[.p WV (Cp h f)] }
theorem vS:Ag Tryz.prog 40 QO:=by
 refine fK [0,1,2,3,4,5,6,7,8,9,16,22,35,40,52,56] Tryz.func40 Tryz.ntmps40 (AF A21 (AF U0 AG)) ?_;rintro w0 O0 ⟨⟨b,hf⟩,f,u⟩ d-hs;have hs:C0 f:=hs;simp only[QO,AM];repeat'(first|exact trivial|refine eS rfl ?_|refine AB ?_|refine rX d ?_ ?_|refine rC ?_ ?_<;>intro a<;>try(cases a;done))
 ·exact hs.2
 ·have h1:Cp (b,hf) f=(A4 f).2:=by unfold Cp;rw[BY a]
  exact fI d [.tmp 4] (by rw[h1];exact eR)
 ·have t:(A4 f).2=0:=by simpa using a
  have q:=ST hs.2;have w:=hs.1;have g:Cp (b,hf) f=if f.all (TG (b,hf))=false then 2 else if (Cz f (A4 f).1==0)=false then 3 else 0:=by unfold Cp;rw[At (by rw[t];simp)]
  refine AH (ι:={i:Nat//i≤f.length∧(f.take i).all (TG (b,hf))=true}) (fun i=>⟨[(2,.bp 2 [] 0),(3,.bp 3 [] 0),(5,.bp 5 [] 0),(7,.p (.int .i64) (i.1:Int))],[(2,.box 31 true [.p So b,.p UZ hf]),(3,.box 25 true [.p Em f]),(5,.box 25 true [.p Em (A4 f).1])]⟩) (fun i=>f.length-i.1) ⟨0,by simp⟩ (eW [(2,.nm 2),(3,.nm 3),(5,.nm 5)]) (fun i=>?_)
  ·obtain⟨i,hi,l⟩:=i;have r:=fun h:i<f.length=>Gi f (0,[]) (TG (b,hf)) h;simp only;repeat'(first|exact trivial|refine eS rfl ?_|refine AB ?_|refine rX d ?_ ?_|refine rC ?_ ?_<;>intro a<;>try(cases a;done))
   ·exact a
   ·have c:i<f.length:=OR.1 (by assumption);have e:f.all (TG (b,hf))=false:=by
     rw[AAZ];refine⟨_,AD f (0,[]) c,?_⟩;unfold TG;rw[ABS (ABc.2 a)];simp
    rw[BY e]at g;exact fI d [.tmp 4] (by rw[g];exact eR)
   ·have c:i<f.length:=OR.1 (by assumption);have n:=AD f (0,[]) c;have o:TG (b,hf) (f.getD i (0,[]))=(f.getD i (0,[])).2.all (rU (b,hf)):=by
     unfold TG;rw[ABE (show (f.getD i (0,[])).1<(b.length:Int) from a)];rfl
    have v:(f.getD i (0,[])).2.length≤100000:=hs.2 _ n;refine AH (ι:={k:Nat//k≤(f.getD i (0,[])).2.length∧((f.getD i (0,[])).2.take k).all (rU (b,hf))=true}) (fun k=>⟨[(2,.bp 2 [] 0),(3,.bp 3 [] 0),(5,.bp 5 [] 0),(7,.p (.int .i64) (i:Int)),(8,.bp 8 [] 0),(9,.p (.int .i64) (k.1:Int))],[(2,.box 31 true [.p So b,.p UZ hf]),(3,.box 25 true [.p Em f]),(5,.box 25 true [.p Em (A4 f).1]),(8,.box 49 true [.p T3 (f.getD i (0,[])).1,.p Cl (f.getD i (0,[])).2])]⟩) (fun k=>(f.getD i (0,[])).2.length-k.1) ⟨0,by simp⟩ (eW [(2,.nm 2),(3,.nm 3),(5,.nm 5),(8,.nm 8)]) (fun k=>?_)
    ·obtain⟨k,hk,m⟩:=k;have s:=fun h:k<(f.getD i (0,[])).2.length=>Gi (f.getD i (0,[])).2 (0,0) (rU (b,hf)) h;simp only;repeat'(first|exact trivial|refine eS rfl ?_|refine AB ?_|refine rX d ?_ ?_|refine rC ?_ ?_<;>intro a<;>try(cases a;done))
     ·exact a
     ·have j:k<(f.getD i (0,[])).2.length:=OR.1 (by assumption);have e:f.all (TG (b,hf))=false:=by
       rw[AAZ];refine⟨_,n,?_⟩;rw[o,AAZ.2 ⟨_,AD (f.getD i (0,[])).2 (0,0) j,by unfold rU;rw[ABS (ABc.2 a)];simp⟩];simp
      rw[BY e]at g;exact fI d [.tmp 4] (by rw[g];exact eR)
     ·exact eV
     ·have j:k<(f.getD i (0,[])).2.length:=OR.1 (by assumption);refine⟨⟨k+1,j,?_⟩,by simp only;omega,AC [(2,.nm 2),(3,.nm 3),(5,.nm 5),(8,.nm 8)] rfl rfl ?_ ?_⟩
      ·rw[s j,m];unfold rU;exact ABE a
      ·exact eN
      ·exact eN
     ·exact eV
     ·have j:(f.getD i (0,[])).2.take k=(f.getD i (0,[])).2:=An (f8.1 a);rw[j]at m;refine⟨⟨i+1,c,?_⟩,by simp only;omega,AC [(2,.nm 2),(3,.nm 3),(5,.nm 5)] rfl rfl ?_ ?_⟩
      ·rw[r c,l,o,m];rfl
      ·exact eN
      ·exact eN
   ·exact⟨hs,q⟩
   ·have c:f.take i=f:=An (f8.1 (by assumption));rw[c]at l;rw[At (by rw[l];simp),BY (by simpa using a)]at g;exact fI d [.tmp 4] (by rw[g];exact eR)
   ·have c:f.take i=f:=An (f8.1 (by assumption));rw[c]at l;rw[At (by rw[l];simp),At (by rw[a];simp)]at g;exact fI d [.tmp 4] (by rw[g];exact eR)
def J8 (h:AJ) (f:List AE):Bool:=HV f&&Cp h f==0
end
section
attribute [local go_sem] QL QK Uu QO
def B6 (d:List AI):AJ:=if d.length≤12∧(Ay d).2=0 then (Ay d).1 else (Ay Iq).1
def Xx (h:AJ) (l:List (List AE)):Bool:=l.all (J8 h)
end
section
def nV:Ad:={ ins:=[EM,T3],pre:=fun(_,i,_)=>(0:Int)≤i,out:=fun(b,i,_)=>[.p Pq (GR b i)],lend:=true }
attribute [local go_sem] nV
theorem A22:Ag Tryz.prog 107 nV:=by
 refine fK [0,1,4,8] Tryz.func107 Tryz.ntmps107 AG ?_;rintro w0 O0 ⟨b,i,u⟩ c-hi;simp only[nV,AM];repeat'(first|exact trivial|refine eS rfl ?_|refine AB ?_|refine rX c ?_ ?_|refine rC ?_ ?_<;>intro a<;>try(cases a;done))
 ·exact⟨hi,a⟩
 ·have h1:GR b i=b.getD i.toNat 0:=by unfold GR;rw[BY a]
  exact fI c [.tmp 4] (by rw[h1];exact eR)
 ·have h1:GR b i=0:=by unfold GR;rw[At (ABc.2 a)]
  exact fI c [.tmp 4] (by rw[h1];exact eR)
def Mj (a b:List Int):Bool:=(List.range a.length).all fun i=>CB .andNot .u64 (a.getD i 0) (GR b (i:Int))==0
def iU (a b:List Int) (n:Nat):Bool:=(List.range n).all fun i=>CB .andNot .u64 (a.getD i 0) (GR b (i:Int))==0
theorem nW (a b:List Int) (n:Nat):iU a b (n+1)=(iU a b n&&CB .andNot .u64 (a.getD n 0) (GR b (n:Int))==0):=by
 unfold iU;rw[AAd,ABK];simp
def QP:Ad:={ ins:=[EM,EM],pre:=fun _=>True,out:=fun(a,b,_)=>[.p .bool (Mj a b)],lend:=true }
attribute [local go_sem] QP
theorem VE:Ag Tryz.prog 69 QP:=by
 refine fK [0,1,4,5,6,7,8,9,10,19] Tryz.func69 Tryz.ntmps69 (AF A22 AG) ?_;rintro w0 O0 ⟨a,b,u⟩ e ⟨⟨g,-⟩,-⟩ -;simp only[AO]at g;simp only[QP,AM];repeat'(first|exact trivial|refine eS rfl ?_|refine AB ?_|refine rX e ?_ ?_|refine rC ?_ ?_<;>intro c<;>try(cases c;done))
 have h:Mj a b=iU a b a.length:=rfl;refine AH (ι:={n:Nat//n≤a.length∧iU a b n=true}) (fun n=>⟨[(1,.p EM b),(7,.p EM a),(8,.p (.int .i64) (a.length:Int)),(9,.p (.int .i64) (n.1:Int))],[]⟩) (fun n=>a.length-n.1) ⟨0,NO _,rfl⟩ (eW []) (fun n=>?_)
 ·obtain⟨n,hn,f⟩:=n;have hs:=nW a b n;simp only;repeat'(first|exact trivial|refine eS rfl ?_|refine AB ?_|refine rX e ?_ ?_|refine rC ?_ ?_<;>intro c<;>try(cases c;done))
  ·exact c
  ·have d:n<a.length:=by exact eV
   have h1:Mj a b=false:=by
    unfold Mj;rw[AAZ];exact⟨n,oN.2 d,by simpa using c⟩
   exact fI e [.tmp 4] (by rw[h1];exact eR)
  ·exact eV
  ·have d:n<a.length:=by exact eV
   refine⟨⟨n+1,d,?_⟩,by simp only;omega,AC [] rfl rfl ?_ ?_⟩
   ·rw[hs,f];simpa using c
   ·exact eN
   ·exact eN
  ·have d:n=a.length:=by exact eV
   subst d;exact fI e [.tmp 4] (by rw[h,f];exact eR)
abbrev RT:HA:=(ByteArray.empty,[],[],[])
def A6 (h:AJ) (a b:Int):Bool:=Mj (h.1.getD b.toNat RT).2.1 (h.1.getD a.toNat RT).2.1
def Xy:Ad:={ ins:=[GN,T3,T3],pre:=fun(h,a,b,_)=>((0:Int)≤a∧a<(List.length (h:AJ).1:Int))∧((0:Int)≤b∧b<(List.length (h:AJ).1:Int)),out:=fun(h,a,b,_)=>[.p .bool (A6 h a b)],lend:=true }
theorem A4L:Ag Tryz.prog 39 Xy:=by
 refine fK [0,1,2,3,6] Tryz.func39 Tryz.ntmps39 (AF VE AG) ?_;rintro w0 O0 ⟨⟨f,hf⟩,a,b,u⟩ c-⟨ha,e⟩;simp only[Xy,AM];repeat'(first|exact trivial|refine eS rfl ?_|refine AB ?_|refine rX c ?_ ?_|refine rC ?_ ?_<;>intro d<;>try(cases d;done))
 ·exact⟨e,ha⟩
 ·exact fI c [.tmp 6] (by unfold A6;exact eR)
end
section
attribute [local go_sem] QP
def VG:Ad:={ ins:=[EM],pre:=fun(b,_)=>List.length b≤100000,out:=fun(b,_)=>[.p EM (BJ b)] }
attribute [local go_sem] VG
theorem nX:Ag Tryz.prog 161 VG:=by
 refine fK [0,2,3,15] Tryz.func161 Tryz.ntmps161 AG ?_;rintro w0 O0 ⟨b,u⟩ d-f;have f:b.length≤100000:=f;simp only[VG,AM];repeat'(first|exact trivial|refine eS rfl ?_|refine AB ?_|refine rX d ?_ ?_|refine rC ?_ ?_<;>intro c<;>try(cases c;done))
 refine AH (ι:={n:Nat//n≤b.length∧Ce b n=Ce b b.length}) (fun n=>⟨[(0,.p EM b),(3,.p (.int .i64) (n.1:Int))],[]⟩) (fun n=>n.1) ⟨b.length,Is _,rfl⟩ (eW []) (fun n=>?_)
 ·obtain⟨n,hn,g⟩:=n;simp only;repeat'(first|exact trivial|refine eS rfl ?_|refine AB ?_|refine rX d ?_ ?_|refine rC ?_ ?_<;>intro c<;>try(cases c;done))
  ·constructor
   ·exact eV
   ·intro h;refine⟨?_,?_⟩<;>exact eV
  ·exact eV
  ·obtain⟨h1,a⟩:=c;obtain⟨m,rfl⟩:∃m,n=m+1:=⟨n-1,by omega⟩;have e:(((m+1:Nat):Int)-1)=(m:Int):=by omega
   rw[e]at a;have a:b.getD m 0=0:=a;have j:Ce b m=Ce b b.length:=by
    rw[←g];show _=if b.getD m 0=0 then Ce b m else m+1
    rw[BY a]
   refine⟨⟨m,by omega,j⟩,by simp,AC [] rfl rfl ?_ ?_⟩
   ·exact eN
   ·simp only[e];exact eN
  ·exact f8.2 hn
  ·have i:Ce b n=n:=by
    cases n with
    | zero=>rfl
    | succ m =>
     have e:(((m+1:Nat):Int)-1)=(m:Int):=by omega
     rw[e]at c;have a:=c (by omega);have a:¬b.getD m 0=0:=a;show (if b.getD m 0=0 then Ce b m else m+1)=m+1;rw[At a]
   have h1:BJ b=b.take n:=by unfold BJ;rw[←g,i]
   rw[←h1];exact fI d [.tmp 2]
def HD (g:Nat→Int) (n i:Nat):List Int:=(List.range n).map fun j=>if j<i then g j else 0
theorem Xz (g:Nat→Int) (n i:Nat):(HD g n i).length=n:=by simp[HD]
theorem nY (g:Nat→Int) (n:Nat):HD g n 0=List.replicate n 0:=by
 apply AAE
 ·simp[HD]
 ·intro j h1 a;simp[HD]
theorem vT (g:Nat→Int) (n i:Nat):(HD g n i).set i (g i)=HD g n (i+1):=by
 apply AAE
 ·simp[HD]
 ·intro j h1 b;simp only[HD,List.getElem_set,ABZ,ABR];split
  ·rename_i e;rw[BY (by omega),e]
  ·rename_i e;by_cases a:j<i
   ·rw[BY a,BY (by omega)]
   ·rw[At a,At (by omega)]
def Za (a b:List Int) (i:Nat):Int:=CB .and .u64 (a.getD i 0) (b.getD i 0)
def GE (a b:List Int):List Int:=BJ (HD (Za a b) (min a.length b.length) (min a.length b.length))
def A23:Ad:={ ins:=[EM,EM],pre:=fun(a,_,_)=>List.length a≤100000,out:=fun(a,b,_)=>[.p EM (GE a b)] }
attribute [local go_sem] A23
theorem A4M:Ag Tryz.prog 143 A23:=by
 refine fK [0,1,4,5,6,14,15,16] Tryz.func143 Tryz.ntmps143 (AF nX AG) ?_;rintro w0 O0 ⟨a,b,u⟩ d-ha;have ha:a.length≤100000:=ha;simp only[A23,AM];repeat'(first|exact trivial|refine eS rfl ?_|refine AB ?_|refine rX d ?_ ?_|refine rC ?_ ?_<;>intro c<;>try(cases c;done))
 ·split<;>simp only[AO]<;>dsimp only[Ty.den]at *<;>omega
 ·have h:Int.toNat (if ((List.length b:Nat):Int)<((List.length a:Nat):Int) then ((List.length b:Nat):Int) else ((List.length a:Nat):Int))=min (List.length a) (List.length b):=by split<;>omega
  rw[h];have j:GE a b=BJ (HD (Za a b) (min a.length b.length) (min a.length b.length)):=rfl;have k:min a.length b.length≤a.length:=Nat.min_le_left _ _;have l:min a.length b.length≤b.length:=Nat.min_le_right _ _;generalize min a.length b.length=n at *;refine AH (ι:={i:Nat//i≤n}) (fun i=>⟨[(0,.p EM a),(1,.p EM b),(5,.sr 12 Pq 0 n),(14,.p (.int .i64) (n:Int)),(15,.p (.int .i64) (i.1:Int))],[(12,.arr 155 Pq (HD (Za a b) n i.1))]⟩) (fun i=>n-i.1) ⟨0,NO _⟩ (AC [(12,.nm 12)] rfl rfl ?_ ?_) (fun i=>?_)
  ·refine eM ?_;rw[nY]
  ·exact eN
  ·obtain⟨i,hi⟩:=i;have f:=Xz (Za a b) n i;simp only;repeat'(first|exact trivial|refine eS rfl ?_|refine AB ?_|refine rX d ?_ ?_|refine rC ?_ ?_<;>intro c<;>try(cases c;done))
   ·have e:i<n:=OR.1 c;exact⟨by exact eV,by exact eV,c⟩
   ·exact eV
   ·have e:i<n:=OR.1 c;refine⟨⟨i+1,e⟩,by simp only;omega,AC [(12,.nm 12)] rfl rfl ?_ ?_⟩
    ·simp only[←vT];refine eM ?_;rfl
    ·exact eN
   ·have e:i=n:=by omega
    subst e;have g:(HD (Za a b) i i).take i=HD (Za a b) i i:=An (by rw[f];exact Is _);refine Gg [12] ?_;repeat'(first|exact trivial|refine eS rfl ?_|refine AB ?_|refine rX d ?_ ?_|refine rC ?_ ?_<;>intro c<;>try(cases c;done))
    ·rw[g,f];dsimp only[Ty.den]at *;omega
    ·rw[g];exact fI d [.tmp 4] (by rw[j];exact eR)
def D9 (a b:List Int):Bool:=Mj a b&&Mj b a
def Zb:Ad:={ ins:=[EM,EM],pre:=fun _=>True,out:=fun(a,b,_)=>[.p .bool (D9 a b)],lend:=true }
attribute [local go_sem] Zb
theorem vU:Ag Tryz.prog 146 Zb:=by
 refine fK [0,1,4] Tryz.func146 Tryz.ntmps146 (AF VE AG) ?_;rintro w0 O0 ⟨a,b,u⟩ c - -;simp only[Zb,AM];repeat'(first|exact trivial|refine eS rfl ?_|refine AB ?_|refine rX c ?_ ?_|refine rC ?_ ?_<;>intro d<;>try(cases d;done))
 exact fI c [.tmp 4] (by unfold D9;exact eR)
def FD (c:List Int):Nat→List HA→Int
 | _,[]=>-1
 | k,t :: l=>if D9 t.2.1 c=true then (k:Int) else FD c (k+1) l
theorem nZ (c:List Int) (l:List HA) {k:Nat} (h:k<l.length):FD c k (l.drop k)=if D9 (l.getD k RT).2.1 c=true then (k:Int) else FD c (k+1) (l.drop (k+1)):=by
 rw[ON h];have e:l.getD k RT=l[k]:=by simp[AS,h]
 rw[e];rfl
theorem A24 (c:List Int) (t:HA):BA Tryz.prog 145 [.p T84 t,.bp 1 [] 0] [(1,.box 81 false [.p EM c])] [1] (fun res d=>res=.p .bool (D9 t.2.1 c)∧d=[(1,.box 81 false [.p EM c])]):=by
 refine J1 [0,1,2,3] [] [] Tryz.func145 Tryz.ntmps145 (AF vU AG) ?_;intro w0 K O0 ρ0 a e f;simp only[Ah];repeat'(first|exact trivial|refine eS rfl ?_|refine AB ?_|refine rX a ?_ ?_|refine rC ?_ ?_<;>intro b<;>try(cases b;done))
 refine Ev.ent (σ':=⟨[(3,.p .bool (D9 t.2.1 c))],[(1,.box 81 false [.p EM c])]⟩) ?_ (AC [(1,.nm 1)] rfl rfl ?_ ?_)
 ·exact fM a [.tmp 3] (.p .bool (D9 t.2.1 c)) eT ⟨rfl,rfl⟩
 ·exact eN
 ·exact eN
theorem vV (l:List HA) (c:List Int) (i:l.length≤100000):BA Tryz.prog 144 [.p So l,.clo 145 [1]] [(1,.box 81 false [.p EM c])] [1] (fun res g=>res=.p T3 (FD c 0 l)∧g=[(1,.box 81 false [.p EM c])]):=by
 refine J1 [0,1,4,5,7,8,9,16] [] [] Tryz.func144 Tryz.ntmps144 AG ?_;intro w0 K O0 ρ0 b j m;simp only[Ah];repeat'(first|exact trivial|refine eS rfl ?_|refine AB ?_|refine rX b ?_ ?_|refine rC ?_ ?_<;>intro a<;>try(cases a;done))
 refine AH (ι:={k:Nat//k≤l.length∧FD c k (l.drop k)=FD c 0 l}) (fun k=>⟨[(0,.p So l),(1,.clo 145 [1]),(7,.p (.int .i64) (l.length:Int)),(8,.p (.int .i64) (k.1:Int))],[(1,.box 81 false [.p EM c])]⟩) (fun k=>l.length-k.1) ⟨0,NO _,rfl⟩ (eW [(1,.nm 1)]) (fun k=>?_)
 ·obtain⟨k,hk,hf⟩:=k;have f:=fun h:k<l.length=>nZ c l h;simp only;repeat'(first|exact trivial|refine eS rfl ?_|refine AB ?_|refine rX b ?_ ?_|refine rC ?_ ?_<;>intro a<;>try(cases a;done))
  ·have d:k<l.length:=OR.1 a;have e:=f d;refine cP 5 b ?_ ?_
   ·exact a
   ·refine rM b (A24 c (l.getD k RT)) [(1,.nm 1)] [] ?_ ?_ ?_
    ·exact eN
    ·exact eN
    ·rintro _ _ ⟨rfl,rfl⟩;refine⟨[(1,.nm 1)],.p .bool (D9 (l.getD k RT).2.1 c),[(1,.box 81 false [.p EM c])],rfl,rfl,?_,?_,rfl,rfl,CS ?_⟩
     ·exact eN
     ·exact eN
     ·repeat'(first|exact trivial|refine eS rfl ?_|refine AB ?_|refine rX b ?_ ?_|refine rC ?_ ?_<;>intro a<;>try(cases a;done))
      ·have a:D9 (l.getD k RT).2.1 c=true:=a;rw[BY a,hf]at e;refine Ev.ent (σ':=⟨[(4,.p (.int .i64) (k:Int))],[(1,.box 81 false [.p EM c])]⟩) ?_ (AC [(1,.nm 1)] rfl rfl ?_ ?_)
       ·exact fM b [.tmp 4] (.p T3 (k:Int)) eT ⟨by rw[e],rfl⟩
       ·exact eN
       ·exact eN
      ·omega
      ·have a:D9 (l.getD k RT).2.1 c=false:=a;rw[At (by rw[a];simp)]at e;exact⟨⟨k+1,d,e.symm.trans hf⟩,by simp only;omega,eW [(1,.nm 1)]⟩
  ·have d:l.drop k=[]:=IF (f8.1 a);rw[d]at hf;have hf:(-1:Int)=FD c 0 l:=hf;refine Ev.ent (σ':=⟨[(4,.p (.int .i64) (-1))],[(1,.box 81 false [.p EM c])]⟩) ?_ (AC [(1,.nm 1)] rfl rfl ?_ ?_)
   ·exact fM b [.tmp 4] (.p T3 (-1)) eT ⟨by rw[hf],rfl⟩
   ·exact eN
   ·exact eN
def BM (h:AJ) (t:Int):List Int:=(h.1.getD t.toNat RT).2.1
def CD (h:AJ) (a b:Int):Int×Bool :=
 if (GE (BM h a) (BM h b)).length=0 then (0,false) else if FD (GE (BM h a) (BM h b)) 0 h.1<0 then (0,false) else (FD (GE (BM h a) (BM h b)) 0 h.1,true)
def rV:Ad:={ ins:=[GN,T3,T3],pre:=fun(h,a,b,_)=>((0:Int)≤a∧a<(List.length (h:AJ).1:Int))∧((0:Int)≤b∧b<(List.length (h:AJ).1:Int))∧List.length (h:AJ).1≤100000∧(∀x∈(h:AJ).1,x.2.1.length≤100000),out:=fun(h,a,b,_)=>[.p T3 (CD h a b).1,.p .bool (CD h a b).2],lend:=true }
theorem rW:Ag Tryz.prog 110 rV:=by
 refine fK [0,1,2,3,6,7,8,9,25,31] Tryz.func110 Tryz.ntmps110 (AF A4M AG) ?_;rintro w0 O0 ⟨⟨d,hf⟩,a,b,u⟩ e-⟨ha,i,k,n⟩;simp only[rV,AM];refine Ev.ent (σ':=⟨[(0,.p GN (d,hf)),(1,.p T3 a),(2,.p T3 b)],[]⟩) ?_ (AC [] rfl rfl ?_ ?_)
 ·repeat'(first|exact trivial|refine eS rfl ?_|refine AB ?_|refine rX e ?_ ?_|refine rC ?_ ?_<;>intro f<;>try(cases f;done))
  ·refine⟨ha,i,?_⟩;have h1:Int.toNat a<List.length d:=(ACk ha.1).2 ha.2;exact n _ (AD (d:List HA) RT h1)
  ·have l:CD (d,hf) a b=(0,false):=by
    unfold CD;rw[BY (by unfold BM;exact ACq f)]
   exact fI e [.tmp 6,.tmp 7] (by rw[l];exact eR)
  ·have j:∀c,c=GE (List.getD d (Int.toNat a) (ByteArray.empty,[],[],[])).2.1 (List.getD d (Int.toNat b) (ByteArray.empty,[],[],[])).2.1→c=GE (BM (d,hf) a) (BM (d,hf) b):=fun c h=>h;have g:CD (d,hf) a b=if FD (GE (BM (d,hf) a) (BM (d,hf) b)) 0 d<0 then (0,false) else (FD (GE (BM (d,hf) a) (BM (d,hf) b)) 0 d,true):=by
    unfold CD;rw[At (fun h=>f (by unfold BM at h;exact AB6 Int.ofNat h))]
   generalize o:GE (List.getD d (Int.toNat a) (ByteArray.empty,[],[],[])).2.1 (List.getD d (Int.toNat b) (ByteArray.empty,[],[],[])).2.1=c at *;rw[←j c rfl]at g;refine cP 3 e ?_ ?_
   ·trivial
   ·refine rM e (vV d c k) [(1,.nm 8)] [] ?_ ?_ ?_
    ·exact eN
    ·exact eN
    ·rintro _ _ ⟨rfl,rfl⟩;refine⟨[(8,.nm 1)],.p T3 (FD c 0 d),[(8,.box 81 false [.p EM c])],rfl,rfl,?_,?_,rfl,rfl,?_⟩
     ·exact eN
     ·exact eN
     ·generalize FD c 0 d=m at *;refine rL e ?_ ?_
      ·trivial
      ·repeat'(first|exact trivial|refine eS rfl ?_|refine AB ?_|refine rX e ?_ ?_|refine rC ?_ ?_<;>intro f<;>try(cases f;done))
       ·rw[BY f]at g;exact fI e [.tmp 6,.tmp 7] (by rw[g];exact eR)
       ·rw[At (ABc.2 f)]at g;exact fI e [.tmp 6,.tmp 7] (by rw[g];exact eR)
 ·exact eN
 ·exact eN
end
theorem VH (l:List (List Int)) (i k:Nat):l <+: Gj l i k:=by
 unfold Gj;split
 ·exact ACz _ _
 ·exact AAH _
theorem VI (i:Nat):∀(n k:Nat) (l:List (List Int)),l <+: Gk i n k l
 | 0,_,l=>AAH l
 | n+1,k,l=>by
  unfold Gk;split
  ·exact(VH l i k).trans (VI i n (k+1) _)
  ·exact AAH l
theorem QQ:∀(n i:Nat) (l:List (List Int)),l <+: Ii n i l
 | 0,_,l=>AAH l
 | n+1,i,l=>by
  unfold Ii;split
  ·exact(VI i i 0 l).trans (QQ n (i+1) _)
  ·exact AAH l
theorem QR {l m:List (List Int)} (h:l <+: m) {k:Nat} (hk:k<l.length):m.getD k []=l.getD k []:=by
 obtain⟨t,rfl⟩:=h;simp only[AS];rw[AA5 hk]
def Ly (l:List (List Int)) (q p:Nat):Prop:=EO (l.getD q []) (l.getD p [])=[]∨EO (l.getD q []) (l.getD p [])∈l
theorem Ly.pre {l m:List (List Int)} (h:l <+: m) {q p:Nat} (b:q<l.length) (hp:p<l.length) (a:Ly l q p):Ly m q p:=by
 unfold Ly at a ⊢;rw[QR h b,QR h hp];rcases a with a|a
 ·exact .inl a
 ·exact .inr (h.subset a)
theorem A4N {l:List (List Int)} {b:List Int} (h:m5 l b=true):b∈l:=by
 obtain⟨x,a,e⟩:=gO.1 h;have:x=b:=by simpa[GS] using e
 rw[←this];exact a
theorem n4 {l:List (List Int)} {i k:Nat} (hi:i<l.length) (hk:k<l.length):Ly (Gj l i k) i k:=by
 have hp:=VH l i k;unfold Ly;rw[QR hp hi,QR hp hk];unfold Gj;split
 ·right;simp
 ·rename_i a;rw[As,IS,bY]at a;by_cases h0:0<((EO (l.getD i []) (l.getD k [])).length:Int)
  ·right;cases hh:m5 l (EO (l.getD i []) (l.getD k [])) with
   | true=>exact A4N hh
   | false=>exact absurd ⟨h0,hh⟩ a
  ·left;exact nO (by omega)
theorem VJ {i:Nat}:∀ {n k:Nat} {l:List (List Int)},n+k=i→i<l.length→(Gk i n k l).length≤256→(∀p,p<k→Ly l i p)→∀p,p<i→Ly (Gk i n k l) i p
 | 0,k,l,hn,hi,a,h=>fun p hp=>h p (by omega)
 | n+1,k,l,hn,hi,a,h=>by
  unfold Gk at a ⊢;split at a
  ·rename_i b;rw[BY b];have hp:=VH l i k;refine VJ (by omega) (AAJ hi hp.length_le) a fun p c=>?_;by_cases e:p=k
   ·subst e;exact n4 hi (by omega)
   ·exact(h p (by omega)).pre hp hi (by omega)
  ·rename_i b;exact absurd (by omega:l.length≤256) b
theorem VK:∀ {n i:Nat} {l:List (List Int)},257≤n+i→(Ii n i l).length≤256→i≤l.length→(∀q p,p<q→q<i→Ly l q p)→∀q p,p<q→q<(Ii n i l).length→Ly (Ii n i l) q p
 | 0,i,l,hn,a,f,h=>fun q p c d=>by
  have j:l.length≤256:=a;omega
 | n+1,i,l,hn,a,f,h=>by
  unfold Ii at a ⊢;split at a
  ·rename_i b;rw[BY b];have hp:=VI i i 0 l;have k:=hp.length_le;have g:=(QQ n (i+1) (Gk i i 0 l)).length_le;refine VK (by omega) a (by omega) fun q p c d=>?_;by_cases e:q=i
   ·subst e;exact VJ (by omega) b.1 (by omega) (fun p hp=>by omega) p c
   ·exact(h q p c (by omega)).pre hp (by omega) (by omega)
  ·rename_i b;rw[At b];intro q p c d;exact h q p c (by
    refine DO fun hh=>b ⟨by omega,a⟩)
theorem Zc {c:List (List Int)} (a:(Au c).length≤256):∀q p,p<q→q<(Au c).length→Ly (Au c) q p :=
 VK (by omega) a (NO _) (fun q p _ h=>by omega)
theorem A25 (a b:List Int) (k:Nat):(EO a b).getD k 0=if k<a.length then CB .and .u64 (a.getD k 0) (b.getD k 0) else 0:=by
 unfold EO;rw[QA];split
 ·rename_i h;exact NH .and a b h
 ·rename_i h;rw[AS,dO (by rw[Ez];omega)];rfl
theorem HE {b:List Int} {k:Nat} (h:¬k<b.length):b.getD k 0=0:=by
 rw[AS,dO (by omega)];rfl
theorem LY {a b:List Int} (ha:Ik a) (c:Ik b) (i:Nat):BC (EO a b) i=(BC a i&&BC b i):=by
 unfold BC;rw[A25];split
 ·rw[Ij (BG ha _) (BG c _),iN,Nat.testBit_and]
 ·rename_i h;rw[HE h];simp
theorem NL {a b:List Int} (ha:Ik a) (d:Ik b):Ik (EO a b):=by
 refine Ob fun x c=>?_;unfold Gh at c;obtain⟨i,-,rfl⟩:=GO.1 c;rw[IB,Ij (BG ha _) (BG d _)];have h1:=BG ha i;have e:(a.getD i 0).toNat &&& (b.getD i 0).toNat≤(a.getD i 0).toNat:=ACs;have f:=h1.1;have g:=h1.2;exact⟨AA1 _,by omega⟩
theorem RU (b:List Int):∀n,Ce b n=0∨b.getD (Ce b n-1) 0≠0
 | 0=>.inl rfl
 | n+1=>by
  unfold Ce;split
  ·exact RU b n
  ·rename_i h;right;simpa using h
theorem A4O {n:Nat} (h0:n≠0) (h1:n<18446744073709551616):∃r,r<64∧n.testBit r=true:=by
 refine DO fun b=>h0 ?_;refine Nat.eq_of_testBit_eq fun r=>?_;rw[Nat.zero_testBit];by_cases c:r<64
 ·cases a:n.testBit r with
  | false=>rfl
  | true=>exact absurd ⟨r,c,a⟩ b
 ·have e:(18446744073709551616:Nat)=2 ^ 64:=by decide
  rw[e]at h1;exact Nat.testBit_lt_two_pow (AAJ h1 (Nat.pow_le_pow_right (by decide) (by omega)))
theorem iV {b:List Int} (a:Ik b) {k:Nat} (h:b.getD k 0≠0):∃i,BC b i=true:=by
 have hu:=BG a k;have h1:=hu.1;have d:=hu.2;obtain⟨r,e,c⟩:=A4O (n:=(b.getD k 0).toNat) (by omega) (by omega);refine⟨64*k+r,?_⟩;unfold BC;rw[show (64*k+r) / 64=k by omega,show (64*k+r) % 64=r by omega];exact c
theorem n5 {b:List Int} (a:Ik b) (h:BJ b≠[]):∃i,BC b i=true:=by
 rcases RU b b.length with h1|h1
 ·exact absurd (by unfold BJ;rw[h1];rfl) h
 ·exact iV a h1
theorem X0 {a b:List Int} (ha:Ik a) (c:Ik b) (h:∀i,BC a i=true→BC b i=true) (k:Nat):CB .andNot .u64 (a.getD k 0) (b.getD k 0)=0:=by
 rw[RK];have:(BitVec.ofInt 64 (a.getD k 0) &&& ~~~BitVec.ofInt 64 (b.getD k 0))=0#64:=by
  apply BitVec.eq_of_getLsbD_eq;intro r e;rw[BitVec.getLsbD_and,BitVec.getLsbD_not,←ABH,←ABH,Ft (BG ha k),Ft (BG c k)];have hk:=h (64*k+r);unfold BC at hk;rw[show (64*k+r) / 64=k by omega,show (64*k+r) % 64=r by omega]at hk;cases d:(a.getD k 0).toNat.testBit r with
  | false=>simp
  | true=>rw[hk d];simp
 rw[this];rfl
theorem Gm {a b:List Int} (ha:Ik a) (c:Ik b):FX a b=true↔∀i,BC a i=true→BC b i=true:=by
 constructor
 ·exact fun h i hi=>Me ha c h hi
 ·intro h;unfold FX RF BJ;have h1:Ce (Gh .andNot a b a.length) (Gh .andNot a b a.length).length=0:=by
   rw[Ez];exact RL fun k hk=>by rw[NH _ _ _ hk];exact X0 ha c h k
  rw[h1];rfl
structure Jf (l:List (List Int)):Prop where
 wds:∀c∈l,Ik c
 some:∀c∈l,∃i,BC c i=true
 wid:∀c∈l,c.length≤64
 meet:∀a∈l,∀b∈l,(∃i,BC a i=true∧BC b i=true)→∃t∈l,∀i,BC t i=(BC a i&&BC b i)
structure Bs (l:List (List Int)):Prop where
 wds:∀c∈l,Ik c
 some:∀c∈l,∃i,BC c i=true
theorem RW {l:List (List Int)} {k:Nat} (h:¬k<l.length):l.getD k []=[]:=by
 rw[AS,dO (by omega)];rfl
theorem Bs.get {l:List (List Int)} (h:Bs l) (k:Nat):Ik (l.getD k []):=by
 by_cases hk:k<l.length
 ·exact h.wds _ (BF hk)
 ·rw[RW hk];intro x a;cases a
theorem A4P {l:List (List Int)} (h:Bs l) (i k:Nat):Bs (Gj l i k):=by
 unfold Gj;split
 ·rename_i b;rw[As,IS]at b;refine⟨fun c a=>?_,fun c a=>?_⟩
  ·rcases Of.1 a with a|a
   ·exact h.wds c a
   ·have:c=EO (l.getD i []) (l.getD k []):=by simpa using a
    rw[this];exact NL (h.get i) (h.get k)
  ·rcases Of.1 a with a|a
   ·exact h.some c a
   ·have:c=EO (l.getD i []) (l.getD k []):=by simpa using a
    rw[this];have g:EO (l.getD i []) (l.getD k [])≠[]:=by
     intro e;rw[e]at b;exact absurd b.1 (by simp)
    have m:Ik (Gh .and (l.getD i []) (l.getD k []) (l.getD i []).length):=by
     intro x d;unfold Gh at d;obtain⟨j,-,rfl⟩:=GO.1 d;rw[IB,Ij (BG (h.get i) _) (BG (h.get k) _)];have h1:=BG (h.get i) j;have n:((l.getD i []).getD j 0).toNat &&& ((l.getD k []).getD j 0).toNat≤((l.getD i []).getD j 0).toNat:=ACs;have o:=h1.1;have p:=h1.2;exact⟨AA1 _,by omega⟩
    obtain⟨j,f⟩:=n5 m g;exact⟨j,by unfold EO;rw[Oa];exact f⟩
 ·exact h
theorem rZ {i:Nat}:∀ {n k:Nat} {l:List (List Int)},Bs l→Bs (Gk i n k l)
 | 0,_,_,h=>h
 | n+1,k,l,h=>by
  unfold Gk;split
  ·exact rZ (A4P h i k)
  ·exact h
theorem r8:∀ {n i:Nat} {l:List (List Int)},Bs l→Bs (Ii n i l)
 | 0,_,_,h=>h
 | n+1,i,l,h=>by
  unfold Ii;split
  ·exact r8 (rZ h)
  ·exact h
theorem vW {d:List AI} (f:A3 d=0):Bs (AR d):=by
 obtain⟨-,l,-⟩:=Aw f;have h:=D6 d d.length;rw[iS]at h;have b:(AN d).length≤4096:=by omega
 refine⟨fun c a=>?_,fun c a=>?_⟩
 ·unfold AR at a;obtain⟨s,-,rfl⟩:=GO.1 a;exact(Bt (d:=d) b s 0).2.1
 ·unfold AR at a;obtain⟨s,hs,rfl⟩:=GO.1 a;obtain⟨j,g,e⟩:=Cf ByteArray.empty hs;have i:0≤Am d s:=by
   obtain⟨x,k,e⟩:=Cy hs;rw[←e];exact Df k
  exact⟨j,(Bt (d:=d) b s j).1.2 ⟨g,by rw[e];exact Oc i⟩⟩
theorem VL {d:List AI} (l:A3 d=0) (s:(Au (AR d)).length≤256):Jf (Au (AR d)):=by
 obtain⟨-,o,-⟩:=Aw l;have g:Bs (Au (AR d)):=r8 (vW l);have n:=Zc s;refine⟨g.wds,g.some,QG (Oh o),fun a ha b r hi=>?_⟩;obtain⟨q,f,rfl⟩:=Cf [] ha;obtain⟨p,hp,rfl⟩:=Cf [] r;have key:∀q p,q<(Au (AR d)).length→p<(Au (AR d)).length→Ly (Au (AR d)) q p→(∃i,BC ((Au (AR d)).getD q []) i=true∧BC ((Au (AR d)).getD p []) i=true) →
   ∃t∈Au (AR d),∀i,BC t i=(BC ((Au (AR d)).getD q []) i&&BC ((Au (AR d)).getD p []) i):=by
  intro q p f hp c hi;have m:=LY (g.get q) (g.get p);rcases c with c|c
  ·obtain⟨i,j,k⟩:=hi;have:=m i;rw[c,j,k]at this;unfold BC at this;simp at this
  ·exact⟨_,c,m⟩
 rcases ACb p q with h|h|h
 ·exact key q p f hp (n q p h f) hi
 ·subst h;exact⟨_,BF f,fun i=>by rw[Bool.and_self]⟩
 ·obtain⟨t,u,e⟩:=key p q hp f (n p q h hp) (by obtain⟨i,j,k⟩:=hi;exact⟨i,k,j⟩);exact⟨t,u,fun i=>by rw[e i,Bool.and_comm]⟩
def HW (h:AJ):Prop:=Jf (h.1.map fun t=>t.2.1)∧h.1.length≤256
theorem HF (d:List AI):HW (Ay d).1:=by
 unfold Ay;split
 ·exact⟨⟨fun c h=>(by cases h),fun c h=>(by cases h),fun c h=>(by cases h),fun c h=>(by cases h)⟩,by simp⟩
 ·rename_i g;have g:(BB d).2=0:=DO g;have m:Av d=0:=by
   unfold BB at g;split at g
   ·rename_i h;exact absurd g h
   ·rename_i h;exact DO h
  obtain⟨p,-,-⟩:=CC m;obtain⟨l,k,-⟩:=BU p;have hf:=VL l k;have f:∀c,c∈((Bm d).1.map fun t=>t.2.1)↔c∈Au (AR d):=by
   intro c;have e:((Bm d).1.map fun t=>t.2.1)=(AL d).map fun x=>x.2:=by
    show ((Eg _ _ _).map fun t=>t.2.1)=_;unfold Eg;rw[ABb];apply AAE
    ·simp
    ·intro i h1 q;simp[AS,show i<(AL d).length by simpa using h1]
   rw[e];constructor
   ·intro h;obtain⟨x,o,rfl⟩:=GO.1 h;obtain⟨b,j,rfl⟩:=Dg.1 o;exact j
   ·intro h;exact GO.2 ⟨_,Dg.2 ⟨c,h,rfl⟩,rfl⟩
  refine⟨⟨fun c h=>hf.wds c ((f c).1 h),fun c h=>hf.some c ((f c).1 h),fun c h=>hf.wid c ((f c).1 h),fun a ha b j hi=>?_⟩,?_⟩
  ·obtain⟨t,n,e⟩:=hf.meet a ((f a).1 ha) b ((f b).1 j) hi;exact⟨t,(f t).2 n,e⟩
  ·show (Eg _ _ _).length≤256;rw[Kb,Im];exact k
theorem B7 {h:AJ} {t:Int} (a:0≤t) (b:t<(h.1.length:Int)):BM h t∈h.1.map fun t=>t.2.1 :=
 GO.2 ⟨_,AD h.1 RT (k:=t.toNat) (by omega),rfl⟩
theorem VM {a b:List Int} (ha:Ik a) (c:Ik b):Mj a b=true↔∀i,BC a i=true→BC b i=true:=by
 constructor
 ·intro h i hi;by_cases hk:i / 64<a.length
  ·have h1:=IN.1 h (i / 64) (oN.2 hk);rw[AAq,IB]at h1;exact SL (BG ha _) (BG c _) h1 (ACW _ (by decide)) hi
  ·exfalso;unfold BC at hi;rw[HE hk]at hi;simp at hi
 ·intro h;unfold Mj;rw[IN];intro k _;rw[AAq,IB];exact X0 ha c h k
theorem A26 {a b:List Int} (ha:Ik a) (c:Ik b) (i:Nat):BC (GE a b) i=(BC a i&&BC b i):=by
 unfold GE;rw[Oa];unfold BC;have:(HD (Za a b) (min a.length b.length) (min a.length b.length)).getD (i / 64) 0=CB .and .u64 (a.getD (i / 64) 0) (b.getD (i / 64) 0):=by
  by_cases h:i / 64<min a.length b.length
  ·unfold HD;rw[AS,AA0,AAF h];show (if i / 64<min a.length b.length then Za a b (i / 64) else 0)=_;rw[BY h];rfl
  ·rw[HE (by rw[Xz];exact h),Ij (BG ha _) (BG c _)];by_cases h1:i / 64<a.length
   ·rw[HE (b:=b) (by omega)];simp
   ·rw[HE (b:=a) h1];simp
 rw[this,Ij (BG ha _) (BG c _),iN,Nat.testBit_and]
theorem A27 {a b:List Int} (ha:Ik a) (d:Ik b):Ik (GE a b):=by
 refine Ob fun x c=>?_;unfold HD at c;obtain⟨j,-,rfl⟩:=GO.1 c;split
 ·unfold Za;rw[Ij (BG ha _) (BG d _)];have h1:=BG ha j;have e:(a.getD j 0).toNat &&& (b.getD j 0).toNat≤(a.getD j 0).toNat:=ACs;have f:=h1.1;have g:=h1.2;exact⟨AA1 _,by omega⟩
 ·exact⟨by decide,by decide⟩
theorem VN (c:List Int):∀(l:List HA) (k:Nat),(FD c k l=-1∧∀t∈l,D9 t.2.1 c=false)∨((k:Int)≤FD c k l∧FD c k l<(k:Int)+l.length∧D9 (l.getD ((FD c k l).toNat-k) RT).2.1 c=true)
 | [],k=>.inl ⟨rfl,fun t a=>by cases a⟩
 | x :: l,k=>by
  simp only[FD];split
  ·rename_i h;right;refine⟨by omega,by simp only[OF];omega,?_⟩;rw[show ((k:Int).toNat-k)=0 by omega];exact h
  ·rename_i h;have h:D9 x.2.1 c=false:=by simpa using h
   rcases VN c l (k+1) with ⟨h1,b⟩|⟨h1,b,d⟩
   ·left;refine⟨h1,fun t a=>?_⟩;rcases By.1 a with rfl|a
    ·exact h
    ·exact b t a
   ·right;refine⟨by omega,by simp only[OF];omega,?_⟩;rw[show ((FD c (k+1) l).toNat-k)=((FD c (k+1) l).toNat-(k+1))+1 by omega];exact d
def iW (h:AJ) (t:Int) (i:Nat):Bool:=BC (BM h t) i
theorem BO {h:AJ} (hk:HW h) {a b:Int} (a0:0≤a) (c:a<(h.1.length:Int)) (d:0≤b) (b1:b<(h.1.length:Int)):A6 h a b=true↔∀i,iW h b i=true→iW h a i=true :=
 VM (hk.1.wds _ (B7 d b1)) (hk.1.wds _ (B7 a0 c))
theorem A28 {h:AJ} (hk:HW h) {a b:Int} (a0:0≤a) (g:a<(h.1.length:Int)) (j:0≤b) (b1:b<(h.1.length:Int)) :
  ((CD h a b).2=true→0≤(CD h a b).1∧(CD h a b).1<(h.1.length:Int)∧∀i,iW h (CD h a b).1 i=(iW h a i&&iW h b i))∧((∃i,iW h a i=true∧iW h b i=true)→(CD h a b).2=true):=by
 have r:=hk.1.wds _ (B7 a0 g);have s:=hk.1.wds _ (B7 j b1);have c:=A26 r s;have n:=A27 r s;have heq:∀t∈h.1,D9 t.2.1 (GE (BM h a) (BM h b))=true↔∀i,BC t.2.1 i=BC (GE (BM h a) (BM h b)) i:=by
  intro t d;have wt:=hk.1.wds t.2.1 (GO.2 ⟨t,d,rfl⟩);unfold D9;rw[As,VM wt n,VM n wt];constructor
  ·rintro⟨u,v⟩ i;rw[ABx];exact⟨u i,v i⟩
  ·intro e;exact⟨fun i hi=>by rw[←e i];exact hi,fun i hi=>by rw[e i];exact hi⟩
 unfold CD;by_cases f:(GE (BM h a) (BM h b)).length=0
 ·rw[BY f];refine⟨fun e=>(by cases e),?_⟩;rintro⟨i,p,q⟩;exfalso;have:=c i;rw[nO f]at this;unfold iW at p q;rw[p,q]at this;unfold BC at this;simp at this
 ·rw[At f];rcases VN (GE (BM h a) (BM h b)) h.1 0 with ⟨h1,l⟩|⟨h1,l,m⟩
  ·rw[BY (by omega)];refine⟨fun e=>(by cases e),fun hi=>?_⟩;exfalso;obtain⟨t,d,e⟩:=hk.1.meet _ (B7 a0 g) _ (B7 j b1) hi;obtain⟨x,o,rfl⟩:=GO.1 d;have:=(heq x o).2 (fun i=>by rw[c i];exact e i);rw[l x o]at this;cases this
  ·have h1:0≤FD (GE (BM h a) (BM h b)) 0 h.1:=by omega
   rw[At (by omega)];refine⟨fun _=>⟨h1,by simp only;omega,fun i=>?_⟩,fun _=>rfl⟩;rw[Nat.sub_zero]at m;have w:=AD h.1 RT (k:=(FD (GE (BM h a) (BM h b)) 0 h.1).toNat) (by omega);have:=(heq _ w).1 m i;rw[c i]at this;exact this
theorem Mk {h:AJ} (hk:HW h) {a b:Int} (a0:0≤a) (l:a<(h.1.length:Int)) (m:0≤b) (b1:b<(h.1.length:Int)) :
  ((CD h a b).2=true→0≤(CD h a b).1∧(CD h a b).1<(h.1.length:Int)∧A6 h a (CD h a b).1=true∧A6 h b (CD h a b).1=true) ∧
  ∀x,0≤x→x<(h.1.length:Int)→A6 h a x=true→A6 h b x=true→(CD h a b).2=true∧A6 h (CD h a b).1 x=true:=by
 obtain⟨q,t⟩:=A28 hk a0 l m b1;refine⟨fun e=>?_,fun x g k r s=>?_⟩
 ·obtain⟨c,d,f⟩:=q e;refine⟨c,d,(BO hk a0 l c d).2 fun i hi=>?_,(BO hk m b1 c d).2 fun i hi=>?_⟩
  ·rw[f i,As]at hi;exact hi.1
  ·rw[f i,As]at hi;exact hi.2
 ·have n:=(BO hk a0 l g k).1 r;have o:=(BO hk m b1 g k).1 s;obtain⟨i,hi⟩:=hk.1.some _ (B7 g k);have e:=t ⟨i,n i hi,o i hi⟩;obtain⟨c,d,f⟩:=q e;refine⟨e,(BO hk c d g k).2 fun j p=>?_⟩;rw[f j,As];exact⟨n j p,o j p⟩
def Nrm (c:List Int):Prop:=c.length=0∨c.getD (c.length-1) 0≠0
theorem LZ (b:List Int):Nrm (BJ b):=by
 unfold Nrm BJ;have a:=Uc b b.length;rw[OS,AAU a];rcases RU b b.length with h|h
 ·exact .inl h
 ·by_cases h0:Ce b b.length=0
  ·exact .inl h0
  ·right;rw[AS,List.getElem?_take_of_lt (by omega),←AS];exact h
theorem A4Q {a b:List Int} (ha:Ik a) (f:Ik b) (h:∀i,BC a i=BC b i) (k:Nat):a.getD k 0=b.getD k 0:=by
 have c:=BG ha k;have d:=BG f k;have j:=c.1;have l:=c.2;have m:=d.1;have o:=d.2;have e:(a.getD k 0).toNat=(b.getD k 0).toNat:=by
  refine Nat.eq_of_testBit_eq fun r=>?_;by_cases g:r<64
  ·have:=h (64*k+r);unfold BC at this;rw[show (64*k+r) / 64=k by omega,show (64*k+r) % 64=r by omega]at this;exact this
  ·have big:∀n:Nat,n<18446744073709551616→n.testBit r=false:=fun n hn=>by
    have e:(18446744073709551616:Nat)=2 ^ 64:=by decide
    rw[e]at hn;exact Nat.testBit_lt_two_pow (AAJ hn (Nat.pow_le_pow_right (by decide) (by omega)))
   rw[big _ (by omega),big _ (by omega)]
 omega
theorem r9 {a b:List Int} (d:∀k,a.getD k 0=b.getD k 0) (c:Nrm b):b.length≤a.length:=by
 rcases c with h|h
 ·omega
 ·refine DO fun e=>h ?_;rw[←d];exact HE (by omega)
theorem Zd {a b:List Int} (ha:Ik a) (e:Ik b) (g:Nrm a) (j:Nrm b) (h:∀i,BC a i=BC b i):a=b:=by
 have c:=A4Q ha e h;have f:a.length=b.length:=AC1 (r9 (fun k=>(c k).symm) g) (r9 c j);refine AAE f fun i h1 d=>?_;have:=c i;simpa[AS,h1,d] using this
theorem iX {α:Type} (l:List α) (x:α) (n:Nat):List.Perm (l.take n++[x]++l.drop n) (x :: l):=by
 have h:l.take n++[x]++l.drop n=l.take n++x :: l.drop n:=by simp
 rw[h];refine ACO.trans ?_;rw[ABA]
def sA (l:List ByteArray):Prop:=l.Pairwise fun a b=>Ab a b=false
theorem Ml {a b:ByteArray} (h:Ab a b=false):Ab b a=false:=by
 cases hh:Ab b a with
 | false=>rfl
 | true=>rw[D7 hh]at h;cases h
theorem VO {l:List ByteArray} {s:ByteArray} (h:sA l) (hs:∀x∈l,Ab x s=false):sA (Ed l s):=by
 unfold Ed;split
 ·exact h
 ·refine(List.Perm.pairwise_iff (fun b=>Ml b) (iX l s _)).2 ?_;exact AAx.2 ⟨fun x a=>Ml (hs x a),h⟩
theorem VP {d:List AI} (hn:Cm d=0):sA (AN d):=by
 have key:∀k,k≤d.length→sA (AN (d.take k))∧∀s∈AN (d.take k),∃i,i<k∧(d.getD i d0).1=s:=by
  intro k;induction k with
  | zero =>
   intro _;exact⟨.nil,fun s hs=>by cases hs⟩
  | succ k c =>
   intro hk;obtain⟨h1,a⟩:=c (by omega);have e:AN (d.take (k+1))=Ed (AN (d.take k)) (d.getD k d0).1:=by
    have:d.take (k+1)=d.take k++[d.getD k d0]:=AX d d0 (by omega);rw[this];unfold AN;rw[ABu];rfl
   rw[e];refine⟨VO h1 fun x b=>?_,fun s hs=>?_⟩
   ·obtain⟨i,hi,rfl⟩:=a x b;cases hh:Ab (d.getD i d0).1 (d.getD k d0).1 with
    | false=>rfl
    | true =>
     have g:=Jc d hh;rw[Mf hn (j:=i) (by omega),Mf hn (j:=k) (by omega)]at g;omega
   ·rcases G7 hs with hs|hs
    ·obtain⟨i,hi,e⟩:=a s hs;exact⟨i,by omega,e⟩
    ·exact⟨k,by omega,hs.symm⟩
 have:=(key d.length (Is _)).1
 rwa [iS]at this
structure Nd (l:List (List Int)):Prop where
 nd:l.Nodup
 nrm:∀c∈l,Nrm c
theorem A4R {l:List (List Int)} {c:List Int} (h:Nd l) (b:c∉l) (hn:Nrm c):Nd (l++[c]):=by
 refine⟨?_,fun x a=>?_⟩
 ·rw[AAN];refine⟨h.nd,by simp,fun x a y d e=>b ?_⟩;have:y=c:=by simpa using d
  rw[←this,←e];exact a
 ·rcases Of.1 a with a|a
  ·exact h.nrm x a
  ·have:x=c:=by simpa using a
   rw[this];exact hn
theorem A4S {l:List (List Int)} (h:Nd l) (i k:Nat):Nd (Gj l i k):=by
 unfold Gj;split
 ·rename_i a;rw[As,bY]at a;refine A4R h (fun b=>?_) (LZ _);have:m5 l (EO (l.getD i []) (l.getD k []))=true:=gO.2 ⟨_,b,by unfold GS;exact ABE rfl⟩;rw[this]at a;cases a.2
 ·exact h
theorem sB {i:Nat}:∀ {n k:Nat} {l:List (List Int)},Nd l→Nd (Gk i n k l)
 | 0,_,_,h=>h
 | n+1,k,l,h=>by
  unfold Gk;split
  ·exact sB (A4S h i k)
  ·exact h
theorem TH:∀ {n i:Nat} {l:List (List Int)},Nd l→Nd (Ii n i l)
 | 0,_,_,h=>h
 | n+1,i,l,h=>by
  unfold Ii;split
  ·exact TH (sB h)
  ·exact h
theorem RY {d:List AI} (m:A3 d=0):Nd (AR d):=by
 obtain⟨-,l,-,hn,p⟩:=Aw m;have q:=D6 d d.length;rw[iS]at q;have hap:=VP hn;refine⟨?_,fun c n=>?_⟩
 ·unfold AR List.Nodup;rw[AAR,oR];intro i j hi a o e;have h1:=(oR.1 hap) i j hi a o;have g:∀k,(hk:k<(AN d).length)→(AN d).getD k ByteArray.empty=(AN d)[k]:=fun k hk=>by simp[AS,hk]
  have f:=(Bt (d:=d) (all:=AN d) (by omega) (AN d)[j] 0).2.1;have b:=hH hn p l hi a (by
   rw[g i hi,g j a,e];unfold DX;have:=(Gm f f).2 fun _ h=>h;rw[this];rfl)
  rw[g i hi,g j a,h1]at b;cases b
 ·obtain⟨s,hs,rfl⟩:=GO.1 n;unfold E0 ofF;split
  ·exact LZ _
  ·exact .inl rfl
theorem Mm {d:List AI}:∀ {l:List (List Int)} {o:List AP},(o.map (·.2)++l).Nodup→((l.foldl (RM d) o).map (·.2)).Nodup
 | [],o,h=>by simpa using h
 | b :: l,o,h=>by
  rw[O5];refine Mm ?_;unfold RM Gl ZT;have hp:=(iX o (G8 d (AN d) (AR d) b,b) (Fv (G8 d (AN d) (AR d) b,b) o o.length)).map (fun x:AP=>x.2);have c:List.Perm ((o.take (Fv (G8 d (AN d) (AR d) b,b) o o.length)++[(G8 d (AN d) (AR d) b,b)]++o.drop (Fv (G8 d (AN d) (AR d) b,b) o o.length)).map (fun x:AP=>x.2)++l) (o.map (·.2)++b :: l) :=
   (hp.append_right l).trans (ACO (a:=b)).symm
  exact c.nodup_iff.2 h
def HX (h:AJ):Prop:=∀a b,0≤a→a<(h.1.length:Int)→0≤b→b<(h.1.length:Int)→A6 h a b=true→A6 h b a=true→a=b
theorem A6G {h:AJ} (hk:HW h) (hn:Nd (h.1.map fun t=>t.2.1)):HX h:=by
 intro a b a0 c d b1 h1 f;have l:=hk.1.wds _ (B7 a0 c);have m:=hk.1.wds _ (B7 d b1);have e:BM h a=BM h b:=Zd l m (hn.nrm _ (B7 a0 c)) (hn.nrm _ (B7 d b1)) fun i=>by
  rw[ABx];exact⟨(BO hk d b1 a0 c).1 f i,(BO hk a0 c d b1).1 h1 i⟩
 have hp:=oR.1 hn.nd;have g:∀k:Int,0≤k→(hk:k<(h.1.length:Int))→BM h k=(h.1.map fun t=>t.2.1)[k.toNat]'(by rw[To];omega):=fun k n o=>by
  unfold BM;simp[AS,show k.toNat<h.1.length by omega]
 rw[g a a0 c,g b d b1]at e;rcases Int.lt_trichotomy a b with j|heq|j
 ·exact absurd e (hp a.toNat b.toNat (by rw[To];omega) (by rw[To];omega) (by omega))
 ·exact heq
 ·exact absurd e.symm (hp b.toNat a.toNat (by rw[To];omega) (by rw[To];omega) (by omega))
theorem SU (d:List AI):HX (Ay d).1:=by
 refine A6G (HF d) ?_;unfold Ay;split
 ·exact⟨.nil,fun c h=>(by cases h)⟩
 ·rename_i a;have a:(BB d).2=0:=DO a;have g:Av d=0:=by
   unfold BB at a;split at a
   ·rename_i h;exact absurd a h
   ·rename_i h;exact DO h
  obtain⟨m,-,-⟩:=CC g;obtain⟨f,o,-⟩:=BU m;have hf:Nd (Au (AR d)):=TH (RY f);have e:((Bm d).1.map fun t=>t.2.1)=(AL d).map fun x=>x.2:=by
   show ((Eg _ _ _).map fun t=>t.2.1)=_;unfold Eg;rw[ABb];apply AAE
   ·simp
   ·intro i h1 n;simp[AS,show i<(AL d).length by simpa using h1]
  show Nd ((Bm d).1.map fun t=>t.2.1);rw[e];refine⟨Mm (by simpa using hf.nd),fun c k=>?_⟩;obtain⟨x,l,rfl⟩:=GO.1 k;obtain⟨b,j,rfl⟩:=Dg.1 l;exact hf.nrm b j
section
attribute [local go_sem] rV
def Dx (f:Int):List (Int×Int)→Int×Bool
 | []=>(0,false)
 | x :: l=>if x.1=f then (x.2,true) else Dx f l
theorem VQ (f:Int) (l:List (Int×Int)) {k:Nat} (h:k<l.length):Dx f (l.drop k)=if (l.getD k (0,0)).1=f then ((l.getD k (0,0)).2,true) else Dx f (l.drop (k+1)):=by
 rw[ON h];have e:l.getD k (0,0)=l[k]:=by simp[AS,h]
 rw[e];rfl
def J9 (h:AJ) (t:Int):List (Int×Int):=(h.1.getD t.toNat RT).2.2.2
def B8 (h:AJ) (t f:Int):Int×Bool:=Dx f (J9 h t)
def Nx:Ad:={ ins:=[GN,T3,T3],pre:=fun(h,t,_,_)=>(0:Int)≤t∧t<(List.length (h:AJ).1:Int),out:=fun(h,t,f,_)=>[.p T3 (B8 h t f).1,.p .bool (B8 h t f).2],lend:=true }
attribute [local go_sem] Nx
theorem sC:Ag Tryz.prog 26 Nx:=by
 refine fK [0,1,2,3,6,7,9,15,16,17,18,26] Tryz.func26 Tryz.ntmps26 AG ?_;rintro w0 O0 ⟨⟨d,hf⟩,t,f,u⟩ b q ⟨j,m⟩;simp only[Nx,AM];refine Ev.ent (σ':=⟨[(0,.p GN (d,hf)),(1,.p T3 t),(2,.p T3 f)],[]⟩) ?_ (AC [] rfl rfl ?_ ?_)
 ·repeat'(first|exact trivial|refine eS rfl ?_|refine AB ?_|refine rX b ?_ ?_|refine rC ?_ ?_<;>intro a<;>try(cases a;done))
  ·exact⟨j,m⟩
  ·have o:∀l,l=(List.getD d (Int.toNat t) (ByteArray.empty,[],[],[])).2.2.2→B8 (d,hf) t f=Dx f l:=fun l e=>by rw[e];rfl
   have r:List.length (List.getD d (Int.toNat t) (ByteArray.empty,[],[],[])).2.2.2≤140737488355328:=(q.1.1.2 _ (AD (d:List HA) RT ((ACk j).2 m))).2.2.2.1;generalize (List.getD d (Int.toNat t) (ByteArray.empty,[],[],[])).2.2.2=l at *;rw[o l rfl];refine AH (ι:={k:Nat//k≤List.length l∧Dx f l=Dx f (l.drop k)}) (fun k=>⟨[(2,.p T3 f),(15,.p b4 l),(16,.p (.int .i64) (List.length l:Int)),(17,.p (.int .i64) (k.1:Int))],[]⟩) (fun k=>List.length l-k.1) ⟨0,NO _,rfl⟩ (eW []) (fun k=>?_)
   ·obtain⟨k,hk,c⟩:=k;have i:=fun h:k<List.length l=>VQ f l h;simp only;repeat'(first|exact trivial|refine eS rfl ?_|refine AB ?_|refine rX b ?_ ?_|refine rC ?_ ?_<;>intro a<;>try(cases a;done))
    ·exact a
    ·refine cP 5 b ?_ ?_
     ·trivial
     ·refine AAa b ?_;refine rL b ?_ ?_
      ·trivial
      ·repeat'(first|exact trivial|refine eS rfl ?_|refine AB ?_|refine rX b ?_ ?_|refine rC ?_ ?_<;>intro a<;>try(cases a;done))
       ·have g:k<List.length l:=by exact eV
        rw[i g,BY a]at c;exact fI b [.tmp 6,.tmp 7] (by rw[c];exact eR)
       ·omega
       ·have g:k<List.length l:=by exact eV
        rw[i g,At a]at c;exact⟨⟨k+1,g,c⟩,by simp only;omega,eW []⟩
    ·have n:List.drop k (l:List (Int×Int))=[]:=IF (by exact eV);rw[n]at c;have c:Dx f l=(0,false):=c;exact fI b [.tmp 6,.tmp 7] (by rw[c];exact eR)
 ·exact eN
 ·exact eN
abbrev ER:=List Int×List Int
def DN (h:AJ) (s:ER) (n t:Int):Option ER :=
 if (CD h (s.1.getD n.toNat 0) t).2=true then some (if (CD h (s.1.getD n.toNat 0) t).1=s.1.getD n.toNat 0 then s else (s.1.set n.toNat (CD h (s.1.getD n.toNat 0) t).1,s.2++[n])) else none
def EA (h:AJ) (s:ER):List (Nat×Obj):=[(1,.box 74 true [.p GN h,.sr 2 T3 0 s.1.length,.p GM s.2]),(2,.arr 3 T3 s.1)]
theorem iY (h:AJ) (hk:HW h) (s:ER) {n t:Int} (n0:0≤n) (n1:n<(s.1.length:Int)) (f:0≤s.1.getD n.toNat 0) (J3:s.1.getD n.toNat 0<(h.1.length:Int)) (k:0≤t) (l:t<(h.1.length:Int)) (i:s.2.length≤1000000000) :
  BA Tryz.prog 72 [.bp 1 [] 0,.p T3 n,.p T3 t] (EA h s) [1]
  (fun res d=>(DN h s n t=none∧res=.p .bool false∧d=EA h s)∨∃e,DN h s n t=some e∧res=.p .bool true∧d=EA h e):=by
 obtain⟨ty,w⟩:=s;simp only at n1 f J3 i;have hh:h.1.length≤100000:=TO hk.2 (by omega);have g:∀x∈h.1,x.2.1.length≤100000:=fun x j=>TO (hk.1.wid x.2.1 (GO.2 ⟨x,j,rfl⟩)) (by omega);refine J1 [0,1,2,6,7,8,26,35] [] [] Tryz.func72 Tryz.ntmps72 (AF rW AG) ?_;intro w0 K O0 ρ0 c o q;simp only[EA,Ah];repeat'(first|exact trivial|refine eS rfl ?_|refine AB ?_|refine rX c ?_ ?_|refine rC ?_ ?_<;>intro b<;>try(cases b;done))
 ·exact⟨⟨n0,n1⟩,⟨f,J3⟩,⟨k,l⟩,hh,g⟩
 ·have a:DN h (ty,w) n t=none:=by unfold DN;rw[At (by simp only;rw[b];simp)]
  refine Ev.ent (σ':=⟨[(6,.p .bool false)],EA h (ty,w)⟩) ?_ (AC [(1,.nm 1),(2,.nm 2)] rfl rfl ?_ ?_)
  ·exact fM c [.tmp 6] (.p .bool false) eT (.inl ⟨a,rfl,rfl⟩)
  ·unfold EA;exact eN
  ·exact eN
 ·exact⟨n0,n1⟩
 ·exact⟨n0,n1⟩
 ·simp only[AO];omega
 ·have a:DN h (ty,w) n t=some (ty.set n.toNat (CD h (ty.getD n.toNat 0) t).1,w++[n]):=by unfold DN;rw[BY (by assumption),At b]
  generalize (CD h (ty.getD n.toNat 0) t).1=m at *;have r:(w++[n]).take (w.length+1)=w++[n]:=An (by simp);refine Gg [61] ?_;refine Ev.ent (σ':=⟨[(6,.p .bool true)],EA h (ty.set n.toNat m,w++[n])⟩) ?_ (AC [(1,.nm 1),(2,.nm 2)] rfl rfl ?_ ?_)
  ·exact fM c [.tmp 6] (.p .bool true) eT (.inr ⟨_,a,rfl,rfl⟩)
  ·unfold EA;simp only[AAm];exact eN
  ·exact eN
 ·have a:DN h (ty,w) n t=some (ty,w):=by unfold DN;rw[BY (by assumption),BY (by simpa using b)]
  refine Ev.ent (σ':=⟨[(6,.p .bool true)],EA h (ty,w)⟩) ?_ (AC [(1,.nm 1),(2,.nm 2)] rfl rfl ?_ ?_)
  ·exact fM c [.tmp 6] (.p .bool true) eT (.inr ⟨_,a,rfl,rfl⟩)
  ·unfold EA;exact eN
  ·exact eN
end
section
def n6:Ad:={ ins:=[T3],pre:=fun _=>True,out:=fun _=>[.p .bool false] }
attribute [local go_sem] n6
def F2 (a b:Int):Int:=if a<b then -1 else if b<a then 1 else 0
def HG:Ad:={ ins:=[T3,T3],pre:=fun _=>True,out:=fun(a,b,_)=>[.p T3 (F2 a b)] }
attribute [local go_sem] HG
def DA:Ad:={ ins:=[BE,BE],pre:=fun _=>True,out:=fun(a,b,_)=>[.p T3 (F2 (Prod.fst a) (Prod.fst b))] }
attribute [local go_sem] DA
theorem A29:Ag Tryz.prog 157 n6:=by
 refine fK [0,2] Tryz.func157 Tryz.ntmps157 AG ?_;rintro w0 O0 ⟨x,u⟩ a - -;simp only[n6,AM];repeat'(first|exact trivial|refine eS rfl ?_|refine AB ?_|refine rX a ?_ ?_|refine rC ?_ ?_<;>intro b<;>try(cases b;done))
 exact fI a [.tmp 2]
theorem Gv:Ag Tryz.prog 138 HG:=by
 refine fK [0,1,4,5,6,11,12,13,16,19] Tryz.func138 Tryz.ntmps138 (AF A29 AG) ?_;rintro w0 O0 ⟨a,b,u⟩ c - -;simp only[HG,AM];repeat'(first|exact trivial|refine eS rfl ?_|refine AB ?_|refine rX c ?_ ?_|refine rC ?_ ?_<;>intro d<;>try(cases d;done))
 ·have e:F2 a b=-1:=BY d;exact fI c [.tmp 4] (by rw[e];exact eR)
 ·have e:F2 a b=1:=by unfold F2;rw[At (by omega),BY d]
  exact fI c [.tmp 4] (by rw[e];exact eR)
 ·have e:F2 a b=0:=by unfold F2;rw[At (by omega),At (by omega)]
  exact fI c [.tmp 4] (by rw[e];exact eR)
theorem FB:Ag Tryz.prog 116 DA:=by
 refine fK [0,1,2,3,4] Tryz.func116 Tryz.ntmps116 (AF Gv AG) ?_;rintro w0 O0 ⟨a,b,u⟩ c - -;simp only[DA,AM];repeat'(first|exact trivial|refine eS rfl ?_|refine AB ?_|refine rX c ?_ ?_|refine rC ?_ ?_<;>intro d<;>try(cases d;done))
 exact fI c [.tmp 4]
def n7 (l:List (Int×Int)):Prop:=∀i,i+1<l.length→(l.getD i (0,0)).1<(l.getD (i+1) (0,0)).1
end
def Eh (f:List AE):Nat→List Int→Int→List Int
 | 0,o,_=>o
 | k+1,o,n=>(f.getD n.toNat (0,[])).2.foldl (fun o a=>if a.2∈o then o else Eh f k o a.2) (o++[n])
def Ac (f:List AE) (k:Nat) (o:List Int) (a:Int×Int):List Int:=if a.2∈o then o else Eh f k o a.2
theorem DB (f:List AE) (k:Nat) (o:List Int) (n:Int):Eh f (k+1) o n=(f.getD n.toNat (0,[])).2.foldl (Ac f k) (o++[n]):=rfl
structure La (f:List AE) (o:List Int):Prop where
 nd:o.Nodup
 rng:∀x∈o,0≤x∧x<(f.length:Int)
theorem La.len {f:List AE} {o:List Int} (h:La f o):o.length≤f.length:=by
 have h1:(o.map Int.toNat).Nodup:=by
  rw[List.Nodup,AAR];refine h.nd.imp_of_mem fun {a b} ha c g e=>g ?_;have:=h.rng a ha;have:=h.rng b c;omega
 have:=EX f.length (o.map Int.toNat) h1 (fun j d=>by
  obtain⟨x,i,rfl⟩:=GO.1 d;have:=h.rng x i;omega)
 simpa using this
theorem La.snoc {f:List AE} {o:List Int} (h:La f o) {n:Int} (h0:0≤n) (h1:n<f.length) (hn:n∉o):La f (o++[n]):=by
 refine⟨?_,fun x c=>?_⟩
 ·rw[AAN];refine⟨h.nd,by simp,fun a ha b d=>?_⟩;have:b=n:=by simpa using d
  subst this;intro e;subst e;exact hn ha
 ·rcases Of.1 c with c|c
  ·exact h.rng x c
  ·have:x=n:=by simpa using c
   subst this;exact⟨h0,h1⟩
theorem E1 {f:List AE} {k:Nat} (e:∀(o:List Int) (n:Int),La f o→0≤n→n<f.length→n∉o→La f (Eh f k o n)∧o <+: Eh f k o n) :
  ∀(l:List (Int×Int)) (o:List Int),(∀a∈l,0≤a.2∧a.2<(f.length:Int))→La f o→La f (l.foldl (Ac f k) o)∧o <+: l.foldl (Ac f k) o
 | [],o,_,h=>⟨h,AAH _⟩
 | a :: l,o,c,h=>by
  simp only[O5];have d:La f (Ac f k o a)∧o <+: Ac f k o a:=by
   unfold Ac;split
   ·exact⟨h,AAH _⟩
   ·rename_i hn;exact e o a.2 h (c a (by simp)).1 (c a (by simp)).2 hn
  obtain⟨g,i⟩:=E1 e l _ (fun b j=>c b (by simp[j])) d.1;exact⟨g,d.2.trans i⟩
theorem B9 {f:List AE} (hf:Ae f) {n:Int} {a:Int×Int} (ha:a∈(f.getD n.toNat (0,[])).2):0≤a.2∧a.2<f.length:=by
 by_cases h:n.toNat<f.length
 ·have b:f.getD n.toNat (0,[])∈f:=by
   rw[AS,AT h];exact AAs h
  exact(hf.2 _ b).2 a ha
 ·rw[AS,dO (by omega)]at ha;simp at ha
theorem EB {f:List AE} (hf:Ae f):∀(k:Nat) (o:List Int) (n:Int),La f o→0≤n→n<f.length→n∉o→La f (Eh f k o n)∧o <+: Eh f k o n
 | 0,o,n,h,_,_,_=>⟨h,AAH _⟩
 | k+1,o,n,h,h0,h1,d=>by
  obtain⟨b,c⟩:=E1 (EB hf k) _ _ (fun a ha=>B9 hf ha) (h.snoc h0 h1 d);rw[DB];exact⟨b,(ACz o [n]).trans c⟩
theorem Ix {f:List AE} (hf:Ae f):∀(k:Nat) (o:List Int) (n:Int),La f o→0≤n→n<f.length→n∉o→f.length-o.length≤k →
  n∈Eh f k o n∧∀x∈Eh f k o n,x∈o∨∀a∈(f.getD x.toNat (0,[])).2,a.2∈Eh f k o n
 | 0,o,n,h,h0,h1,m,hk=>by
  have:=(h.snoc h0 h1 m).len;simp only[Do,aS]at this;omega
 | k+1,o,n,h,h0,h1,m,hk=>by
  have key:∀(l:List (Int×Int)) (t:List Int),(∀a∈l,0≤a.2∧a.2<(f.length:Int))→La f t→f.length-t.length≤k →
    (∀a∈l,a.2∈l.foldl (Ac f k) t)∧∀x∈l.foldl (Ac f k) t,x∈t∨∀a∈(f.getD x.toNat (0,[])).2,a.2∈l.foldl (Ac f k) t:=by
   intro l;induction l with
   | nil=>exact fun t _ _ _=>⟨fun a ha=>(by cases ha),fun x c=>.inl c⟩
   | cons a l z =>
    intro t p r u;simp only[O5];have v:La f (Ac f k t a)∧t <+: Ac f k t a∧a.2∈Ac f k t a∧∀x∈Ac f k t a,x∈t∨∀b∈(f.getD x.toNat (0,[])).2,b.2∈Ac f k t a:=by
     unfold Ac;split
     ·rename_i hn;exact⟨r,AAH _,hn,fun x c=>.inl c⟩
     ·rename_i hn;have q:=p a (by simp);obtain⟨e,g⟩:=EB hf k t a.2 r q.1 q.2 hn;obtain⟨i,j⟩:=Ix hf k t a.2 r q.1 q.2 hn u;exact⟨e,g,i,j⟩
    obtain⟨e,g,i,j⟩:=v;have A:=g.length_le;obtain⟨w,y⟩:=z (Ac f k t a) (fun b d=>p b (by simp[d])) e (by omega);obtain⟨_,s⟩:=E1 (EB hf k) l (Ac f k t a) (fun b d=>p b (by simp[d])) e;refine⟨fun b d=>?_,fun x c=>?_⟩
    ·rcases By.1 d with rfl|d
     ·exact s.subset i
     ·exact w b d
    ·rcases y x c with c|c
     ·rcases j x c with c|c
      ·exact .inl c
      ·exact .inr fun b d=>s.subset (c b d)
     ·exact .inr c
  have hs:=h.snoc h0 h1 m;obtain⟨e,g⟩:=key (f.getD n.toNat (0,[])).2 (o++[n]) (fun a ha=>B9 hf ha) hs (by simp only[Do,aS];omega);obtain⟨_,i⟩:=E1 (EB hf k) (f.getD n.toNat (0,[])).2 (o++[n]) (fun a ha=>B9 hf ha) hs;rw[DB];refine⟨i.subset (by simp),fun x c=>?_⟩;rcases g x c with c|c
  ·rcases Of.1 c with c|c
   ·exact .inl c
   ·have:x=n:=by simpa using c
    subst this;exact .inr e
  ·exact .inr c
def CL (o:List Int) (x:Int):Int:=if x∈o then (o.idxOf x:Int) else 0
def Oo (o:List Int) (a:Int×Int):Int×Int:=(a.1,CL o a.2)
def E2 (f:List AE) (o:List Int) (n:Int):AE:=((f.getD n.toNat (0,[])).1,(f.getD n.toNat (0,[])).2.map (Oo o))
def AQ (f:List AE) (root:Int):List AE:=(Eh f f.length [] root).map (E2 f (Eh f f.length [] root))
def Oq (f:List AE):Prop:=∀x∈f,n7 x.2∧x.2.length≤200
theorem n8 {f:List AE} (hf:Oq f) (n:Int):n7 (f.getD n.toNat (0,[])).2∧(f.getD n.toNat (0,[])).2.length≤200:=by
 by_cases h:n.toNat<f.length
 ·have a:f.getD n.toNat (0,[])∈f:=by
   rw[AS,AT h];exact AAs h
  exact hf _ a
 ·rw[AS,dO (by omega)];exact⟨fun i hi=>by simp at hi,by simp⟩
theorem Jg {l:List (Int×Int)} (h:n7 l):AU l=l:=by
 have key:∀i,i≤l.length→AU (l.take i)=l.take i:=by
  intro i;induction i with
  | zero=>intro _;rfl
  | succ i d =>
   intro hi;rw[AX l (0,0) (by omega),H0,d (by omega)];have b:(l.take i).length=i:=by rw[OS];omega
   have c:Iu (l.getD i (0,0)) (l.take i) (l.take i).length=(l.take i).length:=by
    rw[b];cases i with
    | zero=>rfl
    | succ i =>
     have h1:=h i (by omega);have a:(l.take (i+1)).getD i (0,0)=l.getD i (0,0):=by
      simp only[AS];rw[AAe];simp
     simp only[Iu];rw[a,At (by omega)]
   unfold Om;rw[c,iS,ABN,AAh]
 have:=key l.length (Is _)
 rwa [iS]at this
structure Lz (f:List AE) (num o:List Int):Prop where
 len:num.length=f.length
 get:∀j,j<f.length→num.getD j 0=if (j:Int)∈o then (o.idxOf (j:Int):Int) else -1
theorem Lz.neg {f:List AE} {num o:List Int} (h:Lz f num o) {n:Int} (h0:0≤n) (h1:n<f.length):num.getD n.toNat 0<0↔n∉o:=by
 have:=h.get n.toNat (by omega);rw[show ((n.toNat:Nat):Int)=n by omega]at this;rw[this];split
 ·rename_i a;constructor
  ·intro e;omega
  ·intro e;exact absurd a e
 ·rename_i a;exact⟨fun _=>a,fun _=>by omega⟩
theorem X2 {o:List Int} {x n:Int} (h:x∈o):(o++[n]).idxOf x=o.idxOf x:=by rw[ACc,BY h]
theorem X3 {o:List Int} {n:Int} (h:n∉o):(o++[n]).idxOf n=o.length:=by rw[ACc,At h];simp
theorem Lz.snoc {f:List AE} {num o:List Int} (h:Lz f num o) {n:Int} (h0:0≤n) (h1:n<f.length) (hn:n∉o):Lz f (num.set n.toNat (o.length:Int)) (o++[n]):=by
 refine⟨by simpa using h.len,fun j b=>?_⟩;have d:j<num.length:=by rw[h.len];exact b
 by_cases e:j=n.toNat
 ·subst e;have en:((n.toNat:Nat):Int)=n:=by omega
  rw[en];simp only[AS];rw[AC9 d,BY (by simp),X3 hn];simp
 ·have en:¬(j:Int)=n:=by omega
  simp only[AS];rw[List.getElem?_set_ne (fun c=>e c.symm)];have:=h.get j b;simp only[AS]at this;rw[this];by_cases a:(j:Int)∈o
  ·rw[BY a,BY (by simp[a]),X2 a]
  ·rw[At a,At (by simp[a,en])]
theorem VR {f:List AE} (hf:Ae f) (hs:Oq f):∀(k:Nat) (s:List Int×List Int) (n:Int),Lz f s.1 s.2→La f s.2→0≤n→n<f.length→n∉s.2→(Di f k s n).2=Eh f k s.2 n∧Lz f (Di f k s n).1 (Di f k s n).2
 | 0,s,n,h,_,_,_,_=>⟨rfl,h⟩
 | k+1,s,n,h,w,h0,h1,m=>by
  have key:∀(l:List (Int×Int)) (t:List Int×List Int),(∀a∈l,0≤a.2∧a.2<(f.length:Int))→Lz f t.1 t.2→La f t.2→(l.foldl (EP f k) t).2=l.foldl (Ac f k) t.2∧Lz f (l.foldl (EP f k) t).1 (l.foldl (EP f k) t).2:=by
   intro l;induction l with
   | nil=>exact fun t _ d _=>⟨rfl,d⟩
   | cons a l z =>
    intro t o d j;simp only[O5];have q:=o a (by simp);have p:=d.neg q.1 q.2;have x:(EP f k t a).2=Ac f k t.2 a∧Lz f (EP f k t a).1 (EP f k t a).2∧La f (EP f k t a).2:=by
     unfold EP Ac;by_cases c:a.2∈t.2
     ·rw[BY c,At (by rw[p];exact fun e=>e c)];exact⟨rfl,d,j⟩
     ·rw[At c,BY (by rw[p];exact c)];obtain⟨g,i⟩:=VR hf hs k t a.2 d j q.1 q.2 c;exact⟨g,i,by rw[g];exact(EB hf k t.2 a.2 j q.1 q.2 c).1⟩
    obtain⟨g,i,u⟩:=x;obtain⟨r,y⟩:=z (EP f k t a) (fun b v=>o b (by simp[v])) i u;rw[g]at r;exact⟨r,y⟩
  rw[Dw,DB,Jg (n8 hs n).1];exact key _ (s.1.set n.toNat (s.2.length:Int),s.2++[n]) (fun a ha=>B9 hf ha) (h.snoc h0 h1 m) (w.snoc h0 h1 m)
theorem Iy {f:List AE} (hf:Ae f) (hs:Oq f) {root:Int} (h0:0≤root) (h1:root<f.length):Fx f root=AQ f root:=by
 have l:Lz f (List.replicate f.length (-1)) []:=⟨by simp,fun j k=>by simp[AS,AAY,k]⟩;have d:La f []:=⟨by simp,fun x e=>by cases e⟩;obtain⟨c,b⟩:=VR hf hs f.length (List.replicate f.length (-1),[]) root l d h0 h1 (by simp);have c:(GD f root).2=Eh f f.length [] root:=c;have b:Lz f (GD f root).1 (GD f root).2:=b;have i:=(Ix hf f.length [] root d h0 h1 (by simp) (by simp)).2;have m:=(EB hf f.length [] root d h0 h1 (by simp)).1;unfold Fx AQ;rw[c]at b ⊢;generalize Eh f f.length [] root=o at *;refine tO fun x e=>?_;unfold Lx E2;rw[Jg (n8 hs x).1];refine AB6 _ (tO fun a ha=>?_);unfold Wl Oo CL;have h:a.2∈o:=by
  rcases i x e with g|g
  ·cases g
  ·exact g a ha
 have n:=B9 hf ha;have:=b.get a.2.toNat (by omega);rw[show ((a.2.toNat:Nat):Int)=a.2 by omega]at this;rw[this,BY h,BY h]
def x8 (o:List Int):List (Int×Int):=(List.range o.length).map fun i=>(o.getD i 0,(i:Int))
theorem iZ (o:List Int) (n:Int):x8 (o++[n])=x8 o++[(n,(o.length:Int))]:=by
 unfold x8;rw[Do,aS,AAd,AAl]
 congr 1
 ·refine tO fun i hi=>?_;have:i<o.length:=oN.1 hi;simp only[AS];rw[AA5 this]
 ·simp[AS]
theorem vX (k:Int) (a b:List (Int×Int)):A8 T3 T3 k (a++b)=(A8 T3 T3 k a).or (A8 T3 T3 k b):=by
 induction a with
 | nil=>rfl
 | cons x a c =>
  simp only[ABz,A8];split
  ·rfl
  ·exact c
theorem Gw {α:Type} {p:List α→Prop} (h0:p []) (h1:∀l a,p l→p (l++[a])) (l:List α):p l:=by
 have:∀n (l:List α),l.length=n→p l:=by
  intro n;induction n with
  | zero=>intro l b;rw[List.length_eq_zero_iff.1 b];exact h0
  | succ n d =>
   intro l b;have c:l≠[]:=by intro e;subst e;simp at b
   rw[←List.dropLast_concat_getLast c];exact h1 _ _ (d _ (by simp[b]))
 exact this _ l rfl
theorem RZ (o:List Int) (x:Int):A8 T3 T3 x (x8 o)=if x∈o then some (o.idxOf x:Int) else none:=by
 induction o using Gw with
 | h0=>rfl
 | h1 o n b =>
  rw[iZ,vX,b];by_cases a:x∈o
  ·rw[BY a,BY (by simp[a]),X2 a];rfl
  ·rw[At a];by_cases hn:x=n
   ·subst hn;rw[BY (by simp),X3 a];simp[A8,Jk]
   ·rw[At (by simp[a,hn])];have:((x==n)=true)↔False:=by simp[hn]
    simp[A8,Jk,hn]
theorem vY (k v:Int) (l:List (Int×Int)) (h:A8 T3 T3 k l=none):IC T3 T3 k v l=l++[(k,v)]:=by
 induction l with
 | nil=>rfl
 | cons x l b =>
  simp only[A8]at h;simp only[IC,ABz];split at h
  ·cases h
  ·rename_i a;rw[At a,b h]
theorem A2a {o:List Int} {n:Int} (hn:n∉o):IC T3 T3 n (o.length:Int) (x8 o)=x8 (o++[n]):=by
 rw[vY _ _ _ (by rw[RZ,At hn]),iZ]
theorem A4T (o:List Int) (x:Int):(A8 T3 T3 x (x8 o)).getD 0=CL o x:=by
 rw[RZ];unfold CL;split<;>rfl
theorem VS (o:List Int) (x:Int):(A8 T3 T3 x (x8 o)).isSome=decide (x∈o):=by
 rw[RZ];split<;>simp[*]
section
variable {α:Type}
structure SO (o:α→α→Int):Prop where
 anti:∀a b,o b a=- o a b
 trans:∀ {a b c},o a b<0→o b c<0→o a c<0
variable {o:α→α→Int} {d:α}
def CX (d:α) (l:List α) (i j:Nat):List α:=(l.set i (l.getD j d)).set j (l.getD i d)
theorem Iz {l:List α} {i j:Nat} (hi:i<l.length) (c:j<l.length) (k:Nat):(CX d l i j).getD k d=if k=j then l.getD i d else if k=i then l.getD j d else l.getD k d:=by
 unfold CX;simp only[AS,AAy,AAm];by_cases a:j=k
 ·rw[BY a,BY (by omega),BY a.symm];rfl
 ·rw[At a,At (show ¬k=j by omega)];by_cases b:i=k
  ·rw[BY b,BY (by omega),BY b.symm];rfl
  ·rw[At b,At (show ¬k=i by omega)]
theorem vZ {l:List α} {i j:Nat} (hi:i<l.length) (a:j<l.length):(CX d l i j).Perm l:=by
 have b:l.getD i d=l[i]:=by rw[AS,AT hi];rfl
 have c:l.getD j d=l[j]:=by rw[AS,AT a];rfl
 unfold CX;rw[b,c];exact List.set_set_perm hi a
structure ED (d:α) (a b:Nat) (l r:List α):Prop where
 perm:r.Perm l
 out:∀k,k<a∨b≤k→r.getD k d=l.getD k d
 inn:∀i,a≤i→i<b→∃j,a≤j∧j<b∧r.getD i d=l.getD j d
theorem ED.len {a b:Nat} {l r:List α} (h:ED d a b l r):r.length=l.length:=h.perm.length_eq
theorem ED.refl (a b:Nat) (l:List α):ED d a b l l:=⟨List.Perm.refl _,fun _ _=>rfl,fun i h1 c=>⟨i,h1,c,rfl⟩⟩
theorem ED.trans {a b:Nat} {l r s:List α} (h:ED d a b l r) (c:ED d a b r s):ED d a b l s:=⟨c.perm.trans h.perm,fun k hk=>(c.out k hk).trans (h.out k hk),fun i h1 g=>by
 obtain⟨j,m,n,e⟩:=c.inn i h1 g;obtain⟨k,o,p,f⟩:=h.inn j m n;exact⟨k,o,p,e.trans f⟩⟩
theorem ED.mono {a b c b':Nat} {l r:List α} (h:ED d a b l r) (ha:c≤a) (g:b≤b'):ED d c b' l r:=⟨h.perm,fun k hk=>h.out k (by omega),fun i h1 f=>by
 by_cases hi:a≤i∧i<b
 ·obtain⟨j,m,n,e⟩:=h.inn i hi.1 hi.2;exact⟨j,by omega,by omega,e⟩
 ·exact⟨i,h1,f,h.out i (by omega)⟩⟩
theorem ED.swap {a b:Nat} (l:List α) {i j:Nat} (g:a≤i) (h:i<b) (m:a≤j) (n:j<b) (q:b≤l.length):ED d a b l (CX d l i j):=by
 have f:=Iz (d:=d) (l:=l) (i:=i) (j:=j) (by omega) (by omega);refine⟨vZ (by omega) (by omega),fun k hk=>?_,fun k o p=>?_⟩
 ·rw[f k,At (by omega),At (by omega)]
 ·rw[f k];by_cases c:k=j
  ·rw[BY c];exact⟨i,g,h,rfl⟩
  ·rw[At c];by_cases e:k=i
   ·rw[BY e];exact⟨j,m,n,rfl⟩
   ·rw[At e];exact⟨k,o,p,rfl⟩
def lE (o:α→α→Int) (d:α) (l:List α):Prop:=∀i j,i<l.length→j<l.length→i≠j→o (l.getD i d) (l.getD j d)≠0
theorem sD (g:SO o) (l:List α):lE o d l↔l.Pairwise fun a b=>o a b≠0:=by
 have e:∀i (h:i<l.length),l.getD i d=l[i]:=fun i h=>by rw[AS,AT h];rfl
 rw[oR];constructor
 ·intro h i j hi c f;have:=h i j hi c (by omega)
  rwa [e i hi,e j c]at this
 ·intro h i j hi c f;rw[e i hi,e j c];rcases Nat.lt_or_gt_of_ne f with h1|h1
  ·exact h i j hi c h1
  ·have k:=h j i c hi h1;rw[g.anti];omega
theorem lE.perm (c:SO o) {l r:List α} (h:lE o d l) (hp:r.Perm l):lE o d r:=by
 rw[sD c]at h ⊢;refine(hp.symm.pairwise_iff ?_).1 h;intro a b e;rw[c.anti];omega
theorem lE.lt (c:SO o) {l:List α} (h:lE o d l) {i j:Nat} (hi:i<l.length) (b:j<l.length) (a:i≠j) (hn:¬o (l.getD i d) (l.getD j d)<0):o (l.getD j d) (l.getD i d)<0:=by
 have h1:=h i j hi b a;rw[c.anti];omega
def Ra (o:α→α→Int) (d:α) (a b:Nat) (l:List α):Prop:=∀i j,a≤i→i<j→j<b→o (l.getD i d) (l.getD j d)<0
theorem Ze (a:Nat) (l:List α):Ra o d a (a+1) l:=fun i j h1 b c=>by omega
theorem A2b (g:SO o) {a b:Nat} {l:List α} (h:Ra o d a b l) (m:a<b) (c:o (l.getD (b-1) d) (l.getD b d)<0):Ra o d a (b+1) l:=by
 intro i j h1 e k;by_cases f:j=b
 ·subst f;by_cases hi:i=j-1
  ·rw[hi];exact c
  ·exact g.trans (h i (j-1) h1 (by omega) (by omega)) c
 ·exact h i j h1 e (by omega)
theorem NM {a b:Nat} {l r:List α} (h:Ra o d a b l) (e:∀k,a≤k→k<b→r.getD k d=l.getD k d):Ra o d a b r:=fun i j h1 f c=>by
 rw[e i h1 (by omega),e j (by omega) c];exact h i j h1 f c
def n9 (o:α→α→Int) (d:α) (a i j:Nat) (m:List α):Prop:=(∀x y,a≤x→x<y→y≤i→x≠j→y≠j→o (m.getD x d) (m.getD y d)<0)∧∀y,j<y→y≤i→o (m.getD j d) (m.getD y d)<0
theorem oA {a i:Nat} {m:List α} (h:Ra o d a i m):n9 o d a i i m:=⟨fun x y h0 h1 b c e=>h x y h0 h1 (by omega),fun y h1 b=>by omega⟩
theorem VT (g:SO o) {a i j:Nat} {m:List α} (h:n9 o d a i j m) (l:a≤j) (n:j≤i) (b:j=a∨o (m.getD (j-1) d) (m.getD j d)<0):Ra o d a (i+1) m:=by
 intro x y h0 h1 k;by_cases c:x=j
 ·subst c;exact h.2 y h1 (by omega)
 ·by_cases e:y=j
  ·subst e;rcases b with b|b
   ·omega
   ·by_cases f:x=y-1
    ·subst f;exact b
    ·exact g.trans (h.1 x (y-1) h0 (by omega) (by omega) c (by omega)) b
  ·exact h.1 x y h0 h1 (by omega) c e
theorem X4 {a i j:Nat} {m:List α} (h:n9 o d a i j m) (h0:a<j) (q:j≤i) (hi:i<m.length) (p:o (m.getD j d) (m.getD (j-1) d)<0):n9 o d a i (j-1) (CX d m j (j-1)):=by
 have f:=Iz (d:=d) (l:=m) (i:=j) (j:=j-1) (by omega) (by omega);refine⟨fun x y g h1 e k n=>?_,fun y h1 e=>?_⟩
 ·rw[f x,f y,At k,At n];by_cases c:x=j
  ·subst c;rw[BY rfl,At (by omega)];exact h.1 (x-1) y (by omega) (by omega) e (by omega) (by omega)
  ·rw[At c];by_cases b:y=j
   ·rw[BY b];exact h.1 x (j-1) g (by omega) (by omega) c (by omega)
   ·rw[At b];exact h.1 x y g h1 e c b
 ·rw[f (j-1),f y,BY rfl,At (by omega)];by_cases b:y=j
  ·rw[BY b];exact p
  ·rw[At b];exact h.2 y (by omega) e
def Hp (o:α→α→Int) (d:α) (f hi lo:Nat) (m:List α):Prop:=∀k c,lo≤k→(c=2*k+1∨c=2*k+2)→c<hi→o (m.getD (f+c) d) (m.getD (f+k) d)<0
structure HpX (o:α→α→Int) (d:α) (f hi lo root:Nat) (m:List α):Prop where
 le:lo≤root
 hp:∀k c,lo≤k→k≠root→(c=2*k+1∨c=2*k+2)→c<hi→o (m.getD (f+c) d) (m.getD (f+k) d)<0
 up:∀p c,lo≤p→(root=2*p+1∨root=2*p+2)→(c=2*root+1∨c=2*root+2)→c<hi→o (m.getD (f+c) d) (m.getD (f+p) d)<0
theorem v4 {f hi lo:Nat} {m:List α} (h:Hp o d f hi (lo+1) m):HpX o d f hi lo lo m:=⟨Is _,fun k c h1 a b e=>h k c (by omega) b e,fun p c h1 a=>by omega⟩
theorem A2c {f hi lo root:Nat} {m:List α} (h:HpX o d f hi lo root m) (e:hi≤2*root+1):Hp o d f hi lo m:=fun k c h1 a b=>h.hp k c h1 (by omega) a b
theorem i3 (i:SO o) {f hi lo root ch:Nat} {m:List α} (h:HpX o d f hi lo root m) (j:ch=2*root+1∨ch=2*root+2) (g:o (m.getD (f+ch) d) (m.getD (f+root) d)<0)
  (hs:∀c,(c=2*root+1∨c=2*root+2)→c<hi→c≠ch→o (m.getD (f+c) d) (m.getD (f+ch) d)<0):Hp o d f hi lo m:=fun k c h1 a b=>by
 by_cases hk:k=root
 ·subst hk;by_cases e:c=ch
  ·rw[e];exact g
  ·exact i.trans (hs c a b e) g
 ·exact h.hp k c h1 hk a b
theorem i4 {f hi lo root ch:Nat} {m:List α} (h:HpX o d f hi lo root m) (r:ch<hi) (hf:f+hi≤m.length) (n:ch=2*root+1∨ch=2*root+2) (t:o (m.getD (f+root) d) (m.getD (f+ch) d)<0)
  (hs:∀c,(c=2*root+1∨c=2*root+2)→c<hi→c≠ch→o (m.getD (f+c) d) (m.getD (f+ch) d)<0):HpX o d f hi lo ch (CX d m (f+root) (f+ch)):=by
 have e:=Iz (d:=d) (l:=m) (i:=f+root) (j:=f+ch) (by omega) (by omega);have u:=h.le;refine⟨by omega,fun k c h1 g a b=>?_,fun p c h1 g a b=>?_⟩
 ·rw[e,e];by_cases hk:k=root
  ·subst hk;rw[At (show ¬f+k=f+ch by omega),BY rfl];by_cases q:c=ch
   ·rw[BY (by omega)];exact t
   ·rw[At (by omega),At (by omega)];exact hs c a b q
  ·rw[At (show ¬f+k=f+ch by omega),At (show ¬f+k=f+root by omega)];by_cases s:c=root
   ·subst s;rw[At (by omega),BY rfl];exact h.up k ch h1 a n r
   ·rw[At (by omega),At (by omega)];exact h.hp k c h1 hk a b
 ·have hp:p=root:=by omega
  subst hp;rw[e,e,At (by omega),At (by omega),At (by omega),BY rfl];exact h.hp ch c (by omega) (by omega) a b
theorem i5 (b:SO o) {f hi:Nat} {m:List α} (h:Hp o d f hi 0 m):∀(n k:Nat),k≤n→0<k→k<hi→o (m.getD (f+k) d) (m.getD f d)<0
 | 0,k,h1,c,_=>by omega
 | n+1,k,h1,c,e=>by
  have a:=h ((k-1) / 2) k (by omega) (by omega) e;by_cases g:(k-1) / 2=0
  ·rw[g]at a;exact a
  ·exact b.trans a (i5 b h n ((k-1) / 2) (by omega) (by omega) (by omega))
structure v5 (o:α→α→Int) (d:α) (f n i:Nat) (m:List α):Prop where
 heap:Hp o d f i 0 m
 srt:Ra o d (f+i) (f+n) m
 big:∀x y,x<i→i≤y→y<n→o (m.getD (f+x) d) (m.getD (f+y) d)<0
theorem oB {f n:Nat} {m:List α} (h:Hp o d f n 0 m):v5 o d f n n m:=⟨h,fun i j h1 a b=>by omega,fun x y h1 a b=>by omega⟩
theorem v6 (t:SO o) {f n i:Nat} {m:List α} (h:v5 o d f n (i+1) m) (hi:i<n) (v:f+n≤m.length) :
  HpX o d f i 0 0 (CX d m f (f+i))∧Ra o d (f+i) (f+n) (CX d m f (f+i))∧∀x y,x<i→i≤y→y<n→o ((CX d m f (f+i)).getD (f+x) d) ((CX d m f (f+i)).getD (f+y) d)<0:=by
 have a:=Iz (d:=d) (l:=m) (i:=f) (j:=f+i) (by omega) (by omega);have q:=i5 t h.heap i;refine⟨⟨Is _,fun k c h1 e b u=>?_,fun p c h1 e=>by omega⟩,fun x y h1 e b=>?_,fun x y h1 e b=>?_⟩
 ·rw[a,a,At (by omega),At (by omega),At (by omega),At (by omega)];exact h.heap k c h1 b (by omega)
 ·rw[a,a,At (show ¬y=f+i by omega),At (show ¬y=f by omega)];by_cases g:x=f+i
  ·rw[BY g];have:=h.big 0 (y-f) (by omega) (by omega) (by omega)
   rwa [show f+0=f by omega,show f+(y-f)=y by omega]at this
  ·rw[At g,At (by omega)];exact h.srt x y (by omega) e b
 ·have key:∀z,z<i+1→i+1≤y→o (m.getD (f+z) d) (m.getD (f+y) d)<0:=fun z s r=>h.big z y s r b;rw[a,a,At (show ¬f+x=f+i by omega)];by_cases r:y=i
  ·rw[BY (show f+y=f+i by omega)];by_cases g:x=0
   ·rw[BY (show f+x=f by omega)];exact q i (by omega) (by omega) (by omega)
   ·rw[At (show ¬f+x=f by omega)];exact q x (by omega) (by omega) (by omega)
  ·rw[At (show ¬f+y=f+i by omega),At (show ¬f+y=f by omega)];by_cases g:x=0
   ·rw[BY (show f+x=f by omega)];exact key i (by omega) (by omega)
   ·rw[At (show ¬f+x=f by omega)];exact key x (by omega) (by omega)
theorem v7 {f n i:Nat} {m r:List α} (hp:ED d f (f+i) m r) (hh:Hp o d f i 0 r) (hs:Ra o d (f+i) (f+n) m) (c:∀x y,x<i→i≤y→y<n→o (m.getD (f+x) d) (m.getD (f+y) d)<0):v5 o d f n i r :=
 ⟨hh,NM hs fun k h1 a=>hp.out k (by omega),fun x y h1 a b=>by
  rw[hp.out (f+y) (by omega)];obtain⟨j,g,h,e⟩:=hp.inn (f+x) (by omega) (by omega);rw[e];have:=c (j-f) y (by omega) a b
  rwa [show f+(j-f)=j by omega]at this⟩
theorem A2d {f n:Nat} {m:List α} (h:v5 o d f n 0 m):Ra o d f (f+n) m:=h.srt
structure PtI (o:α→α→Int) (d:α) (a b i j:Nat) (m:List α):Prop where
 lo:∀x,a<x→x<i→o (m.getD x d) (m.getD a d)<0
 hi:∀x,j<x→x<b→o (m.getD a d) (m.getD x d)<0
theorem i6 {a b i j:Nat} {m:List α} (h:PtI o d a b i j m) (n:a<i) (q:i<j) (r:j<b) (p:b≤m.length) (h1:o (m.getD a d) (m.getD i d)<0) (k:o (m.getD j d) (m.getD a d)<0):PtI o d a b (i+1) (j-1) (CX d m i j):=by
 have c:=Iz (d:=d) (l:=m) (i:=i) (j:=j) (by omega) (by omega);refine⟨fun x f g=>?_,fun x f g=>?_⟩
 ·rw[c x,c a,At (show ¬x=j by omega),At (show ¬a=j by omega),At (show ¬a=i by omega)];by_cases e:x=i
  ·rw[BY e];exact k
  ·rw[At e];exact h.lo x f (by omega)
 ·rw[c x,c a,At (show ¬a=j by omega),At (show ¬a=i by omega)];by_cases e:x=j
  ·rw[BY e];exact h1
  ·rw[At e,At (by omega)];exact h.hi x (by omega) g
structure x9 (o:α→α→Int) (d:α) (a b p:Nat) (m:List α):Prop where
 l:a≤p
 r:p<b
 lo:∀x,a≤x→x<p→o (m.getD x d) (m.getD p d)<0
 hi:∀x,p<x→x<b→o (m.getD p d) (m.getD x d)<0
theorem sE {a b j:Nat} {m:List α} (h:PtI o d a b (j+1) j m) (g:a≤j) (k:j<b) (p:b≤m.length):x9 o d a b j (CX d m j a):=by
 have c:=Iz (d:=d) (l:=m) (i:=j) (j:=a) (by omega) (by omega);refine⟨g,k,fun x n f=>?_,fun x n f=>?_⟩
 ·rw[c x,c j,At (show ¬j=a by omega),BY rfl];by_cases e:x=a
  ·rw[BY e];exact h.lo j (by omega) (by omega)
  ·rw[At e,At (by omega)];exact h.lo x (by omega) (by omega)
 ·rw[c x,c j,At (show ¬x=a by omega),At (show ¬x=j by omega)];by_cases e:j=a
  ·rw[BY e];rw[e];exact h.hi x (by omega) f
  ·rw[At e,BY rfl];exact h.hi x (by omega) f
structure v8 (o:α→α→Int) (d:α) (a0 b0 a b:Nat) (m:List α):Prop where
 s1:Ra o d a0 a m
 s2:Ra o d b b0 m
 c1:∀x y,a0≤x→x<a→a≤y→y<b0→o (m.getD x d) (m.getD y d)<0
 c2:∀x y,a0≤x→x<b→b≤y→y<b0→o (m.getD x d) (m.getD y d)<0
 ab:a0≤a∧a≤b∧b≤b0
theorem v9 {a b:Nat} (g:a≤b) (m:List α):v8 o d a b a b m:=⟨fun i j h1 c e=>by omega,fun i j h1 c e=>by omega,fun x y h1 c=>by omega,fun x y h1 c e f=>by omega,by omega⟩
theorem v8.pin {a0 l a b:Nat} {m r:List α} (h:v8 o d a0 l a b m) (hp:ED d a b m r):v8 o d a0 l a b r:=by
 obtain⟨v,A,w⟩:=h.ab;have key:∀(P:α→Prop) (lo hi:Nat),lo≤a→b≤hi→(∀y,lo≤y→y<hi→P (m.getD y d))→∀y,lo≤y→y<hi→P (r.getD y d):=fun P lo hi h1 n p y c f=>by
  obtain⟨j,q,s,e⟩:=(hp.mono h1 n).inn y c f;rw[e];exact p j q s
 refine⟨NM h.s1 fun k t u=>hp.out k (by omega),NM h.s2 fun k t u=>hp.out k (by omega),fun x y g i c f=>?_,fun x y g i c f=>?_,h.ab⟩
 ·rw[hp.out x (by omega)];exact key (fun z=>o (m.getD x d) z<0) a l (Is _) w (fun y c f=>h.c1 x y g i c f) y c f
 ·rw[hp.out y (by omega)];exact key (fun z=>o z (m.getD y d)<0) a0 b v (Is _) (fun x g i=>h.c2 x y g i c f) x g i
theorem v8.done {a0 g a b:Nat} {m:List α} (h:v8 o d a0 g a b m) (hs:Ra o d a b m):Ra o d a0 g m:=by
 obtain⟨l,n,p⟩:=h.ab;intro i j h1 c e;by_cases hi:i<a
 ·by_cases f:j<a
  ·exact h.s1 i j h1 c f
  ·exact h.c1 i j h1 hi (by omega) e
 ·by_cases f:j<b
  ·exact hs i j (by omega) c f
  ·by_cases k:i<b
   ·exact h.c2 i j h1 k (by omega) e
   ·exact h.s2 i j (by omega) c e
theorem v8.left (t:SO o) {a0 e a b p:Nat} {m:List α} (h:v8 o d a0 e a b m) (hp:x9 o d a b p m) (hs:Ra o d a p m):v8 o d a0 e (p+1) b m:=by
 obtain⟨z,A,B⟩:=h.ab;have v:=hp.l;have w:=hp.r;refine⟨fun i j h1 f u=>?_,h.s2,fun x y k C D n=>?_,h.c2,by omega⟩
 ·by_cases hi:i<a
  ·by_cases c:j<a
   ·exact h.s1 i j h1 f c
   ·exact h.c1 i j h1 hi (by omega) (by omega)
  ·by_cases c:j=p
   ·rw[c];exact hp.lo i (by omega) (by omega)
   ·exact hs i j (by omega) f (by omega)
 ·by_cases q:x<a
  ·exact h.c1 x y k q (by omega) n
  ·by_cases g:y<b
   ·by_cases s:x=p
    ·rw[s];exact hp.hi y (by omega) g
    ·exact t.trans (hp.lo x (by omega) (by omega)) (hp.hi y (by omega) g)
   ·exact h.c2 x y k (by omega) (by omega) n
theorem v8.right (w:SO o) {a0 g a b p:Nat} {m:List α} (h:v8 o d a0 g a b m) (hp:x9 o d a b p m) (hs:Ra o d (p+1) b m):v8 o d a0 g a p m:=by
 obtain⟨B,C,D⟩:=h.ab;have z:=hp.l;have A:=hp.r;refine⟨h.s1,fun i j h1 k n=>?_,fun x y c e s f=>h.c1 x y c e s f,fun x y c e s f=>?_,by omega⟩
 ·by_cases q:j<b
  ·by_cases hi:i=p
   ·rw[hi];exact hp.hi j (by omega) q
   ·exact hs i j (by omega) k q
  ·by_cases t:i<b
   ·exact h.c2 i j (by omega) t (by omega) n
   ·exact h.s2 i j (by omega) k n
 ·by_cases v:y<b
  ·by_cases u:x<a
   ·exact h.c1 x y c u (by omega) f
   ·by_cases hyp:y=p
    ·rw[hyp];exact hp.lo x (by omega) e
    ·exact w.trans (hp.lo x (by omega) e) (hp.hi y (by omega) v)
  ·exact h.c2 x y c (by omega) (by omega) f
theorem x9.pinL {a b p:Nat} {m r:List α} (h:x9 o d a b p m) (hp:ED d a p m r):x9 o d a b p r:=by
 have g:=h.l;have i:=h.r;refine⟨g,i,fun x c f=>?_,fun x c f=>?_⟩
 ·rw[hp.out p (by omega)];obtain⟨j,k,n,e⟩:=hp.inn x c f;rw[e];exact h.lo j k n
 ·rw[hp.out p (by omega),hp.out x (by omega)];exact h.hi x c f
theorem x9.pinR {a b p:Nat} {m r:List α} (h:x9 o d a b p m) (hp:ED d (p+1) b m r):x9 o d a b p r:=by
 have g:=h.l;have i:=h.r;refine⟨g,i,fun x f c=>?_,fun x f c=>?_⟩
 ·rw[hp.out p (by omega),hp.out x (by omega)];exact h.lo x f c
 ·rw[hp.out p (by omega)];obtain⟨j,n,k,e⟩:=hp.inn x (by omega) c;rw[e];exact h.hi j (by omega) k
def Bf (o:α→α→Int) (d:α) (a b:Nat) (m:List α):Prop:=a=0∨∀y,a≤y→y<b→o (m.getD (a-1) d) (m.getD y d)<0
theorem Bf.pin {a b:Nat} {m r:List α} (h:Bf o d a b m) (hp:ED d a b m r):Bf o d a b r:=by
 rcases h with h|h
 ·exact .inl h
 ·by_cases h0:a=0
  ·exact .inl h0
  ·right;intro y g i;rw[hp.out (a-1) (by omega)];obtain⟨j,c,f,e⟩:=hp.inn y g i;rw[e];exact h j c f
theorem Bf.sub {a b b':Nat} {m:List α} (h:Bf o d a b m) (e:b'≤b):Bf o d a b' m:=h.imp id fun h y c f=>h y c (by omega)
theorem x9.bf {a b p:Nat} {m:List α} (h:x9 o d a b p m):Bf o d (p+1) b m:=.inr fun y e c=>by
 rw[show p+1-1=p by omega];exact h.hi y (by omega) c
end
section
attribute [local go_sem] DA
def CF (a b:Int×Int):Int:=F2 a.1 b.1
theorem CP:SO CF:=⟨fun a b=>by unfold CF F2;(repeat' split)<;>omega,fun {a b c} h1 d=>by
 unfold CF F2 at *
 (repeat' split at h1)<;>(repeat' split at d)<;>(repeat' split)<;>omega⟩
theorem A4U (l:List (Int×Int)) (M:l.length≤100000) (w:lE CF (0,0) l) (a b:Nat) (H:a≤100000) (I:b≤l.length):BA Tryz.prog 166 [.sr 1000000 BE 0 l.length,.p T3 (a:Int),.p T3 (b:Int),.fn 116] [(1000000,.arr 53 BE l)] [1000000] (fun res F=>res=.raw (.tuple #[])∧∃r,F=[(1000000,.arr 53 BE r)]∧ED (0,0) a b l r∧Ra CF (0,0) a b r):=by
 refine J1 [0,1,2,3,8,9,14,34] [] [] Tryz.func166 Tryz.ntmps166 (AF FB AG) ?_;intro w0 K O0 ρ0 d O P;simp only[Ah];repeat'(first|exact trivial|refine eS rfl ?_|refine AB ?_|refine rX d ?_ ?_|refine rC ?_ ?_<;>intro e<;>try(cases e;done))
 ·omega
 ·refine AH (ι:={s:Nat×List (Int×Int)//a+1≤s.1∧(s.1=a+1∨s.1≤b)∧ED (0,0) a b l s.2∧Ra CF (0,0) a s.1 s.2}) (fun s=>⟨[(0,.sr 1000000 BE 0 l.length),(1,.p T3 (a:Int)),(2,.p T3 (b:Int)),(3,.fn 116),(8,.p (.int .i64) (s.1.1:Int))],[(1000000,.arr 53 BE s.1.2)]⟩) (fun s=>b-s.1.1) ⟨(a+1,l),Is _,.inl rfl,ED.refl a b l,Ze a l⟩ (AC [(1000000,.nm 1000000)] rfl rfl ?_ ?_) (fun s=>?_)
  ·first|exact eN|refine eM ?_
  ·first|exact eN|refine eM ?_
  ·obtain⟨⟨i,m⟩,B,C,hp,hs⟩:=s;simp only at B C hp hs ⊢;have N:=hp.len;repeat'(first|exact trivial|refine eS rfl ?_|refine AB ?_|refine rX d ?_ ?_|refine rC ?_ ?_<;>intro e<;>try(cases e;done))
   ·have D:i<b:=by exact eV
    refine AH (ι:={t:Nat×List (Int×Int)//a≤t.1∧t.1≤i∧ED (0,0) a b l t.2∧n9 CF (0,0) a i t.1 t.2}) (fun t=>⟨[(0,.sr 1000000 BE 0 l.length),(1,.p T3 (a:Int)),(2,.p T3 (b:Int)),(3,.fn 116),(8,.p (.int .i64) (i:Int)),(9,.p (.int .i64) (t.1.1:Int))],[(1000000,.arr 53 BE t.1.2)]⟩) (fun t=>t.1.1) ⟨(i,m),by omega,Is i,hp,oA hs⟩ (AC [(1000000,.nm 1000000)] rfl rfl ?_ ?_) (fun t=>?_)
    ·first|exact eN|refine eM ?_
    ·first|exact eN|refine eM ?_
    ·obtain⟨⟨j,c⟩,ha,q,g,o⟩:=t;simp only at ha q g o ⊢;have J:=g.len;have z:=w.perm CP g.perm;repeat'(first|exact trivial|refine eS rfl ?_|refine AB ?_|refine rX d ?_ ?_)
     ·dsimp only[Ty.den]at *;exact⟨fun _=>by omega,fun _=>⟨by omega,by omega⟩,fun _=>⟨by omega,by omega⟩⟩
     ·have n:a<j→((j:Int)-1).toNat=j-1:=fun _=>by omega
      refine Dq (by simp only[go_sem,Nat.reduceEqDiff,reduceCtorEq,Nat.reduceAdd,Nat.reduceSub,Nat.reduceMul,Nat.reduceLeDiff,Nat.reduceLT,Int.reduceLE,Int.reduceToNat,Int.reduceNeg,↓reduceIte];rfl) ?_ ?_
      ·intro f;simp only[As,IS]at f;have k:a<j:=by omega
       have u:CF (c.getD j (0,0)) (c.getD ((j:Int)-1).toNat (0,0))<0:=f.2;rw[n k]at u;have E:CX (0,0) c j (j-1)=(c.set j (c.getD (j-1) (0,0))).set (j-1) (c.getD j (0,0)):=rfl;repeat'(first|exact trivial|refine eS rfl ?_|refine AB ?_|refine rP d ?_ ?_|fail)
       (refine B3 drawsAny d 16 [([0,1,5,6,7,8,9,10,11,12,13,14],15)] [2,3,4] (by kernel_rfl) (Ls ?_ ?_);(next=>exact CY);refine Ns d [] ?_ ?_;(next=>exact CY);refine Pp d ?_ ?_ ?_;(next=>exact CY);(next=>exact CY))
       rw[n k];repeat'(first|exact trivial|refine eS rfl ?_|refine AB ?_|refine rX d ?_ ?_|refine rC ?_ ?_<;>intro e<;>try(cases e;done))
       ·dsimp only[Ty.den]at *;omega
       ·refine⟨⟨(j-1,CX (0,0) c j (j-1)),by simp only;omega,by simp only;omega,g.trans (ED.swap c (by omega) (by omega) (by omega) (by omega) (by omega)),X4 o k q (by omega) u⟩,by simp only;omega,AC [(1000000,.nm 1000000)] rfl rfl ?_ ?_⟩
        ·simp only;rw[E];first|exact eN|refine eM ?_
        ·simp only;rw[show ((j-1:Nat):Int)=(j:Int)-1 by omega];first|exact eN|refine eM ?_
      ·intro f;have A:j=a∨CF (c.getD (j-1) (0,0)) (c.getD j (0,0))<0:=by
        by_cases k:j=a
        ·exact .inl k
        ·right;simp only[AAP,On]at f;rw[n (by omega)]at f;rcases f with h|h
         ·omega
         ·exact z.lt CP (by omega) (by omega) (by omega) h
       repeat'(first|exact trivial|refine eS rfl ?_|refine AB ?_|refine rX d ?_ ?_|refine rC ?_ ?_<;>intro e<;>try(cases e;done))
       ·exact eV
       ·refine⟨⟨(i+1,c),by simp only;omega,.inr D,g,VT CP o ha q A⟩,by simp only;omega,AC [(1000000,.nm 1000000)] rfl rfl ?_ ?_⟩
        ·first|exact eN|refine eM ?_
        ·first|exact eN|refine eM ?_
   ·have L:b≤i:=by exact eV
    exact fM d [] (.raw (.tuple #[])) rfl ⟨rfl,m,rfl,hp,fun x y h1 v G=>hs x y h1 v (by omega)⟩
end
section
attribute [local go_sem] DA
theorem A4V (l:List (Int×Int)) (o:l.length≤100000) (a b:Nat) (h:a<b) (k:b≤l.length):BA Tryz.prog 170 [.sr 1000000 BE 0 l.length,.p T3 (a:Int),.p T3 (b:Int),.fn 116] [(1000000,.arr 53 BE l)] [1000000] (fun res g=>res=.raw (.tuple #[])∧∃r,g=[(1000000,.arr 53 BE r)]∧ED (0,0) a b l r):=by
 refine J1 [0,1,2,8,9,15] [] [] Tryz.func170 Tryz.ntmps170 AG ?_;intro w0 K O0 ρ0 c t u;simp only[Ah];repeat'(first|exact trivial|refine eS rfl ?_|refine AB ?_|refine rX c ?_ ?_|refine rC ?_ ?_<;>intro d<;>try(cases d;done))
 ·omega
 ·rw[show (b:Int)-1=((b-1:Nat):Int) by omega];refine AH (ι:={s:Nat×Nat×List (Int×Int)//a≤s.1∧s.2.1<b∧ED (0,0) a b l s.2.2}) (fun s=>⟨[(0,.sr 1000000 BE 0 l.length),(8,.p (.int .i64) (s.1.1:Int)),(9,.p (.int .i64) (s.1.2.1:Int))],[(1000000,.arr 53 BE s.1.2.2)]⟩) (fun s=>s.1.2.1-s.1.1) ⟨(a,b-1,l),Is _,by simp only;omega,ED.refl a b l⟩ (AC [(1000000,.nm 1000000)] rfl rfl ?_ ?_) (fun s=>?_)
  ·first|exact eN|refine eM ?_
  ·first|exact eN|refine eM ?_
  ·obtain⟨⟨i,j,m⟩,hi,e,hp⟩:=s;simp only at hi e hp ⊢;have q:=hp.len;repeat'(first|exact trivial|refine eS rfl ?_|refine AB ?_|refine rX c ?_ ?_)
   refine rC (fun d=>?_) (fun d=>?_)
   ·repeat'(first|exact trivial|refine eS rfl ?_|refine AB ?_|refine rP c ?_ ?_|fail)
    have n:i<j:=by omega
    have f:CX (0,0) m i j=(m.set i (m.getD j (0,0))).set j (m.getD i (0,0)):=rfl
    (refine B3 drawsAny c 14 [([0,1,4,5,6,7,8,9,10,11,12],13)] [2,3] (by kernel_rfl) (Ls ?_ ?_);(next=>exact CY);refine Ns c [] ?_ ?_;(next=>exact CY);refine Pp c ?_ ?_ ?_;(next=>exact CY);(next=>exact CY))
    repeat'(first|exact trivial|refine eS rfl ?_|refine AB ?_|refine rX c ?_ ?_|refine rC ?_ ?_<;>intro d<;>try(cases d;done))
    ·omega
    ·omega
    ·refine⟨⟨(i+1,j-1,CX (0,0) m i j),by simp only;omega,by simp only;omega,hp.trans (ED.swap m (by omega) (by omega) (by omega) (by omega) (by omega))⟩,by simp only;omega,AC [(1000000,.nm 1000000)] rfl rfl ?_ ?_⟩
     ·simp only;rw[f];first|exact eN|refine eM ?_
     ·simp only;rw[show ((j-1:Nat):Int)=(j:Int)-1 by omega];first|exact eN|refine eM ?_
   ·repeat'(first|exact trivial|refine eS rfl ?_|refine AB ?_|refine rX c ?_ ?_|refine rC ?_ ?_<;>intro d<;>try(cases d;done))
    exact fM c [] (.raw (.tuple #[])) rfl ⟨rfl,m,rfl,hp⟩
theorem i7 (l:List (Int×Int)) (o:l.length≤100000) (z:lE CF (0,0) l) (lo hi f:Nat) (F:lo≤100000) (hf:f+hi≤l.length) (A:HpX CF (0,0) f hi lo lo l):BA Tryz.prog 178 [.sr 1000000 BE 0 l.length,.p T3 (lo:Int),.p T3 (hi:Int),.p T3 (f:Int),.fn 116] [(1000000,.arr 53 BE l)] [1000000] (fun res E=>res=.raw (.tuple #[])∧∃r,E=[(1000000,.arr 53 BE r)]∧ED (0,0) f (f+hi) l r∧Hp CF (0,0) f hi lo r):=by
 refine J1 [0,1,2,3,4,10,11,18,40,58] [] [] Tryz.func178 Tryz.ntmps178 (AF FB AG) ?_;intro w0 K O0 ρ0 a H I;simp only[Ah];repeat'(first|exact trivial|refine eS rfl ?_|refine AB ?_|refine rX a ?_ ?_|refine rC ?_ ?_<;>intro d<;>try(cases d;done))
 refine AH (ι:={s:Nat×List (Int×Int)//s.1≤lo+hi∧ED (0,0) f (f+hi) l s.2∧HpX CF (0,0) f hi lo s.1 s.2}) (fun s=>⟨[(0,.sr 1000000 BE 0 l.length),(2,.p T3 (hi:Int)),(3,.p T3 (f:Int)),(4,.fn 116),(10,.p (.int .i64) (s.1.1:Int))],[(1000000,.arr 53 BE s.1.2)]⟩) (fun s=>lo+hi-s.1.1) ⟨(lo,l),by omega,ED.refl _ _ l,A⟩ (AC [(1000000,.nm 1000000)] rfl rfl ?_ ?_) (fun s=>?_)
 ·first|exact eN|refine eM ?_
 ·first|exact eN|refine eM ?_
 ·obtain⟨⟨root,m⟩,D,hp,k⟩:=s;simp only at D hp k ⊢;have G:=hp.len;have t:=z.perm CP hp.perm;repeat'(first|exact trivial|refine eS rfl ?_|refine AB ?_|refine rX a ?_ ?_)
  ·omega
  ·refine rC (fun d=>?_) (fun d=>?_)
   ·have o:hi≤2*root+1:=by omega
    repeat'(first|exact trivial|refine eS rfl ?_|refine AB ?_|refine rX a ?_ ?_|refine rC ?_ ?_<;>intro d<;>try(cases d;done))
    exact fM a [] (.raw (.tuple #[])) rfl ⟨rfl,m,rfl,hp,A2c k o⟩
   ·have o:2*root+1<hi:=by omega
    have n:((f:Int)+(2*(root:Int)+1)).toNat=f+(2*root+1):=by omega
    have q:((f:Int)+(2*(root:Int)+1+1)).toNat=f+(2*root+2):=by omega
    have w:((f:Int)+(2*(root:Int)+1)+1).toNat=f+(2*root+2):=by omega
    have g:((f:Int)+(root:Int)).toNat=f+root:=by omega
    repeat'(first|exact trivial|refine eS rfl ?_|refine AB ?_|refine rX a ?_ ?_)
    ·dsimp only[Ty.den];exact⟨by omega,fun _=>by omega,fun _=>by omega,fun _=>by omega,fun _=>by omega,fun _=>by omega⟩
    ·refine Dq (by simp only[go_sem,Nat.reduceEqDiff,reduceCtorEq,Nat.reduceAdd,Nat.reduceSub,Nat.reduceMul,Nat.reduceLeDiff,Nat.reduceLT,Int.reduceLE,Int.reduceToNat,Int.reduceNeg,↓reduceIte];rfl) ?_ ?_
     ·intro e;simp only[As,IS]at e;obtain⟨hh,e⟩:=e;have C:CF (m.getD (f+(2*root+1)) (0,0)) (m.getD (f+(2*root+2)) (0,0))<0:=by rw[←n,←w];exact e
      have B:2*root+2<hi:=by omega
      have hs:∀c,(c=2*root+1∨c=2*root+2)→c<hi→c≠2*root+2→CF (m.getD (f+c) (0,0)) (m.getD (f+(2*root+2)) (0,0))<0:=fun c h1 x y=>by
       rw[show c=2*root+1 by omega];exact C
      repeat'(first|exact trivial|refine eS rfl ?_|refine AB ?_|refine rX a ?_ ?_)
      ·omega
      ·exact CY
      ·refine Dq (by simp only[go_sem,Nat.reduceEqDiff,reduceCtorEq,Nat.reduceAdd,Nat.reduceSub,Nat.reduceMul,Nat.reduceLeDiff,Nat.reduceLT,Int.reduceLE,Int.reduceToNat,Int.reduceNeg,↓reduceIte];rfl) ?_ ?_
       ·intro b;simp only[bY,On]at b;rw[g,q]at b;have u:=t.lt CP (i:=f+root) (j:=f+(2*root+2)) (by omega) (by omega) (by omega) b;repeat'(first|exact trivial|refine eS rfl ?_|refine AB ?_|refine rX a ?_ ?_|refine rC ?_ ?_<;>intro d<;>try(cases d;done))
        exact fM a [] (.raw (.tuple #[])) rfl ⟨rfl,m,rfl,hp,i3 CP k (.inr rfl) u hs⟩
       ·intro b;simp only[AB3,IS]at b;rw[g,q]at b;have v:CX (0,0) m (f+root) (f+(2*root+2))=(m.set (f+root) (m.getD (f+(2*root+2)) (0,0))).set (f+(2*root+2)) (m.getD (f+root) (0,0)):=rfl;repeat'(first|exact trivial|refine eS rfl ?_|refine AB ?_|refine rP a ?_ ?_|fail)
        (refine B3 drawsAny a 22 [([0,1,2,3,8,9,10,11,12,13,14,15,16,17,18,19,20],21)] [4,5,6,7] (by kernel_rfl) (Ls ?_ ?_);(next=>exact CY);refine Ns a [] ?_ ?_;(next=>exact CY);refine Pp a ?_ ?_ ?_;(next=>exact CY);(next=>exact CY))
        rw[g,q];repeat'(first|exact trivial|refine eS rfl ?_|refine AB ?_|refine rX a ?_ ?_|refine rC ?_ ?_<;>intro d<;>try(cases d;done))
        refine⟨⟨(2*root+2,CX (0,0) m (f+root) (f+(2*root+2))),by simp only;omega,hp.trans (ED.swap m (by omega) (by omega) (by omega) (by omega) (by omega)),i4 k B (by omega) (.inr rfl) b hs⟩,by simp only;omega,AC [(1000000,.nm 1000000)] rfl rfl ?_ ?_⟩
        ·simp only;rw[v];first|exact eN|refine eM ?_
        ·simp only;rw[show ((2*root+2:Nat):Int)=2*(root:Int)+1+1 by omega];first|exact eN|refine eM ?_
     ·intro e;have hs:∀c,(c=2*root+1∨c=2*root+2)→c<hi→c≠2*root+1→CF (m.getD (f+c) (0,0)) (m.getD (f+(2*root+1)) (0,0))<0:=fun c h1 x y=>by
       simp only[AAP,On]at e;have a:c=2*root+2:=by omega
       subst a;rcases e with h|h
       ·omega
       ·rw[n,w]at h;exact t.lt CP (by omega) (by omega) (by omega) h
      repeat'(first|exact trivial|refine eS rfl ?_|refine AB ?_|refine rX a ?_ ?_)
      ·exact CY
      ·refine Dq (by simp only[go_sem,Nat.reduceEqDiff,reduceCtorEq,Nat.reduceAdd,Nat.reduceSub,Nat.reduceMul,Nat.reduceLeDiff,Nat.reduceLT,Int.reduceLE,Int.reduceToNat,Int.reduceNeg,↓reduceIte];rfl) ?_ ?_
       ·intro b;simp only[bY,On]at b;rw[g,n]at b;have u:=t.lt CP (i:=f+root) (j:=f+(2*root+1)) (by omega) (by omega) (by omega) b;repeat'(first|exact trivial|refine eS rfl ?_|refine AB ?_|refine rX a ?_ ?_|refine rC ?_ ?_<;>intro d<;>try(cases d;done))
        exact fM a [] (.raw (.tuple #[])) rfl ⟨rfl,m,rfl,hp,i3 CP k (.inl rfl) u hs⟩
       ·intro b;simp only[AB3,IS]at b;rw[g,n]at b;have v:CX (0,0) m (f+root) (f+(2*root+1))=(m.set (f+root) (m.getD (f+(2*root+1)) (0,0))).set (f+(2*root+1)) (m.getD (f+root) (0,0)):=rfl;repeat'(first|exact trivial|refine eS rfl ?_|refine AB ?_|refine rP a ?_ ?_|fail)
        (refine B3 drawsAny a 22 [([0,1,2,3,8,9,10,11,12,13,14,15,16,17,18,19,20],21)] [4,5,6,7] (by kernel_rfl) (Ls ?_ ?_);(next=>exact CY);refine Ns a [] ?_ ?_;(next=>exact CY);refine Pp a ?_ ?_ ?_;(next=>exact CY);(next=>exact CY))
        rw[g,n];repeat'(first|exact trivial|refine eS rfl ?_|refine AB ?_|refine rX a ?_ ?_|refine rC ?_ ?_<;>intro d<;>try(cases d;done))
        refine⟨⟨(2*root+1,CX (0,0) m (f+root) (f+(2*root+1))),by simp only;omega,hp.trans (ED.swap m (by omega) (by omega) (by omega) (by omega) (by omega)),i4 k o (by omega) (.inl rfl) b hs⟩,by simp only;omega,AC [(1000000,.nm 1000000)] rfl rfl ?_ ?_⟩
        ·simp only;rw[v];first|exact eN|refine eM ?_
        ·simp only;rw[show ((2*root+1:Nat):Int)=2*(root:Int)+1 by omega];first|exact eN|refine eM ?_
end
section
attribute [local go_sem] DA
theorem A2e (l:List (Int×Int)) (L:l.length≤100000) (u:lE CF (0,0) l) (a b:Nat) (I:a≤b) (J:b≤l.length):BA Tryz.prog 167 [.sr 1000000 BE 0 l.length,.p T3 (a:Int),.p T3 (b:Int),.fn 116] [(1000000,.arr 53 BE l)] [1000000] (fun res C=>res=.raw (.tuple #[])∧∃r,C=[(1000000,.arr 53 BE r)]∧ED (0,0) a b l r∧Ra CF (0,0) a b r):=by
 refine J1 [0,1,2,3,8,9,10,11,12,21,33] [] [] Tryz.func167 Tryz.ntmps167 AG ?_;intro w0 K O0 ρ0 d M N;simp only[Ah];obtain⟨n,hn⟩:∃n,b=a+n:=⟨b-a,by omega⟩;subst hn;have t:(((a+n:Nat):Int)-(a:Int)-1).tdiv 2=(((n-1) / 2+1:Nat):Int)-1:=by
  by_cases h0:n=0
  ·subst h0;rw[show ((a+0:Nat):Int)-(a:Int)-1=-1 by omega];decide
  ·rw[AAG (by omega)];omega
 have en:((a+n:Nat):Int)-(a:Int)=(n:Int):=by omega
 repeat'(first|exact trivial|refine eS rfl ?_|refine AB ?_|refine rX d ?_ ?_|refine rC ?_ ?_<;>intro e<;>try(cases e;done))
 ·omega
 ·rw[t];exact⟨by omega,by decide,by omega⟩
 ·rw[t,en];refine AH (ι:={s:Nat×List (Int×Int)//s.1≤n+1∧ED (0,0) a (a+n) l s.2∧Hp CF (0,0) a n s.1 s.2}) (fun s=>⟨[(0,.sr 1000000 BE 0 l.length),(3,.fn 116),(8,.p T3 (a:Int)),(9,.p (.int .i64) (0:Int)),(10,.p (.int .i64) (n:Int)),(11,.p (.int .i64) ((s.1.1:Int)-1))],[(1000000,.arr 53 BE s.1.2)]⟩) (fun s=>s.1.1) ⟨((n-1) / 2+1,l),by simp only;omega,ED.refl _ _ l,fun k c h1 G H=>by simp only at h1;omega⟩ (AC [(1000000,.nm 1000000)] rfl rfl ?_ ?_) (fun s=>?_)
  ·first|exact eN|refine eM ?_
  ·first|exact eN|refine eM ?_
  ·obtain⟨⟨k,m⟩,hk,hp,q⟩:=s;simp only at hk hp q ⊢;have y:=hp.len;have x:=u.perm CP hp.perm;repeat'(first|exact trivial|refine eS rfl ?_|refine AB ?_|refine rX d ?_ ?_)
   refine rC (fun e=>?_) (fun e=>?_)
   ·have f:0<k:=by omega
    have key:=i7 m (by omega) x (k-1) n a (by omega) (by omega) (v4 (by rw[show k-1+1=k by omega];exact q));rw[y,show ((k-1:Nat):Int)=(k:Int)-1 by omega]at key;repeat'(first|exact trivial|refine eS rfl ?_|refine AB ?_|refine rX d ?_ ?_)
    refine cP 5 d ?_ ?_
    ·trivial
    ·refine rM d (key) [(1000000,.nm 1000000)] [] ?_ ?_ ?_
     ·first|exact eN|refine eM ?_
     ·first|exact eN|refine eM ?_
     ·rintro _ _ ⟨rfl,r,rfl,i,j⟩;refine⟨[(1000000,.nm 1000000)],.raw (.tuple #[]),[(1000000,.arr 53 BE r)],rfl,rfl,?_,?_,rfl,rfl,CS ?_⟩
      ·first|exact eN|refine eM ?_
      ·first|exact eN|refine eM ?_
      ·repeat'(first|exact trivial|refine eS rfl ?_|refine AB ?_|refine rX d ?_ ?_|refine rC ?_ ?_<;>intro e<;>try(cases e;done))
       ·omega
       ·refine⟨⟨(k-1,r),by simp only;omega,hp.trans i,j⟩,by simp only;omega,AC [(1000000,.nm 1000000)] rfl rfl ?_ ?_⟩
        ·simp only;first|exact eN|refine eM ?_
        ·simp only;rw[show ((k-1:Nat):Int)=(k:Int)-1 by omega];first|exact eN|refine eM ?_
   ·have f:k=0:=by omega
    subst f;repeat'(first|exact trivial|refine eS rfl ?_|refine AB ?_|refine rX d ?_ ?_)
    ·omega
    ·refine AH (ι:={s:Nat×List (Int×Int)//s.1≤n∧ED (0,0) a (a+n) l s.2∧v5 CF (0,0) a n s.1 s.2}) (fun s=>⟨[(0,.sr 1000000 BE 0 l.length),(3,.fn 116),(8,.p T3 (a:Int)),(9,.p (.int .i64) (0:Int)),(12,.p (.int .i64) ((s.1.1:Int)-1))],[(1000000,.arr 53 BE s.1.2)]⟩) (fun s=>s.1.1) ⟨(n,m),Is _,hp,oB q⟩ (AC [(1000000,.nm 1000000)] rfl rfl ?_ ?_) (fun s=>?_)
     ·first|exact eN|refine eM ?_
     ·first|exact eN|refine eM ?_
     ·obtain⟨⟨k,c⟩,hk,g,h⟩:=s;simp only at hk g h ⊢;have w:=g.len;repeat'(first|exact trivial|refine eS rfl ?_|refine AB ?_|refine rX d ?_ ?_)
      refine rC (fun e=>?_) (fun e=>?_)
      ·have f:0<k:=by omega
       have h:v5 CF (0,0) a n (k-1+1) c:=by rw[show k-1+1=k by omega];exact h
       obtain⟨D,E,F⟩:=v6 CP h (by omega) (by omega);have o:ED (0,0) a (a+n) c (CX (0,0) c a (a+(k-1))):=ED.swap c (by omega) (by omega) (by omega) (by omega) (by omega);have A:=o.len;have z:=u.perm CP (g.trans o).perm;have v:((a:Int)+((k:Int)-1)).toNat=a+(k-1):=by omega
       have B:CX (0,0) c a (a+(k-1))=(c.set a (c.getD (a+(k-1)) (0,0))).set (a+(k-1)) (c.getD a (0,0)):=rfl;have key:=i7 (CX (0,0) c a (a+(k-1))) (by omega) z 0 (k-1) a (by omega) (by omega) D;rw[A,w,show ((k-1:Nat):Int)=(k:Int)-1 by omega]at key;repeat'(first|exact trivial|refine eS rfl ?_|refine AB ?_|refine rP d ?_ ?_|fail)
       (refine B3 drawsAny d 18 [([0,1,6,7,8,9,10,11,12,13,14,15,16],17)] [2,3,4,5] (by kernel_rfl) (Ls ?_ ?_);(next=>exact CY);refine Ns d [] ?_ ?_;(next=>exact CY);refine Pp d ?_ ?_ ?_;(next=>exact CY);(next=>exact CY))
       rw[v,←B];repeat'(first|exact trivial|refine eS rfl ?_|refine AB ?_|refine rP d ?_ ?_|fail)
       refine cP 5 d ?_ ?_
       ·trivial
       ·refine rM d (key) [(1000000,.nm 1000000)] [] ?_ ?_ ?_
        ·first|exact eN|refine eM ?_
        ·first|exact eN|refine eM ?_
        ·rintro _ _ ⟨rfl,r,rfl,i,j⟩;refine⟨[(1000000,.nm 1000000)],.raw (.tuple #[]),[(1000000,.arr 53 BE r)],rfl,rfl,?_,?_,rfl,rfl,CS ?_⟩
         ·first|exact eN|refine eM ?_
         ·first|exact eN|refine eM ?_
         ·repeat'(first|exact trivial|refine eS rfl ?_|refine AB ?_|refine rX d ?_ ?_|refine rC ?_ ?_<;>intro e<;>try(cases e;done))
          ·omega
          ·refine⟨⟨(k-1,r),by simp only;omega,(g.trans o).trans (i.mono (Is _) (by omega)),v7 i j E F⟩,by simp only;omega,AC [(1000000,.nm 1000000)] rfl rfl ?_ ?_⟩
           ·simp only;first|exact eN|refine eM ?_
           ·simp only;rw[show ((k-1:Nat):Int)=(k:Int)-1 by omega];first|exact eN|refine eM ?_
      ·have f:k=0:=by omega
       subst f;repeat'(first|exact trivial|refine eS rfl ?_|refine AB ?_|refine rX d ?_ ?_|refine rC ?_ ?_<;>intro e<;>try(cases e;done))
       exact fM d [] (.raw (.tuple #[])) rfl ⟨rfl,c,rfl,g,A2d h⟩
end
section
attribute [local go_sem] DA
theorem A4W (l:List (Int×Int)) (ah:l.length≤100000) (O:lE CF (0,0) l) (a b p:Nat) (hap:a≤p) (aa:p<b) (V:b≤l.length):BA Tryz.prog 173 [.sr 1000000 BE 0 l.length,.p T3 (a:Int),.p T3 (b:Int),.p T3 (p:Int),.fn 116] [(1000000,.arr 53 BE l)] [1000000] (fun res ae=>∃(q:Nat) (w:Bool) (r:List (Int×Int)),res=.tup [.p T3 (q:Int),.p .bool w]∧ae=[(1000000,.arr 53 BE r)]∧ED (0,0) a b l r∧x9 CF (0,0) a b q r):=by
 refine J1 [0,1,2,3,4,10,11,12,13,47,66,71,120,139,144] [] [] Tryz.func173 Tryz.ntmps173 (AF FB AG) ?_;intro w0 K O0 ρ0 c ai aj;simp only[Ah];have g:ED (0,0) a b l (CX (0,0) l a p):=ED.swap l (Is _) (by omega) hap aa V;have n:CX (0,0) l a p=(l.set a (l.getD p (0,0))).set p (l.getD a (0,0)):=rfl;repeat'(first|exact trivial|refine eS rfl ?_|refine AB ?_|refine rP c ?_ ?_|fail)
 (refine B3 drawsAny c 14 [([0,1,4,5,6,7,8,9,10,11,12],13)] [2,3] (by kernel_rfl) (Ls ?_ ?_);(next=>exact CY);refine Ns c [] ?_ ?_;(next=>exact CY);refine Pp c ?_ ?_ ?_;(next=>exact CY);(next=>exact CY))
 rw[←n];have A:=O.perm CP g.perm;have R:=g.len;clear n;generalize CX (0,0) l a p=m at *;repeat'(first|exact trivial|refine eS rfl ?_|refine AB ?_|refine rP c ?_ ?_|fail)
 ·exact CY
 ·rw[show (a:Int)+1=((a+1:Nat):Int) by omega,show (b:Int)-1=((b-1:Nat):Int) by omega];refine AH (ι:={i:Nat//a<i∧i≤b∧PtI CF (0,0) a b i (b-1) m}) (fun s=>⟨[(0,.sr 1000000 BE 0 l.length),(1,.p T3 (a:Int)),(4,.fn 116),(12,.p (.int .i64) (s.1:Int)),(13,.p (.int .i64) ((b-1:Nat):Int))],[(1000000,.arr 53 BE m)]⟩) (fun s=>b-s.1) ⟨a+1,by omega,by omega,⟨fun x h1 f=>by omega,fun x h1 f=>by omega⟩⟩ (AC [(1000000,.nm 1000000)] rfl rfl ?_ ?_) (fun s=>?_)
  ·first|exact eN|refine eM ?_
  ·first|exact eN|refine eM ?_
  ·obtain⟨i,E,I,t⟩:=s;simp only at E I t ⊢;repeat'(first|exact trivial|refine eS rfl ?_|refine AB ?_|refine rX c ?_ ?_)
   ·dsimp only[Ty.den];exact⟨fun _=>by omega,fun _=>by omega⟩
   ·refine Dq (by simp only[go_sem,Nat.reduceEqDiff,reduceCtorEq,Nat.reduceAdd,Nat.reduceSub,Nat.reduceMul,Nat.reduceLeDiff,Nat.reduceLT,Int.reduceLE,Int.reduceToNat,Int.reduceNeg,↓reduceIte];rfl) ?_ ?_
    ·intro d;simp only[As,IS]at d;obtain⟨h1,f⟩:=d;repeat'(first|exact trivial|refine eS rfl ?_|refine AB ?_|refine rX c ?_ ?_)
     ·exact CY
     ·refine⟨⟨i+1,by omega,by omega,⟨fun x G H=>?_,t.hi⟩⟩,by simp only;omega,AC [(1000000,.nm 1000000)] rfl rfl ?_ ?_⟩
      ·by_cases e:x=i
       ·rw[e];exact f
       ·exact t.lo x G (by omega)
      ·first|exact eN|refine eM ?_
      ·first|exact eN|refine eM ?_
    ·intro d;have B:i≤b-1→CF (m.getD a (0,0)) (m.getD i (0,0))<0:=fun h1=>A.lt CP (by omega) (by omega) (by omega) fun f=>by
      simp only[AAP,On]at d;rcases d with h|h
      ·omega
      ·exact h f
     have ag:i≤b-1+1:=by omega
     repeat'(first|exact trivial|refine eS rfl ?_|refine AB ?_|refine rX c ?_ ?_)
     refine AH (ι:={j:Nat//a≤j∧j<b∧i≤j+1∧PtI CF (0,0) a b i j m}) (fun s=>⟨[(0,.sr 1000000 BE 0 l.length),(1,.p T3 (a:Int)),(4,.fn 116),(12,.p (.int .i64) (i:Int)),(13,.p (.int .i64) (s.1:Int))],[(1000000,.arr 53 BE m)]⟩) (fun s=>s.1) ⟨b-1,by omega,by omega,by omega,t⟩ (AC [(1000000,.nm 1000000)] rfl rfl ?_ ?_) (fun s=>?_)
     ·first|exact eN|refine eM ?_
     ·first|exact eN|refine eM ?_
     ·obtain⟨j,v,y,W,D⟩:=s;simp only at v y W D ⊢;clear d;repeat'(first|exact trivial|refine eS rfl ?_|refine AB ?_|refine rX c ?_ ?_)
      ·dsimp only[Ty.den];exact⟨fun _=>by omega,fun _=>by omega⟩
      ·refine Dq (by simp only[go_sem,Nat.reduceEqDiff,reduceCtorEq,Nat.reduceAdd,Nat.reduceSub,Nat.reduceMul,Nat.reduceLeDiff,Nat.reduceLT,Int.reduceLE,Int.reduceToNat,Int.reduceNeg,↓reduceIte];rfl) ?_ ?_
       ·intro d;simp only[As,IS,bY,On]at d;obtain⟨h1,f⟩:=d;have f:=A.lt CP (i:=j) (j:=a) (by omega) (by omega) (by omega) f;repeat'(first|exact trivial|refine eS rfl ?_|refine AB ?_|refine rX c ?_ ?_)
        ·exact CY
        ·refine⟨⟨j-1,by omega,by omega,by omega,⟨D.lo,fun x G H=>?_⟩⟩,by simp only;omega,AC [(1000000,.nm 1000000)] rfl rfl ?_ ?_⟩
         ·by_cases e:x=j
          ·rw[e];exact f
          ·exact D.hi x (by omega) H
         ·first|exact eN|refine eM ?_
         ·simp only;rw[show ((j-1:Nat):Int)=(j:Int)-1 by omega];first|exact eN|refine eM ?_
       ·intro d;have C:i≤j→CF (m.getD j (0,0)) (m.getD a (0,0))<0:=fun h1=>by
         simp only[AAP,On,AB3,IS]at d;rcases d with h|h
         ·omega
         ·exact h
        repeat'(first|exact trivial|refine eS rfl ?_|refine AB ?_|refine rX c ?_ ?_)
        refine rC (fun u=>?_) (fun u=>?_)
        ·have Q:i=j+1:=by omega
         subst Q;have o:ED (0,0) a b m (CX (0,0) m j a):=ED.swap m v y (Is _) (by omega) (by omega);have n:CX (0,0) m j a=(m.set j (m.getD a (0,0))).set a (m.getD j (0,0)):=rfl;repeat'(first|exact trivial|refine eS rfl ?_|refine AB ?_|refine rP c ?_ ?_|fail)
         (refine B3 drawsAny c 14 [([0,1,4,5,6,7,8,9,10,11,12],13)] [2,3] (by kernel_rfl) (Ls ?_ ?_);(next=>exact CY);refine Ns c [] ?_ ?_;(next=>exact CY);refine Pp c ?_ ?_ ?_;(next=>exact CY);(next=>exact CY))
         rw[←n];repeat'(first|exact trivial|refine eS rfl ?_|refine AB ?_|refine rX c ?_ ?_|refine rC ?_ ?_<;>intro u<;>try(cases u;done))
         exact fM c [.tmp 10,.tmp 11] (.tup [.p T3 (j:Int),.p .bool true]) eT ⟨j,true,_,rfl,rfl,g.trans o,sE D v y (by omega)⟩
        ·have Z:i≠j:=fun e=>by
          have S:=B (by omega);have af:=C (by omega);rw[e,CP.anti]at S;omega
         have P:i<j:=by omega
         have o:ED (0,0) a b m (CX (0,0) m i j):=ED.swap m (by omega) (by omega) v y (by omega);have n:CX (0,0) m i j=(m.set i (m.getD j (0,0))).set j (m.getD i (0,0)):=rfl;have M:=i6 D E P y (by omega) (B (by omega)) (C (by omega));repeat'(first|exact trivial|refine eS rfl ?_|refine AB ?_|refine rP c ?_ ?_|fail)
         (refine B3 drawsAny c 14 [([0,1,4,5,6,7,8,9,10,11,12],13)] [2,3] (by kernel_rfl) (Ls ?_ ?_);(next=>exact CY);refine Ns c [] ?_ ?_;(next=>exact CY);refine Pp c ?_ ?_ ?_;(next=>exact CY);(next=>exact CY))
         rw[←n];have J:=g.trans o;have A:=O.perm CP J.perm;have R:=J.len;clear n o D t B C d g;generalize CX (0,0) m i j=ad at *;repeat'(first|exact trivial|refine eS rfl ?_|refine AB ?_|refine rX c ?_ ?_)
         ·exact CY
         ·exact CY
         ·rw[show (i:Int)+1=((i+1:Nat):Int) by omega,show (j:Int)-1=((j-1:Nat):Int) by omega];refine AH (ι:={s:Nat×Nat×List (Int×Int)//(a<s.1∧s.1≤s.2.1+1)∧(a≤s.2.1∧s.2.1<b)∧ED (0,0) a b l s.2.2∧PtI CF (0,0) a b s.1 s.2.1 s.2.2}) (fun s=>⟨[(0,.sr 1000000 BE 0 l.length),(1,.p T3 (a:Int)),(4,.fn 116),(12,.p (.int .i64) (s.1.1:Int)),(13,.p (.int .i64) (s.1.2.1:Int))],[(1000000,.arr 53 BE s.1.2.2)]⟩) (fun s=>s.1.2.1+1-s.1.1) ⟨(i+1,j-1,ad),by simp only;omega,by simp only;omega,J,M⟩ (AC [(1000000,.nm 1000000)] rfl rfl ?_ ?_) (fun s=>?_)
          ·first|exact eN|refine eM ?_
          ·first|exact eN|refine eM ?_
          ·clear M A R J;obtain⟨⟨i,j,m⟩,⟨E,I⟩,⟨v,y⟩,g,t⟩:=s;simp only at E I v y g t ⊢;have A:=O.perm CP g.perm;have R:=g.len;repeat'(first|exact trivial|refine eS rfl ?_|refine AB ?_|refine rX c ?_ ?_)
           refine AH (ι:={k:Nat//a<k∧i≤k∧k≤j+1∧PtI CF (0,0) a b k j m}) (fun s=>⟨[(0,.sr 1000000 BE 0 l.length),(1,.p T3 (a:Int)),(4,.fn 116),(12,.p (.int .i64) (s.1:Int)),(13,.p (.int .i64) (j:Int))],[(1000000,.arr 53 BE m)]⟩) (fun s=>j+1-s.1) ⟨i,E,Is _,I,t⟩ (AC [(1000000,.nm 1000000)] rfl rfl ?_ ?_) (fun s=>?_)
           ·first|exact eN|refine eM ?_
           ·first|exact eN|refine eM ?_
           ·obtain⟨k,T,X,U,L⟩:=s;simp only at T U X L ⊢;repeat'(first|exact trivial|refine eS rfl ?_|refine AB ?_|refine rX c ?_ ?_)
            ·dsimp only[Ty.den];exact⟨fun _=>by omega,fun _=>by omega⟩
            ·refine Dq (by simp only[go_sem,Nat.reduceEqDiff,reduceCtorEq,Nat.reduceAdd,Nat.reduceSub,Nat.reduceMul,Nat.reduceLeDiff,Nat.reduceLT,Int.reduceLE,Int.reduceToNat,Int.reduceNeg,↓reduceIte];rfl) ?_ ?_
             ·intro d;simp only[As,IS]at d;obtain⟨h1,f⟩:=d;repeat'(first|exact trivial|refine eS rfl ?_|refine AB ?_|refine rX c ?_ ?_)
              ·exact CY
              ·refine⟨⟨k+1,by omega,by omega,by omega,⟨fun x G H=>?_,L.hi⟩⟩,by simp only;omega,AC [(1000000,.nm 1000000)] rfl rfl ?_ ?_⟩
               ·by_cases e:x=k
                ·rw[e];exact f
                ·exact L.lo x G (by omega)
               ·first|exact eN|refine eM ?_
               ·first|exact eN|refine eM ?_
             ·intro d;have B:k≤j→CF (m.getD a (0,0)) (m.getD k (0,0))<0:=fun h1=>A.lt CP (by omega) (by omega) (by omega) fun f=>by
               simp only[AAP,On]at d;rcases d with h|h
               ·omega
               ·exact h f
              repeat'(first|exact trivial|refine eS rfl ?_|refine AB ?_|refine rX c ?_ ?_)
              refine AH (ι:={z:Nat//a≤z∧z≤j∧k≤z+1∧PtI CF (0,0) a b k z m}) (fun s=>⟨[(0,.sr 1000000 BE 0 l.length),(1,.p T3 (a:Int)),(4,.fn 116),(12,.p (.int .i64) (k:Int)),(13,.p (.int .i64) (s.1:Int))],[(1000000,.arr 53 BE m)]⟩) (fun s=>s.1) ⟨j,v,Is _,U,L⟩ (AC [(1000000,.nm 1000000)] rfl rfl ?_ ?_) (fun s=>?_)
              ·first|exact eN|refine eM ?_
              ·first|exact eN|refine eM ?_
              ·obtain⟨z,N,ab,Y,F⟩:=s;simp only at N ab Y F ⊢;clear d;repeat'(first|exact trivial|refine eS rfl ?_|refine AB ?_|refine rX c ?_ ?_)
               ·dsimp only[Ty.den];exact⟨fun _=>by omega,fun _=>by omega⟩
               ·refine Dq (by simp only[go_sem,Nat.reduceEqDiff,reduceCtorEq,Nat.reduceAdd,Nat.reduceSub,Nat.reduceMul,Nat.reduceLeDiff,Nat.reduceLT,Int.reduceLE,Int.reduceToNat,Int.reduceNeg,↓reduceIte];rfl) ?_ ?_
                ·intro d;simp only[As,IS,bY,On]at d;obtain⟨h1,f⟩:=d;have f:=A.lt CP (i:=z) (j:=a) (by omega) (by omega) (by omega) f;repeat'(first|exact trivial|refine eS rfl ?_|refine AB ?_|refine rX c ?_ ?_)
                 ·exact CY
                 ·refine⟨⟨z-1,by omega,by omega,by omega,⟨F.lo,fun x G H=>?_⟩⟩,by simp only;omega,AC [(1000000,.nm 1000000)] rfl rfl ?_ ?_⟩
                  ·by_cases e:x=z
                   ·rw[e];exact f
                   ·exact F.hi x (by omega) H
                  ·first|exact eN|refine eM ?_
                  ·simp only;rw[show ((z-1:Nat):Int)=(z:Int)-1 by omega];first|exact eN|refine eM ?_
                ·intro d;have C:k≤z→CF (m.getD z (0,0)) (m.getD a (0,0))<0:=fun h1=>by
                  simp only[AAP,On,AB3,IS]at d;rcases d with h|h
                  ·omega
                  ·exact h
                 repeat'(first|exact trivial|refine eS rfl ?_|refine AB ?_|refine rX c ?_ ?_)
                 refine rC (fun u=>?_) (fun u=>?_)
                 ·have Q:k=z+1:=by omega
                  subst Q;have o:ED (0,0) a b m (CX (0,0) m z a):=ED.swap m N (by omega) (Is _) (by omega) (by omega);have n:CX (0,0) m z a=(m.set z (m.getD a (0,0))).set a (m.getD z (0,0)):=rfl;repeat'(first|exact trivial|refine eS rfl ?_|refine AB ?_|refine rP c ?_ ?_|fail)
                  (refine B3 drawsAny c 14 [([0,1,4,5,6,7,8,9,10,11,12],13)] [2,3] (by kernel_rfl) (Ls ?_ ?_);(next=>exact CY);refine Ns c [] ?_ ?_;(next=>exact CY);refine Pp c ?_ ?_ ?_;(next=>exact CY);(next=>exact CY))
                  rw[←n];repeat'(first|exact trivial|refine eS rfl ?_|refine AB ?_|refine rX c ?_ ?_|refine rC ?_ ?_<;>intro u<;>try(cases u;done))
                  exact fM c [.tmp 10,.tmp 11] (.tup [.p T3 (z:Int),.p .bool false]) eT ⟨z,false,_,rfl,rfl,g.trans o,sE F N (by omega) (by omega)⟩
                 ·have Z:k≠z:=fun e=>by
                   have S:=B (by omega);have af:=C (by omega);rw[e,CP.anti]at S;omega
                  have P:k<z:=by omega
                  have o:ED (0,0) a b m (CX (0,0) m k z):=ED.swap m (by omega) (by omega) N (by omega) (by omega);have n:CX (0,0) m k z=(m.set k (m.getD z (0,0))).set z (m.getD k (0,0)):=rfl;have M:=i6 F T P (by omega) (by omega) (B (by omega)) (C (by omega));repeat'(first|exact trivial|refine eS rfl ?_|refine AB ?_|refine rP c ?_ ?_|fail)
                  (refine B3 drawsAny c 14 [([0,1,4,5,6,7,8,9,10,11,12],13)] [2,3] (by kernel_rfl) (Ls ?_ ?_);(next=>exact CY);refine Ns c [] ?_ ?_;(next=>exact CY);refine Pp c ?_ ?_ ?_;(next=>exact CY);(next=>exact CY))
                  rw[←n];repeat'(first|exact trivial|refine eS rfl ?_|refine AB ?_|refine rX c ?_ ?_)
                  ·exact CY
                  ·exact CY
                  ·refine⟨⟨(k+1,z-1,CX (0,0) m k z),by simp only;omega,by simp only;omega,g.trans o,M⟩,by simp only;omega,AC [(1000000,.nm 1000000)] rfl rfl ?_ ?_⟩
                   ·first|exact eN|refine eM ?_
                   ·simp only;rw[show ((z-1:Nat):Int)=(z:Int)-1 by omega];first|exact eN|refine eM ?_
end
section
attribute [local go_sem] DA
theorem A4X (l:List (Int×Int)) (am:l.length≤100000) (L:lE CF (0,0) l) (a b:Nat) (ak:a<b) (al:b≤l.length) (U:Bf CF (0,0) a b l):BA Tryz.prog 171 [.sr 1000000 BE 0 l.length,.p T3 (a:Int),.p T3 (b:Int),.fn 116] [(1000000,.arr 53 BE l)] [1000000] (fun res aj=>∃(w:Bool) (r:List (Int×Int)),res=.p .bool w∧aj=[(1000000,.arr 53 BE r)]∧ED (0,0) a b l r∧(w=true→Ra CF (0,0) a b r)):=by
 refine J1 [0,1,2,3,8,9,10,11,12,16,36,41,45,65,69,84,104,109,124] [] [] Tryz.func171 Tryz.ntmps171 (AF FB AG) ?_;intro w0 K O0 ρ0 f an ao;simp only[Ah];repeat'(first|exact trivial|refine eS rfl ?_|refine AB ?_|refine rX f ?_ ?_|refine rC ?_ ?_<;>intro q<;>try(cases q;done))
 ·exact CY
 ·refine AH (ι:={s:Nat×Nat×List (Int×Int)//(a+1≤s.1∧s.1≤b)∧s.2.1≤5∧ED (0,0) a b l s.2.2∧Ra CF (0,0) a s.1 s.2.2}) (fun s=>⟨[(0,.sr 1000000 BE 0 l.length),(1,.p T3 (a:Int)),(2,.p T3 (b:Int)),(3,.fn 116),(9,.p (.int .i64) (s.1.1:Int)),(10,.p (.int .i64) (s.1.2.1:Int))],[(1000000,.arr 53 BE s.1.2.2)]⟩) (fun s=>5-s.1.2.1) ⟨(a+1,0,l),by simp only;omega,NO _,ED.refl a b l,Ze a l⟩ (AC [(1000000,.nm 1000000)] rfl rfl ?_ ?_) (fun s=>?_)
  ·first|exact eN|refine eM ?_
  ·first|exact eN|refine eM ?_
  ·obtain⟨⟨i,t,m⟩,⟨ab,N⟩,ai,u,Q⟩:=s;simp only at ab N ai u Q ⊢;have P:=L.perm CP u.perm;have ah:=u.len;repeat'(first|exact trivial|refine eS rfl ?_|refine AB ?_|refine rX f ?_ ?_)
   refine rC (fun q=>?_) (fun q=>?_)
   ·repeat'(first|exact trivial|refine eS rfl ?_|refine AB ?_|refine rX f ?_ ?_)
    refine AH (ι:={k:Nat//i≤k∧k≤b∧Ra CF (0,0) a k m}) (fun s=>⟨[(0,.sr 1000000 BE 0 l.length),(1,.p T3 (a:Int)),(2,.p T3 (b:Int)),(3,.fn 116),(9,.p (.int .i64) (s.1:Int)),(10,.p (.int .i64) (t:Int))],[(1000000,.arr 53 BE m)]⟩) (fun s=>b-s.1) ⟨i,Is _,N,Q⟩ (AC [(1000000,.nm 1000000)] rfl rfl ?_ ?_) (fun s=>?_)
    ·first|exact eN|refine eM ?_
    ·first|exact eN|refine eM ?_
    ·obtain⟨k,ae,af,F⟩:=s;simp only at ae af F ⊢;have J:((k:Int)-1).toNat=k-1:=by omega
     repeat'(first|exact trivial|refine eS rfl ?_|refine AB ?_|refine rX f ?_ ?_)
     ·dsimp only[Ty.den];exact⟨fun _=>by omega,fun _=>by omega,fun _=>by omega⟩
     ·refine Dq (by simp only[go_sem,Nat.reduceEqDiff,reduceCtorEq,Nat.reduceAdd,Nat.reduceSub,Nat.reduceMul,Nat.reduceLeDiff,Nat.reduceLT,Int.reduceLE,Int.reduceToNat,Int.reduceNeg,↓reduceIte];rfl) ?_ ?_
      ·intro g;simp only[As,IS,bY,On]at g;obtain⟨h1,z⟩:=g;rw[J]at z;have z:=P.lt CP (i:=k) (j:=k-1) (by omega) (by omega) (by omega) z;repeat'(first|exact trivial|refine eS rfl ?_|refine AB ?_|refine rX f ?_ ?_)
       ·exact CY
       ·refine⟨⟨k+1,by omega,by omega,A2b CP F (by omega) z⟩,by simp only;omega,AC [(1000000,.nm 1000000)] rfl rfl ?_ ?_⟩
        ·first|exact eN|refine eM ?_
        ·first|exact eN|refine eM ?_
      ·intro g;clear g;repeat'(first|exact trivial|refine eS rfl ?_|refine AB ?_|refine rX f ?_ ?_)
       refine rC (fun Z=>?_) (fun Z=>?_)
       ·have O:k=b:=by omega
        subst O;repeat'(first|exact trivial|refine eS rfl ?_|refine AB ?_|refine rX f ?_ ?_|refine rC ?_ ?_<;>intro q<;>try(cases q;done))
        exact fM f [.tmp 8] (.p .bool true) eT ⟨true,m,rfl,rfl,u,fun _=>F⟩
       ·have O:k<b:=by omega
        repeat'(first|exact trivial|refine eS rfl ?_|refine AB ?_|refine rX f ?_ ?_)
        ·exact CY
        ·refine rC (fun aa=>?_) (fun aa=>?_)
         ·repeat'(first|exact trivial|refine eS rfl ?_|refine AB ?_|refine rX f ?_ ?_|refine rC ?_ ?_<;>intro q<;>try(cases q;done))
          exact fM f [.tmp 8] (.p .bool false) eT ⟨false,m,rfl,rfl,u,fun h=>by cases h⟩
         ·have v:ED (0,0) a b m (CX (0,0) m k (k-1)):=ED.swap m (by omega) (by omega) (by omega) (by omega) (by omega);have B:CX (0,0) m k (k-1)=(m.set k (m.getD (k-1) (0,0))).set (k-1) (m.getD k (0,0)):=rfl;have R:n9 CF (0,0) a (k-1) (k-1) (CX (0,0) m k (k-1)):=⟨fun x y h0 h1 z S T=>by
           have M:=Iz (d:=(0,0)) (l:=m) (i:=k) (j:=k-1) (by omega) (by omega);rw[M x,M y,At S,At (show ¬x=k by omega),At T,At (show ¬y=k by omega)];exact F x y h0 h1 (by omega),fun y h1 z=>by omega⟩
          repeat'(first|exact trivial|refine eS rfl ?_|refine AB ?_|refine rP f ?_ ?_|fail)
          (refine B3 drawsAny f 16 [([0,1,5,6,7,8,9,10,11,12,13,14],15)] [2,3,4] (by kernel_rfl) (Ls ?_ ?_);(next=>exact CY);refine Ns f [] ?_ ?_;(next=>exact CY);refine Pp f ?_ ?_ ?_;(next=>exact CY);(next=>exact CY))
          rw[J,←B];have I:=u.trans v;clear B v P ah;generalize CX (0,0) m k (k-1)=c0 at *;refine IR ?_;refine Pf (ι:={c:List (Int×Int)//ED (0,0) a b l c∧Ra CF (0,0) a k c}) (fun s=>⟨[(0,.sr 1000000 BE 0 l.length),(1,.p T3 (a:Int)),(2,.p T3 (b:Int)),(3,.fn 116),(9,.p (.int .i64) (k:Int)),(10,.p (.int .i64) (t:Int))],[(1000000,.arr 53 BE s.1)]⟩) ?_ (fun s=>?_)
          ·repeat'(first|exact trivial|refine eS rfl ?_|refine AB ?_|refine rX f ?_ ?_)
           ·exact CY
           ·refine rC (fun G=>?_) (fun G=>?_)
            ·repeat'(first|exact trivial|refine eS rfl ?_|refine AB ?_|refine rX f ?_ ?_)
             ·exact CY
             ·rw[show (k:Int)-1=((k-1:Nat):Int) by omega];refine AH (ι:={s:Nat×List (Int×Int)//(a≤s.1∧s.1≤k-1)∧ED (0,0) a b l s.2∧n9 CF (0,0) a (k-1) s.1 s.2}) (fun s=>⟨[(0,.sr 1000000 BE 0 l.length),(1,.p T3 (a:Int)),(2,.p T3 (b:Int)),(3,.fn 116),(9,.p (.int .i64) (k:Int)),(10,.p (.int .i64) (t:Int)),(11,.p (.int .i64) (s.1.1:Int))],[(1000000,.arr 53 BE s.1.2)]⟩) (fun s=>s.1.1) ⟨(k-1,c0),by simp only;omega,I,R⟩ (AC [(1000000,.nm 1000000)] rfl rfl ?_ ?_) (fun s=>?_)
              ·first|exact eN|refine eM ?_
              ·first|exact eN|refine eM ?_
              ·obtain⟨⟨j,c⟩,⟨D,A⟩,n,o⟩:=s;simp only at D A n o ⊢;have X:=L.perm CP n.perm;have Y:=n.len;have C:((j:Int)-1).toNat=j-1:=by omega
               have V:=U.pin n;repeat'(first|exact trivial|refine eS rfl ?_|refine AB ?_|refine rX f ?_ ?_)
               refine rC (fun H=>?_) (fun H=>?_)
               ·repeat'(first|exact trivial|refine eS rfl ?_|refine AB ?_|refine rX f ?_ ?_)
                ·exact CY
                ·refine Dq (by simp only[go_sem,Nat.reduceEqDiff,reduceCtorEq,Nat.reduceAdd,Nat.reduceSub,Nat.reduceMul,Nat.reduceLeDiff,Nat.reduceLT,Int.reduceLE,Int.reduceToNat,Int.reduceNeg,↓reduceIte];rfl) ?_ ?_
                 ·intro g;simp only[bY,On]at g;rw[C]at g;have g:=X.lt CP (i:=j) (j:=j-1) (by omega) (by omega) (by omega) g;have E:=VT CP o D A (.inr g);rw[show k-1+1=k by omega]at E;repeat'(first|exact trivial|refine eS rfl ?_|refine AB ?_|refine rX f ?_ ?_)
                  refine⟨⟨c,n,E⟩,AC [(1000000,.nm 1000000)] rfl rfl ?_ ?_⟩
                  ·first|exact eN|refine eM ?_
                  ·first|exact eN|refine eM ?_
                 ·intro g;simp only[AB3,IS]at g;rw[C]at g;have g:CF (c.getD j (0,0)) (c.getD (j-1) (0,0))<0:=g;have W:a<j:=by
                   refine DO fun hn=>?_;have e:j=a:=by omega
                   subst e;rcases V with h|h
                   ·omega
                   ·have:=h j (Is _) (by omega);rw[CP.anti]at this;omega
                  have v:ED (0,0) a b c (CX (0,0) c j (j-1)):=ED.swap c (by omega) (by omega) (by omega) (by omega) (by omega);have B:CX (0,0) c j (j-1)=(c.set j (c.getD (j-1) (0,0))).set (j-1) (c.getD j (0,0)):=rfl;repeat'(first|exact trivial|refine eS rfl ?_|refine AB ?_|refine rP f ?_ ?_|fail)
                  (refine B3 drawsAny f 16 [([0,1,5,6,7,8,9,10,11,12,13,14],15)] [2,3,4] (by kernel_rfl) (Ls ?_ ?_);(next=>exact CY);refine Ns f [] ?_ ?_;(next=>exact CY);refine Pp f ?_ ?_ ?_;(next=>exact CY);(next=>exact CY))
                  rw[C,←B];repeat'(first|exact trivial|refine eS rfl ?_|refine AB ?_|refine rX f ?_ ?_)
                  ·exact CY
                  ·refine⟨⟨(j-1,CX (0,0) c j (j-1)),by simp only;omega,n.trans v,X4 o W A (by omega) g⟩,by simp only;omega,AC [(1000000,.nm 1000000)] rfl rfl ?_ ?_⟩
                   ·first|exact eN|refine eM ?_
                   ·simp only;rw[show ((j-1:Nat):Int)=(j:Int)-1 by omega];first|exact eN|refine eM ?_
               ·have ad:j=a:=by omega
                have E:=VT CP o D A (.inl ad);rw[show k-1+1=k by omega]at E;repeat'(first|exact trivial|refine eS rfl ?_|refine AB ?_|refine rX f ?_ ?_)
                refine⟨⟨c,n,E⟩,AC [(1000000,.nm 1000000)] rfl rfl ?_ ?_⟩
                ·first|exact eN|refine eM ?_
                ·first|exact eN|refine eM ?_
            ·have ag:k=a+1:=by omega
             repeat'(first|exact trivial|refine eS rfl ?_|refine AB ?_|refine rX f ?_ ?_)
             refine⟨⟨c0,I,by rw[ag];exact Ze a c0⟩,AC [(1000000,.nm 1000000)] rfl rfl ?_ ?_⟩
             ·first|exact eN|refine eM ?_
             ·first|exact eN|refine eM ?_
          ·obtain⟨c,n,o⟩:=s;simp only;clear I R;repeat'(first|exact trivial|refine eS rfl ?_|refine AB ?_|refine rX f ?_ ?_)
           ·exact CY
           ·refine rC (fun G=>?_) (fun G=>?_)
            ·repeat'(first|exact trivial|refine eS rfl ?_|refine AB ?_|refine rX f ?_ ?_)
             ·exact CY
             ·rw[show (k:Int)+1=((k+1:Nat):Int) by omega];refine AH (ι:={s:Nat×List (Int×Int)//(k+1≤s.1∧s.1≤b)∧ED (0,0) a b l s.2∧Ra CF (0,0) a k s.2}) (fun s=>⟨[(0,.sr 1000000 BE 0 l.length),(1,.p T3 (a:Int)),(2,.p T3 (b:Int)),(3,.fn 116),(9,.p (.int .i64) (k:Int)),(10,.p (.int .i64) (t:Int)),(12,.p (.int .i64) (s.1.1:Int))],[(1000000,.arr 53 BE s.1.2)]⟩) (fun s=>b-s.1.1) ⟨(k+1,c),by simp only;omega,n,o⟩ (AC [(1000000,.nm 1000000)] rfl rfl ?_ ?_) (fun s=>?_)
              ·first|exact eN|refine eM ?_
              ·first|exact eN|refine eM ?_
              ·clear n o;obtain⟨⟨j,c⟩,⟨D,A⟩,n,o⟩:=s;simp only at D A n o ⊢;have Y:=n.len;have C:((j:Int)-1).toNat=j-1:=by omega
               repeat'(first|exact trivial|refine eS rfl ?_|refine AB ?_|refine rX f ?_ ?_)
               refine rC (fun H=>?_) (fun H=>?_)
               ·repeat'(first|exact trivial|refine eS rfl ?_|refine AB ?_|refine rX f ?_ ?_)
                ·exact CY
                ·refine Dq (by simp only[go_sem,Nat.reduceEqDiff,reduceCtorEq,Nat.reduceAdd,Nat.reduceSub,Nat.reduceMul,Nat.reduceLeDiff,Nat.reduceLT,Int.reduceLE,Int.reduceToNat,Int.reduceNeg,↓reduceIte];rfl) ?_ ?_
                 ·intro g;clear g;repeat'(first|exact trivial|refine eS rfl ?_|refine AB ?_|refine rX f ?_ ?_)
                  ·exact CY
                  ·refine⟨⟨(k,t+1,c),by simp only;omega,by simp only;omega,n,o⟩,by simp only;omega,AC [(1000000,.nm 1000000)] rfl rfl ?_ ?_⟩
                   ·first|exact eN|refine eM ?_
                   ·first|exact eN|refine eM ?_
                 ·intro g;clear g;have v:ED (0,0) k b c (CX (0,0) c j (j-1)):=ED.swap c (by omega) (by omega) (by omega) (by omega) (by omega);have B:CX (0,0) c j (j-1)=(c.set j (c.getD (j-1) (0,0))).set (j-1) (c.getD j (0,0)):=rfl;repeat'(first|exact trivial|refine eS rfl ?_|refine AB ?_|refine rP f ?_ ?_|fail)
                  (refine B3 drawsAny f 16 [([0,1,5,6,7,8,9,10,11,12,13,14],15)] [2,3,4] (by kernel_rfl) (Ls ?_ ?_);(next=>exact CY);refine Ns f [] ?_ ?_;(next=>exact CY);refine Pp f ?_ ?_ ?_;(next=>exact CY);(next=>exact CY))
                  rw[C,←B];repeat'(first|exact trivial|refine eS rfl ?_|refine AB ?_|refine rX f ?_ ?_)
                  ·exact CY
                  ·refine⟨⟨(j+1,CX (0,0) c j (j-1)),by simp only;omega,n.trans (v.mono (by omega) (Is _)),NM o fun x ap aq=>v.out x (by omega)⟩,by simp only;omega,AC [(1000000,.nm 1000000)] rfl rfl ?_ ?_⟩
                   ·first|exact eN|refine eM ?_
                   ·first|exact eN|refine eM ?_
               ·repeat'(first|exact trivial|refine eS rfl ?_|refine AB ?_|refine rX f ?_ ?_)
                ·exact CY
                ·refine⟨⟨(k,t+1,c),by simp only;omega,by simp only;omega,n,o⟩,by simp only;omega,AC [(1000000,.nm 1000000)] rfl rfl ?_ ?_⟩
                 ·first|exact eN|refine eM ?_
                 ·first|exact eN|refine eM ?_
            ·repeat'(first|exact trivial|refine eS rfl ?_|refine AB ?_|refine rX f ?_ ?_)
             ·exact CY
             ·refine⟨⟨(k,t+1,c),by simp only;omega,by simp only;omega,n,o⟩,by simp only;omega,AC [(1000000,.nm 1000000)] rfl rfl ?_ ?_⟩
              ·first|exact eN|refine eM ?_
              ·first|exact eN|refine eM ?_
   ·repeat'(first|exact trivial|refine eS rfl ?_|refine AB ?_|refine rX f ?_ ?_|refine rC ?_ ?_<;>intro q<;>try(cases q;done))
    exact fM f [.tmp 8] (.p .bool false) eT ⟨false,m,rfl,rfl,u,fun h=>by cases h⟩
end
section
attribute [local go_sem] DA
def Gn (l:List (Int×Int)) (s:Nat):List (Nat×Obj):=[(1000000,.arr 53 BE l),(70,.box 3 false [.p T3 (s:Int)])]
theorem VU (l:List (Int×Int)) (a b s:Nat) (f:a<l.length) (g:b<l.length) (hs:s≤1000):BA Tryz.prog 185 [.sr 1000000 BE 0 l.length,.p T3 (a:Int),.p T3 (b:Int),.bp 70 [] 0,.fn 116] (Gn l s) [1000000,70] (fun res e=>∃x y t:Nat,res=.tup [.p T3 (x:Int),.p T3 (y:Int)]∧e=Gn l t∧((x=a∧y=b)∨(x=b∧y=a))∧t≤s+1):=by
 refine J1 [0,1,2,3,4,10,11,22] [] [] Tryz.func185 Tryz.ntmps185 (AF FB AG) ?_;intro w0 K O0 ρ0 c h i;simp only[Ah,Gn];repeat'(first|exact trivial|refine eS rfl ?_|refine AB ?_|refine rX c ?_ ?_|refine rC ?_ ?_<;>intro d<;>try(cases d;done))
 ·exact CY
 ·exact CY
 ·refine fM c [.tmp 10,.tmp 11] (.tup [.p T3 (b:Int),.p T3 (a:Int)]) eT ⟨b,a,s+1,rfl,?_,.inr ⟨rfl,rfl⟩,Is _⟩;rw[show ((s+1:Nat):Int)=(s:Int)+1 by omega]
 ·exact fM c [.tmp 10,.tmp 11] (.tup [.p T3 (a:Int),.p T3 (b:Int)]) eT ⟨a,b,s,rfl,rfl,.inl ⟨rfl,rfl⟩,by omega⟩
theorem Zf (l:List (Int×Int)) (a b c s:Nat) (j:a<l.length) (k:b<l.length) (cl:c<l.length) (hs:s≤900):BA Tryz.prog 182 [.sr 1000000 BE 0 l.length,.p T3 (a:Int),.p T3 (b:Int),.p T3 (c:Int),.bp 70 [] 0,.fn 116] (Gn l s) [1000000,70] (fun res m=>∃x t:Nat,res=.p T3 (x:Int)∧m=Gn l t∧(x=a∨x=b∨x=c)∧t≤s+3):=by
 refine J1 [0,1,2,3,4,5,12] [] [] Tryz.func182 Tryz.ntmps182 AG ?_;intro w0 K O0 ρ0 d q r;simp only[Ah,Gn];repeat'(first|exact trivial|refine eS rfl ?_|refine AB ?_|refine rX d ?_ ?_|refine rC ?_ ?_<;>intro e<;>try(cases e;done))
 refine cP 5 d ?_ ?_
 ·trivial
 ·refine rM d (VU l a b s j k (by omega)) [(1000000,.nm 1000000),(70,.nm 70)] [] ?_ ?_ ?_
  ·first|exact eN|refine eM ?_
  ·simp only[Gn];first|exact eN|refine eM ?_
  ·rintro _ _ ⟨g,b1,s1,rfl,rfl,h1,u⟩;refine⟨[(1000000,.nm 1000000),(70,.nm 70)],.tup [.p T3 (g:Int),.p T3 (b1:Int)],[(1000000,.arr 53 BE l),(70,.box 3 false [.p T3 (s1:Int)])],rfl,rfl,?_,?_,rfl,rfl,?_⟩
   ·simp only[Gn];first|exact eN|refine eM ?_
   ·first|exact eN|refine eM ?_
   ·refine rL d ?_ ?_
    ·trivial
    ·repeat'(first|exact trivial|refine eS rfl ?_|refine AB ?_|refine rX d ?_ ?_|refine rC ?_ ?_<;>intro e<;>try(cases e;done))
     refine cP 5 d ?_ ?_
     ·trivial
     ·refine rM d (VU l b1 c s1 (by omega) cl (by omega)) [(1000000,.nm 1000000),(70,.nm 70)] [] ?_ ?_ ?_
      ·first|exact eN|refine eM ?_
      ·simp only[Gn];first|exact eN|refine eM ?_
      ·rintro _ _ ⟨b2,c2,s2,rfl,rfl,n,v⟩;refine⟨[(1000000,.nm 1000000),(70,.nm 70)],.tup [.p T3 (b2:Int),.p T3 (c2:Int)],[(1000000,.arr 53 BE l),(70,.box 3 false [.p T3 (s2:Int)])],rfl,rfl,?_,?_,rfl,rfl,?_⟩
       ·simp only[Gn];first|exact eN|refine eM ?_
       ·first|exact eN|refine eM ?_
       ·refine rL d ?_ ?_
        ·trivial
        ·repeat'(first|exact trivial|refine eS rfl ?_|refine AB ?_|refine rX d ?_ ?_|refine rC ?_ ?_<;>intro e<;>try(cases e;done))
         refine cP 5 d ?_ ?_
         ·trivial
         ·refine rM d (VU l g b2 s2 (by omega) (by omega) (by omega)) [(1000000,.nm 1000000),(70,.nm 70)] [] ?_ ?_ ?_
          ·first|exact eN|refine eM ?_
          ·simp only[Gn];first|exact eN|refine eM ?_
          ·rintro _ _ ⟨i,f,h,rfl,rfl,o,w⟩;refine⟨[(1000000,.nm 1000000),(70,.nm 70)],.tup [.p T3 (i:Int),.p T3 (f:Int)],[(1000000,.arr 53 BE l),(70,.box 3 false [.p T3 (h:Int)])],rfl,rfl,?_,?_,rfl,rfl,?_⟩
           ·simp only[Gn];first|exact eN|refine eM ?_
           ·first|exact eN|refine eM ?_
           ·refine rL d ?_ ?_
            ·trivial
            ·repeat'(first|exact trivial|refine eS rfl ?_|refine AB ?_|refine rX d ?_ ?_|refine rC ?_ ?_<;>intro e<;>try(cases e;done))
             exact fM d [.tmp 12] (.p T3 (f:Int)) eT ⟨f,h,rfl,rfl,by omega,by omega⟩
theorem Zg (l:List (Int×Int)) (b s:Nat) (g:1≤b) (d:b+1<l.length) (h:l.length≤100000) (hs:s≤900):BA Tryz.prog 181 [.sr 1000000 BE 0 l.length,.p T3 (b:Int),.bp 70 [] 0,.fn 116] (Gn l s) [1000000,70] (fun res f=>∃x t:Nat,res=.p T3 (x:Int)∧f=Gn l t∧(b-1≤x∧x≤b+1)∧t≤s+3):=by
 refine J1 [0,1,2,3,8] [] [] Tryz.func181 Tryz.ntmps181 AG ?_;intro w0 K O0 ρ0 a i j;simp only[Ah,Gn];have key:=Zf l (b-1) b (b+1) s (by omega) (by omega) d hs;rw[show ((b-1:Nat):Int)=(b:Int)-1 by omega,show ((b+1:Nat):Int)=(b:Int)+1 by omega]at key;repeat'(first|exact trivial|refine eS rfl ?_|refine AB ?_|refine rX a ?_ ?_|refine rC ?_ ?_<;>intro c<;>try(cases c;done))
 refine cP 8 a ?_ ?_
 ·exact CY
 ·refine rM a (key) [(1000000,.nm 1000000),(70,.nm 70)] [] ?_ ?_ ?_
  ·first|exact eN|refine eM ?_
  ·simp only[Gn];first|exact eN|refine eM ?_
  ·rintro _ _ ⟨x,t,rfl,rfl,k,e⟩;refine⟨[(1000000,.nm 1000000),(70,.nm 70)],.p T3 (x:Int),[(1000000,.arr 53 BE l),(70,.box 3 false [.p T3 (t:Int)])],rfl,rfl,?_,?_,rfl,rfl,?_⟩
   ·simp only[Gn];first|exact eN|refine eM ?_
   ·first|exact eN|refine eM ?_
   ·refine rL a ?_ ?_
    ·trivial
    ·repeat'(first|exact trivial|refine eS rfl ?_|refine AB ?_|refine rX a ?_ ?_|refine rC ?_ ?_<;>intro c<;>try(cases c;done))
     exact fM a [.tmp 8] (.p T3 (x:Int)) eT ⟨x,t,rfl,rfl,by omega,e⟩
theorem A4Y (l:List (Int×Int)) (k:l.length≤100000) (a b:Nat) (z:a+13≤b) (A:b≤l.length):BA Tryz.prog 169 [.sr 1000000 BE 0 l.length,.p T3 (a:Int),.p T3 (b:Int),.fn 116] [(1000000,.arr 53 BE l)] [1000000] (fun res y=>∃(j:Nat) (h:Int),res=.tup [.p T3 (j:Int),.p T3 h]∧y=[(1000000,.arr 53 BE l)]∧a≤j∧j<b):=by
 refine J1 [0,1,2,3,8,9,10,11,12,13,14,34,36,55,57,60] [] [] Tryz.func169 Tryz.ntmps169 AG ?_;intro w0 K O0 ρ0 c B C;simp only[Ah];obtain⟨t,v⟩:∃t,t=(b-a) / 4:=⟨_,rfl⟩;have et:((b:Int)-(a:Int)).tdiv 4=(t:Int):=by
  rw[AAG (by omega)];omega
 have G:4*t≤b-a:=by omega
 have H:3≤t:=by omega
 clear v
 (refine eS rfl ?_;refine rX c ?_ ?_;(next=>first|exact trivial|exact CY))
 (refine eS rfl ?_;refine rX c ?_ ?_;(next=>first|exact trivial|exact CY))
 (refine eS rfl ?_;refine rX c ?_ ?_;(next=>first|exact trivial|exact CY))
 (refine eS rfl ?_;refine rX c ?_ ?_;(next=>first|exact trivial|exact CY|(rw[et];refine⟨⟨by decide,?_⟩,?_,?_⟩<;>omega)))
 (refine eS rfl ?_;refine rX c ?_ ?_;(next=>first|exact trivial|exact CY|(rw[et];refine⟨⟨by decide,?_⟩,?_,?_⟩<;>omega)))
 (refine eS rfl ?_;refine rX c ?_ ?_;(next=>first|exact trivial|exact CY|(rw[et];refine⟨⟨by decide,?_⟩,?_,?_⟩<;>omega)))
 rw[et,show (a:Int)+(t:Int)*1=((a+t:Nat):Int) by omega,show (a:Int)+(t:Int)*2=((a+t*2:Nat):Int) by omega,show (a:Int)+(t:Int)*3=((a+t*3:Nat):Int) by omega];refine IR ?_;refine Pf (ι:={x:Nat×Nat//a≤x.1∧x.1<b}) (fun x=>⟨[(11,.bp 11 [] 0),(13,.p T3 (x.1.1:Int))],[(1000000,.arr 53 BE l),(11,.box 3 false [.p T3 (x.1.2:Int)])]⟩) ?_ (fun x=>?_)
 ·repeat'(first|exact trivial|refine eS rfl ?_|refine AB ?_|refine rX c ?_ ?_)
  refine rC (fun i=>?_) (fun i=>?_)
  ·repeat'(first|exact trivial|refine eS rfl ?_|refine AB ?_|refine rX c ?_ ?_)
   refine rC (fun r=>?_) (fun r=>?_)
   ·repeat'(first|exact trivial|refine eS rfl ?_|refine AB ?_|refine rP c ?_ ?_|fail)
    refine cP 3 c ?_ ?_
    ·trivial
    ·refine rM c (Zg l (a+t) 0 (by omega) (by omega) k (by omega)) [(1000000,.nm 1000000),(70,.nm 11)] [] ?_ ?_ ?_
     ·first|exact eN|refine eM ?_
     ·simp only[Gn];first|exact eN|refine eM ?_
     ·rintro _ _ ⟨n,s1,rfl,rfl,I,D⟩;refine⟨[(1000000,.nm 1000000),(11,.nm 70)],.p T3 (n:Int),[(1000000,.arr 53 BE l),(11,.box 3 false [.p T3 (s1:Int)])],rfl,rfl,?_,?_,rfl,rfl,?_⟩
      ·simp only[Gn];first|exact eN|refine eM ?_
      ·first|exact eN|refine eM ?_
      ·refine rL c ?_ ?_
       ·trivial
       ·repeat'(first|exact trivial|refine eS rfl ?_|refine AB ?_|refine rX c ?_ ?_)
        refine cP 3 c ?_ ?_
        ·trivial
        ·refine rM c (Zg l (a+t*2) s1 (by omega) (by omega) k (by omega)) [(1000000,.nm 1000000),(70,.nm 11)] [] ?_ ?_ ?_
         ·first|exact eN|refine eM ?_
         ·simp only[Gn];first|exact eN|refine eM ?_
         ·rintro _ _ ⟨o,s2,rfl,rfl,J,E⟩;refine⟨[(1000000,.nm 1000000),(11,.nm 70)],.p T3 (o:Int),[(1000000,.arr 53 BE l),(11,.box 3 false [.p T3 (s2:Int)])],rfl,rfl,?_,?_,rfl,rfl,?_⟩
          ·simp only[Gn];first|exact eN|refine eM ?_
          ·first|exact eN|refine eM ?_
          ·refine rL c ?_ ?_
           ·trivial
           ·repeat'(first|exact trivial|refine eS rfl ?_|refine AB ?_|refine rX c ?_ ?_)
            refine cP 3 c ?_ ?_
            ·trivial
            ·refine rM c (Zg l (a+t*3) s2 (by omega) (by omega) k (by omega)) [(1000000,.nm 1000000),(70,.nm 11)] [] ?_ ?_ ?_
             ·first|exact eN|refine eM ?_
             ·simp only[Gn];first|exact eN|refine eM ?_
             ·rintro _ _ ⟨q,m,rfl,rfl,L,F⟩;refine⟨[(1000000,.nm 1000000),(11,.nm 70)],.p T3 (q:Int),[(1000000,.arr 53 BE l),(11,.box 3 false [.p T3 (m:Int)])],rfl,rfl,?_,?_,rfl,rfl,?_⟩
              ·simp only[Gn];first|exact eN|refine eM ?_
              ·first|exact eN|refine eM ?_
              ·refine rL c ?_ ?_
               ·trivial
               ·repeat'(first|exact trivial|refine eS rfl ?_|refine AB ?_|refine rX c ?_ ?_)
                refine cP 5 c ?_ ?_
                ·trivial
                ·refine rM c (Zf l (n) (o) (q) m (by omega) (by omega) (by omega) (by omega)) [(1000000,.nm 1000000),(70,.nm 11)] [] ?_ ?_ ?_
                 ·first|exact eN|refine eM ?_
                 ·simp only[Gn];first|exact eN|refine eM ?_
                 ·rintro _ _ ⟨e,d,rfl,rfl,w,u⟩;refine⟨[(1000000,.nm 1000000),(11,.nm 70)],.p T3 (e:Int),[(1000000,.arr 53 BE l),(11,.box 3 false [.p T3 (d:Int)])],rfl,rfl,?_,?_,rfl,rfl,?_⟩
                  ·simp only[Gn];first|exact eN|refine eM ?_
                  ·first|exact eN|refine eM ?_
                  ·refine rL c ?_ ?_
                   ·trivial
                   ·repeat'(first|exact trivial|refine eS rfl ?_|refine AB ?_|refine rX c ?_ ?_)
                    refine⟨⟨(e,d),by simp only;omega,by simp only;omega⟩,AC [(1000000,.nm 1000000),(11,.nm 11)] rfl rfl ?_ ?_⟩
                    ·first|exact eN|refine eM ?_
                    ·first|exact eN|refine eM ?_
   ·repeat'(first|exact trivial|refine eS rfl ?_|refine AB ?_|refine rP c ?_ ?_|fail)
    refine cP 5 c ?_ ?_
    ·trivial
    ·refine rM c (Zf l (a+t) (a+t*2) (a+t*3) 0 (by omega) (by omega) (by omega) (by omega)) [(1000000,.nm 1000000),(70,.nm 11)] [] ?_ ?_ ?_
     ·first|exact eN|refine eM ?_
     ·simp only[Gn];first|exact eN|refine eM ?_
     ·rintro _ _ ⟨e,d,rfl,rfl,w,u⟩;refine⟨[(1000000,.nm 1000000),(11,.nm 70)],.p T3 (e:Int),[(1000000,.arr 53 BE l),(11,.box 3 false [.p T3 (d:Int)])],rfl,rfl,?_,?_,rfl,rfl,?_⟩
      ·simp only[Gn];first|exact eN|refine eM ?_
      ·first|exact eN|refine eM ?_
      ·refine rL c ?_ ?_
       ·trivial
       ·repeat'(first|exact trivial|refine eS rfl ?_|refine AB ?_|refine rX c ?_ ?_)
        refine⟨⟨(e,d),by simp only;omega,by simp only;omega⟩,AC [(1000000,.nm 1000000),(11,.nm 11)] rfl rfl ?_ ?_⟩
        ·first|exact eN|refine eM ?_
        ·first|exact eN|refine eM ?_
  ·exfalso;omega
 ·obtain⟨⟨j,s⟩,f,g⟩:=x;simp only at f g ⊢;repeat'(first|exact trivial|refine eS rfl ?_|refine AB ?_|refine rX c ?_ ?_|refine rC ?_ ?_<;>intro i<;>try(cases i;done))
  ·refine Ev.ent (σ':=⟨[(8,.p T3 (j:Int)),(9,.p T3 (1:Int))],[(1000000,.arr 53 BE l)]⟩) ?_ (AC [(1000000,.nm 1000000)] rfl rfl ?_ ?_)
   ·exact fM c [.tmp 8,.tmp 9] (.tup [.p T3 (j:Int),.p T3 (1:Int)]) eT ⟨j,1,rfl,rfl,f,g⟩
   ·first|exact eN|refine eM ?_
   ·first|exact eN|refine eM ?_
  ·refine Ev.ent (σ':=⟨[(8,.p T3 (j:Int)),(9,.p T3 (2:Int))],[(1000000,.arr 53 BE l)]⟩) ?_ (AC [(1000000,.nm 1000000)] rfl rfl ?_ ?_)
   ·exact fM c [.tmp 8,.tmp 9] (.tup [.p T3 (j:Int),.p T3 (2:Int)]) eT ⟨j,2,rfl,rfl,f,g⟩
   ·first|exact eN|refine eM ?_
   ·first|exact eN|refine eM ?_
  ·refine Ev.ent (σ':=⟨[(8,.p T3 (j:Int)),(9,.p T3 (0:Int))],[(1000000,.arr 53 BE l)]⟩) ?_ (AC [(1000000,.nm 1000000)] rfl rfl ?_ ?_)
   ·exact fM c [.tmp 8,.tmp 9] (.tup [.p T3 (j:Int),.p T3 (0:Int)]) eT ⟨j,0,rfl,rfl,f,g⟩
   ·first|exact eN|refine eM ?_
   ·first|exact eN|refine eM ?_
end
theorem A4Z (x y:Int) (h0:0≤y) (h1:y<4611686018427387904):0≤CB .and .u64 x y∧CB .and .u64 x y≤y:=by
 have e:(IntKind.u64).bits=64:=rfl;have a:(BitVec.ofInt 64 y).toNat=y.toNat:=by
  rw[BitVec.toNat_ofInt];omega
 have d:(BitVec.ofInt 64 x &&& BitVec.ofInt 64 y).toNat≤y.toNat:=by
  rw[BitVec.toNat_and,a];exact Nat.and_le_right
 have b:CB .and .u64 x y=IntKind.u64.wrap (((BitVec.ofInt 64 x &&& BitVec.ofInt 64 y).toNat:Nat):Int):=rfl;rw[b];generalize (BitVec.ofInt 64 x &&& BitVec.ofInt 64 y).toNat=z at *;have c:IntKind.u64.wrap (z:Int)=(z:Int):=by
  have f:(z:Int)<18446744073709551616:=by omega
  have:IntKind.u64.wrap (z:Int)=(z:Int) % 18446744073709551616:=by
   first|rfl|(simp[IntKind.wrap];done)
  rw[this];omega
 rw[c];omega
theorem A9u (z:Int):0≤IntKind.u64.wrap z∧IntKind.u64.wrap z≤18446744073709551615:=by
 have:IntKind.u64.wrap z=z % 18446744073709551616:=by
  first|rfl|(simp[IntKind.wrap];done)
 omega
theorem i8 (x y:Int):0≤CB .xor .u64 x y∧CB .xor .u64 x y≤18446744073709551615:=A9u _
theorem A2f {x:Int} (h0:0≤x) (h1:x≤18446744073709551615):0≤WY .u64 x 7∧WY .u64 x 7≤18446744073709551615:=by
 show 0≤x.fdiv 128∧x.fdiv 128≤18446744073709551615;rw[ABW _ (by decide)];omega
theorem wA (x:Int) (h0:0≤x) (h1:x<256):BA Tryz.prog 175 [.p (.int .u64) x] [] [] (fun res f=>(∃n:Nat,res=.p T3 (n:Int)∧n≤8∧(1≤x.toNat→x.toNat<2 ^ n∧2 ^ n≤2*x.toNat))∧f=[]):=by
 refine J1 [0,2,4,8,14] [] [] Tryz.func175 Tryz.ntmps175 AG ?_;intro w0 K O0 ρ0 b g h;simp only[Ah];repeat'(first|exact trivial|refine eS rfl ?_|refine AB ?_|refine rX b ?_ ?_|refine rC ?_ ?_<;>intro a<;>try(cases a;done))
 all_goals first|(exfalso;omega)|skip
 refine MS [0,2] b rfl (by simp only[go_sem,Nat.reduceEqDiff,reduceCtorEq,Nat.reduceAdd,Nat.reduceSub,Nat.reduceMul,Nat.reduceLeDiff,Nat.reduceLT,Int.reduceLE,Int.reduceToNat,Int.reduceNeg,↓reduceIte,ByteArray.size,List.size_toArray,AO];rfl) ?_ ?_
 ·have hu:∀u:UInt8,((u.toNat:Nat):Int)≤255:=fun u=>by have:=u.toNat_lt;omega
  have c:0≤x:=by omega
  refine⟨⟨c,by omega⟩,⟨c,?_⟩,⟨?_,?_⟩,?_,?_⟩
  ·have d:x<((256:Nat):Int):=h1;exact d
  ·exact ABj (by decide) (AA1 _)
  ·exact ABj (hu _) (by decide)
  ·rw[Int.zero_add];exact ABj (by decide) (AA1 _)
  ·rw[Int.zero_add];exact ABj (hu _) (by decide)
 ·repeat'(first|exact trivial|refine eS rfl ?_|refine AB ?_|refine rX b ?_ ?_|refine rC ?_ ?_<;>intro a<;>try(cases a;done))
  refine fM b [.tmp 2] (.p T3 _) (by simp only[UE,uK,Q5,XL,Hv,LA,Jx,go_sem,Nat.reduceEqDiff,reduceCtorEq,Nat.reduceAdd,Nat.reduceSub,Nat.reduceMul,Nat.reduceLeDiff,Nat.reduceLT,Int.reduceLE,Int.reduceToNat,Int.reduceNeg,↓reduceIte];rfl) ⟨⟨_,by rw[Int.zero_add],?_⟩,rfl⟩;have e:x.toNat<256:=by omega
  generalize x.toNat=k at *;clear a;revert e;revert k;decide
theorem sF (x:Int) (h0:0≤x) (h1:x<256):BA Tryz.prog 164 [.p (.int .u64) x] [] [] (fun res d=>(∃n:Nat,res=.p T3 (n:Int)∧n≤8∧(1≤x.toNat→x.toNat<2 ^ n∧2 ^ n≤2*x.toNat))∧d=[]):=by
 refine J1 [0,2] [] [] Tryz.func164 Tryz.ntmps164 AG ?_;intro w0 K O0 ρ0 a e f;simp only[Ah];repeat'(first|exact trivial|refine eS rfl ?_|refine AB ?_|refine rX a ?_ ?_|refine rC ?_ ?_<;>intro b<;>try(cases b;done))
 refine cP 1 a ?_ ?_
 ·trivial
 ·refine rM a (wA x h0 h1) [] [] ?_ ?_ ?_
  ·exact eN
  ·exact eN
  ·rintro _ _ ⟨⟨n,rfl,c⟩,rfl⟩;refine⟨[],.p T3 (n:Int),[],rfl,rfl,?_,?_,rfl,rfl,?_⟩
   ·exact eN
   ·exact eN
   ·refine rL a ?_ ?_
    ·trivial
    ·repeat'(first|exact trivial|refine eS rfl ?_|refine AB ?_|refine rX a ?_ ?_|refine rC ?_ ?_<;>intro b<;>try(cases b;done))
     exact fM a [.tmp 2] (.p T3 (n:Int)) eT ⟨⟨n,rfl,c⟩,rfl⟩
theorem A50 (x:Int) (h0:1≤x) (h1:x<256):BA Tryz.prog 179 [.p T3 x] [] [] (fun res g=>(∃m:Nat,res=.p (.int .u64) (m:Int)∧x.toNat<m∧m≤2*x.toNat)∧g=[]):=by
 refine J1 [0,2] [] [] Tryz.func179 Tryz.ntmps179 AG ?_;intro w0 K O0 ρ0 a i j;simp only[Ah];repeat'(first|exact trivial|refine eS rfl ?_|refine AB ?_|refine rX a ?_ ?_|refine rC ?_ ?_<;>intro b<;>try(cases b;done))
 refine cP 2 a ?_ ?_
 ·exact CY
 ·refine rM a (sF x (by omega) h1) [] [] ?_ ?_ ?_
  ·exact eN
  ·exact eN
  ·rintro _ _ ⟨⟨n,rfl,h,f⟩,rfl⟩;obtain⟨c,d⟩:=f (by omega);refine⟨[],.p T3 (n:Int),[],rfl,rfl,?_,?_,rfl,rfl,?_⟩
   ·exact eN
   ·exact eN
   ·refine rL a ?_ ?_
    ·trivial
    ·have e:Sh .u64 1 (n:Int)=((2 ^ n:Nat):Int):=by
      clear c d;have:∀n:Fin 9,Sh .u64 1 ((n.val:Nat):Int)=((2 ^ n.val:Nat):Int):=by decide
      exact this ⟨n,by omega⟩
     rw[e];repeat'(first|exact trivial|refine eS rfl ?_|refine AB ?_|refine rX a ?_ ?_|refine rC ?_ ?_<;>intro b<;>try(cases b;done))
     exact fM a [.tmp 2] (.p (.int .u64) ((2 ^ n:Nat):Int)) eT ⟨⟨_,rfl,c,d⟩,rfl⟩
theorem A51 (s:Int) (hs:0≤s∧s≤18446744073709551615):BA Tryz.prog 180 [.bp 70 [] 0] [(70,.box 213 false [.p (.int .u64) s])] [70] (fun res c=>∃v:Int,(0≤v∧v≤18446744073709551615)∧res=.p (.int .u64) v∧c=[(70,.box 213 false [.p (.int .u64) v])]):=by
 refine J1 [0,2] [] [] Tryz.func180 Tryz.ntmps180 AG ?_;intro w0 K O0 ρ0 a d e;simp only[Ah];repeat'(first|exact trivial|refine eS rfl ?_|refine AB ?_|refine rX a ?_ ?_|refine rC ?_ ?_<;>intro b<;>try(cases b;done))
 ·have:=i8 s (Sh .u64 s 13);exact A2f this.1 this.2
 ·exact fM a [.tmp 2] (.p (.int .u64) _) eT ⟨_,i8 _ _,rfl,rfl⟩
section
attribute [local go_sem] DA
theorem A52 (l:List (Int×Int)) (J:l.length<256) (a b:Nat) (F:a+8≤b) (H:b≤l.length):BA Tryz.prog 168 [.sr 1000000 BE 0 l.length,.p T3 (a:Int),.p T3 (b:Int),.fn 116] [(1000000,.arr 53 BE l)] [1000000] (fun res E=>res=.raw (.tuple #[])∧∃r,E=[(1000000,.arr 53 BE r)]∧ED (0,0) a b l r):=by
 refine J1 [0,1,2,8,9,10,11,12,17,35,45] [] [] Tryz.func168 Tryz.ntmps168 AG ?_;intro w0 K O0 ρ0 d L M;simp only[Ah];obtain⟨n,hn⟩:∃n,b=a+n:=⟨b-a,by omega⟩;subst hn;have en:((a+n:Nat):Int)-(a:Int)=(n:Int):=by omega
 obtain⟨t,D⟩:∃t,t=n / 4:=⟨_,rfl⟩;have et:(n:Int).tdiv 4=(t:Int):=by
  rw[AAG (by omega)];omega
 have N:4*t≤n:=by omega
 have O:2≤t:=by omega
 clear D
 (refine eS rfl ?_;refine rX d ?_ ?_;(next=>first|exact trivial|exact CY))
 rw[en];repeat'(first|exact trivial|refine eS rfl ?_|refine AB ?_|refine rX d ?_ ?_)
 refine rC (fun e=>?_) (fun e=>?_)
 ·repeat'(first|exact trivial|refine eS rfl ?_|refine AB ?_|refine rX d ?_ ?_)
  ·exact CY
  ·refine cP 1 d ?_ ?_
   ·trivial
   ·refine rM d (A50 (n:Int) (by omega) (by omega)) [] [] ?_ ?_ ?_
    ·first|exact eN|refine eM ?_
    ·first|exact eN|refine eM ?_
    ·rintro _ _ ⟨⟨m,rfl,A,B⟩,rfl⟩;rw[iN]at A B;refine⟨[],.p (.int .u64) (m:Int),[],rfl,rfl,?_,?_,rfl,rfl,?_⟩
     ·first|exact eN|refine eM ?_
     ·first|exact eN|refine eM ?_
     ·refine rL d ?_ ?_
      ·trivial
      ·repeat'(first|exact trivial|refine eS rfl ?_|refine AB ?_|refine rX d ?_ ?_)
       ·rw[et];refine⟨⟨by decide,?_⟩,?_,?_,?_⟩<;>omega
       ·rw[et,show (a:Int)+(t:Int)*2-1=((a+t*2-1:Nat):Int) by omega];refine AH (ι:={s:Nat×Int×List (Int×Int)//(a≤s.1∧s.1≤a+t*2+2)∧(0≤s.2.1∧s.2.1≤18446744073709551615)∧ED (0,0) a (a+n) l s.2.2}) (fun s=>⟨[(0,.sr 1000000 BE 0 l.length),(1,.p T3 (a:Int)),(8,.p (.int .i64) (n:Int)),(9,.bp 9 [] 0),(10,.p (.int .u64) (m:Int)),(11,.p (.int .i64) (s.1.1:Int))],[(1000000,.arr 53 BE s.1.2.2),(9,.box 213 false [.p (.int .u64) s.1.2.1])]⟩) (fun s=>a+t*2+2-s.1.1) ⟨(a+t*2-1,(n:Int),l),by simp only;omega,by simp only;omega,ED.refl _ _ l⟩ (AC [(1000000,.nm 1000000),(9,.nm 9)] rfl rfl ?_ ?_) (fun s=>?_)
        ·first|exact eN|refine eM ?_
        ·first|exact eN|refine eM ?_
        ·obtain⟨⟨i,x,c⟩,⟨y,z⟩,q,hp⟩:=s;simp only at y z q hp ⊢;have I:=hp.len;repeat'(first|exact trivial|refine eS rfl ?_|refine AB ?_|refine rX d ?_ ?_)
         ·rw[et];refine⟨⟨by decide,?_⟩,?_,?_,?_⟩<;>omega
         ·rw[et];refine rC (fun u=>?_) (fun u=>?_)
          ·refine eS rfl ?_;refine cP 0 d ?_ ?_
           ·trivial
           ·refine rM d (A51 x q) [(70,.nm 9)] [] ?_ ?_ ?_
            ·first|exact eN|refine eM ?_
            ·first|exact eN|refine eM ?_
            ·rintro _ _ ⟨v,k,rfl,rfl⟩;refine⟨[(9,.nm 70)],.p (.int .u64) v,[(9,.box 213 false [.p (.int .u64) v])],rfl,rfl,?_,?_,rfl,rfl,?_⟩
             ·first|exact eN|refine eM ?_
             ·first|exact eN|refine eM ?_
             ·have G:=A4Z v ((m:Int)-1) (by omega) (by omega);refine rL d ?_ ?_
              ·exact⟨by omega,by omega⟩
              ·generalize CB .and .u64 v ((m:Int)-1)=r at *;repeat'(first|exact trivial|refine eS rfl ?_|refine AB ?_|refine rX d ?_ ?_)
               refine rC (fun w=>?_) (fun w=>?_)
               ·obtain⟨o,g⟩:∃o:Nat,r-(n:Int)=(o:Int):=⟨(r-(n:Int)).toNat,by omega⟩;have C:o<n:=by omega
                refine rX d ?_ ?_
                ·exact CY
                ·rw[g];have h:ED (0,0) a (a+n) c (CX (0,0) c i (a+o)):=ED.swap c (by omega) (by omega) (by omega) (by omega) (by omega);have j:CX (0,0) c i (a+o)=(c.set i (c.getD (a+o) (0,0))).set (a+o) (c.getD i (0,0)):=rfl;have f:((a:Int)+(o:Int)).toNat=a+o:=by omega
                 repeat'(first|exact trivial|refine eS rfl ?_|refine AB ?_|refine rP d ?_ ?_|fail)
                 (refine B3 drawsAny d 18 [([0,1,6,7,8,9,10,11,12,13,14,15,16],17)] [2,3,4,5] (by kernel_rfl) (Ls ?_ ?_);(next=>exact CY);refine Ns d [] ?_ ?_;(next=>exact CY);refine Pp d ?_ ?_ ?_;(next=>exact CY);(next=>exact CY))
                 rw[f,←j];repeat'(first|exact trivial|refine eS rfl ?_|refine AB ?_|refine rX d ?_ ?_)
                 ·exact CY
                 ·refine⟨⟨(i+1,v,CX (0,0) c i (a+o)),by simp only;omega,k,hp.trans h⟩,by simp only;omega,AC [(1000000,.nm 1000000),(9,.nm 9)] rfl rfl ?_ ?_⟩
                  ·first|exact eN|refine eM ?_
                  ·first|exact eN|refine eM ?_
               ·obtain⟨o,g⟩:∃o:Nat,r=(o:Int):=⟨r.toNat,by omega⟩;subst g;have C:o<n:=by omega
                have h:ED (0,0) a (a+n) c (CX (0,0) c i (a+o)):=ED.swap c (by omega) (by omega) (by omega) (by omega) (by omega);have j:CX (0,0) c i (a+o)=(c.set i (c.getD (a+o) (0,0))).set (a+o) (c.getD i (0,0)):=rfl;have f:((a:Int)+(o:Int)).toNat=a+o:=by omega
                repeat'(first|exact trivial|refine eS rfl ?_|refine AB ?_|refine rP d ?_ ?_|fail)
                (refine B3 drawsAny d 18 [([0,1,6,7,8,9,10,11,12,13,14,15,16],17)] [2,3,4,5] (by kernel_rfl) (Ls ?_ ?_);(next=>exact CY);refine Ns d [] ?_ ?_;(next=>exact CY);refine Pp d ?_ ?_ ?_;(next=>exact CY);(next=>exact CY))
                rw[f,←j];repeat'(first|exact trivial|refine eS rfl ?_|refine AB ?_|refine rX d ?_ ?_)
                ·exact CY
                ·refine⟨⟨(i+1,v,CX (0,0) c i (a+o)),by simp only;omega,k,hp.trans h⟩,by simp only;omega,AC [(1000000,.nm 1000000),(9,.nm 9)] rfl rfl ?_ ?_⟩
                 ·first|exact eN|refine eM ?_
                 ·first|exact eN|refine eM ?_
          ·repeat'(first|exact trivial|refine eS rfl ?_|refine AB ?_|refine rX d ?_ ?_|refine rC ?_ ?_<;>intro e<;>try(cases e;done))
           refine Ev.ent (σ':=⟨[],[(1000000,.arr 53 BE c)]⟩) ?_ (AC [(1000000,.nm 1000000)] rfl rfl ?_ ?_)
           ·exact fM d [] (.raw (.tuple #[])) rfl ⟨rfl,c,rfl,hp⟩
           ·first|exact eN|refine eM ?_
           ·first|exact eN|refine eM ?_
 ·exfalso;omega
end
end Go.Proofs.YtdapahgnpbehbaaGreat.Fw
