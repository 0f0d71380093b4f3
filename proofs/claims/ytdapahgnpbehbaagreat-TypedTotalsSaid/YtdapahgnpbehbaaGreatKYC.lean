/- Contracts of the program's and the reference's functions, and the plain laws of what they compute: C32 C33 C34 C35 D1 D4 N5 N6 N7 T4 T5 T6 T7 T8 T9 T10 T11 T12 T33 R07a R15c P8 C37 H1 P1 P9 T13 T14 T15 T16 R08a P3 P4 P5 P2 P7 W1 W2 W3 W4 D2. -/
import Derived.Test.YtdapahgnpbehbaaGreatKYB
import Derived.Test.YtdapahgnpbehbaaGreatKZI
import Derived.Test.YtdapahgnpbehbaaGreatKZJ
import Derived.Test.YtdapahgnpbehbaaGreatKYA
set_option linter.unusedVariables false
set_option linter.unusedSimpArgs false
namespace Go.Proofs.YtdapahgnpbehbaaGreat.Fw
open Go
attribute [local irreducible] Ev
attribute [local go_sem] WF AM List.toList_toArray Bt evG evK Sw ER JR FT Ek Fk NI Jk CB Cl KP B1 Ca frz Y9 GE C0 A4 FC BT AV.frz AV.frzs AV.drp AV.drps AV.names AV.namess aq GF Jj JI QE Hq BQ BU Im EJ HS EK HV HT HW R8 NB GG Io FE Dl R9 OQ tQ Ip Ht KK Ex DZ Hu JK Dw QF CS Dx EY OT Hv OU LB Hw JL Ck CZ E2 Da G9 DF EZ DG Dy E1 B1 CY OK OM Lg Fi Hs Hr JJ Lh NE LC KO KM JO OV KN JP Va NH NF AV.trn AV.trns Dk CR Obj.trn I2 X9 Cv DH Cu Dz CM Ea Ae lk Ga F6 G7 tZ Y8 Su ZB OP mI mJ pfs AV.cells B9 Ik NW JN ND CL Le Ty.cell1 HR EX DY Fh KJ EI Ji LA OL EW Gh Ld QD R6 LX Jh VX Xl OO Lf Cj Il RV.flat Ty.flat Ty.size St.add upd del BZ Value.oneCell' KH Ty.dflt HQ Mb Gk Mh List.take_succ_cons List.take_zero List.length_cons WM WN Mg H9 Ju GM Hk pY El KY KZ Ka Kb Nh Ni Iw Hb QP Option.map_some Option.map_none Option.bind_some Option.getD_some Option.getD_none Option.isNone_none Option.isNone_some Bool.and_true Bool.true_and Bool.and_false Bool.false_and Bool.not_true Bool.not_false if_true if_false List.length_cons List.length_nil and_true true_and and_self List.all_cons List.all_nil List.append_nil List.nil_append List.cons_append List.getElem?_cons_zero List.getElem?_cons_succ List.getElem?_nil List.map_cons List.map_nil List.set_cons_zero List.set_cons_succ List.isEmpty_nil List.isEmpty_cons decide_true decide_false beq_self_eq_true bne_self_eq_false Nat.zero_add Nat.add_zero Nat.sub_zero Int.toNat_natCast Int.toNat_zero Int.toNat_one List.take_length List.length_append List.length_singleton true_or or_true or_self false_or or_false Ty.agg.injEq Ty.slice.injEq Ty.prod.injEq Ty.int.injEq Option.some.injEq beq_iff_eq Kd evMG evMQ tR HC LH B0 Iy GL NM Ix HB Hc Iz Jt Lr Lt Ls QQ Js Md Me Hj AX Af Op.operands Call.operands List.filterMap_cons List.filterMap_nil List.append_eq Bool.cond_false_right Bool.cond_true_left cond_true cond_false implies_true decide_eq_true_eq beq_true beq_false Bool.or_true Bool.or_false Bool.true_or Bool.false_or Option.isSome_some Array.empty_append List.append_toArray FD KQ Eb HK VZ NC E0 FM FL Hx G8 JM KL Sv ZA JH inB JQ E9 Fj Hy Ao WO List.drop_zero DS HO Ve Cn Ki Bi AV.fgt AV.fgts Obj.fgt Ad Au AX Dg LY Bh IA List.any_cons List.any_nil iJ X5 Vf X6 LZ Ox qs List.flatMap_cons List.flatMap_nil List.cons_append tn Vg I3 List.take_succ_cons List.drop_succ_cons Vh HE Bn Zo Jw CT Cm Ak E4 JV Bx Ed Db HA Ha GK H8
attribute [local go_sem] JY jQ ty3 ty4 ty5 ty9 v9 wA wB wC wD wE wF wG wH wI wJ wK wL wM wN wO wP wQ wR wS wT wU wV wW wX wY wZ w3 w4 w5 w7 w8 w9 xA xB xC xD xE xF xG xH xI xJ xK xL xM xN xO xP xQ xR xS xT xU xV xW xX xY xZ x5 x6 x7 x8 x9 yA yB yC yD yE yF yG yH yI yJ Zv Zw Zx Zy Zz Z0 Z1 Z2 Z3 Z4 Z5 Z6 Z7 Z8 Z9 aA aB aC aD aE aF aG aH aI aJ aK aL aM aN aO aP aQ aR aU aV aW aX aY aZ a9 bA bB bC bD bE bF bG bH bI bJ bK bL bM bN bO bP bQ bR bS bT bU bV bW bX bZ b4 b5 b6 b7 b8 b9 cA cB cC cE cF cG cH cI cJ cK cL cM cN cO cQ cR cS cU cV cW cX cZ c6 c7 c8 c9 dA dB dC dD dE dF dG dH dI dJ dK dL dM dN dP dQ dR dS dT dU dV dW
set_option maxRecDepth 100000
set_option maxHeartbeats 4000000
section
attribute [local go_sem] Si Qt UH A2f kQ
def M8 (d:List AH) (l:List AP) (f:List ByteArray) (t:Nat) (n:Nat):List (Int×Int) :=
 ((List.range n).filter fun(i:Nat)=>(Ez d l (t:Int) (f.getD i ByteArray.empty)).2).map fun(i:Nat)=>((i:Int),HG l (Ez d l (t:Int) (f.getD i ByteArray.empty)).1)
def J5 (d:List AH) (l:List AP) (f:List ByteArray) (n:Nat):List (List (Int×Int)):=(List.range n).map fun t=>M8 d l f t f.length
def A7 (d:List AH):List (List (Int×Int))×Int:=if Ar d≠0 then ([],Ar d) else (J5 d (AL d) (A9 d) (AL d).length,0)
theorem Qv (d:List AH) (l:List AP) (f:List ByteArray) (t n:Nat):M8 d l f t (n+1)=M8 d l f t n++if (Ez d l (t:Int) (f.getD n ByteArray.empty)).2=true then [((n:Int),HG l (Ez d l (t:Int) (f.getD n ByteArray.empty)).1)] else []:=by
 unfold M8;rw[AAc,AAZ,AAx]
 congr 1
 rw[AAn,ABE];split<;>rfl
theorem z6 (d:List AH) (l:List AP) (f:List ByteArray) (t n:Nat):(M8 d l f t n).length≤n:=by
 unfold M8;rw[nO];exact To (AAv _ _) (by simp)
theorem k8 (d:List AH) (l:List AP) (f:List ByteArray) (n:Nat):J5 d l f (n+1)=J5 d l f n++[M8 d l f n f.length]:=by simp[J5,AAc]
theorem XF (d:List AH) (l:List AP) (f:List ByteArray) (n:Nat):(J5 d l f n).length=n:=by simp[J5]
theorem z7 {d:List AH} {l:List AP} (h:∀x∈l,x.2.length≤64) (t:Int) (s:ByteArray):(Ez d l t s).1.length≤64:=by
 unfold Ez;refine UP t s d ?_;rw[AS];cases hh:l[0]? with
 | none=>simp
 | some x=>exact h x (AAe hh)
def UQ:Ac:={ ins:=[E5],pre:=fun _=>True,out:=fun(d,_)=>[.p qO (A7 d).1,.p Th (A7 d).2] }
theorem k9:Ah Tryz.prog 63 UQ:=by
 refine fK [0,2,3,4,5,7,8,9,10,11,12,13,17,29,35,49] Tryz.func63 Tryz.ntmps63 (AE XE (AE Pf (AE UI (AE z4 (AE zR AG))))) ?_;rintro w0 O0 ⟨d,u⟩ e - -;simp only[UQ,AM];repeat'(first|exact trivial|refine eS rfl ?_|refine AB ?_|refine rX e ?_ ?_|refine rC ?_ ?_<;>intro a<;>try(cases a;done))
 ·have h1:A7 d=([],Ar d):=by unfold A7;rw[BY a]
  exact fI e [.tmp 2,.tmp 3] (by rw[h1];exact eR)
 ·have h:Ar d=0:=by simpa using a
  obtain⟨m,-,-⟩:=B7 h;obtain⟨b,-,-⟩:=BS m;exact⟨(Av b).2.1,fun x y=>(Ky b x y).2⟩
 ·have h:Ar d=0:=by simpa using a
  obtain⟨m,A,o⟩:=B7 h;obtain⟨b,j,r⟩:=BS m;obtain⟨C,z,-⟩:=Av b;have hr:A7 d=(J5 d (AL d) (A9 d) (AL d).length,0):=by unfold A7;rw[At (by rw[h];simp)]
  have w:=Pg b o;have n:=OG b;have v:(AL d).length≤256:=by rw[IY];exact j
  rw[r];generalize AL d=l at *;generalize A9 d=f at *;have q:=fun t s=>z7 (d:=d) n t s;refine AI (ι:={t:Nat//t≤l.length}) (fun t=>⟨[(0,.p E5 d),(5,.p Jx l),(7,.p B5 f),(8,.sr 61 Wb 0 (J5 d l f t.1).length),(9,.p (.int .i64) (t.1:Int))],[(61,.arr 82 Wb (J5 d l f t.1))]⟩) (fun t=>l.length-t.1) ⟨0,IN _⟩ (AC [(61,.nil)] rfl rfl ?_ ?_) (fun t=>?_)
  ·first|exact eN|refine eM ?_
   rfl
  ·first|exact eN|refine eM ?_
   rfl
  ·obtain⟨t,D⟩:=t;have j:=XF d l f t;have hs:=k8 d l f t;simp only;repeat'(first|exact trivial|refine eS rfl ?_|refine AB ?_|refine rX e ?_ ?_|refine rC ?_ ?_<;>intro a<;>try(cases a;done))
   ·refine AI (ι:={i:Nat//i≤f.length}) (fun i=>⟨[(0,.p E5 d),(5,.p Jx l),(7,.p B5 f),(8,.sr 61 Wb 0 (J5 d l f t).length),(9,.p (.int .i64) (t:Int)),(10,.sr 57 T87 0 (M8 d l f t i.1).length),(11,.p (.int .i64) (i.1:Int))],[(61,.arr 82 Wb (J5 d l f t)),(57,.arr 87 T87 (M8 d l f t i.1))]⟩) (fun i=>f.length-i.1) ⟨0,IN _⟩ (AC [(61,.nm 61),(57,.nil)] rfl rfl ?_ ?_) (fun i=>?_)
    ·first|exact eN|refine eM ?_
     rfl
    ·first|exact eN|refine eM ?_
     rfl
    ·obtain⟨i,hi⟩:=i;have B:=z6 d l f t i;have c:=Qv d l f t i;simp only;repeat'(first|exact trivial|refine eS rfl ?_|refine AB ?_|refine rX e ?_ ?_|refine rC ?_ ?_<;>intro a<;>try(cases a;done))
     ·exact⟨a,w,by assumption,v,n⟩
     ·refine⟨To (q _ _) (by decide),?_⟩;simp only[AO];omega
     ·omega
     ·have g:i<f.length:=IS.1 (by assumption);rw[BY a]at c;refine⟨⟨i+1,g⟩,by simp only;omega,AC [(61,.nm 61),(57,.nm 57)] rfl rfl ?_ ?_⟩
      ·simp only[c];first|exact eN|refine eM ?_
      ·simp only[c];first|exact eN|refine eM ?_
     ·omega
     ·have g:i<f.length:=IS.1 (by assumption);rw[At (by rw[a];simp),AAa]at c;refine⟨⟨i+1,g⟩,by simp only;omega,AC [(61,.nm 61),(57,.nm 57)] rfl rfl ?_ ?_⟩
      ·simp only[c];first|exact eN|refine eM ?_
      ·simp only[c];first|exact eN|refine eM ?_
     ·rw[j];simp only[AO];omega
     ·omega
     ·have k:t<l.length:=IS.1 (by assumption);have g:i=f.length:=by omega
      subst g;refine⟨⟨t+1,k⟩,by simp only;omega,AC [(61,.nm 61)] rfl rfl ?_ ?_⟩
      ·simp only[hs];first|exact eN|refine eM ?_
      ·simp only[hs];first|exact eN|refine eM ?_
   ·have k:t=l.length:=by omega
    subst k;refine GP [61] ?_;exact fI e [.tmp 2,.tmp 3] (by rw[hr];exact eR)
end
section
attribute [local go_sem] cs0
def LS (l:List ByteArray) (n:Nat):List FV:=(List.range n).map fun k=>(l.getD (2*k) ByteArray.empty,l.getD (2*k+1) ByteArray.empty)
theorem UR (l:List ByteArray) (n:Nat):LS l (n+1)=LS l n++[(l.getD (2*n) ByteArray.empty,l.getD (2*n+1) ByteArray.empty)]:=by simp[LS,AAc]
theorem XG (l:List ByteArray) (n:Nat):(LS l n).length=n:=by simp[LS]
def Ye (s:ByteArray):List ByteArray:=if Aa s ByteArray.empty=true then [] else [s]
def GB (n s:ByteArray) (l:List ByteArray):AH:=(n,Ye s,LS l (l.length / 2))
def z8:Ac:={ ins:=[T9,T9,B5],pre:=fun(_,_,l,_)=>List.length l≤1000,out:=fun(n,s,l,_)=>[.p qN (GB n s l)] }
theorem A2g:Ah Tryz.prog 67 z8:=by
 refine fK [0,1,2,6,7,8,12,20] Tryz.func67 Tryz.ntmps67 AG ?_;rintro w0 O0 ⟨n,s,l,u⟩ b-h;have h:l.length≤1000:=h;simp only[z8,AM];repeat'(first|exact trivial|refine eS rfl ?_|refine AB ?_|refine rX b ?_ ?_|refine rC ?_ ?_<;>intro a<;>try(cases a;done))
 ·have f:=a;refine GP [14] ?_;refine AI (ι:={k:Nat//2*k≤l.length}) (fun k=>⟨[(2,.p B5 l),(6,.bp 6 [] 0),(7,.bp 7 [] 0),(8,.p (.int .i64) ((2*k.1:Nat):Int))],[(6,.box 111 true [.p T9 ByteArray.empty,.raw (.slice none 0 0),.raw (.slice none 0 0)]),(7,.box 111 true [.p T9 n,.p B5 [s],.sr 36 jP 0 (LS l k.1).length]),(36,.arr 154 jP (LS l k.1))]⟩) (fun k=>l.length-2*k.1) ⟨0,IN _⟩ (AC [(6,.nm 6),(7,.nm 7),(36,.nil)] rfl rfl ?_ ?_) (fun k=>?_)
  ·first|exact eN|refine eM ?_
   exact⟨rfl,rfl⟩
  ·first|exact eN|refine eM ?_
  ·obtain⟨k,hk⟩:=k;have g:=XG l k;have d:=UR l k;simp only;repeat'(first|exact trivial|refine eS rfl ?_|refine AB ?_|refine rX b ?_ ?_|refine rC ?_ ?_<;>intro a<;>try(cases a;done))
   ·exact eV
   ·refine⟨by exact eV,⟨by exact eV,by exact eV⟩,⟨by exact eV,by exact eV⟩,?_⟩;rw[g];simp only[AO];exact eV
   ·exact eV
   ·have c:2*k+1<l.length:=by exact eV
    have e:((2*k:Nat):Int)+1=((2*k+1:Nat):Int):=by omega
    refine⟨⟨k+1,by omega⟩,by simp only;omega,AC [(6,.nm 6),(7,.nm 7),(36,.nm 36)] rfl rfl ?_ ?_⟩
    ·simp only[d];first|exact eN|refine eM ?_
     rw[e];rfl
    ·simp only[d];first|exact eN|refine eM ?_
     show ((2*k:Nat):Int)+2=((2*(k+1):Nat):Int);omega
   ·have c:k=l.length / 2:=by exact eV
    refine GP [36] ?_;have hr:GB n s l=(n,[s],LS l k):=by
     unfold GB Ye;rw[←c,At (by rw[show Aa s ByteArray.empty=false from f];simp)]
    exact fI b [.cell 6 111] (by rw[hr];exact eR)
 ·have f:=a;refine AI (ι:={k:Nat//2*k≤l.length}) (fun k=>⟨[(2,.p B5 l),(6,.bp 6 [] 0),(7,.bp 7 [] 0),(8,.p (.int .i64) ((2*k.1:Nat):Int))],[(6,.box 111 true [.p T9 ByteArray.empty,.raw (.slice none 0 0),.raw (.slice none 0 0)]),(7,.box 111 true [.p T9 n,.p B5 ([]:List ByteArray),.sr 36 jP 0 (LS l k.1).length]),(36,.arr 154 jP (LS l k.1))]⟩) (fun k=>l.length-2*k.1) ⟨0,IN _⟩ (AC [(6,.nm 6),(7,.nm 7),(36,.nil)] rfl rfl ?_ ?_) (fun k=>?_)
  ·first|exact eN|refine eM ?_
   exact⟨rfl,rfl⟩
  ·first|exact eN|refine eM ?_
  ·obtain⟨k,hk⟩:=k;have g:=XG l k;have d:=UR l k;simp only;repeat'(first|exact trivial|refine eS rfl ?_|refine AB ?_|refine rX b ?_ ?_|refine rC ?_ ?_<;>intro a<;>try(cases a;done))
   ·exact eV
   ·refine⟨by exact eV,⟨by exact eV,by exact eV⟩,⟨by exact eV,by exact eV⟩,?_⟩;rw[g];simp only[AO];exact eV
   ·exact eV
   ·have c:2*k+1<l.length:=by exact eV
    have e:((2*k:Nat):Int)+1=((2*k+1:Nat):Int):=by omega
    refine⟨⟨k+1,by omega⟩,by simp only;omega,AC [(6,.nm 6),(7,.nm 7),(36,.nm 36)] rfl rfl ?_ ?_⟩
    ·simp only[d];first|exact eN|refine eM ?_
     rw[e];rfl
    ·simp only[d];first|exact eN|refine eM ?_
     show ((2*k:Nat):Int)+2=((2*(k+1):Nat):Int);omega
   ·have c:k=l.length / 2:=by exact eV
    refine GP [36] ?_;have hr:GB n s l=(n,([]:List ByteArray),LS l k):=by
     unfold GB Ye;rw[←c,BY (show Aa s ByteArray.empty=true from f)]
    exact fI b [.cell 6 111] (by rw[hr];exact eR)
end
section
attribute [local go_sem] z8 cs0 cs1 cs2 cs3 cs4 cs5 cs6 cs7 cs8
def Ib:List AH:=[
 GB { data:=#[116,111,112] } { data:=#[] } [],
 GB { data:=#[108,105,115,116] } { data:=#[116,111,112] } [],
 GB { data:=#[99,111,110,115] } { data:=#[108,105,115,116] } [{ data:=#[70,73,82,83,84] },{ data:=#[116,111,112] },{ data:=#[82,69,83,84] },{ data:=#[108,105,115,116] }],
 GB { data:=#[110,117,108,108] } { data:=#[108,105,115,116] } [],
 GB { data:=#[100,108,105,115,116] } { data:=#[116,111,112] } [{ data:=#[76,73,83,84] },{ data:=#[108,105,115,116] },{ data:=#[76,65,83,84] },{ data:=#[108,105,115,116] }],
 GB { data:=#[105,110,100,101,120] } { data:=#[116,111,112] } [],
 GB { data:=#[104,97,110,100,108,101] } { data:=#[105,110,100,101,120] } [],
 GB { data:=#[101,118,101,110,116] } { data:=#[105,110,100,101,120] } [],
 GB { data:=#[101,110,116,105,116,121] } { data:=#[105,110,100,101,120] } [],
 GB { data:=#[114,101,108] } { data:=#[116,111,112] } [{ data:=#[76,65,66,69,76] },{ data:=#[104,97,110,100,108,101] }],
 GB { data:=#[113,101,113] } { data:=#[116,111,112] } [{ data:=#[72,73,71,72] },{ data:=#[104,97,110,100,108,101] },{ data:=#[76,79,87] },{ data:=#[104,97,110,100,108,101] }],
 GB { data:=#[115,101,109] } { data:=#[116,111,112] } [{ data:=#[84,79,80] },{ data:=#[104,97,110,100,108,101] },{ data:=#[73,78,68,69,88] },{ data:=#[105,110,100,101,120] },{ data:=#[82,69,76,83] },{ data:=#[100,108,105,115,116] },{ data:=#[67,79,78,83] },{ data:=#[100,108,105,115,116] }],
 GB { data:=#[115,105,103,110] } { data:=#[116,111,112] } [{ data:=#[83,69,77] },{ data:=#[115,101,109] },{ data:=#[65,82,71,83] },{ data:=#[108,105,115,116] }]]
def Pi:Ac:={ ins:=[],pre:=fun _=>True,out:=fun _=>[.p E5 Ib] }
theorem lA:Ah Tryz.prog 37 Pi:=by
 refine fKP [0] [3,6,12,14,16,18,20] [] Tryz.func37 Tryz.ntmps37 (AE A2g AG) ?_;rintro w0 O0 u a - -;simp only[Pi,AM];repeat'(first|exact trivial|refine eS rfl ?_|refine AB ?_|refine rX a ?_ ?_|refine rC ?_ ?_<;>intro b<;>try(cases b;done))
 exact fI a [.tmp 0] (by unfold Ib;exact eR)
end
section
attribute [local go_sem] UQ Qt z0 Qu
abbrev Ic:=ByteArray×List Int×List Int×List (Int×Int)
abbrev AJ:=List Ic×List z5
def EU (l:List AP) (v:List (List (Int×Int))) (n:Nat):List Ic:=(List.range n).map fun i=>((l.getD i c0).1,(l.getD i c0).2,XC l (i:Int),v.getD i [])
theorem lB (l:List AP) (v:List (List (Int×Int))) (n:Nat):EU l v (n+1)=EU l v n++[((l.getD n c0).1,(l.getD n c0).2,XC l (n:Int),v.getD n [])]:=by simp[EU,AAc]
theorem J6 (l:List AP) (v:List (List (Int×Int))) (n:Nat):(EU l v n).length=n:=by simp[EU]
def Bd (d:List AH):AJ:=(EU (AL d) (A7 d).1 (AL d).length,(EF d).1)
def Ap (d:List AH):AJ×Int:=if (A7 d).2≠0 then (([],[]),(A7 d).2) else (Bd d,0)
def MD:Ac:={ ins:=[E5],pre:=fun _=>True,out:=fun(d,_)=>[.p Lb (Ap d).1,.p Th (Ap d).2] }
theorem lC:Ah Tryz.prog 36 MD:=by
 refine fK [0,2,3,4,5,6,8,9,10,18,29] Tryz.func36 Tryz.ntmps36 (AE k9 (AE Pf (AE A2d (AE f4 AG)))) ?_;rintro w0 O0 ⟨d,u⟩ b - -;simp only[MD,AM];repeat'(first|exact trivial|refine eS rfl ?_|refine AB ?_|refine rX b ?_ ?_|refine rC ?_ ?_<;>intro a<;>try(cases a;done))
 ·have h1:Ap d=(([],[]),(A7 d).2):=by unfold Ap;rw[BY a]
  exact fI b [.cell 2 31,.tmp 3] (by rw[h1];exact eR)
 ·have c:(A7 d).2=0:=by simpa using a
  have f:Ar d=0:=by
   unfold A7 at c;split at c
   ·rename_i h;exact absurd c h
   ·rename_i h;exact DO h
  obtain⟨s,w,t⟩:=B7 f;obtain⟨i,k,j⟩:=BS s;have hr:Ap d=(Bd d,0):=by unfold Ap;rw[At (by rw[c];simp)]
  have q:(A7 d).1.length=(AL d).length:=by
   unfold A7;rw[At (by rw[f];simp)];exact XF _ _ _ _
  have r:=OG i;have m:(AL d).length≤256:=by rw[IY];exact k
  unfold Bd at hr;rw[j];generalize AL d=l at *;generalize (A7 d).1=v at *;refine AI (ι:={n:Nat//n≤l.length}) (fun n=>⟨[(0,.p E5 d),(2,.bp 2 [] 0),(4,.p qO v),(6,.p Jx l),(8,.bp 8 [] 0),(9,.p (.int .i64) (n.1:Int))],[(2,.box 31 true [.raw (.slice none 0 0),.raw (.slice none 0 0)]),(8,.box 31 true [.sr 53 T84 0 (EU l v n.1).length,.raw (.slice none 0 0)]),(53,.arr 84 T84 (EU l v n.1))]⟩) (fun n=>l.length-n.1) ⟨0,IN _⟩ (AC [(2,.nm 2),(8,.nm 8),(53,.nil)] rfl rfl ?_ ?_) (fun n=>?_)
  ·first|exact eN|refine eM ?_
   exact⟨rfl,rfl⟩
  ·first|exact eN|refine eM ?_
  ·obtain⟨n,hn⟩:=n;have o:=J6 l v n;have g:=lB l v n;simp only;repeat'(first|exact trivial|refine eS rfl ?_|refine AB ?_|refine rX b ?_ ?_|refine rC ?_ ?_<;>intro a<;>try(cases a;done))
   ·refine⟨a,a,⟨a,m,r⟩,by rw[q];exact a,?_⟩;rw[o];simp only[AO];omega
   ·omega
   ·have e:n<l.length:=IS.1 a;refine⟨⟨n+1,e⟩,by simp only;omega,AC [(2,.nm 2),(8,.nm 8),(53,.nm 53)] rfl rfl ?_ ?_⟩
    ·simp only[g];first|exact eN|refine eM ?_
    ·simp only[g];first|exact eN|refine eM ?_
   ·have e:n=l.length:=by omega
    subst e;refine GP [53] ?_;exact fI b [.cell 2 31,.tmp 3] (by rw[hr];exact eR)
end
section
def lD:Ac:={ ins:=[D7,T3],pre:=fun(_,i,_)=>(0:Int)≤i,out:=fun(b,i,_)=>[.p O4 (F8 b i)],lend:=true }
attribute [local go_sem] lD
theorem z9:Ah Tryz.prog 107 lD:=by
 refine fK [0,1,4,8] Tryz.func107 Tryz.ntmps107 AG ?_;rintro w0 O0 ⟨b,i,u⟩ c-hi;simp only[lD,AM];repeat'(first|exact trivial|refine eS rfl ?_|refine AB ?_|refine rX c ?_ ?_|refine rC ?_ ?_<;>intro a<;>try(cases a;done))
 ·exact⟨hi,a⟩
 ·have h1:F8 b i=b.getD i.toNat 0:=by unfold F8;rw[BY a]
  exact fI c [.tmp 4] (by rw[h1];exact eR)
 ·have h1:F8 b i=0:=by unfold F8;rw[At (AAO.2 a)]
  exact fI c [.tmp 4] (by rw[h1];exact eR)
def Pj (a b:List Int):Bool:=(List.range a.length).all fun i=>B6 .andNot .u64 (a.getD i 0) (F8 b (i:Int))==0
def f6 (a b:List Int) (n:Nat):Bool:=(List.range n).all fun i=>B6 .andNot .u64 (a.getD i 0) (F8 b (i:Int))==0
theorem lE (a b:List Int) (n:Nat):f6 a b (n+1)=(f6 a b n&&B6 .andNot .u64 (a.getD n 0) (F8 b (n:Int))==0):=by
 unfold f6;rw[AAc,ABy];simp
def Pk:Ac:={ ins:=[D7,D7],pre:=fun _=>True,out:=fun(a,b,_)=>[.p .bool (Pj a b)],lend:=true }
attribute [local go_sem] Pk
theorem US:Ah Tryz.prog 69 Pk:=by
 refine fK [0,1,4,5,6,7,8,9,10,19] Tryz.func69 Tryz.ntmps69 (AE z9 AG) ?_;rintro w0 O0 ⟨a,b,u⟩ e ⟨⟨g,-⟩,-⟩ -;simp only[AO]at g;simp only[Pk,AM];repeat'(first|exact trivial|refine eS rfl ?_|refine AB ?_|refine rX e ?_ ?_|refine rC ?_ ?_<;>intro c<;>try(cases c;done))
 have h:Pj a b=f6 a b a.length:=rfl;refine AI (ι:={n:Nat//n≤a.length∧f6 a b n=true}) (fun n=>⟨[(1,.p D7 b),(7,.p D7 a),(8,.p (.int .i64) (a.length:Int)),(9,.p (.int .i64) (n.1:Int))],[]⟩) (fun n=>a.length-n.1) ⟨0,IN _,rfl⟩ (AC [] rfl rfl ?_ ?_) (fun n=>?_)
 ·first|exact eN|refine eM ?_
 ·first|exact eN|refine eM ?_
 ·obtain⟨n,hn,f⟩:=n;have hs:=lE a b n;simp only;repeat'(first|exact trivial|refine eS rfl ?_|refine AB ?_|refine rX e ?_ ?_|refine rC ?_ ?_<;>intro c<;>try(cases c;done))
  ·exact c
  ·have d:n<a.length:=by exact eV
   have h1:Pj a b=false:=by
    unfold Pj;rw[AAN];exact⟨n,iS.2 d,by simpa using c⟩
   exact fI e [.tmp 4] (by rw[h1];exact eR)
  ·exact eV
  ·have d:n<a.length:=by exact eV
   refine⟨⟨n+1,d,?_⟩,by simp only;omega,AC [] rfl rfl ?_ ?_⟩
   ·rw[hs,f];simpa using c
   ·first|exact eN|refine eM ?_
   ·first|exact eN|refine eM ?_
  ·have d:n=a.length:=by exact eV
   subst d;exact fI e [.tmp 4] (by rw[h,f];exact eR)
abbrev QC:Ic:=(ByteArray.empty,[],[],[])
def A8 (h:AJ) (a b:Int):Bool:=Pj (h.1.getD b.toNat QC).2.1 (h.1.getD a.toNat QC).2.1
def XH:Ac:={ ins:=[Lb,T3,T3],pre:=fun(h,a,b,_)=>((0:Int)≤a∧a<(List.length (h:AJ).1:Int))∧((0:Int)≤b∧b<(List.length (h:AJ).1:Int)),out:=fun(h,a,b,_)=>[.p .bool (A8 h a b)],lend:=true }
theorem n8:Ah Tryz.prog 39 XH:=by
 refine fK [0,1,2,3,6] Tryz.func39 Tryz.ntmps39 (AE US AG) ?_;rintro w0 O0 ⟨⟨f,hf⟩,a,b,u⟩ c-⟨ha,e⟩;simp only[XH,AM];repeat'(first|exact trivial|refine eS rfl ?_|refine AB ?_|refine rX c ?_ ?_|refine rC ?_ ?_<;>intro d<;>try(cases d;done))
 ·exact⟨e,ha⟩
 ·exact fI c [.tmp 6] (by unfold A8;exact eR)
end
section
attribute [local go_sem] Pk
def UT:Ac:={ ins:=[D7],pre:=fun(b,_)=>List.length b≤100000,out:=fun(b,_)=>[.p D7 (BI b)] }
attribute [local go_sem] UT
theorem lF:Ah Tryz.prog 161 UT:=by
 refine fK [0,2,3,15] Tryz.func161 Tryz.ntmps161 AG ?_;rintro w0 O0 ⟨b,u⟩ d-f;have f:b.length≤100000:=f;simp only[UT,AM];repeat'(first|exact trivial|refine eS rfl ?_|refine AB ?_|refine rX d ?_ ?_|refine rC ?_ ?_<;>intro c<;>try(cases c;done))
 refine AI (ι:={n:Nat//n≤b.length∧CX b n=CX b b.length}) (fun n=>⟨[(0,.p D7 b),(3,.p (.int .i64) (n.1:Int))],[]⟩) (fun n=>n.1) ⟨b.length,NO _,rfl⟩ (AC [] rfl rfl ?_ ?_) (fun n=>?_)
 ·first|exact eN|refine eM ?_
 ·first|exact eN|refine eM ?_
 ·obtain⟨n,hn,g⟩:=n;simp only;repeat'(first|exact trivial|refine eS rfl ?_|refine AB ?_|refine rX d ?_ ?_|refine rC ?_ ?_<;>intro c<;>try(cases c;done))
  ·constructor
   ·exact eV
   ·intro h;refine⟨?_,?_⟩<;>exact eV
  ·exact eV
  ·obtain⟨h1,a⟩:=c;obtain⟨m,rfl⟩:∃m,n=m+1:=⟨n-1,by omega⟩;have e:(((m+1:Nat):Int)-1)=(m:Int):=by omega
   rw[e]at a;have a:b.getD m 0=0:=a;have j:CX b m=CX b b.length:=by
    rw[←g];show _=if b.getD m 0=0 then CX b m else m+1
    rw[BY a]
   refine⟨⟨m,by omega,j⟩,by simp,AC [] rfl rfl ?_ ?_⟩
   ·first|exact eN|refine eM ?_
   ·simp only[e];first|exact eN|refine eM ?_
  ·exact oF.2 hn
  ·have i:CX b n=n:=by
    cases n with
    | zero=>rfl
    | succ m =>
     have e:(((m+1:Nat):Int)-1)=(m:Int):=by omega
     rw[e]at c;have a:=c (by omega);have a:¬b.getD m 0=0:=a;show (if b.getD m 0=0 then CX b m else m+1)=m+1;rw[At a]
   have h1:BI b=b.take n:=by unfold BI;rw[←g,i]
   rw[←h1];exact fI d [.tmp 2]
def Gu (g:Nat→Int) (n i:Nat):List Int:=(List.range n).map fun j=>if j<i then g j else 0
theorem XI (g:Nat→Int) (n i:Nat):(Gu g n i).length=n:=by simp[Gu]
theorem lG (g:Nat→Int) (n:Nat):Gu g n 0=List.replicate n 0:=by
 apply AA8
 ·simp[Gu]
 ·intro j h1 a;simp[Gu]
theorem sM (g:Nat→Int) (n i:Nat):(Gu g n i).set i (g i)=Gu g n (i+1):=by
 apply AA8
 ·simp[Gu]
 ·intro j h1 b;simp only[Gu,ACD,ABk,ABo];split
  ·rename_i e;rw[BY (by omega),e]
  ·rename_i e;by_cases a:j<i
   ·rw[BY a,BY (by omega)]
   ·rw[At a,At (by omega)]
def Yf (a b:List Int) (i:Nat):Int:=B6 .and .u64 (a.getD i 0) (b.getD i 0)
def Fz (a b:List Int):List Int:=BI (Gu (Yf a b) (min a.length b.length) (min a.length b.length))
def A00:Ac:={ ins:=[D7,D7],pre:=fun(a,_,_)=>List.length a≤100000,out:=fun(a,b,_)=>[.p D7 (Fz a b)] }
attribute [local go_sem] A00
theorem A2h:Ah Tryz.prog 143 A00:=by
 refine fK [0,1,4,5,6,14,15,16] Tryz.func143 Tryz.ntmps143 (AE lF AG) ?_;rintro w0 O0 ⟨a,b,u⟩ d-ha;have ha:a.length≤100000:=ha;simp only[A00,AM];repeat'(first|exact trivial|refine eS rfl ?_|refine AB ?_|refine rX d ?_ ?_|refine rC ?_ ?_<;>intro c<;>try(cases c;done))
 ·split<;>simp only[AO]<;>dsimp only[Ty.den]at *<;>omega
 ·have h:Int.toNat (if ((List.length b:Nat):Int)<((List.length a:Nat):Int) then ((List.length b:Nat):Int) else ((List.length a:Nat):Int))=min (List.length a) (List.length b):=by split<;>omega
  rw[h];have hr:Fz a b=BI (Gu (Yf a b) (min a.length b.length) (min a.length b.length)):=rfl;have j:min a.length b.length≤a.length:=Nat.min_le_left _ _;have k:min a.length b.length≤b.length:=Nat.min_le_right _ _;generalize min a.length b.length=n at *;refine AI (ι:={i:Nat//i≤n}) (fun i=>⟨[(0,.p D7 a),(1,.p D7 b),(5,.sr 12 O4 0 n),(14,.p (.int .i64) (n:Int)),(15,.p (.int .i64) (i.1:Int))],[(12,.arr 155 O4 (Gu (Yf a b) n i.1))]⟩) (fun i=>n-i.1) ⟨0,IN _⟩ (AC [(12,.nm 12)] rfl rfl ?_ ?_) (fun i=>?_)
  ·first|exact eN|refine eM ?_
   rw[lG]
  ·first|exact eN|refine eM ?_
  ·obtain⟨i,hi⟩:=i;have f:=XI (Yf a b) n i;simp only;repeat'(first|exact trivial|refine eS rfl ?_|refine AB ?_|refine rX d ?_ ?_|refine rC ?_ ?_<;>intro c<;>try(cases c;done))
   ·have e:i<n:=IS.1 c;exact⟨by exact eV,by exact eV,c⟩
   ·exact eV
   ·have e:i<n:=IS.1 c;refine⟨⟨i+1,e⟩,by simp only;omega,AC [(12,.nm 12)] rfl rfl ?_ ?_⟩
    ·simp only[←sM];first|exact eN|refine eM ?_
     rfl
    ·first|exact eN|refine eM ?_
   ·have e:i=n:=by omega
    subst e;have g:(Gu (Yf a b) i i).take i=Gu (Yf a b) i i:=As (by rw[f];exact NO _);refine GP [12] ?_;repeat'(first|exact trivial|refine eS rfl ?_|refine AB ?_|refine rX d ?_ ?_|refine rC ?_ ?_<;>intro c<;>try(cases c;done))
    ·rw[g,f];dsimp only[Ty.den]at *;omega
    ·rw[g];exact fI d [.tmp 4] (by rw[hr];exact eR)
def Dr (a b:List Int):Bool:=Pj a b&&Pj b a
def Yg:Ac:={ ins:=[D7,D7],pre:=fun _=>True,out:=fun(a,b,_)=>[.p .bool (Dr a b)],lend:=true }
attribute [local go_sem] Yg
theorem sN:Ah Tryz.prog 146 Yg:=by
 refine fK [0,1,4] Tryz.func146 Tryz.ntmps146 (AE US AG) ?_;rintro w0 O0 ⟨a,b,u⟩ c - -;simp only[Yg,AM];repeat'(first|exact trivial|refine eS rfl ?_|refine AB ?_|refine rX c ?_ ?_|refine rC ?_ ?_<;>intro d<;>try(cases d;done))
 exact fI c [.tmp 4] (by unfold Dr;exact eR)
def Eu (c:List Int):Nat→List Ic→Int
 | _,[]=>-1
 | k,t :: l=>if Dr t.2.1 c=true then (k:Int) else Eu c (k+1) l
theorem lH (c:List Int) (l:List Ic) {k:Nat} (h:k<l.length):Eu c k (l.drop k)=if Dr (l.getD k QC).2.1 c=true then (k:Int) else Eu c (k+1) (l.drop (k+1)):=by
 rw[OS h];have e:l.getD k QC=l[k]:=by simp[AS,h]
 rw[e];rfl
theorem A01 (c:List Int) (t:Ic):BL Tryz.prog 145 [.p T84 t,.bp 1 [] 0] [(1,.box 81 false [.p D7 c])] [1] (fun res d=>res=.p .bool (Dr t.2.1 c)∧d=[(1,.box 81 false [.p D7 c])]):=by
 refine La [0,1,2,3] [] [] Tryz.func145 Tryz.ntmps145 (AE sN AG) ?_;intro w0 K O0 ρ0 a e f;simp only[Ao];repeat'(first|exact trivial|refine eS rfl ?_|refine AB ?_|refine rX a ?_ ?_|refine rC ?_ ?_<;>intro b<;>try(cases b;done))
 refine Ev.ent (σ':=⟨[(3,.p .bool (Dr t.2.1 c))],[(1,.box 81 false [.p D7 c])]⟩) ?_ (AC [(1,.nm 1)] rfl rfl ?_ ?_)
 ·exact fM a [.tmp 3] (.p .bool (Dr t.2.1 c)) eT ⟨rfl,rfl⟩
 ·first|exact eN|refine eM ?_
 ·first|exact eN|refine eM ?_
theorem sO (l:List Ic) (c:List Int) (i:l.length≤100000):BL Tryz.prog 144 [.p M6 l,.clo 145 [1]] [(1,.box 81 false [.p D7 c])] [1] (fun res g=>res=.p T3 (Eu c 0 l)∧g=[(1,.box 81 false [.p D7 c])]):=by
 refine La [0,1,4,5,7,8,9,16] [] [] Tryz.func144 Tryz.ntmps144 AG ?_;intro w0 K O0 ρ0 b j m;simp only[Ao];repeat'(first|exact trivial|refine eS rfl ?_|refine AB ?_|refine rX b ?_ ?_|refine rC ?_ ?_<;>intro a<;>try(cases a;done))
 refine AI (ι:={k:Nat//k≤l.length∧Eu c k (l.drop k)=Eu c 0 l}) (fun k=>⟨[(0,.p M6 l),(1,.clo 145 [1]),(7,.p (.int .i64) (l.length:Int)),(8,.p (.int .i64) (k.1:Int))],[(1,.box 81 false [.p D7 c])]⟩) (fun k=>l.length-k.1) ⟨0,IN _,rfl⟩ (AC [(1,.nm 1)] rfl rfl ?_ ?_) (fun k=>?_)
 ·first|exact eN|refine eM ?_
 ·first|exact eN|refine eM ?_
 ·obtain⟨k,hk,hf⟩:=k;have f:=fun h:k<l.length=>lH c l h;simp only;repeat'(first|exact trivial|refine eS rfl ?_|refine AB ?_|refine rX b ?_ ?_|refine rC ?_ ?_<;>intro a<;>try(cases a;done))
  ·have d:k<l.length:=IS.1 a;have e:=f d;refine cP 5 b ?_ ?_
   ·exact a
   ·refine rM b (A01 c (l.getD k QC)) [(1,.nm 1)] [] ?_ ?_ ?_
    ·first|exact eN|refine eM ?_
    ·first|exact eN|refine eM ?_
    ·rintro _ _ ⟨rfl,rfl⟩;refine⟨[(1,.nm 1)],.p .bool (Dr (l.getD k QC).2.1 c),[(1,.box 81 false [.p D7 c])],rfl,rfl,?_,?_,rfl,rfl,Cy ?_⟩
     ·first|exact eN|refine eM ?_
     ·first|exact eN|refine eM ?_
     ·repeat'(first|exact trivial|refine eS rfl ?_|refine AB ?_|refine rX b ?_ ?_|refine rC ?_ ?_<;>intro a<;>try(cases a;done))
      ·have a:Dr (l.getD k QC).2.1 c=true:=a;rw[BY a,hf]at e;refine Ev.ent (σ':=⟨[(4,.p (.int .i64) (k:Int))],[(1,.box 81 false [.p D7 c])]⟩) ?_ (AC [(1,.nm 1)] rfl rfl ?_ ?_)
       ·exact fM b [.tmp 4] (.p T3 (k:Int)) eT ⟨by rw[e],rfl⟩
       ·first|exact eN|refine eM ?_
       ·first|exact eN|refine eM ?_
      ·omega
      ·have a:Dr (l.getD k QC).2.1 c=false:=a;rw[At (by rw[a];simp)]at e;refine⟨⟨k+1,d,e.symm.trans hf⟩,by simp only;omega,AC [(1,.nm 1)] rfl rfl ?_ ?_⟩
       ·first|exact eN|refine eM ?_
       ·first|exact eN|refine eM ?_
  ·have d:l.drop k=[]:=IF (oF.1 a);rw[d]at hf;have hf:(-1:Int)=Eu c 0 l:=hf;refine Ev.ent (σ':=⟨[(4,.p (.int .i64) (-1))],[(1,.box 81 false [.p D7 c])]⟩) ?_ (AC [(1,.nm 1)] rfl rfl ?_ ?_)
   ·exact fM b [.tmp 4] (.p T3 (-1)) eT ⟨by rw[hf],rfl⟩
   ·first|exact eN|refine eM ?_
   ·first|exact eN|refine eM ?_
def BP (h:AJ) (t:Int):List Int:=(h.1.getD t.toNat QC).2.1
def Dj (h:AJ) (a b:Int):Int×Bool :=
 if (Fz (BP h a) (BP h b)).length=0 then (0,false) else if Eu (Fz (BP h a) (BP h b)) 0 h.1<0 then (0,false) else (Eu (Fz (BP h a) (BP h b)) 0 h.1,true)
def n9:Ac:={ ins:=[Lb,T3,T3],pre:=fun(h,a,b,_)=>((0:Int)≤a∧a<(List.length (h:AJ).1:Int))∧((0:Int)≤b∧b<(List.length (h:AJ).1:Int))∧List.length (h:AJ).1≤100000∧(∀x∈(h:AJ).1,x.2.1.length≤100000),out:=fun(h,a,b,_)=>[.p T3 (Dj h a b).1,.p .bool (Dj h a b).2],lend:=true }
theorem A2i:Ah Tryz.prog 110 n9:=by
 refine fK [0,1,2,3,6,7,8,9,25,31] Tryz.func110 Tryz.ntmps110 (AE A2h AG) ?_;rintro w0 O0 ⟨⟨d,hf⟩,a,b,u⟩ e-⟨ha,i,k,l⟩;simp only[n9,AM];refine Ev.ent (σ':=⟨[(0,.p Lb (d,hf)),(1,.p T3 a),(2,.p T3 b)],[]⟩) ?_ (AC [] rfl rfl ?_ ?_)
 ·repeat'(first|exact trivial|refine eS rfl ?_|refine AB ?_|refine rX e ?_ ?_|refine rC ?_ ?_<;>intro f<;>try(cases f;done))
  ·refine⟨ha,i,?_⟩;have h1:Int.toNat a<List.length d:=(AC3 ha.1).2 ha.2;exact l _ (AD (d:List Ic) QC h1)
  ·have hr:Dj (d,hf) a b=(0,false):=by
    unfold Dj;rw[BY (by unfold BP;exact Int.ofNat.inj f)]
   exact fI e [.tmp 6,.tmp 7] (by rw[hr];exact eR)
  ·have j:∀c,c=Fz (List.getD d (Int.toNat a) (ByteArray.empty,[],[],[])).2.1 (List.getD d (Int.toNat b) (ByteArray.empty,[],[],[])).2.1→c=Fz (BP (d,hf) a) (BP (d,hf) b):=fun c h=>h;have g:Dj (d,hf) a b=if Eu (Fz (BP (d,hf) a) (BP (d,hf) b)) 0 d<0 then (0,false) else (Eu (Fz (BP (d,hf) a) (BP (d,hf) b)) 0 d,true):=by
    unfold Dj;rw[At (fun h=>f (by unfold BP at h;exact AAX Int.ofNat h))]
   generalize n:Fz (List.getD d (Int.toNat a) (ByteArray.empty,[],[],[])).2.1 (List.getD d (Int.toNat b) (ByteArray.empty,[],[],[])).2.1=c at *;rw[←j c rfl]at g;refine cP 3 e ?_ ?_
   ·trivial
   ·refine rM e (sO d c k) [(1,.nm 8)] [] ?_ ?_ ?_
    ·first|exact eN|refine eM ?_
    ·first|exact eN|refine eM ?_
    ·rintro _ _ ⟨rfl,rfl⟩;refine⟨[(8,.nm 1)],.p T3 (Eu c 0 d),[(8,.box 81 false [.p D7 c])],rfl,rfl,?_,?_,rfl,rfl,?_⟩
     ·first|exact eN|refine eM ?_
     ·first|exact eN|refine eM ?_
     ·generalize Eu c 0 d=m at *;refine rL e ?_ ?_
      ·trivial
      ·repeat'(first|exact trivial|refine eS rfl ?_|refine AB ?_|refine rX e ?_ ?_|refine rC ?_ ?_<;>intro f<;>try(cases f;done))
       ·rw[BY f]at g;exact fI e [.tmp 6,.tmp 7] (by rw[g];exact eR)
       ·rw[At (AAO.2 f)]at g;exact fI e [.tmp 6,.tmp 7] (by rw[g];exact eR)
 ·first|exact eN|refine eM ?_
 ·first|exact eN|refine eM ?_
end
theorem UU (l:List (List Int)) (i k:Nat):l <+: GT l i k:=by
 unfold GT;split
 ·exact ACl _ _
 ·exact AAD _
theorem UV (i:Nat):∀(n k:Nat) (l:List (List Int)),l <+: GU i n k l
 | 0,_,l=>AAD l
 | n+1,k,l=>by
  unfold GU;split
  ·exact(UU l i k).trans (UV i n (k+1) _)
  ·exact AAD l
theorem Pl:∀(n i:Nat) (l:List (List Int)),l <+: IU n i l
 | 0,_,l=>AAD l
 | n+1,i,l=>by
  unfold IU;split
  ·exact(UV i i 0 l).trans (Pl n (i+1) _)
  ·exact AAD l
theorem Pm {l m:List (List Int)} (h:l <+: m) {k:Nat} (hk:k<l.length):m.getD k []=l.getD k []:=by
 obtain⟨t,rfl⟩:=h;simp only[AS];rw[oS hk]
def LT (l:List (List Int)) (q p:Nat):Prop:=EP (l.getD q []) (l.getD p [])=[]∨EP (l.getD q []) (l.getD p [])∈l
theorem LT.pre {l m:List (List Int)} (h:l <+: m) {q p:Nat} (b:q<l.length) (hp:p<l.length) (a:LT l q p):LT m q p:=by
 unfold LT at a ⊢;rw[Pm h b,Pm h hp];rcases a with a|a
 ·exact .inl a
 ·exact .inr (h.subset a)
theorem A2j {l:List (List Int)} {b:List Int} (h:kP l b=true):b∈l:=by
 obtain⟨x,a,e⟩:=Of.1 h;have:x=b:=by simpa[F9] using e
 rw[←this];exact a
theorem lI {l:List (List Int)} {i k:Nat} (hi:i<l.length) (hk:k<l.length):LT (GT l i k) i k:=by
 have hp:=UU l i k;unfold LT;rw[Pm hp hi,Pm hp hk];unfold GT;split
 ·right;simp
 ·rename_i a;rw[An,By,OF]at a;by_cases h0:0<((EP (l.getD i []) (l.getD k [])).length:Int)
  ·right;cases hh:kP l (EP (l.getD i []) (l.getD k [])) with
   | true=>exact A2j hh
   | false=>exact absurd ⟨h0,hh⟩ a
  ·left;exact aT (by omega)
theorem UW {i:Nat}:∀ {n k:Nat} {l:List (List Int)},n+k=i→i<l.length→(GU i n k l).length≤256→(∀p,p<k→LT l i p)→∀p,p<i→LT (GU i n k l) i p
 | 0,k,l,hn,hi,a,h=>fun p hp=>h p (by omega)
 | n+1,k,l,hn,hi,a,h=>by
  unfold GU at a ⊢;split at a
  ·rename_i b;rw[BY b];have hp:=UU l i k;refine UW (by omega) (AAu hi hp.length_le) a fun p c=>?_;by_cases e:p=k
   ·subst e;exact lI hi (by omega)
   ·exact(h p (by omega)).pre hp hi (by omega)
  ·rename_i b;exact absurd (by omega:l.length≤256) b
theorem UX:∀ {n i:Nat} {l:List (List Int)},257≤n+i→(IU n i l).length≤256→i≤l.length→(∀q p,p<q→q<i→LT l q p)→∀q p,p<q→q<(IU n i l).length→LT (IU n i l) q p
 | 0,i,l,hn,a,f,h=>fun q p c d=>by
  have j:l.length≤256:=a;omega
 | n+1,i,l,hn,a,f,h=>by
  unfold IU at a ⊢;split at a
  ·rename_i b;rw[BY b];have hp:=UV i i 0 l;have k:=hp.length_le;have g:=(Pl n (i+1) (GU i i 0 l)).length_le;refine UX (by omega) a (by omega) fun q p c d=>?_;by_cases e:q=i
   ·subst e;exact UW (by omega) b.1 (by omega) (fun p hp=>by omega) p c
   ·exact(h q p c (by omega)).pre hp (by omega) (by omega)
  ·rename_i b;rw[At b];intro q p c d;exact h q p c (by
    refine DO fun hh=>b ⟨by omega,a⟩)
theorem Yh {c:List (List Int)} (a:(Aq c).length≤256):∀q p,p<q→q<(Aq c).length→LT (Aq c) q p :=
 UX (by omega) a (IN _) (fun q p _ h=>by omega)
theorem A02 (a b:List Int) (k:Nat):(EP a b).getD k 0=if k<a.length then B6 .and .u64 (a.getD k 0) (b.getD k 0) else 0:=by
 unfold EP;rw[PY];split
 ·rename_i h;exact Mn .and a b h
 ·rename_i h;rw[AS,gO (by rw[Eh];omega)];rfl
theorem Gv {b:List Int} {k:Nat} (h:¬k<b.length):b.getD k 0=0:=by
 rw[AS,gO (by omega)];rfl
theorem K0 {a b:List Int} (ha:IW a) (c:IW b) (i:Nat):BA (EP a b) i=(BA a i&&BA b i):=by
 unfold BA;rw[A02];split
 ·rw[IV (BG ha _) (BG c _),f7,Nat.testBit_and]
 ·rename_i h;rw[Gv h];simp
theorem Mq {a b:List Int} (ha:IW a) (d:IW b):IW (EP a b):=by
 refine N0 fun x c=>?_;unfold GR at c;obtain⟨i,-,rfl⟩:=If.1 c;rw[J1,IV (BG ha _) (BG d _)];have h1:=BG ha i;have e:(a.getD i 0).toNat &&& (b.getD i 0).toNat≤(a.getD i 0).toNat:=ACb;have f:=h1.1;have g:=h1.2;exact⟨oN _,by omega⟩
theorem Qw (b:List Int):∀n,CX b n=0∨b.getD (CX b n-1) 0≠0
 | 0=>.inl rfl
 | n+1=>by
  unfold CX;split
  ·exact Qw b n
  ·rename_i h;right;simpa using h
theorem A2k {n:Nat} (h0:n≠0) (h1:n<18446744073709551616):∃r,r<64∧n.testBit r=true:=by
 refine DO fun b=>h0 ?_;refine Nat.eq_of_testBit_eq fun r=>?_;rw[Nat.zero_testBit];by_cases hr:r<64
 ·cases a:n.testBit r with
  | false=>rfl
  | true=>exact absurd ⟨r,hr,a⟩ b
 ·have e:(18446744073709551616:Nat)=2 ^ 64:=by decide
  rw[e]at h1;exact Nat.testBit_lt_two_pow (AAu h1 (Nat.pow_le_pow_right (by decide) (by omega)))
theorem f8 {b:List Int} (a:IW b) {k:Nat} (h:b.getD k 0≠0):∃i,BA b i=true:=by
 have hu:=BG a k;have h1:=hu.1;have d:=hu.2;obtain⟨r,hr,c⟩:=A2k (n:=(b.getD k 0).toNat) (by omega) (by omega);refine⟨64*k+r,?_⟩;unfold BA;rw[show (64*k+r) / 64=k by omega,show (64*k+r) % 64=r by omega];exact c
theorem lJ {b:List Int} (a:IW b) (h:BI b≠[]):∃i,BA b i=true:=by
 rcases Qw b b.length with h1|h1
 ·exact absurd (by unfold BI;rw[h1];rfl) h
 ·exact f8 a h1
theorem XJ {a b:List Int} (ha:IW a) (c:IW b) (h:∀i,BA a i=true→BA b i=true) (k:Nat):B6 .andNot .u64 (a.getD k 0) (b.getD k 0)=0:=by
 rw[Qq];have:(BitVec.ofInt 64 (a.getD k 0) &&& ~~~BitVec.ofInt 64 (b.getD k 0))=0#64:=by
  apply BitVec.eq_of_getLsbD_eq;intro r hr;rw[BitVec.getLsbD_and,BitVec.getLsbD_not,←ABt,←ABt,Fa (BG ha k),Fa (BG c k)];have hk:=h (64*k+r);unfold BA at hk;rw[show (64*k+r) / 64=k by omega,show (64*k+r) % 64=r by omega]at hk;cases d:(a.getD k 0).toNat.testBit r with
  | false=>simp
  | true=>rw[hk d];simp
 rw[this];rfl
theorem GW {a b:List Int} (ha:IW a) (c:IW b):FB a b=true↔∀i,BA a i=true→BA b i=true:=by
 constructor
 ·exact fun h i hi=>MC ha c h hi
 ·intro h;unfold FB Ql BI;have h1:CX (GR .andNot a b a.length) (GR .andNot a b a.length).length=0:=by
   rw[Eh];exact Qr fun k hk=>by rw[Mn _ _ _ hk];exact XJ ha c h k
  rw[h1];rfl
structure JB (l:List (List Int)):Prop where
 wds:∀c∈l,IW c
 some:∀c∈l,∃i,BA c i=true
 wid:∀c∈l,c.length≤64
 meet:∀a∈l,∀b∈l,(∃i,BA a i=true∧BA b i=true)→∃t∈l,∀i,BA t i=(BA a i&&BA b i)
structure Bs (l:List (List Int)):Prop where
 wds:∀c∈l,IW c
 some:∀c∈l,∃i,BA c i=true
theorem Qx {l:List (List Int)} {k:Nat} (h:¬k<l.length):l.getD k []=[]:=by
 rw[AS,gO (by omega)];rfl
theorem Bs.get {l:List (List Int)} (h:Bs l) (k:Nat):IW (l.getD k []):=by
 by_cases hk:k<l.length
 ·exact h.wds _ (BC hk)
 ·rw[Qx hk];intro x a;cases a
theorem A2l {l:List (List Int)} (h:Bs l) (i k:Nat):Bs (GT l i k):=by
 unfold GT;split
 ·rename_i b;rw[An,By]at b;refine⟨fun c a=>?_,fun c a=>?_⟩
  ·rcases ON.1 a with a|a
   ·exact h.wds c a
   ·have:c=EP (l.getD i []) (l.getD k []):=by simpa using a
    rw[this];exact Mq (h.get i) (h.get k)
  ·rcases ON.1 a with a|a
   ·exact h.some c a
   ·have:c=EP (l.getD i []) (l.getD k []):=by simpa using a
    rw[this];have g:EP (l.getD i []) (l.getD k [])≠[]:=by
     intro e;rw[e]at b;exact absurd b.1 (by simp)
    have m:IW (GR .and (l.getD i []) (l.getD k []) (l.getD i []).length):=by
     intro x d;unfold GR at d;obtain⟨j,-,rfl⟩:=If.1 d;rw[J1,IV (BG (h.get i) _) (BG (h.get k) _)];have h1:=BG (h.get i) j;have n:((l.getD i []).getD j 0).toNat &&& ((l.getD k []).getD j 0).toNat≤((l.getD i []).getD j 0).toNat:=ACb;have o:=h1.1;have p:=h1.2;exact⟨oN _,by omega⟩
    obtain⟨j,f⟩:=lJ m g;exact⟨j,by unfold EP;rw[Nz];exact f⟩
 ·exact h
theorem oA {i:Nat}:∀ {n k:Nat} {l:List (List Int)},Bs l→Bs (GU i n k l)
 | 0,_,_,h=>h
 | n+1,k,l,h=>by
  unfold GU;split
  ·exact oA (A2l h i k)
  ·exact h
theorem oB:∀ {n i:Nat} {l:List (List Int)},Bs l→Bs (IU n i l)
 | 0,_,_,h=>h
 | n+1,i,l,h=>by
  unfold IU;split
  ·exact oB (oA h)
  ·exact h
theorem sP {d:List AH} (f:A3 d=0):Bs (AQ d):=by
 obtain⟨-,l,-⟩:=Av f;have h:=Dp d d.length;rw[f5]at h;have b:(AN d).length≤4096:=by omega
 refine⟨fun c a=>?_,fun c a=>?_⟩
 ·unfold AQ at a;obtain⟨s,-,rfl⟩:=If.1 a;exact(Bw (d:=d) b s 0).2.1
 ·unfold AQ at a;obtain⟨s,hs,rfl⟩:=If.1 a;obtain⟨j,g,e⟩:=CC ByteArray.empty hs;have i:0≤Aj d s:=by
   obtain⟨x,k,e⟩:=Cs hs;rw[←e];exact DU k
  exact⟨j,(Bw (d:=d) b s j).1.2 ⟨g,by rw[e];exact OA i⟩⟩
theorem UY {d:List AH} (l:A3 d=0) (s:(Aq (AQ d)).length≤256):JB (Aq (AQ d)):=by
 obtain⟨-,o,-⟩:=Av l;have g:Bs (Aq (AQ d)):=oB (sP l);have n:=Yh s;refine⟨g.wds,g.some,Pe (OE o),fun a ha b r hi=>?_⟩;obtain⟨q,f,rfl⟩:=CC [] ha;obtain⟨p,hp,rfl⟩:=CC [] r;have key:∀q p,q<(Aq (AQ d)).length→p<(Aq (AQ d)).length→LT (Aq (AQ d)) q p→(∃i,BA ((Aq (AQ d)).getD q []) i=true∧BA ((Aq (AQ d)).getD p []) i=true) →
   ∃t∈Aq (AQ d),∀i,BA t i=(BA ((Aq (AQ d)).getD q []) i&&BA ((Aq (AQ d)).getD p []) i):=by
  intro q p f hp c hi;have m:=K0 (g.get q) (g.get p);rcases c with c|c
  ·obtain⟨i,j,k⟩:=hi;have:=m i;rw[c,j,k]at this;unfold BA at this;simp at this
  ·exact⟨_,c,m⟩
 rcases ABu p q with h|h|h
 ·exact key q p f hp (n q p h f) hi
 ·subst h;exact⟨_,BC f,fun i=>by rw[Bool.and_self]⟩
 ·obtain⟨t,u,e⟩:=key p q hp f (n p q h hp) (by obtain⟨i,j,k⟩:=hi;exact⟨i,k,j⟩);exact⟨t,u,fun i=>by rw[e i,Bool.and_comm]⟩
def Jf (h:AJ):Prop:=JB (h.1.map fun t=>t.2.1)∧h.1.length≤256
theorem Gw (d:List AH):Jf (Ap d).1:=by
 unfold Ap;split
 ·exact⟨⟨fun c h=>(by cases h),fun c h=>(by cases h),fun c h=>(by cases h),fun c h=>(by cases h)⟩,by simp⟩
 ·rename_i g;have g:(A7 d).2=0:=DO g;have m:Ar d=0:=by
   unfold A7 at g;split at g
   ·rename_i h;exact absurd g h
   ·rename_i h;exact DO h
  obtain⟨p,-,-⟩:=B7 m;obtain⟨l,k,-⟩:=BS p;have hf:=UY l k;have f:∀c,c∈((Bd d).1.map fun t=>t.2.1)↔c∈Aq (AQ d):=by
   intro c;have e:((Bd d).1.map fun t=>t.2.1)=(AL d).map fun x=>x.2:=by
    show ((EU _ _ _).map fun t=>t.2.1)=_;unfold EU;rw[ABD];apply AA8
    ·simp
    ·intro i h1 q;simp[AS,show i<(AL d).length by simpa using h1]
   rw[e];constructor
   ·intro h;obtain⟨x,o,rfl⟩:=If.1 h;obtain⟨b,j,rfl⟩:=DV.1 o;exact j
   ·intro h;exact If.2 ⟨_,DV.2 ⟨c,h,rfl⟩,rfl⟩
  refine⟨⟨fun c h=>hf.wds c ((f c).1 h),fun c h=>hf.some c ((f c).1 h),fun c h=>hf.wid c ((f c).1 h),fun a ha b j hi=>?_⟩,?_⟩
  ·obtain⟨t,n,e⟩:=hf.meet a ((f a).1 ha) b ((f b).1 j) hi;exact⟨t,(f t).2 n,e⟩
  ·show (EU _ _ _).length≤256;rw[J6,IY];exact k
theorem B4 {h:AJ} {t:Int} (a:0≤t) (b:t<(h.1.length:Int)):BP h t∈h.1.map fun t=>t.2.1 :=
 If.2 ⟨_,AD h.1 QC (k:=t.toNat) (by omega),rfl⟩
theorem UZ {a b:List Int} (ha:IW a) (c:IW b):Pj a b=true↔∀i,BA a i=true→BA b i=true:=by
 constructor
 ·intro h i hi;by_cases hk:i / 64<a.length
  ·have h1:=Do.1 h (i / 64) (iS.2 hk);rw[AA1,J1]at h1;exact Rn (BG ha _) (BG c _) h1 (ACH _ (by decide)) hi
  ·exfalso;unfold BA at hi;rw[Gv hk]at hi;simp at hi
 ·intro h;unfold Pj;rw[Do];intro k _;rw[AA1,J1];exact XJ ha c h k
theorem A03 {a b:List Int} (ha:IW a) (c:IW b) (i:Nat):BA (Fz a b) i=(BA a i&&BA b i):=by
 unfold Fz;rw[Nz];unfold BA;have:(Gu (Yf a b) (min a.length b.length) (min a.length b.length)).getD (i / 64) 0=B6 .and .u64 (a.getD (i / 64) 0) (b.getD (i / 64) 0):=by
  by_cases h:i / 64<min a.length b.length
  ·unfold Gu;rw[AS,AAy,ABA h];show (if i / 64<min a.length b.length then Yf a b (i / 64) else 0)=_;rw[BY h];rfl
  ·rw[Gv (by rw[XI];exact h),IV (BG ha _) (BG c _)];by_cases h1:i / 64<a.length
   ·rw[Gv (b:=b) (by omega)];simp
   ·rw[Gv (b:=a) h1];simp
 rw[this,IV (BG ha _) (BG c _),f7,Nat.testBit_and]
theorem A04 {a b:List Int} (ha:IW a) (d:IW b):IW (Fz a b):=by
 refine N0 fun x c=>?_;unfold Gu at c;obtain⟨j,-,rfl⟩:=If.1 c;split
 ·unfold Yf;rw[IV (BG ha _) (BG d _)];have h1:=BG ha j;have e:(a.getD j 0).toNat &&& (b.getD j 0).toNat≤(a.getD j 0).toNat:=ACb;have f:=h1.1;have g:=h1.2;exact⟨oN _,by omega⟩
 ·exact⟨by decide,by decide⟩
theorem Ua (c:List Int):∀(l:List Ic) (k:Nat),(Eu c k l=-1∧∀t∈l,Dr t.2.1 c=false)∨((k:Int)≤Eu c k l∧Eu c k l<(k:Int)+l.length∧Dr (l.getD ((Eu c k l).toNat-k) QC).2.1 c=true)
 | [],k=>.inl ⟨rfl,fun t a=>by cases a⟩
 | x :: l,k=>by
  simp only[Eu];split
  ·rename_i h;right;refine⟨by omega,by simp only[No];omega,?_⟩;rw[show ((k:Int).toNat-k)=0 by omega];exact h
  ·rename_i h;have h:Dr x.2.1 c=false:=by simpa using h
   rcases Ua c l (k+1) with ⟨h1,b⟩|⟨h1,b,d⟩
   ·left;refine⟨h1,fun t a=>?_⟩;rcases GO.1 a with rfl|a
    ·exact h
    ·exact b t a
   ·right;refine⟨by omega,by simp only[No];omega,?_⟩;rw[show ((Eu c (k+1) l).toNat-k)=((Eu c (k+1) l).toNat-(k+1))+1 by omega];exact d
def f9 (h:AJ) (t:Int) (i:Nat):Bool:=BA (BP h t) i
theorem Bl {h:AJ} (hk:Jf h) {a b:Int} (a0:0≤a) (c:a<(h.1.length:Int)) (d:0≤b) (b1:b<(h.1.length:Int)):A8 h a b=true↔∀i,f9 h b i=true→f9 h a i=true :=
 UZ (hk.1.wds _ (B4 d b1)) (hk.1.wds _ (B4 a0 c))
theorem A05 {h:AJ} (hk:Jf h) {a b:Int} (a0:0≤a) (g:a<(h.1.length:Int)) (j:0≤b) (b1:b<(h.1.length:Int)) :
  ((Dj h a b).2=true→0≤(Dj h a b).1∧(Dj h a b).1<(h.1.length:Int)∧∀i,f9 h (Dj h a b).1 i=(f9 h a i&&f9 h b i))∧((∃i,f9 h a i=true∧f9 h b i=true)→(Dj h a b).2=true):=by
 have r:=hk.1.wds _ (B4 a0 g);have s:=hk.1.wds _ (B4 j b1);have c:=A03 r s;have n:=A04 r s;have heq:∀t∈h.1,Dr t.2.1 (Fz (BP h a) (BP h b))=true↔∀i,BA t.2.1 i=BA (Fz (BP h a) (BP h b)) i:=by
  intro t d;have wt:=hk.1.wds t.2.1 (If.2 ⟨t,d,rfl⟩);unfold Dr;rw[An,UZ wt n,UZ n wt];constructor
  ·rintro⟨u,v⟩ i;rw[AB7];exact⟨u i,v i⟩
  ·intro e;exact⟨fun i hi=>by rw[←e i];exact hi,fun i hi=>by rw[e i];exact hi⟩
 unfold Dj;by_cases f:(Fz (BP h a) (BP h b)).length=0
 ·rw[BY f];refine⟨fun e=>(by cases e),?_⟩;rintro⟨i,p,q⟩;exfalso;have:=c i;rw[aT f]at this;unfold f9 at p q;rw[p,q]at this;unfold BA at this;simp at this
 ·rw[At f];rcases Ua (Fz (BP h a) (BP h b)) h.1 0 with ⟨h1,l⟩|⟨h1,l,m⟩
  ·rw[BY (by omega)];refine⟨fun e=>(by cases e),fun hi=>?_⟩;exfalso;obtain⟨t,d,e⟩:=hk.1.meet _ (B4 a0 g) _ (B4 j b1) hi;obtain⟨x,o,rfl⟩:=If.1 d;have:=(heq x o).2 (fun i=>by rw[c i];exact e i);rw[l x o]at this;cases this
  ·have h1:0≤Eu (Fz (BP h a) (BP h b)) 0 h.1:=by omega
   rw[At (by omega)];refine⟨fun _=>⟨h1,by simp only;omega,fun i=>?_⟩,fun _=>rfl⟩;rw[ACf]at m;have w:=AD h.1 QC (k:=(Eu (Fz (BP h a) (BP h b)) 0 h.1).toNat) (by omega);have:=(heq _ w).1 m i;rw[c i]at this;exact this
theorem Ub {h:AJ} (hk:Jf h) {a b:Int} (a0:0≤a) (l:a<(h.1.length:Int)) (m:0≤b) (b1:b<(h.1.length:Int)) :
  ((Dj h a b).2=true→0≤(Dj h a b).1∧(Dj h a b).1<(h.1.length:Int)∧A8 h a (Dj h a b).1=true∧A8 h b (Dj h a b).1=true) ∧
  ∀x,0≤x→x<(h.1.length:Int)→A8 h a x=true→A8 h b x=true→(Dj h a b).2=true∧A8 h (Dj h a b).1 x=true:=by
 obtain⟨q,t⟩:=A05 hk a0 l m b1;refine⟨fun e=>?_,fun x g k r s=>?_⟩
 ·obtain⟨c,d,f⟩:=q e;refine⟨c,d,(Bl hk a0 l c d).2 fun i hi=>?_,(Bl hk m b1 c d).2 fun i hi=>?_⟩
  ·rw[f i,An]at hi;exact hi.1
  ·rw[f i,An]at hi;exact hi.2
 ·have n:=(Bl hk a0 l g k).1 r;have o:=(Bl hk m b1 g k).1 s;obtain⟨i,hi⟩:=hk.1.some _ (B4 g k);have e:=t ⟨i,n i hi,o i hi⟩;obtain⟨c,d,f⟩:=q e;refine⟨e,(Bl hk c d g k).2 fun j p=>?_⟩;rw[f j,An];exact⟨n j p,o j p⟩
def Nrm (c:List Int):Prop:=c.length=0∨c.getD (c.length-1) 0≠0
theorem K2 (b:List Int):Nrm (BI b):=by
 unfold Nrm BI;have a:=UB b b.length;rw[SH,ABe a];rcases Qw b b.length with h|h
 ·exact .inl h
 ·by_cases h0:CX b b.length=0
  ·exact .inl h0
  ·right;rw[AS,List.getElem?_take_of_lt (by omega),←AS];exact h
theorem A2m {a b:List Int} (ha:IW a) (f:IW b) (h:∀i,BA a i=BA b i) (k:Nat):a.getD k 0=b.getD k 0:=by
 have c:=BG ha k;have d:=BG f k;have g:=c.1;have j:=c.2;have l:=d.1;have m:=d.2;have e:(a.getD k 0).toNat=(b.getD k 0).toNat:=by
  refine Nat.eq_of_testBit_eq fun r=>?_;by_cases hr:r<64
  ·have:=h (64*k+r);unfold BA at this;rw[show (64*k+r) / 64=k by omega,show (64*k+r) % 64=r by omega]at this;exact this
  ·have big:∀n:Nat,n<18446744073709551616→n.testBit r=false:=fun n hn=>by
    have e:(18446744073709551616:Nat)=2 ^ 64:=by decide
    rw[e]at hn;exact Nat.testBit_lt_two_pow (AAu hn (Nat.pow_le_pow_right (by decide) (by omega)))
   rw[big _ (by omega),big _ (by omega)]
 omega
theorem oC {a b:List Int} (d:∀k,a.getD k 0=b.getD k 0) (c:Nrm b):b.length≤a.length:=by
 rcases c with h|h
 ·omega
 ·refine DO fun e=>h ?_;rw[←d];exact Gv (by omega)
theorem Yi {a b:List Int} (ha:IW a) (e:IW b) (g:Nrm a) (j:Nrm b) (h:∀i,BA a i=BA b i):a=b:=by
 have c:=A2m ha e h;have f:a.length=b.length:=ABM (oC (fun k=>(c k).symm) g) (oC c j);refine AA8 f fun i h1 d=>?_;have:=c i;simpa[AS,h1,d] using this
theorem gA {α:Type} (l:List α) (x:α) (n:Nat):List.Perm (l.take n++[x]++l.drop n) (x :: l):=by
 have h:l.take n++[x]++l.drop n=l.take n++x :: l.drop n:=by simp
 rw[h];refine ACC.trans ?_;rw[ABm]
def oD (l:List ByteArray):Prop:=l.Pairwise fun a b=>Aa a b=false
theorem ME {a b:ByteArray} (h:Aa a b=false):Aa b a=false:=by
 cases hh:Aa b a with
 | false=>rfl
 | true=>rw[Dq hh]at h;cases h
theorem Uc {l:List ByteArray} {s:ByteArray} (h:oD l) (hs:∀x∈l,Aa x s=false):oD (EO l s):=by
 unfold EO;split
 ·exact h
 ·refine(List.Perm.pairwise_iff (fun b=>ME b) (gA l s _)).2 ?_;exact AB9.2 ⟨fun x a=>ME (hs x a),h⟩
theorem Ud {d:List AH} (hn:Cb d=0):oD (AN d):=by
 have key:∀k,k≤d.length→oD (AN (d.take k))∧∀s∈AN (d.take k),∃i,i<k∧(d.getD i d0).1=s:=by
  intro k;induction k with
  | zero =>
   intro _;exact⟨.nil,fun s hs=>by cases hs⟩
  | succ k c =>
   intro hk;obtain⟨h1,a⟩:=c (by omega);have e:AN (d.take (k+1))=EO (AN (d.take k)) (d.getD k d0).1:=by
    have:d.take (k+1)=d.take k++[d.getD k d0]:=Ab d d0 (by omega);rw[this];unfold AN;rw[ABw];rfl
   rw[e];refine⟨Uc h1 fun x b=>?_,fun s hs=>?_⟩
   ·obtain⟨i,hi,rfl⟩:=a x b;cases hh:Aa (d.getD i d0).1 (d.getD k d0).1 with
    | false=>rfl
    | true =>
     have g:=I8 d hh;rw[J2 hn (j:=i) (by omega),J2 hn (j:=k) (by omega)]at g;omega
   ·rcases Gq hs with hs|hs
    ·obtain⟨i,hi,e⟩:=a s hs;exact⟨i,by omega,e⟩
    ·exact⟨k,by omega,hs.symm⟩
 have:=(key d.length (NO _)).1
 rwa [f5]at this
structure Nd (l:List (List Int)):Prop where
 nd:l.Nodup
 nrm:∀c∈l,Nrm c
theorem A2n {l:List (List Int)} {c:List Int} (h:Nd l) (b:c∉l) (hn:Nrm c):Nd (l++[c]):=by
 refine⟨?_,fun x a=>?_⟩
 ·rw[AAF];refine⟨h.nd,by simp,fun x a y d e=>b ?_⟩;have:y=c:=by simpa using d
  rw[←this,←e];exact a
 ·rcases ON.1 a with a|a
  ·exact h.nrm x a
  ·have:x=c:=by simpa using a
   rw[this];exact hn
theorem A2o {l:List (List Int)} (h:Nd l) (i k:Nat):Nd (GT l i k):=by
 unfold GT;split
 ·rename_i a;rw[An,OF]at a;refine A2n h (fun b=>?_) (K2 _);have:kP l (EP (l.getD i []) (l.getD k []))=true:=Of.2 ⟨_,b,by unfold F9;exact ABc rfl⟩;rw[this]at a;cases a.2
 ·exact h
theorem oE {i:Nat}:∀ {n k:Nat} {l:List (List Int)},Nd l→Nd (GU i n k l)
 | 0,_,_,h=>h
 | n+1,k,l,h=>by
  unfold GU;split
  ·exact oE (A2o h i k)
  ·exact h
theorem Sj:∀ {n i:Nat} {l:List (List Int)},Nd l→Nd (IU n i l)
 | 0,_,_,h=>h
 | n+1,i,l,h=>by
  unfold IU;split
  ·exact Sj (oE h)
  ·exact h
theorem Qy {d:List AH} (m:A3 d=0):Nd (AQ d):=by
 obtain⟨-,l,-,hn,p⟩:=Av m;have q:=Dp d d.length;rw[f5]at q;have hap:=Ud hn;refine⟨?_,fun c n=>?_⟩
 ·unfold AQ List.Nodup;rw[AAr,oR];intro i j hi a o e;have h1:=(oR.1 hap) i j hi a o;have g:∀k,(hk:k<(AN d).length)→(AN d).getD k ByteArray.empty=(AN d)[k]:=fun k hk=>by simp[AS,hk]
  have f:=(Bw (d:=d) (all:=AN d) (by omega) (AN d)[j] 0).2.1;have b:=fO hn p l hi a (by
   rw[g i hi,g j a,e];unfold DK;have:=(GW f f).2 fun _ h=>h;rw[this];rfl)
  rw[g i hi,g j a,h1]at b;cases b
 ·obtain⟨s,hs,rfl⟩:=If.1 n;unfold Ei ofF;split
  ·exact K2 _
  ·exact .inl rfl
theorem MF {d:List AH}:∀ {l:List (List Int)} {o:List AP},(o.map (·.2)++l).Nodup→((l.foldl (Qs d) o).map (·.2)).Nodup
 | [],o,h=>by simpa using h
 | b :: l,o,h=>by
  rw[TO];refine MF ?_;unfold Qs GV YZ;have hp:=(gA o (Gr d (AN d) (AQ d) b,b) (Fc (Gr d (AN d) (AQ d) b,b) o o.length)).map (fun x:AP=>x.2);have c:List.Perm ((o.take (Fc (Gr d (AN d) (AQ d) b,b) o o.length)++[(Gr d (AN d) (AQ d) b,b)]++o.drop (Fc (Gr d (AN d) (AQ d) b,b) o o.length)).map (fun x:AP=>x.2)++l) (o.map (·.2)++b :: l) :=
   (hp.append_right l).trans (ACC (a:=b)).symm
  exact c.nodup_iff.2 h
def HH (h:AJ):Prop:=∀a b,0≤a→a<(h.1.length:Int)→0≤b→b<(h.1.length:Int)→A8 h a b=true→A8 h b a=true→a=b
theorem A3H {h:AJ} (hk:Jf h) (hn:Nd (h.1.map fun t=>t.2.1)):HH h:=by
 intro a b a0 c d b1 h1 f;have l:=hk.1.wds _ (B4 a0 c);have m:=hk.1.wds _ (B4 d b1);have e:BP h a=BP h b:=Yi l m (hn.nrm _ (B4 a0 c)) (hn.nrm _ (B4 d b1)) fun i=>by
  rw[AB7];exact⟨(Bl hk d b1 a0 c).1 f i,(Bl hk a0 c d b1).1 h1 i⟩
 have hp:=oR.1 hn.nd;have g:∀k:Int,0≤k→(hk:k<(h.1.length:Int))→BP h k=(h.1.map fun t=>t.2.1)[k.toNat]'(by rw[nO];omega):=fun k n o=>by
  unfold BP;simp[AS,show k.toNat<h.1.length by omega]
 rw[g a a0 c,g b d b1]at e;rcases Int.lt_trichotomy a b with j|heq|j
 ·exact absurd e (hp a.toNat b.toNat (by rw[nO];omega) (by rw[nO];omega) (by omega))
 ·exact heq
 ·exact absurd e.symm (hp b.toNat a.toNat (by rw[nO];omega) (by rw[nO];omega) (by omega))
theorem Rs (d:List AH):HH (Ap d).1:=by
 refine A3H (Gw d) ?_;unfold Ap;split
 ·exact⟨.nil,fun c h=>(by cases h)⟩
 ·rename_i a;have a:(A7 d).2=0:=DO a;have g:Ar d=0:=by
   unfold A7 at a;split at a
   ·rename_i h;exact absurd a h
   ·rename_i h;exact DO h
  obtain⟨m,-,-⟩:=B7 g;obtain⟨f,o,-⟩:=BS m;have hf:Nd (Aq (AQ d)):=Sj (Qy f);have e:((Bd d).1.map fun t=>t.2.1)=(AL d).map fun x=>x.2:=by
   show ((EU _ _ _).map fun t=>t.2.1)=_;unfold EU;rw[ABD];apply AA8
   ·simp
   ·intro i h1 n;simp[AS,show i<(AL d).length by simpa using h1]
  show Nd ((Bd d).1.map fun t=>t.2.1);rw[e];refine⟨MF (by simpa using hf.nd),fun c k=>?_⟩;obtain⟨x,l,rfl⟩:=If.1 k;obtain⟨b,j,rfl⟩:=DV.1 l;exact hf.nrm b j
section
attribute [local go_sem] n9
def Ct (f:Int):List (Int×Int)→Int×Bool
 | []=>(0,false)
 | x :: l=>if x.1=f then (x.2,true) else Ct f l
theorem Ue (f:Int) (l:List (Int×Int)) {k:Nat} (h:k<l.length):Ct f (l.drop k)=if (l.getD k (0,0)).1=f then ((l.getD k (0,0)).2,true) else Ct f (l.drop (k+1)):=by
 rw[OS h];have e:l.getD k (0,0)=l[k]:=by simp[AS,h]
 rw[e];rfl
def Ba (h:AJ) (t:Int):List (Int×Int):=(h.1.getD t.toNat QC).2.2.2
def Aw (h:AJ) (t f:Int):Int×Bool:=Ct f (Ba h t)
def MG:Ac:={ ins:=[Lb,T3,T3],pre:=fun(h,t,_,_)=>(0:Int)≤t∧t<(List.length (h:AJ).1:Int),out:=fun(h,t,f,_)=>[.p T3 (Aw h t f).1,.p .bool (Aw h t f).2],lend:=true }
attribute [local go_sem] MG
theorem Yj:Ah Tryz.prog 26 MG:=by
 refine fK [0,1,2,3,6,7,9,15,16,17,18,26] Tryz.func26 Tryz.ntmps26 AG ?_;rintro w0 O0 ⟨⟨d,hf⟩,t,f,u⟩ b q ⟨j,m⟩;simp only[MG,AM];refine Ev.ent (σ':=⟨[(0,.p Lb (d,hf)),(1,.p T3 t),(2,.p T3 f)],[]⟩) ?_ (AC [] rfl rfl ?_ ?_)
 ·repeat'(first|exact trivial|refine eS rfl ?_|refine AB ?_|refine rX b ?_ ?_|refine rC ?_ ?_<;>intro a<;>try(cases a;done))
  ·exact⟨j,m⟩
  ·have o:∀l,l=(List.getD d (Int.toNat t) (ByteArray.empty,[],[],[])).2.2.2→Aw (d,hf) t f=Ct f l:=fun l e=>by rw[e];rfl
   have r:List.length (List.getD d (Int.toNat t) (ByteArray.empty,[],[],[])).2.2.2≤140737488355328:=(q.1.1.2 _ (AD (d:List Ic) QC ((AC3 j).2 m))).2.2.2.1;generalize (List.getD d (Int.toNat t) (ByteArray.empty,[],[],[])).2.2.2=l at *;rw[o l rfl];refine AI (ι:={k:Nat//k≤List.length l∧Ct f l=Ct f (l.drop k)}) (fun k=>⟨[(2,.p T3 f),(15,.p Wb l),(16,.p (.int .i64) (List.length l:Int)),(17,.p (.int .i64) (k.1:Int))],[]⟩) (fun k=>List.length l-k.1) ⟨0,IN _,rfl⟩ (AC [] rfl rfl ?_ ?_) (fun k=>?_)
   ·first|exact eN|refine eM ?_
   ·first|exact eN|refine eM ?_
   ·obtain⟨k,hk,c⟩:=k;have i:=fun h:k<List.length l=>Ue f l h;simp only;repeat'(first|exact trivial|refine eS rfl ?_|refine AB ?_|refine rX b ?_ ?_|refine rC ?_ ?_<;>intro a<;>try(cases a;done))
    ·exact a
    ·refine cP 5 b ?_ ?_
     ·trivial
     ·refine A73 b ?_;refine rL b ?_ ?_
      ·trivial
      ·repeat'(first|exact trivial|refine eS rfl ?_|refine AB ?_|refine rX b ?_ ?_|refine rC ?_ ?_<;>intro a<;>try(cases a;done))
       ·have g:k<List.length l:=by exact eV
        rw[i g,BY a]at c;exact fI b [.tmp 6,.tmp 7] (by rw[c];exact eR)
       ·omega
       ·have g:k<List.length l:=by exact eV
        rw[i g,At a]at c;refine⟨⟨k+1,g,c⟩,by simp only;omega,AC [] rfl rfl ?_ ?_⟩
        ·first|exact eN|refine eM ?_
        ·first|exact eN|refine eM ?_
    ·have n:List.drop k (l:List (Int×Int))=[]:=IF (by exact eV);rw[n]at c;have c:Ct f l=(0,false):=c;exact fI b [.tmp 6,.tmp 7] (by rw[c];exact eR)
 ·first|exact eN|refine eM ?_
 ·first|exact eN|refine eM ?_
abbrev EB:=List Int×List Int
def DE (h:AJ) (s:EB) (n t:Int):Option EB :=
 if (Dj h (s.1.getD n.toNat 0) t).2=true then some (if (Dj h (s.1.getD n.toNat 0) t).1=s.1.getD n.toNat 0 then s else (s.1.set n.toNat (Dj h (s.1.getD n.toNat 0) t).1,s.2++[n])) else none
def Ds (h:AJ) (s:EB):List (Nat×Obj):=[(1,.box 74 true [.p Lb h,.sr 2 T3 0 s.1.length,.p I4 s.2]),(2,.arr 3 T3 s.1)]
theorem gB (h:AJ) (hk:Jf h) (s:EB) {n t:Int} (n0:0≤n) (n1:n<(s.1.length:Int)) (e:0≤s.1.getD n.toNat 0) (JY:s.1.getD n.toNat 0<(h.1.length:Int)) (j:0≤t) (k:t<(h.1.length:Int)) (g:s.2.length≤1000000000) :
  BL Tryz.prog 72 [.bp 1 [] 0,.p T3 n,.p T3 t] (Ds h s) [1]
  (fun res c=>(DE h s n t=none∧res=.p .bool false∧c=Ds h s)∨∃d,DE h s n t=some d∧res=.p .bool true∧c=Ds h d):=by
 obtain⟨ty,w⟩:=s;simp only at n1 e JY g;have hh:h.1.length≤100000:=To hk.2 (by omega);have f:∀x∈h.1,x.2.1.length≤100000:=fun x i=>To (hk.1.wid x.2.1 (If.2 ⟨x,i,rfl⟩)) (by omega);refine La [0,1,2,6,7,8,26,35] [] [] Tryz.func72 Tryz.ntmps72 (AE A2i AG) ?_;intro w0 K O0 ρ0 b l o;simp only[Ds,Ao];repeat'(first|exact trivial|refine eS rfl ?_|refine AB ?_|refine rX b ?_ ?_|refine rC ?_ ?_<;>intro a<;>try(cases a;done))
 ·exact⟨⟨n0,n1⟩,⟨e,JY⟩,⟨j,k⟩,hh,f⟩
 ·have hr:DE h (ty,w) n t=none:=by unfold DE;rw[At (by simp only;rw[a];simp)]
  refine Ev.ent (σ':=⟨[(6,.p .bool false)],Ds h (ty,w)⟩) ?_ (AC [(1,.nm 1),(2,.nm 2)] rfl rfl ?_ ?_)
  ·exact fM b [.tmp 6] (.p .bool false) eT (.inl ⟨hr,rfl,rfl⟩)
  ·unfold Ds;first|exact eN|refine eM ?_
  ·first|exact eN|refine eM ?_
 ·exact⟨n0,n1⟩
 ·exact⟨n0,n1⟩
 ·simp only[AO];omega
 ·have hr:DE h (ty,w) n t=some (ty.set n.toNat (Dj h (ty.getD n.toNat 0) t).1,w++[n]):=by unfold DE;rw[BY (by assumption),At a]
  generalize (Dj h (ty.getD n.toNat 0) t).1=m at *;have q:(w++[n]).take (w.length+1)=w++[n]:=As (by simp);refine GP [61] ?_;refine Ev.ent (σ':=⟨[(6,.p .bool true)],Ds h (ty.set n.toNat m,w++[n])⟩) ?_ (AC [(1,.nm 1),(2,.nm 2)] rfl rfl ?_ ?_)
  ·exact fM b [.tmp 6] (.p .bool true) eT (.inr ⟨_,hr,rfl,rfl⟩)
  ·unfold Ds;simp only[AAd];first|exact eN|refine eM ?_
  ·first|exact eN|refine eM ?_
 ·have hr:DE h (ty,w) n t=some (ty,w):=by unfold DE;rw[BY (by assumption),BY (by simpa using a)]
  refine Ev.ent (σ':=⟨[(6,.p .bool true)],Ds h (ty,w)⟩) ?_ (AC [(1,.nm 1),(2,.nm 2)] rfl rfl ?_ ?_)
  ·exact fM b [.tmp 6] (.p .bool true) eT (.inr ⟨_,hr,rfl,rfl⟩)
  ·unfold Ds;first|exact eN|refine eM ?_
  ·first|exact eN|refine eM ?_
end
def J7 (h:AJ) (f:Int):Int:=(h.2.getD f.toNat (ByteArray.empty,0)).2
def MJ (h:AJ) (n:Int):List (Int×Int)→EB→Option EB
 | [],s=>some s
 | a :: l,s=>(DE h s n (J7 h a.1)).bind (MJ h n l)
def M9 (h:AJ) (n:Int):List (Int×Int)→EB→Option EB
 | [],s=>some s
 | a :: l,s=>if (Aw h (s.1.getD n.toNat 0) a.1).2=true then (DE h s a.2 (Aw h (s.1.getD n.toNat 0) a.1).1).bind (M9 h n l) else none
def J8 (h:AJ) (f:List AF) (n:Int) (s:EB):Option EB:=(MJ h n (f.getD n.toNat (0,[])).2 s).bind (M9 h n (f.getD n.toNat (0,[])).2)
def oG (h:AJ) (f:List AF):Nat→Nat→EB→Option (List Int)
 | 0,_,_=>none
 | k+1,i,s=>if i<s.2.length then (J8 h f (s.2.getD i 0) s).bind (oG h f k (i+1)) else some s.1
def Ai (f:List AF):List Int:=f.map fun x=>x.1
def EV (f:List AF):List Int:=(List.range f.length).map fun i:Nat=>(i:Int)
def Be (f:List AF) (ty:List Int):List AF:=(List.range f.length).map fun i=>(ty.getD i 0,(f.getD i (0,[])).2)
structure Sk (h:AJ):Prop where
 int:∀x∈h.2,0≤x.2∧x.2<(h.1.length:Int)
 val:∀t∈h.1,∀p∈t.2.2.2,0≤p.2∧p.2<(h.1.length:Int)
structure Mr (h:AJ) (m:Nat) (s:EB):Prop where
 len:s.1.length=m
 ty:∀t∈s.1,0≤t∧t<(h.1.length:Int)
 wt:∀n∈s.2,0≤n∧n<(m:Int)
theorem Mr.get {h:AJ} {m:Nat} {s:EB} (hs:Mr h m s) {n:Int} (n0:0≤n) (n1:n<(m:Int)):0≤s.1.getD n.toNat 0∧s.1.getD n.toNat 0<(h.1.length:Int):=by
 have a:n.toNat<s.1.length:=by rw[hs.len];omega
 rw[AS,AT a];exact hs.ty _ (AA7 a)
def gC (h:AJ) (t:Int):Nat:=((List.range h.1.length).filter fun i:Nat=>A8 h t (i:Int)).length
def Ms (h:AJ) (ty:List Int):Nat:=(ty.map (gC h)).sum
theorem XK {α:Type} {p q:α→Bool}:∀ {l:List α},(∀x∈l,q x=true→p x=true)→(∃b∈l,p b=true∧q b=false)→(l.filter q).length<(l.filter p).length
 | [],_,⟨b,c,_⟩=>by cases c
 | x :: l,h1,⟨b,c,f,g⟩=>by
  have i:∀ {l:List α},(∀x∈l,q x=true→p x=true)→(l.filter q).length≤(l.filter p).length:=by
   intro l h;induction l with
   | nil=>exact NO _
   | cons y l j =>
    have e:=j fun z d=>h z (bY _ d);rw[AAn,AAn];by_cases a:q y=true
    ·rw[BY a,BY (h y (by simp) a)];simp only[No];omega
    ·rw[At a];split
     ·simp only[No];omega
     ·exact e
  rw[AAn,AAn];rcases GO.1 c with rfl|c
  ·rw[At (by rw[g];simp),BY f];have:=i fun z d=>h1 z (bY _ d);simp only[No];omega
  ·have e:=XK (fun z d=>h1 z (bY _ d)) ⟨b,c,f,g⟩;by_cases a:q x=true
   ·rw[BY a,BY (h1 x (by simp) a)];simp only[No];omega
   ·rw[At a];split
    ·simp only[No];omega
    ·exact e
theorem Mt {h:AJ} (hk:Jf h) {a:Int} (a0:0≤a) (b:a<(h.1.length:Int)):A8 h a a=true:=(Bl hk a0 b a0 b).2 fun _ h=>h
theorem F0 {h:AJ} (hk:Jf h) {a b c:Int} (a0:0≤a) (d:a<(h.1.length:Int)) (e:0≤b) (b1:b<(h.1.length:Int)) (c0:0≤c) (c1:c<(h.1.length:Int)) (h1:A8 h a b=true) (f:A8 h b c=true):A8 h a c=true :=
 (Bl hk a0 d c0 c1).2 fun i hi=>(Bl hk a0 d e b1).1 h1 i ((Bl hk e b1 c0 c1).1 f i hi)
theorem oH {h:AJ} (hk:Jf h) (hi:HH h) {a m:Int} (a0:0≤a) (b:a<(h.1.length:Int)) (d:0≤m) (f:m<(h.1.length:Int)) (hs:A8 h a m=true) (g:m≠a):gC h m<gC h a:=by
 refine XK (fun x c e=>?_) ⟨a.toNat,iS.2 (by omega),?_,?_⟩
 ·have c:=iS.1 c;exact F0 hk a0 b d f (oN _) (by omega) hs e
 ·rw[AAW a0];exact Mt hk a0 b
 ·rw[AAW a0];cases e:A8 h m a with
  | false=>rfl
  | true=>exact absurd (hi m a d f a0 b e hs) g
theorem oI {α:Type} (g:α→Nat) (d:α):∀ {l:List α} {i:Nat} {v:α},i<l.length→((l.set i v).map g).sum+g (l.getD i d)=(l.map g).sum+g v
 | [],i,v,h=>by simp at h
 | x :: l,0,v,h=>by simp only[ACk,tO,ACx,List.getD_cons_zero];omega
 | x :: l,i+1,v,h=>by
  have:=oI g d (l:=l) (i:=i) (v:=v) (by simpa using h);simp only[ABN,tO,ACx,List.getD_cons_succ];omega
theorem Er {h:AJ} (hk:Jf h) (hi:HH h) {m:Nat} {s b:EB} (hs:Mr h m s) {n t:Int} (n0:0≤n) (n1:n<(m:Int)) (o:0≤t) (p:t<(h.1.length:Int)) (e:DE h s n t=some b) :
  Mr h m b∧Ms h b.1+b.2.length≤Ms h s.1+s.2.length∧s.2.length≤b.2.length:=by
 obtain⟨c,d⟩:=hs.get n0 n1;unfold DE at e;split at e
 ·rename_i j;obtain⟨f,g,l,q⟩:=(Ub hk c d o p).1 j;generalize (Dj h (s.1.getD n.toNat 0) t).1=v at *;injection e with e
  split at e
  ·subst e;exact⟨hs,NO _,NO _⟩
  ·rename_i k;subst e;have hr:=oH hk hi c d f g l k;have i:n.toNat<s.1.length:=by rw[hs.len];omega
   have hp:=oI (gC h) 0 (v:=v) i;refine⟨⟨by simp only[AAd];exact hs.len,fun x a=>?_,fun x a=>?_⟩,?_,by simp⟩
   ·rcases AAT a with a|rfl
    ·exact hs.ty x a
    ·exact⟨f,g⟩
   ·rcases ON.1 a with a|a
    ·exact hs.wt x a
    ·rw[AAh.1 a];exact⟨n0,n1⟩
   ·unfold Ms;simp only[OR,iF];omega
 ·cases e
def Ew (h:AJ) (m:Nat) (a:Int×Int):Prop:=(0≤a.1∧a.1<(h.2.length:Int))∧0≤a.2∧a.2<(m:Int)
theorem Gx {h:AJ} (hf:Sk h) {f:Int} (b:0≤f) (c:f<(h.2.length:Int)):0≤J7 h f∧J7 h f<(h.1.length:Int):=by
 have a:f.toNat<h.2.length:=by omega
 unfold J7;rw[AS,AT a];exact hf.int _ (AA7 a)
theorem XL {f:Int}:∀ {l:List (Int×Int)},(Ct f l).2=true→(f,(Ct f l).1)∈l
 | [],h=>by cases h
 | x :: l,h=>by
  unfold Ct at h ⊢;split
  ·rename_i e;rw[←e];simp
  ·rename_i e;rw[At e]at h;exact bY _ (XL h)
theorem Qz {h:AJ} {t:Int} (a:0≤t) (b:t<(h.1.length:Int)):h.1.getD t.toNat QC∈h.1:=AD h.1 QC (by omega)
theorem Ej {h:AJ} (hf:Sk h) {t f:Int} (a:0≤t) (b:t<(h.1.length:Int)) (e:(Aw h t f).2=true):0≤(Aw h t f).1∧(Aw h t f).1<(h.1.length:Int) :=
 hf.val _ (Qz a b) _ (XL e)
theorem Pn {h:AJ} (hk:Jf h) (hi:HH h) (hf:Sk h) {m:Nat} {n:Int} (n0:0≤n) (n1:n<(m:Int)):∀ {l:List (Int×Int)} {s c:EB},(∀a∈l,Ew h m a)→Mr h m s→MJ h n l s=some c →
  Mr h m c∧Ms h c.1+c.2.length≤Ms h s.1+s.2.length∧s.2.length≤c.2.length
 | [],s,c,_,hs,e=>by
  injection e with e
  subst e;exact⟨hs,NO _,NO _⟩
 | a :: l,s,c,f,hs,e=>by
  unfold MJ at e;cases d:DE h s n (J7 h a.1) with
  | none=>rw[d]at e;cases e
  | some s1 =>
   rw[d]at e;obtain⟨⟨a0,g⟩,-⟩:=f a (by simp);obtain⟨k,o⟩:=Gx hf a0 g;obtain⟨i,q,r⟩:=Er hk hi hs n0 n1 k o d;obtain⟨p,t,u⟩:=Pn hk hi hf n0 n1 (fun b j=>f b (by simp[j])) i e;exact⟨p,by omega,by omega⟩
theorem Sl {h:AJ} (hk:Jf h) (hi:HH h) (hf:Sk h) {m:Nat} {n:Int} (n0:0≤n) (n1:n<(m:Int)):∀ {l:List (Int×Int)} {s c:EB},(∀a∈l,Ew h m a)→Mr h m s→M9 h n l s=some c →
  Mr h m c∧Ms h c.1+c.2.length≤Ms h s.1+s.2.length∧s.2.length≤c.2.length
 | [],s,c,_,hs,e=>by
  injection e with e
  subst e;exact⟨hs,NO _,NO _⟩
 | a :: l,s,c,g,hs,e=>by
  unfold M9 at e;split at e
  ·rename_i o;obtain⟨j,f⟩:=hs.get n0 n1;obtain⟨p,q⟩:=Ej hf j f o;cases d:DE h s a.2 (Aw h (s.1.getD n.toNat 0) a.1).1 with
   | none=>rw[d]at e;cases e
   | some s1 =>
    rw[d]at e;obtain⟨-,i,b1⟩:=g a (by simp);obtain⟨f,t,u⟩:=Er hk hi hs i b1 p q d;obtain⟨r,v,w⟩:=Sl hk hi hf n0 n1 (fun b k=>g b (by simp[k])) f e;exact⟨r,by omega,by omega⟩
  ·cases e
def K3 (h:AJ) (f:List AF):Prop:=∀x∈f,∀a∈x.2,Ew h f.length a
theorem MK {h:AJ} {f:List AF} (ha:K3 h f) {n:Int} (n0:0≤n) (n1:n<(f.length:Int)):∀a∈(f.getD n.toNat (0,[])).2,Ew h f.length a:=ha _ (AD f (0,[]) (by omega))
theorem Po {h:AJ} (hk:Jf h) (hi:HH h) (hf:Sk h) {f:List AF} (ha:K3 h f) {n:Int} (n0:0≤n) (n1:n<(f.length:Int)) {s a:EB} (hs:Mr h f.length s) (e:J8 h f n s=some a) :
  Mr h f.length a∧Ms h a.1+a.2.length≤Ms h s.1+s.2.length∧s.2.length≤a.2.length:=by
 unfold J8 at e;cases b:MJ h n (f.getD n.toNat (0,[])).2 s with
 | none=>rw[b]at e;cases e
 | some s1 =>
  rw[b]at e;obtain⟨c,g,i⟩:=Pn hk hi hf n0 n1 (MK ha n0 n1) hs b;obtain⟨d,j,k⟩:=Sl hk hi hf n0 n1 (MK ha n0 n1) c e;exact⟨d,by omega,by omega⟩
theorem A2p (h:AJ) (t:Int):gC h t≤h.1.length:=by
 unfold gC;exact To (AAv _ _) (by simp)
theorem A06 (h:AJ):∀ty:List Int,Ms h ty≤ty.length*h.1.length
 | []=>by simp[Ms]
 | t :: ty=>by
  have h1:=A06 h ty;have a:=A2p h t;unfold Ms at h1 ⊢;simp only[tO,ACx,No,ABK,Nat.one_mul];omega
def Id (h:AJ) (f:List AF):Nat:=f.length*h.1.length+f.length+1
def FJ (h:AJ) (f:List AF):Option (List Int):=oG h f (Id h f) 0 (Ai f,EV f)
def BD (h:AJ) (f:List AF):List AF×Bool:=match FJ h f with
 | some ty=>(Be f ty,true)
 | none=>([],false)
theorem XM {h:AJ} {f:List AF} (a:∀x∈f,0≤x.1∧x.1<(h.1.length:Int)):Mr h f.length (Ai f,EV f):=by
 refine⟨by simp[Ai],fun t h1=>?_,fun n hn=>?_⟩
 ·obtain⟨x,b,rfl⟩:=If.1 h1;exact a x b
 ·obtain⟨i,hi,rfl⟩:=If.1 hn;have:=iS.1 hi;omega
theorem Yk (h:AJ) (f:List AF):Ms h (Ai f)+(EV f).length+1≤Id h f:=by
 have:=A06 h (Ai f);unfold Id;rw[show (Ai f).length=f.length by simp[Ai]]at this;rw[show (EV f).length=f.length by simp[EV]];omega
section
attribute [local go_sem] MG
theorem lK (h:AJ) (hk:Jf h) (hi:HH h) (hf:Sk h) (W:h.2.length≤100000) (f:List AF) (O:A2 f) (ha:K3 h f) (s:EB) (hs:Mr h f.length s) {n:Int} (n0:0≤n) (n1:n<(f.length:Int)) (S:Ms h s.1+s.2.length≤1000000000) :
  BL Tryz.prog 43 [.bp 1 [] 0,.p FZ f,.p T3 n] (Ds h s) [1]
  (fun res z=>(J8 h f n s=none∧res=.p .bool false∧∃A,z=Ds h A)∨∃A,J8 h f n s=some A∧res=.p .bool true∧z=Ds h A):=by
 have G:=MK ha n0 n1;have Y:(f.getD n.toNat (0,[])).2.length≤100000:=(O.2 _ (AD f (0,[]) (by omega))).1;have N:J8 h f n s=(MJ h n (f.getD n.toNat (0,[])).2 s).bind (M9 h n (f.getD n.toNat (0,[])).2):=rfl;rw[N];refine La [0,1,2,4,6,8,10,11,12,18,19,20,21,37,44,45,46,47,76] [] [] Tryz.func43 Tryz.ntmps43 (AE Yj AG) ?_;intro w0 K O0 ρ0 a Z aa;simp only[Ds,Ao];repeat'(first|exact trivial|refine eS rfl ?_|refine AB ?_|refine rX a ?_ ?_|refine rC ?_ ?_<;>intro b<;>try(cases b;done))
 ·exact⟨n0,n1⟩
 ·have X:f.getD n.toNat (0,[])=f.getD n.toNat (0,[]):=rfl;generalize J:(f.getD n.toNat (0,[])).2=L at *;refine AI (ι:={x:Nat×EB//x.1≤L.length∧Mr h f.length x.2∧Ms h x.2.1+x.2.2.length≤1000000000∧MJ h n L s=MJ h n (L.drop x.1) x.2}) (fun x=>⟨[(0,.bp 1 [] 0),(2,.p T3 n),(4,.bp 4 [] 0),(18,.p Ii L),(19,.p (.int .i64) (L.length:Int)),(20,.p (.int .i64) (x.1.1:Int))],[(4,.box 25 true [.p Et f]),(1,.box 74 true [.p Lb h,.sr 2 T3 0 x.1.2.1.length,.p I4 x.1.2.2]),(2,.arr 3 T3 x.1.2.1)]⟩) (fun x=>L.length-x.1.1) ⟨(0,s),IN _,hs,S,rfl⟩ (AC [(4,.nm 4),(1,.nm 1),(2,.nm 2)] rfl rfl ?_ ?_) (fun x=>?_)
  ·first|exact eN|refine eM ?_
  ·first|exact eN|refine eM ?_
  ·obtain⟨⟨k,s1⟩,Q,r,C,i⟩:=x;simp only at Q r C i ⊢;repeat'(first|exact trivial|refine eS rfl ?_|refine AB ?_|refine rX a ?_ ?_|refine rC ?_ ?_<;>intro b<;>try(cases b;done))
   ·exact b
   ·have l:k<L.length:=IS.1 b;have d:MJ h n (L.drop k) s1=(DE h s1 n (J7 h (L.getD k (0,0)).1)).bind (MJ h n (L.drop (k+1))):=by rw[LQ (0,0) l];rfl
    obtain⟨⟨a0,F⟩,u,b1⟩:=G _ (AD L (0,0) l);obtain⟨o,q⟩:=Gx hf a0 F;obtain⟨w,y⟩:=r.get n0 n1;refine cD 12 a ?_ ?_
    ·exact⟨a0,F⟩
    ·refine rM a (gB h hk s1 n0 (by rw[r.len];exact n1) w y o q (by omega)) [(1,.nm 1),(2,.nm 2)] [2] ?_ ?_ ?_
     ·first|exact eN|refine eM ?_
      rfl
     ·simp only[Ds];first|exact eN|refine eM ?_
     ·rintro res z (⟨c,rfl,rfl⟩|⟨s2,c,rfl,rfl⟩)
      ·refine⟨[(1,.nm 1),(2,.nm 2)],.p .bool false,Ds h s1,rfl,rfl,?_,?_,rfl,rfl,?_⟩
       ·simp only[Ds];first|exact eN|refine eM ?_
       ·first|exact eN|refine eM ?_
       ·simp only[Ds];refine rL a ?_ ?_
        ·trivial
        ·repeat'(first|exact trivial|refine eS rfl ?_|refine AB ?_|refine rX a ?_ ?_|refine rC ?_ ?_<;>intro b<;>try(cases b;done))
         refine Ev.ent (σ':=⟨[(6,.p .bool false)],Ds h s1⟩) ?_ (AC [(1,.nm 1),(2,.nm 2)] rfl rfl ?_ ?_)
         ·exact fM a [.tmp 6] (.p .bool false) eT (.inl ⟨by rw[i,d,c];rfl,rfl,s1,rfl⟩)
         ·unfold Ds;first|exact eN|refine eM ?_
         ·first|exact eN|refine eM ?_
      ·refine⟨[(1,.nm 1),(2,.nm 2)],.p .bool true,Ds h s2,rfl,rfl,?_,?_,rfl,rfl,?_⟩
       ·simp only[Ds];first|exact eN|refine eM ?_
       ·first|exact eN|refine eM ?_
       ·simp only[Ds];refine rL a ?_ ?_
        ·trivial
        ·obtain⟨D,E,T⟩:=Er hk hi r n0 n1 o q c;repeat'(first|exact trivial|refine eS rfl ?_|refine AB ?_|refine rX a ?_ ?_|refine rC ?_ ?_<;>intro b<;>try(cases b;done))
         ·omega
         ·refine⟨⟨(k+1,s2),l,D,To E C,by rw[i,d,c];rfl⟩,by simp only;omega,AC [(4,.nm 4),(1,.nm 1),(2,.nm 2)] rfl rfl ?_ ?_⟩
          ·first|exact eN|refine eM ?_
          ·first|exact eN|refine eM ?_
   ·exact⟨n0,n1⟩
   ·have B:L.drop k=[]:=IF (oF.1 b);rw[B]at i;have i:MJ h n L s=some s1:=i;rw[i];have M:(List.getD f n.toNat (0,[])).2=L:=J;rw[M];refine AI (ι:={x:Nat×EB//x.1≤L.length∧Mr h f.length x.2∧Ms h x.2.1+x.2.2.length≤1000000000∧(some s1).bind (M9 h n L)=M9 h n (L.drop x.1) x.2}) (fun x=>⟨[(0,.bp 1 [] 0),(2,.p T3 n),(44,.p Ii L),(45,.p (.int .i64) (L.length:Int)),(46,.p (.int .i64) (x.1.1:Int))],[(1,.box 74 true [.p Lb h,.sr 2 T3 0 x.1.2.1.length,.p I4 x.1.2.2]),(2,.arr 3 T3 x.1.2.1)]⟩) (fun x=>L.length-x.1.1) ⟨(0,s1),IN _,r,C,rfl⟩ (AC [(1,.nm 1),(2,.nm 2)] rfl rfl ?_ ?_) (fun x=>?_)
    ·first|exact eN|refine eM ?_
    ·first|exact eN|refine eM ?_
    ·obtain⟨⟨j,s2⟩,P,m,H,g⟩:=x;simp only at P m H g ⊢;obtain⟨w,y⟩:=m.get n0 n1;repeat'(first|exact trivial|refine eS rfl ?_|refine AB ?_|refine rX a ?_ ?_|refine rC ?_ ?_<;>intro b<;>try(cases b;done))
     ·exact b
     ·exact⟨⟨n0,by rw[m.len];exact n1⟩,w,y⟩
     ·have l:j<L.length:=IS.1 b;have d:M9 h n (L.drop j) s2=if (Aw h (s2.1.getD n.toNat 0) (L.getD j (0,0)).1).2=true then (DE h s2 (L.getD j (0,0)).2 (Aw h (s2.1.getD n.toNat 0) (L.getD j (0,0)).1).1).bind (M9 h n (L.drop (j+1))) else none:=by rw[LQ (0,0) l];rfl
      obtain⟨-,u,b1⟩:=G _ (AD L (0,0) l);have R:=fun e=>Ej (f:=(L.getD j (0,0)).1) hf w y e;generalize Aw h (s2.1.getD n.toNat 0) (L.getD j (0,0)).1=v at *;obtain⟨t,ok⟩:=v;refine evP a 3 ?_ ?_
      ·trivial
      ·cases ok with
       | false =>
        rw[At (by simp)]at d;refine rL a ?_ ?_
        ·trivial
        ·repeat'(first|exact trivial|refine eS rfl ?_|refine AB ?_|refine rX a ?_ ?_|refine rC ?_ ?_<;>intro b<;>try(cases b;done))
         refine Ev.ent (σ':=⟨[(6,.p .bool false)],Ds h s2⟩) ?_ (AC [(1,.nm 1),(2,.nm 2)] rfl rfl ?_ ?_)
         ·exact fM a [.tmp 6] (.p .bool false) eT (.inl ⟨by rw[g,d],rfl,s2,rfl⟩)
         ·unfold Ds;first|exact eN|refine eM ?_
         ·first|exact eN|refine eM ?_
       | true =>
        rw[BY rfl]at d;obtain⟨o,q⟩:=R rfl;simp only at o q d;obtain⟨U,V⟩:=m.get u b1;refine rN 4 a ?_ ?_
        ·trivial
        ·refine clG a (gB h hk s2 u (by rw[m.len];exact b1) U V o q (by omega)) [(1,.nm 1),(2,.nm 2)] [2] ?_ ?_ ?_
         ·first|exact eN|refine eM ?_
         ·simp only[Ds];first|exact eN|refine eM ?_
         ·rintro res z (⟨c,rfl,rfl⟩|⟨I,c,rfl,rfl⟩)
          ·refine⟨[(1,.nm 1),(2,.nm 2)],.p .bool false,Ds h s2,rfl,rfl,?_,?_,rfl,rfl,?_⟩
           ·simp only[Ds];first|exact eN|refine eM ?_
           ·first|exact eN|refine eM ?_
           ·simp only[Ds];refine rL a ?_ ?_
            ·trivial
            ·repeat'(first|exact trivial|refine eS rfl ?_|refine AB ?_|refine rX a ?_ ?_|refine rC ?_ ?_<;>intro b<;>try(cases b;done))
             refine Ev.ent (σ':=⟨[(6,.p .bool false)],Ds h s2⟩) ?_ (AC [(1,.nm 1),(2,.nm 2)] rfl rfl ?_ ?_)
             ·exact fM a [.tmp 6] (.p .bool false) eT (.inl ⟨by rw[g,d,c];rfl,rfl,s2,rfl⟩)
             ·unfold Ds;first|exact eN|refine eM ?_
             ·first|exact eN|refine eM ?_
          ·refine⟨[(1,.nm 1),(2,.nm 2)],.p .bool true,Ds h I,rfl,rfl,?_,?_,rfl,rfl,?_⟩
           ·simp only[Ds];first|exact eN|refine eM ?_
           ·first|exact eN|refine eM ?_
           ·simp only[Ds];refine rL a ?_ ?_
            ·trivial
            ·obtain⟨D,E,T⟩:=Er hk hi m u b1 o q c;repeat'(first|exact trivial|refine eS rfl ?_|refine AB ?_|refine rX a ?_ ?_|refine rC ?_ ?_<;>intro b<;>try(cases b;done))
             ·omega
             ·refine⟨⟨(j+1,I),l,D,To E H,by rw[g,d,c];rfl⟩,by simp only;omega,AC [(1,.nm 1),(2,.nm 2)] rfl rfl ?_ ?_⟩
              ·first|exact eN|refine eM ?_
              ·first|exact eN|refine eM ?_
     ·have B:L.drop j=[]:=IF (oF.1 b);rw[B]at g;have g:(some s1).bind (M9 h n L)=some s2:=g;refine Ev.ent (σ':=⟨[(6,.p .bool true)],Ds h s2⟩) ?_ (AC [(1,.nm 1),(2,.nm 2)] rfl rfl ?_ ?_)
      ·exact fM a [.tmp 6] (.p .bool true) eT (.inr ⟨s2,g,rfl,rfl⟩)
      ·unfold Ds;first|exact eN|refine eM ?_
      ·first|exact eN|refine eM ?_
end
section
def Yl:Ac:={ ins:=[Et],pre:=fun(l,_)=>List.length l≤100000,out:=fun(l,_)=>[.own 49 LJ l] }
attribute [local go_sem] Yl
theorem sQ:Ah Tryz.prog 44 Yl:=by
 refine fK [0,2,4] Tryz.func44 Tryz.ntmps44 AG ?_;rintro w0 O0 ⟨l,u⟩ a-d;have d:List.length l≤100000:=d;simp only[Yl,AM];repeat'(first|exact trivial|refine eS rfl ?_|refine AB ?_|refine rX a ?_ ?_|refine rC ?_ ?_<;>intro c<;>try(cases c;done))
 refine cP 1 a ?_ ?_
 ·trivial
 ·refine Wc a false rfl rfl ?_;intro b e;refine rL a ?_ ?_
  ·trivial
  ·repeat'(first|exact trivial|refine eS rfl ?_|refine AB ?_|refine rX a ?_ ?_|refine rC ?_ ?_<;>intro c<;>try(cases c;done))
   ·have f:l=[]:=e c;subst f;refine Ev.ent (σ':=⟨[(2,.sr 5 LJ 0 0)],[(5,.arr 49 LJ [])]⟩) ?_ (AC [(5,.nil)] rfl rfl ?_ ?_)
    ·exact H7 a (.inl rfl) (rv:=.tmp 2) rfl (by simp only[Iv,H5,Gj,go_sem,Nat.reduceEqDiff,reduceCtorEq,Nat.reduceAdd,Nat.reduceSub,Nat.reduceMul,Nat.reduceLeDiff,Nat.reduceLT,Int.reduceLE,Int.reduceToNat,Int.reduceNeg,↓reduceIte])
    ·first|exact eN|refine eM ?_
    ·first|exact eN|refine eM ?_
   ·simp only[AO];omega
   ·exact H7 a (.inl rfl) (rv:=.tmp 2) rfl (by simp only[Iv,H5,Gj,go_sem,Nat.reduceEqDiff,reduceCtorEq,Nat.reduceAdd,Nat.reduceSub,Nat.reduceMul,Nat.reduceLeDiff,Nat.reduceLT,Int.reduceLE,Int.reduceToNat,Int.reduceNeg,↓reduceIte])
structure lL (h:AJ) (f:List AF):Prop where
 ok:Jf h
 inj:HH h
 ft:Sk h
 fl:h.2.length≤100000
 good:A2 f
 arcs:K3 h f
 ty:∀x∈f,0≤x.1∧x.1<(h.1.length:Int)
def Q0:Ac:={ ins:=[Lb,FZ],pre:=fun(h,f,_)=>lL h f,out:=fun(h,f,_)=>[.p FZ (BD h f).1,.p .bool (BD h f).2] }
theorem CU (f:List AF) (ty:List Int):(Be f ty).length=f.length:=by simp[Be]
theorem GX (f:List AF) (ty:List Int) {i:Nat} (h:i<f.length):(Be f ty).getD i (0,[])=(ty.getD i 0,(f.getD i (0,[])).2):=by
 unfold Be;simp[AS,h]
theorem sR {α:Type} (F f:List α) (d:α) (b:F.length=f.length) {j:Nat} (h:j<f.length):(F.take j++f.drop j).set j (F.getD j d)=F.take (j+1)++f.drop (j+1)∧(F.take j++f.drop j).getD j d=f.getD j d:=by
 have h1:(F.take j).length=j:=by rw[SH];omega
 have a:f.drop j=f.getD j d :: f.drop (j+1):=by
  rw[OS h,AS,AT h];rfl
 constructor
 ·rw[Ab F d (by omega),ABY _ _ (by omega),h1,AB4,a];simp
 ·rw[AS,AA3 (by omega),h1,AB4,a];rfl
theorem Uf:Ah Tryz.prog 18 Q0:=by
 refine fK [0,1,2,3,4,5,6,7,8,9,10,11,16,17,18,19,51,64,72,73,74] Tryz.func18 Tryz.ntmps18 (AE sQ AG) ?_;rintro w0 O0 ⟨⟨a,hf⟩,f,u⟩ c-hp;have hp:lL (a,hf) f:=hp;have C:=Yk (a,hf) f;have v:=hp.good.1;have R:Id (a,hf) f≤30000000:=by
  have h1:a.length≤256:=hp.ok.2;have B:f.length*a.length≤100000*256:=Nat.mul_le_mul v h1;have Q:f.length*(a,hf).1.length≤100000*256:=B;unfold Id;omega
 have I:=XM hp.ty;simp only[Q0,AM];repeat'(first|exact trivial|refine eS rfl ?_|refine AB ?_|refine rX c ?_ ?_|refine rC ?_ ?_<;>intro b<;>try(cases b;done))
 refine AI (ι:={i:Nat//i≤f.length}) (fun i=>⟨[(3,.bp 3 [] 0),(4,.bp 4 [] 0),(6,.bp 14 [] 0),(16,.p Et f),(17,.p (.int .i64) (f.length:Int)),(18,.p (.int .i64) (i.1:Int))],[(3,.box 25 true [.p Et f]),(4,.box 25 true [.raw (.slice none 0 0)]),(14,.box 74 true [.p Lb (a,hf),.sr 31 T3 0 i.1,.sr 41 T3 0 i.1]),(31,.arr 3 T3 ((Ai f).take i.1)),(41,.arr 3 T3 ((EV f).take i.1))]⟩) (fun i=>f.length-i.1) ⟨0,IN _⟩ (AC [(3,.nm 3),(4,.nm 4),(14,.nm 14),(31,.nil),(41,.nil)] rfl rfl ?_ ?_) (fun i=>?_)
 ·first|exact eN|refine eM ?_
 ·first|exact eN|refine eM ?_
 ·obtain⟨i,hi⟩:=i;have tl:((Ai f).take i).length=i:=by rw[SH];simp[Ai];omega
  have W:((EV f).take i).length=i:=by rw[SH];simp[EV];omega
  have ts:i<f.length→(Ai f).take i++[(f.getD i (0,[])).1]=(Ai f).take (i+1):=fun h=>by
   rw[Ab (Ai f) 0 (by simpa[Ai] using h)];simp[Ai,AS,h]
  have O:i<f.length→(EV f).take i++[(i:Int)]=(EV f).take (i+1):=fun h=>by
   rw[Ab (EV f) 0 (by simpa[EV] using h)];simp[EV,AS,h]
  repeat'(first|exact trivial|refine eS rfl ?_|refine AB ?_|refine rX c ?_ ?_|refine rC ?_ ?_<;>intro b<;>try(cases b;done))
  ·exact b
  ·have g:i<f.length:=IS.1 b;have N:=ts g;have P:=O g;refine DC drawsAny c 9 [([1,2,3,4,5,6,7],8)] [0] (by kernel_rfl) (Td ?_ ?_)
   ·trivial
   ·refine Vj c [31] ?_ ?_
    ·simp only[AO];omega
    ·refine VW c ?_ ?_ ?_
     ·trivial
     ·trivial
     ·repeat'(first|exact trivial|refine eS rfl ?_|refine AB ?_|refine rX c ?_ ?_|refine rC ?_ ?_<;>intro b<;>try(cases b;done))
      ·simp only[AO];omega
      ·omega
      ·refine⟨⟨i+1,g⟩,by simp only;omega,AC [(3,.nm 3),(4,.nm 4),(14,.nm 14),(31,.nm 31),(41,.nm 41)] rfl rfl ?_ ?_⟩
       ·simp only[←N,←P];first|exact eN|refine eM ?_
        simp only[ABq,ACg,and_self]
       ·first|exact eN|refine eM ?_
  ·have g:i=f.length:=by
    have:=oF.1 b;omega
   subst g;have et:(Ai f).take f.length=Ai f:=As (by simp[Ai]);have t:(EV f).take f.length=EV f:=As (by simp[EV]);have M:(Ai f).length=f.length:=by simp[Ai]
   have X:(EV f).length=f.length:=by simp[EV]
   rw[et,t];have A:(EV f).take f.length=EV f:=t;refine GP [41] ?_;rw[A];refine AI (ι:={x:Nat×EB//Mr (a,hf) f.length x.2∧Ms (a,hf) x.2.1+x.2.2.length+1≤Id (a,hf) f∧x.1≤x.2.2.length∧∃k,Ms (a,hf) x.2.1+x.2.2.length+1≤k+x.1∧oG (a,hf) f k x.1 x.2=FJ (a,hf) f}) (fun x=>⟨[(3,.bp 3 [] 0),(4,.bp 4 [] 0),(6,.bp 14 [] 0),(9,.p (.int .i64) (x.1.1:Int))],[(3,.box 25 true [.p Et f]),(4,.box 25 true [.raw (.slice none 0 0)]),(14,.box 74 true [.p Lb (a,hf),.sr 31 T3 0 x.1.2.1.length,.p I4 x.1.2.2]),(31,.arr 3 T3 x.1.2.1)]⟩) (fun x=>Ms (a,hf) x.1.2.1+x.1.2.2.length-x.1.1) ⟨(0,Ai f,EV f),I,C,IN _,Id (a,hf) f,by simp only;omega,rfl⟩ (AC [(3,.nm 3),(4,.nm 4),(14,.nm 14),(31,.nm 31)] rfl rfl ?_ ?_) (fun x=>?_)
   ·simp only[M];first|exact eN|refine eM ?_
   ·first|exact eN|refine eM ?_
   ·obtain⟨⟨i,s⟩,hs,H,hi,k,hk,e⟩:=x;simp only at hs H hi hk e ⊢;repeat'(first|exact trivial|refine eS rfl ?_|refine AB ?_|refine rX c ?_ ?_|refine rC ?_ ?_<;>intro b<;>try(cases b;done))
    ·have m:i<s.2.length:=IS.1 b;obtain⟨y,z⟩:=hs.wt _ (AD s.2 (0:Int) m);obtain⟨k,rfl⟩:∃r,k=r+1:=⟨k-1,by omega⟩;have q:oG (a,hf) f (k+1) i s=(J8 (a,hf) f (s.2.getD i 0) s).bind (oG (a,hf) f k (i+1)):=BY m;rw[q]at e;refine cD 9 c ?_ ?_
     ·exact b
     ·refine rM c (lK (a,hf) hp.ok hp.inj hp.ft hp.fl f hp.good hp.arcs s hs y z (by omega)) [(1,.nm 14),(2,.nm 31)] [31] ?_ ?_ ?_
      ·first|exact eN|refine eM ?_
      ·simp only[Ds];first|exact eN|refine eM ?_
      ·rintro res V (⟨l,rfl,d,rfl⟩|⟨d,l,rfl,rfl⟩)
       ·refine⟨[(14,.nm 1),(31,.nm 2)],.p .bool false,[(14,.box 74 true [.p Lb (a,hf),.sr 31 T3 0 d.1.length,.p I4 d.2]),(31,.arr 3 T3 d.1)],rfl,rfl,?_,?_,rfl,rfl,?_⟩
        ·simp only[Ds];first|exact eN|refine eM ?_
        ·first|exact eN|refine eM ?_
        ·refine rL c ?_ ?_
         ·trivial
         ·repeat'(first|exact trivial|refine eS rfl ?_|refine AB ?_|refine rX c ?_ ?_|refine rC ?_ ?_<;>intro b<;>try(cases b;done))
          have hr:BD (a,hf) f=([],false):=by unfold BD;rw[←e,l];rfl
          exact fI c [.cell 4 25,.tmp 5] (by rw[hr];exact eR)
       ·obtain⟨L,T,U⟩:=Po hp.ok hp.inj hp.ft hp.arcs y z hs l;rw[l]at e;refine⟨[(14,.nm 1),(31,.nm 2)],.p .bool true,[(14,.box 74 true [.p Lb (a,hf),.sr 31 T3 0 d.1.length,.p I4 d.2]),(31,.arr 3 T3 d.1)],rfl,rfl,?_,?_,rfl,rfl,?_⟩
        ·simp only[Ds];first|exact eN|refine eM ?_
        ·first|exact eN|refine eM ?_
        ·refine rL c ?_ ?_
         ·trivial
         ·repeat'(first|exact trivial|refine eS rfl ?_|refine AB ?_|refine rX c ?_ ?_|refine rC ?_ ?_<;>intro b<;>try(cases b;done))
          ·omega
          ·refine⟨⟨(i+1,d),L,by simp only;omega,by simp only;omega,k,by simp only;omega,e⟩,by simp only;omega,AC [(3,.nm 3),(4,.nm 4),(14,.nm 14),(31,.nm 31)] rfl rfl ?_ ?_⟩
           ·first|exact eN|refine eM ?_
           ·first|exact eN|refine eM ?_
    ·exact v
    ·have m:¬i<s.2.length:=fun h=>by
      have:=oF.1 b;omega
     obtain⟨k,rfl⟩:∃r,k=r+1:=⟨k-1,by omega⟩;have q:oG (a,hf) f (k+1) i s=some s.1:=At m;have hr:BD (a,hf) f=(Be f s.1,true):=by unfold BD;rw[←e,q]
     have o:=CU f s.1;have J:=fun i h=>GX f s.1 (i:=i) h;generalize hT:Be f s.1=F at *;have K:=hs.len;refine AI (ι:={j:Nat//j≤f.length}) (fun j=>⟨[(4,.bp 4 [] 0),(6,.bp 14 [] 0),(10,.bp 10 [] 0),(72,.p (.int .i64) (f.length:Int)),(73,.p (.int .i64) (j.1:Int))],[(10,.box 25 true [.sr 68 LJ 0 f.length]),(68,.arr 49 LJ (F.take j.1++f.drop j.1)),(4,.box 25 true [.raw (.slice none 0 0)]),(14,.box 74 true [.p Lb (a,hf),.sr 31 T3 0 s.1.length,.p I4 s.2]),(31,.arr 3 T3 s.1)]⟩) (fun j=>f.length-j.1) ⟨0,IN _⟩ (AC [(10,.nm 10),(68,.nm 68),(4,.nm 4),(14,.nm 14),(31,.nm 31)] rfl rfl ?_ ?_) (fun j=>?_)
     ·first|exact eN|refine eM ?_
     ·first|exact eN|refine eM ?_
     ·obtain⟨j,S⟩:=j;have G:=fun h:j<f.length=>sR F f (0,[]) o h;repeat'(first|exact trivial|refine eS rfl ?_|refine AB ?_|refine rX c ?_ ?_|refine rC ?_ ?_<;>intro b<;>try(cases b;done))
      ·exact⟨by rw[K];exact b,b⟩
      ·omega
      ·have n:j<f.length:=IS.1 b;obtain⟨w,E⟩:=G n;rw[J j n]at w;refine⟨⟨j+1,n⟩,by simp only;omega,AC [(10,.nm 10),(68,.nm 68),(4,.nm 4),(14,.nm 14),(31,.nm 31)] rfl rfl ?_ ?_⟩
       ·simp only[←w];first|exact eN|refine eM ?_
        rw[E]
       ·first|exact eN|refine eM ?_
      ·have hF:F.take j=F:=As (by rw[o];exact oF.1 b);have D:List.drop j f=[]:=IF (oF.1 b);rw[hF,D,AAa];exact fI c [.cell 4 25,.tmp 5] (by rw[hr];first|exact eR|refine Zr ?_;exact As (by rw[o];exact NO _))
end
def Jc {α:Type} (p:α→Bool):Nat→List α→Int
 | _,[]=>-1
 | k,a :: l=>if p a=true then (k:Int) else Jc p (k+1) l
theorem Ug {α:Type} (p:α→Bool):∀(k:Nat) (l:List α),decide (0≤Jc p k l)=l.any p
 | _,[]=>rfl
 | k,a :: l=>by
  unfold Jc;rw[List.any_cons];split
  ·rename_i h;rw[h,Bool.true_or];exact ABc (oN k)
  ·rename_i h;have h:p a=false:=by simpa using h
   rw[h,ACy];exact Ug p (k+1) l
theorem XN {α:Type} (p:α→Bool) (d:α) (l:List α) {k:Nat} (h:k<l.length):Jc p k (l.drop k)=if p (l.getD k d)=true then (k:Int) else Jc p (k+1) (l.drop (k+1)):=by
 rw[LQ d h];rfl
theorem sS (m:List (Int×Bool)) (a:Int×Int):BL Tryz.prog 57 [.p T87 a,.bp 1 [] 0] [(1,.box 95 false [.mp 3]),(3,.mapo T3 .bool m)] [1,3] (fun res d=>res=.p .bool ((A5 T3 .bool a.2 m).getD false)∧d=[(1,.box 95 false [.mp 3]),(3,.mapo T3 .bool m)]):=by
 refine La [0,1,2,3] [] [] Tryz.func57 Tryz.ntmps57 AG ?_;intro w0 K O0 ρ0 b e f;simp only[Ao];repeat'(first|exact trivial|refine eS rfl ?_|refine AB ?_|refine rX b ?_ ?_|refine rC ?_ ?_<;>intro c<;>try(cases c;done))
 refine Ev.ent (σ':=⟨[(3,.p .bool ((A5 T3 .bool a.2 m).getD false))],[(1,.box 95 false [.mp 3]),(3,.mapo T3 .bool m)]⟩) ?_ (AC [(1,.nm 1),(3,.nm 3)] rfl rfl ?_ ?_)
 ·exact fM b [.tmp 3] (.p .bool ((A5 T3 .bool a.2 m).getD false)) eT ⟨rfl,rfl⟩
 ·first|exact eN|refine eM ?_
 ·first|exact eN|refine eM ?_
theorem A07 (v:Int×Int) (a:Int×Int):BL Tryz.prog 50 [.p BK a,.bp 1 [] 0] [(1,.box 87 true [.p T3 v.1,.p T3 v.2])] [1] (fun res d=>res=.p .bool (a.1==v.1)∧d=[(1,.box 87 true [.p T3 v.1,.p T3 v.2])]):=by
 refine La [0,1,2,3] [] [] Tryz.func50 Tryz.ntmps50 AG ?_;intro w0 K O0 ρ0 b e f;simp only[Ao];repeat'(first|exact trivial|refine eS rfl ?_|refine AB ?_|refine rX b ?_ ?_|refine rC ?_ ?_<;>intro c<;>try(cases c;done))
 refine Ev.ent (σ':=⟨[(3,.p .bool (a.1==v.1))],[(1,.box 87 true [.p T3 v.1,.p T3 v.2])]⟩) ?_ (AC [(1,.nm 1)] rfl rfl ?_ ?_)
 ·exact fM b [.tmp 3] (.p .bool (a.1==v.1)) eT ⟨rfl,rfl⟩
 ·first|exact eN|refine eM ?_
 ·first|exact eN|refine eM ?_
theorem sT (m:List (Int×Bool)) (l:List (Int×Int)) (o:l.length≤140737488355328):BL Tryz.prog 81 [.p Wb l,.clo 57 [1]] [(1,.box 95 false [.mp 3]),(3,.mapo T3 .bool m)] [1,3] (fun res n=>res=.p T3 (Jc (fun a=>(A5 T3 .bool (Prod.snd a) m).getD false) 0 l)∧n=[(1,.box 95 false [.mp 3]),(3,.mapo T3 .bool m)]):=by
 refine La [0,1,4,5,7,8,9,16] [] [] Tryz.func81 Tryz.ntmps81 AG ?_;intro w0 K O0 ρ0 d q r;simp only[Ao];repeat'(first|exact trivial|refine eS rfl ?_|refine AB ?_|refine rX d ?_ ?_|refine rC ?_ ?_<;>intro c<;>try(cases c;done))
 refine AI (ι:={k:Nat//k≤l.length∧Jc (fun a=>(A5 T3 .bool (Prod.snd a) m).getD false) k (l.drop k)=Jc (fun a=>(A5 T3 .bool (Prod.snd a) m).getD false) 0 l}) (fun k=>⟨[(0,.p Wb l),(1,.clo 57 [1]),(7,.p (.int .i64) (l.length:Int)),(8,.p (.int .i64) (k.1:Int))],[(1,.box 95 false [.mp 3]),(3,.mapo T3 .bool m)]⟩) (fun k=>l.length-k.1) ⟨0,IN _,rfl⟩ (AC [(1,.nm 1),(3,.nm 3)] rfl rfl ?_ ?_) (fun k=>?_)
 ·first|exact eN|refine eM ?_
 ·first|exact eN|refine eM ?_
 ·obtain⟨k,hk,hf⟩:=k;have j:k<l.length→∀b,(fun a=>(A5 T3 .bool (Prod.snd a) m).getD false) (l.getD k (0,0))=b→Jc (fun a=>(A5 T3 .bool (Prod.snd a) m).getD false) k (l.drop k)=if b=true then (k:Int) else Jc (fun a=>(A5 T3 .bool (Prod.snd a) m).getD false) (k+1) (l.drop (k+1)):=fun h b e=>by rw[←e];exact XN (fun a=>(A5 T3 .bool (Prod.snd a) m).getD false) (0,0) l h
  simp only;repeat'(first|exact trivial|refine eS rfl ?_|refine AB ?_|refine rX d ?_ ?_|refine rC ?_ ?_<;>intro c<;>try(cases c;done))
  ·have f:k<l.length:=IS.1 c;refine cP 5 d ?_ ?_
   ·exact c
   ·have key:=sS m (l.getD k (0,0));refine rM d (key) [(1,.nm 1),(3,.nm 3)] [] ?_ ?_ ?_
    ·first|exact eN|refine eM ?_
    ·first|exact eN|refine eM ?_
    ·rintro _ _ ⟨rfl,rfl⟩;refine⟨[(1,.nm 1),(3,.nm 3)],.p .bool ((fun a=>(A5 T3 .bool (Prod.snd a) m).getD false) (l.getD k (0,0))),[(1,.box 95 false [.mp 3]),(3,.mapo T3 .bool m)],rfl,rfl,?_,?_,rfl,rfl,Cy ?_⟩
     ·first|exact eN|refine eM ?_
     ·first|exact eN|refine eM ?_
     ·generalize s:(fun a=>(A5 T3 .bool (Prod.snd a) m).getD false) (l.getD k (0,0))=i at *;have g:=j f i rfl;repeat'(first|exact trivial|refine eS rfl ?_|refine AB ?_|refine rX d ?_ ?_|refine rC ?_ ?_<;>intro c<;>try(cases c;done))
      ·have c:i=true:=c;rw[BY c,hf]at g;refine Ev.ent (σ':=⟨[(4,.p (.int .i64) (k:Int))],[(1,.box 95 false [.mp 3]),(3,.mapo T3 .bool m)]⟩) ?_ (AC [(1,.nm 1),(3,.nm 3)] rfl rfl ?_ ?_)
       ·exact fM d [.tmp 4] (.p T3 (k:Int)) eT ⟨by rw[g],rfl⟩
       ·first|exact eN|refine eM ?_
       ·first|exact eN|refine eM ?_
      ·omega
      ·have c:i=false:=c;rw[At (by rw[c];simp)]at g;refine⟨⟨k+1,f,g.symm.trans hf⟩,by simp only;omega,AC [(1,.nm 1),(3,.nm 3)] rfl rfl ?_ ?_⟩
       ·first|exact eN|refine eM ?_
       ·first|exact eN|refine eM ?_
  ·have f:l.drop k=[]:=IF (oF.1 c);rw[f]at hf;have hf:(-1:Int)=Jc (fun a=>(A5 T3 .bool (Prod.snd a) m).getD false) 0 l:=hf;refine Ev.ent (σ':=⟨[(4,.p (.int .i64) (-1))],[(1,.box 95 false [.mp 3]),(3,.mapo T3 .bool m)]⟩) ?_ (AC [(1,.nm 1),(3,.nm 3)] rfl rfl ?_ ?_)
   ·exact fM d [.tmp 4] (.p T3 (-1)) eT ⟨by rw[hf],rfl⟩
   ·first|exact eN|refine eM ?_
   ·first|exact eN|refine eM ?_
theorem A08 (m:List (Int×Bool)) (l:List (Int×Int)) (e:l.length≤140737488355328):BL Tryz.prog 56 [.p Wb l,.clo 57 [1]] [(1,.box 95 false [.mp 3]),(3,.mapo T3 .bool m)] [1,3] (fun res f=>res=.p .bool (l.any (fun a=>(A5 T3 .bool (Prod.snd a) m).getD false))∧f=[(1,.box 95 false [.mp 3]),(3,.mapo T3 .bool m)]):=by
 refine La [0,1,4] [] [] Tryz.func56 Tryz.ntmps56 AG ?_;intro w0 K O0 ρ0 b g h;simp only[Ao];repeat'(first|exact trivial|refine eS rfl ?_|refine AB ?_|refine rX b ?_ ?_|refine rC ?_ ?_<;>intro c<;>try(cases c;done))
 refine cP 2 b ?_ ?_
 ·trivial
 ·have key:=sT m l e;refine rM b (key) [(1,.nm 1),(3,.nm 3)] [] ?_ ?_ ?_
  ·first|exact eN|refine eM ?_
  ·first|exact eN|refine eM ?_
  ·rintro _ _ ⟨rfl,rfl⟩;refine⟨[(1,.nm 1),(3,.nm 3)],.p T3 (Jc (fun a=>(A5 T3 .bool (Prod.snd a) m).getD false) 0 l),[(1,.box 95 false [.mp 3]),(3,.mapo T3 .bool m)],rfl,rfl,?_,?_,rfl,rfl,?_⟩
   ·first|exact eN|refine eM ?_
   ·first|exact eN|refine eM ?_
   ·have ha:=Ug (fun a=>(A5 T3 .bool (Prod.snd a) m).getD false) 0 l;generalize Jc (fun a=>(A5 T3 .bool (Prod.snd a) m).getD false) 0 l=d at *;refine rL b ?_ ?_
    ·trivial
    ·repeat'(first|exact trivial|refine eS rfl ?_|refine AB ?_|refine rX b ?_ ?_|refine rC ?_ ?_<;>intro c<;>try(cases c;done))
     refine Ev.ent (σ':=⟨[(4,.p .bool (decide (0≤d)))],[(1,.box 95 false [.mp 3]),(3,.mapo T3 .bool m)]⟩) ?_ (AC [(1,.nm 1),(3,.nm 3)] rfl rfl ?_ ?_)
     ·exact fM b [.tmp 4] (.p .bool (decide (0≤d))) eT ⟨by rw[ha],rfl⟩
     ·first|exact eN|refine eM ?_
     ·first|exact eN|refine eM ?_
theorem sU (v:Int×Int) (l:List (Int×Int)) (n:l.length≤140737488355328):BL Tryz.prog 75 [.p Ii l,.clo 50 [1]] [(1,.box 87 true [.p T3 v.1,.p T3 v.2])] [1] (fun res m=>res=.p T3 (Jc (fun a=>(Prod.fst a==v.1)) 0 l)∧m=[(1,.box 87 true [.p T3 v.1,.p T3 v.2])]):=by
 refine La [0,1,4,5,7,8,9,16] [] [] Tryz.func75 Tryz.ntmps75 AG ?_;intro w0 K O0 ρ0 d o q;simp only[Ao];repeat'(first|exact trivial|refine eS rfl ?_|refine AB ?_|refine rX d ?_ ?_|refine rC ?_ ?_<;>intro c<;>try(cases c;done))
 refine AI (ι:={k:Nat//k≤l.length∧Jc (fun a=>(Prod.fst a==v.1)) k (l.drop k)=Jc (fun a=>(Prod.fst a==v.1)) 0 l}) (fun k=>⟨[(0,.p Ii l),(1,.clo 50 [1]),(7,.p (.int .i64) (l.length:Int)),(8,.p (.int .i64) (k.1:Int))],[(1,.box 87 true [.p T3 v.1,.p T3 v.2])]⟩) (fun k=>l.length-k.1) ⟨0,IN _,rfl⟩ (AC [(1,.nm 1)] rfl rfl ?_ ?_) (fun k=>?_)
 ·first|exact eN|refine eM ?_
 ·first|exact eN|refine eM ?_
 ·obtain⟨k,hk,hf⟩:=k;have j:k<l.length→∀b,(fun a=>(Prod.fst a==v.1)) (l.getD k (0,0))=b→Jc (fun a=>(Prod.fst a==v.1)) k (l.drop k)=if b=true then (k:Int) else Jc (fun a=>(Prod.fst a==v.1)) (k+1) (l.drop (k+1)):=fun h b e=>by rw[←e];exact XN (fun a=>(Prod.fst a==v.1)) (0,0) l h
  simp only;repeat'(first|exact trivial|refine eS rfl ?_|refine AB ?_|refine rX d ?_ ?_|refine rC ?_ ?_<;>intro c<;>try(cases c;done))
  ·have f:k<l.length:=IS.1 c;refine cP 5 d ?_ ?_
   ·exact c
   ·have key:=A07 v (l.getD k (0,0));refine rM d (key) [(1,.nm 1)] [] ?_ ?_ ?_
    ·first|exact eN|refine eM ?_
    ·first|exact eN|refine eM ?_
    ·rintro _ _ ⟨rfl,rfl⟩;refine⟨[(1,.nm 1)],.p .bool ((fun a=>(Prod.fst a==v.1)) (l.getD k (0,0))),[(1,.box 87 true [.p T3 v.1,.p T3 v.2])],rfl,rfl,?_,?_,rfl,rfl,Cy ?_⟩
     ·first|exact eN|refine eM ?_
     ·first|exact eN|refine eM ?_
     ·generalize r:(fun a=>(Prod.fst a==v.1)) (l.getD k (0,0))=i at *;have g:=j f i rfl;repeat'(first|exact trivial|refine eS rfl ?_|refine AB ?_|refine rX d ?_ ?_|refine rC ?_ ?_<;>intro c<;>try(cases c;done))
      ·have c:i=true:=c;rw[BY c,hf]at g;refine Ev.ent (σ':=⟨[(4,.p (.int .i64) (k:Int))],[(1,.box 87 true [.p T3 v.1,.p T3 v.2])]⟩) ?_ (AC [(1,.nm 1)] rfl rfl ?_ ?_)
       ·exact fM d [.tmp 4] (.p T3 (k:Int)) eT ⟨by rw[g],rfl⟩
       ·first|exact eN|refine eM ?_
       ·first|exact eN|refine eM ?_
      ·omega
      ·have c:i=false:=c;rw[At (by rw[c];simp)]at g;refine⟨⟨k+1,f,g.symm.trans hf⟩,by simp only;omega,AC [(1,.nm 1)] rfl rfl ?_ ?_⟩
       ·first|exact eN|refine eM ?_
       ·first|exact eN|refine eM ?_
  ·have f:l.drop k=[]:=IF (oF.1 c);rw[f]at hf;have hf:(-1:Int)=Jc (fun a=>(Prod.fst a==v.1)) 0 l:=hf;refine Ev.ent (σ':=⟨[(4,.p (.int .i64) (-1))],[(1,.box 87 true [.p T3 v.1,.p T3 v.2])]⟩) ?_ (AC [(1,.nm 1)] rfl rfl ?_ ?_)
   ·exact fM d [.tmp 4] (.p T3 (-1)) eT ⟨by rw[hf],rfl⟩
   ·first|exact eN|refine eM ?_
   ·first|exact eN|refine eM ?_
theorem A09 (v:Int×Int) (l:List (Int×Int)) (e:l.length≤140737488355328):BL Tryz.prog 49 [.p Ii l,.clo 50 [1]] [(1,.box 87 true [.p T3 v.1,.p T3 v.2])] [1] (fun res f=>res=.p .bool (l.any (fun a=>(Prod.fst a==v.1)))∧f=[(1,.box 87 true [.p T3 v.1,.p T3 v.2])]):=by
 refine La [0,1,4] [] [] Tryz.func49 Tryz.ntmps49 AG ?_;intro w0 K O0 ρ0 b g h;simp only[Ao];repeat'(first|exact trivial|refine eS rfl ?_|refine AB ?_|refine rX b ?_ ?_|refine rC ?_ ?_<;>intro c<;>try(cases c;done))
 refine cP 2 b ?_ ?_
 ·trivial
 ·have key:=sU v l e;refine rM b (key) [(1,.nm 1)] [] ?_ ?_ ?_
  ·first|exact eN|refine eM ?_
  ·first|exact eN|refine eM ?_
  ·rintro _ _ ⟨rfl,rfl⟩;refine⟨[(1,.nm 1)],.p T3 (Jc (fun a=>(Prod.fst a==v.1)) 0 l),[(1,.box 87 true [.p T3 v.1,.p T3 v.2])],rfl,rfl,?_,?_,rfl,rfl,?_⟩
   ·first|exact eN|refine eM ?_
   ·first|exact eN|refine eM ?_
   ·have ha:=Ug (fun a=>(Prod.fst a==v.1)) 0 l;generalize Jc (fun a=>(Prod.fst a==v.1)) 0 l=d at *;refine rL b ?_ ?_
    ·trivial
    ·repeat'(first|exact trivial|refine eS rfl ?_|refine AB ?_|refine rX b ?_ ?_|refine rC ?_ ?_<;>intro c<;>try(cases c;done))
     refine Ev.ent (σ':=⟨[(4,.p .bool (decide (0≤d)))],[(1,.box 87 true [.p T3 v.1,.p T3 v.2])]⟩) ?_ (AC [(1,.nm 1)] rfl rfl ?_ ?_)
     ·exact fM b [.tmp 4] (.p .bool (decide (0≤d))) eT ⟨by rw[ha],rfl⟩
     ·first|exact eN|refine eM ?_
     ·first|exact eN|refine eM ?_
abbrev Ie:=List (List (Int×Int))
def A0a (v:Ie) (s:List Bool×Bool) (i:Nat):List Bool×Bool:=if (s.1.getD i false&&!((v.getD i []).any fun a=>s.1.getD a.2.toNat false))=true then (s.1.set i false,true) else s
def rB (v:Ie) (l:List Bool) (i:Nat):List Bool×Bool:=(List.range i).foldl (A0a v) (l,false)
def LU (v:Ie):Nat→List Bool→List Bool
 | 0,l=>l
 | k+1,l=>if (rB v l v.length).2=true then LU v k (rB v l v.length).1 else (rB v l v.length).1
def J9 (v:Ie):Bool:=(LU v (v.length+1) (List.replicate v.length true)).all (!·)
def F5 (l:List Bool):Nat:=l.countP id
theorem Uh:∀ {l:List Bool} {i:Nat},l.getD i false=true→F5 (l.set i false)+1=F5 l
 | [],i,h=>by simp at h
 | x :: l,0,h=>by
  have h:x=true:=by simpa using h
  subst h;simp[F5]
 | x :: l,i+1,h=>by
  have:=Uh (l:=l) (i:=i) (by simpa using h);unfold F5 at this ⊢;rw[ABN,AB2,AB2];omega
theorem Ui (n:Nat):F5 (List.replicate n true)=n:=by unfold F5;rw[List.countP_eq_length.2 (fun a ha=>by rw[List.eq_of_mem_replicate ha];rfl),List.length_replicate]
theorem Ym (v:Ie) (l:List Bool) (i:Nat):rB v l (i+1)=A0a v (rB v l i) i:=by
 unfold rB;rw[AAc,ABw];rfl
theorem Uj (v:Ie) (l:List Bool):∀i,(rB v l i).1.length=l.length∧((rB v l i).2=true→F5 (rB v l i).1<F5 l)∧((rB v l i).2=false→(rB v l i).1=l)∧F5 (rB v l i).1≤F5 l
 | 0=>⟨rfl,fun h=>(by cases h),fun _=>rfl,NO _⟩
 | i+1=>by
  obtain⟨h1,b,c,d⟩:=Uj v l i;rw[Ym];generalize rB v l i=s at *;unfold A0a;split
  ·rename_i h;rw[An]at h;have f:=Uh h.1;have a:F5 (s.1.set i false)<F5 l:=by omega
   exact⟨by simpa using h1,fun _=>a,fun e=>(by cases e),ACF a⟩
  ·exact⟨h1,b,c,d⟩
structure MI (m:List (Int×Bool)) (l:List Bool):Prop where
 nd:(m.map (·.1)).Nodup
 get:∀k:Int,A5 T3 .bool k m=if 0≤k∧l.getD k.toNat false=true then some true else none
theorem oJ (k:Int) (v:Bool):∀ {m:List (Int×Bool)},(m.map (·.1)).Nodup→((Ho T3 .bool k v m).map (·.1)).Nodup∧∀x,x∈(Ho T3 .bool k v m).map (·.1)→x=k∨x∈m.map (·.1)
 | [],_=>by simp[Ho]
 | y :: m,h=>by
  rw[tO,AA5]at h;unfold Ho;split
  ·rename_i e;have e:k=y.1:=by simpa[JH] using e
   refine⟨?_,fun x a=>?_⟩
   ·rw[tO,AA5,e];exact h
   ·rcases GO.1 a with a|a
    ·exact .inl a
    ·exact .inr (bY _ a)
  ·rename_i e;have e:¬k=y.1:=by simpa[JH] using e
   obtain⟨c,b⟩:=oJ k v h.2;refine⟨?_,fun x a=>?_⟩
   ·rw[tO,AA5];refine⟨fun d=>?_,c⟩;rcases b _ d with a|a
    ·exact e a.symm
    ·exact h.1 a
   ·rcases GO.1 a with a|a
    ·exact .inr (by rw[a];simp)
    ·exact(b x a).imp id fun g=>bY _ g
theorem gD (k:Int):∀m:List (Int×Bool),(M5 T3 .bool k m).Sublist m
 | []=>List.Sublist.refl _
 | y :: m=>by
  unfold M5;split
  ·exact List.sublist_cons_self _ _
  ·exact(gD k m).cons_cons _
theorem XO {x:Int}:∀ {m:List (Int×Bool)},x∉m.map (·.1)→A5 T3 .bool x m=none
 | [],_=>rfl
 | y :: m,h=>by
  unfold A5;rw[At (by
   intro e;have e:x=y.1:=by simpa[JH] using e
   exact h (by rw[e];simp))]
  exact XO fun a=>h (bY _ a)
theorem XP (x k:Int):∀ {m:List (Int×Bool)},(m.map (·.1)).Nodup→A5 T3 .bool x (M5 T3 .bool k m)=if x=k then none else A5 T3 .bool x m
 | [],_=>by simp[M5,A5]
 | y :: m,h=>by
  rw[tO,AA5]at h;unfold M5;split
  ·rename_i e;have e:k=y.1:=by simpa[JH] using e
   by_cases a:x=k
   ·rw[BY a,a,e];exact XO h.1
   ·rw[At a];have c:¬x=y.1:=by rw[←e];exact a
    simp[A5,JH,c]
  ·rename_i e;have e:¬k=y.1:=by simpa[JH] using e
   have f:=XP x k h.2;by_cases b:x=y.1
   ·have d:¬x=k:=by rw[b];exact fun g=>e g.symm
    rw[At d];simp[A5,JH,b]
   ·have hn:¬JH T3 x y.1=true:=by simpa[JH] using b
    simp only[A5];rw[At hn,At hn,f]
theorem MI.zero:MI [] (List.replicate 0 true):=⟨List.nodup_nil,fun k=>by simp[A5]⟩
theorem MI.put {m:List (Int×Bool)} {i:Nat} (h:MI m (List.replicate i true)):MI (Ho T3 .bool (i:Int) true m) (List.replicate (i+1) true):=by
 refine⟨(oJ _ _ h.nd).1,fun(k:Int)=>?_⟩;rw[Tw,h.get];by_cases hk:k=(i:Int)
 ·rw[BY hk,BY];subst hk;refine⟨oN _,?_⟩;simp[AS,AAB]
 ·rw[At hk];have e:(0≤k∧(List.replicate i true).getD k.toNat false=true)↔(0≤k∧(List.replicate (i+1) true).getD k.toNat false=true):=by
   simp only[AS,AAB];constructor
   ·rintro⟨a,b⟩;refine⟨a,?_⟩;split at b
    ·rw[BY (by omega)];rfl
    ·simp at b
   ·rintro⟨a,b⟩;refine⟨a,?_⟩;split at b
    ·rw[BY (by omega)];rfl
    ·simp at b
  by_cases c:0≤k∧(List.replicate i true).getD k.toNat false=true
  ·rw[BY c,BY (e.1 c)]
  ·rw[At c,At fun g=>c (e.2 g)]
theorem MI.del {m:List (Int×Bool)} {l:List Bool} (h:MI m l) (i:Nat):MI (M5 T3 .bool (i:Int) m) (l.set i false):=by
 refine⟨h.nd.sublist ((gD _ m).map _),fun(k:Int)=>?_⟩;rw[XP _ _ h.nd,h.get];by_cases hk:k=(i:Int)
 ·subst hk;rw[BY rfl,At];rintro⟨-,b⟩;rw[f7]at b;simp only[AS,AAs]at b;rw[BY trivial]at b;split at b<;>simp at b
 ·rw[At hk];by_cases a:0≤k
  ·have c:¬i=k.toNat:=by omega
   simp only[AS,AAs];rw[At c]
  ·rw[At fun g=>a g.1,At fun g=>a g.1]
theorem lM (y:Int×Bool) (m:List (Int×Bool)):A5 T3 .bool y.1 (y :: m)=some y.2:=by
 unfold A5;rw[BY (by simp[JH])]
theorem MI.len0 {m:List (Int×Bool)} {l:List Bool} (h:MI m l):m.length=0↔l.all (!·)=true:=by
 constructor
 ·intro e;have e:m=[]:=aT e;subst e;refine Do.2 fun b a=>?_;obtain⟨i,hi,rfl⟩:=AAf.1 a;have:=h.get (i:Int);cases a:l[i] with
  | false=>rfl
  | true =>
   rw[BY ⟨oN _,by rw[f7,AS,AT hi,a];rfl⟩]at this;cases this
 ·intro e;cases m with
  | nil=>rfl
  | cons y m =>
   have:=h.get y.1;rw[lM]at this;split at this
   ·rename_i f;have d:y.1.toNat<l.length:=by
     refine DO fun hn=>?_;have:=f.2;rw[AS,gO (by omega)]at this;cases this
    have c:=f.2;rw[AS,AT d]at c;have:=Do.1 e _ (AA7 d);rw[show l[y.1.toNat]=true from c]at this;cases this
   ·cases this
theorem Mu {x:Int}:∀ {m:List (Int×Bool)},x∈m.map (·.1)→A5 T3 .bool x m≠none
 | y :: m,h=>by
  unfold A5;split
  ·simp
  ·rename_i e;rcases GO.1 h with h|h
   ·exact absurd (by simp[JH,h]) e
   ·exact Mu h
theorem MI.len {m:List (Int×Bool)} {l:List Bool} (h:MI m l):m.length≤l.length:=by
 have h1:((m.map (·.1)).map Int.toNat).Nodup:=by
  rw[List.Nodup,AAr];refine h.nd.imp_of_mem fun {a b:Int} ha d i e=>i ?_;have h1:=Mu ha;have c:=Mu d;rw[h.get]at h1 c;have a0:0≤a:=DO fun g=>h1 (At fun q=>g q.1);have n:0≤b:=DO fun g=>c (At fun q=>g q.1);omega
 have:=EE l.length _ h1 (fun j f=>by
  obtain⟨x,k,rfl⟩:=If.1 f;have h1:=Mu k;rw[h.get]at h1;refine DO fun hn=>h1 (At fun g=>?_);have:=g.2;rw[AS,gO (by omega)]at this;cases this)
 simpa using this
theorem MI.look {m:List (Int×Bool)} {l:List Bool} (h:MI m l) {k:Int} (a:0≤k):(A5 T3 .bool k m).getD false=l.getD k.toNat false:=by
 rw[h.get];cases b:l.getD k.toNat false with
 | true=>rw[BY ⟨a,rfl⟩];rfl
 | false=>rw[At fun g=>by cases g.2];rfl
section
def VOk (v:Ie):Prop:=∀r∈v,∀a∈r,0≤a.2∧a.2<(v.length:Int)
theorem A0b {m:List (Int×Bool)} {l:List Bool} (h:MI m l) {r:List (Int×Int)} (hr:∀a∈r,0≤a.2):(r.any fun a=>(A5 T3 .bool (Prod.snd a) m).getD false)=r.any fun a=>l.getD a.2.toNat false:=by
 induction r with
 | nil=>rfl
 | cons a r d =>
  rw[List.any_cons,List.any_cons,d (fun b c=>hr b (bY _ c)),h.look (hr a (by simp))]
def gE:Ac:={ ins:=[qO],pre:=fun(v,_)=>VOk v,out:=fun(v,_)=>[.p .bool (J9 v)],lend:=true }
attribute [local go_sem] gE
theorem oK:Ah Tryz.prog 24 gE:=by
 refine fK [0,2,3,4,5,6,9,10,11,16,18,19,20,33] Tryz.func24 Tryz.ntmps24 AG ?_;rintro w0 O0 ⟨v,u⟩ c ⟨⟨R,P⟩,-⟩ t;have t:VOk v:=t;simp only[AO]at R;have Q:∀r∈(v:Ie),List.length r≤140737488355328:=fun r hr=>(P r hr).1;simp only[gE,AM];repeat'(first|exact trivial|refine eS rfl ?_|refine AB ?_|refine rX c ?_ ?_|refine rC ?_ ?_<;>intro d<;>try(cases d;done))
 refine AI (ι:={x:Nat×List (Int×Bool)//x.1≤List.length v∧MI x.2 (List.replicate x.1 true)}) (fun x=>⟨[(0,.p qO v),(3,.bp 3 [] 0),(9,.p (.int .i64) (List.length v:Int)),(10,.p (.int .i64) (x.1.1:Int))],[(3,.box 95 false [.mp 7]),(7,.mapo T3 .bool x.1.2)]⟩) (fun x=>List.length v-x.1.1) ⟨(0,[]),IN _,MI.zero⟩ (AC [(3,.nm 3),(7,.nm 7)] rfl rfl ?_ ?_) (fun x=>?_)
 ·first|exact eN|refine eM ?_
 ·first|exact eN|refine eM ?_
 ·obtain⟨⟨i,m⟩,hi,s⟩:=x;simp only at hi s ⊢;repeat'(first|exact trivial|refine eS rfl ?_|refine AB ?_|refine rX c ?_ ?_|refine rC ?_ ?_<;>intro d<;>try(cases d;done))
  ·omega
  ·have g:i<List.length v:=by exact eV
   refine⟨⟨(i+1,Ho T3 .bool (i:Int) true m),g,s.put⟩,by simp only;omega,AC [(3,.nm 3),(7,.nm 7)] rfl rfl ?_ ?_⟩
   ·first|exact eN|refine eM ?_
   ·first|exact eN|refine eM ?_
  ·have g:i=List.length v:=by exact eV
   subst g;refine AI (ι:={x:Bool×List (Int×Bool)×List Bool//x.2.2.length=List.length v∧MI x.2.1 x.2.2∧(x.1=true→∃k,F5 x.2.2+1≤k∧LU v k x.2.2=LU v (List.length v+1) (List.replicate (List.length v) true))∧(x.1=false→x.2.2=LU v (List.length v+1) (List.replicate (List.length v) true))}) (fun x=>⟨[(0,.p qO v),(3,.bp 3 [] 0),(5,.p .bool x.1.1)],[(3,.box 95 false [.mp 7]),(7,.mapo T3 .bool x.1.2.1)]⟩) (fun x=>2*F5 x.1.2.2+(if x.1.1=true then 1 else 0)) ⟨(true,m,List.replicate (List.length v) true),by simp,s,fun _=>⟨_,by simp only[Ui];exact NO _,rfl⟩,fun e=>by cases e⟩ (AC [(3,.nm 3),(7,.nm 7)] rfl rfl ?_ ?_) (fun x=>?_)
   ·first|exact eN|refine eM ?_
   ·first|exact eN|refine eM ?_
   ·obtain⟨⟨b,H,l⟩,q,n,A,B⟩:=x;simp only at q n A B ⊢;repeat'(first|exact trivial|refine eS rfl ?_|refine AB ?_|refine rX c ?_ ?_|refine rC ?_ ?_<;>intro d<;>try(cases d;done))
    ·have C:b=true:=d;obtain⟨k,hk,o⟩:=A C;obtain⟨k,rfl⟩:∃T,k=T+1:=⟨k-1,by omega⟩;refine AI (ι:={x:Nat×List (Int×Bool)//x.1≤List.length v∧MI x.2 (rB v l x.1).1}) (fun x=>⟨[(0,.p qO v),(3,.bp 3 [] 0),(5,.p .bool (rB v l x.1.1).2),(18,.p (.int .i64) (List.length v:Int)),(19,.p (.int .i64) (x.1.1:Int))],[(3,.box 95 false [.mp 7]),(7,.mapo T3 .bool x.1.2)]⟩) (fun x=>List.length v-x.1.1) ⟨(0,H),IN _,n⟩ (AC [(3,.nm 3),(7,.nm 7)] rfl rfl ?_ ?_) (fun x=>?_)
     ·first|exact eN|refine eM ?_
     ·first|exact eN|refine eM ?_
      rfl
     ·obtain⟨⟨i,h⟩,hi,j⟩:=x;simp only at hi j ⊢;have f:=Ym v l i;have L:=Uj v l i;repeat'(first|exact trivial|refine eS rfl ?_|refine AB ?_|refine rX c ?_ ?_|refine rC ?_ ?_<;>intro d<;>try(cases d;done))
      ·have g:i<List.length v:=by exact eV
       have D:=j.look (k:=(i:Int)) (oN _);rw[f7]at D;have E:List.getD v i []∈(v:Ie):=AD (v:Ie) [] g;have J:=A0b j (r:=List.getD v i []) fun a ha=>(t _ E a ha).1;have F:A0a v (rB v l i) i=if ((rB v l i).1.getD i false&&!((List.getD v i []).any fun a=>(rB v l i).1.getD a.2.toNat false))=true then ((rB v l i).1.set i false,true) else rB v l i:=rfl
       rw[←J,←D]at F;rw[F]at f;have K:=j.del i;refine evP c 4 ?_ ?_
       ·trivial
       ·cases z:(A5 T3 .bool (i:Int) h).getD false with
        | false =>
         rw[z,Bool.false_and,At (by simp)]at f;refine rL c ?_ ?_
         ·trivial
         ·repeat'(first|exact trivial|refine eS rfl ?_|refine AB ?_|refine rX c ?_ ?_|refine rC ?_ ?_<;>intro d<;>try(cases d;done))
          ·omega
          ·refine⟨⟨(i+1,h),g,by rw[f];exact j⟩,by simp only;omega,AC [(3,.nm 3),(7,.nm 7)] rfl rfl ?_ ?_⟩
           ·first|exact eN|refine eM ?_
           ·simp only[f];first|exact eN|refine eM ?_
        | true =>
         rw[z,ABP]at f;refine rN 5 c ?_ ?_
         ·exact d
         ·have key:=A08 h (List.getD v i []) (Q _ E);generalize List.any (List.getD v i []) (fun a=>(A5 T3 .bool (Prod.snd a) h).getD false)=w at *;refine clG c (key) [(1,.nm 3),(3,.nm 7)] [] ?_ ?_ ?_
          ·first|exact eN|refine eM ?_
          ·first|exact eN|refine eM ?_
          ·rintro _ _ ⟨rfl,rfl⟩;refine⟨[(3,.nm 1),(7,.nm 3)],.p .bool w,[(3,.box 95 false [.mp 7]),(7,.mapo T3 .bool h)],rfl,rfl,?_,?_,rfl,rfl,?_⟩
           ·first|exact eN|refine eM ?_
           ·first|exact eN|refine eM ?_
           ·refine rL c ?_ ?_
            ·trivial
            ·cases y:w with
             | true =>
              subst y;rw[ACa,At (by simp)]at f;repeat'(first|exact trivial|refine eS rfl ?_|refine AB ?_|refine rX c ?_ ?_|refine rC ?_ ?_<;>intro d<;>try(cases d;done))
              ·omega
              ·refine⟨⟨(i+1,h),g,by rw[f];exact j⟩,by simp only;omega,AC [(3,.nm 3),(7,.nm 7)] rfl rfl ?_ ?_⟩
               ·first|exact eN|refine eM ?_
               ·simp only[f];first|exact eN|refine eM ?_
             | false =>
              subst y;rw[ACr,BY rfl]at f;repeat'(first|exact trivial|refine eS rfl ?_|refine AB ?_|refine rX c ?_ ?_|refine rC ?_ ?_<;>intro d<;>try(cases d;done))
              refine cP 2 c ?_ ?_
              ·trivial
              ·refine A71 c Tryz.underlying95 Tryz.underlying3 ?_;refine rL c ?_ ?_
               ·trivial
               ·repeat'(first|exact trivial|refine eS rfl ?_|refine AB ?_|refine rX c ?_ ?_|refine rC ?_ ?_<;>intro d<;>try(cases d;done))
                ·omega
                ·refine⟨⟨(i+1,M5 T3 .bool (i:Int) h),g,by rw[f];exact K⟩,by simp only;omega,AC [(3,.nm 3),(7,.nm 7)] rfl rfl ?_ ?_⟩
                 ·first|exact eN|refine eM ?_
                 ·simp only[f];first|exact eN|refine eM ?_
      ·have g:i=List.length v:=by exact eV
       subst g;obtain⟨S,G,U,V⟩:=L;have I:LU v (k+1) l=if (rB v l (List.length v)).2=true then LU v k (rB v l (List.length v)).1 else (rB v l (List.length v)).1:=rfl
       rw[I]at o;refine⟨⟨((rB v l (List.length v)).2,h,(rB v l (List.length v)).1),S.trans q,j,fun e=>⟨k,?_,?_⟩,fun e=>?_⟩,?_,AC [(3,.nm 3),(7,.nm 7)] rfl rfl ?_ ?_⟩
       ·have:=G e;simp only;omega
       ·rw[←o,BY e]
       ·rw[←o,At (by rw[show (rB v l (List.length v)).2=false from e];simp)]
       ·simp only;rw[BY C];split
        ·rename_i e;have:=G e;omega
        ·omega
       ·first|exact eN|refine eM ?_
       ·first|exact eN|refine eM ?_
    ·have M:=B d;have N:=n.len0;have O:=n.len;rw[q]at O;have hr:((H.length:Int)==0)=J9 v:=by
      unfold J9;rw[←M,AB7,AA1,←N];omega
     refine cP 1 c ?_ ?_
     ·trivial
     ·refine A72 c Tryz.underlying95 ?_ ?_
      ·simp only[AO];omega
      ·refine rL c ?_ ?_
       ·trivial
       ·repeat'(first|exact trivial|refine eS rfl ?_|refine AB ?_|refine rX c ?_ ?_|refine rC ?_ ?_<;>intro d<;>try(cases d;done))
        exact fI c [.tmp 2] (by rw[←hr];exact eR)
end
def Yn:Ac:={ ins:=[Ii],pre:=fun(l,_)=>List.length l≤100000,out:=fun(l,_)=>[.own 53 BK l] }
theorem sV:Ah Tryz.prog 48 Yn:=by
 refine fK [0,2,4] Tryz.func48 Tryz.ntmps48 AG ?_;rintro w0 O0 ⟨l,u⟩ a-d;have d:List.length l≤100000:=d;simp only[Yn,AM];repeat'(first|exact trivial|refine eS rfl ?_|refine AB ?_|refine rX a ?_ ?_|refine rC ?_ ?_<;>intro c<;>try(cases c;done))
 refine cP 1 a ?_ ?_
 ·trivial
 ·refine Wc a false rfl rfl ?_;intro b e;refine rL a ?_ ?_
  ·trivial
  ·repeat'(first|exact trivial|refine eS rfl ?_|refine AB ?_|refine rX a ?_ ?_|refine rC ?_ ?_<;>intro c<;>try(cases c;done))
   ·have f:l=[]:=e c;subst f;refine Ev.ent (σ':=⟨[(2,.sr 5 BK 0 0)],[(5,.arr 53 BK [])]⟩) ?_ (AC [(5,.nil)] rfl rfl ?_ ?_)
    ·exact H7 a (.inl rfl) (rv:=.tmp 2) rfl (by simp only[Iv,H5,Gj,go_sem,Nat.reduceEqDiff,reduceCtorEq,Nat.reduceAdd,Nat.reduceSub,Nat.reduceMul,Nat.reduceLeDiff,Nat.reduceLT,Int.reduceLE,Int.reduceToNat,Int.reduceNeg,↓reduceIte])
    ·first|exact eN|refine eM ?_
    ·first|exact eN|refine eM ?_
   ·simp only[AO];omega
   ·exact H7 a (.inl rfl) (rv:=.tmp 2) rfl (by simp only[Iv,H5,Gj,go_sem,Nat.reduceEqDiff,reduceCtorEq,Nat.reduceAdd,Nat.reduceSub,Nat.reduceMul,Nat.reduceLeDiff,Nat.reduceLT,Int.reduceLE,Int.reduceToNat,Int.reduceNeg,↓reduceIte])
def B8 (h:AJ):Ie:=h.1.map fun t=>t.2.2.2
def NA (N:List AF) (i:Nat) (v:Int×Int):List AF:=N.set i ((N.getD i (0,[])).1,(N.getD i (0,[])).2++[(v.1,(N.length:Int))])++[(v.2,[])]
def SG (i:Nat):List (Int×Int)→List AF→Option (List AF)
 | [],N=>some N
 | v :: r,N=>if ((N.getD i (0,[])).2.any fun a=>a.1==v.1)=true then SG i r N else if 4096≤N.length then none else SG i r (NA N i v)
def Vq (h:AJ):Nat→Nat→List AF→Option (List AF)
 | 0,_,_=>none
 | k+1,i,N=>if i<N.length then (SG i (Ba h (N.getD i (0,[])).1) N).bind (Vq h k (i+1)) else some N
def CE (h:AJ) (f:List AF):List AF×Int :=
 if (BD h f).2=false then ([],12) else if J9 (B8 h)=false then ([],6)
 else match Vq h ((BD h f).1.length+4097) 0 (BD h f).1 with
  | none=>([],7)
  | some N=>Ax N
theorem Uk (N:List AF) (i:Nat) (v:Int×Int):(NA N i v).length=N.length+1:=by simp[NA]
structure tX (h:AJ) (m i k:Nat) (N:List AF):Prop where
 len:N.length≤m
 ty:∀x∈N,0≤x.1∧x.1<(h.1.length:Int)
 lo:∀j,j<i→(N.getD j (0,[])).2.length≤200
 at':(N.getD i (0,[])).2.length≤100+k
 hi:∀j,i<j→(N.getD j (0,[])).2.length≤100
theorem A0c {α:Type} (l:List α) (x d:α) (j:Nat):(l++[x]).getD j d=if j<l.length then l.getD j d else if j=l.length then x else d:=by
 simp only[AS];by_cases h:j<l.length
 ·rw[BY h,oS h]
 ·rw[At h,AA3 (by omega)];by_cases e:j=l.length
  ·rw[BY e,e,AB4];rfl
  ·rw[At e,gO (by simp only[iF];omega)];rfl
theorem Fd {α:Type} (l:List α) (x d:α) {i:Nat} (h:i<l.length) (j:Nat):(l.set i x).getD j d=if j=i then x else l.getD j d:=by
 simp only[AS,AAs];by_cases e:i=j
 ·rw[BY e,BY h,BY e.symm];rfl
 ·rw[At e,At (show ¬j=i by omega)]
theorem Ul {N:List AF} {i:Nat} (h:i<N.length) (v:Int×Int) (j:Nat):(NA N i v).getD j (0,[])=if j=i then ((N.getD i (0,[])).1,(N.getD i (0,[])).2++[(v.1,(N.length:Int))]) else if j=N.length then (v.2,[]) else N.getD j (0,[]):=by
 unfold NA;rw[A0c,Fd _ _ _ h,AAd];by_cases a:j=i
 ·rw[BY a,BY (by omega),BY a]
 ·rw[At a,At a];by_cases c:j<N.length
  ·rw[BY c,At (by omega)]
  ·rw[At c];by_cases b:j=N.length
   ·rw[BY b,BY b]
   ·rw[At b,At b,AS,gO (by omega)];rfl
theorem tX.add {h:AJ} {m i k:Nat} {N:List AF} (b:tX h m i k N) (hi:i<N.length) (f:4096≤m) (e:N.length<4096) {v:Int×Int} (v0:0≤v.2) (v1:v.2<(h.1.length:Int)):tX h m i (k+1) (NA N i v):=by
 have c:=fun j=>Ul hi v j;refine⟨by rw[Uk];omega,fun x a=>?_,fun j d=>?_,?_,fun j d=>?_⟩
 ·unfold NA at a;rcases ON.1 a with a|a
  ·rcases AAT a with a|rfl
   ·exact b.ty x a
   ·exact(b.ty (N.getD i (0,[])) (AD N (0,[]) hi) :)
  ·rw[AAh.1 a];exact⟨v0,v1⟩
 ·rw[c,At (by omega),At (by omega)];exact b.lo j d
 ·rw[c,BY rfl];have:=b.at';simp only[OR,iF];omega
 ·rw[c,At (by omega)];split
  ·simp
  ·exact b.hi j d
theorem tX.skip {h:AJ} {m i k:Nat} {N:List AF} (a:tX h m i k N):tX h m i (k+1) N:=⟨a.len,a.ty,a.lo,by have:=a.at';omega,a.hi⟩
theorem tX.next {h:AJ} {m i k:Nat} {N:List AF} (a:tX h m i k N) (hk:k≤100):tX h m (i+1) 0 N:=⟨a.len,a.ty,fun j b=>by
 by_cases e:j=i
 ·have:=a.at';rw[e];omega
 ·exact a.lo j (by omega),a.hi (i+1) (by omega),fun j b=>a.hi j (by omega)⟩
structure lN (h:AJ) (f:List AF):Prop where
 inf:lL h f
 fw:∀t∈h.1,t.2.2.2.length≤100
 vok:VOk (B8 h)
 rw':∀x∈f,x.2.length≤100
theorem A31 {h:AJ} (hk:Jf h) (hi:HH h) (hf:Sk h) {f:List AF} (ha:K3 h f):∀ {k i:Nat} {s:EB} {ty:List Int},Mr h f.length s→oG h f k i s=some ty→ty.length=f.length∧∀t∈ty,0≤t∧t<(h.1.length:Int)
 | 0,_,_,_,_,e=>by cases e
 | k+1,i,s,ty,hs,e=>by
  unfold oG at e;split at e
  ·rename_i b;obtain⟨n0,n1⟩:=hs.wt _ (AD s.2 (0:Int) b);cases a:J8 h f (s.2.getD i 0) s with
   | none=>rw[a]at e;cases e
   | some s1 =>
    rw[a]at e;exact A31 hk hi hf ha (Po hk hi hf ha n0 n1 hs a).1 e
  ·injection e with e
   subst e;exact⟨hs.len,hs.ty⟩
theorem gF {h:AJ} {f:List AF} (hp:lL h f):∀x∈(BD h f).1,(0≤x.1∧x.1<(h.1.length:Int))∧∃y∈f,x.2=y.2:=by
 unfold BD;cases e:FJ h f with
 | none=>intro x a;cases a
 | some ty =>
  obtain⟨h1,b⟩:=A31 hp.ok hp.inj hp.ft hp.arcs (XM hp.ty) e;intro x a;obtain⟨i,hi,rfl⟩:=If.1 a;have hi:=iS.1 hi;exact⟨b _ (AD ty (0:Int) (by omega)),_,AD f (0,[]) hi,rfl⟩
theorem sW (h:AJ) (f:List AF):(BD h f).1.length≤f.length:=by
 unfold BD;split
 ·rw[CU];exact NO _
 ·simp
theorem A0d {h:AJ} {f:List AF} (hp:lN h f):tX h (max 4096 (BD h f).1.length) 0 0 (BD h f).1:=by
 have hr:∀j,((BD h f).1.getD j (0,[])).2.length≤100:=fun j=>by
  by_cases a:j<(BD h f).1.length
  ·obtain⟨-,y,c,e⟩:=gF hp.inf _ (AD (BD h f).1 (0,[]) a);rw[e];exact hp.rw' y c
  ·rw[AS,gO (by omega)];simp
 exact⟨Nat.le_max_right _ _,fun x b=>(gF hp.inf x b).1,fun j a=>by omega,hr 0,fun j _=>hr j⟩
section
attribute [local go_sem] Q0 gE Yn PJ
attribute [local go_sem] Tf jI ne_eq not_false_eq_true
def Q1:Ac:={ ins:=[Lb,FZ],pre:=fun(h,f,_)=>lN h f,out:=fun(h,f,_)=>[.p FZ (CE h f).1,.p Th (CE h f).2] }
attribute [local go_sem] Q1
theorem Um:Ah Tryz.prog 21 Q1:=by
 refine fKP [0,1,2,3,4,5,6,7,8,10,11,13,14,16,24,27,28,29,30,41,44,45,46,47,63,75,76,77,78,87,90] [] [(57,53),(112,53)] Tryz.func21 Tryz.ntmps21 (AE Uf (AE oK (AE sV (AE Wo AG)))) ?_;rintro w0 O0 ⟨⟨b,hf⟩,f,u⟩ d-hp;have hp:lN (b,hf) f:=hp;have aj:b.length≤256:=hp.inf.ok.2;simp only[Q1,AM];repeat'(first|exact trivial|refine eS rfl ?_|refine AB ?_|refine rX d ?_ ?_|refine rC ?_ ?_<;>intro c<;>try(cases c;done))
 ·exact hp.inf
 ·have hr:CE (b,hf) f=([],12):=BY c;exact fI d [.cell 4 25,.tmp 5] (by rw[hr];exact eR)
 ·have P:¬(BD (b,hf) f).2=false:=by rw[c];simp
  have E:(B8 (b,hf)).length=b.length:=by simp[B8]
  refine AI (ι:={i:Nat//i≤b.length}) (fun i=>⟨[(2,.bp 2 [] 0),(4,.bp 4 [] 0),(6,.bp 6 [] 0),(8,.sr 37 Wb 0 i.1),(27,.p M6 b),(28,.p (.int .i64) (b.length:Int)),(29,.p (.int .i64) (i.1:Int))],[(6,.box 25 true [.p Et (BD (b,hf) f).1]),(4,.box 25 true [.raw (.slice none 0 0)]),(2,.box 31 true [.p M6 b,.p Nq hf]),(37,.arr 82 Wb ((B8 (b,hf)).take i.1))]⟩) (fun i=>b.length-i.1) ⟨0,IN _⟩ (AC [(6,.nm 6),(4,.nm 4),(2,.nm 2),(37,.nil)] rfl rfl ?_ ?_) (fun i=>?_)
  ·first|exact eN|refine eM ?_
  ·first|exact eN|refine eM ?_
  ·obtain⟨i,hi⟩:=i;have aa:i<b.length→(B8 (b,hf)).take i++[(List.getD b i (ByteArray.empty,[],[],[])).2.2.2]=(B8 (b,hf)).take (i+1):=fun h=>by
    rw[Ab (B8 (b,hf)) [] (by rw[E];exact h)];simp[B8,AS,h]
   have ak:((B8 (b,hf)).take i).length=i:=by rw[SH,E];omega
   have Q:((B8 (b,hf)).take i).take i=(B8 (b,hf)).take i:=by rw[ABq,ACg]
   simp only;have D:i=b.length→List.take i (List.take i (B8 (b,hf)))=B8 (b,hf):=fun e=>by
    rw[Q];exact As (by rw[E];omega)
   repeat'(first|exact trivial|refine eS rfl ?_|refine AB ?_|refine rX d ?_ ?_|refine rC ?_ ?_<;>intro c<;>try(cases c;done))
   ·exact c
   ·simp only[AO];omega
   ·omega
   ·have J:i<b.length:=IS.1 c;have Z:=aa J;refine⟨⟨i+1,J⟩,by simp only;omega,AC [(6,.nm 6),(4,.nm 4),(2,.nm 2),(37,.nm 37)] rfl rfl ?_ ?_⟩
    ·simp only[←Z];first|exact eN|refine eM ?_
     rw[Q]
    ·first|exact eN|refine eM ?_
   ·rw[D (by exact eV)];exact hp.vok
   ·have g:=D (by exact eV);rw[g]at c;have hr:CE (b,hf) f=([],6):=by
     unfold CE;rw[At P,BY c]
    exact fI d [.cell 4 25,.tmp 5] (by rw[hr];exact eR)
   ·have g:=D (by exact eV);rw[g]at c;have C:=A0d hp;have am:=sW (b,hf) f;have ai:=hp.inf.good.1;have hr:CE (b,hf) f=match Vq (b,hf) ((BD (b,hf) f).1.length+4097) 0 (BD (b,hf) f).1 with
      | none=>([],7)
      | some N=>Ax N:=by
     unfold CE;rw[At P,At (by rw[c];simp)];all_goals rfl
    generalize (BD (b,hf) f).1=x at *;refine AI (ι:={j:Nat//j≤x.length}) (fun j=>⟨[(2,.bp 2 [] 0),(4,.bp 4 [] 0),(11,.sr 58 LJ 0 j.1),(44,.p Et x),(45,.p (.int .i64) (x.length:Int)),(46,.p (.int .i64) (j.1:Int))],[(4,.box 25 true [.raw (.slice none 0 0)]),(2,.box 31 true [.p M6 b,.p Nq hf]),(58,.nest 49 53 T3 BK (x.take j.1) none)]⟩) (fun j=>x.length-j.1) ⟨0,IN _⟩ (AC [(4,.nm 4),(2,.nm 2),(58,.nil)] rfl rfl ?_ ?_) (fun j=>?_)
    ·first|exact eN|refine eM ?_
    ·first|exact eN|refine eM ?_
    ·obtain⟨j,K⟩:=j;have W:∀y∈x,y.2.length≤100:=fun y F=>by
      obtain⟨k,hk,rfl⟩:=AAf.1 F;have e:x.getD k (0,[])=x[k]:=by rw[AS,AT hk];rfl
      rw[←e];by_cases h0:k=0
      ·rw[h0];exact C.at'
      ·exact C.hi k (by omega)
     simp only;repeat'(first|exact trivial|refine eS rfl ?_|refine AB ?_|refine rX d ?_ ?_|refine rC ?_ ?_<;>intro c<;>try(cases c;done))
     ·exact c
     ·have w:j<x.length:=IS.1 c;have X:=W _ (AD x (0,[]) w);refine DC drawsAny d 9 [([1,2,3,4,5,6],7),([0],8)] [] (by kernel_rfl) (Td ?_ ?_)
      ·dsimp only[Ty.den]at *;omega
      ·refine A74 d ?_ ?_
       ·rfl
       ·refine Td ?_ ?_
        ·trivial
        ·refine Vj d [58,57] ?_ ?_
         ·have e:(List.take j x).length=j:=by rw[SH];omega
          rw[e];simp only[AO];exact⟨trivial,by omega⟩
         ·refine VW d ?_ ?_ ?_
          ·trivial
          ·trivial
          ·repeat'(first|exact trivial|refine eS rfl ?_|refine AB ?_|refine rX d ?_ ?_|refine rC ?_ ?_<;>intro c<;>try(cases c;done))
           ·omega
           ·have e:=Ab x (0,[]) w;refine⟨⟨j+1,w⟩,by simp only;omega,AC [(4,.nm 4),(2,.nm 2),(58,.nm 58)] rfl rfl ?_ ?_⟩
            ·simp only[e];first|exact eN|refine eM ?_
            ·first|exact eN|refine eM ?_
             rw[SH];omega
     ·have w:j=x.length:=by exact eV
      subst w;have ab:x.take x.length=x:=As (NO _);rw[ab];refine AI (ι:={s:Nat×List AF//s.1≤s.2.length∧tX (b,hf) (max 4096 x.length) s.1 0 s.2∧∃k,max 4096 x.length+1≤k+s.1∧Vq (b,hf) (x.length+4097) 0 x=Vq (b,hf) k s.1 s.2}) (fun s=>⟨[(2,.bp 2 [] 0),(4,.bp 4 [] 0),(11,.sr 58 LJ 0 s.1.2.length),(14,.p (.int .i64) (s.1.1:Int))],[(4,.box 25 true [.raw (.slice none 0 0)]),(2,.box 31 true [.p M6 b,.p Nq hf]),(58,.nest 49 53 T3 BK s.1.2 none)]⟩) (fun s=>max 4096 x.length+1-s.1.1) ⟨(0,x),IN _,C,x.length+4097,by omega,rfl⟩ (AC [(4,.nm 4),(2,.nm 2),(58,.nm 58)] rfl rfl ?_ ?_) (fun s=>?_)
      ·first|exact eN|refine eM ?_
      ·first|exact eN|refine eM ?_
      ·obtain⟨⟨i,N⟩,U,q,k,hk,g⟩:=s;simp only at U q g hk ⊢;have ah:=q.len;repeat'(first|exact trivial|refine eS rfl ?_|refine AB ?_|refine rX d ?_ ?_|refine rC ?_ ?_<;>intro c<;>try(cases c;done))
       ·have o:i<N.length:=IS.1 c;exact⟨c,q.ty _ (AD N (0,[]) o)⟩
       ·have o:i<N.length:=IS.1 c;obtain⟨ad,ae⟩:=q.ty _ (AD N (0,[]) o);obtain⟨k,rfl⟩:∃G,k=G+1:=⟨k-1,by omega⟩;have B:Vq (b,hf) (k+1) i N=(SG i (Ba (b,hf) (N.getD i (0,[])).1) N).bind (Vq (b,hf) k (i+1)):=BY o;rw[B]at g;have O:=Qz (h:=(b,hf)) ad ae;have af:(Ba (b,hf) (N.getD i (0,[])).1).length≤100:=hp.fw _ O;have S:∀a∈Ba (b,hf) (N.getD i (0,[])).1,0≤a.2∧a.2<((b,hf):AJ).1.length:=hp.inf.ft.val _ O;have I:∀l,l=Ba (b,hf) (N.getD i (0,[])).1→(List.getD b (Int.toNat (N.getD i (0,[])).1) (ByteArray.empty,[],[],[])).2.2.2=l:=fun l e=>by rw[e];rfl
        generalize R:Ba (b,hf) (N.getD i (0,[])).1=L at *;rw[I L rfl];clear I R;refine AI (ι:={y:Nat×List AF//y.1≤L.length∧tX (b,hf) (max 4096 x.length) i y.1 y.2∧i<y.2.length∧SG i L N=SG i (L.drop y.1) y.2}) (fun y=>⟨[(2,.bp 2 [] 0),(4,.bp 4 [] 0),(11,.sr 58 LJ 0 y.1.2.length),(14,.p (.int .i64) (i:Int)),(75,.p Wb L),(76,.p (.int .i64) (L.length:Int)),(77,.p (.int .i64) (y.1.1:Int))],[(4,.box 25 true [.raw (.slice none 0 0)]),(2,.box 31 true [.p M6 b,.p Nq hf]),(58,.nest 49 53 T3 BK y.1.2 none)]⟩) (fun y=>L.length-y.1.1) ⟨(0,N),IN _,q,o,rfl⟩ (AC [(4,.nm 4),(2,.nm 2),(58,.nm 58)] rfl rfl ?_ ?_) (fun y=>?_)
        ·first|exact eN|refine eM ?_
        ·first|exact eN|refine eM ?_
        ·obtain⟨⟨j,M⟩,K,r,n,m⟩:=y;simp only at K r n m ⊢;have ag:=r.len;repeat'(first|exact trivial|refine eS rfl ?_|refine AB ?_|refine rX d ?_ ?_|refine rC ?_ ?_<;>intro c<;>try(cases c;done))
         ·exact c
         ·have A:j<L.length:=IS.1 c;have t:SG i (L.drop j) M=if ((M.getD i (0,[])).2.any fun a=>a.1==(L.getD j (0,0)).1)=true then SG i (L.drop (j+1)) M else if 4096≤M.length then none else SG i (L.drop (j+1)) (NA M i (L.getD j (0,0))):=by rw[LQ (0,0) A];rfl
          obtain⟨v0,v1⟩:=S _ (AD L (0,0) A);have X:=r.at';generalize al:L.getD j (0,0)=v at *;refine cP 6 d ?_ ?_
          ·exact IS.2 n
          ·have key:=A09 v (M.getD i (0,[])).2 (by omega);generalize List.any (M.getD i (0,[])).2 (fun a=>(Prod.fst a==v.1))=H at *;refine A75 d key rfl ?_;refine rL d ?_ ?_
           ·trivial
           ·repeat'(first|exact trivial|refine eS rfl ?_|refine AB ?_|refine rX d ?_ ?_|refine rC ?_ ?_<;>intro c<;>try(cases c;done))
            ·omega
            ·rename_i z;rw[BY c]at t;refine⟨⟨(j+1,M),A,r.skip,n,m.trans t⟩,by simp only;omega,AC [(4,.nm 4),(2,.nm 2),(58,.nm 58)] rfl rfl ?_ ?_⟩
             ·first|exact eN|refine eM ?_
             ·first|exact eN|refine eM ?_
            ·have z:H=false:=by assumption
             rw[At (by rw[z];simp),BY (oF.1 c)]at t;rw[g,m,t]at hr;have hr:CE (b,hf) f=([],7):=hr;exact fI d [.cell 4 25,.tmp 5] (by rw[hr];exact eR)
            ·have V:M.length<4096:=IS.1 c;have z:H=false:=by assumption
             rw[At (by rw[z];simp),At (by omega)]at t;refine DC drawsAny d 14 [([2,3,4,5,6,7,8,9,10,11,12],13)] [0,1] (by kernel_rfl) (Td ?_ ?_)
             ·exact IS.2 n
             ·refine mxN d 58 ?_ ?_
              ·simp only[AO];dsimp only[Ty.den]at *;omega
              ·refine VW d ?_ ?_ ?_
               ·trivial
               ·exact IS.2 n
               ·repeat'(first|exact trivial|refine eS rfl ?_|refine AB ?_|refine rX d ?_ ?_|refine rC ?_ ?_<;>intro c<;>try(cases c;done))
                ·rw[AAd];simp only[AO];exact⟨trivial,by omega⟩
                ·omega
                ·refine⟨⟨(j+1,NA M i v),A,r.add n (by omega) V v0 v1,by rw[Uk];omega,m.trans t⟩,by simp only;omega,AC [(4,.nm 4),(2,.nm 2),(58,.nm 58)] rfl rfl ?_ ?_⟩
                 ·unfold NA;first|exact eN|refine eM ?_
                 ·unfold NA;first|exact eN|refine eM ?_
         ·omega
         ·have T:L.drop j=[]:=IF (oF.1 c);rw[T]at m;have m:SG i L N=some M:=m;rw[m]at g;refine⟨⟨(i+1,M),n,r.next (by omega),k,by simp only;omega,g⟩,by simp only;omega,AC [(4,.nm 4),(2,.nm 2),(58,.nm 58)] rfl rfl ?_ ?_⟩
          ·first|exact eN|refine eM ?_
          ·first|exact eN|refine eM ?_
       ·have o:¬i<N.length:=fun h=>by
         have:=oF.1 c;omega
        obtain⟨k,rfl⟩:∃G,k=G+1:=⟨k-1,by omega⟩;have B:Vq (b,hf) (k+1) i N=some N:=At o;rw[g,B]at hr;have hr:CE (b,hf) f=Ax N:=hr;have Y:NQ N:=fun y F=>by
         obtain⟨k,hk,rfl⟩:=AAf.1 F;have e:N.getD k (0,[])=N[k]:=by rw[AS,AT hk];rfl
         rw[←e];exact q.lo k (by omega)
        refine GP [58] ?_;repeat'(first|exact trivial|refine eS rfl ?_|refine AB ?_|refine rX d ?_ ?_|refine rC ?_ ?_<;>intro c<;>try(cases c;done))
        ·exact Y
        ·exact fI d [.cell 4 25,.tmp 5] (by rw[hr];exact eR)
end
section
def KA:Ac:={ ins:=[Lb],pre:=fun(h,_)=>List.length (h:AJ).1≤100000,out:=fun(h,_)=>[.p qO (B8 h)] }
attribute [local go_sem] KA
theorem Ru:Ah Tryz.prog 25 KA:=by
 refine fK [0,1,2,3,4,9] Tryz.func25 Tryz.ntmps25 AG ?_;rintro w0 O0 ⟨⟨a,hf⟩,u⟩ d-g;have g:a.length≤100000:=g;have f:(B8 (a,hf)).length=a.length:=by simp[B8]
 simp only[KA,AM];repeat'(first|exact trivial|refine eS rfl ?_|refine AB ?_|refine rX d ?_ ?_|refine rC ?_ ?_<;>intro b<;>try(cases b;done))
 have l:∀i,i<a.length→(B8 (a,hf)).take i++[(List.getD a i (ByteArray.empty,[],[],[])).2.2.2]=(B8 (a,hf)).take (i+1):=fun i h=>by
  rw[Ab (B8 (a,hf)) [] (by rw[f];exact h)];simp[B8,AS,h]
 refine AI (ι:={i:Nat//i≤a.length}) (fun i=>⟨[(1,.bp 1 [] 0),(3,.sr 20 Wb 0 i.1),(4,.p (.int .i64) (i.1:Int))],[(1,.box 31 true [.p M6 a,.p Nq hf]),(20,.arr 82 Wb ((B8 (a,hf)).take i.1))]⟩) (fun i=>a.length-i.1) ⟨0,IN _⟩ (AC [(1,.nm 1),(20,.nil)] rfl rfl ?_ ?_) (fun i=>?_)
 ·first|exact eN|refine eM ?_
 ·first|exact eN|refine eM ?_
 ·obtain⟨i,hi⟩:=i;have m:((B8 (a,hf)).take i).length=i:=by rw[SH,f];omega
  have j:((B8 (a,hf)).take i).take i=(B8 (a,hf)).take i:=by rw[ABq,ACg]
  simp only;repeat'(first|exact trivial|refine eS rfl ?_|refine AB ?_|refine rX d ?_ ?_|refine rC ?_ ?_<;>intro b<;>try(cases b;done))
  ·exact⟨b,by simp only[AO];omega⟩
  ·omega
  ·have c:i<a.length:=IS.1 b;have k:=l i c;refine⟨⟨i+1,c⟩,by simp only;omega,AC [(1,.nm 1),(20,.nm 20)] rfl rfl ?_ ?_⟩
   ·simp only[←k];first|exact eN|refine eM ?_
    rw[j]
   ·first|exact eN|refine eM ?_
  ·have c:i=a.length:=by exact eV
   subst c;refine GP [20] ?_;have e:List.take a.length (List.take a.length (B8 (a,hf)))=B8 (a,hf):=by rw[j];exact As (by rw[f];omega)
   exact fI d [.tmp 2] (by rw[e];exact eR)
def Yo:Ac:={ ins:=[qO],pre:=fun(v,_)=>VOk v,out:=fun(v,_)=>[.p .bool (J9 v)],lend:=true }
attribute [local go_sem] Yo
theorem oL (l:List Bool):F5 l≤l.length:=AC2
theorem A0e (l:List Bool):l.all (!·)=(F5 l==0):=by
 unfold F5;rw[AB7,AA1,List.countP_eq_zero,Do];simp
theorem A6w (L:List Bool) {i:Nat} (h:i<L.length):(L.map (!·)).getD i false=!(L.getD i false):=by
 simp[AS,h]
theorem A0f:Ah Tryz.prog 52 Yo:=by
 refine fK [0,2,3,4,5,6,7,8,12,16,30,47] Tryz.func52 Tryz.ntmps52 AG ?_;rintro w0 O0 ⟨v,u⟩ g ⟨⟨O,L⟩,-⟩ r;have r:VOk v:=r;simp only[AO]at O;simp only[Yo,AM];repeat'(first|exact trivial|refine eS rfl ?_|refine AB ?_|refine rX g ?_ ?_|refine rC ?_ ?_<;>intro c<;>try(cases c;done))
 ·simp only[AO];omega
 ·refine AI (ι:={x:Bool×List Bool//x.2.length=List.length v∧(x.1=true→∃k,F5 x.2+1≤k∧LU v k x.2=LU v (List.length v+1) (List.replicate (List.length v) true))∧(x.1=false→x.2=LU v (List.length v+1) (List.replicate (List.length v) true))}) (fun x=>⟨[(0,.p qO v),(3,.sr 11 T4 0 (List.length v)),(4,.p (.int .i64) ((List.length v:Int)-(F5 x.1.2:Int))),(5,.p .bool x.1.1)],[(11,.arr 4 T4 (x.1.2.map (!·)))]⟩) (fun x=>F5 x.1.2+(if x.1.1=true then 1 else 0)) ⟨(true,List.replicate (List.length v) true),by simp,fun _=>⟨List.length v+1,by rw[Ui];exact NO _,rfl⟩,fun h=>by cases h⟩ (AC [(11,.nm 11)] rfl rfl ?_ ?_) (fun x=>?_)
  ·first|exact eN|refine eM ?_
   rw[List.map_replicate];rfl
  ·first|exact eN|refine eM ?_
   rw[Ui];exact(Int.sub_self _).symm
  ·obtain⟨⟨b,l⟩,n,t,w⟩:=x;simp only at n t w ⊢;repeat'(first|exact trivial|refine eS rfl ?_|refine AB ?_|refine rX g ?_ ?_|refine rC ?_ ?_<;>intro c<;>try(cases c;done))
   ·have y:b=true:=c;obtain⟨k,hk,q⟩:=t y;obtain⟨k,rfl⟩:∃Q,k=Q+1:=⟨k-1,by omega⟩;have A:∀i,F5 (rB v l i).1≤F5 l∧(rB v l i).1.length=List.length v:=fun i=>⟨(Uj v l i).2.2.2,(Uj v l i).1.trans n⟩;refine AI (ι:={i:Nat//i≤List.length v}) (fun i=>⟨[(0,.p qO v),(3,.sr 11 T4 0 (List.length v)),(4,.p (.int .i64) ((List.length v:Int)-(F5 (rB v l i.1).1:Int))),(5,.p .bool (rB v l i.1).2),(6,.p (.int .i64) (i.1:Int))],[(11,.arr 4 T4 ((rB v l i.1).1.map (!·)))]⟩) (fun i=>List.length v-i.1) ⟨0,IN _⟩ (AC [(11,.nm 11)] rfl rfl ?_ ?_) (fun i=>?_)
    ·first|exact eN|refine eM ?_
     rfl
    ·first|exact eN|refine eM ?_
     exact⟨rfl,rfl⟩
    ·obtain⟨i,hi⟩:=i;have d:=Ym v l i;have I:=A i;have U:=A (i+1);simp only;repeat'(first|exact trivial|refine eS rfl ?_|refine AB ?_|refine rX g ?_ ?_|refine rC ?_ ?_<;>intro c<;>try(cases c;done))
     ·exact c
     ·have f:i<List.length v:=IS.1 c;have N:A0a v (rB v l i) i=if ((rB v l i).1.getD i false&&!((List.getD v i []).any fun a=>(rB v l i).1.getD a.2.toNat false))=true then ((rB v l i).1.set i false,true) else rB v l i:=rfl
      rw[N]at d;have C:List.getD v i []∈(v:Ie):=AD (v:Ie) [] f;have D:=r _ C;have M:=(L _ C).1;simp only[AO]at M;have R:=oL (rB v l i).1;have S:=I.2;have J:=A6w (rB v l i).1 (i:=i) (by omega);simp only[J,Bool.not_not];refine AI (ι:={k:Nat//k≤List.length (List.getD v i [])}) (fun k=>⟨[(0,.p qO v),(3,.sr 11 T4 0 (List.length v)),(4,.p (.int .i64) ((List.length v:Int)-(F5 (rB v l i).1:Int))),(5,.p .bool (rB v l i).2),(6,.p (.int .i64) (i:Int)),(7,.p .bool ((rB v l i).1.getD i false&&!((List.take k.1 (List.getD v i [])).any fun a=>(rB v l i).1.getD a.2.toNat false))),(8,.p (.int .i64) (k.1:Int))],[(11,.arr 4 T4 ((rB v l i).1.map (!·)))]⟩) (fun k=>List.length (List.getD v i [])-k.1) ⟨0,IN _⟩ (AC [(11,.nm 11)] rfl rfl ?_ ?_) (fun k=>?_)
      ·first|exact eN|refine eM ?_
      ·first|exact eN|refine eM ?_
      ·obtain⟨k,T⟩:=k;simp only;repeat'(first|exact trivial|refine eS rfl ?_|refine AB ?_|refine rX g ?_ ?_|refine rC ?_ ?_<;>intro c<;>try(cases c;done))
       ·exact IS.2 f
       ·have j:k<List.length (List.getD v i []):=IS.1 c;have B:=D _ (AD (List.getD v i []) (0,0) j);exact⟨fun _=>by omega,fun _=>c,fun _=>B⟩
       ·exact eV
       ·have j:k<List.length (List.getD v i []):=IS.1 c;have B:=D _ (AD (List.getD v i []) (0,0) j);have K:=A6w (rB v l i).1 (i:=(List.getD (List.getD v i []) k (0,0)).2.toNat) (by omega);refine⟨⟨k+1,j⟩,by simp only;omega,AC [(11,.nm 11)] rfl rfl ?_ ?_⟩
        ·first|exact eN|refine eM ?_
        ·simp only[Ab (List.getD v i []) (0,0) j,ABx,K];first|exact eN|refine eM ?_
         rw[Bool.not_or,Bool.and_assoc]
       ·have m:k=List.length (List.getD v i []):=by exact eV
        rw[m,f5]at c;omega
       ·exact eV
       ·exact eV
       ·have m:k=List.length (List.getD v i []):=by exact eV
        rw[m,f5]at c;rw[BY (by rw[c.1,c.2];rfl)]at d;have H:=Uh c.1;refine⟨⟨i+1,f⟩,by simp only;omega,AC [(11,.nm 11)] rfl rfl ?_ ?_⟩
        ·simp only[d];first|exact eN|refine eM ?_
         rw[List.map_set];rfl
        ·simp only[d];first|exact eN|refine eM ?_
         have F:(F5 (rB v l i).1:Int)=(F5 ((rB v l i).1.set i false):Int)+1:=by rw[←H];rfl
         rw[F];exact(by intro z s;omega:∀z s:Int,z-(s+1)+1=z-s) _ _
       ·exact eV
       ·have m:k=List.length (List.getD v i []):=by exact eV
        rw[m,f5]at c;have d:rB v l (i+1)=rB v l i:=by rw[d,At];intro e;rw[An,OF]at e;exact absurd (c e.1) (by rw[e.2];simp)
        refine⟨⟨i+1,f⟩,by simp only;omega,AC [(11,.nm 11)] rfl rfl ?_ ?_⟩
        ·simp only[d];first|exact eN|refine eM ?_
        ·simp only[d];first|exact eN|refine eM ?_
     ·have f:i=List.length v:=by exact eV
      subst f;obtain⟨P,E,V,W⟩:=Uj v l (List.length v);have G:LU v (k+1) l=if (rB v l (List.length v)).2=true then LU v k (rB v l (List.length v)).1 else (rB v l (List.length v)).1:=rfl
      rw[G]at q;refine⟨⟨((rB v l (List.length v)).2,(rB v l (List.length v)).1),P.trans n,fun e=>⟨k,?_,?_⟩,fun e=>?_⟩,?_,AC [(11,.nm 11)] rfl rfl ?_ ?_⟩
      ·have:=E e;simp only;omega
      ·rw[←q,BY e]
      ·rw[←q,At (by rw[show (rB v l (List.length v)).2=false from e];simp)]
      ·simp only;rw[BY y];split
       ·rename_i e;have:=E e;omega
       ·omega
      ·first|exact eN|refine eM ?_
      ·first|exact eN|refine eM ?_
   ·have e:=w c;have hr:J9 v=((List.length v:Int)-(F5 l:Int)==(List.length v:Int)):=by
     unfold J9;rw[←e,A0e,AB7,AA1,AA1];have h1:F5 l≤List.length v:=by rw[←n];exact oL l
     constructor
     ·intro o;rw[o];exact Int.sub_zero _
     ·intro o;generalize (List.length v:Int)=z at o;omega
    exact fI g [.tmp 2] (by rw[hr];exact eR)
end
abbrev A6x:=Int×List (Int×Int)
def HI (f:List A6x):Bool:=decide (f.length≤12)&&f.all fun n=>decide (n.2.length≤12)
def Un:Ac:={ ins:=[FZ],pre:=fun _=>True,out:=fun(f,_)=>[.p .bool (HI f)] }
theorem A0g:Ah Tryz.prog 12 Un:=by
 refine fK [0,1,2,3,7,12,22] Tryz.func12 Tryz.ntmps12 AG ?_;rintro w0 O0 ⟨l,u⟩ a e f;simp only[Un,AM];repeat'(first|exact trivial|refine eS rfl ?_|refine AB ?_|refine rX a ?_ ?_|refine rC ?_ ?_<;>intro b<;>try(cases b;done))
 ·have h1:HI l=false:=by
   have h:¬(List.length l≤12):=by exact eV
   unfold HI;rw[ABC h];rfl
  exact fI a [.tmp 2] (by rw[h1];exact eR)
 ·refine AI (ι:={k:Nat//k≤l.length∧(l.take k).all (fun n=>decide (n.2.length≤12))=true}) (fun k=>⟨[(0,.p FZ l),(1,.bp 1 [] 0),(3,.p (.int .i64) (k.1:Int))],[(1,.box 25 true [.p Et l])]⟩) (fun k=>l.length-k.1) ⟨0,by simp⟩ (AC [(1,.nm 1)] rfl rfl ?_ ?_) (fun k=>?_)
  ·first|exact eN|refine eM ?_
  ·first|exact eN|refine eM ?_
  ·obtain⟨k,hk,c⟩:=k;repeat'(first|exact trivial|refine eS rfl ?_|refine AB ?_|refine rX a ?_ ?_|refine rC ?_ ?_<;>intro b<;>try(cases b;done))
   ·exact eV
   ·have h1:HI l=false:=by
     have hk:k<l.length:=by exact eV
     have h:=AD l (0,[]) hk;unfold HI;rw[AAz];right;rw[AAN];exact⟨_,h,by simp only[By];exact eV⟩
    exact fI a [.tmp 2] (by rw[h1];exact eR)
   ·exact eV
   ·have hk:k<l.length:=by exact eV
    refine⟨⟨k+1,by exact eV,?_⟩,by simp only;exact eV,AC [(1,.nm 1)] rfl rfl ?_ ?_⟩
    ·have h1:=Ab l (0,[]) hk;have d:((l.take (k+1)).all fun n=>decide (n.2.length≤12))=_:=AAX (fun x=>List.all x fun n=>decide (n.2.length≤12)) h1;rw[d,ABy,c];simp only[AB0,List.all_nil,Bool.and_true,ABP,By];exact eV
    ·first|exact eN|refine eM ?_
    ·first|exact eN|refine eM ?_
   ·have h1:HI l=true:=by
     have hk:l.take k=l:=As (by exact eV);rw[hk]at c;unfold HI;rw[c,ABc (by exact eV)];rfl
    exact fI a [.tmp 2] (by rw[h1];exact eR)
def gG:Ac:={ ins:=[T3],pre:=fun _=>True,out:=fun(t,_)=>[.p FZ [(t,[])]] }
theorem A2q:Ah Tryz.prog 35 gG:=by
 refine fK [0,2] Tryz.func35 Tryz.ntmps35 AG ?_;rintro w0 O0 ⟨t,u⟩ a - -;simp only[gG,AM];repeat'(first|exact trivial|refine eS rfl ?_|refine AB ?_|refine rX a ?_ ?_|refine rC ?_ ?_<;>intro b<;>try(cases b;done))
 exact fI a [.cell 2 25]
section
attribute [local go_sem] Un YH Ko
def ftB (a:Int×Int):Bool:=decide (a.1<64)
def ndB (x:AF):Bool:=decide (x.1<256)&&x.2.all ftB
def Dt (f:List AF):Bool:=HI f&&f.all ndB&&((Ax f).2==0&&(Cp (Ax f).1 f==0))
theorem ML {f:List AF} (h:HI f=true):f.length≤12∧∀x∈f,x.2.length≤12:=by
 unfold HI at h;simp only[An,By,Do]at h;exact h
theorem Uo {f:List AF} (hf:A2 f) {n:Int} (h0:0≤n) (h1:n<f.length):CW (ET f n):=by
 obtain⟨⟨b,c⟩,_⟩:=nM hf h0 h1;have d:=hf.1;refine⟨?_,fun x a=>?_⟩
 ·unfold ET;rw[nO];omega
 ·obtain⟨m,_,rfl⟩:=If.1 a;unfold LM;simp only[nO,Ci];exact L1 hf m
theorem Rv {f:List AF} (hs:Tv f):CW (Ax f).1:=by
 unfold Ax;split
 ·rename_i h;obtain⟨h1,b⟩:=IL h hs;exact Uo h1 (by omega) (by omega)
 ·exact⟨by simp,fun x a=>by cases a⟩
end
section
attribute [local go_sem] YH Ko
def lO (h:AJ) (a:Int×Int):Bool:=decide (a.1<(h.2.length:Int))
def Rw (h:AJ) (x:AF):Bool:=decide (x.1<(h.1.length:Int))&&x.2.all (lO h)
def CK (h:AJ) (f:List AF):Int:=if (Ax f).2≠0 then (Ax f).2 else if f.all (Rw h)=false then 2 else if (Cp f (Ax f).1==0)=false then 3 else 0
def Pp:Ac:={ ins:=[Lb,FZ],pre:=fun(_,f,_)=>CW f,out:=fun(h,f,_)=>[.p Th (CK h f)] }
theorem sX:Ah Tryz.prog 40 Pp:=by
 refine fK [0,1,2,3,4,5,6,7,8,9,16,22,35,40,52,56] Tryz.func40 Tryz.ntmps40 (AE y8 (AE O8 AG)) ?_;rintro w0 O0 ⟨⟨b,hf⟩,f,u⟩ d-hs;have hs:CW f:=hs;simp only[Pp,AM];repeat'(first|exact trivial|refine eS rfl ?_|refine AB ?_|refine rX d ?_ ?_|refine rC ?_ ?_<;>intro a<;>try(cases a;done))
 ·exact hs.2
 ·have h1:CK (b,hf) f=(Ax f).2:=by unfold CK;rw[BY a]
  exact fI d [.tmp 4] (by rw[h1];exact eR)
 ·have s:(Ax f).2=0:=by simpa using a
  have o:=Rv hs.2;have v:=hs.1;have hr:CK (b,hf) f=if f.all (Rw (b,hf))=false then 2 else if (Cp f (Ax f).1==0)=false then 3 else 0:=by unfold CK;rw[At (by rw[s];simp)]
  refine AI (ι:={i:Nat//i≤f.length∧(f.take i).all (Rw (b,hf))=true}) (fun i=>⟨[(2,.bp 2 [] 0),(3,.bp 3 [] 0),(5,.bp 5 [] 0),(7,.p (.int .i64) (i.1:Int))],[(2,.box 31 true [.p M6 b,.p Nq hf]),(3,.box 25 true [.p Et f]),(5,.box 25 true [.p Et (Ax f).1])]⟩) (fun i=>f.length-i.1) ⟨0,by simp⟩ (AC [(2,.nm 2),(3,.nm 3),(5,.nm 5)] rfl rfl ?_ ?_) (fun i=>?_)
  ·first|exact eN|refine eM ?_
  ·first|exact eN|refine eM ?_
  ·obtain⟨i,hi,j⟩:=i;have q:=fun h:i<f.length=>GS f (0,[]) (Rw (b,hf)) h;simp only;repeat'(first|exact trivial|refine eS rfl ?_|refine AB ?_|refine rX d ?_ ?_|refine rC ?_ ?_<;>intro a<;>try(cases a;done))
   ·exact a
   ·have c:i<f.length:=IS.1 (by assumption);have e:f.all (Rw (b,hf))=false:=by
     rw[AAN];refine⟨_,AD f (0,[]) c,?_⟩;unfold Rw;rw[ABC (AAO.2 a)];simp
    rw[BY e]at hr;exact fI d [.tmp 4] (by rw[hr];exact eR)
   ·have c:i<f.length:=IS.1 (by assumption);have m:=AD f (0,[]) c;have n:Rw (b,hf) (f.getD i (0,[]))=(f.getD i (0,[])).2.all (lO (b,hf)):=by
     unfold Rw;rw[ABc (show (f.getD i (0,[])).1<(b.length:Int) from a)];rfl
    have t:(f.getD i (0,[])).2.length≤100000:=hs.2 _ m;refine AI (ι:={k:Nat//k≤(f.getD i (0,[])).2.length∧((f.getD i (0,[])).2.take k).all (lO (b,hf))=true}) (fun k=>⟨[(2,.bp 2 [] 0),(3,.bp 3 [] 0),(5,.bp 5 [] 0),(7,.p (.int .i64) (i:Int)),(8,.bp 8 [] 0),(9,.p (.int .i64) (k.1:Int))],[(2,.box 31 true [.p M6 b,.p Nq hf]),(3,.box 25 true [.p Et f]),(5,.box 25 true [.p Et (Ax f).1]),(8,.box 49 true [.p T3 (f.getD i (0,[])).1,.p Ii (f.getD i (0,[])).2])]⟩) (fun k=>(f.getD i (0,[])).2.length-k.1) ⟨0,by simp⟩ (AC [(2,.nm 2),(3,.nm 3),(5,.nm 5),(8,.nm 8)] rfl rfl ?_ ?_) (fun k=>?_)
    ·first|exact eN|refine eM ?_
    ·first|exact eN|refine eM ?_
    ·obtain⟨k,hk,l⟩:=k;have r:=fun h:k<(f.getD i (0,[])).2.length=>GS (f.getD i (0,[])).2 (0,0) (lO (b,hf)) h;simp only;repeat'(first|exact trivial|refine eS rfl ?_|refine AB ?_|refine rX d ?_ ?_|refine rC ?_ ?_<;>intro a<;>try(cases a;done))
     ·exact a
     ·have g:k<(f.getD i (0,[])).2.length:=IS.1 (by assumption);have e:f.all (Rw (b,hf))=false:=by
       rw[AAN];refine⟨_,m,?_⟩;rw[n,AAN.2 ⟨_,AD (f.getD i (0,[])).2 (0,0) g,by unfold lO;rw[ABC (AAO.2 a)];simp⟩];simp
      rw[BY e]at hr;exact fI d [.tmp 4] (by rw[hr];exact eR)
     ·exact eV
     ·have g:k<(f.getD i (0,[])).2.length:=IS.1 (by assumption);refine⟨⟨k+1,g,?_⟩,by simp only;omega,AC [(2,.nm 2),(3,.nm 3),(5,.nm 5),(8,.nm 8)] rfl rfl ?_ ?_⟩
      ·rw[r g,l];unfold lO;exact ABc a
      ·first|exact eN|refine eM ?_
      ·first|exact eN|refine eM ?_
     ·exact eV
     ·have g:(f.getD i (0,[])).2.take k=(f.getD i (0,[])).2:=As (oF.1 a);rw[g]at l;refine⟨⟨i+1,c,?_⟩,by simp only;omega,AC [(2,.nm 2),(3,.nm 3),(5,.nm 5)] rfl rfl ?_ ?_⟩
      ·rw[q c,j,n,l];rfl
      ·first|exact eN|refine eM ?_
      ·first|exact eN|refine eM ?_
   ·exact⟨hs,o⟩
   ·have c:f.take i=f:=As (oF.1 (by assumption));rw[c]at j;rw[At (by rw[j];simp),BY (by simpa using a)]at hr;exact fI d [.tmp 4] (by rw[hr];exact eR)
   ·have c:f.take i=f:=As (oF.1 (by assumption));rw[c]at j;rw[At (by rw[j];simp),At (by rw[a];simp)]at hr;exact fI d [.tmp 4] (by rw[hr];exact eR)
def Jd (h:AJ) (f:List AF):Bool:=HI f&&CK h f==0
end
section
attribute [local go_sem] MD Pi Un Pp
def AY (d:List AH):AJ:=if d.length≤12∧(Ap d).2=0 then (Ap d).1 else (Ap Ib).1
def Uq (h:AJ) (l:List (List AF)):Bool:=l.all (Jd h)
end
def A0h (a:Int→Int×Int→Bool) (f:List AF) (i:Nat):AF:=((f.getD i (0,[])).1,(f.getD i (0,[])).2.filter (a (i:Int)))
def GC (a:Int→Int×Int→Bool) (f:List AF) (i:Nat):List AF:=(List.range i).map (A0h a f)
def Rx (a:Int→Int×Int→Bool) (f:List AF):List AF:=AU (GC a f f.length) 0
theorem KB (a:Int→Int×Int→Bool) (f:List AF) (i:Nat):(GC a f i).length=i:=by simp[GC]
theorem Gy (l:List (Int×Int)):jT l↔l.Pairwise (fun a b=>a.1<b.1):=by
 constructor
 ·intro h;rw[oR];have key:∀d i,i+d+1<l.length→(l.getD i (0,0)).1<(l.getD (i+d+1) (0,0)).1:=by
   intro d;induction d with
   | zero=>intro i hi;exact h i hi
   | succ d e =>
    intro i hi;have h1:=e i (by omega);have f:=h (i+d+1) (by omega);have:i+(d+1)+1=i+d+1+1:=by omega
    rw[this];omega
  intro i j hi c g;have h1:=key (j-i-1) i (by omega);rw[show i+(j-i-1)+1=j by omega]at h1;simpa[AS,hi,c] using h1
 ·intro h i hi;rw[oR]at h;have:=h i (i+1) (by omega) hi (by omega);simpa[AS,hi,show i<l.length by omega] using this
theorem gH {l:List (Int×Int)} (h:jT l) (p:Int×Int→Bool):jT (l.filter p):=by
 rw[Gy]at h ⊢;exact h.sublist List.filter_sublist
theorem XQ {f:List AF} (hf:A2 f) (hs:M7 f) (d:Int→Int×Int→Bool):A2 (GC d f f.length)∧M7 (GC d f f.length):=by
 have e:∀i,i<f.length→f.getD i (0,[])∈f:=fun i hi=>AD f (0,[]) hi;refine⟨⟨by rw[KB];exact hf.1,fun x c=>?_⟩,fun x c=>?_⟩
 ·obtain⟨i,hi,rfl⟩:=If.1 c;have hi:i<f.length:=iS.1 hi;obtain⟨h1,b⟩:=hf.2 _ (e i hi);rw[KB];exact⟨To (AAv _ _) h1,fun a ha=>b a (AA4.1 ha).1⟩
 ·obtain⟨i,hi,rfl⟩:=If.1 c;have hi:i<f.length:=iS.1 hi;obtain⟨h1,b⟩:=hs _ (e i hi);exact⟨gH h1 _,To (AAv _ _) b⟩
theorem KC {x y:Int} {xs ys:List Int} (h:Kn (x :: xs) (y :: ys)=0):x=y∧Kn xs ys=0:=by
 simp only[Kn]at h;split at h
 ·cases h
 ·split at h
  ·cases h
  ·exact⟨by omega,h⟩
theorem Ur:∀ {l m:List (Int×Int)} {r s:List Int},l.length=m.length→Kn (l.flatMap (fun a=>[a.1,a.2])++r) (m.flatMap (fun a=>[a.1,a.2])++s)=0→l=m∧Kn r s=0
 | [],[],_,_,_,h=>⟨rfl,by simpa using h⟩
 | [],_ :: _,_,_,b,_=>by simp at b
 | _ :: _,[],_,_,b,_=>by simp at b
 | (c,d) :: l,(b1,b2) :: m,r,s,b,h=>by
  have h:Kn (c :: d :: (l.flatMap (fun a=>[a.1,a.2])++r)) (b1 :: b2 :: (m.flatMap (fun a=>[a.1,a.2])++s))=0:=by simpa using h
  obtain⟨e,i⟩:=KC h;obtain⟨f,j⟩:=KC i;obtain⟨g,k⟩:=Ur (l:=l) (m:=m) (by simpa using b) j;exact⟨by rw[e,f,g],k⟩
theorem Us:∀ {l m:List AF} {r s:List Int},l.length=m.length→Kn (l.flatMap Tp++r) (m.flatMap Tp++s)=0→l=m∧Kn r s=0
 | [],[],_,_,_,h=>⟨rfl,by simpa using h⟩
 | [],_ :: _,_,_,b,_=>by simp at b
 | _ :: _,[],_,_,b,_=>by simp at b
 | (d,c) :: l,(b1,b2) :: m,r,s,b,h=>by
  have h:Kn (d :: (c.length:Int) :: (c.flatMap (fun a=>[a.1,a.2])++(l.flatMap Tp++r))) (b1 :: (b2.length:Int) :: (b2.flatMap (fun a=>[a.1,a.2])++(m.flatMap Tp++s)))=0:=by simpa[Tp] using h
  obtain⟨e,i⟩:=KC h;obtain⟨o,j⟩:=KC i;obtain⟨f,k⟩:=Ur (l:=c) (m:=b2) (by omega) j;obtain⟨g,n⟩:=Us (l:=l) (m:=m) (by simpa using b) k;exact⟨by rw[e,f,g],n⟩
theorem JC {a b:List AF} (h:Cp a b=0):a=b:=by
 unfold Cp Bu at h;obtain⟨h1,c⟩:=KC h;have:=Us (l:=a) (m:=b) (r:=[]) (s:=[]) (by omega) (by simpa using c);exact this.1
theorem XR:∀l:List Int,Kn l l=0
 | []=>rfl
 | x :: l=>by simp[Kn,XR l]
theorem EH (a:List AF):Cp a a=0:=XR _
theorem Ut (x:Int×Int) (s:List (Int×Int)):∀n,(∀j,IE x s n≤j→j<n→x.1<(s.getD j (0,0)).1)∧(0<IE x s n→(s.getD (IE x s n-1) (0,0)).1≤x.1)
 | 0=>⟨fun j h1 b=>by omega,fun h=>by simp[IE]at h⟩
 | n+1=>by
  obtain⟨h1,b⟩:=Ut x s n;unfold IE;split
  ·rename_i c;refine⟨fun j a d=>?_,b⟩;by_cases e:j=n
   ·subst e;exact c
   ·exact h1 j a (by omega)
  ·rename_i c;exact⟨fun j a d=>by omega,fun _=>by simp only[Nat.add_sub_cancel];omega⟩
theorem A3I {l:List (Int×Int)} (h:l.Pairwise (fun a b=>a.1≤b.1)) {i j:Nat} (d:i≤j) (c:j<l.length):(l.getD i (0,0)).1≤(l.getD j (0,0)).1:=by
 rcases Nat.eq_or_lt_of_le d with rfl|e
 ·exact ACd _
 ·rw[oR]at h;have:=h i j (by omega) c e;simpa[AS,c,show i<l.length by omega] using this
theorem gI {s:List (Int×Int)} (h:s.Pairwise (fun a b=>a.1≤b.1)) (x:Int×Int):(Nr s x).Pairwise (fun a b=>a.1≤b.1):=by
 obtain⟨h1,g⟩:=Ut x s s.length;have hp:=Sa x s s.length;unfold Nr;generalize IE x s s.length=p at *;rw[AB1,AB1];have f:∀a∈s.take p,a.1≤x.1:=fun a ha=>by
  obtain⟨i,hi,rfl⟩:=AAf.1 ha;rw[SH]at hi;have k:=A3I h (i:=i) (j:=p-1) (by omega) (by omega);have l:=g (by omega);have e:(s.take p)[i].1=(s.getD i (0,0)).1:=by simp[AS,show i<s.length by omega]
  rw[e];omega
 have d:∀b∈s.drop p,x.1≤b.1:=fun b c=>by
  obtain⟨i,hi,rfl⟩:=AAf.1 c;rw[AAV]at hi;have k:=h1 (p+i) (by omega) (by omega);have e:(s.drop p)[i].1=(s.getD (p+i) (0,0)).1:=by simp[AS,show p+i<s.length by omega]
  rw[e];omega
 refine⟨⟨h.sublist (List.take_sublist _ _),by simp,fun a ha b c=>?_⟩,h.sublist (List.drop_sublist _ _),fun a ha b c=>?_⟩
 ·have:b=x:=by simpa using c
  rw[this];exact f a ha
 ·rcases ON.1 ha with ha|ha
  ·exact AB5 (f a ha) (d b c)
  ·have:a=x:=by simpa using ha
   rw[this];exact d b c
theorem LV (l:List (Int×Int)):(AR l).Pairwise (fun a b=>a.1≤b.1):=by
 induction l using Ge with
 | h0=>exact List.Pairwise.nil
 | h1 l a c=>rw[Hd];exact gI c a
theorem Ry {n:Int}:∀ {l seen:List (Int×Int)},Fu n seen l=0→(l.map (·.1)).Nodup∧∀a∈l,∀b∈seen,b.1≠a.1
 | [],_,_=>⟨by simp,fun a ha=>by cases ha⟩
 | x :: l,seen,h=>by
  simp only[Fu]at h;split at h
  ·cases h
  ·split at h
   ·cases h
   ·rename_i h1 d;obtain⟨g,f⟩:=Ry h;have d:∀b∈seen,b.1≠x.1:=fun b c e=>d (Of.2 ⟨b,c,by simp[e]⟩);refine⟨?_,fun a ha b c=>?_⟩
    ·rw[tO,AA5];refine⟨fun i=>?_,g⟩;obtain⟨a,ha,e⟩:=If.1 i;exact f a ha x (by simp) e.symm
    ·rcases GO.1 ha with rfl|ha
     ·exact d b c
     ·exact f a ha b (by simp[c])
theorem Uu {m:Int}:∀ {f:List AF},Fv m f=0→∀x∈f,F7 x.2 m=0
 | [],_,x,a=>by cases a
 | y :: f,h,x,a=>by
  simp only[Fv]at h;split at h
  ·cases h
  ·split at h
   ·rename_i h1 b;exact absurd h b
   ·rename_i h1 b;rcases GO.1 a with rfl|a
    ·exact DO b
    ·exact Uu h x a
theorem sY {l:List (Int×Int)} (h:l.Pairwise (fun a b=>a.1≤b.1)) (hn:(l.map (·.1)).Nodup):l.Pairwise (fun a b=>a.1<b.1):=by
 rw[List.Nodup,AAr]at hn;refine(h.and hn).imp fun {a b} c=>?_;have h1:=c.1;have d:¬a.1=b.1:=c.2;omega
theorem MM {f:List AF} (h:Dt f=true):A2 f∧M7 f∧0<f.length∧HI f=true:=by
 unfold Dt at h;simp only[An,AA1]at h;obtain⟨⟨e,_⟩,c,d⟩:=h;obtain⟨t,g⟩:=ML e;have r:Tv f:=fun x b=>To (g x b) (by omega);have a:Bv f=0:=by
  unfold Ax at c;split at c
  ·assumption
  ·exact c
 obtain⟨o,h0⟩:=IL a r;have k:(Ax f).1=ET f 0:=by unfold Ax;rw[BY a]
 rw[k]at d;have l:=JC d;refine⟨o,fun x b=>⟨?_,To (g x b) (by omega)⟩,h0,e⟩;rw[←l]at b;obtain⟨n,_,rfl⟩:=If.1 b;rw[Gy];have j:((f.getD n.toNat (0,[])).2.map (·.1)).Nodup:=by
  by_cases p:n.toNat<f.length
  ·have q:f.getD n.toNat (0,[])∈f:=AD f (0,[]) p;have m:Fv f.length f=0:=by
    unfold Bv at a;split at a
    ·cases a
    ·split at a
     ·cases a
     ·exact a
   exact(Ry (Uu m _ q)).1
  ·rw[AS,gO (by omega)];simp
 have s:=sY (LV (f.getD n.toNat (0,[])).2) (((BN _).map (·.1)).nodup_iff.2 j);unfold LM;simp only;rw[AAr];exact s.imp fun i=>i
section
attribute [local go_sem] PJ Se MG XH
theorem A3J (a b:List AF):(Cp a b==0)=(Rj a b==0):=by
 rw[AB7,AA1,AA1,kB];exact⟨JC,fun e=>by rw[e];exact EH b⟩
def Sm:Ac:={ ins:=[Lb,FZ],pre:=fun(_,f,_)=>CW f∧NQ f,out:=fun(h,f,_)=>[.p Th (CK h f)] }
attribute [local go_sem] Sm
theorem sZ:Ah Tryz.prog 38 Sm:=by
 refine fK [0,1,2,3,4,5,6,8,10,17,20,21,22,23,31,33,34,35,36,44,50] Tryz.func38 Tryz.ntmps38 (AE Wo (AE rR AG)) ?_;rintro w0 O0 ⟨⟨b,hf⟩,f,u⟩ d-⟨hs,m⟩;have hs:CW f:=hs;have m:NQ f:=m;simp only[Sm,AM];repeat'(first|exact trivial|refine eS rfl ?_|refine AB ?_|refine rX d ?_ ?_|refine rC ?_ ?_<;>intro a<;>try(cases a;done))
 ·exact m
 ·have h1:CK (b,hf) f=(Ax f).2:=by unfold CK;rw[BY a]
  exact fI d [.tmp 4] (by rw[h1];exact eR)
 ·have s:(Ax f).2=0:=by simpa using a
  have w:=Rv hs.2;have v:=hs.1;have hr:CK (b,hf) f=if f.all (Rw (b,hf))=false then 2 else if (Rj f (Ax f).1==0)=false then 3 else 0:=by unfold CK;rw[At (by rw[s];simp),A3J f (Ax f).1]
  refine AI (ι:={i:Nat//i≤f.length∧(f.take i).all (Rw (b,hf))=true}) (fun i=>⟨[(2,.bp 2 [] 0),(3,.bp 3 [] 0),(5,.bp 5 [] 0),(20,.p Et f),(21,.p (.int .i64) (f.length:Int)),(22,.p (.int .i64) (i.1:Int))],[(2,.box 31 true [.p M6 b,.p Nq hf]),(3,.box 25 true [.p Et f]),(5,.box 25 true [.p Et (Ax f).1])]⟩) (fun i=>f.length-i.1) ⟨0,by simp⟩ (AC [(2,.nm 2),(3,.nm 3),(5,.nm 5)] rfl rfl ?_ ?_) (fun i=>?_)
  ·first|exact eN|refine eM ?_
  ·first|exact eN|refine eM ?_
  ·obtain⟨i,hi,j⟩:=i;have q:=fun h:i<f.length=>GS f (0,[]) (Rw (b,hf)) h;simp only;repeat'(first|exact trivial|refine eS rfl ?_|refine AB ?_|refine rX d ?_ ?_|refine rC ?_ ?_<;>intro a<;>try(cases a;done))
   ·exact a
   ·have c:i<f.length:=IS.1 (by assumption);have e:f.all (Rw (b,hf))=false:=by
     rw[AAN];refine⟨_,AD f (0,[]) c,?_⟩;unfold Rw;rw[ABC (AAO.2 a)];simp
    rw[BY e]at hr;exact fI d [.tmp 4] (by rw[hr];exact eR)
   ·have c:i<f.length:=IS.1 (by assumption);have n:=AD f (0,[]) c;have o:Rw (b,hf) (f.getD i (0,[]))=(f.getD i (0,[])).2.all (lO (b,hf)):=by
     unfold Rw;rw[ABc (show (f.getD i (0,[])).1<(b.length:Int) from a)];rfl
    have t:(f.getD i (0,[])).2.length≤100000:=hs.2 _ n;refine AI (ι:={k:Nat//k≤(f.getD i (0,[])).2.length∧((f.getD i (0,[])).2.take k).all (lO (b,hf))=true}) (fun k=>⟨[(2,.bp 2 [] 0),(3,.bp 3 [] 0),(5,.bp 5 [] 0),(20,.p Et f),(21,.p (.int .i64) (f.length:Int)),(22,.p (.int .i64) (i:Int)),(33,.p Ii (f.getD i (0,[])).2),(34,.p (.int .i64) ((f.getD i (0,[])).2.length:Int)),(35,.p (.int .i64) (k.1:Int))],[(2,.box 31 true [.p M6 b,.p Nq hf]),(3,.box 25 true [.p Et f]),(5,.box 25 true [.p Et (Ax f).1])]⟩) (fun k=>(f.getD i (0,[])).2.length-k.1) ⟨0,by simp⟩ (AC [(2,.nm 2),(3,.nm 3),(5,.nm 5)] rfl rfl ?_ ?_) (fun k=>?_)
    ·first|exact eN|refine eM ?_
    ·first|exact eN|refine eM ?_
    ·obtain⟨k,hk,l⟩:=k;have r:=fun h:k<(f.getD i (0,[])).2.length=>GS (f.getD i (0,[])).2 (0,0) (lO (b,hf)) h;simp only;repeat'(first|exact trivial|refine eS rfl ?_|refine AB ?_|refine rX d ?_ ?_|refine rC ?_ ?_<;>intro a<;>try(cases a;done))
     ·exact a
     ·have g:k<(f.getD i (0,[])).2.length:=IS.1 (by assumption);have e:f.all (Rw (b,hf))=false:=by
       rw[AAN];refine⟨_,n,?_⟩;rw[o,AAN.2 ⟨_,AD (f.getD i (0,[])).2 (0,0) g,by unfold lO;rw[ABC (AAO.2 a)];simp⟩];simp
      rw[BY e]at hr;exact fI d [.tmp 4] (by rw[hr];exact eR)
     ·exact eV
     ·have g:k<(f.getD i (0,[])).2.length:=IS.1 (by assumption);refine⟨⟨k+1,g,?_⟩,by simp only;omega,AC [(2,.nm 2),(3,.nm 3),(5,.nm 5)] rfl rfl ?_ ?_⟩
      ·rw[r g,l];unfold lO;exact ABc a
      ·first|exact eN|refine eM ?_
      ·first|exact eN|refine eM ?_
     ·exact eV
     ·have g:(f.getD i (0,[])).2.take k=(f.getD i (0,[])).2:=As (oF.1 a);rw[g]at l;refine⟨⟨i+1,c,?_⟩,by simp only;omega,AC [(2,.nm 2),(3,.nm 3),(5,.nm 5)] rfl rfl ?_ ?_⟩
      ·rw[q c,j,o,l];rfl
      ·first|exact eN|refine eM ?_
      ·first|exact eN|refine eM ?_
   ·exact hs
   ·have c:f.take i=f:=As (oF.1 (by assumption));rw[c]at j;rw[At (by rw[j];simp),BY (by simpa using a)]at hr;exact fI d [.tmp 4] (by rw[hr];exact eR)
   ·have c:f.take i=f:=As (oF.1 (by assumption));rw[c]at j;rw[At (by rw[j];simp),At (by rw[a];simp)]at hr;exact fI d [.tmp 4] (by rw[hr];exact eR)
end
section
attribute [local go_sem] Sm MG XH
def GY (h:AJ) (f:List AF) (t:Int):List (Int×Int)→Int
 | []=>0
 | a :: l=>if (Aw h t a.1).2=false then 10 else if A8 h (Aw h t a.1).1 (f.getD a.2.toNat (0,[])).1=false then 11 else GY h f t l
def E8 (h:AJ) (f:List AF):List AF→Int
 | []=>0
 | x :: l=>if GY h f x.1 x.2=0 then E8 h f l else GY h f x.1 x.2
def F1 (h:AJ) (f:List AF):Int:=if CK h f=0 then E8 h f f else CK h f
structure Chk (h:AJ) (f:List AF):Prop where
 ty:∀x∈f,0≤x.1∧x.1<(h.1.length:Int)
 arc:∀x∈f,∀a∈x.2,Ew h f.length a
theorem A3K {h:AJ} {f:List AF} (e:CK h f=0):Chk h f:=by
 have h1:(Ax f).2=0:=by
  refine DO fun hn=>?_;unfold CK at e;rw[BY hn]at e;exact hn e
 have c:Bv f=0:=by
  refine DO fun hn=>?_;unfold Ax at h1;rw[At hn]at h1;exact hn h1
 have d:f.all (Rw h)=true:=by
  cases k:f.all (Rw h) with
  | true=>rfl
  | false =>
   unfold CK at e;rw[At (by rw[h1];simp),BY k]at e;cases e
 have j:Fv f.length f=0:=by
  unfold Bv at c;split at c
  ·cases c
  ·split at c
   ·cases c
   ·exact c
 have g:=IK j;rw[Do]at d;have i:∀x∈f,x.1<(h.1.length:Int)∧∀a∈x.2,a.1<(h.2.length:Int):=fun x b=>by
  have:=d x b;unfold Rw at this;rw[An,By,Do]at this;exact⟨this.1,fun a ha=>by have:=this.2 a ha;unfold lO at this;simpa using this⟩
 exact⟨fun x b=>⟨(g x b).1,(i x b).1⟩,fun x b a ha=>by
  obtain⟨l,m,n⟩:=(g x b).2 a ha;exact⟨⟨l,(i x b).2 a ha⟩,m,n⟩⟩
theorem Vr (h:AJ) (f l:List AF) {k:Nat} (hk:k<l.length):E8 h f (l.drop k)=if GY h f (l.getD k (0,[])).1 (l.getD k (0,[])).2=0 then E8 h f (l.drop (k+1)) else GY h f (l.getD k (0,[])).1 (l.getD k (0,[])).2:=by
 rw[LQ (0,[]) hk];rfl
theorem gJ (h:AJ) (f:List AF) (t:Int) (l:List (Int×Int)) {k:Nat} (hk:k<l.length):GY h f t (l.drop k)=if (Aw h t (l.getD k (0,0)).1).2=false then 10 else if A8 h (Aw h t (l.getD k (0,0)).1).1 (f.getD (l.getD k (0,0)).2.toNat (0,[])).1=false then 11 else GY h f t (l.drop (k+1)):=by
 rw[LQ (0,0) hk];rfl
def Pq:Ac:={ ins:=[Lb,FZ],pre:=fun(h,f,_)=>Sk h∧CW f∧NQ f,out:=fun(h,f,_)=>[.p Th (F1 h f)] }
attribute [local go_sem] Pq
theorem XS:Ah Tryz.prog 15 Pq:=by
 refine fK [0,1,2,3,4,5,7,9,10,11,16,19,20,21,22,26,27,28,29,42,53] Tryz.func15 Tryz.ntmps15 (AE sZ (AE Yj (AE n8 AG))) ?_;rintro w0 O0 ⟨⟨a,hf⟩,f,u⟩ e-⟨n,hs,r⟩;have n:Sk (a,hf):=n;have hs:CW f:=hs;have r:NQ f:=r;have J:=hs.1;simp only[Pq,AM];repeat'(first|exact trivial|refine eS rfl ?_|refine AB ?_|refine rX e ?_ ?_|refine rC ?_ ?_<;>intro b<;>try(cases b;done))
 ·exact⟨hs,r⟩
 ·have hr:F1 (a,hf) f=CK (a,hf) f:=At b;exact fI e [.tmp 4] (by rw[hr];exact eR)
 ·have B:CK (a,hf) f=0:=by simpa using b
  have hr:F1 (a,hf) f=E8 (a,hf) f f:=BY B;obtain⟨z,D⟩:=A3K B;refine AI (ι:={i:Nat//i≤f.length∧E8 (a,hf) f f=E8 (a,hf) f (f.drop i)}) (fun i=>⟨[(2,.bp 2 [] 0),(3,.bp 3 [] 0),(19,.p Et f),(20,.p (.int .i64) (f.length:Int)),(21,.p (.int .i64) (i.1:Int))],[(2,.box 31 true [.p M6 a,.p Nq hf]),(3,.box 25 true [.p Et f])]⟩) (fun i=>f.length-i.1) ⟨0,IN _,rfl⟩ (AC [(2,.nm 2),(3,.nm 3)] rfl rfl ?_ ?_) (fun i=>?_)
  ·first|exact eN|refine eM ?_
  ·first|exact eN|refine eM ?_
  ·obtain⟨i,hi,g⟩:=i;have H:=fun h:i<f.length=>Vr (a,hf) f f h;have G:=fun h:i<f.length=>AD f (0,[]) h;simp only;repeat'(first|exact trivial|refine eS rfl ?_|refine AB ?_|refine rX e ?_ ?_|refine rC ?_ ?_<;>intro b<;>try(cases b;done))
   ·exact b
   ·have o:i<f.length:=IS.1 b;have l:=H o;have q:=G o;obtain⟨w,y⟩:=z _ q;have A:=D _ q;have E:=hs.2 _ q;generalize K:f.getD i (0,[])=x at *;obtain⟨t,L⟩:=x;simp only at l w y A E ⊢;refine AI (ι:={k:Nat//k≤L.length∧GY (a,hf) f t L=GY (a,hf) f t (L.drop k)}) (fun k=>⟨[(2,.bp 2 [] 0),(3,.bp 3 [] 0),(7,.bp 7 [] 0),(19,.p Et f),(20,.p (.int .i64) (f.length:Int)),(21,.p (.int .i64) (i:Int)),(26,.p Ii L),(27,.p (.int .i64) (L.length:Int)),(28,.p (.int .i64) (k.1:Int))],[(7,.box 49 true [.p T3 t,.p Ii L]),(2,.box 31 true [.p M6 a,.p Nq hf]),(3,.box 25 true [.p Et f])]⟩) (fun k=>L.length-k.1) ⟨0,IN _,rfl⟩ (AC [(7,.nm 7),(2,.nm 2),(3,.nm 3)] rfl rfl ?_ ?_) (fun k=>?_)
    ·first|exact eN|refine eM ?_
    ·first|exact eN|refine eM ?_
    ·obtain⟨k,hk,c⟩:=k;have s:=fun h:k<L.length=>gJ (a,hf) f t L h;have F:=fun h:k<L.length=>A _ (AD L (0,0) h);simp only;have I:=Ej (f:=(L.getD k (0,0)).1) n w y;repeat'(first|exact trivial|refine eS rfl ?_|refine AB ?_|refine rX e ?_ ?_|refine rC ?_ ?_<;>intro b<;>try(cases b;done))
     ·exact b
     ·exact⟨w,y⟩
     ·have d:k<L.length:=by exact eV
      rw[s d,BY b]at c;have j:F1 (a,hf) f=10:=by rw[hr,g,l,At (by rw[c];simp),c]
      exact fI e [.tmp 4] (by rw[j];exact eR)
     ·have d:k<L.length:=by exact eV
      obtain⟨-,C,b1⟩:=F d;exact⟨⟨C,b1⟩,I b,z _ (AD f (0,[]) (by omega))⟩
     ·have d:k<L.length:=by exact eV
      have v:(Aw (a,hf) t (List.getD L k (0,0)).1).2=true:=by assumption
      rw[s d,At (by rw[v];simp),BY b]at c;have j:F1 (a,hf) f=11:=by rw[hr,g,l,At (by rw[c];simp),c]
      exact fI e [.tmp 4] (by rw[j];exact eR)
     ·omega
     ·have d:k<L.length:=by exact eV
      have v:(Aw (a,hf) t (List.getD L k (0,0)).1).2=true:=by assumption
      rw[s d,At (by rw[v];simp),At (by rw[b];simp)]at c;refine⟨⟨k+1,d,c⟩,by simp only;omega,AC [(7,.nm 7),(2,.nm 2),(3,.nm 3)] rfl rfl ?_ ?_⟩
      ·first|exact eN|refine eM ?_
      ·first|exact eN|refine eM ?_
     ·omega
     ·have m:L.drop k=[]:=IF (oF.1 b);rw[m]at c;have c:GY (a,hf) f t L=0:=c;rw[l,BY c]at g;refine⟨⟨i+1,o,g⟩,by simp only;omega,AC [(2,.nm 2),(3,.nm 3)] rfl rfl ?_ ?_⟩
      ·first|exact eN|refine eM ?_
      ·first|exact eN|refine eM ?_
   ·have m:f.drop i=[]:=IF (oF.1 b);rw[m]at g;have j:F1 (a,hf) f=0:=by rw[hr,g];rfl
    exact fI e [.tmp 4] (by rw[j];exact eR)
theorem A0i:Ah Tryz.prog 41 MG:=by
 refine fK [0,1,2,3,6,7,8,9,19,28] Tryz.func41 Tryz.ntmps41 AG ?_;rintro w0 O0 ⟨⟨c,hf⟩,t,f,u⟩ d q ⟨j,m⟩;simp only[MG,AM];refine Ev.ent (σ':=⟨[(0,.p Lb (c,hf)),(1,.p T3 t),(2,.p T3 f)],[]⟩) ?_ (AC [] rfl rfl ?_ ?_)
 ·repeat'(first|exact trivial|refine eS rfl ?_|refine AB ?_|refine rX d ?_ ?_|refine rC ?_ ?_<;>intro b<;>try(cases b;done))
  ·exact⟨j,m⟩
  ·have o:∀l,l=(List.getD c (Int.toNat t) (ByteArray.empty,[],[],[])).2.2.2→Aw (c,hf) t f=Ct f l:=fun l e=>by rw[e];rfl
   have r:List.length (List.getD c (Int.toNat t) (ByteArray.empty,[],[],[])).2.2.2≤140737488355328:=(q.1.1.2 _ (AD (c:List Ic) QC ((AC3 j).2 m))).2.2.2.1;generalize (List.getD c (Int.toNat t) (ByteArray.empty,[],[],[])).2.2.2=l at *;rw[o l rfl];refine AI (ι:={k:Nat//k≤List.length l∧Ct f l=Ct f (l.drop k)}) (fun k=>⟨[(2,.p T3 f),(8,.p Wb l),(9,.p (.int .i64) (k.1:Int))],[]⟩) (fun k=>List.length l-k.1) ⟨0,IN _,rfl⟩ (AC [] rfl rfl ?_ ?_) (fun k=>?_)
   ·first|exact eN|refine eM ?_
   ·first|exact eN|refine eM ?_
   ·obtain⟨k,hk,a⟩:=k;have i:=fun h:k<List.length l=>Ue f l h;simp only;repeat'(first|exact trivial|refine eS rfl ?_|refine AB ?_|refine rX d ?_ ?_|refine rC ?_ ?_<;>intro b<;>try(cases b;done))
    ·exact b
    ·exact IS.2 (by exact eV)
    ·have g:k<List.length l:=by exact eV
     rw[i g,BY b]at a;exact fI d [.tmp 6,.tmp 7] (by rw[a];exact eR)
    ·omega
    ·have g:k<List.length l:=by exact eV
     rw[i g,At b]at a;refine⟨⟨k+1,g,a⟩,by simp only;omega,AC [] rfl rfl ?_ ?_⟩
     ·first|exact eN|refine eM ?_
     ·first|exact eN|refine eM ?_
    ·have n:List.drop k (l:List (Int×Int))=[]:=IF (by exact eV);rw[n]at a;have a:Ct f l=(0,false):=a;exact fI d [.tmp 6,.tmp 7] (by rw[a];exact eR)
 ·first|exact eN|refine eM ?_
 ·first|exact eN|refine eM ?_
end
section
attribute [local go_sem] Pp MG PK
end
section
attribute [local go_sem] MD Pi Un Pp
def K4:Ac:={ ins:=[E5],pre:=fun _=>True,out:=fun(d,_)=>[.p Lb (AY d)] }
attribute [local go_sem] K4
theorem Q2:Ah Tryz.prog 14 K4:=by
 refine fK [0,2,3,4,5,9,16] Tryz.func14 Tryz.ntmps14 (AE lC (AE lA AG)) ?_;rintro w0 O0 ⟨d,u⟩ a - -;simp only[K4,AM];repeat'(first|exact trivial|refine eS rfl ?_|refine AB ?_|refine rX a ?_ ?_|refine rC ?_ ?_<;>intro b<;>try(cases b;done))
 ·have h1:AY d=(Ap d).1:=by unfold AY;rw[BY ⟨by exact eV,b⟩]
  exact fI a [.cell 2 31] (by rw[h1];exact eR)
 ·have h1:AY d=(Ap Ib).1:=by unfold AY;rw[At (fun h=>b h.2)]
  exact fI a [.cell 2 31] (by rw[h1];exact eR)
 ·have h1:AY d=(Ap Ib).1:=by
   unfold AY;rw[At];intro h;have:=h.1;exact eV
  exact fI a [.cell 2 31] (by rw[h1];exact eR)
def Mv:Ac:={ ins:=[Lb,T58],pre:=fun _=>True,out:=fun(h,l,_)=>[.p .bool (Uq h l)],lend:=true }
attribute [local go_sem] Mv
theorem XT:Ah Tryz.prog 17 Mv:=by
 refine fK [0,1,2,4,6,7,8,9,10,21] Tryz.func17 Tryz.ntmps17 (AE A0g (AE sX AG)) ?_;rintro w0 O0 ⟨⟨c,hf⟩,l,u⟩ d ⟨-,⟨j,-⟩,-⟩ -;simp only[AO]at j;simp only[Mv,AM];repeat'(first|exact trivial|refine eS rfl ?_|refine AB ?_|refine rX d ?_ ?_|refine rC ?_ ?_<;>intro a<;>try(cases a;done))
 refine AI (ι:={k:Nat//k≤l.length∧(l.take k).all (Jd (c,hf))=true}) (fun k=>⟨[(2,.bp 2 [] 0),(7,.p T58 l),(8,.p (.int .i64) (l.length:Int)),(9,.p (.int .i64) (k.1:Int))],[(2,.box 31 true [.p M6 c,.p Nq hf])]⟩) (fun k=>l.length-k.1) ⟨0,by simp⟩ (AC [(2,.nm 2)] rfl rfl ?_ ?_) (fun k=>?_)
 ·first|exact eN|refine eM ?_
 ·first|exact eN|refine eM ?_
 ·obtain⟨k,hk,g⟩:=k;repeat'(first|exact trivial|refine eS rfl ?_|refine AB ?_|refine rX d ?_ ?_|refine rC ?_ ?_<;>intro a<;>try(cases a;done))
  ·exact a
  ·intro h;obtain⟨h1,b⟩:=ML (f:=l.getD k []) (by simpa using h);exact⟨To h1 (by decide),fun x m=>To (b x m) (by decide)⟩
  ·have e:k<l.length:=IS.1 (by assumption);have h1:Uq (c,hf) l=false:=by
    unfold Uq;rw[AAN];refine⟨_,AD l [] e,?_⟩;unfold Jd;rw[An,AA1];rintro⟨b,i⟩;rcases a with h|h
    ·rw[b]at h;cases h
    ·exact h i
   exact fI d [.tmp 4] (by rw[h1];exact eR)
  ·omega
  ·have e:k<l.length:=IS.1 (by assumption);refine⟨⟨k+1,e,?_⟩,by simp only;omega,AC [(2,.nm 2)] rfl rfl ?_ ?_⟩
   ·have h:Jd (c,hf) (l.getD k [])=true:=by
     have b:=a.2;unfold Jd;rw[a.1,ABP,AA1];simpa using b
    rw[Ab l [] e,ABy,g];simpa using h
   ·first|exact eN|refine eM ?_
   ·first|exact eN|refine eM ?_
  ·have hk:l.take k=l:=As (oF.1 a);rw[hk]at g;have h1:Uq (c,hf) l=true:=g;exact fI d [.tmp 4] (by rw[h1];exact eR)
def oM:Ac:={ ins:=[Et],pre:=fun _=>True,out:=fun(l,_)=>[.p FZ l] }
attribute [local go_sem] oM
theorem A2r:Ah Tryz.prog 33 oM:=by
 refine fK [0,2] Tryz.func33 Tryz.ntmps33 AG ?_;rintro w0 O0 ⟨t,u⟩ a - -;simp only[oM,AM];repeat'(first|exact trivial|refine eS rfl ?_|refine AB ?_|refine rX a ?_ ?_|refine rC ?_ ?_<;>intro b<;>try(cases b;done))
 exact fI a [.cell 2 25]
def GZ (l:List Int) (n:Nat):List (Int×Int):=(List.range n).map fun i=>(l.getD (2*i) 0,l.getD (2*i+1) 0)
theorem gK (l:List Int) (n:Nat):GZ l (n+1)=GZ l n++[(l.getD (2*n) 0,l.getD (2*n+1) 0)]:=by simp[GZ,AAc]
theorem lP (l:List Int) (n:Nat):(GZ l n).length=n:=by simp[GZ]
def Sn:Ac:={ ins:=[T3,I4],pre:=fun(_,l,_)=>List.length l≤1000,out:=fun(t,l,_)=>[.p LJ (t,GZ l (List.length l / 2))] }
attribute [local go_sem] Sn
theorem s0:Ah Tryz.prog 34 Sn:=by
 refine fK [0,1,4,5,6,13] Tryz.func34 Tryz.ntmps34 AG ?_;rintro w0 O0 ⟨t,l,u⟩ b-c;simp only[Sn,AM];repeat'(first|exact trivial|refine eS rfl ?_|refine AB ?_|refine rX b ?_ ?_|refine rC ?_ ?_<;>intro a<;>try(cases a;done))
 have c:l.length≤1000:=c;refine AI (ι:={k:Nat//k≤l.length / 2}) (fun k=>⟨[(1,.p I4 l),(4,.bp 4 [] 0),(5,.bp 5 [] 0),(6,.p (.int .i64) (2*(k.1:Int)))],[(4,.box 49 true [.p T3 (0:Int),.raw (.slice none 0 0)]),(5,.box 49 true [.p T3 t,.sr 29 BK 0 (GZ l k.1).length]),(29,.arr 53 BK (GZ l k.1))]⟩) (fun k=>l.length / 2-k.1) ⟨0,IN _⟩ (AC [(4,.nm 4),(5,.nm 5),(29,.nil)] rfl rfl ?_ ?_) (fun k=>?_)
 ·first|exact eN|refine eM ?_
  exact⟨rfl,rfl⟩
 ·first|exact eN|refine eM ?_
  rfl
 ·obtain⟨k,hk⟩:=k;have e:=lP l k;have f:=gK l k;simp only;repeat'(first|exact trivial|refine eS rfl ?_|refine AB ?_|refine rX b ?_ ?_|refine rC ?_ ?_<;>intro a<;>try(cases a;done))
  ·omega
  ·rw[e];simp only[AO];exact eV
  ·omega
  ·refine⟨⟨k+1,by omega⟩,by simp only;omega,AC [(4,.nm 4),(5,.nm 5),(29,.nm 29)] rfl rfl ?_ ?_⟩
   ·simp only[f];first|exact eN|refine eM ?_
    rw[show (2*(k:Int)).toNat=2*k by omega,show (2*(k:Int)+1).toNat=2*k+1 by omega]
   ·first|exact eN|refine eM ?_
    show (2*(k:Int)+2)=2*((k:Int)+1);omega
  ·have d:k=l.length / 2:=by omega
   subst d;exact fI b [.cell 4 49]
end
section
open Go
end
theorem getD_set_ne {α:Type} (l:List α) (d v:α) {i j:Nat} (h:i≠j):(l.set i v).getD j d=l.getD j d:=by
 simp only[AS];rw[List.getElem?_set_ne h]
theorem Vs {α:Type} (l:List α) (d v:α) {i:Nat} (h:i<l.length):(l.set i v).getD i d=v:=by
 simp only[AS];rw[ABQ h];rfl
section
open Go
end
section
open Go
end
section
open Go
end
section
attribute [local go_sem] Ko gG
end
abbrev Bz (f:List AF) (n:Int):List (Int×Int):=(f.getD n.toNat (0,[])).2
theorem NU {f:List AF} (h:Dt f=true):AU f 0=f:=by
 obtain⟨d,hs,h0,_⟩:=MM h;unfold Dt at h;simp only[An,AA1]at h;obtain⟨_,a,b⟩:=h;have c:(Ax f).1=ET f 0:=by
  unfold Ax at a ⊢;split at a
  ·rename_i hh;rw[BY hh]
  ·rename_i hh;exact absurd a hh
 rw[c]at b;rw[←Ef d hs (by omega) (by omega)];exact JC b
theorem Uv {b:Int→Int×Int→Bool} {f:List AF} (h:∀i,i<f.length→∀a∈(f.getD i (0,[])).2,b (i:Int) a=true):GC b f f.length=f:=by
 apply AA8
 ·exact KB _ _ _
 ·intro i h1 c;have e:f.getD i (0,[])=f[i]:=by simp[AS,c]
  have:=h i c;simp only[GC,ABk,ABo,A0h];rw[List.filter_eq_self.2 this,e]
theorem lQ {b:Int→Int×Int→Bool} {f:List AF} (c:Dt f=true) (h:∀i,i<f.length→∀a∈(f.getD i (0,[])).2,b (i:Int) a=true):Rx b f=f:=by
 unfold Rx;rw[Uv h];exact NU c
theorem gL {f:List AF} (hf:A2 f):∀(k:Nat) (o:List Int) (n:Int),Mi f o→0≤n→n<f.length→n∉o→f.length-o.length≤k→Ep f (k+1) o n=Ep f k o n
 | 0,o,n,h,h0,h1,d,hk=>by
  have:=(h.snoc h0 h1 d).len;simp only[OR,iF]at this;omega
 | k+1,o,n,h,h0,h1,d,hk=>by
  rw[DJ,DJ];have key:∀(l:List (Int×Int)) (t:List Int),(∀a∈l,0≤a.2∧a.2<(f.length:Int))→Mi f t→f.length-t.length≤k→l.foldl (BE f (k+1)) t=l.foldl (BE f k) t:=by
   intro l;induction l with
   | nil=>intros;rfl
   | cons a l p =>
    intro t i e m;have c:=i a (by simp);have hs:BE f (k+1) t a=BE f k t a:=by
     unfold BE;split
     ·rfl
     ·rename_i hn;exact gL hf k t a.2 e c.1 c.2 hn m
    have g:Mi f (BE f k t a)∧t <+: BE f k t a:=by
     unfold BE;split
     ·exact⟨e,AAD _⟩
     ·rename_i hn;exact FF hf k t a.2 e c.1 c.2 hn
    rw[TO,TO,hs];have:=g.2.length_le;exact p _ (fun b j=>i b (by simp[j])) g.1 (by omega)
  exact key _ _ (fun a ha=>D9 hf ha) (h.snoc h0 h1 d) (by simp only[OR,iF];omega)
theorem JD (f:List AF):Mi f []:=⟨by simp,fun x a=>by cases a⟩
theorem gM {f:List AF} (hf:A2 f) {n:Int} (h0:0≤n) (h1:n<f.length):∀m,Ep f (f.length+m) [] n=Ep f f.length [] n
 | 0=>rfl
 | m+1=>by
  rw[←ABF,gL hf _ [] n (JD f) h0 h1 (by simp) (by simp only[AAM];omega)];exact gM hf h0 h1 m
structure Iso (Q R:List AF) (ψ:Int→Int) (C:Int→Prop):Prop where
 arc:∀i,C i→Bz R (ψ i)=(Bz Q i).map fun a=>(a.1,ψ a.2)
 cl:∀i,C i→∀a∈Bz Q i,C a.2
 inj:∀i j,C i→C j→ψ i=ψ j→i=j
theorem oO {Q R:List AF} {c:Int→Int} {f:Int→Prop} (h:Iso Q R c f):∀(k:Nat) (t:List Int) (i:Int),(∀x∈t,f x)→f i→Ep R k (t.map c) (c i)=(Ep Q k t i).map c∧∀x∈Ep Q k t i,f x
 | 0,t,i,d,hi=>⟨rfl,d⟩
 | k+1,t,i,d,hi=>by
  have key:∀(l:List (Int×Int)) (t:List Int),(∀a∈l,f a.2)→(∀x∈t,f x) →
    (l.map fun a=>(a.1,c a.2)).foldl (BE R k) (t.map c)=(l.foldl (BE Q k) t).map c∧∀x∈l.foldl (BE Q k) t,f x:=by
   intro l;induction l with
   | nil=>intro t _ d;exact⟨rfl,d⟩
   | cons a l q =>
    intro t m d;have ha:=m a (by simp);have hs:BE R k (t.map c) (a.1,c a.2)=(BE Q k t a).map c∧∀x∈BE Q k t a,f x:=by
     unfold BE;by_cases j:a.2∈t
     ·rw[BY j,BY (If.2 ⟨_,j,rfl⟩)];exact⟨rfl,d⟩
     ·have p:¬c a.2∈t.map c:=by
       intro hh;obtain⟨x,g,e⟩:=If.1 hh;exact j (h.inj x a.2 (d x g) ha e▸g)
      rw[At j];simp only[At p];exact oO h k t a.2 d ha
    rw[tO,TO,TO,hs.1];exact q _ (fun b o=>m b (by simp[o])) hs.2
  rw[DJ,DJ];have e:t.map c++[c i]=(t++[i]).map c:=by simp
  have n:(R.getD (c i).toNat (0,[])).2=(Bz Q i).map fun a=>(a.1,c a.2):=h.arc i hi;rw[n,e];refine key _ _ (h.cl i hi) fun x g=>?_;rcases ON.1 g with g|g
  ·exact d x g
  ·have:x=i:=by simpa using g
   rw[this];exact hi
structure Ord (f:List AF) (o:List Int):Prop where
 ok:Mi f o
 zero:o.getD 0 0=0∧0<o.length
 cl:∀n∈o,∀a∈Bz f n,a.2∈o
theorem A0j {f:List AF} (hf:A2 f) (h0:0<f.length):[0] <+: Ep f f.length [] 0:=by
 obtain⟨k,hk⟩:∃k,f.length=k+1:=⟨f.length-1,by omega⟩;rw[hk,DJ];exact(Gm (FF hf k) _ _ (fun a ha=>D9 hf ha) ((JD f).snoc (by omega) (by omega) (by simp))).2
theorem A0k {f:List AF} (hf:A2 f) (h0:0<f.length):Ord f (Ep f f.length [] 0):=by
 have h1:=FF hf f.length [] 0 (JD f) (by omega) (by omega) (by simp);have b:=Km hf f.length [] 0 (JD f) (by omega) (by omega) (by simp) (by simp);have c:=A0j hf h0;refine⟨h1.1,?_,fun n hn a ha=>?_⟩
 ·obtain⟨t,d⟩:=c;rw[←d];exact⟨rfl,by simp⟩
 ·rcases b.2 n hn with h|h
  ·cases h
  ·exact h a ha
theorem MN {o:List Int} (hn:o.Nodup) {i:Nat} (hi:i<o.length):IG o (o.getD i 0)=(i:Int):=by
 have e:o.getD i 0=o[i]:=by rw[AS,AT hi];rfl
 rw[e];unfold IG;rw[BY (AA7 hi),hn.idxOf_getElem i hi]
theorem Gz {o:List Int} {x:Int} (h:x∈o):0≤IG o x∧IG o x<(o.length:Int)∧o.getD (IG o x).toNat 0=x:=by
 unfold IG;rw[BY h];have a:=List.idxOf_lt_length_of_mem h;refine⟨by omega,by omega,?_⟩;rw[f7,AS,AT a];show o[o.idxOf x]=x;exact List.getElem_idxOf a
theorem s5 (f:List AF):(AU f 0).length=(Ep f f.length [] 0).length:=by simp[AU]
theorem s6 {f:List AF} {i:Nat} (hi:i<(Ep f f.length [] 0).length):(AU f 0).getD i (0,[])=LN f (Ep f f.length [] 0) ((Ep f f.length [] 0).getD i 0):=by
 unfold AU;simp[AS,hi]
theorem gN (a:Int→Int×Int→Bool) {f:List AF} {n:Int} (h0:0≤n) (h1:n<f.length):(GC a f f.length).getD n.toNat (0,[])=((f.getD n.toNat (0,[])).1,(Bz f n).filter (a n)):=by
 have hn:n.toNat<f.length:=by omega
 have e:((n.toNat:Nat):Int)=n:=by omega
 unfold GC;simp only[AS,AAy,ABA hn,AAY,AC4,A0h];rw[e];rfl
theorem A0l {f:List AF} (hs:M7 f) (n:Int):(Bz f n).Pairwise (fun a b=>a.1<b.1):=(Gy _).1 (jU hs n).1
theorem s7 {f:List AF} (hf:A2 f) (hs:M7 f) (h0:0<f.length) (a:Int→Int×Int→Bool) {n:Int} (hn:n∈Ep (GC a f f.length) f.length [] 0) :
  Bz (Rx a f) (IG (Ep (GC a f f.length) f.length [] 0) n)=((Bz f n).filter (a n)).map (L2 (Ep (GC a f f.length) f.length [] 0)):=by
 obtain⟨g,k⟩:=XQ hf hs a;have b:=KB a f f.length;have d:=A0k g (by omega);have c:=fun i=>s6 (f:=GC a f f.length) (i:=i);rw[b]at d c;obtain⟨h,j,e⟩:=Gz hn;have hr:=d.ok.rng n hn;rw[b]at hr;show ((Rx a f).getD _ (0,[])).2=_;have:Rx a f=AU (GC a f f.length) 0:=rfl;rw[this,c _ (by omega),e];unfold LN;rw[gN a hr.1 hr.2]
section
open Go
end
section
attribute [local go_sem] XH
def FK (l:List (Int×Int)) (e:Int):Int:=match l with
 | []=>-1
 | a :: l=>if a.1=e then a.2 else FK l e
theorem s8 (e:Int) (l:List (Int×Int)) {k:Nat} (h:k<l.length):FK (l.drop k) e=if (l.getD k (0,0)).1=e then (l.getD k (0,0)).2 else FK (l.drop (k+1)) e:=by
 rw[OS h];have e:l.getD k (0,0)=l[k]:=by simp[AS,h]
 rw[e];rfl
def So:Ac:={ ins:=[LJ,T3],pre:=fun _=>True,out:=fun(x,e,_)=>[.p T3 (FK x.2 e)],lend:=true }
attribute [local go_sem] So
theorem s9:Ah Tryz.prog 80 So:=by
 refine fK [0,1,2,4,6,8,9,10,11,17] Tryz.func80 Tryz.ntmps80 AG ?_;rintro w0 O0 ⟨⟨ty,l⟩,e,u⟩ c ⟨⟨-,f,-⟩,-⟩ -;simp only[AO]at f;simp only[So,AM];repeat'(first|exact trivial|refine eS rfl ?_|refine AB ?_|refine rX c ?_ ?_|refine rC ?_ ?_<;>intro a<;>try(cases a;done))
 refine AI (ι:={k:Nat//k≤l.length∧FK (l.drop k) e=FK l e}) (fun k=>⟨[(1,.p T3 e),(8,.p Ii l),(9,.p (.int .i64) (l.length:Int)),(10,.p (.int .i64) (k.1:Int))],[]⟩) (fun k=>l.length-k.1) ⟨0,IN _,rfl⟩ (AC [] rfl rfl ?_ ?_) (fun k=>?_)
 ·first|exact eN|refine eM ?_
 ·first|exact eN|refine eM ?_
 ·obtain⟨k,hk,hf⟩:=k;have d:=fun h:k<l.length=>s8 e l h;simp only;repeat'(first|exact trivial|refine eS rfl ?_|refine AB ?_|refine rX c ?_ ?_|refine rC ?_ ?_<;>intro a<;>try(cases a;done))
  ·exact a
  ·have b:k<l.length:=by exact eV
   rw[d b,BY a]at hf;exact fI c [.tmp 4] (by rw[←hf];exact eR)
  ·exact eV
  ·have b:k<l.length:=by exact eV
   rw[d b,At (by simpa using a)]at hf;refine⟨⟨k+1,b,hf⟩,by simp only;omega,AC [] rfl rfl ?_ ?_⟩
   ·first|exact eN|refine eM ?_
   ·first|exact eN|refine eM ?_
  ·have b:l.drop k=[]:=IF (by exact eV);rw[b]at hf;exact fI c [.tmp 4] (by rw[←hf];first|exact eR|refine Zr ?_;rfl)
end
end Go.Proofs.YtdapahgnpbehbaaGreat.Fw
