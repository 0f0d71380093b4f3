/- Contracts of the program's and the reference's functions, and the plain laws of what they compute: C35 R07a R07b R07c R07d R07e Sorted R07f R07g R07h R15c P8 C37 H1 D1 D4 N5 N6 N7 T4 G1 G3 PS PA PB PC PD PE PF PL. -/
import Derived.Test.YtdapahgnpbehbaaGreatIYA
import Derived.Test.YtdapahgnpbehbaaGreatIZJ
import Derived.Test.YtdapahgnpbehbaaGreatIZI
set_option linter.unusedVariables false
set_option linter.unusedSimpArgs false
namespace Go.Proofs.YtdapahgnpbehbaaGreat.Fw
open Go
attribute [local irreducible] Ev
attribute [local go_sem] Wk AM List.toList_toArray Bp evG evK TW EX Jk Fg Ex F1 Ng J6 CC Co Kq Bz Ce frz Zk GS DD A5 FQ BU AV.frz AV.frzs AV.drp AV.drps AV.names AV.namess aq GT J5 Jb Qn H5 BP BV I5 EP Hg ER Hi Hh Hj Sd NY GU I6 FT Ds Se O5 v4 I7 H8 Kl E9 Dh H9 Jd D9 Qo CX EA Eh O6 IA O7 LW IB Je Cn Cc FF Di HH DL Ei DM EB FE Bz Cb Ov O2 Lt Fz H7 H6 Jc Lu Nb LX Kp Kn Jh O8 Ko Ji WG Nf Nc AV.trn AV.trns Dr CW Obj.trn JK Yi C0 DN Cz EC CQ Ej Ah lk Gm GJ HF wC Zj TT Zm O4 oJ oK pfs AV.cells CA I3 Nx Jg Na CP Lr Ty.cell1 Hf Eg Dg Fy Kk EO J4 LV Oz Ef Gu Lq Qm Sb Ln J3 WD YK O3 Ls Cm I4 RV.flat Ty.flat Ty.size St.add upd del Ba Value.oneCell' Ki Ty.dflt He Mx Gx M4 List.take_succ_cons List.take_zero List.length_cons Wr Ws M3 X1 KG GY Hz sM Ey Kz K0 K2 K3 OG OH JC Ho Qy Option.map_some Option.map_none Option.bind_some Option.getD_some Option.getD_none Option.isNone_none Option.isNone_some Bool.and_true Bool.true_and Bool.and_false Bool.false_and Bool.not_true Bool.not_false if_true if_false List.length_cons List.length_nil and_true true_and and_self List.all_cons List.all_nil List.append_nil List.nil_append List.cons_append List.getElem?_cons_zero List.getElem?_cons_succ List.getElem?_nil List.map_cons List.map_nil List.set_cons_zero List.set_cons_succ List.isEmpty_nil List.isEmpty_cons decide_true decide_false beq_self_eq_true bne_self_eq_false Nat.zero_add Nat.add_zero Nat.sub_zero Int.toNat_natCast Int.toNat_zero Int.toNat_one List.take_length List.length_append List.length_singleton true_or or_true or_self false_or or_false Ty.agg.injEq Ty.slice.injEq Ty.prod.injEq Ty.int.injEq Option.some.injEq beq_iff_eq K4 evMG evMQ v5 HL Lc Bv JE GI L5 JD HK Hq JF KF L6 L8 L7 Qz KE Mz M0 Hy AW Ai Op.operands Call.operands List.filterMap_cons List.filterMap_nil List.append_eq Bool.cond_false_right Bool.cond_true_left cond_true cond_false implies_true decide_eq_true_eq beq_true beq_false Bool.or_true Bool.or_false Bool.true_or Bool.false_or Option.isSome_some Array.empty_append List.append_toArray K1 Kr Ek HV WF NZ FD Fa FZ IC HG Jf Km TV Zl Ja inB Jj FN F0 ID Ak Wu List.drop_zero DZ HZ WK CE Jp BT AV.fgt AV.fgts Obj.fgt Af Ag AW Cp IP BH F5 List.any_cons List.any_nil jY Yf WL Yg Lo Pf qs List.flatMap_cons List.flatMap_nil List.cons_append tn WM Ha List.take_succ_cons List.drop_succ_cons WN HO Bj aQ KI B8 CS Ab FH Jo Bc Em Dj HI Hn F4 HJ
attribute [local go_sem] ty1 ty2 ty3 ty4 ty5 ty9 yG yH yI yJ yK yL yM yN yO yP yQ yR yS yT yU yV yW yX yY yZ y3 y4 y5 y6 y7 y8 y9 zA zB zC zD zE zF zG zH zI zJ zK zL zM zN zO zP zQ zR zS zT zU zV zW zX zY zZ z0 z1 z2 z3 z4 z5 z6 z7 z8 z9 A00 A01 A02 A03 A04 A05 A06 A07 A08 A09 A0a aY aZ a9 bA bB bC bD bE bF bG bH bI bJ bK bL bM bN bO bP bQ bR bS bT bU bV bW bX bZ b4 b5 b6 b7 b8 b9 cA cB cC cE cF cG cH cI cJ cK cL cM cN cO cQ cR cS cU cV cW cX cZ c6 c7 c8 c9 dA dB dC dD dE dF dG dH dI dJ dK dL dM dN dP dQ dR dS dT dU dV dW dX dY dZ d3 d4 d5 d6 d7 d8 d9 eB eC eD eE eF eG eH eI eJ eK eL eO eQ eU eW eX eY eZ e7 e9 fA fB fC fD fE fF fG
set_option maxRecDepth 100000
set_option maxHeartbeats 4000000
section
attribute [local go_sem] Ui RK A0G RL
abbrev MP:=ByteArray×List Int×List Int×List (Int×Int)
abbrev AI:=List MP×List A0L
def EY (l:List AQ) (v:List (List (Int×Int))) (n:Nat):List MP:=(List.range n).map fun i=>((l.getD i c0).1,(l.getD i c0).2,XW l (i:Int),v.getD i [])
theorem mA (l:List AQ) (v:List (List (Int×Int))) (n:Nat):EY l v (n+1)=EY l v n++[((l.getD n c0).1,(l.getD n c0).2,XW l (n:Int),v.getD n [])]:=by simp[EY,AAe]
theorem KR (l:List AQ) (v:List (List (Int×Int))) (n:Nat):(EY l v n).length=n:=by simp[EY]
def Bk (d:List AH):AI:=(EY (AL d) (A8 d).1 (AL d).length,(EM d).1)
def Az (d:List AH):AI×Int:=if (A8 d).2≠0 then (([],[]),(A8 d).2) else (Bk d,0)
def MQ:Ae:={ ins:=[FC],pre:=fun _=>True,out:=fun(d,_)=>[.p Ga (Az d).1,.p WA (Az d).2] }
theorem mB:Ao Tryz.prog 36 MQ:=by
 refine fK [0,2,3,4,5,6,8,9,10,18,29] Tryz.func36 Tryz.ntmps36 (AF l8 (AF QB (AF A3e (AF gM AG)))) ?_;rintro w0 O0 ⟨d,u⟩ b - -;simp only[MQ,AM];repeat'(first|exact trivial|refine eS rfl ?_|refine AB ?_|refine rX b ?_ ?_|refine rC ?_ ?_<;>intro a<;>try(cases a;done))
 ·have h1:Az d=(([],[]),(A8 d).2):=by unfold Az;rw[At a]
  exact fI b [.cell 2 31,.tmp 3] (by rw[h1];exact eR)
 ·have c:(A8 d).2=0:=by simpa using a
  have f:Av d=0:=by
   unfold A8 at c;split at c
   ·rename_i h;exact absurd c h
   ·rename_i h;exact Do h
  obtain⟨t,x,w⟩:=B9 f;obtain⟨j,m,k⟩:=BS t;have g:Az d=(Bk d,0):=by unfold Az;rw[As (by rw[c];simp)]
  have r:(A8 d).1.length=(AL d).length:=by
   unfold A8;rw[As (by rw[f];simp)];exact Xa _ _ _ _
  have s:=Oc j;have o:(AL d).length≤256:=by rw[Ih];exact m
  unfold Bk at g;rw[k];generalize AL d=l at *;generalize (A8 d).1=v at *;refine AJ (ι:={n:Nat//n≤l.length}) (fun n=>⟨[(0,.p FC d),(2,.bp 2 [] 0),(4,.p T45 v),(6,.p KK l),(8,.bp 8 [] 0),(9,.p (.int .i64) (n.1:Int))],[(2,.box 31 true [.raw (.slice none 0 0),.raw (.slice none 0 0)]),(8,.box 31 true [.sr 53 T84 0 (EY l v n.1).length,.raw (.slice none 0 0)]),(53,.arr 84 T84 (EY l v n.1))]⟩) (fun n=>l.length-n.1) ⟨0,Is _⟩ (AC [(2,.nm 2),(8,.nm 8),(53,.nil)] rfl rfl ?_ ?_) (fun n=>?_)
  ·first|exact eN|refine eM ?_
   exact⟨rfl,rfl⟩
  ·first|exact eN|refine eM ?_
  ·obtain⟨n,hn⟩:=n;have q:=KR l v n;have i:=mA l v n;simp only;repeat'(first|exact trivial|refine eS rfl ?_|refine AB ?_|refine rX b ?_ ?_|refine rC ?_ ?_<;>intro a<;>try(cases a;done))
   ·refine⟨a,a,⟨a,o,s⟩,by rw[r];exact a,?_⟩;rw[q];simp only[AO];omega
   ·omega
   ·have e:n<l.length:=If.1 a;refine⟨⟨n+1,e⟩,by simp only;omega,AC [(2,.nm 2),(8,.nm 8),(53,.nm 53)] rfl rfl ?_ ?_⟩
    ·simp only[i];first|exact eN|refine eM ?_
    ·simp only[i];first|exact eN|refine eM ?_
   ·have e:n=l.length:=by omega
    subst e;refine Gy [53] ?_;exact fI b [.cell 2 31,.tmp 3] (by rw[g];exact eR)
end
abbrev A80:=Int×List (Int×Int)
def HQ (f:List A80):Bool:=decide (f.length≤12)&&f.all fun n=>decide (n.2.length≤12)
def Uk:Ae:={ ins:=[E0],pre:=fun _=>True,out:=fun(f,_)=>[.p .bool (HQ f)] }
theorem A0P:Ao Tryz.prog 12 Uk:=by
 refine fK [0,1,2,3,7,12,22] Tryz.func12 Tryz.ntmps12 AG ?_;rintro w0 O0 ⟨l,u⟩ a e f;simp only[Uk,AM];repeat'(first|exact trivial|refine eS rfl ?_|refine AB ?_|refine rX a ?_ ?_|refine rC ?_ ?_<;>intro b<;>try(cases b;done))
 ·have h1:HQ l=false:=by
   have h:¬(List.length l≤12):=by exact eV
   unfold HQ;rw[ABO h];rfl
  exact fI a [.tmp 2] (by rw[h1];exact eR)
 ·refine AJ (ι:={k:Nat//k≤l.length∧(l.take k).all (fun n=>decide (n.2.length≤12))=true}) (fun k=>⟨[(0,.p E0 l),(1,.bp 1 [] 0),(3,.p (.int .i64) (k.1:Int))],[(1,.box 25 true [.p F6 l])]⟩) (fun k=>l.length-k.1) ⟨0,by simp⟩ (AC [(1,.nm 1)] rfl rfl ?_ ?_) (fun k=>?_)
  ·first|exact eN|refine eM ?_
  ·first|exact eN|refine eM ?_
  ·obtain⟨k,hk,c⟩:=k;repeat'(first|exact trivial|refine eS rfl ?_|refine AB ?_|refine rX a ?_ ?_|refine rC ?_ ?_<;>intro b<;>try(cases b;done))
   ·exact eV
   ·have h1:HQ l=false:=by
     have hk:k<l.length:=by exact eV
     have h:=AD l (0,[]) hk;unfold HQ;rw[AAD];right;rw[AAR];exact⟨_,h,by simp only[DO];exact eV⟩
    exact fI a [.tmp 2] (by rw[h1];exact eR)
   ·exact eV
   ·have hk:k<l.length:=by exact eV
    refine⟨⟨k+1,by exact eV,?_⟩,by simp only;exact eV,AC [(1,.nm 1)] rfl rfl ?_ ?_⟩
    ·have h1:=Ax l (0,[]) hk;have d:((l.take (k+1)).all fun n=>decide (n.2.length≤12))=_:=AAP (fun x=>List.all x fun n=>decide (n.2.length≤12)) h1;rw[d,ABy,c];simp only[AB4,List.all_nil,Bool.and_true,ABV,DO];exact eV
    ·first|exact eN|refine eM ?_
    ·first|exact eN|refine eM ?_
   ·have h1:HQ l=true:=by
     have hk:l.take k=l:=BY (by exact eV);rw[hk]at c;unfold HQ;rw[c,ABr (by exact eV)];rfl
    exact fI a [.tmp 2] (by rw[h1];exact eR)
def F8 (n:Int) (seen:List (Int×Int)):List (Int×Int)→Int
 | []=>0
 | x :: r=>if x.1<0∨x.2<0∨n≤x.2 then 2 else if (seen.any fun y=>y.1==x.1)=true then 4 else F8 n (seen++[x]) r
def GN (l:List (Int×Int)) (n:Int):Int:=F8 n [] l
def gN:Ae:={ ins:=[DS,T3],pre:=fun _=>True,out:=fun(l,n,_)=>[.p WA (GN l n)] }
theorem Od (n:Int) (l:List (Int×Int)) {k:Nat} (h:k<l.length):F8 n (l.take k) (l.drop k)=if (l.getD k (0,0)).1<0∨(l.getD k (0,0)).2<0∨n≤(l.getD k (0,0)).2 then 2 else if ((l.take k).any fun y=>y.1==(l.getD k (0,0)).1)=true then 4 else F8 n (l.take (k+1)) (l.drop (k+1)):=by
 rw[Ax l (0,0) h,aS h,AS,An h];rfl
theorem WQ (l:List (Int×Int)) (f:Int) {k:Nat} (h:k<l.length):((l.take (k+1)).any fun y=>y.1==f)=((l.take k).any (fun y=>y.1==f)||((l.getD k (0,0)).1==f)):=by
 rw[Ax l (0,0) h,ABU];simp
theorem A3i:Ao Tryz.prog 141 gN:=by
 refine fK [0,1,4,5,6,10,35,38,51] Tryz.func141 Tryz.ntmps141 AG ?_;rintro w0 O0 ⟨l,n,u⟩ b ⟨⟨h,-⟩,-⟩ -;simp only[AO]at h;simp only[gN,AM];repeat'(first|exact trivial|refine eS rfl ?_|refine AB ?_|refine rX b ?_ ?_|refine rC ?_ ?_<;>intro a<;>try(cases a;done))
 refine AJ (ι:={k:Nat//k≤l.length∧F8 n (l.take k) (l.drop k)=GN l n}) (fun k=>⟨[(0,.p DS l),(1,.p T3 n),(5,.p (.int .i64) (k.1:Int))],[]⟩) (fun k=>l.length-k.1) ⟨0,by simp[GN]⟩ (AC [] rfl rfl ?_ ?_) (fun k=>?_)
 ·first|exact eN|refine eM ?_
 ·first|exact eN|refine eM ?_
 ·obtain⟨k,hk,c⟩:=k;repeat'(first|exact trivial|refine eS rfl ?_|refine AB ?_|refine rX b ?_ ?_|refine rC ?_ ?_<;>intro a<;>try(cases a;done))
  ·exact eV
  ·have hk:k<l.length:=by exact eV
   have h1:GN l n=2:=by
    rw[←c,Od n l hk,At (by rw[←or_assoc];exact a)]
   exact fI b [.tmp 4] (by rw[h1];exact eR)
  ·have hk:k<l.length:=by exact eV
   have hn:¬((l.getD k (0,0)).1<0∨(l.getD k (0,0)).2<0∨n≤(l.getD k (0,0)).2):=by
    have:=a;generalize l.getD k (0,0)=x at this;exact eV
   rw[Od n l hk,As hn]at c;refine AJ (ι:={j:Nat//j≤k∧((l.take j).any fun y=>y.1==(l.getD k (0,0)).1)=false}) (fun j=>⟨[(0,.p DS l),(1,.p T3 n),(5,.p (.int .i64) (k:Int)),(6,.p (.int .i64) (j.1:Int))],[]⟩) (fun j=>k-j.1) ⟨0,by simp⟩ (AC [] rfl rfl ?_ ?_) (fun j=>?_)
   ·first|exact eN|refine eM ?_
   ·first|exact eN|refine eM ?_
   ·obtain⟨j,i,f⟩:=j;repeat'(first|exact trivial|refine eS rfl ?_|refine AB ?_|refine rX b ?_ ?_|refine rC ?_ ?_<;>intro a<;>try(cases a;done))
    ·exact eV
    ·have e:j<l.length:=by exact eV
     have h1:GN l n=4:=by
      have d:((l.take k).any fun y=>y.1==(l.getD k (0,0)).1)=true:=by
       rw[TO];refine⟨l.getD j (0,0),?_,by simpa using a⟩;rw[AS,An e];exact ABs.2 ⟨j,by exact eV,rfl⟩
      rw[←c,At d]
     exact fI b [.tmp 4] (by rw[h1];exact eR)
    ·exact eV
    ·have e:j<l.length:=by exact eV
     refine⟨⟨j+1,by exact eV,?_⟩,by simp only;exact eV,AC [] rfl rfl ?_ ?_⟩
     ·have d:=WQ l (l.getD k (0,0)).1 e;refine d.trans ?_;rw[f];simpa using a
     ·first|exact eN|refine eM ?_
     ·first|exact eN|refine eM ?_
    ·exact eV
    ·have g:j=k:=by exact eV
     subst g;refine⟨⟨j+1,by exact eV,?_⟩,by simp only;exact eV,AC [] rfl rfl ?_ ?_⟩
     ·rw[←c,As (by rw[f];simp)]
     ·first|exact eN|refine eM ?_
     ·first|exact eN|refine eM ?_
  ·have h1:GN l n=0:=by
    have hk:l.length≤k:=by exact eV
    rw[←c,IF hk];rfl
   exact fI b [.tmp 4] (by rw[h1];exact eR)
def Ul (n:Int×List (Int×Int)):List Int:=n.1 :: (n.2.length:Int) :: n.2.flatMap fun a=>[a.1,a.2]
def Br (f:List (Int×List (Int×Int))):List Int:=(f.length:Int) :: f.flatMap Ul
def WR (l:List (Int×List (Int×Int))) (k:Nat):List Int:=(l.length:Int) :: (l.take k).flatMap Ul
def Um (l:List (Int×List (Int×Int))) (k j:Nat):List Int:=WR l k++[(l.getD k (0,[])).1,((l.getD k (0,[])).2.length:Int)]++((l.getD k (0,[])).2.take j).flatMap fun a=>[a.1,a.2]
theorem RM:∀l:List (Int×Int),(l.flatMap fun a=>[a.1,a.2]).length=2*l.length
 | []=>rfl
 | x :: l=>by simp[RM l];omega
theorem A0Q (n:Int×List (Int×Int)):(Ul n).length=2+2*n.2.length:=by
 have:=RM n.2;simp only[Ul,Of];omega
theorem Un:∀l:List (Int×List (Int×Int)),(∀n∈l,n.2.length≤100000)→(l.flatMap Ul).length≤l.length*200002
 | [],_=>by simp
 | x :: l,h=>by
  have h1:=h x (by simp);have a:=Un l (fun n hn=>h n (by simp[hn]));have b:=A0Q x;simp only[ABJ,IN,Of];omega
theorem gP {l:List (Int×List (Int×Int))} (h:∀n∈l,n.2.length≤100000) {k:Nat} (hk:k≤l.length):(WR l k).length≤1+k*200002:=by
 have h1:=Un (l.take k) (fun n hn=>h n (AA9 hn));rw[OS,ABg hk]at h1;simp only[WR,Of];omega
theorem A0R {l:List (Int×List (Int×Int))} (h:∀n∈l,n.2.length≤100000) {k j:Nat} (hk:k<l.length) (b:j≤(l.getD k (0,[])).2.length):(Um l k j).length≤3+k*200002+2*j:=by
 have h1:=gP h (AC6 hk);have a:=RM ((l.getD k (0,[])).2.take j);rw[OS,ABg b]at a;simp only[Um,IN,Of,AAN];omega
theorem Xc {l:List (Int×List (Int×Int))} {k:Nat} (hk:k<l.length):WR l (k+1)=Um l k (l.getD k (0,[])).2.length:=by
 unfold WR Um;rw[Ax l (0,[]) hk,List.flatMap_append,f9];simp[Ul,WR]
theorem Xd {l:List (Int×List (Int×Int))} {k j:Nat} (a:j<(l.getD k (0,[])).2.length):Um l k (j+1)=Um l k j++[((l.getD k (0,[])).2.getD j (0,0)).1,((l.getD k (0,[])).2.getD j (0,0)).2]:=by
 unfold Um;rw[Ax _ (0,0) a,List.flatMap_append];simp
def Uo:Ae:={ ins:=[E0],pre:=fun(f,_)=>f.length≤100000∧∀n∈f,n.2.length≤100000,out:=fun(f,_)=>[.p Kh (Br f)] }
theorem mC:Ao Tryz.prog 74 Uo:=by
 refine fK [0,1,2,3,4,5,6,15,38] Tryz.func74 Tryz.ntmps74 AG ?_;rintro w0 O0 ⟨l,u⟩ b ⟨h,-⟩ ⟨n,d⟩;simp only[Uo,AM];repeat'(first|exact trivial|refine eS rfl ?_|refine AB ?_|refine rX b ?_ ?_|refine rC ?_ ?_<;>intro a<;>try(cases a;done))
 refine AJ (ι:={k:Nat//k≤l.length}) (fun k=>⟨[(0,.p E0 l),(1,.bp 1 [] 0),(3,.sr 10 T3 0 (WR l k.1).length),(4,.p (.int .i64) (k.1:Int))],[(1,.box 25 true [.p F6 l]),(10,.arr 3 T3 (WR l k.1))]⟩) (fun k=>l.length-k.1) ⟨0,by simp⟩ (AC [(1,.nm 1),(10,.nm 10)] rfl rfl ?_ ?_) (fun k=>?_)
 ·first|exact eN|refine eM ?_
  rfl
 ·first|exact eN|refine eM ?_
  rfl
 ·obtain⟨k,hk⟩:=k;have i:=gP d hk;repeat'(first|exact trivial|refine eS rfl ?_|refine AB ?_|refine rX b ?_ ?_|refine rC ?_ ?_<;>intro a<;>try(cases a;done))
  ·exact eV
  ·refine⟨by exact eV,?_⟩;simp only[AO];exact eV
  ·have c:k<l.length:=by exact eV
   have o:=d _ (AD l (0,[]) c);refine AJ (ι:={j:Nat//j≤(l.getD k (0,[])).2.length}) (fun j=>⟨[(0,.p E0 l),(1,.bp 1 [] 0),(3,.sr 10 T3 0 (Um l k j.1).length),(4,.p (.int .i64) (k:Int)),(5,.p DS (l.getD k (0,[])).2),(6,.p (.int .i64) (j.1:Int))],[(1,.box 25 true [.p F6 l]),(10,.arr 3 T3 (Um l k j.1))]⟩) (fun j=>(l.getD k (0,[])).2.length-j.1) ⟨0,by simp⟩ (AC [(1,.nm 1),(10,.nm 10)] rfl rfl ?_ ?_) (fun j=>?_)
   ·first|exact eN|refine eM ?_
    simp[Um]
   ·first|exact eN|refine eM ?_
    simp[Um]
   ·obtain⟨j,f⟩:=j;have m:=A0R d c f;repeat'(first|exact trivial|refine eS rfl ?_|refine AB ?_|refine rX b ?_ ?_|refine rC ?_ ?_<;>intro a<;>try(cases a;done))
    ·refine⟨by exact eV,by exact eV,?_⟩;simp only[AO];exact eV
    ·exact eV
    ·have e:j<(l.getD k (0,[])).2.length:=by exact eV
     refine⟨⟨j+1,by exact eV⟩,by simp only;exact eV,AC [(1,.nm 1),(10,.nm 10)] rfl rfl ?_ ?_⟩
     ·first|exact eN|refine eM ?_
      exact(Xd e).symm
     ·first|exact eN|refine eM ?_
      have:=AAP List.length (Xd (l:=l) e);rw[IN]at this;exact this.symm
    ·exact eV
    ·have g:j=(l.getD k (0,[])).2.length:=by exact eV
     subst g;refine⟨⟨k+1,by exact eV⟩,by simp only;exact eV,AC [(1,.nm 1),(10,.nm 10)] rfl rfl ?_ ?_⟩
     ·first|exact eN|refine eM ?_
      exact(Xc c).symm
     ·first|exact eN|refine eM ?_
      exact AAP List.length (Xc c).symm
  ·have hk:l.take k=l:=BY (by exact eV);have h1:WR l k=Br l:=by unfold WR Br;rw[hk]
   exact fI b [.tmp 2] (by first|exact eR|refine Ym ?_;exact h1)
section
attribute [local go_sem] Uo
def LM:List Int→List Int→Int
 | x :: xs,y :: ys=>if x<y then -1 else if y<x then 1 else LM xs ys
 | _,_=>0
theorem RN (xs ys:List Int) {k:Nat} (h1:k<xs.length) (a:k<ys.length):LM (xs.drop k) (ys.drop k)=if xs.getD k 0<ys.getD k 0 then -1 else if ys.getD k 0<xs.getD k 0 then 1 else LM (xs.drop (k+1)) (ys.drop (k+1)):=by
 rw[aS h1,aS a,AS,An h1,AS,An a];rfl
theorem A0S (xs ys:List Int) {k:Nat} (h:xs.length≤k∨ys.length≤k):LM (xs.drop k) (ys.drop k)=0:=by
 rcases h with h|h
 ·rw[IF h];simp[LM]
 ·rw[IF h];simp[LM]
def Ct (a b:List (Int×List (Int×Int))):Int:=LM (Br a) (Br b)
def B2 (f:List (Int×List (Int×Int))):Prop:=f.length≤100000∧∀n∈f,n.2.length≤100000
def Uq:Ae:={ ins:=[E0,E0],pre:=fun(a,b,_)=>B2 a∧B2 b,out:=fun(a,b,_)=>[.p T3 (Ct a b)] }
theorem QF {f:List (Int×List (Int×Int))} (h:B2 f):(Br f).length≤1+f.length*200002:=by
 have:=Un f h.2;simp only[Br,Of];omega
theorem mD:Ao Tryz.prog 47 Uq:=by
 refine fK [0,1,2,3,4,5,6,7,21,32,41] Tryz.func47 Tryz.ntmps47 (AF mC AG) ?_;rintro w0 O0 ⟨a,b,u⟩ f-⟨⟨g,i⟩,⟨j,l⟩⟩;have m:=QF ⟨g,i⟩;have n:=QF ⟨j,l⟩;simp only[Uq,AM];repeat'(first|exact trivial|refine eS rfl ?_|refine AB ?_|refine rX f ?_ ?_|refine rC ?_ ?_<;>intro c<;>try(cases c;done))
 ·exact⟨g,i⟩
 ·exact⟨j,l⟩
 ·refine AJ (ι:={k:Nat//LM ((Br a).drop k) ((Br b).drop k)=Ct a b}) (fun k=>⟨[(5,.p Kh (Br a)),(6,.p Kh (Br b)),(7,.p (.int .i64) (k.1:Int))],[]⟩) (fun k=>(Br a).length-k.1) ⟨0,by simp[Ct]⟩ (AC [] rfl rfl ?_ ?_) (fun k=>?_)
  ·first|exact eN|refine eM ?_
  ·first|exact eN|refine eM ?_
  ·obtain⟨k,hk⟩:=k;repeat'(first|exact trivial|refine eS rfl ?_|refine AB ?_|refine rX f ?_ ?_|refine rC ?_ ?_<;>intro c<;>try(cases c;done))
   ·exact eV
   ·obtain⟨h1,d⟩:k<(Br a).length∧k<(Br b).length:=by exact eV
    have e:Ct a b=-1:=by rw[←hk,RN _ _ h1 d,At c]
    exact fI f [.tmp 4] (by rw[e];exact eR)
   ·exact eV
   ·obtain⟨h1,d⟩:k<(Br a).length∧k<(Br b).length:=by exact eV
    have e:Ct a b=1:=by rw[←hk,RN _ _ h1 d,As (by exact eV),At c]
    exact fI f [.tmp 4] (by rw[e];exact eR)
   ·exact eV
   ·obtain⟨h1,d⟩:k<(Br a).length∧k<(Br b).length:=by exact eV
    refine⟨⟨k+1,?_⟩,by simp only;exact eV,AC [] rfl rfl ?_ ?_⟩
    ·rw[←hk,RN _ _ h1 d,As (by exact eV),As (by exact eV)]
    ·first|exact eN|refine eM ?_
    ·first|exact eN|refine eM ?_
   ·have e:Ct a b=0:=by
     rw[←hk];apply A0S;by_cases h:k<(Br a).length
     ·right;have:=c (by exact eV);exact eV
     ·left;exact eV
    exact fI f [.tmp 4] (by rw[e];exact eR)
def LN:Ae:={ ins:=[E0,E0],pre:=fun(a,b,_)=>B2 a∧B2 b,out:=fun(a,b,_)=>[.p .bool (Ct a b==0)] }
end
section
attribute [local go_sem] Uq gN
theorem QG:Ao Tryz.prog 20 LN:=by
 refine fK [0,1,2,3,4] Tryz.func20 Tryz.ntmps20 (AF mD AG) ?_;rintro w0 O0 ⟨a,b,u⟩ c-e;simp only[LN,AM];repeat'(first|exact trivial|refine eS rfl ?_|refine AB ?_|refine rX c ?_ ?_|refine rC ?_ ?_<;>intro d<;>try(cases d;done))
 ·exact e
 ·exact fI c [.tmp 4]
def F9 (m:Int):List (Int×List (Int×Int))→Int
 | []=>0
 | n :: r=>if n.1<0 then 2 else if GN n.2 m≠0 then GN n.2 m else F9 m r
def B3 (f:List (Int×List (Int×Int))):Int:=if f.length=0 then 1 else if 4096<f.length then 7 else F9 f.length f
def A0T:Ae:={ ins:=[E0],pre:=fun _=>True,out:=fun(f,_)=>[.p WA (B3 f)] }
theorem Il (m:Int) (l:List (Int×List (Int×Int))) {k:Nat} (h:k<l.length):F9 m (l.drop k)=if (l.getD k (0,[])).1<0 then 2 else if GN (l.getD k (0,[])).2 m≠0 then GN (l.getD k (0,[])).2 m else F9 m (l.drop (k+1)):=by
 rw[aS h,AS,An h];rfl
theorem A3j:Ao Tryz.prog 108 A0T:=by
 refine fK [0,1,2,3,4,8,12,17,26,38] Tryz.func108 Tryz.ntmps108 (AF A3i AG) ?_;rintro w0 O0 ⟨l,u⟩ a ⟨f,-⟩ -;simp only[A0T,AM];repeat'(first|exact trivial|refine eS rfl ?_|refine AB ?_|refine rX a ?_ ?_|refine rC ?_ ?_<;>intro b<;>try(cases b;done))
 ·have h1:B3 l=1:=by
   have h:l.length=0:=by exact eV
   unfold B3;rw[At h]
  exact fI a [.tmp 2] (by rw[h1];exact eR)
 ·have h1:B3 l=7:=by
   have h:¬l.length=0:=by exact eV
   have e:4096<l.length:=by exact eV
   unfold B3;rw[As h,At e]
  exact fI a [.tmp 2] (by rw[h1];exact eR)
 ·have h1:B3 l=F9 l.length l:=by
   have h:¬l.length=0:=by exact eV
   have e:¬4096<l.length:=by exact eV
   unfold B3;rw[As h,As e]
  refine AJ (ι:={k:Nat//k≤l.length∧F9 l.length (l.drop k)=B3 l}) (fun k=>⟨[(1,.bp 1 [] 0),(3,.p (.int .i64) (k.1:Int))],[(1,.box 25 true [.p F6 l])]⟩) (fun k=>l.length-k.1) ⟨0,by simp[h1]⟩ (AC [(1,.nm 1)] rfl rfl ?_ ?_) (fun k=>?_)
  ·first|exact eN|refine eM ?_
  ·first|exact eN|refine eM ?_
  ·obtain⟨k,hk,hf⟩:=k;repeat'(first|exact trivial|refine eS rfl ?_|refine AB ?_|refine rX a ?_ ?_|refine rC ?_ ?_<;>intro b<;>try(cases b;done))
   ·exact eV
   ·have d:k<l.length:=by exact eV
    have c:B3 l=2:=by rw[←hf,Il _ _ d,At b]
    exact fI a [.tmp 2] (by rw[c];exact eR)
   ·exact eV
   ·have d:k<l.length:=by exact eV
    have c:B3 l=GN (l.getD k (0,[])).2 l.length:=by rw[←hf,Il _ _ d,As (by exact eV),At b]
    exact fI a [.tmp 2] (by rw[c];exact eR)
   ·exact eV
   ·have d:k<l.length:=by exact eV
    refine⟨⟨k+1,by exact eV,?_⟩,by simp only;exact eV,AC [(1,.nm 1)] rfl rfl ?_ ?_⟩
    ·rw[←hf,Il _ _ d,As (by exact eV),As (by simpa using b)]
    ·first|exact eN|refine eM ?_
    ·first|exact eN|refine eM ?_
   ·have c:B3 l=0:=by
     have hk:l.length≤k:=by exact eV
     rw[←hf,IF hk];rfl
    exact fI a [.tmp 2] (by rw[c];exact eR)
end
def Im (x:Int×Int) (s:List (Int×Int)):Nat→Nat
 | 0=>0
 | n+1=>if x.1<(s.getD n (0,0)).1 then Im x s n else n+1
def Oe (s:List (Int×Int)) (x:Int×Int):List (Int×Int):=s.take (Im x s s.length)++[x]++s.drop (Im x s s.length)
def AZ (l:List (Int×Int)):List (Int×Int):=l.foldl Oe []
theorem TA (x:Int×Int) (s:List (Int×Int)):∀n,Im x s n≤n
 | 0=>No _
 | n+1=>by
  unfold Im;have:=TA x s n;split<;>omega
theorem A0U (s:List (Int×Int)) (x:Int×Int):(Oe s x).length=s.length+1:=by
 have:=TA x s s.length;simp[Oe];omega
theorem Hs (l:List (Int×Int)) (x:Int×Int):AZ (l++[x])=Oe (AZ l) x:=by simp[AZ]
theorem MR:∀(l s:List (Int×Int)),(l.foldl Oe s).length=s.length+l.length
 | [],s=>by simp
 | x :: l,s=>by simp[MR l,A0U];omega
theorem Cj (l:List (Int×Int)):(AZ l).length=l.length:=by simp[AZ,MR]
def QH:Ae:={ ins:=[DS],pre:=fun(l,_)=>l.length≤1000000,out:=fun(l,_)=>[.own 53 BI (AZ l)] }
theorem Xe:Ao Tryz.prog 79 QH:=by
 refine fK [0,2,3,4,5,6,10,30] Tryz.func79 Tryz.ntmps79 AG ?_;rintro w0 O0 ⟨l,u⟩ c s j;simp only[QH]at j;simp only[QH,AM];repeat'(first|exact trivial|refine eS rfl ?_|refine AB ?_|refine rX c ?_ ?_|refine rC ?_ ?_<;>intro a<;>try(cases a;done))
 refine AJ (ι:={p:Nat//p≤l.length}) (fun k=>⟨[(0,.p DS l),(3,.sr 10 BI 0 (AZ (l.take k.1)).length),(4,.p (.int .i64) (k.1:Int))],[(10,.arr 53 BI (AZ (l.take k.1)))]⟩) (fun k=>l.length-k.1) ⟨0,by omega⟩ (AC [(10,.nil)] rfl rfl ?_ ?_) (fun k=>?_)
 ·first|exact eN|refine eM ?_
  rfl
 ·first|exact eN|refine eM ?_
  rfl
 ·obtain⟨k,g⟩:=k;have o:(AZ (l.take k)).length=k:=by rw[Cj,OS];exact ABg g
  repeat'(first|exact trivial|refine eS rfl ?_|refine AB ?_|refine rX c ?_ ?_|refine rC ?_ ?_<;>intro a<;>try(cases a;done))
  ·refine AJ (ι:={q:Nat//q≤(AZ (l.take k)).length∧Im (l.getD k (0,0)) (AZ (l.take k)) q=Im (l.getD k (0,0)) (AZ (l.take k)) (AZ (l.take k)).length}) (fun q=>⟨[(0,.p DS l),(3,.sr 10 BI 0 (AZ (l.take k)).length),(4,.p (.int .i64) (k:Int)),(5,.p (.int .i64) (q.1:Int))],[(10,.arr 53 BI (AZ (l.take k)))]⟩) (fun q=>q.1) ⟨(AZ (l.take k)).length,by simp⟩ (AC [(10,.nm 10)] rfl rfl ?_ ?_) (fun q=>?_)
   ·first|exact eN|refine eM ?_
   ·first|exact eN|refine eM ?_
   ·obtain⟨q,m,hp⟩:=q;have h:k<l.length:=by omega
    have n:=l.length_take_le k;have d:(List.take q (AZ (List.take k l))).length=q:=by rw[OS];exact ABg m
    repeat'(first|exact trivial|refine eS rfl ?_|refine AB ?_|refine rX c ?_ ?_|refine rC ?_ ?_<;>intro a<;>try(cases a;done))
    ·exact eV
    ·exact eV
    ·obtain⟨h1,b⟩:=a;obtain⟨q,rfl⟩:∃r,q=r+1:=⟨q-1,by omega⟩;have e:((q+1:Nat):Int)-1=(q:Int):=by omega
     refine⟨⟨q,by omega,?_⟩,ACB q,AC [(10,.nm 10)] rfl rfl ?_ ?_⟩
     ·rw[←hp];simp only[Im];rw[e,bY]at b;rw[At b]
     ·first|exact eN|refine eM ?_
     ·first|exact eN|refine eM ?_
      show (q:Int)+1-1=q;omega
    ·refine⟨by exact eV,?_⟩;rw[d];unfold AO;omega
    ·refine⟨by exact eV,?_⟩;rw[d];simp only[AO];omega
    ·refine⟨by exact eV,?_⟩;rw[d];simp only[AO,AA7];omega
    ·exact eV
    ·have i:Im (l.getD k (0,0)) (AZ (l.take k)) q=q:=by
      cases q with
      | zero=>rfl
      | succ q =>
       have e:((q+1:Nat):Int)-1=(q:Int):=by omega
       have:=a (by omega);rw[e,bY]at this;simp only[Im];rw[As (by omega)]
     have h1:=Ax l (0,0) h;have b:AZ (l.take (k+1))=_:=(AAP AZ h1).trans (Hs _ _);unfold Oe at b;rw[←hp,i]at b;refine⟨⟨k+1,by exact eV⟩,by simp only;exact eV,AC [(10,.nm 37)] rfl rfl ?_ ?_⟩
     ·first|exact eN|refine eM ?_
      exact b.symm
     ·first|exact eN|refine eM ?_
      have f:=AAP List.length b;rw[IN,IN]at f;exact f.symm
  ·have hk:l.take k=l:=BY (by exact eV);refine IM c (.inl rfl) (rv:=.tmp 2) rfl ?_;simp only[JB,IK,Gw,go_sem,Nat.reduceEqDiff,reduceCtorEq,Nat.reduceAdd,Nat.reduceSub,Nat.reduceMul,Nat.reduceLeDiff,Nat.reduceLT,Int.reduceLE,Int.reduceToNat,Int.reduceNeg,↓reduceIte];rw[hk];first|rfl|exact⟨rfl,rfl⟩|exact⟨rfl,rfl,rfl⟩
section
attribute [local go_sem] QH
abbrev AE:=Int×List (Int×Int)
def Dx (f:List AE):Nat→List Int×List Int→Int→List Int×List Int
 | 0,s,_=>s
 | k+1,s,n=>(AZ (f.getD n.toNat (0,[])).2).foldl (fun s a=>if s.1.getD a.2.toNat 0<0 then Dx f k s a.2 else s) (s.1.set n.toNat (s.2.length:Int),s.2++[n])
def Lp (l:List Int):Nat:=l.countP (fun x=>decide (x<0))
def Ad (f:List AE):Prop:=f.length≤100000∧∀x∈f,x.2.length≤100000∧∀a∈x.2,0≤a.2∧a.2<(f.length:Int)
def Sl (f:List AE) (s:List Int×List Int):Prop:=s.1.length=f.length∧s.2.length+Lp s.1≤f.length
theorem A0V {l:List Int} {n:Nat} {v:Int} (hn:n<l.length) (a:l.getD n 0<0) (d:0≤v):Lp (l.set n v)+1=Lp l:=by
 induction l generalizing n with
 | nil=>simp at hn
 | cons x r c =>
  cases n with
  | zero =>
   have b:x<0:=by simpa using a
   have:¬v<0:=by omega
   simp[Lp,AB5,b,this]
  | succ n =>
   have h1:=c (n:=n) (by simpa using hn) (by simpa using a);simp only[Lp,ABR,AB5]at h1 ⊢;omega
theorem mE {f:List AE} {s:List Int×List Int} {n:Int} (h:Sl f s) (d:0≤n) (hn:n<f.length) (b:s.1.getD n.toNat 0<0) :
  Sl f (s.1.set n.toNat (s.2.length:Int),s.2++[n])∧Lp (s.1.set n.toNat (s.2.length:Int))+1=Lp s.1:=by
 obtain⟨h1,c⟩:=h;have a:=A0V (l:=s.1) (n:=n.toNat) (v:=(s.2.length:Int)) (by omega) b (by omega);refine⟨⟨by simpa using h1,?_⟩,a⟩;simp only[IN,To];omega
theorem t5 (s:List (Int×Int)) (x:Int×Int):(Oe s x).Perm (x :: s):=by
 unfold Oe;refine(List.perm_append_comm.append_right _).trans ?_;simp
theorem Lg:∀(l s:List (Int×Int)),(l.foldl Oe s).Perm (l++s)
 | [],s=>List.Perm.refl _
 | x :: l,s=>by
  refine(Lg l (Oe s x)).trans ?_;refine(List.Perm.append_left l (t5 s x)).trans ?_;exact ACD
theorem E2 (l:List (Int×Int)):(AZ l).Perm l:=by
 have:=Lg l [];simpa[AZ] using this
theorem MS {f:List AE} (hf:Ad f) (n:Int):List.length (f.getD n.toNat (0,[])).2≤100000:=by
 by_cases h:n.toNat<f.length
 ·have a:f.getD n.toNat (0,[])∈f:=by
   rw[AS,An h];exact AAh h
  exact(hf.2 _ a).1
 ·rw[AS,iN (by omega)];simp
theorem TB {f:List AE} (hf:Ad f) {n:Int} {a:Int×Int} (ha:a∈AZ (f.getD n.toNat (0,[])).2):0≤a.2∧a.2<f.length:=by
 have ha:=(E2 _).mem_iff.1 ha;by_cases h:n.toNat<f.length
 ·have b:f.getD n.toNat (0,[])∈f:=by
   rw[AS,An h];exact AAh h
  exact(hf.2 _ b).2 a ha
 ·rw[AS,iN (by omega)]at ha;simp at ha
def EZ (f:List AE) (k:Nat) (s:List Int×List Int) (a:Int×Int):List Int×List Int:=if s.1.getD a.2.toNat 0<0 then Dx f k s a.2 else s
theorem Fq (f:List AE) (k:Nat) (s:List Int×List Int) (n:Int):Dx f (k+1) s n=(AZ (f.getD n.toNat (0,[])).2).foldl (EZ f k) (s.1.set n.toNat (s.2.length:Int),s.2++[n]):=rfl
theorem TC {f:List AE} {k:Nat} (i:∀(s:List Int×List Int) (n:Int),Sl f s→0≤n→n<f.length→s.1.getD n.toNat 0<0→Sl f (Dx f k s n)∧Lp (Dx f k s n).1≤Lp s.1) :
  ∀(l:List (Int×Int)) (t:List Int×List Int),(∀a∈l,0≤a.2∧a.2<(f.length:Int))→Sl f t→Sl f (l.foldl (EZ f k) t)∧Lp (l.foldl (EZ f k) t).1≤Lp t.1
 | [],t,_,d=>⟨d,No _⟩
 | a :: l,t,c,d=>by
  simp only[Rp];by_cases h:t.1.getD a.2.toNat 0<0
  ·obtain⟨j,m⟩:=i t a.2 d (c a (by simp)).1 (c a (by simp)).2 h;have e:EZ f k t a=Dx f k t a.2:=At h;rw[e];obtain⟨o,p⟩:=TC i l _ (fun b g=>c b (by simp[g])) j;exact⟨o,aT p m⟩
  ·have e:EZ f k t a=t:=As h;rw[e];exact TC i l t (fun b g=>c b (by simp[g])) d
theorem RP {f:List AE} (hf:Ad f):∀(k:Nat) (s:List Int×List Int) (n:Int),Sl f s→0≤n→n<f.length→s.1.getD n.toNat 0<0→Sl f (Dx f k s n)∧Lp (Dx f k s n).1≤Lp s.1
 | 0,s,n,h,_,_,_=>⟨h,No _⟩
 | k+1,s,n,h,h0,h1,d=>by
  obtain⟨e,g⟩:=mE h h0 h1 d;obtain⟨b,c⟩:=TC (RP hf k) _ _ (fun a ha=>TB hf ha) e;rw[Fq];exact⟨b,by simp only at c g;omega⟩
theorem NB {α β:Type} (g:β→α→β) (l:List α) (d:α) (t:β) {i:Nat} (hi:i<l.length):(l.take (i+1)).foldl g t=g ((l.take i).foldl g t) (l.getD i d):=by
 rw[Ax l d hi,ABx];rfl
def Lh (f:List AE) (s:List Int×List Int):List (Nat×Obj):=[(1,.box 123 true [.p E0 f,.sr 2 T3 0 s.1.length,.sr 3 T3 0 s.2.length]),(2,.arr 3 T3 s.1),(3,.arr 3 T3 s.2)]
theorem A0W (f:List AE) (hf:Ad f):∀(k:Nat) (s:List Int×List Int) (n:Int),Sl f s→0≤n→n<f.length→s.1.getD n.toNat 0<0→Lp s.1≤k →
  BB Tryz.prog 78 [.bp 1 [] 0,.p T3 n] (Lh f s) [1] (fun res M=>res=.raw (.tuple #[])∧M=Lh f (Dx f k s n)):=by
 intro k;induction k with
 | zero =>
  intro s n h0 h1 u B N;obtain⟨_,O⟩:=mE h0 h1 u B;omega
 | succ k J =>
  intro s n A w m x hk;obtain⟨num,j⟩:=s;obtain⟨t,v⟩:=mE A w m x;obtain⟨G,H⟩:=A;simp only at G H x t v hk;refine KJ [0,1,4,5,40,54] [] [] Tryz.func78 Tryz.ntmps78 (AF Xe AG) ?_;intro w0 K O0 ρ0 d Q R;simp only[Lh,Ak];repeat'(first|exact trivial|refine eS rfl ?_|refine AB ?_|refine rX d ?_ ?_|refine rC ?_ ?_<;>intro b<;>try(cases b;done))
  ·exact eV
  ·have:=hf.1;simp only[AO];omega
  ·have I:=MS hf n;exact⟨⟨w,m⟩,aT I (by omega)⟩
  ·have l:=fun a (ha:a∈AZ (f.getD n.toNat (0,[])).2)=>TB hf ha;have D:(AZ (f.getD n.toNat (0,[])).2).length≤100000:=by rw[Cj];exact MS hf n
   generalize C:AZ (f.getD n.toNat (0,[])).2=L at l D;generalize o:(num.set n.toNat (j.length:Int),j++[n])=s1 at t;have F:∀i,Sl f ((L.take i).foldl (EZ f k) s1)∧Lp ((L.take i).foldl (EZ f k) s1).1≤Lp s1.1:=fun i=>TC (RP hf k) _ _ (fun a ha=>l a (AA9 ha)) t;have m:num.set n.toNat (j.length:Int)=s1.1:=by rw[←o]
   have P:j++[n]=s1.2:=by rw[←o]
   rw[m]at v;refine AJ (ι:={i:Nat//i≤L.length}) (fun i=>⟨[(0,.bp 1 [] 0),(1,.p T3 n),(4,.p DS L),(5,.p (.int .i64) (i.1:Int))],Lh f ((L.take i.1).foldl (EZ f k) s1)⟩) (fun i=>L.length-i.1) ⟨0,by omega⟩ (A69 [36] (AC [(1,.nm 1),(2,.nm 2),(3,.nm 3)] rfl rfl ?_ ?_)) (fun i=>?_)
   ·simp only[Lh];first|exact eN|refine eM ?_
    simp only[List.foldl_nil];rw[←o];simp
   ·first|exact eN|refine eM ?_
   ·obtain⟨i,hi⟩:=i;obtain⟨r,E⟩:=F i;have q:=fun(h:i<L.length)=>NB (EZ f k) L (0,0) s1 h;generalize z:(L.take i).foldl (EZ f k) s1=c at r E q;simp only[Lh];repeat'(first|exact trivial|refine eS rfl ?_|refine AB ?_|refine rX d ?_ ?_|refine rC ?_ ?_<;>intro b<;>try(cases b;done))
    ·have g:i<L.length:=by exact eV
     have:=l _ (AD L (0,0) g);obtain⟨h1,u⟩:=r;refine⟨by exact eV,this.1,?_⟩;rw[h1];exact this.2
    ·have g:i<L.length:=by exact eV
     have y:=l _ (AD L (0,0) g);refine cP 6 d ?_ ?_
     ·exact eV
     ·refine rM d (J c (L.getD i (0,0)).2 r y.1 y.2 (by simpa using b) (by omega)) [(1,.nm 1),(2,.nm 2),(3,.nm 3)] [2,3] ?_ ?_ ?_
      ·first|exact eN|refine eM ?_
      ·simp only[Lh];first|exact eN|refine eM ?_
      ·rintro _ _ ⟨rfl,rfl⟩;refine⟨[(1,.nm 1),(2,.nm 2),(3,.nm 3)],.raw (.tuple #[]),Lh f (Dx f k c (L.getD i (0,0)).2),rfl,rfl,?_,?_,rfl,rfl,CM ?_⟩
       ·simp only[Lh];first|exact eN|refine eM ?_
       ·first|exact eN|refine eM ?_
       ·repeat'(first|exact trivial|refine eS rfl ?_|refine AB ?_|refine rX d ?_ ?_|refine rC ?_ ?_<;>intro b<;>try(cases b;done))
        ·exact eV
        ·have e:EZ f k c (L.getD i (0,0))=Dx f k c (L.getD i (0,0)).2:=At (by simpa using b);refine⟨⟨i+1,by omega⟩,by simp only;omega,AC [(1,.nm 1),(2,.nm 2),(3,.nm 3)] rfl rfl ?_ ?_⟩
         ·simp only[Lh,q g,e];first|exact eN|refine eM ?_
         ·first|exact eN|refine eM ?_
    ·exact eV
    ·have g:i<L.length:=by exact eV
     have e:EZ f k c (L.getD i (0,0))=c:=As (by simpa using b);refine⟨⟨i+1,by omega⟩,by simp only;omega,AC [(1,.nm 1),(2,.nm 2),(3,.nm 3)] rfl rfl ?_ ?_⟩
     ·simp only[q g,e];first|exact eN|refine eM ?_
     ·first|exact eN|refine eM ?_
    ·have hk:L.take i=L:=BY (by exact eV);rw[hk]at z;have h1:Dx f (k+1) (num,j) n=c:=by rw[Fq,C,←z,←o]
     rw[h1];exact fM d [] (.raw (.tuple #[])) rfl ⟨rfl,rfl⟩
end
section
attribute [local go_sem] QH
def gQ (f:List AE) (s:List Int×List Int):Prop:=∀n∈s.2,0≤n∧n<(f.length:Int)
theorem Ur {f:List AE} (hf:Ad f):∀(k:Nat) (s:List Int×List Int) (n:Int),gQ f s→0≤n→n<f.length→gQ f (Dx f k s n)
 | 0,s,n,h,_,_=>h
 | k+1,s,n,h,h0,h1=>by
  rw[Fq];have key:∀(l:List (Int×Int)) (t:List Int×List Int),(∀a∈l,0≤a.2∧a.2<(f.length:Int))→gQ f t→gQ f (l.foldl (EZ f k) t):=by
   intro l;induction l with
   | nil=>intro t _ d;exact d
   | cons a l i =>
    intro t e d;simp only[Rp];refine i _ (fun b g=>e b (by simp[g])) ?_;unfold EZ;split
    ·exact Ur hf k t a.2 d (e a (by simp)).1 (e a (by simp)).2
    ·exact d
  refine key _ _ (fun a ha=>TB hf ha) ?_;intro m c;simp only[OF,AAz]at c;rcases c with c|rfl
  ·exact h m c
  ·exact⟨h0,h1⟩
def GP (f:List AE) (root:Int):List Int×List Int:=Dx f f.length (List.replicate f.length (-1),[]) root
def WS (num:List Int) (a:Int×Int):Int×Int:=(a.1,num.getD a.2.toNat 0)
def MT (f:List AE) (num:List Int) (n:Int):AE:=((f.getD n.toNat (0,[])).1,(AZ (f.getD n.toNat (0,[])).2).map (WS num))
def JQ (f:List AE) (root:Int):List AE:=(GP f root).2.map (MT f (GP f root).1)
theorem gR (m:Nat):Lp (List.replicate m (-1))=m:=by
 induction m with
 | zero=>rfl
 | succ m a=>simp only[Lp,ACh,AB5]at a ⊢;simp[a]
theorem tr0 (f:List AE):Sl f (List.replicate f.length (-1),[]):=⟨by simp,by simp[gR]⟩
theorem pX {f:List AE} {n:Int} (h0:0≤n) (h1:n<f.length):(List.replicate f.length (-1:Int)).getD n.toNat 0<0:=by
 have:n.toNat<f.length:=by omega
 simp[AS,AAF,this]
theorem pY {f:List AE} (hf:Ad f) {n:Int} (h0:0≤n) (h1:n<f.length):Sl f (GP f n)∧gQ f (GP f n) :=
 ⟨(RP hf _ _ n (tr0 f) h0 h1 (pX h0 h1)).1,Ur hf _ _ n (fun m a=>by simp at a) h0 h1⟩
theorem Us {α b:Type} (g:α→b) (h:b→α) (L:List α) (d:α) {k:Nat} (hk:k<L.length) (u:α→α):((L.take k).map u++L.drop k).set k (u (L.getD k d))=(L.take (k+1)).map u++L.drop (k+1)∧((L.take k).map u++L.drop k).getD k d=L.getD k d:=by
 have h1:((L.take k).map u).length=k:=by simp;omega
 have a:L.drop k=L.getD k d :: L.drop (k+1):=by
  rw[aS hk,AS,An hk];rfl
 constructor
 ·rw[Ax L d hk,ABo _ _ (by omega),h1,AB1,a];simp
 ·rw[AS,AA4 (by omega),h1,AB1,a];rfl
def pZ:Ae:={ ins:=[E0,T3],pre:=fun(f,n,_)=>Ad f∧0≤n∧n<(List.length f:Int),out:=fun(f,n,_)=>[.p E0 (JQ f n)] }
theorem A3k:Ao Tryz.prog 54 pZ:=by
 refine fK [0,1,2,4,5,6,7,8,9,10,11,19,40,60] Tryz.func54 Tryz.ntmps54 (AF Xe AG) ?_;rintro w0 O0 ⟨f,root,u⟩ g-⟨hf,l,m⟩;simp only[pZ,AM];have G:=hf.1;repeat'(first|exact trivial|refine eS rfl ?_|refine AB ?_|refine rX g ?_ ?_|refine rC ?_ ?_<;>intro d<;>try(cases d;done))
 refine AJ (ι:={i:Nat//i≤f.length}) (fun i=>⟨[(1,.p T3 root),(2,.bp 2 [] 0),(4,.bp 4 [] 0),(5,.bp 14 [] 0),(6,.p (.int .i64) (i.1:Int))],[(2,.box 25 true [.p F6 f]),(4,.box 25 true [.raw (.slice none 0 0)]),(14,.box 123 true [.p E0 f,.sr 10 T3 0 i.1,.raw (.slice none 0 0)]),(10,.arr 3 T3 (List.replicate i.1 (-1)))]⟩) (fun i=>f.length-i.1) ⟨0,by omega⟩ (AC [(2,.nm 2),(4,.nm 4),(14,.nm 14),(10,.nil)] rfl rfl ?_ ?_) (fun i=>?_)
 ·first|exact eN|refine eM ?_
  rfl
 ·first|exact eN|refine eM ?_
 ·obtain⟨i,hi⟩:=i;repeat'(first|exact trivial|refine eS rfl ?_|refine AB ?_|refine rX g ?_ ?_|refine rC ?_ ?_<;>intro d<;>try(cases d;done))
  ·simp only[AO];omega
  ·exact eV
  ·have hi:i<List.length f:=by exact eV
   refine⟨⟨i+1,by omega⟩,by simp only;omega,AC [(2,.nm 2),(4,.nm 4),(14,.nm 14),(10,.nm 10)] rfl rfl ?_ ?_⟩
   ·first|exact eN|refine eM ?_
    rw[List.replicate_succ'];simp
   ·first|exact eN|refine eM ?_
  ·have A:i=List.length f:=by exact eV
   subst A;have w:=pY hf l m;refine cP 2 g ?_ ?_
   ·trivial
   ·refine rM g (A0W f hf (List.length f) (List.replicate (List.length f) (-1),[]) root (tr0 f) l m (pX l m) (by rw[gR];exact No _)) [(1,.nm 14),(2,.nm 10),(3,.nil)] [10] ?_ ?_ ?_
    ·first|exact eN|refine eM ?_
    ·simp only[Lh];first|exact eN|refine eM ?_
     simp
    ·rintro _ _ ⟨rfl,rfl⟩;refine⟨[(14,.nm 1),(101,.nm 2),(102,.nm 3)],.raw (.tuple #[]),[(14,.box 123 true [.p E0 f,.sr 101 T3 0 (GP f root).1.length,.sr 102 T3 0 (GP f root).2.length]),(101,.arr 3 T3 (GP f root).1),(102,.arr 3 T3 (GP f root).2)],rfl,rfl,?_,?_,rfl,rfl,CM ?_⟩
     ·simp only[Lh,GP];first|exact eN|refine eM ?_
     ·first|exact eN|refine eM ?_
     ·have z:JQ f root=(GP f root).2.map (MT f (GP f root).1):=rfl;rw[z];generalize GP f root=s at w;obtain⟨num,c⟩:=s;obtain⟨⟨r,t⟩,j⟩:=w;simp only at r t;have j:∀n∈c,0≤n∧n<(List.length f:Int):=j;repeat'(first|exact trivial|refine eS rfl ?_|refine AB ?_|refine rX g ?_ ?_|refine rC ?_ ?_<;>intro d<;>try(cases d;done))
      refine AJ (ι:={i:Nat//i≤c.length}) (fun i=>⟨[(2,.bp 2 [] 0),(4,.bp 4 [] 0),(5,.bp 14 [] 0),(7,.bp 7 [] 0),(8,.p (.int .i64) (i.1:Int))],[(2,.box 25 true [.p F6 f]),(4,.box 25 true [.raw (.slice none 0 0)]),(14,.box 123 true [.p E0 f,.sr 101 T3 0 num.length,.sr 102 T3 0 c.length]),(101,.arr 3 T3 num),(102,.arr 3 T3 c),(7,.box 25 true [.sr 200 Ox 0 i.1]),(200,.arr 49 Ox ((c.take i.1).map (MT f num)))]⟩) (fun i=>c.length-i.1) ⟨0,by omega⟩ (AC [(2,.nm 2),(4,.nm 4),(14,.nm 14),(101,.nm 101),(102,.nm 102),(7,.nm 7),(200,.nil)] rfl rfl ?_ ?_) (fun i=>?_)
      ·first|exact eN|refine eM ?_
      ·first|exact eN|refine eM ?_
      ·obtain⟨i,hi⟩:=i;repeat'(first|exact trivial|refine eS rfl ?_|refine AB ?_|refine rX g ?_ ?_|refine rC ?_ ?_<;>intro d<;>try(cases d;done))
       ·have hi:i<c.length:=by exact eV
        exact⟨by exact eV,j _ (AD c 0 hi)⟩
       ·exact aT (MS hf _) (by omega)
       ·have hi:i<c.length:=by exact eV
        have q:=fun a (ha:a∈AZ (f.getD (Int.toNat (c.getD i 0)) (0,[])).2)=>TB hf ha;have v:MT f num (c.getD i 0)=((f.getD (Int.toNat (c.getD i 0)) (0,[])).1,(AZ (f.getD (Int.toNat (c.getD i 0)) (0,[])).2).map (WS num)):=rfl;have B:=MS hf (c.getD i 0);generalize List.getD f (Int.toNat (c.getD i 0)) (0,[])=x at *;obtain⟨E,o⟩:=x;simp only at q v B;have F:=Cj o;generalize AZ o=L at *;refine AJ (ι:={k:Nat//k≤L.length}) (fun k=>⟨[(2,.bp 2 [] 0),(4,.bp 4 [] 0),(5,.bp 14 [] 0),(7,.bp 7 [] 0),(8,.p (.int .i64) (i:Int)),(9,.bp 9 [] 0),(10,.sr 56 BI 0 L.length),(11,.p (.int .i64) (k.1:Int))],[(56,.arr 53 BI ((L.take k.1).map (WS num)++L.drop k.1)),(9,.box 49 true [.p T3 E,.p DS o]),(2,.box 25 true [.p F6 f]),(4,.box 25 true [.raw (.slice none 0 0)]),(14,.box 123 true [.p E0 f,.sr 101 T3 0 num.length,.sr 102 T3 0 c.length]),(101,.arr 3 T3 num),(102,.arr 3 T3 c),(7,.box 25 true [.sr 200 Ox 0 i]),(200,.arr 49 Ox ((c.take i).map (MT f num)))]⟩) (fun k=>L.length-k.1) ⟨0,by omega⟩ (AC [(2,.nm 2),(4,.nm 4),(14,.nm 14),(101,.nm 101),(102,.nm 102),(7,.nm 7),(200,.nm 200),(9,.nm 9),(56,.nm 56)] rfl rfl ?_ ?_) (fun k=>?_)
        ·first|exact eN|refine eM ?_
        ·first|exact eN|refine eM ?_
        ·obtain⟨k,hk⟩:=k;repeat'(first|exact trivial|refine eS rfl ?_|refine AB ?_|refine rX g ?_ ?_|refine rC ?_ ?_<;>intro d<;>try(cases d;done))
         ·have h:k<L.length:=by exact eV
          have e:=(Us (WS num) (fun b=>b) L (0,0) h (WS num)).2;rw[e];have:=q _ (AD L (0,0) h);rw[r];exact⟨by exact eV,this,by exact eV⟩
         ·exact eV
         ·have h:k<L.length:=by exact eV
          have e:=Us (WS num) (fun b=>b) L (0,0) h (WS num);refine⟨⟨k+1,by omega⟩,by simp only;omega,AC [(2,.nm 2),(4,.nm 4),(14,.nm 14),(101,.nm 101),(102,.nm 102),(7,.nm 7),(200,.nm 200),(9,.nm 9),(56,.nm 56)] rfl rfl ?_ ?_⟩
          ·first|exact eN|refine eM ?_
           rw[e.2];exact e.1
          ·first|exact eN|refine eM ?_
         ·simp only[AO];have:=t;omega
         ·exact eV
         ·have h:L.take k=L:=BY (by exact eV);have y:L.drop k=[]:=IF (by exact eV);refine⟨⟨i+1,by omega⟩,by simp only;omega,AC [(2,.nm 2),(4,.nm 4),(14,.nm 14),(101,.nm 101),(102,.nm 102),(7,.nm 7),(200,.nm 200)] rfl rfl ?_ ?_⟩
          ·first|exact eN|refine eM ?_
           rw[h,y,AAa,Ax c 0 hi,AAA,AA1,ACp,v];have C:List.take i ((c.take i).map (MT f num))=(c.take i).map (MT f num):=BY (by rw[f6,OS];omega);have D:List.take L.length (L.map (WS num))=L.map (WS num):=BY (by rw[f6];omega);rw[C,D]
          ·first|exact eN|refine eM ?_
       ·have hk:c.take i=c:=BY (by exact eV);rw[hk];refine fI g [.cell 4 25] (by first|exact eR|refine Ym ?_;exact BY (by rw[f6];exact eV))
end
section
attribute [local go_sem] A0T pZ
theorem Ut {n:Int}:∀ {l seen:List (Int×Int)},F8 n seen l=0→∀a∈l,0≤a.1∧0≤a.2∧a.2<n
 | [],_,_,a,ha=>by cases ha
 | x :: l,seen,h,a,ha=>by
  simp only[F8]at h;split at h
  ·cases h
  ·split at h
   ·cases h
   ·rename_i h1 _;rcases By.1 ha with rfl|ha
    ·omega
    ·exact Ut h a ha
theorem Io {m:Int}:∀ {f:List (Int×List (Int×Int))},F9 m f=0→∀x∈f,0≤x.1∧∀a∈x.2,0≤a.1∧0≤a.2∧a.2<m
 | [],_,x,c=>by cases c
 | y :: f,h,x,c=>by
  simp only[F9]at h;split at h
  ·cases h
  ·split at h
   ·rename_i h1 b;exact absurd h b
   ·rename_i h1 b;have b:GN y.2 m=0:=Do b;rcases By.1 c with rfl|c
    ·exact⟨by omega,Ut b⟩
    ·exact Io h x c
def Uu (f:List (Int×List (Int×Int))):Prop:=∀x∈f,x.2.length≤100000
theorem Ip {f:List (Int×List (Int×Int))} (h:B3 f=0) (hs:Uu f):Ad f∧0<f.length:=by
 unfold B3 at h;split at h
 ·cases h
 ·split at h
  ·cases h
  ·refine⟨⟨by omega,fun x b=>⟨hs x b,fun a ha=>?_⟩⟩,by omega⟩;have:=(Io h x b).2 a ha;exact⟨this.2.1,this.2.2⟩
def A2 (f:List AE):List AE×Int:=if B3 f=0 then (JQ f 0,0) else ([],B3 f)
def ZA:Ae:={ ins:=[E0],pre:=fun(f,_)=>Uu f,out:=fun(f,_)=>[.p E0 (A2 f).1,.p WA (A2 f).2] }
theorem A0X:Ao Tryz.prog 70 ZA:=by
 refine fK [0,1,2,3,4,8] Tryz.func70 Tryz.ntmps70 (AF A3j (AF A3k AG)) ?_;rintro w0 O0 ⟨f,u⟩ b-hs;simp only[ZA,AM];repeat'(first|exact trivial|refine eS rfl ?_|refine AB ?_|refine rX b ?_ ?_|refine rC ?_ ?_<;>intro a<;>try(cases a;done))
 ·have h:¬B3 f=0:=by simpa using a
  have e:A2 f=([],B3 f):=As h;exact fI b [.cell 2 25,.tmp 3] (by rw[e];exact eR)
 ·have h:B3 f=0:=by simpa using a
  have:=Ip h hs;exact⟨this.1,by exact eV⟩
 ·have h:B3 f=0:=by simpa using a
  have e:A2 f=(JQ f 0,0):=At h;exact fI b [.cell 2 25,.tmp 3] (by rw[e];exact eR)
end
def gS:Ae:={ ins:=[T3],pre:=fun _=>True,out:=fun(t,_)=>[.p E0 [(t,[])]] }
theorem A3l:Ao Tryz.prog 35 gS:=by
 refine fK [0,2] Tryz.func35 Tryz.ntmps35 AG ?_;rintro w0 O0 ⟨t,u⟩ a - -;simp only[gS,AM];repeat'(first|exact trivial|refine eS rfl ?_|refine AB ?_|refine rX a ?_ ?_|refine rC ?_ ?_<;>intro b<;>try(cases b;done))
 exact fI a [.cell 2 25]
section
attribute [local go_sem] Uk ZA LN
def ftB (a:Int×Int):Bool:=decide (a.1<64)
def ndB (x:AE):Bool:=decide (x.1<256)&&x.2.all ftB
def Dy (f:List AE):Bool:=HQ f&&f.all ndB&&((A2 f).2==0&&(Ct (A2 f).1 f==0))
theorem MU {f:List AE} (h:HQ f=true):f.length≤12∧∀x∈f,x.2.length≤12:=by
 unfold HQ at h;simp only[AT,DO,GO]at h;exact h
theorem mF {f:List AE} (hf:Ad f) {n:Int} (h0:0≤n) (h1:n<f.length):B2 (JQ f n):=by
 obtain⟨⟨b,c⟩,_⟩:=pY hf h0 h1;have d:=hf.1;refine⟨?_,fun x a=>?_⟩
 ·unfold JQ;rw[f6];omega
 ·obtain⟨m,_,rfl⟩:=IS.1 a;unfold MT;simp only[f6,Cj];exact MS hf m
theorem SP {f:List AE} (hs:Uu f):B2 (A2 f).1:=by
 unfold A2;split
 ·rename_i h;obtain⟨h1,b⟩:=Ip h hs;exact mF h1 (by omega) (by omega)
 ·exact⟨by simp,fun x a=>by cases a⟩
end
section
attribute [local go_sem] ZA LN
def mG (h:AI) (a:Int×Int):Bool:=decide (a.1<(h.2.length:Int))
def SQ (h:AI) (x:AE):Bool:=decide (x.1<(h.1.length:Int))&&x.2.all (mG h)
def CN (h:AI) (f:List AE):Int:=if (A2 f).2≠0 then (A2 f).2 else if f.all (SQ h)=false then 2 else if (Ct f (A2 f).1==0)=false then 3 else 0
def QI:Ae:={ ins:=[Ga,E0],pre:=fun(_,f,_)=>B2 f,out:=fun(h,f,_)=>[.p WA (CN h f)] }
theorem t6:Ao Tryz.prog 40 QI:=by
 refine fK [0,1,2,3,4,5,6,7,8,9,16,22,35,40,52,56] Tryz.func40 Tryz.ntmps40 (AF A0X (AF QG AG)) ?_;rintro w0 O0 ⟨⟨b,hf⟩,f,u⟩ d-hs;have hs:B2 f:=hs;simp only[QI,AM];repeat'(first|exact trivial|refine eS rfl ?_|refine AB ?_|refine rX d ?_ ?_|refine rC ?_ ?_<;>intro a<;>try(cases a;done))
 ·exact hs.2
 ·have h1:CN (b,hf) f=(A2 f).2:=by unfold CN;rw[At a]
  exact fI d [.tmp 4] (by rw[h1];exact eR)
 ·have t:(A2 f).2=0:=by simpa using a
  have q:=SP hs.2;have w:=hs.1;have g:CN (b,hf) f=if f.all (SQ (b,hf))=false then 2 else if (Ct f (A2 f).1==0)=false then 3 else 0:=by unfold CN;rw[As (by rw[t];simp)]
  refine AJ (ι:={i:Nat//i≤f.length∧(f.take i).all (SQ (b,hf))=true}) (fun i=>⟨[(2,.bp 2 [] 0),(3,.bp 3 [] 0),(5,.bp 5 [] 0),(7,.p (.int .i64) (i.1:Int))],[(2,.box 31 true [.p S5 b,.p WB hf]),(3,.box 25 true [.p F6 f]),(5,.box 25 true [.p F6 (A2 f).1])]⟩) (fun i=>f.length-i.1) ⟨0,by simp⟩ (AC [(2,.nm 2),(3,.nm 3),(5,.nm 5)] rfl rfl ?_ ?_) (fun i=>?_)
  ·first|exact eN|refine eM ?_
  ·first|exact eN|refine eM ?_
  ·obtain⟨i,hi,l⟩:=i;have r:=fun h:i<f.length=>Gc f (0,[]) (SQ (b,hf)) h;simp only;repeat'(first|exact trivial|refine eS rfl ?_|refine AB ?_|refine rX d ?_ ?_|refine rC ?_ ?_<;>intro a<;>try(cases a;done))
   ·exact a
   ·have c:i<f.length:=If.1 (by assumption);have e:f.all (SQ (b,hf))=false:=by
     rw[AAR];refine⟨_,AD f (0,[]) c,?_⟩;unfold SQ;rw[ABO (AAS.2 a)];simp
    rw[At e]at g;exact fI d [.tmp 4] (by rw[g];exact eR)
   ·have c:i<f.length:=If.1 (by assumption);have n:=AD f (0,[]) c;have o:SQ (b,hf) (f.getD i (0,[]))=(f.getD i (0,[])).2.all (mG (b,hf)):=by
     unfold SQ;rw[ABr (show (f.getD i (0,[])).1<(b.length:Int) from a)];rfl
    have v:(f.getD i (0,[])).2.length≤100000:=hs.2 _ n;refine AJ (ι:={k:Nat//k≤(f.getD i (0,[])).2.length∧((f.getD i (0,[])).2.take k).all (mG (b,hf))=true}) (fun k=>⟨[(2,.bp 2 [] 0),(3,.bp 3 [] 0),(5,.bp 5 [] 0),(7,.p (.int .i64) (i:Int)),(8,.bp 8 [] 0),(9,.p (.int .i64) (k.1:Int))],[(2,.box 31 true [.p S5 b,.p WB hf]),(3,.box 25 true [.p F6 f]),(5,.box 25 true [.p F6 (A2 f).1]),(8,.box 49 true [.p T3 (f.getD i (0,[])).1,.p DS (f.getD i (0,[])).2])]⟩) (fun k=>(f.getD i (0,[])).2.length-k.1) ⟨0,by simp⟩ (AC [(2,.nm 2),(3,.nm 3),(5,.nm 5),(8,.nm 8)] rfl rfl ?_ ?_) (fun k=>?_)
    ·first|exact eN|refine eM ?_
    ·first|exact eN|refine eM ?_
    ·obtain⟨k,hk,m⟩:=k;have s:=fun h:k<(f.getD i (0,[])).2.length=>Gc (f.getD i (0,[])).2 (0,0) (mG (b,hf)) h;simp only;repeat'(first|exact trivial|refine eS rfl ?_|refine AB ?_|refine rX d ?_ ?_|refine rC ?_ ?_<;>intro a<;>try(cases a;done))
     ·exact a
     ·have j:k<(f.getD i (0,[])).2.length:=If.1 (by assumption);have e:f.all (SQ (b,hf))=false:=by
       rw[AAR];refine⟨_,n,?_⟩;rw[o,AAR.2 ⟨_,AD (f.getD i (0,[])).2 (0,0) j,by unfold mG;rw[ABO (AAS.2 a)];simp⟩];simp
      rw[At e]at g;exact fI d [.tmp 4] (by rw[g];exact eR)
     ·exact eV
     ·have j:k<(f.getD i (0,[])).2.length:=If.1 (by assumption);refine⟨⟨k+1,j,?_⟩,by simp only;omega,AC [(2,.nm 2),(3,.nm 3),(5,.nm 5),(8,.nm 8)] rfl rfl ?_ ?_⟩
      ·rw[s j,m];unfold mG;exact ABr a
      ·first|exact eN|refine eM ?_
      ·first|exact eN|refine eM ?_
     ·exact eV
     ·have j:(f.getD i (0,[])).2.take k=(f.getD i (0,[])).2:=BY (gO.1 a);rw[j]at m;refine⟨⟨i+1,c,?_⟩,by simp only;omega,AC [(2,.nm 2),(3,.nm 3),(5,.nm 5)] rfl rfl ?_ ?_⟩
      ·rw[r c,l,o,m];rfl
      ·first|exact eN|refine eM ?_
      ·first|exact eN|refine eM ?_
   ·exact⟨hs,q⟩
   ·have c:f.take i=f:=BY (gO.1 (by assumption));rw[c]at l;rw[As (by rw[l];simp),At (by simpa using a)]at g;exact fI d [.tmp 4] (by rw[g];exact eR)
   ·have c:f.take i=f:=BY (gO.1 (by assumption));rw[c]at l;rw[As (by rw[l];simp),As (by rw[a];simp)]at g;exact fI d [.tmp 4] (by rw[g];exact eR)
def Jv (h:AI) (f:List AE):Bool:=HQ f&&CN h f==0
end
section
attribute [local go_sem] MQ QE Uk QI
def AP (d:List AH):AI:=if d.length≤12∧(Az d).2=0 then (Az d).1 else (Az Ik).1
def Nr (h:AI) (l:List (List AE)):Bool:=l.all (Jv h)
def mH:Ae:={ ins:=[T3],pre:=fun _=>True,out:=fun(t,_)=>[.p E0 [(t,[])]] }
theorem A0Y:Ao Tryz.prog 60 mH:=by
 refine fK [0,2] Tryz.func60 Tryz.ntmps60 AG ?_;rintro w0 O0 ⟨t,u⟩ a - -;simp only[mH,AM];repeat'(first|exact trivial|refine eS rfl ?_|refine AB ?_|refine rX a ?_ ?_|refine rC ?_ ?_<;>intro b<;>try(cases b;done))
 exact fI a [.cell 2 25]
end
section
def mI:Ae:={ ins:=[EV,T3],pre:=fun(_,i,_)=>(0:Int)≤i,out:=fun(b,i,_)=>[.p Pk (GK b i)],lend:=true }
attribute [local go_sem] mI
theorem A0Z:Ao Tryz.prog 107 mI:=by
 refine fK [0,1,4,8] Tryz.func107 Tryz.ntmps107 AG ?_;rintro w0 O0 ⟨b,i,u⟩ c-hi;simp only[mI,AM];repeat'(first|exact trivial|refine eS rfl ?_|refine AB ?_|refine rX c ?_ ?_|refine rC ?_ ?_<;>intro a<;>try(cases a;done))
 ·exact⟨hi,a⟩
 ·have h1:GK b i=b.getD i.toNat 0:=by unfold GK;rw[At a]
  exact fI c [.tmp 4] (by rw[h1];exact eR)
 ·have h1:GK b i=0:=by unfold GK;rw[As (AAS.2 a)]
  exact fI c [.tmp 4] (by rw[h1];exact eR)
def MV (a b:List Int):Bool:=(List.range a.length).all fun i=>B7 .andNot .u64 (a.getD i 0) (GK b (i:Int))==0
def gT (a b:List Int) (n:Nat):Bool:=(List.range n).all fun i=>B7 .andNot .u64 (a.getD i 0) (GK b (i:Int))==0
theorem mJ (a b:List Int) (n:Nat):gT a b (n+1)=(gT a b n&&B7 .andNot .u64 (a.getD n 0) (GK b (n:Int))==0):=by
 unfold gT;rw[AAe,ABy];simp
def QJ:Ae:={ ins:=[EV,EV],pre:=fun _=>True,out:=fun(a,b,_)=>[.p .bool (MV a b)],lend:=true }
attribute [local go_sem] QJ
theorem Uv:Ao Tryz.prog 69 QJ:=by
 refine fK [0,1,4,5,6,7,8,9,10,19] Tryz.func69 Tryz.ntmps69 (AF A0Z AG) ?_;rintro w0 O0 ⟨a,b,u⟩ e ⟨⟨g,-⟩,-⟩ -;simp only[AO]at g;simp only[QJ,AM];repeat'(first|exact trivial|refine eS rfl ?_|refine AB ?_|refine rX e ?_ ?_|refine rC ?_ ?_<;>intro c<;>try(cases c;done))
 have h:MV a b=gT a b a.length:=rfl;refine AJ (ι:={n:Nat//n≤a.length∧gT a b n=true}) (fun n=>⟨[(1,.p EV b),(7,.p EV a),(8,.p (.int .i64) (a.length:Int)),(9,.p (.int .i64) (n.1:Int))],[]⟩) (fun n=>a.length-n.1) ⟨0,Is _,rfl⟩ (AC [] rfl rfl ?_ ?_) (fun n=>?_)
 ·first|exact eN|refine eM ?_
 ·first|exact eN|refine eM ?_
 ·obtain⟨n,hn,f⟩:=n;have hs:=mJ a b n;simp only;repeat'(first|exact trivial|refine eS rfl ?_|refine AB ?_|refine rX e ?_ ?_|refine rC ?_ ?_<;>intro c<;>try(cases c;done))
  ·exact c
  ·have d:n<a.length:=by exact eV
   have h1:MV a b=false:=by
    unfold MV;rw[AAR];exact⟨n,nO.2 d,by simpa using c⟩
   exact fI e [.tmp 4] (by rw[h1];exact eR)
  ·exact eV
  ·have d:n<a.length:=by exact eV
   refine⟨⟨n+1,d,?_⟩,by simp only;omega,AC [] rfl rfl ?_ ?_⟩
   ·rw[hs,f];simpa using c
   ·first|exact eN|refine eM ?_
   ·first|exact eN|refine eM ?_
  ·have d:n=a.length:=by exact eV
   subst d;exact fI e [.tmp 4] (by rw[h,f];exact eR)
abbrev WT:MP:=(ByteArray.empty,[],[],[])
def BG (h:AI) (a b:Int):Bool:=MV (h.1.getD b.toNat WT).2.1 (h.1.getD a.toNat WT).2.1
def Xf:Ae:={ ins:=[Ga,T3,T3],pre:=fun(h,a,b,_)=>((0:Int)≤a∧a<(List.length (h:AI).1:Int))∧((0:Int)≤b∧b<(List.length (h:AI).1:Int)),out:=fun(h,a,b,_)=>[.p .bool (BG h a b)],lend:=true }
theorem p3:Ao Tryz.prog 39 Xf:=by
 refine fK [0,1,2,3,6] Tryz.func39 Tryz.ntmps39 (AF Uv AG) ?_;rintro w0 O0 ⟨⟨f,hf⟩,a,b,u⟩ c-⟨ha,e⟩;simp only[Xf,AM];repeat'(first|exact trivial|refine eS rfl ?_|refine AB ?_|refine rX c ?_ ?_|refine rC ?_ ?_<;>intro d<;>try(cases d;done))
 ·exact⟨e,ha⟩
 ·exact fI c [.tmp 6] (by unfold BG;exact eR)
end
section
attribute [local go_sem] QJ
def Uw:Ae:={ ins:=[EV],pre:=fun(b,_)=>List.length b≤100000,out:=fun(b,_)=>[.p EV (BK b)] }
attribute [local go_sem] Uw
theorem mK:Ao Tryz.prog 161 Uw:=by
 refine fK [0,2,3,15] Tryz.func161 Tryz.ntmps161 AG ?_;rintro w0 O0 ⟨b,u⟩ d-f;have f:b.length≤100000:=f;simp only[Uw,AM];repeat'(first|exact trivial|refine eS rfl ?_|refine AB ?_|refine rX d ?_ ?_|refine rC ?_ ?_<;>intro c<;>try(cases c;done))
 refine AJ (ι:={n:Nat//n≤b.length∧Ca b n=Ca b b.length}) (fun n=>⟨[(0,.p EV b),(3,.p (.int .i64) (n.1:Int))],[]⟩) (fun n=>n.1) ⟨b.length,No _,rfl⟩ (AC [] rfl rfl ?_ ?_) (fun n=>?_)
 ·first|exact eN|refine eM ?_
 ·first|exact eN|refine eM ?_
 ·obtain⟨n,hn,g⟩:=n;simp only;repeat'(first|exact trivial|refine eS rfl ?_|refine AB ?_|refine rX d ?_ ?_|refine rC ?_ ?_<;>intro c<;>try(cases c;done))
  ·constructor
   ·exact eV
   ·intro h;refine⟨?_,?_⟩<;>exact eV
  ·exact eV
  ·obtain⟨h1,a⟩:=c;obtain⟨m,rfl⟩:∃m,n=m+1:=⟨n-1,by omega⟩;have e:(((m+1:Nat):Int)-1)=(m:Int):=by omega
   rw[e]at a;have a:b.getD m 0=0:=a;have j:Ca b m=Ca b b.length:=by
    rw[←g];show _=if b.getD m 0=0 then Ca b m else m+1
    rw[At a]
   refine⟨⟨m,by omega,j⟩,by simp,AC [] rfl rfl ?_ ?_⟩
   ·first|exact eN|refine eM ?_
   ·simp only[e];first|exact eN|refine eM ?_
  ·exact gO.2 hn
  ·have i:Ca b n=n:=by
    cases n with
    | zero=>rfl
    | succ m =>
     have e:(((m+1:Nat):Int)-1)=(m:Int):=by omega
     rw[e]at c;have a:=c (by omega);have a:¬b.getD m 0=0:=a;show (if b.getD m 0=0 then Ca b m else m+1)=m+1;rw[As a]
   have h1:BK b=b.take n:=by unfold BK;rw[←g,i]
   rw[←h1];exact fI d [.tmp 2]
def G9 (g:Nat→Int) (n i:Nat):List Int:=(List.range n).map fun j=>if j<i then g j else 0
theorem Xg (g:Nat→Int) (n i:Nat):(G9 g n i).length=n:=by simp[G9]
theorem mL (g:Nat→Int) (n:Nat):G9 g n 0=List.replicate n 0:=by
 apply AA8
 ·simp[G9]
 ·intro j h1 a;simp[G9]
theorem t7 (g:Nat→Int) (n i:Nat):(G9 g n i).set i (g i)=G9 g n (i+1):=by
 apply AA8
 ·simp[G9]
 ·intro j h1 b;simp only[G9,ACE,ABd,ABb];split
  ·rename_i e;rw[At (by omega),e]
  ·rename_i e;by_cases a:j<i
   ·rw[At a,At (by omega)]
   ·rw[As a,As (by omega)]
def ZB (a b:List Int) (i:Nat):Int:=B7 .and .u64 (a.getD i 0) (b.getD i 0)
def GA (a b:List Int):List Int:=BK (G9 (ZB a b) (min a.length b.length) (min a.length b.length))
def A10:Ae:={ ins:=[EV,EV],pre:=fun(a,_,_)=>List.length a≤100000,out:=fun(a,b,_)=>[.p EV (GA a b)] }
attribute [local go_sem] A10
theorem A3m:Ao Tryz.prog 143 A10:=by
 refine fK [0,1,4,5,6,14,15,16] Tryz.func143 Tryz.ntmps143 (AF mK AG) ?_;rintro w0 O0 ⟨a,b,u⟩ d-ha;have ha:a.length≤100000:=ha;simp only[A10,AM];repeat'(first|exact trivial|refine eS rfl ?_|refine AB ?_|refine rX d ?_ ?_|refine rC ?_ ?_<;>intro c<;>try(cases c;done))
 ·split<;>simp only[AO]<;>dsimp only[Ty.den]at *<;>omega
 ·have h:Int.toNat (if ((List.length b:Nat):Int)<((List.length a:Nat):Int) then ((List.length b:Nat):Int) else ((List.length a:Nat):Int))=min (List.length a) (List.length b):=by split<;>omega
  rw[h];have j:GA a b=BK (G9 (ZB a b) (min a.length b.length) (min a.length b.length)):=rfl;have k:min a.length b.length≤a.length:=Nat.min_le_left _ _;have l:min a.length b.length≤b.length:=Nat.min_le_right _ _;generalize min a.length b.length=n at *;refine AJ (ι:={i:Nat//i≤n}) (fun i=>⟨[(0,.p EV a),(1,.p EV b),(5,.sr 12 Pk 0 n),(14,.p (.int .i64) (n:Int)),(15,.p (.int .i64) (i.1:Int))],[(12,.arr 155 Pk (G9 (ZB a b) n i.1))]⟩) (fun i=>n-i.1) ⟨0,Is _⟩ (AC [(12,.nm 12)] rfl rfl ?_ ?_) (fun i=>?_)
  ·first|exact eN|refine eM ?_
   rw[mL]
  ·first|exact eN|refine eM ?_
  ·obtain⟨i,hi⟩:=i;have f:=Xg (ZB a b) n i;simp only;repeat'(first|exact trivial|refine eS rfl ?_|refine AB ?_|refine rX d ?_ ?_|refine rC ?_ ?_<;>intro c<;>try(cases c;done))
   ·have e:i<n:=If.1 c;exact⟨by exact eV,by exact eV,c⟩
   ·exact eV
   ·have e:i<n:=If.1 c;refine⟨⟨i+1,e⟩,by simp only;omega,AC [(12,.nm 12)] rfl rfl ?_ ?_⟩
    ·simp only[←t7];first|exact eN|refine eM ?_
     rfl
    ·first|exact eN|refine eM ?_
   ·have e:i=n:=by omega
    subst e;have g:(G9 (ZB a b) i i).take i=G9 (ZB a b) i i:=BY (by rw[f];exact No _);refine Gy [12] ?_;repeat'(first|exact trivial|refine eS rfl ?_|refine AB ?_|refine rX d ?_ ?_|refine rC ?_ ?_<;>intro c<;>try(cases c;done))
    ·rw[g,f];dsimp only[Ty.den]at *;omega
    ·rw[g];exact fI d [.tmp 4] (by rw[j];exact eR)
def Dz (a b:List Int):Bool:=MV a b&&MV b a
def ZC:Ae:={ ins:=[EV,EV],pre:=fun _=>True,out:=fun(a,b,_)=>[.p .bool (Dz a b)],lend:=true }
attribute [local go_sem] ZC
theorem t8:Ao Tryz.prog 146 ZC:=by
 refine fK [0,1,4] Tryz.func146 Tryz.ntmps146 (AF Uv AG) ?_;rintro w0 O0 ⟨a,b,u⟩ c - -;simp only[ZC,AM];repeat'(first|exact trivial|refine eS rfl ?_|refine AB ?_|refine rX c ?_ ?_|refine rC ?_ ?_<;>intro d<;>try(cases d;done))
 exact fI c [.tmp 4] (by unfold Dz;exact eR)
def E7 (c:List Int):Nat→List MP→Int
 | _,[]=>-1
 | k,t :: l=>if Dz t.2.1 c=true then (k:Int) else E7 c (k+1) l
theorem mM (c:List Int) (l:List MP) {k:Nat} (h:k<l.length):E7 c k (l.drop k)=if Dz (l.getD k WT).2.1 c=true then (k:Int) else E7 c (k+1) (l.drop (k+1)):=by
 rw[aS h];have e:l.getD k WT=l[k]:=by simp[AS,h]
 rw[e];rfl
theorem A11 (c:List Int) (t:MP):BB Tryz.prog 145 [.p T84 t,.bp 1 [] 0] [(1,.box 81 false [.p EV c])] [1] (fun res d=>res=.p .bool (Dz t.2.1 c)∧d=[(1,.box 81 false [.p EV c])]):=by
 refine KJ [0,1,2,3] [] [] Tryz.func145 Tryz.ntmps145 (AF t8 AG) ?_;intro w0 K O0 ρ0 a e f;simp only[Ak];repeat'(first|exact trivial|refine eS rfl ?_|refine AB ?_|refine rX a ?_ ?_|refine rC ?_ ?_<;>intro b<;>try(cases b;done))
 refine Ev.ent (σ':=⟨[(3,.p .bool (Dz t.2.1 c))],[(1,.box 81 false [.p EV c])]⟩) ?_ (AC [(1,.nm 1)] rfl rfl ?_ ?_)
 ·exact fM a [.tmp 3] (.p .bool (Dz t.2.1 c)) eT ⟨rfl,rfl⟩
 ·first|exact eN|refine eM ?_
 ·first|exact eN|refine eM ?_
theorem t9 (l:List MP) (c:List Int) (i:l.length≤100000):BB Tryz.prog 144 [.p S5 l,.clo 145 [1]] [(1,.box 81 false [.p EV c])] [1] (fun res g=>res=.p T3 (E7 c 0 l)∧g=[(1,.box 81 false [.p EV c])]):=by
 refine KJ [0,1,4,5,7,8,9,16] [] [] Tryz.func144 Tryz.ntmps144 AG ?_;intro w0 K O0 ρ0 b j m;simp only[Ak];repeat'(first|exact trivial|refine eS rfl ?_|refine AB ?_|refine rX b ?_ ?_|refine rC ?_ ?_<;>intro a<;>try(cases a;done))
 refine AJ (ι:={k:Nat//k≤l.length∧E7 c k (l.drop k)=E7 c 0 l}) (fun k=>⟨[(0,.p S5 l),(1,.clo 145 [1]),(7,.p (.int .i64) (l.length:Int)),(8,.p (.int .i64) (k.1:Int))],[(1,.box 81 false [.p EV c])]⟩) (fun k=>l.length-k.1) ⟨0,Is _,rfl⟩ (AC [(1,.nm 1)] rfl rfl ?_ ?_) (fun k=>?_)
 ·first|exact eN|refine eM ?_
 ·first|exact eN|refine eM ?_
 ·obtain⟨k,hk,hf⟩:=k;have f:=fun h:k<l.length=>mM c l h;simp only;repeat'(first|exact trivial|refine eS rfl ?_|refine AB ?_|refine rX b ?_ ?_|refine rC ?_ ?_<;>intro a<;>try(cases a;done))
  ·have d:k<l.length:=If.1 a;have e:=f d;refine cP 5 b ?_ ?_
   ·exact a
   ·refine rM b (A11 c (l.getD k WT)) [(1,.nm 1)] [] ?_ ?_ ?_
    ·first|exact eN|refine eM ?_
    ·first|exact eN|refine eM ?_
    ·rintro _ _ ⟨rfl,rfl⟩;refine⟨[(1,.nm 1)],.p .bool (Dz (l.getD k WT).2.1 c),[(1,.box 81 false [.p EV c])],rfl,rfl,?_,?_,rfl,rfl,CM ?_⟩
     ·first|exact eN|refine eM ?_
     ·first|exact eN|refine eM ?_
     ·repeat'(first|exact trivial|refine eS rfl ?_|refine AB ?_|refine rX b ?_ ?_|refine rC ?_ ?_<;>intro a<;>try(cases a;done))
      ·have a:Dz (l.getD k WT).2.1 c=true:=a;rw[At a,hf]at e;refine Ev.ent (σ':=⟨[(4,.p (.int .i64) (k:Int))],[(1,.box 81 false [.p EV c])]⟩) ?_ (AC [(1,.nm 1)] rfl rfl ?_ ?_)
       ·exact fM b [.tmp 4] (.p T3 (k:Int)) eT ⟨by rw[e],rfl⟩
       ·first|exact eN|refine eM ?_
       ·first|exact eN|refine eM ?_
      ·omega
      ·have a:Dz (l.getD k WT).2.1 c=false:=a;rw[As (by rw[a];simp)]at e;refine⟨⟨k+1,d,e.symm.trans hf⟩,by simp only;omega,AC [(1,.nm 1)] rfl rfl ?_ ?_⟩
       ·first|exact eN|refine eM ?_
       ·first|exact eN|refine eM ?_
  ·have d:l.drop k=[]:=IF (gO.1 a);rw[d]at hf;have hf:(-1:Int)=E7 c 0 l:=hf;refine Ev.ent (σ':=⟨[(4,.p (.int .i64) (-1))],[(1,.box 81 false [.p EV c])]⟩) ?_ (AC [(1,.nm 1)] rfl rfl ?_ ?_)
   ·exact fM b [.tmp 4] (.p T3 (-1)) eT ⟨by rw[hf],rfl⟩
   ·first|exact eN|refine eM ?_
   ·first|exact eN|refine eM ?_
def Bl (h:AI) (t:Int):List Int:=(h.1.getD t.toNat WT).2.1
def B4 (h:AI) (a b:Int):Int×Bool :=
 if (GA (Bl h a) (Bl h b)).length=0 then (0,false) else if E7 (GA (Bl h a) (Bl h b)) 0 h.1<0 then (0,false) else (E7 (GA (Bl h a) (Bl h b)) 0 h.1,true)
def p4:Ae:={ ins:=[Ga,T3,T3],pre:=fun(h,a,b,_)=>((0:Int)≤a∧a<(List.length (h:AI).1:Int))∧((0:Int)≤b∧b<(List.length (h:AI).1:Int))∧List.length (h:AI).1≤100000∧(∀x∈(h:AI).1,x.2.1.length≤100000),out:=fun(h,a,b,_)=>[.p T3 (B4 h a b).1,.p .bool (B4 h a b).2],lend:=true }
theorem p5:Ao Tryz.prog 110 p4:=by
 refine fK [0,1,2,3,6,7,8,9,25,31] Tryz.func110 Tryz.ntmps110 (AF A3m AG) ?_;rintro w0 O0 ⟨⟨d,hf⟩,a,b,u⟩ e-⟨ha,i,k,n⟩;simp only[p4,AM];refine Ev.ent (σ':=⟨[(0,.p Ga (d,hf)),(1,.p T3 a),(2,.p T3 b)],[]⟩) ?_ (AC [] rfl rfl ?_ ?_)
 ·repeat'(first|exact trivial|refine eS rfl ?_|refine AB ?_|refine rX e ?_ ?_|refine rC ?_ ?_<;>intro f<;>try(cases f;done))
  ·refine⟨ha,i,?_⟩;have h1:Int.toNat a<List.length d:=(Int.toNat_lt ha.1).2 ha.2;exact n _ (AD (d:List MP) WT h1)
  ·have l:B4 (d,hf) a b=(0,false):=by
    unfold B4;rw[At (by unfold Bl;exact ACd f)]
   exact fI e [.tmp 6,.tmp 7] (by rw[l];exact eR)
  ·have j:∀c,c=GA (List.getD d (Int.toNat a) (ByteArray.empty,[],[],[])).2.1 (List.getD d (Int.toNat b) (ByteArray.empty,[],[],[])).2.1→c=GA (Bl (d,hf) a) (Bl (d,hf) b):=fun c h=>h;have g:B4 (d,hf) a b=if E7 (GA (Bl (d,hf) a) (Bl (d,hf) b)) 0 d<0 then (0,false) else (E7 (GA (Bl (d,hf) a) (Bl (d,hf) b)) 0 d,true):=by
    unfold B4;rw[As (fun h=>f (by unfold Bl at h;exact AAP Int.ofNat h))]
   generalize o:GA (List.getD d (Int.toNat a) (ByteArray.empty,[],[],[])).2.1 (List.getD d (Int.toNat b) (ByteArray.empty,[],[],[])).2.1=c at *;rw[←j c rfl]at g;refine cP 3 e ?_ ?_
   ·trivial
   ·refine rM e (t9 d c k) [(1,.nm 8)] [] ?_ ?_ ?_
    ·first|exact eN|refine eM ?_
    ·first|exact eN|refine eM ?_
    ·rintro _ _ ⟨rfl,rfl⟩;refine⟨[(8,.nm 1)],.p T3 (E7 c 0 d),[(8,.box 81 false [.p EV c])],rfl,rfl,?_,?_,rfl,rfl,?_⟩
     ·first|exact eN|refine eM ?_
     ·first|exact eN|refine eM ?_
     ·generalize E7 c 0 d=m at *;refine rL e ?_ ?_
      ·trivial
      ·repeat'(first|exact trivial|refine eS rfl ?_|refine AB ?_|refine rX e ?_ ?_|refine rC ?_ ?_<;>intro f<;>try(cases f;done))
       ·rw[At f]at g;exact fI e [.tmp 6,.tmp 7] (by rw[g];exact eR)
       ·rw[As (AAS.2 f)]at g;exact fI e [.tmp 6,.tmp 7] (by rw[g];exact eR)
 ·first|exact eN|refine eM ?_
 ·first|exact eN|refine eM ?_
end
theorem Ux (l:List (List Int)) (i k:Nat):l <+: Gd l i k:=by
 unfold Gd;split
 ·exact ACn _ _
 ·exact AAw _
theorem Uy (i:Nat):∀(n k:Nat) (l:List (List Int)),l <+: Ge i n k l
 | 0,_,l=>AAw l
 | n+1,k,l=>by
  unfold Ge;split
  ·exact(Ux l i k).trans (Uy i n (k+1) _)
  ·exact AAw l
theorem QK:∀(n i:Nat) (l:List (List Int)),l <+: Ic n i l
 | 0,_,l=>AAw l
 | n+1,i,l=>by
  unfold Ic;split
  ·exact(Uy i i 0 l).trans (QK n (i+1) _)
  ·exact AAw l
theorem QL {l m:List (List Int)} (h:l <+: m) {k:Nat} (hk:k<l.length):m.getD k []=l.getD k []:=by
 obtain⟨t,rfl⟩:=h;simp only[AS];rw[oS hk]
def Li (l:List (List Int)) (q p:Nat):Prop:=Ed (l.getD q []) (l.getD p [])=[]∨Ed (l.getD q []) (l.getD p [])∈l
theorem Li.pre {l m:List (List Int)} (h:l <+: m) {q p:Nat} (b:q<l.length) (hp:p<l.length) (a:Li l q p):Li m q p:=by
 unfold Li at a ⊢;rw[QL h b,QL h hp];rcases a with a|a
 ·exact .inl a
 ·exact .inr (h.subset a)
theorem A3n {l:List (List Int)} {b:List Int} (h:lN l b=true):b∈l:=by
 obtain⟨x,a,e⟩:=TO.1 h;have:x=b:=by simpa[Hb] using e
 rw[←this];exact a
theorem mN {l:List (List Int)} {i k:Nat} (hi:i<l.length) (hk:k<l.length):Li (Gd l i k) i k:=by
 have hp:=Ux l i k;unfold Li;rw[QL hp hi,QL hp hk];unfold Gd;split
 ·right;simp
 ·rename_i a;rw[AT,DO,OR]at a;by_cases h0:0<((Ed (l.getD i []) (l.getD k [])).length:Int)
  ·right;cases hh:lN l (Ed (l.getD i []) (l.getD k [])) with
   | true=>exact A3n hh
   | false=>exact absurd ⟨h0,hh⟩ a
  ·left;exact So (by omega)
theorem Uz {i:Nat}:∀ {n k:Nat} {l:List (List Int)},n+k=i→i<l.length→(Ge i n k l).length≤256→(∀p,p<k→Li l i p)→∀p,p<i→Li (Ge i n k l) i p
 | 0,k,l,hn,hi,a,h=>fun p hp=>h p (by omega)
 | n+1,k,l,hn,hi,a,h=>by
  unfold Ge at a ⊢;split at a
  ·rename_i b;rw[At b];have hp:=Ux l i k;refine Uz (by omega) (AAy hi hp.length_le) a fun p c=>?_;by_cases e:p=k
   ·subst e;exact mN hi (by omega)
   ·exact(h p (by omega)).pre hp hi (by omega)
  ·rename_i b;exact absurd (by omega:l.length≤256) b
theorem U0:∀ {n i:Nat} {l:List (List Int)},257≤n+i→(Ic n i l).length≤256→i≤l.length→(∀q p,p<q→q<i→Li l q p)→∀q p,p<q→q<(Ic n i l).length→Li (Ic n i l) q p
 | 0,i,l,hn,a,f,h=>fun q p c d=>by
  have j:l.length≤256:=a;omega
 | n+1,i,l,hn,a,f,h=>by
  unfold Ic at a ⊢;split at a
  ·rename_i b;rw[At b];have hp:=Uy i i 0 l;have k:=hp.length_le;have g:=(QK n (i+1) (Ge i i 0 l)).length_le;refine U0 (by omega) a (by omega) fun q p c d=>?_;by_cases e:q=i
   ·subst e;exact Uz (by omega) b.1 (by omega) (fun p hp=>by omega) p c
   ·exact(h q p c (by omega)).pre hp (by omega) (by omega)
  ·rename_i b;rw[As b];intro q p c d;exact h q p c (by
    refine Do fun hh=>b ⟨by omega,a⟩)
theorem ZD {c:List (List Int)} (a:(Au c).length≤256):∀q p,p<q→q<(Au c).length→Li (Au c) q p :=
 U0 (by omega) a (Is _) (fun q p _ h=>by omega)
theorem A12 (a b:List Int) (k:Nat):(Ed a b).getD k 0=if k<a.length then B7 .and .u64 (a.getD k 0) (b.getD k 0) else 0:=by
 unfold Ed;rw[Pw];split
 ·rename_i h;exact M8 .and a b h
 ·rename_i h;rw[AS,iN (by rw[Ep];omega)];rfl
theorem HA {b:List Int} {k:Nat} (h:¬k<b.length):b.getD k 0=0:=by
 rw[AS,iN (by omega)];rfl
theorem QM {a b:List Int} (ha:Ie a) (c:Ie b) (i:Nat):A9 (Ed a b) i=(A9 a i&&A9 b i):=by
 unfold A9;rw[A12];split
 ·rw[Id (BF ha _) (BF c _),bY,Nat.testBit_and]
 ·rename_i h;rw[HA h];simp
theorem QN {a b:List Int} (ha:Ie a) (d:Ie b):Ie (Ed a b):=by
 refine OW fun x c=>?_;unfold Gb at c;obtain⟨i,-,rfl⟩:=IS.1 c;rw[H2,Id (BF ha _) (BF d _)];have h1:=BF ha i;have e:(a.getD i 0).toNat &&& (b.getD i 0).toNat≤(a.getD i 0).toNat:=ACg;have f:=h1.1;have g:=h1.2;exact⟨AA3 _,by omega⟩
theorem RQ (b:List Int):∀n,Ca b n=0∨b.getD (Ca b n-1) 0≠0
 | 0=>.inl rfl
 | n+1=>by
  unfold Ca;split
  ·exact RQ b n
  ·rename_i h;right;simpa using h
theorem A3o {n:Nat} (h0:n≠0) (h1:n<18446744073709551616):∃r,r<64∧n.testBit r=true:=by
 refine Do fun b=>h0 ?_;refine Nat.eq_of_testBit_eq fun r=>?_;rw[Nat.zero_testBit];by_cases c:r<64
 ·cases a:n.testBit r with
  | false=>rfl
  | true=>exact absurd ⟨r,c,a⟩ b
 ·have e:(18446744073709551616:Nat)=2 ^ 64:=by decide
  rw[e]at h1;exact Nat.testBit_lt_two_pow (AAy h1 (Nat.pow_le_pow_right (by decide) (by omega)))
theorem gV {b:List Int} (a:Ie b) {k:Nat} (h:b.getD k 0≠0):∃i,A9 b i=true:=by
 have hu:=BF a k;have h1:=hu.1;have d:=hu.2;obtain⟨r,e,c⟩:=A3o (n:=(b.getD k 0).toNat) (by omega) (by omega);refine⟨64*k+r,?_⟩;unfold A9;rw[show (64*k+r) / 64=k by omega,show (64*k+r) % 64=r by omega];exact c
theorem mO {b:List Int} (a:Ie b) (h:BK b≠[]):∃i,A9 b i=true:=by
 rcases RQ b b.length with h1|h1
 ·exact absurd (by unfold BK;rw[h1];rfl) h
 ·exact gV a h1
theorem Xh {a b:List Int} (ha:Ie a) (c:Ie b) (h:∀i,A9 a i=true→A9 b i=true) (k:Nat):B7 .andNot .u64 (a.getD k 0) (b.getD k 0)=0:=by
 rw[RH];have:(BitVec.ofInt 64 (a.getD k 0) &&& ~~~BitVec.ofInt 64 (b.getD k 0))=0#64:=by
  apply BitVec.eq_of_getLsbD_eq;intro r e;rw[BitVec.getLsbD_and,BitVec.getLsbD_not,←ABu,←ABu,Fk (BF ha k),Fk (BF c k)];have hk:=h (64*k+r);unfold A9 at hk;rw[show (64*k+r) / 64=k by omega,show (64*k+r) % 64=r by omega]at hk;cases d:(a.getD k 0).toNat.testBit r with
  | false=>simp
  | true=>rw[hk d];simp
 rw[this];rfl
theorem Gg {a b:List Int} (ha:Ie a) (c:Ie b):FP a b=true↔∀i,A9 a i=true→A9 b i=true:=by
 constructor
 ·exact fun h i hi=>MO ha c h hi
 ·intro h;unfold FP RC BK;have h1:Ca (Gb .andNot a b a.length) (Gb .andNot a b a.length).length=0:=by
   rw[Ep];exact RI fun k hk=>by rw[M8 _ _ _ hk];exact Xh ha c h k
  rw[h1];rfl
structure JR (l:List (List Int)):Prop where
 wds:∀c∈l,Ie c
 some:∀c∈l,∃i,A9 c i=true
 wid:∀c∈l,c.length≤64
 meet:∀a∈l,∀b∈l,(∃i,A9 a i=true∧A9 b i=true)→∃t∈l,∀i,A9 t i=(A9 a i&&A9 b i)
structure Bs (l:List (List Int)):Prop where
 wds:∀c∈l,Ie c
 some:∀c∈l,∃i,A9 c i=true
theorem RR {l:List (List Int)} {k:Nat} (h:¬k<l.length):l.getD k []=[]:=by
 rw[AS,iN (by omega)];rfl
theorem Bs.get {l:List (List Int)} (h:Bs l) (k:Nat):Ie (l.getD k []):=by
 by_cases hk:k<l.length
 ·exact h.wds _ (BC hk)
 ·rw[RR hk];intro x a;cases a
theorem A3p {l:List (List Int)} (h:Bs l) (i k:Nat):Bs (Gd l i k):=by
 unfold Gd;split
 ·rename_i b;rw[AT,DO]at b;refine⟨fun c a=>?_,fun c a=>?_⟩
  ·rcases OF.1 a with a|a
   ·exact h.wds c a
   ·have:c=Ed (l.getD i []) (l.getD k []):=by simpa using a
    rw[this];exact QN (h.get i) (h.get k)
  ·rcases OF.1 a with a|a
   ·exact h.some c a
   ·have:c=Ed (l.getD i []) (l.getD k []):=by simpa using a
    rw[this];have g:Ed (l.getD i []) (l.getD k [])≠[]:=by
     intro e;rw[e]at b;exact absurd b.1 (by simp)
    have m:Ie (Gb .and (l.getD i []) (l.getD k []) (l.getD i []).length):=by
     intro x d;unfold Gb at d;obtain⟨j,-,rfl⟩:=IS.1 d;rw[H2,Id (BF (h.get i) _) (BF (h.get k) _)];have h1:=BF (h.get i) j;have n:((l.getD i []).getD j 0).toNat &&& ((l.getD k []).getD j 0).toNat≤((l.getD i []).getD j 0).toNat:=ACg;have o:=h1.1;have p:=h1.2;exact⟨AA3 _,by omega⟩
    obtain⟨j,f⟩:=mO m g;exact⟨j,by unfold Ed;rw[OV];exact f⟩
 ·exact h
theorem p6 {i:Nat}:∀ {n k:Nat} {l:List (List Int)},Bs l→Bs (Ge i n k l)
 | 0,_,_,h=>h
 | n+1,k,l,h=>by
  unfold Ge;split
  ·exact p6 (A3p h i k)
  ·exact h
theorem p7:∀ {n i:Nat} {l:List (List Int)},Bs l→Bs (Ic n i l)
 | 0,_,_,h=>h
 | n+1,i,l,h=>by
  unfold Ic;split
  ·exact p7 (p6 h)
  ·exact h
theorem uA {d:List AH} (f:A4 d=0):Bs (AU d):=by
 obtain⟨-,l,-⟩:=Aw f;have h:=Dv d d.length;rw[f9]at h;have b:(AN d).length≤4096:=by omega
 refine⟨fun c a=>?_,fun c a=>?_⟩
 ·unfold AU at a;obtain⟨s,-,rfl⟩:=IS.1 a;exact(Bq (d:=d) b s 0).2.1
 ·unfold AU at a;obtain⟨s,hs,rfl⟩:=IS.1 a;obtain⟨j,g,e⟩:=CT ByteArray.empty hs;have i:0≤Ap d s:=by
   obtain⟨x,k,e⟩:=Cs hs;rw[←e];exact Da k
  exact⟨j,(Bq (d:=d) b s j).1.2 ⟨g,by rw[e];exact OX i⟩⟩
theorem VA {d:List AH} (l:A4 d=0) (s:(Au (AU d)).length≤256):JR (Au (AU d)):=by
 obtain⟨-,o,-⟩:=Aw l;have g:Bs (Au (AU d)):=p7 (uA l);have n:=ZD s;refine⟨g.wds,g.some,QA (Ob o),fun a ha b r hi=>?_⟩;obtain⟨q,f,rfl⟩:=CT [] ha;obtain⟨p,hp,rfl⟩:=CT [] r;have key:∀q p,q<(Au (AU d)).length→p<(Au (AU d)).length→Li (Au (AU d)) q p→(∃i,A9 ((Au (AU d)).getD q []) i=true∧A9 ((Au (AU d)).getD p []) i=true) →
   ∃t∈Au (AU d),∀i,A9 t i=(A9 ((Au (AU d)).getD q []) i&&A9 ((Au (AU d)).getD p []) i):=by
  intro q p f hp c hi;have m:=QM (g.get q) (g.get p);rcases c with c|c
  ·obtain⟨i,j,k⟩:=hi;have:=m i;rw[c,j,k]at this;unfold A9 at this;simp at this
  ·exact⟨_,c,m⟩
 rcases ABv p q with h|h|h
 ·exact key q p f hp (n q p h f) hi
 ·subst h;exact⟨_,BC f,fun i=>by rw[Bool.and_self]⟩
 ·obtain⟨t,u,e⟩:=key p q hp f (n p q h hp) (by obtain⟨i,j,k⟩:=hi;exact⟨i,k,j⟩);exact⟨t,u,fun i=>by rw[e i,Bool.and_comm]⟩
def Jw (h:AI):Prop:=JR (h.1.map fun t=>t.2.1)∧h.1.length≤256
theorem HB (d:List AH):Jw (Az d).1:=by
 unfold Az;split
 ·exact⟨⟨fun c h=>(by cases h),fun c h=>(by cases h),fun c h=>(by cases h),fun c h=>(by cases h)⟩,by simp⟩
 ·rename_i g;have g:(A8 d).2=0:=Do g;have m:Av d=0:=by
   unfold A8 at g;split at g
   ·rename_i h;exact absurd g h
   ·rename_i h;exact Do h
  obtain⟨p,-,-⟩:=B9 m;obtain⟨l,k,-⟩:=BS p;have hf:=VA l k;have f:∀c,c∈((Bk d).1.map fun t=>t.2.1)↔c∈Au (AU d):=by
   intro c;have e:((Bk d).1.map fun t=>t.2.1)=(AL d).map fun x=>x.2:=by
    show ((EY _ _ _).map fun t=>t.2.1)=_;unfold EY;rw[AB2];apply AA8
    ·simp
    ·intro i h1 q;simp[AS,show i<(AL d).length by simpa using h1]
   rw[e];constructor
   ·intro h;obtain⟨x,o,rfl⟩:=IS.1 h;obtain⟨b,j,rfl⟩:=Db.1 o;exact j
   ·intro h;exact IS.2 ⟨_,Db.2 ⟨c,h,rfl⟩,rfl⟩
  refine⟨⟨fun c h=>hf.wds c ((f c).1 h),fun c h=>hf.some c ((f c).1 h),fun c h=>hf.wid c ((f c).1 h),fun a ha b j hi=>?_⟩,?_⟩
  ·obtain⟨t,n,e⟩:=hf.meet a ((f a).1 ha) b ((f b).1 j) hi;exact⟨t,(f t).2 n,e⟩
  ·show (EY _ _ _).length≤256;rw[KR,Ih];exact k
theorem DV {h:AI} {t:Int} (a:0≤t) (b:t<(h.1.length:Int)):Bl h t∈h.1.map fun t=>t.2.1 :=
 IS.2 ⟨_,AD h.1 WT (k:=t.toNat) (by omega),rfl⟩
theorem VB {a b:List Int} (ha:Ie a) (c:Ie b):MV a b=true↔∀i,A9 a i=true→A9 b i=true:=by
 constructor
 ·intro h i hi;by_cases hk:i / 64<a.length
  ·have h1:=GO.1 h (i / 64) (nO.2 hk);rw[tO,H2]at h1;exact SH (BF ha _) (BF c _) h1 (ACH _ (by decide)) hi
  ·exfalso;unfold A9 at hi;rw[HA hk]at hi;simp at hi
 ·intro h;unfold MV;rw[GO];intro k _;rw[tO,H2];exact Xh ha c h k
theorem A13 {a b:List Int} (ha:Ie a) (c:Ie b) (i:Nat):A9 (GA a b) i=(A9 a i&&A9 b i):=by
 unfold GA;rw[OV];unfold A9;have:(G9 (ZB a b) (min a.length b.length) (min a.length b.length)).getD (i / 64) 0=B7 .and .u64 (a.getD (i / 64) 0) (b.getD (i / 64) 0):=by
  by_cases h:i / 64<min a.length b.length
  ·unfold G9;rw[AS,AAl,AAZ h];show (if i / 64<min a.length b.length then ZB a b (i / 64) else 0)=_;rw[At h];rfl
  ·rw[HA (by rw[Xg];exact h),Id (BF ha _) (BF c _)];by_cases h1:i / 64<a.length
   ·rw[HA (b:=b) (by omega)];simp
   ·rw[HA (b:=a) h1];simp
 rw[this,Id (BF ha _) (BF c _),bY,Nat.testBit_and]
theorem A14 {a b:List Int} (ha:Ie a) (d:Ie b):Ie (GA a b):=by
 refine OW fun x c=>?_;unfold G9 at c;obtain⟨j,-,rfl⟩:=IS.1 c;split
 ·unfold ZB;rw[Id (BF ha _) (BF d _)];have h1:=BF ha j;have e:(a.getD j 0).toNat &&& (b.getD j 0).toNat≤(a.getD j 0).toNat:=ACg;have f:=h1.1;have g:=h1.2;exact⟨AA3 _,by omega⟩
 ·exact⟨by decide,by decide⟩
theorem VC (c:List Int):∀(l:List MP) (k:Nat),(E7 c k l=-1∧∀t∈l,Dz t.2.1 c=false)∨((k:Int)≤E7 c k l∧E7 c k l<(k:Int)+l.length∧Dz (l.getD ((E7 c k l).toNat-k) WT).2.1 c=true)
 | [],k=>.inl ⟨rfl,fun t a=>by cases a⟩
 | x :: l,k=>by
  simp only[E7];split
  ·rename_i h;right;refine⟨by omega,by simp only[Of];omega,?_⟩;rw[show ((k:Int).toNat-k)=0 by omega];exact h
  ·rename_i h;have h:Dz x.2.1 c=false:=by simpa using h
   rcases VC c l (k+1) with ⟨h1,b⟩|⟨h1,b,d⟩
   ·left;refine⟨h1,fun t a=>?_⟩;rcases By.1 a with rfl|a
    ·exact h
    ·exact b t a
   ·right;refine⟨by omega,by simp only[Of];omega,?_⟩;rw[show ((E7 c (k+1) l).toNat-k)=((E7 c (k+1) l).toNat-(k+1))+1 by omega];exact d
def Tb2 (h:AI) (t:Int) (i:Nat):Bool:=A9 (Bl h t) i
theorem B5 {h:AI} (hk:Jw h) {a b:Int} (a0:0≤a) (c:a<(h.1.length:Int)) (d:0≤b) (b1:b<(h.1.length:Int)):BG h a b=true↔∀i,Tb2 h b i=true→Tb2 h a i=true :=
 VB (hk.1.wds _ (DV d b1)) (hk.1.wds _ (DV a0 c))
theorem A16 {h:AI} (hk:Jw h) {a b:Int} (a0:0≤a) (g:a<(h.1.length:Int)) (j:0≤b) (b1:b<(h.1.length:Int)) :
  ((B4 h a b).2=true→0≤(B4 h a b).1∧(B4 h a b).1<(h.1.length:Int)∧∀i,Tb2 h (B4 h a b).1 i=(Tb2 h a i&&Tb2 h b i))∧((∃i,Tb2 h a i=true∧Tb2 h b i=true)→(B4 h a b).2=true):=by
 have r:=hk.1.wds _ (DV a0 g);have s:=hk.1.wds _ (DV j b1);have c:=A13 r s;have n:=A14 r s;have heq:∀t∈h.1,Dz t.2.1 (GA (Bl h a) (Bl h b))=true↔∀i,A9 t.2.1 i=A9 (GA (Bl h a) (Bl h b)) i:=by
  intro t d;have wt:=hk.1.wds t.2.1 (IS.2 ⟨t,d,rfl⟩);unfold Dz;rw[AT,VB wt n,VB n wt];constructor
  ·rintro⟨u,v⟩ i;rw[ABi];exact⟨u i,v i⟩
  ·intro e;exact⟨fun i hi=>by rw[←e i];exact hi,fun i hi=>by rw[e i];exact hi⟩
 unfold B4;by_cases f:(GA (Bl h a) (Bl h b)).length=0
 ·rw[At f];refine⟨fun e=>(by cases e),?_⟩;rintro⟨i,p,q⟩;exfalso;have:=c i;rw[So f]at this;unfold Tb2 at p q;rw[p,q]at this;unfold A9 at this;simp at this
 ·rw[As f];rcases VC (GA (Bl h a) (Bl h b)) h.1 0 with ⟨h1,l⟩|⟨h1,l,m⟩
  ·rw[At (by omega)];refine⟨fun e=>(by cases e),fun hi=>?_⟩;exfalso;obtain⟨t,d,e⟩:=hk.1.meet _ (DV a0 g) _ (DV j b1) hi;obtain⟨x,o,rfl⟩:=IS.1 d;have:=(heq x o).2 (fun i=>by rw[c i];exact e i);rw[l x o]at this;cases this
  ·have h1:0≤E7 (GA (Bl h a) (Bl h b)) 0 h.1:=by omega
   rw[As (by omega)];refine⟨fun _=>⟨h1,by simp only;omega,fun i=>?_⟩,fun _=>rfl⟩;rw[ACk]at m;have w:=AD h.1 WT (k:=(E7 (GA (Bl h a) (Bl h b)) 0 h.1).toNat) (by omega);have:=(heq _ w).1 m i;rw[c i]at this;exact this
theorem MW {h:AI} (hk:Jw h) {a b:Int} (a0:0≤a) (l:a<(h.1.length:Int)) (m:0≤b) (b1:b<(h.1.length:Int)) :
  ((B4 h a b).2=true→0≤(B4 h a b).1∧(B4 h a b).1<(h.1.length:Int)∧BG h a (B4 h a b).1=true∧BG h b (B4 h a b).1=true) ∧
  ∀x,0≤x→x<(h.1.length:Int)→BG h a x=true→BG h b x=true→(B4 h a b).2=true∧BG h (B4 h a b).1 x=true:=by
 obtain⟨q,t⟩:=A16 hk a0 l m b1;refine⟨fun e=>?_,fun x g k r s=>?_⟩
 ·obtain⟨c,d,f⟩:=q e;refine⟨c,d,(B5 hk a0 l c d).2 fun i hi=>?_,(B5 hk m b1 c d).2 fun i hi=>?_⟩
  ·rw[f i,AT]at hi;exact hi.1
  ·rw[f i,AT]at hi;exact hi.2
 ·have n:=(B5 hk a0 l g k).1 r;have o:=(B5 hk m b1 g k).1 s;obtain⟨i,hi⟩:=hk.1.some _ (DV g k);have e:=t ⟨i,n i hi,o i hi⟩;obtain⟨c,d,f⟩:=q e;refine⟨e,(B5 hk c d g k).2 fun j p=>?_⟩;rw[f j,AT];exact⟨n j p,o j p⟩
def Nrm (c:List Int):Prop:=c.length=0∨c.getD (c.length-1) 0≠0
theorem Og (b:List Int):Nrm (BK b):=by
 unfold Nrm BK;have a:=UT b b.length;rw[OS,ABg a];rcases RQ b b.length with h|h
 ·exact .inl h
 ·by_cases h0:Ca b b.length=0
  ·exact .inl h0
  ·right;rw[AS,List.getElem?_take_of_lt (by omega),←AS];exact h
theorem A3q {a b:List Int} (ha:Ie a) (f:Ie b) (h:∀i,A9 a i=A9 b i) (k:Nat):a.getD k 0=b.getD k 0:=by
 have c:=BF ha k;have d:=BF f k;have j:=c.1;have l:=c.2;have m:=d.1;have o:=d.2;have e:(a.getD k 0).toNat=(b.getD k 0).toNat:=by
  refine Nat.eq_of_testBit_eq fun r=>?_;by_cases g:r<64
  ·have:=h (64*k+r);unfold A9 at this;rw[show (64*k+r) / 64=k by omega,show (64*k+r) % 64=r by omega]at this;exact this
  ·have big:∀n:Nat,n<18446744073709551616→n.testBit r=false:=fun n hn=>by
    have e:(18446744073709551616:Nat)=2 ^ 64:=by decide
    rw[e]at hn;exact Nat.testBit_lt_two_pow (AAy hn (Nat.pow_le_pow_right (by decide) (by omega)))
   rw[big _ (by omega),big _ (by omega)]
 omega
theorem p8 {a b:List Int} (d:∀k,a.getD k 0=b.getD k 0) (c:Nrm b):b.length≤a.length:=by
 rcases c with h|h
 ·omega
 ·refine Do fun e=>h ?_;rw[←d];exact HA (by omega)
theorem mP {a b:List Int} (ha:Ie a) (e:Ie b) (g:Nrm a) (j:Nrm b) (h:∀i,A9 a i=A9 b i):a=b:=by
 have c:=A3q ha e h;have f:a.length=b.length:=ABP (p8 (fun k=>(c k).symm) g) (p8 c j);refine AA8 f fun i h1 d=>?_;have:=c i;simpa[AS,h1,d] using this
theorem gW {α:Type} (l:List α) (x:α) (n:Nat):List.Perm (l.take n++[x]++l.drop n) (x :: l):=by
 have h:l.take n++[x]++l.drop n=l.take n++x :: l.drop n:=by simp
 rw[h];refine ACD.trans ?_;rw[ABn]
def p9 (l:List ByteArray):Prop:=l.Pairwise fun a b=>Aa a b=false
theorem MX {a b:ByteArray} (h:Aa a b=false):Aa b a=false:=by
 cases hh:Aa b a with
 | false=>rfl
 | true=>rw[Dw hh]at h;cases h
theorem VD {l:List ByteArray} {s:ByteArray} (h:p9 l) (hs:∀x∈l,Aa x s=false):p9 (EW l s):=by
 unfold EW;split
 ·exact h
 ·refine(List.Perm.pairwise_iff (fun b=>MX b) (gW l s _)).2 ?_;exact AAk.2 ⟨fun x a=>MX (hs x a),h⟩
theorem VE {d:List AH} (hn:Cf d=0):p9 (AN d):=by
 have key:∀k,k≤d.length→p9 (AN (d.take k))∧∀s∈AN (d.take k),∃i,i<k∧(d.getD i d0).1=s:=by
  intro k;induction k with
  | zero =>
   intro _;exact⟨.nil,fun s hs=>by cases hs⟩
  | succ k c =>
   intro hk;obtain⟨h1,a⟩:=c (by omega);have e:AN (d.take (k+1))=EW (AN (d.take k)) (d.getD k d0).1:=by
    have:d.take (k+1)=d.take k++[d.getD k d0]:=Ax d d0 (by omega);rw[this];unfold AN;rw[ABx];rfl
   rw[e];refine⟨VD h1 fun x b=>?_,fun s hs=>?_⟩
   ·obtain⟨i,hi,rfl⟩:=a x b;cases hh:Aa (d.getD i d0).1 (d.getD k d0).1 with
    | false=>rfl
    | true =>
     have g:=JN d hh;rw[KN hn (j:=i) (by omega),KN hn (j:=k) (by omega)]at g;omega
   ·rcases G2 hs with hs|hs
    ·obtain⟨i,hi,e⟩:=a s hs;exact⟨i,by omega,e⟩
    ·exact⟨k,by omega,hs.symm⟩
 have:=(key d.length (No _)).1
 rwa [f9]at this
structure Nd (l:List (List Int)):Prop where
 nd:l.Nodup
 nrm:∀c∈l,Nrm c
theorem A3r {l:List (List Int)} {c:List Int} (h:Nd l) (b:c∉l) (hn:Nrm c):Nd (l++[c]):=by
 refine⟨?_,fun x a=>?_⟩
 ·rw[AAI];refine⟨h.nd,by simp,fun x a y d e=>b ?_⟩;have:y=c:=by simpa using d
  rw[←this,←e];exact a
 ·rcases OF.1 a with a|a
  ·exact h.nrm x a
  ·have:x=c:=by simpa using a
   rw[this];exact hn
theorem A3s {l:List (List Int)} (h:Nd l) (i k:Nat):Nd (Gd l i k):=by
 unfold Gd;split
 ·rename_i a;rw[AT,OR]at a;refine A3r h (fun b=>?_) (Og _);have:lN l (Ed (l.getD i []) (l.getD k []))=true:=TO.2 ⟨_,b,by unfold Hb;exact ABr rfl⟩;rw[this]at a;cases a.2
 ·exact h
theorem qA {i:Nat}:∀ {n k:Nat} {l:List (List Int)},Nd l→Nd (Ge i n k l)
 | 0,_,_,h=>h
 | n+1,k,l,h=>by
  unfold Ge;split
  ·exact qA (A3s h i k)
  ·exact h
theorem TD:∀ {n i:Nat} {l:List (List Int)},Nd l→Nd (Ic n i l)
 | 0,_,_,h=>h
 | n+1,i,l,h=>by
  unfold Ic;split
  ·exact TD (qA h)
  ·exact h
theorem RS {d:List AH} (m:A4 d=0):Nd (AU d):=by
 obtain⟨-,l,-,hn,p⟩:=Aw m;have q:=Dv d d.length;rw[f9]at q;have hap:=VE hn;refine⟨?_,fun c n=>?_⟩
 ·unfold AU List.Nodup;rw[AAQ,oF];intro i j hi a o e;have h1:=(oF.1 hap) i j hi a o;have g:∀k,(hk:k<(AN d).length)→(AN d).getD k ByteArray.empty=(AN d)[k]:=fun k hk=>by simp[AS,hk]
  have f:=(Bq (d:=d) (all:=AN d) (by omega) (AN d)[j] 0).2.1;have b:=f5 hn p l hi a (by
   rw[g i hi,g j a,e];unfold DT;have:=(Gg f f).2 fun _ h=>h;rw[this];rfl)
  rw[g i hi,g j a,h1]at b;cases b
 ·obtain⟨s,hs,rfl⟩:=IS.1 n;unfold Eq ofF;split
  ·exact Og _
  ·exact .inl rfl
theorem MY {d:List AH}:∀ {l:List (List Int)} {o:List AQ},(o.map (·.2)++l).Nodup→((l.foldl (RJ d) o).map (·.2)).Nodup
 | [],o,h=>by simpa using h
 | b :: l,o,h=>by
  rw[Rp];refine MY ?_;unfold RJ Gf Y4;have hp:=(gW o (G7 d (AN d) (AU d) b,b) (Fm (G7 d (AN d) (AU d) b,b) o o.length)).map (fun x:AQ=>x.2);have c:List.Perm ((o.take (Fm (G7 d (AN d) (AU d) b,b) o o.length)++[(G7 d (AN d) (AU d) b,b)]++o.drop (Fm (G7 d (AN d) (AU d) b,b) o o.length)).map (fun x:AQ=>x.2)++l) (o.map (·.2)++b :: l) :=
   (hp.append_right l).trans (ACD (a:=b)).symm
  exact c.nodup_iff.2 h
def I2 (h:AI):Prop:=∀a b,0≤a→a<(h.1.length:Int)→0≤b→b<(h.1.length:Int)→BG h a b=true→BG h b a=true→a=b
theorem A54 {h:AI} (hk:Jw h) (hn:Nd (h.1.map fun t=>t.2.1)):I2 h:=by
 intro a b a0 c d b1 h1 f;have l:=hk.1.wds _ (DV a0 c);have m:=hk.1.wds _ (DV d b1);have e:Bl h a=Bl h b:=mP l m (hn.nrm _ (DV a0 c)) (hn.nrm _ (DV d b1)) fun i=>by
  rw[ABi];exact⟨(B5 hk d b1 a0 c).1 f i,(B5 hk a0 c d b1).1 h1 i⟩
 have hp:=oF.1 hn.nd;have g:∀k:Int,0≤k→(hk:k<(h.1.length:Int))→Bl h k=(h.1.map fun t=>t.2.1)[k.toNat]'(by rw[f6];omega):=fun k n o=>by
  unfold Bl;simp[AS,show k.toNat<h.1.length by omega]
 rw[g a a0 c,g b d b1]at e;rcases Int.lt_trichotomy a b with j|heq|j
 ·exact absurd e (hp a.toNat b.toNat (by rw[f6];omega) (by rw[f6];omega) (by omega))
 ·exact heq
 ·exact absurd e.symm (hp b.toNat a.toNat (by rw[f6];omega) (by rw[f6];omega) (by omega))
theorem SR (d:List AH):I2 (Az d).1:=by
 refine A54 (HB d) ?_;unfold Az;split
 ·exact⟨.nil,fun c h=>(by cases h)⟩
 ·rename_i a;have a:(A8 d).2=0:=Do a;have g:Av d=0:=by
   unfold A8 at a;split at a
   ·rename_i h;exact absurd a h
   ·rename_i h;exact Do h
  obtain⟨m,-,-⟩:=B9 g;obtain⟨f,o,-⟩:=BS m;have hf:Nd (Au (AU d)):=TD (RS f);have e:((Bk d).1.map fun t=>t.2.1)=(AL d).map fun x=>x.2:=by
   show ((EY _ _ _).map fun t=>t.2.1)=_;unfold EY;rw[AB2];apply AA8
   ·simp
   ·intro i h1 n;simp[AS,show i<(AL d).length by simpa using h1]
  show Nd ((Bk d).1.map fun t=>t.2.1);rw[e];refine⟨MY (by simpa using hf.nd),fun c k=>?_⟩;obtain⟨x,l,rfl⟩:=IS.1 k;obtain⟨b,j,rfl⟩:=Db.1 l;exact hf.nrm b j
section
attribute [local go_sem] p4
def E8 (f:Int):List (Int×Int)→Int×Bool
 | []=>(0,false)
 | x :: l=>if x.1=f then (x.2,true) else E8 f l
theorem mQ (f:Int) (l:List (Int×Int)) {k:Nat} (h:k<l.length):E8 f (l.drop k)=if (l.getD k (0,0)).1=f then ((l.getD k (0,0)).2,true) else E8 f (l.drop (k+1)):=by
 rw[aS h];have e:l.getD k (0,0)=l[k]:=by simp[AS,h]
 rw[e];rfl
def Jx (h:AI) (t:Int):List (Int×Int):=(h.1.getD t.toNat WT).2.2.2
def CH (h:AI) (t f:Int):Int×Bool:=E8 f (Jx h t)
def SS:Ae:={ ins:=[Ga,T3,T3],pre:=fun(h,t,_,_)=>(0:Int)≤t∧t<(List.length (h:AI).1:Int),out:=fun(h,t,f,_)=>[.p T3 (CH h t f).1,.p .bool (CH h t f).2],lend:=true }
attribute [local go_sem] SS
theorem qB:Ao Tryz.prog 26 SS:=by
 refine fK [0,1,2,3,6,7,9,15,16,17,18,26] Tryz.func26 Tryz.ntmps26 AG ?_;rintro w0 O0 ⟨⟨d,hf⟩,t,f,u⟩ b q ⟨j,m⟩;simp only[SS,AM];refine Ev.ent (σ':=⟨[(0,.p Ga (d,hf)),(1,.p T3 t),(2,.p T3 f)],[]⟩) ?_ (AC [] rfl rfl ?_ ?_)
 ·repeat'(first|exact trivial|refine eS rfl ?_|refine AB ?_|refine rX b ?_ ?_|refine rC ?_ ?_<;>intro a<;>try(cases a;done))
  ·exact⟨j,m⟩
  ·have o:∀l,l=(List.getD d (Int.toNat t) (ByteArray.empty,[],[],[])).2.2.2→CH (d,hf) t f=E8 f l:=fun l e=>by rw[e];rfl
   have r:List.length (List.getD d (Int.toNat t) (ByteArray.empty,[],[],[])).2.2.2≤140737488355328:=(q.1.1.2 _ (AD (d:List MP) WT ((Int.toNat_lt j).2 m))).2.2.2.1;generalize (List.getD d (Int.toNat t) (ByteArray.empty,[],[],[])).2.2.2=l at *;rw[o l rfl];refine AJ (ι:={k:Nat//k≤List.length l∧E8 f l=E8 f (l.drop k)}) (fun k=>⟨[(2,.p T3 f),(15,.p jZ l),(16,.p (.int .i64) (List.length l:Int)),(17,.p (.int .i64) (k.1:Int))],[]⟩) (fun k=>List.length l-k.1) ⟨0,Is _,rfl⟩ (AC [] rfl rfl ?_ ?_) (fun k=>?_)
   ·first|exact eN|refine eM ?_
   ·first|exact eN|refine eM ?_
   ·obtain⟨k,hk,c⟩:=k;have i:=fun h:k<List.length l=>mQ f l h;simp only;repeat'(first|exact trivial|refine eS rfl ?_|refine AB ?_|refine rX b ?_ ?_|refine rC ?_ ?_<;>intro a<;>try(cases a;done))
    ·exact a
    ·refine cP 5 b ?_ ?_
     ·trivial
     ·refine A8I b ?_;refine rL b ?_ ?_
      ·trivial
      ·repeat'(first|exact trivial|refine eS rfl ?_|refine AB ?_|refine rX b ?_ ?_|refine rC ?_ ?_<;>intro a<;>try(cases a;done))
       ·have g:k<List.length l:=by exact eV
        rw[i g,At a]at c;exact fI b [.tmp 6,.tmp 7] (by rw[c];exact eR)
       ·omega
       ·have g:k<List.length l:=by exact eV
        rw[i g,As a]at c;refine⟨⟨k+1,g,c⟩,by simp only;omega,AC [] rfl rfl ?_ ?_⟩
        ·first|exact eN|refine eM ?_
        ·first|exact eN|refine eM ?_
    ·have n:List.drop k (l:List (Int×Int))=[]:=IF (by exact eV);rw[n]at c;have c:E8 f l=(0,false):=c;exact fI b [.tmp 6,.tmp 7] (by rw[c];exact eR)
 ·first|exact eN|refine eM ?_
 ·first|exact eN|refine eM ?_
abbrev EH:=List Int×List Int
def DH (h:AI) (s:EH) (n t:Int):Option EH :=
 if (B4 h (s.1.getD n.toNat 0) t).2=true then some (if (B4 h (s.1.getD n.toNat 0) t).1=s.1.getD n.toNat 0 then s else (s.1.set n.toNat (B4 h (s.1.getD n.toNat 0) t).1,s.2++[n])) else none
def D0 (h:AI) (s:EH):List (Nat×Obj):=[(1,.box 74 true [.p Ga h,.sr 2 T3 0 s.1.length,.p Kh s.2]),(2,.arr 3 T3 s.1)]
theorem gX (h:AI) (hk:Jw h) (s:EH) {n t:Int} (n0:0≤n) (n1:n<(s.1.length:Int)) (f:0≤s.1.getD n.toNat 0) (ty1:s.1.getD n.toNat 0<(h.1.length:Int)) (k:0≤t) (l:t<(h.1.length:Int)) (i:s.2.length≤1000000000) :
  BB Tryz.prog 72 [.bp 1 [] 0,.p T3 n,.p T3 t] (D0 h s) [1]
  (fun res d=>(DH h s n t=none∧res=.p .bool false∧d=D0 h s)∨∃e,DH h s n t=some e∧res=.p .bool true∧d=D0 h e):=by
 obtain⟨ty,w⟩:=s;simp only at n1 f ty1 i;have hh:h.1.length≤100000:=aT hk.2 (by omega);have g:∀x∈h.1,x.2.1.length≤100000:=fun x j=>aT (hk.1.wid x.2.1 (IS.2 ⟨x,j,rfl⟩)) (by omega);refine KJ [0,1,2,6,7,8,26,35] [] [] Tryz.func72 Tryz.ntmps72 (AF p5 AG) ?_;intro w0 K O0 ρ0 c o q;simp only[D0,Ak];repeat'(first|exact trivial|refine eS rfl ?_|refine AB ?_|refine rX c ?_ ?_|refine rC ?_ ?_<;>intro b<;>try(cases b;done))
 ·exact⟨⟨n0,n1⟩,⟨f,ty1⟩,⟨k,l⟩,hh,g⟩
 ·have a:DH h (ty,w) n t=none:=by unfold DH;rw[As (by simp only;rw[b];simp)]
  refine Ev.ent (σ':=⟨[(6,.p .bool false)],D0 h (ty,w)⟩) ?_ (AC [(1,.nm 1),(2,.nm 2)] rfl rfl ?_ ?_)
  ·exact fM c [.tmp 6] (.p .bool false) eT (.inl ⟨a,rfl,rfl⟩)
  ·unfold D0;first|exact eN|refine eM ?_
  ·first|exact eN|refine eM ?_
 ·exact⟨n0,n1⟩
 ·exact⟨n0,n1⟩
 ·simp only[AO];omega
 ·have a:DH h (ty,w) n t=some (ty.set n.toNat (B4 h (ty.getD n.toNat 0) t).1,w++[n]):=by unfold DH;rw[At (by assumption),As b]
  generalize (B4 h (ty.getD n.toNat 0) t).1=m at *;have r:(w++[n]).take (w.length+1)=w++[n]:=BY (by simp);refine Gy [61] ?_;refine Ev.ent (σ':=⟨[(6,.p .bool true)],D0 h (ty.set n.toNat m,w++[n])⟩) ?_ (AC [(1,.nm 1),(2,.nm 2)] rfl rfl ?_ ?_)
  ·exact fM c [.tmp 6] (.p .bool true) eT (.inr ⟨_,a,rfl,rfl⟩)
  ·unfold D0;simp only[AA5];first|exact eN|refine eM ?_
  ·first|exact eN|refine eM ?_
 ·have a:DH h (ty,w) n t=some (ty,w):=by unfold DH;rw[At (by assumption),At (by simpa using b)]
  refine Ev.ent (σ':=⟨[(6,.p .bool true)],D0 h (ty,w)⟩) ?_ (AC [(1,.nm 1),(2,.nm 2)] rfl rfl ?_ ?_)
  ·exact fM c [.tmp 6] (.p .bool true) eT (.inr ⟨_,a,rfl,rfl⟩)
  ·unfold D0;first|exact eN|refine eM ?_
  ·first|exact eN|refine eM ?_
end
section
def mR:Ae:={ ins:=[T3],pre:=fun _=>True,out:=fun _=>[.p .bool false] }
attribute [local go_sem] mR
def Fv (a b:Int):Int:=if a<b then -1 else if b<a then 1 else 0
def HC:Ae:={ ins:=[T3,T3],pre:=fun _=>True,out:=fun(a,b,_)=>[.p T3 (Fv a b)] }
attribute [local go_sem] HC
def Cu:Ae:={ ins:=[BI,BI],pre:=fun _=>True,out:=fun(a,b,_)=>[.p T3 (Fv (Prod.fst a) (Prod.fst b))] }
attribute [local go_sem] Cu
theorem A17:Ao Tryz.prog 157 mR:=by
 refine fK [0,2] Tryz.func157 Tryz.ntmps157 AG ?_;rintro w0 O0 ⟨x,u⟩ a - -;simp only[mR,AM];repeat'(first|exact trivial|refine eS rfl ?_|refine AB ?_|refine rX a ?_ ?_|refine rC ?_ ?_<;>intro b<;>try(cases b;done))
 exact fI a [.tmp 2]
theorem Gq:Ao Tryz.prog 138 HC:=by
 refine fK [0,1,4,5,6,11,12,13,16,19] Tryz.func138 Tryz.ntmps138 (AF A17 AG) ?_;rintro w0 O0 ⟨a,b,u⟩ c - -;simp only[HC,AM];repeat'(first|exact trivial|refine eS rfl ?_|refine AB ?_|refine rX c ?_ ?_|refine rC ?_ ?_<;>intro d<;>try(cases d;done))
 ·have e:Fv a b=-1:=At d;exact fI c [.tmp 4] (by rw[e];exact eR)
 ·have e:Fv a b=1:=by unfold Fv;rw[As (by omega),At d]
  exact fI c [.tmp 4] (by rw[e];exact eR)
 ·have e:Fv a b=0:=by unfold Fv;rw[As (by omega),As (by omega)]
  exact fI c [.tmp 4] (by rw[e];exact eR)
theorem E3:Ao Tryz.prog 116 Cu:=by
 refine fK [0,1,2,3,4] Tryz.func116 Tryz.ntmps116 (AF Gq AG) ?_;rintro w0 O0 ⟨a,b,u⟩ c - -;simp only[Cu,AM];repeat'(first|exact trivial|refine eS rfl ?_|refine AB ?_|refine rX c ?_ ?_|refine rC ?_ ?_<;>intro d<;>try(cases d;done))
 exact fI c [.tmp 4]
def mS (l:List (Int×Int)):Prop:=∀i,i+1<l.length→(l.getD i (0,0)).1<(l.getD (i+1) (0,0)).1
end
def Ea (f:List AE):Nat→List Int→Int→List Int
 | 0,o,_=>o
 | k+1,o,n=>(f.getD n.toNat (0,[])).2.foldl (fun o a=>if a.2∈o then o else Ea f k o a.2) (o++[n])
def Ac (f:List AE) (k:Nat) (o:List Int) (a:Int×Int):List Int:=if a.2∈o then o else Ea f k o a.2
theorem Cv (f:List AE) (k:Nat) (o:List Int) (n:Int):Ea f (k+1) o n=(f.getD n.toNat (0,[])).2.foldl (Ac f k) (o++[n]):=rfl
structure LO (f:List AE) (o:List Int):Prop where
 nd:o.Nodup
 rng:∀x∈o,0≤x∧x<(f.length:Int)
theorem LO.len {f:List AE} {o:List Int} (h:LO f o):o.length≤f.length:=by
 have h1:(o.map Int.toNat).Nodup:=by
  rw[List.Nodup,AAQ];refine h.nd.imp_of_mem fun {a b} ha c g e=>g ?_;have:=h.rng a ha;have:=h.rng b c;omega
 have:=EL f.length (o.map Int.toNat) h1 (fun j d=>by
  obtain⟨x,i,rfl⟩:=IS.1 d;have:=h.rng x i;omega)
 simpa using this
theorem LO.snoc {f:List AE} {o:List Int} (h:LO f o) {n:Int} (h0:0≤n) (h1:n<f.length) (hn:n∉o):LO f (o++[n]):=by
 refine⟨?_,fun x c=>?_⟩
 ·rw[AAI];refine⟨h.nd,by simp,fun a ha b d=>?_⟩;have:b=n:=by simpa using d
  subst this;intro e;subst e;exact hn ha
 ·rcases OF.1 c with c|c
  ·exact h.rng x c
  ·have:x=n:=by simpa using c
   subst this;exact⟨h0,h1⟩
theorem Er {f:List AE} {k:Nat} (e:∀(o:List Int) (n:Int),LO f o→0≤n→n<f.length→n∉o→LO f (Ea f k o n)∧o <+: Ea f k o n) :
  ∀(l:List (Int×Int)) (o:List Int),(∀a∈l,0≤a.2∧a.2<(f.length:Int))→LO f o→LO f (l.foldl (Ac f k) o)∧o <+: l.foldl (Ac f k) o
 | [],o,_,h=>⟨h,AAw _⟩
 | a :: l,o,c,h=>by
  simp only[Rp];have d:LO f (Ac f k o a)∧o <+: Ac f k o a:=by
   unfold Ac;split
   ·exact⟨h,AAw _⟩
   ·rename_i hn;exact e o a.2 h (c a (by simp)).1 (c a (by simp)).2 hn
  obtain⟨g,i⟩:=Er e l _ (fun b j=>c b (by simp[j])) d.1;exact⟨g,d.2.trans i⟩
theorem Bt {f:List AE} (hf:Ad f) {n:Int} {a:Int×Int} (ha:a∈(f.getD n.toNat (0,[])).2):0≤a.2∧a.2<f.length:=by
 by_cases h:n.toNat<f.length
 ·have b:f.getD n.toNat (0,[])∈f:=by
   rw[AS,An h];exact AAh h
  exact(hf.2 _ b).2 a ha
 ·rw[AS,iN (by omega)]at ha;simp at ha
theorem D5 {f:List AE} (hf:Ad f):∀(k:Nat) (o:List Int) (n:Int),LO f o→0≤n→n<f.length→n∉o→LO f (Ea f k o n)∧o <+: Ea f k o n
 | 0,o,n,h,_,_,_=>⟨h,AAw _⟩
 | k+1,o,n,h,h0,h1,d=>by
  obtain⟨b,c⟩:=Er (D5 hf k) _ _ (fun a ha=>Bt hf ha) (h.snoc h0 h1 d);rw[Cv];exact⟨b,(ACn o [n]).trans c⟩
theorem Iq {f:List AE} (hf:Ad f):∀(k:Nat) (o:List Int) (n:Int),LO f o→0≤n→n<f.length→n∉o→f.length-o.length≤k →
  n∈Ea f k o n∧∀x∈Ea f k o n,x∈o∨∀a∈(f.getD x.toNat (0,[])).2,a.2∈Ea f k o n
 | 0,o,n,h,h0,h1,m,hk=>by
  have:=(h.snoc h0 h1 m).len;simp only[IN,To]at this;omega
 | k+1,o,n,h,h0,h1,m,hk=>by
  have key:∀(l:List (Int×Int)) (t:List Int),(∀a∈l,0≤a.2∧a.2<(f.length:Int))→LO f t→f.length-t.length≤k →
    (∀a∈l,a.2∈l.foldl (Ac f k) t)∧∀x∈l.foldl (Ac f k) t,x∈t∨∀a∈(f.getD x.toNat (0,[])).2,a.2∈l.foldl (Ac f k) t:=by
   intro l;induction l with
   | nil=>exact fun t _ _ _=>⟨fun a ha=>(by cases ha),fun x c=>.inl c⟩
   | cons a l z =>
    intro t p r u;simp only[Rp];have v:LO f (Ac f k t a)∧t <+: Ac f k t a∧a.2∈Ac f k t a∧∀x∈Ac f k t a,x∈t∨∀b∈(f.getD x.toNat (0,[])).2,b.2∈Ac f k t a:=by
     unfold Ac;split
     ·rename_i hn;exact⟨r,AAw _,hn,fun x c=>.inl c⟩
     ·rename_i hn;have q:=p a (by simp);obtain⟨e,g⟩:=D5 hf k t a.2 r q.1 q.2 hn;obtain⟨i,j⟩:=Iq hf k t a.2 r q.1 q.2 hn u;exact⟨e,g,i,j⟩
    obtain⟨e,g,i,j⟩:=v;have A:=g.length_le;obtain⟨w,y⟩:=z (Ac f k t a) (fun b d=>p b (by simp[d])) e (by omega);obtain⟨_,s⟩:=Er (D5 hf k) l (Ac f k t a) (fun b d=>p b (by simp[d])) e;refine⟨fun b d=>?_,fun x c=>?_⟩
    ·rcases By.1 d with rfl|d
     ·exact s.subset i
     ·exact w b d
    ·rcases y x c with c|c
     ·rcases j x c with c|c
      ·exact .inl c
      ·exact .inr fun b d=>s.subset (c b d)
     ·exact .inr c
  have hs:=h.snoc h0 h1 m;obtain⟨e,g⟩:=key (f.getD n.toNat (0,[])).2 (o++[n]) (fun a ha=>Bt hf ha) hs (by simp only[IN,To];omega);obtain⟨_,i⟩:=Er (D5 hf k) (f.getD n.toNat (0,[])).2 (o++[n]) (fun a ha=>Bt hf ha) hs;rw[Cv];refine⟨i.subset (by simp),fun x c=>?_⟩;rcases g x c with c|c
  ·rcases OF.1 c with c|c
   ·exact .inl c
   ·have:x=n:=by simpa using c
    subst this;exact .inr e
  ·exact .inr c
def CF (o:List Int) (x:Int):Int:=if x∈o then (o.idxOf x:Int) else 0
def Oh (o:List Int) (a:Int×Int):Int×Int:=(a.1,CF o a.2)
def Es (f:List AE) (o:List Int) (n:Int):AE:=((f.getD n.toNat (0,[])).1,(f.getD n.toNat (0,[])).2.map (Oh o))
def AR (f:List AE) (root:Int):List AE:=(Ea f f.length [] root).map (Es f (Ea f f.length [] root))
def QO (f:List AE):Prop:=∀x∈f,mS x.2∧x.2.length≤200
theorem mT {f:List AE} (hf:QO f) (n:Int):mS (f.getD n.toNat (0,[])).2∧(f.getD n.toNat (0,[])).2.length≤200:=by
 by_cases h:n.toNat<f.length
 ·have a:f.getD n.toNat (0,[])∈f:=by
   rw[AS,An h];exact AAh h
  exact hf _ a
 ·rw[AS,iN (by omega)];exact⟨fun i hi=>by simp at hi,by simp⟩
theorem MZ {l:List (Int×Int)} (h:mS l):AZ l=l:=by
 have key:∀i,i≤l.length→AZ (l.take i)=l.take i:=by
  intro i;induction i with
  | zero=>intro _;rfl
  | succ i d =>
   intro hi;rw[Ax l (0,0) (by omega),Hs,d (by omega)];have b:(l.take i).length=i:=by rw[OS];omega
   have c:Im (l.getD i (0,0)) (l.take i) (l.take i).length=(l.take i).length:=by
    rw[b];cases i with
    | zero=>rfl
    | succ i =>
     have h1:=h i (by omega);have a:(l.take (i+1)).getD i (0,0)=l.getD i (0,0):=by
      simp only[AS];rw[oN];simp
     simp only[Im];rw[a,As (by omega)]
   unfold Oe;rw[c,f9,ABB,AAa]
 have:=key l.length (No _)
 rwa [f9]at this
structure Lj (f:List AE) (num o:List Int):Prop where
 len:num.length=f.length
 get:∀j,j<f.length→num.getD j 0=if (j:Int)∈o then (o.idxOf (j:Int):Int) else -1
theorem Lj.neg {f:List AE} {num o:List Int} (h:Lj f num o) {n:Int} (h0:0≤n) (h1:n<f.length):num.getD n.toNat 0<0↔n∉o:=by
 have:=h.get n.toNat (by omega);rw[show ((n.toNat:Nat):Int)=n by omega]at this;rw[this];split
 ·rename_i a;constructor
  ·intro e;omega
  ·intro e;exact absurd a e
 ·rename_i a;exact⟨fun _=>a,fun _=>by omega⟩
theorem Xi {o:List Int} {x n:Int} (h:x∈o):(o++[n]).idxOf x=o.idxOf x:=by rw[AC0,At h]
theorem Xj {o:List Int} {n:Int} (h:n∉o):(o++[n]).idxOf n=o.length:=by rw[AC0,As h];simp
theorem Lj.snoc {f:List AE} {num o:List Int} (h:Lj f num o) {n:Int} (h0:0≤n) (h1:n<f.length) (hn:n∉o):Lj f (num.set n.toNat (o.length:Int)) (o++[n]):=by
 refine⟨by simpa using h.len,fun j b=>?_⟩;have d:j<num.length:=by rw[h.len];exact b
 by_cases e:j=n.toNat
 ·subst e;have en:((n.toNat:Nat):Int)=n:=by omega
  rw[en];simp only[AS];rw[ABW d,At (by simp),Xj hn];simp
 ·have en:¬(j:Int)=n:=by omega
  simp only[AS];rw[List.getElem?_set_ne (fun c=>e c.symm)];have:=h.get j b;simp only[AS]at this;rw[this];by_cases a:(j:Int)∈o
  ·rw[At a,At (by simp[a]),Xi a]
  ·rw[As a,As (by simp[a,en])]
theorem VG {f:List AE} (hf:Ad f) (hs:QO f):∀(k:Nat) (s:List Int×List Int) (n:Int),Lj f s.1 s.2→LO f s.2→0≤n→n<f.length→n∉s.2→(Dx f k s n).2=Ea f k s.2 n∧Lj f (Dx f k s n).1 (Dx f k s n).2
 | 0,s,n,h,_,_,_,_=>⟨rfl,h⟩
 | k+1,s,n,h,w,h0,h1,m=>by
  have key:∀(l:List (Int×Int)) (t:List Int×List Int),(∀a∈l,0≤a.2∧a.2<(f.length:Int))→Lj f t.1 t.2→LO f t.2→(l.foldl (EZ f k) t).2=l.foldl (Ac f k) t.2∧Lj f (l.foldl (EZ f k) t).1 (l.foldl (EZ f k) t).2:=by
   intro l;induction l with
   | nil=>exact fun t _ d _=>⟨rfl,d⟩
   | cons a l z =>
    intro t o d j;simp only[Rp];have q:=o a (by simp);have p:=d.neg q.1 q.2;have x:(EZ f k t a).2=Ac f k t.2 a∧Lj f (EZ f k t a).1 (EZ f k t a).2∧LO f (EZ f k t a).2:=by
     unfold EZ Ac;by_cases c:a.2∈t.2
     ·rw[At c,As (by rw[p];exact fun e=>e c)];exact⟨rfl,d,j⟩
     ·rw[As c,At (by rw[p];exact c)];obtain⟨g,i⟩:=VG hf hs k t a.2 d j q.1 q.2 c;exact⟨g,i,by rw[g];exact(D5 hf k t.2 a.2 j q.1 q.2 c).1⟩
    obtain⟨g,i,u⟩:=x;obtain⟨r,y⟩:=z (EZ f k t a) (fun b v=>o b (by simp[v])) i u;rw[g]at r;exact⟨r,y⟩
  rw[Fq,Cv,MZ (mT hs n).1];exact key _ (s.1.set n.toNat (s.2.length:Int),s.2++[n]) (fun a ha=>Bt hf ha) (h.snoc h0 h1 m) (w.snoc h0 h1 m)
theorem Ir {f:List AE} (hf:Ad f) (hs:QO f) {root:Int} (h0:0≤root) (h1:root<f.length):JQ f root=AR f root:=by
 have l:Lj f (List.replicate f.length (-1)) []:=⟨by simp,fun j k=>by simp[AS,AAF,k]⟩;have d:LO f []:=⟨by simp,fun x e=>by cases e⟩;obtain⟨c,b⟩:=VG hf hs f.length (List.replicate f.length (-1),[]) root l d h0 h1 (by simp);have c:(GP f root).2=Ea f f.length [] root:=c;have b:Lj f (GP f root).1 (GP f root).2:=b;have i:=(Iq hf f.length [] root d h0 h1 (by simp) (by simp)).2;have m:=(D5 hf f.length [] root d h0 h1 (by simp)).1;unfold JQ AR;rw[c]at b ⊢;generalize Ea f f.length [] root=o at *;refine AA2 fun x e=>?_;unfold MT Es;rw[MZ (mT hs x).1];refine AAP _ (AA2 fun a ha=>?_);unfold WS Oh CF;have h:a.2∈o:=by
  rcases i x e with g|g
  ·cases g
  ·exact g a ha
 have n:=Bt hf ha;have:=b.get a.2.toNat (by omega);rw[show ((a.2.toNat:Nat):Int)=a.2 by omega]at this;rw[this,At h,At h]
def v9 (o:List Int):List (Int×Int):=(List.range o.length).map fun i=>(o.getD i 0,(i:Int))
theorem gY (o:List Int) (n:Int):v9 (o++[n])=v9 o++[(n,(o.length:Int))]:=by
 unfold v9;rw[IN,To,AAe,AAA]
 congr 1
 ·refine AA2 fun i hi=>?_;have:i<o.length:=nO.1 hi;simp only[AS];rw[oS this]
 ·simp[AS]
theorem uB (k:Int) (a b:List (Int×Int)):A6 T3 T3 k (a++b)=(A6 T3 T3 k a).or (A6 T3 T3 k b):=by
 induction a with
 | nil=>rfl
 | cons x a c =>
  simp only[ABm,A6];split
  ·rfl
  ·exact c
theorem Gr {α:Type} {p:List α→Prop} (h0:p []) (h1:∀l a,p l→p (l++[a])) (l:List α):p l:=by
 have:∀n (l:List α),l.length=n→p l:=by
  intro n;induction n with
  | zero=>intro l b;rw[List.length_eq_zero_iff.1 b];exact h0
  | succ n d =>
   intro l b;have c:l≠[]:=by intro e;subst e;simp at b
   rw[←List.dropLast_concat_getLast c];exact h1 _ _ (d _ (by simp[b]))
 exact this _ l rfl
theorem RT (o:List Int) (x:Int):A6 T3 T3 x (v9 o)=if x∈o then some (o.idxOf x:Int) else none:=by
 induction o using Gr with
 | h0=>rfl
 | h1 o n b =>
  rw[gY,uB,b];by_cases a:x∈o
  ·rw[At a,At (by simp[a]),Xi a];rfl
  ·rw[As a];by_cases hn:x=n
   ·subst hn;rw[At (by simp),Xj a];simp[A6,Ja]
   ·rw[As (by simp[a,hn])];have:((x==n)=true)↔False:=by simp[hn]
    simp[A6,Ja,hn]
theorem uC (k v:Int) (l:List (Int×Int)) (h:A6 T3 T3 k l=none):H3 T3 T3 k v l=l++[(k,v)]:=by
 induction l with
 | nil=>rfl
 | cons x l b =>
  simp only[A6]at h;simp only[H3,ABm];split at h
  ·cases h
  ·rename_i a;rw[As a,b h]
theorem A18 {o:List Int} {n:Int} (hn:n∉o):H3 T3 T3 n (o.length:Int) (v9 o)=v9 (o++[n]):=by
 rw[uC _ _ _ (by rw[RT,As hn]),gY]
theorem A3t (o:List Int) (x:Int):(A6 T3 T3 x (v9 o)).getD 0=CF o x:=by
 rw[RT];unfold CF;split<;>rfl
theorem VH (o:List Int) (x:Int):(A6 T3 T3 x (v9 o)).isSome=decide (x∈o):=by
 rw[RT];split<;>simp[*]
section
variable {α:Type}
structure SO (o:α→α→Int):Prop where
 anti:∀a b,o b a=- o a b
 trans:∀ {a b c},o a b<0→o b c<0→o a c<0
variable {o:α→α→Int} {d:α}
def CU (d:α) (l:List α) (i j:Nat):List α:=(l.set i (l.getD j d)).set j (l.getD i d)
theorem It {l:List α} {i j:Nat} (hi:i<l.length) (c:j<l.length) (k:Nat):(CU d l i j).getD k d=if k=j then l.getD i d else if k=i then l.getD j d else l.getD k d:=by
 unfold CU;simp only[AS,AAx,AA5];by_cases a:j=k
 ·rw[At a,At (by omega),At a.symm];rfl
 ·rw[As a,As (show ¬k=j by omega)];by_cases b:i=k
  ·rw[At b,At (by omega),At b.symm];rfl
  ·rw[As b,As (show ¬k=i by omega)]
theorem uD {l:List α} {i j:Nat} (hi:i<l.length) (a:j<l.length):(CU d l i j).Perm l:=by
 have b:l.getD i d=l[i]:=by rw[AS,An hi];rfl
 have c:l.getD j d=l[j]:=by rw[AS,An a];rfl
 unfold CU;rw[b,c];exact List.set_set_perm hi a
structure D8 (d:α) (a b:Nat) (l r:List α):Prop where
 perm:r.Perm l
 out:∀k,k<a∨b≤k→r.getD k d=l.getD k d
 inn:∀i,a≤i→i<b→∃j,a≤j∧j<b∧r.getD i d=l.getD j d
theorem D8.len {a b:Nat} {l r:List α} (h:D8 d a b l r):r.length=l.length:=h.perm.length_eq
theorem D8.refl (a b:Nat) (l:List α):D8 d a b l l:=⟨List.Perm.refl _,fun _ _=>rfl,fun i h1 c=>⟨i,h1,c,rfl⟩⟩
theorem D8.trans {a b:Nat} {l r s:List α} (h:D8 d a b l r) (c:D8 d a b r s):D8 d a b l s:=⟨c.perm.trans h.perm,fun k hk=>(c.out k hk).trans (h.out k hk),fun i h1 g=>by
 obtain⟨j,m,n,e⟩:=c.inn i h1 g;obtain⟨k,o,p,f⟩:=h.inn j m n;exact⟨k,o,p,e.trans f⟩⟩
theorem D8.mono {a b c b':Nat} {l r:List α} (h:D8 d a b l r) (ha:c≤a) (g:b≤b'):D8 d c b' l r:=⟨h.perm,fun k hk=>h.out k (by omega),fun i h1 f=>by
 by_cases hi:a≤i∧i<b
 ·obtain⟨j,m,n,e⟩:=h.inn i hi.1 hi.2;exact⟨j,by omega,by omega,e⟩
 ·exact⟨i,h1,f,h.out i (by omega)⟩⟩
theorem D8.swap {a b:Nat} (l:List α) {i j:Nat} (g:a≤i) (h:i<b) (m:a≤j) (n:j<b) (q:b≤l.length):D8 d a b l (CU d l i j):=by
 have f:=It (d:=d) (l:=l) (i:=i) (j:=j) (by omega) (by omega);refine⟨uD (by omega) (by omega),fun k hk=>?_,fun k o p=>?_⟩
 ·rw[f k,As (by omega),As (by omega)]
 ·rw[f k];by_cases c:k=j
  ·rw[At c];exact⟨i,g,h,rfl⟩
  ·rw[As c];by_cases e:k=i
   ·rw[At e];exact⟨j,m,n,rfl⟩
   ·rw[As e];exact⟨k,o,p,rfl⟩
def j5 (o:α→α→Int) (d:α) (l:List α):Prop:=∀i j,i<l.length→j<l.length→i≠j→o (l.getD i d) (l.getD j d)≠0
theorem qC (g:SO o) (l:List α):j5 o d l↔l.Pairwise fun a b=>o a b≠0:=by
 have e:∀i (h:i<l.length),l.getD i d=l[i]:=fun i h=>by rw[AS,An h];rfl
 rw[oF];constructor
 ·intro h i j hi c f;have:=h i j hi c (by omega)
  rwa [e i hi,e j c]at this
 ·intro h i j hi c f;rw[e i hi,e j c];rcases Nat.lt_or_gt_of_ne f with h1|h1
  ·exact h i j hi c h1
  ·have k:=h j i c hi h1;rw[g.anti];omega
theorem j5.perm (c:SO o) {l r:List α} (h:j5 o d l) (hp:r.Perm l):j5 o d r:=by
 rw[qC c]at h ⊢;refine(hp.symm.pairwise_iff ?_).1 h;intro a b e;rw[c.anti];omega
theorem j5.lt (c:SO o) {l:List α} (h:j5 o d l) {i j:Nat} (hi:i<l.length) (b:j<l.length) (a:i≠j) (hn:¬o (l.getD i d) (l.getD j d)<0):o (l.getD j d) (l.getD i d)<0:=by
 have h1:=h i j hi b a;rw[c.anti];omega
def RU (o:α→α→Int) (d:α) (a b:Nat) (l:List α):Prop:=∀i j,a≤i→i<j→j<b→o (l.getD i d) (l.getD j d)<0
theorem ZE (a:Nat) (l:List α):RU o d a (a+1) l:=fun i j h1 b c=>by omega
theorem A19 (g:SO o) {a b:Nat} {l:List α} (h:RU o d a b l) (m:a<b) (c:o (l.getD (b-1) d) (l.getD b d)<0):RU o d a (b+1) l:=by
 intro i j h1 e k;by_cases f:j=b
 ·subst f;by_cases hi:i=j-1
  ·rw[hi];exact c
  ·exact g.trans (h i (j-1) h1 (by omega) (by omega)) c
 ·exact h i j h1 e (by omega)
theorem NC {a b:Nat} {l r:List α} (h:RU o d a b l) (e:∀k,a≤k→k<b→r.getD k d=l.getD k d):RU o d a b r:=fun i j h1 f c=>by
 rw[e i h1 (by omega),e j (by omega) c];exact h i j h1 f c
def mV (o:α→α→Int) (d:α) (a i j:Nat) (m:List α):Prop:=(∀x y,a≤x→x<y→y≤i→x≠j→y≠j→o (m.getD x d) (m.getD y d)<0)∧∀y,j<y→y≤i→o (m.getD j d) (m.getD y d)<0
theorem mW {a i:Nat} {m:List α} (h:RU o d a i m):mV o d a i i m:=⟨fun x y h0 h1 b c e=>h x y h0 h1 (by omega),fun y h1 b=>by omega⟩
theorem VI (g:SO o) {a i j:Nat} {m:List α} (h:mV o d a i j m) (l:a≤j) (n:j≤i) (b:j=a∨o (m.getD (j-1) d) (m.getD j d)<0):RU o d a (i+1) m:=by
 intro x y h0 h1 k;by_cases c:x=j
 ·subst c;exact h.2 y h1 (by omega)
 ·by_cases e:y=j
  ·subst e;rcases b with b|b
   ·omega
   ·by_cases f:x=y-1
    ·subst f;exact b
    ·exact g.trans (h.1 x (y-1) h0 (by omega) (by omega) c (by omega)) b
  ·exact h.1 x y h0 h1 (by omega) c e
theorem Xk {a i j:Nat} {m:List α} (h:mV o d a i j m) (h0:a<j) (q:j≤i) (hi:i<m.length) (p:o (m.getD j d) (m.getD (j-1) d)<0):mV o d a i (j-1) (CU d m j (j-1)):=by
 have f:=It (d:=d) (l:=m) (i:=j) (j:=j-1) (by omega) (by omega);refine⟨fun x y g h1 e k n=>?_,fun y h1 e=>?_⟩
 ·rw[f x,f y,As k,As n];by_cases c:x=j
  ·subst c;rw[At rfl,As (by omega)];exact h.1 (x-1) y (by omega) (by omega) e (by omega) (by omega)
  ·rw[As c];by_cases b:y=j
   ·rw[At b];exact h.1 x (j-1) g (by omega) (by omega) c (by omega)
   ·rw[As b];exact h.1 x y g h1 e c b
 ·rw[f (j-1),f y,At rfl,As (by omega)];by_cases b:y=j
  ·rw[At b];exact p
  ·rw[As b];exact h.2 y (by omega) e
def Hp (o:α→α→Int) (d:α) (f hi lo:Nat) (m:List α):Prop:=∀k c,lo≤k→(c=2*k+1∨c=2*k+2)→c<hi→o (m.getD (f+c) d) (m.getD (f+k) d)<0
structure HpX (o:α→α→Int) (d:α) (f hi lo root:Nat) (m:List α):Prop where
 le:lo≤root
 hp:∀k c,lo≤k→k≠root→(c=2*k+1∨c=2*k+2)→c<hi→o (m.getD (f+c) d) (m.getD (f+k) d)<0
 up:∀p c,lo≤p→(root=2*p+1∨root=2*p+2)→(c=2*root+1∨c=2*root+2)→c<hi→o (m.getD (f+c) d) (m.getD (f+p) d)<0
theorem uE {f hi lo:Nat} {m:List α} (h:Hp o d f hi (lo+1) m):HpX o d f hi lo lo m:=⟨No _,fun k c h1 a b e=>h k c (by omega) b e,fun p c h1 a=>by omega⟩
theorem A1a {f hi lo root:Nat} {m:List α} (h:HpX o d f hi lo root m) (e:hi≤2*root+1):Hp o d f hi lo m:=fun k c h1 a b=>h.hp k c h1 (by omega) a b
theorem gZ (i:SO o) {f hi lo root ch:Nat} {m:List α} (h:HpX o d f hi lo root m) (j:ch=2*root+1∨ch=2*root+2) (g:o (m.getD (f+ch) d) (m.getD (f+root) d)<0)
  (hs:∀c,(c=2*root+1∨c=2*root+2)→c<hi→c≠ch→o (m.getD (f+c) d) (m.getD (f+ch) d)<0):Hp o d f hi lo m:=fun k c h1 a b=>by
 by_cases hk:k=root
 ·subst hk;by_cases e:c=ch
  ·rw[e];exact g
  ·exact i.trans (hs c a b e) g
 ·exact h.hp k c h1 hk a b
theorem g9 {f hi lo root ch:Nat} {m:List α} (h:HpX o d f hi lo root m) (r:ch<hi) (hf:f+hi≤m.length) (n:ch=2*root+1∨ch=2*root+2) (t:o (m.getD (f+root) d) (m.getD (f+ch) d)<0)
  (hs:∀c,(c=2*root+1∨c=2*root+2)→c<hi→c≠ch→o (m.getD (f+c) d) (m.getD (f+ch) d)<0):HpX o d f hi lo ch (CU d m (f+root) (f+ch)):=by
 have e:=It (d:=d) (l:=m) (i:=f+root) (j:=f+ch) (by omega) (by omega);have u:=h.le;refine⟨by omega,fun k c h1 g a b=>?_,fun p c h1 g a b=>?_⟩
 ·rw[e,e];by_cases hk:k=root
  ·subst hk;rw[As (show ¬f+k=f+ch by omega),At rfl];by_cases q:c=ch
   ·rw[At (by omega)];exact t
   ·rw[As (by omega),As (by omega)];exact hs c a b q
  ·rw[As (show ¬f+k=f+ch by omega),As (show ¬f+k=f+root by omega)];by_cases s:c=root
   ·subst s;rw[As (by omega),At rfl];exact h.up k ch h1 a n r
   ·rw[As (by omega),As (by omega)];exact h.hp k c h1 hk a b
 ·have hp:p=root:=by omega
  subst hp;rw[e,e,As (by omega),As (by omega),As (by omega),At rfl];exact h.hp ch c (by omega) (by omega) a b
theorem hC (b:SO o) {f hi:Nat} {m:List α} (h:Hp o d f hi 0 m):∀(n k:Nat),k≤n→0<k→k<hi→o (m.getD (f+k) d) (m.getD f d)<0
 | 0,k,h1,c,_=>by omega
 | n+1,k,h1,c,e=>by
  have a:=h ((k-1) / 2) k (by omega) (by omega) e;by_cases g:(k-1) / 2=0
  ·rw[g]at a;exact a
  ·exact b.trans a (hC b h n ((k-1) / 2) (by omega) (by omega) (by omega))
structure uF (o:α→α→Int) (d:α) (f n i:Nat) (m:List α):Prop where
 heap:Hp o d f i 0 m
 srt:RU o d (f+i) (f+n) m
 big:∀x y,x<i→i≤y→y<n→o (m.getD (f+x) d) (m.getD (f+y) d)<0
theorem mX {f n:Nat} {m:List α} (h:Hp o d f n 0 m):uF o d f n n m:=⟨h,fun i j h1 a b=>by omega,fun x y h1 a b=>by omega⟩
theorem uG (t:SO o) {f n i:Nat} {m:List α} (h:uF o d f n (i+1) m) (hi:i<n) (v:f+n≤m.length) :
  HpX o d f i 0 0 (CU d m f (f+i))∧RU o d (f+i) (f+n) (CU d m f (f+i))∧∀x y,x<i→i≤y→y<n→o ((CU d m f (f+i)).getD (f+x) d) ((CU d m f (f+i)).getD (f+y) d)<0:=by
 have a:=It (d:=d) (l:=m) (i:=f) (j:=f+i) (by omega) (by omega);have q:=hC t h.heap i;refine⟨⟨No _,fun k c h1 e b u=>?_,fun p c h1 e=>by omega⟩,fun x y h1 e b=>?_,fun x y h1 e b=>?_⟩
 ·rw[a,a,As (by omega),As (by omega),As (by omega),As (by omega)];exact h.heap k c h1 b (by omega)
 ·rw[a,a,As (show ¬y=f+i by omega),As (show ¬y=f by omega)];by_cases g:x=f+i
  ·rw[At g];have:=h.big 0 (y-f) (by omega) (by omega) (by omega)
   rwa [show f+0=f by omega,show f+(y-f)=y by omega]at this
  ·rw[As g,As (by omega)];exact h.srt x y (by omega) e b
 ·have key:∀z,z<i+1→i+1≤y→o (m.getD (f+z) d) (m.getD (f+y) d)<0:=fun z s r=>h.big z y s r b;rw[a,a,As (show ¬f+x=f+i by omega)];by_cases r:y=i
  ·rw[At (show f+y=f+i by omega)];by_cases g:x=0
   ·rw[At (show f+x=f by omega)];exact q i (by omega) (by omega) (by omega)
   ·rw[As (show ¬f+x=f by omega)];exact q x (by omega) (by omega) (by omega)
  ·rw[As (show ¬f+y=f+i by omega),As (show ¬f+y=f by omega)];by_cases g:x=0
   ·rw[At (show f+x=f by omega)];exact key i (by omega) (by omega)
   ·rw[As (show ¬f+x=f by omega)];exact key x (by omega) (by omega)
theorem uH {f n i:Nat} {m r:List α} (hp:D8 d f (f+i) m r) (hh:Hp o d f i 0 r) (hs:RU o d (f+i) (f+n) m) (c:∀x y,x<i→i≤y→y<n→o (m.getD (f+x) d) (m.getD (f+y) d)<0):uF o d f n i r :=
 ⟨hh,NC hs fun k h1 a=>hp.out k (by omega),fun x y h1 a b=>by
  rw[hp.out (f+y) (by omega)];obtain⟨j,g,h,e⟩:=hp.inn (f+x) (by omega) (by omega);rw[e];have:=c (j-f) y (by omega) a b
  rwa [show f+(j-f)=j by omega]at this⟩
theorem A1b {f n:Nat} {m:List α} (h:uF o d f n 0 m):RU o d f (f+n) m:=h.srt
structure PtI (o:α→α→Int) (d:α) (a b i j:Nat) (m:List α):Prop where
 lo:∀x,a<x→x<i→o (m.getD x d) (m.getD a d)<0
 hi:∀x,j<x→x<b→o (m.getD a d) (m.getD x d)<0
theorem hH {a b i j:Nat} {m:List α} (h:PtI o d a b i j m) (n:a<i) (q:i<j) (r:j<b) (p:b≤m.length) (h1:o (m.getD a d) (m.getD i d)<0) (k:o (m.getD j d) (m.getD a d)<0):PtI o d a b (i+1) (j-1) (CU d m i j):=by
 have c:=It (d:=d) (l:=m) (i:=i) (j:=j) (by omega) (by omega);refine⟨fun x f g=>?_,fun x f g=>?_⟩
 ·rw[c x,c a,As (show ¬x=j by omega),As (show ¬a=j by omega),As (show ¬a=i by omega)];by_cases e:x=i
  ·rw[At e];exact k
  ·rw[As e];exact h.lo x f (by omega)
 ·rw[c x,c a,As (show ¬a=j by omega),As (show ¬a=i by omega)];by_cases e:x=j
  ·rw[At e];exact h1
  ·rw[As e,As (by omega)];exact h.hi x (by omega) g
structure wA (o:α→α→Int) (d:α) (a b p:Nat) (m:List α):Prop where
 l:a≤p
 r:p<b
 lo:∀x,a≤x→x<p→o (m.getD x d) (m.getD p d)<0
 hi:∀x,p<x→x<b→o (m.getD p d) (m.getD x d)<0
theorem qD {a b j:Nat} {m:List α} (h:PtI o d a b (j+1) j m) (g:a≤j) (k:j<b) (p:b≤m.length):wA o d a b j (CU d m j a):=by
 have c:=It (d:=d) (l:=m) (i:=j) (j:=a) (by omega) (by omega);refine⟨g,k,fun x n f=>?_,fun x n f=>?_⟩
 ·rw[c x,c j,As (show ¬j=a by omega),At rfl];by_cases e:x=a
  ·rw[At e];exact h.lo j (by omega) (by omega)
  ·rw[As e,As (by omega)];exact h.lo x (by omega) (by omega)
 ·rw[c x,c j,As (show ¬x=a by omega),As (show ¬x=j by omega)];by_cases e:j=a
  ·rw[At e];rw[e];exact h.hi x (by omega) f
  ·rw[As e,At rfl];exact h.hi x (by omega) f
structure uI (o:α→α→Int) (d:α) (a0 b0 a b:Nat) (m:List α):Prop where
 s1:RU o d a0 a m
 s2:RU o d b b0 m
 c1:∀x y,a0≤x→x<a→a≤y→y<b0→o (m.getD x d) (m.getD y d)<0
 c2:∀x y,a0≤x→x<b→b≤y→y<b0→o (m.getD x d) (m.getD y d)<0
 ab:a0≤a∧a≤b∧b≤b0
theorem uJ {a b:Nat} (g:a≤b) (m:List α):uI o d a b a b m:=⟨fun i j h1 c e=>by omega,fun i j h1 c e=>by omega,fun x y h1 c=>by omega,fun x y h1 c e f=>by omega,by omega⟩
theorem uI.pin {a0 l a b:Nat} {m r:List α} (h:uI o d a0 l a b m) (hp:D8 d a b m r):uI o d a0 l a b r:=by
 obtain⟨v,A,w⟩:=h.ab;have key:∀(P:α→Prop) (lo hi:Nat),lo≤a→b≤hi→(∀y,lo≤y→y<hi→P (m.getD y d))→∀y,lo≤y→y<hi→P (r.getD y d):=fun P lo hi h1 n p y c f=>by
  obtain⟨j,q,s,e⟩:=(hp.mono h1 n).inn y c f;rw[e];exact p j q s
 refine⟨NC h.s1 fun k t u=>hp.out k (by omega),NC h.s2 fun k t u=>hp.out k (by omega),fun x y g i c f=>?_,fun x y g i c f=>?_,h.ab⟩
 ·rw[hp.out x (by omega)];exact key (fun z=>o (m.getD x d) z<0) a l (No _) w (fun y c f=>h.c1 x y g i c f) y c f
 ·rw[hp.out y (by omega)];exact key (fun z=>o z (m.getD y d)<0) a0 b v (No _) (fun x g i=>h.c2 x y g i c f) x g i
theorem uI.done {a0 g a b:Nat} {m:List α} (h:uI o d a0 g a b m) (hs:RU o d a b m):RU o d a0 g m:=by
 obtain⟨l,n,p⟩:=h.ab;intro i j h1 c e;by_cases hi:i<a
 ·by_cases f:j<a
  ·exact h.s1 i j h1 c f
  ·exact h.c1 i j h1 hi (by omega) e
 ·by_cases f:j<b
  ·exact hs i j (by omega) c f
  ·by_cases k:i<b
   ·exact h.c2 i j h1 k (by omega) e
   ·exact h.s2 i j (by omega) c e
theorem uI.left (t:SO o) {a0 e a b p:Nat} {m:List α} (h:uI o d a0 e a b m) (hp:wA o d a b p m) (hs:RU o d a p m):uI o d a0 e (p+1) b m:=by
 obtain⟨z,A,B⟩:=h.ab;have v:=hp.l;have w:=hp.r;refine⟨fun i j h1 f u=>?_,h.s2,fun x y k C D n=>?_,h.c2,by omega⟩
 ·by_cases hi:i<a
  ·by_cases c:j<a
   ·exact h.s1 i j h1 f c
   ·exact h.c1 i j h1 hi (by omega) (by omega)
  ·by_cases c:j=p
   ·rw[c];exact hp.lo i (by omega) (by omega)
   ·exact hs i j (by omega) f (by omega)
 ·by_cases q:x<a
  ·exact h.c1 x y k q (by omega) n
  ·by_cases g:y<b
   ·by_cases s:x=p
    ·rw[s];exact hp.hi y (by omega) g
    ·exact t.trans (hp.lo x (by omega) (by omega)) (hp.hi y (by omega) g)
   ·exact h.c2 x y k (by omega) (by omega) n
theorem uI.right (w:SO o) {a0 g a b p:Nat} {m:List α} (h:uI o d a0 g a b m) (hp:wA o d a b p m) (hs:RU o d (p+1) b m):uI o d a0 g a p m:=by
 obtain⟨B,C,D⟩:=h.ab;have z:=hp.l;have A:=hp.r;refine⟨h.s1,fun i j h1 k n=>?_,fun x y c e s f=>h.c1 x y c e s f,fun x y c e s f=>?_,by omega⟩
 ·by_cases q:j<b
  ·by_cases hi:i=p
   ·rw[hi];exact hp.hi j (by omega) q
   ·exact hs i j (by omega) k q
  ·by_cases t:i<b
   ·exact h.c2 i j (by omega) t (by omega) n
   ·exact h.s2 i j (by omega) k n
 ·by_cases v:y<b
  ·by_cases u:x<a
   ·exact h.c1 x y c u (by omega) f
   ·by_cases hyp:y=p
    ·rw[hyp];exact hp.lo x (by omega) e
    ·exact w.trans (hp.lo x (by omega) e) (hp.hi y (by omega) v)
  ·exact h.c2 x y c (by omega) (by omega) f
theorem wA.pinL {a b p:Nat} {m r:List α} (h:wA o d a b p m) (hp:D8 d a p m r):wA o d a b p r:=by
 have g:=h.l;have i:=h.r;refine⟨g,i,fun x c f=>?_,fun x c f=>?_⟩
 ·rw[hp.out p (by omega)];obtain⟨j,k,n,e⟩:=hp.inn x c f;rw[e];exact h.lo j k n
 ·rw[hp.out p (by omega),hp.out x (by omega)];exact h.hi x c f
theorem wA.pinR {a b p:Nat} {m r:List α} (h:wA o d a b p m) (hp:D8 d (p+1) b m r):wA o d a b p r:=by
 have g:=h.l;have i:=h.r;refine⟨g,i,fun x f c=>?_,fun x f c=>?_⟩
 ·rw[hp.out p (by omega),hp.out x (by omega)];exact h.lo x f c
 ·rw[hp.out p (by omega)];obtain⟨j,n,k,e⟩:=hp.inn x (by omega) c;rw[e];exact h.hi j (by omega) k
def Bf (o:α→α→Int) (d:α) (a b:Nat) (m:List α):Prop:=a=0∨∀y,a≤y→y<b→o (m.getD (a-1) d) (m.getD y d)<0
theorem Bf.pin {a b:Nat} {m r:List α} (h:Bf o d a b m) (hp:D8 d a b m r):Bf o d a b r:=by
 rcases h with h|h
 ·exact .inl h
 ·by_cases h0:a=0
  ·exact .inl h0
  ·right;intro y g i;rw[hp.out (a-1) (by omega)];obtain⟨j,c,f,e⟩:=hp.inn y g i;rw[e];exact h j c f
theorem Bf.sub {a b b':Nat} {m:List α} (h:Bf o d a b m) (e:b'≤b):Bf o d a b' m:=h.imp id fun h y c f=>h y c (by omega)
theorem wA.bf {a b p:Nat} {m:List α} (h:wA o d a b p m):Bf o d (p+1) b m:=.inr fun y e c=>by
 rw[show p+1-1=p by omega];exact h.hi y (by omega) c
end
section
attribute [local go_sem] Cu
def CB (a b:Int×Int):Int:=Fv a.1 b.1
theorem CJ:SO CB:=⟨fun a b=>by unfold CB Fv;(repeat' split)<;>omega,fun {a b c} h1 d=>by
 unfold CB Fv at *
 (repeat' split at h1)<;>(repeat' split at d)<;>(repeat' split)<;>omega⟩
theorem A3u (l:List (Int×Int)) (M:l.length≤100000) (w:j5 CB (0,0) l) (a b:Nat) (H:a≤100000) (I:b≤l.length):BB Tryz.prog 166 [.sr 1000000 BI 0 l.length,.p T3 (a:Int),.p T3 (b:Int),.fn 116] [(1000000,.arr 53 BI l)] [1000000] (fun res F=>res=.raw (.tuple #[])∧∃r,F=[(1000000,.arr 53 BI r)]∧D8 (0,0) a b l r∧RU CB (0,0) a b r):=by
 refine KJ [0,1,2,3,8,9,14,34] [] [] Tryz.func166 Tryz.ntmps166 (AF E3 AG) ?_;intro w0 K O0 ρ0 d O P;simp only[Ak];repeat'(first|exact trivial|refine eS rfl ?_|refine AB ?_|refine rX d ?_ ?_|refine rC ?_ ?_<;>intro e<;>try(cases e;done))
 ·omega
 ·refine AJ (ι:={s:Nat×List (Int×Int)//a+1≤s.1∧(s.1=a+1∨s.1≤b)∧D8 (0,0) a b l s.2∧RU CB (0,0) a s.1 s.2}) (fun s=>⟨[(0,.sr 1000000 BI 0 l.length),(1,.p T3 (a:Int)),(2,.p T3 (b:Int)),(3,.fn 116),(8,.p (.int .i64) (s.1.1:Int))],[(1000000,.arr 53 BI s.1.2)]⟩) (fun s=>b-s.1.1) ⟨(a+1,l),No _,.inl rfl,D8.refl a b l,ZE a l⟩ (AC [(1000000,.nm 1000000)] rfl rfl ?_ ?_) (fun s=>?_)
  ·first|exact eN|refine eM ?_
  ·first|exact eN|refine eM ?_
  ·obtain⟨⟨i,m⟩,B,C,hp,hs⟩:=s;simp only at B C hp hs ⊢;have N:=hp.len;repeat'(first|exact trivial|refine eS rfl ?_|refine AB ?_|refine rX d ?_ ?_|refine rC ?_ ?_<;>intro e<;>try(cases e;done))
   ·have D:i<b:=by exact eV
    refine AJ (ι:={t:Nat×List (Int×Int)//a≤t.1∧t.1≤i∧D8 (0,0) a b l t.2∧mV CB (0,0) a i t.1 t.2}) (fun t=>⟨[(0,.sr 1000000 BI 0 l.length),(1,.p T3 (a:Int)),(2,.p T3 (b:Int)),(3,.fn 116),(8,.p (.int .i64) (i:Int)),(9,.p (.int .i64) (t.1.1:Int))],[(1000000,.arr 53 BI t.1.2)]⟩) (fun t=>t.1.1) ⟨(i,m),by omega,No i,hp,mW hs⟩ (AC [(1000000,.nm 1000000)] rfl rfl ?_ ?_) (fun t=>?_)
    ·first|exact eN|refine eM ?_
    ·first|exact eN|refine eM ?_
    ·obtain⟨⟨j,c⟩,ha,q,g,o⟩:=t;simp only at ha q g o ⊢;have J:=g.len;have z:=w.perm CJ g.perm;repeat'(first|exact trivial|refine eS rfl ?_|refine AB ?_|refine rX d ?_ ?_)
     ·dsimp only[Ty.den]at *;exact⟨fun _=>by omega,fun _=>⟨by omega,by omega⟩,fun _=>⟨by omega,by omega⟩⟩
     ·have n:a<j→((j:Int)-1).toNat=j-1:=fun _=>by omega
      refine Dl (by simp only[go_sem,Nat.reduceEqDiff,reduceCtorEq,Nat.reduceAdd,Nat.reduceSub,Nat.reduceMul,Nat.reduceLeDiff,Nat.reduceLT,Int.reduceLE,Int.reduceToNat,Int.reduceNeg,↓reduceIte];rfl) ?_ ?_
      ·intro f;simp only[AT,DO]at f;have k:a<j:=by omega
       have u:CB (c.getD j (0,0)) (c.getD ((j:Int)-1).toNat (0,0))<0:=f.2;rw[n k]at u;have E:CU (0,0) c j (j-1)=(c.set j (c.getD (j-1) (0,0))).set (j-1) (c.getD j (0,0)):=rfl;repeat'(first|exact trivial|refine eS rfl ?_|refine AB ?_|refine rP d ?_ ?_|fail)
       (refine Bu drawsAny d 16 [([0,1,5,6,7,8,9,10,11,12,13,14],15)] [2,3,4] (by kernel_rfl) (Jr ?_ ?_);(next=>exact CV);refine Ld d [] ?_ ?_;(next=>exact CV);refine Ow d ?_ ?_ ?_;(next=>exact CV);(next=>exact CV))
       rw[n k];repeat'(first|exact trivial|refine eS rfl ?_|refine AB ?_|refine rX d ?_ ?_|refine rC ?_ ?_<;>intro e<;>try(cases e;done))
       ·dsimp only[Ty.den]at *;omega
       ·refine⟨⟨(j-1,CU (0,0) c j (j-1)),by simp only;omega,by simp only;omega,g.trans (D8.swap c (by omega) (by omega) (by omega) (by omega) (by omega)),Xk o k q (by omega) u⟩,by simp only;omega,AC [(1000000,.nm 1000000)] rfl rfl ?_ ?_⟩
        ·simp only;rw[E];first|exact eN|refine eM ?_
        ·simp only;rw[show ((j-1:Nat):Int)=(j:Int)-1 by omega];first|exact eN|refine eM ?_
      ·intro f;have A:j=a∨CB (c.getD (j-1) (0,0)) (c.getD j (0,0))<0:=by
        by_cases k:j=a
        ·exact .inl k
        ·right;simp only[AAD,On]at f;rw[n (by omega)]at f;rcases f with h|h
         ·omega
         ·exact z.lt CJ (by omega) (by omega) (by omega) h
       repeat'(first|exact trivial|refine eS rfl ?_|refine AB ?_|refine rX d ?_ ?_|refine rC ?_ ?_<;>intro e<;>try(cases e;done))
       ·exact eV
       ·refine⟨⟨(i+1,c),by simp only;omega,.inr D,g,VI CJ o ha q A⟩,by simp only;omega,AC [(1000000,.nm 1000000)] rfl rfl ?_ ?_⟩
        ·first|exact eN|refine eM ?_
        ·first|exact eN|refine eM ?_
   ·have L:b≤i:=by exact eV
    exact fM d [] (.raw (.tuple #[])) rfl ⟨rfl,m,rfl,hp,fun x y h1 v G=>hs x y h1 v (by omega)⟩
end
section
attribute [local go_sem] Cu
theorem A3v (l:List (Int×Int)) (o:l.length≤100000) (a b:Nat) (h:a<b) (k:b≤l.length):BB Tryz.prog 170 [.sr 1000000 BI 0 l.length,.p T3 (a:Int),.p T3 (b:Int),.fn 116] [(1000000,.arr 53 BI l)] [1000000] (fun res g=>res=.raw (.tuple #[])∧∃r,g=[(1000000,.arr 53 BI r)]∧D8 (0,0) a b l r):=by
 refine KJ [0,1,2,8,9,15] [] [] Tryz.func170 Tryz.ntmps170 AG ?_;intro w0 K O0 ρ0 c t u;simp only[Ak];repeat'(first|exact trivial|refine eS rfl ?_|refine AB ?_|refine rX c ?_ ?_|refine rC ?_ ?_<;>intro d<;>try(cases d;done))
 ·omega
 ·rw[show (b:Int)-1=((b-1:Nat):Int) by omega];refine AJ (ι:={s:Nat×Nat×List (Int×Int)//a≤s.1∧s.2.1<b∧D8 (0,0) a b l s.2.2}) (fun s=>⟨[(0,.sr 1000000 BI 0 l.length),(8,.p (.int .i64) (s.1.1:Int)),(9,.p (.int .i64) (s.1.2.1:Int))],[(1000000,.arr 53 BI s.1.2.2)]⟩) (fun s=>s.1.2.1-s.1.1) ⟨(a,b-1,l),No _,by simp only;omega,D8.refl a b l⟩ (AC [(1000000,.nm 1000000)] rfl rfl ?_ ?_) (fun s=>?_)
  ·first|exact eN|refine eM ?_
  ·first|exact eN|refine eM ?_
  ·obtain⟨⟨i,j,m⟩,hi,e,hp⟩:=s;simp only at hi e hp ⊢;have q:=hp.len;repeat'(first|exact trivial|refine eS rfl ?_|refine AB ?_|refine rX c ?_ ?_)
   refine rC (fun d=>?_) (fun d=>?_)
   ·repeat'(first|exact trivial|refine eS rfl ?_|refine AB ?_|refine rP c ?_ ?_|fail)
    have n:i<j:=by omega
    have f:CU (0,0) m i j=(m.set i (m.getD j (0,0))).set j (m.getD i (0,0)):=rfl
    (refine Bu drawsAny c 14 [([0,1,4,5,6,7,8,9,10,11,12],13)] [2,3] (by kernel_rfl) (Jr ?_ ?_);(next=>exact CV);refine Ld c [] ?_ ?_;(next=>exact CV);refine Ow c ?_ ?_ ?_;(next=>exact CV);(next=>exact CV))
    repeat'(first|exact trivial|refine eS rfl ?_|refine AB ?_|refine rX c ?_ ?_|refine rC ?_ ?_<;>intro d<;>try(cases d;done))
    ·omega
    ·omega
    ·refine⟨⟨(i+1,j-1,CU (0,0) m i j),by simp only;omega,by simp only;omega,hp.trans (D8.swap m (by omega) (by omega) (by omega) (by omega) (by omega))⟩,by simp only;omega,AC [(1000000,.nm 1000000)] rfl rfl ?_ ?_⟩
     ·simp only;rw[f];first|exact eN|refine eM ?_
     ·simp only;rw[show ((j-1:Nat):Int)=(j:Int)-1 by omega];first|exact eN|refine eM ?_
   ·repeat'(first|exact trivial|refine eS rfl ?_|refine AB ?_|refine rX c ?_ ?_|refine rC ?_ ?_<;>intro d<;>try(cases d;done))
    exact fM c [] (.raw (.tuple #[])) rfl ⟨rfl,m,rfl,hp⟩
theorem hZ (l:List (Int×Int)) (o:l.length≤100000) (z:j5 CB (0,0) l) (lo hi f:Nat) (F:lo≤100000) (hf:f+hi≤l.length) (A:HpX CB (0,0) f hi lo lo l):BB Tryz.prog 178 [.sr 1000000 BI 0 l.length,.p T3 (lo:Int),.p T3 (hi:Int),.p T3 (f:Int),.fn 116] [(1000000,.arr 53 BI l)] [1000000] (fun res E=>res=.raw (.tuple #[])∧∃r,E=[(1000000,.arr 53 BI r)]∧D8 (0,0) f (f+hi) l r∧Hp CB (0,0) f hi lo r):=by
 refine KJ [0,1,2,3,4,10,11,18,40,58] [] [] Tryz.func178 Tryz.ntmps178 (AF E3 AG) ?_;intro w0 K O0 ρ0 a H I;simp only[Ak];repeat'(first|exact trivial|refine eS rfl ?_|refine AB ?_|refine rX a ?_ ?_|refine rC ?_ ?_<;>intro d<;>try(cases d;done))
 refine AJ (ι:={s:Nat×List (Int×Int)//s.1≤lo+hi∧D8 (0,0) f (f+hi) l s.2∧HpX CB (0,0) f hi lo s.1 s.2}) (fun s=>⟨[(0,.sr 1000000 BI 0 l.length),(2,.p T3 (hi:Int)),(3,.p T3 (f:Int)),(4,.fn 116),(10,.p (.int .i64) (s.1.1:Int))],[(1000000,.arr 53 BI s.1.2)]⟩) (fun s=>lo+hi-s.1.1) ⟨(lo,l),by omega,D8.refl _ _ l,A⟩ (AC [(1000000,.nm 1000000)] rfl rfl ?_ ?_) (fun s=>?_)
 ·first|exact eN|refine eM ?_
 ·first|exact eN|refine eM ?_
 ·obtain⟨⟨root,m⟩,D,hp,k⟩:=s;simp only at D hp k ⊢;have G:=hp.len;have t:=z.perm CJ hp.perm;repeat'(first|exact trivial|refine eS rfl ?_|refine AB ?_|refine rX a ?_ ?_)
  ·omega
  ·refine rC (fun d=>?_) (fun d=>?_)
   ·have o:hi≤2*root+1:=by omega
    repeat'(first|exact trivial|refine eS rfl ?_|refine AB ?_|refine rX a ?_ ?_|refine rC ?_ ?_<;>intro d<;>try(cases d;done))
    exact fM a [] (.raw (.tuple #[])) rfl ⟨rfl,m,rfl,hp,A1a k o⟩
   ·have o:2*root+1<hi:=by omega
    have n:((f:Int)+(2*(root:Int)+1)).toNat=f+(2*root+1):=by omega
    have q:((f:Int)+(2*(root:Int)+1+1)).toNat=f+(2*root+2):=by omega
    have w:((f:Int)+(2*(root:Int)+1)+1).toNat=f+(2*root+2):=by omega
    have g:((f:Int)+(root:Int)).toNat=f+root:=by omega
    repeat'(first|exact trivial|refine eS rfl ?_|refine AB ?_|refine rX a ?_ ?_)
    ·dsimp only[Ty.den];exact⟨by omega,fun _=>by omega,fun _=>by omega,fun _=>by omega,fun _=>by omega,fun _=>by omega⟩
    ·refine Dl (by simp only[go_sem,Nat.reduceEqDiff,reduceCtorEq,Nat.reduceAdd,Nat.reduceSub,Nat.reduceMul,Nat.reduceLeDiff,Nat.reduceLT,Int.reduceLE,Int.reduceToNat,Int.reduceNeg,↓reduceIte];rfl) ?_ ?_
     ·intro e;simp only[AT,DO]at e;obtain⟨hh,e⟩:=e;have C:CB (m.getD (f+(2*root+1)) (0,0)) (m.getD (f+(2*root+2)) (0,0))<0:=by rw[←n,←w];exact e
      have B:2*root+2<hi:=by omega
      have hs:∀c,(c=2*root+1∨c=2*root+2)→c<hi→c≠2*root+2→CB (m.getD (f+c) (0,0)) (m.getD (f+(2*root+2)) (0,0))<0:=fun c h1 x y=>by
       rw[show c=2*root+1 by omega];exact C
      repeat'(first|exact trivial|refine eS rfl ?_|refine AB ?_|refine rX a ?_ ?_)
      ·omega
      ·exact CV
      ·refine Dl (by simp only[go_sem,Nat.reduceEqDiff,reduceCtorEq,Nat.reduceAdd,Nat.reduceSub,Nat.reduceMul,Nat.reduceLeDiff,Nat.reduceLT,Int.reduceLE,Int.reduceToNat,Int.reduceNeg,↓reduceIte];rfl) ?_ ?_
       ·intro b;simp only[OR,On]at b;rw[g,q]at b;have u:=t.lt CJ (i:=f+root) (j:=f+(2*root+2)) (by omega) (by omega) (by omega) b;repeat'(first|exact trivial|refine eS rfl ?_|refine AB ?_|refine rX a ?_ ?_|refine rC ?_ ?_<;>intro d<;>try(cases d;done))
        exact fM a [] (.raw (.tuple #[])) rfl ⟨rfl,m,rfl,hp,gZ CJ k (.inr rfl) u hs⟩
       ·intro b;simp only[AAU,DO]at b;rw[g,q]at b;have v:CU (0,0) m (f+root) (f+(2*root+2))=(m.set (f+root) (m.getD (f+(2*root+2)) (0,0))).set (f+(2*root+2)) (m.getD (f+root) (0,0)):=rfl;repeat'(first|exact trivial|refine eS rfl ?_|refine AB ?_|refine rP a ?_ ?_|fail)
        (refine Bu drawsAny a 22 [([0,1,2,3,8,9,10,11,12,13,14,15,16,17,18,19,20],21)] [4,5,6,7] (by kernel_rfl) (Jr ?_ ?_);(next=>exact CV);refine Ld a [] ?_ ?_;(next=>exact CV);refine Ow a ?_ ?_ ?_;(next=>exact CV);(next=>exact CV))
        rw[g,q];repeat'(first|exact trivial|refine eS rfl ?_|refine AB ?_|refine rX a ?_ ?_|refine rC ?_ ?_<;>intro d<;>try(cases d;done))
        refine⟨⟨(2*root+2,CU (0,0) m (f+root) (f+(2*root+2))),by simp only;omega,hp.trans (D8.swap m (by omega) (by omega) (by omega) (by omega) (by omega)),g9 k B (by omega) (.inr rfl) b hs⟩,by simp only;omega,AC [(1000000,.nm 1000000)] rfl rfl ?_ ?_⟩
        ·simp only;rw[v];first|exact eN|refine eM ?_
        ·simp only;rw[show ((2*root+2:Nat):Int)=2*(root:Int)+1+1 by omega];first|exact eN|refine eM ?_
     ·intro e;have hs:∀c,(c=2*root+1∨c=2*root+2)→c<hi→c≠2*root+1→CB (m.getD (f+c) (0,0)) (m.getD (f+(2*root+1)) (0,0))<0:=fun c h1 x y=>by
       simp only[AAD,On]at e;have a:c=2*root+2:=by omega
       subst a;rcases e with h|h
       ·omega
       ·rw[n,w]at h;exact t.lt CJ (by omega) (by omega) (by omega) h
      repeat'(first|exact trivial|refine eS rfl ?_|refine AB ?_|refine rX a ?_ ?_)
      ·exact CV
      ·refine Dl (by simp only[go_sem,Nat.reduceEqDiff,reduceCtorEq,Nat.reduceAdd,Nat.reduceSub,Nat.reduceMul,Nat.reduceLeDiff,Nat.reduceLT,Int.reduceLE,Int.reduceToNat,Int.reduceNeg,↓reduceIte];rfl) ?_ ?_
       ·intro b;simp only[OR,On]at b;rw[g,n]at b;have u:=t.lt CJ (i:=f+root) (j:=f+(2*root+1)) (by omega) (by omega) (by omega) b;repeat'(first|exact trivial|refine eS rfl ?_|refine AB ?_|refine rX a ?_ ?_|refine rC ?_ ?_<;>intro d<;>try(cases d;done))
        exact fM a [] (.raw (.tuple #[])) rfl ⟨rfl,m,rfl,hp,gZ CJ k (.inl rfl) u hs⟩
       ·intro b;simp only[AAU,DO]at b;rw[g,n]at b;have v:CU (0,0) m (f+root) (f+(2*root+1))=(m.set (f+root) (m.getD (f+(2*root+1)) (0,0))).set (f+(2*root+1)) (m.getD (f+root) (0,0)):=rfl;repeat'(first|exact trivial|refine eS rfl ?_|refine AB ?_|refine rP a ?_ ?_|fail)
        (refine Bu drawsAny a 22 [([0,1,2,3,8,9,10,11,12,13,14,15,16,17,18,19,20],21)] [4,5,6,7] (by kernel_rfl) (Jr ?_ ?_);(next=>exact CV);refine Ld a [] ?_ ?_;(next=>exact CV);refine Ow a ?_ ?_ ?_;(next=>exact CV);(next=>exact CV))
        rw[g,n];repeat'(first|exact trivial|refine eS rfl ?_|refine AB ?_|refine rX a ?_ ?_|refine rC ?_ ?_<;>intro d<;>try(cases d;done))
        refine⟨⟨(2*root+1,CU (0,0) m (f+root) (f+(2*root+1))),by simp only;omega,hp.trans (D8.swap m (by omega) (by omega) (by omega) (by omega) (by omega)),g9 k o (by omega) (.inl rfl) b hs⟩,by simp only;omega,AC [(1000000,.nm 1000000)] rfl rfl ?_ ?_⟩
        ·simp only;rw[v];first|exact eN|refine eM ?_
        ·simp only;rw[show ((2*root+1:Nat):Int)=2*(root:Int)+1 by omega];first|exact eN|refine eM ?_
end
section
attribute [local go_sem] Cu
theorem A1c (l:List (Int×Int)) (L:l.length≤100000) (u:j5 CB (0,0) l) (a b:Nat) (I:a≤b) (J:b≤l.length):BB Tryz.prog 167 [.sr 1000000 BI 0 l.length,.p T3 (a:Int),.p T3 (b:Int),.fn 116] [(1000000,.arr 53 BI l)] [1000000] (fun res C=>res=.raw (.tuple #[])∧∃r,C=[(1000000,.arr 53 BI r)]∧D8 (0,0) a b l r∧RU CB (0,0) a b r):=by
 refine KJ [0,1,2,3,8,9,10,11,12,21,33] [] [] Tryz.func167 Tryz.ntmps167 AG ?_;intro w0 K O0 ρ0 d M N;simp only[Ak];obtain⟨n,hn⟩:∃n,b=a+n:=⟨b-a,by omega⟩;subst hn;have t:(((a+n:Nat):Int)-(a:Int)-1).tdiv 2=(((n-1) / 2+1:Nat):Int)-1:=by
  by_cases h0:n=0
  ·subst h0;rw[show ((a+0:Nat):Int)-(a:Int)-1=-1 by omega];decide
  ·rw[AAu (by omega)];omega
 have en:((a+n:Nat):Int)-(a:Int)=(n:Int):=by omega
 repeat'(first|exact trivial|refine eS rfl ?_|refine AB ?_|refine rX d ?_ ?_|refine rC ?_ ?_<;>intro e<;>try(cases e;done))
 ·omega
 ·rw[t];exact⟨by omega,by decide,by omega⟩
 ·rw[t,en];refine AJ (ι:={s:Nat×List (Int×Int)//s.1≤n+1∧D8 (0,0) a (a+n) l s.2∧Hp CB (0,0) a n s.1 s.2}) (fun s=>⟨[(0,.sr 1000000 BI 0 l.length),(3,.fn 116),(8,.p T3 (a:Int)),(9,.p (.int .i64) (0:Int)),(10,.p (.int .i64) (n:Int)),(11,.p (.int .i64) ((s.1.1:Int)-1))],[(1000000,.arr 53 BI s.1.2)]⟩) (fun s=>s.1.1) ⟨((n-1) / 2+1,l),by simp only;omega,D8.refl _ _ l,fun k c h1 G H=>by simp only at h1;omega⟩ (AC [(1000000,.nm 1000000)] rfl rfl ?_ ?_) (fun s=>?_)
  ·first|exact eN|refine eM ?_
  ·first|exact eN|refine eM ?_
  ·obtain⟨⟨k,m⟩,hk,hp,q⟩:=s;simp only at hk hp q ⊢;have y:=hp.len;have x:=u.perm CJ hp.perm;repeat'(first|exact trivial|refine eS rfl ?_|refine AB ?_|refine rX d ?_ ?_)
   refine rC (fun e=>?_) (fun e=>?_)
   ·have f:0<k:=by omega
    have key:=hZ m (by omega) x (k-1) n a (by omega) (by omega) (uE (by rw[show k-1+1=k by omega];exact q));rw[y,show ((k-1:Nat):Int)=(k:Int)-1 by omega]at key;repeat'(first|exact trivial|refine eS rfl ?_|refine AB ?_|refine rX d ?_ ?_)
    refine cP 5 d ?_ ?_
    ·trivial
    ·refine rM d (key) [(1000000,.nm 1000000)] [] ?_ ?_ ?_
     ·first|exact eN|refine eM ?_
     ·first|exact eN|refine eM ?_
     ·rintro _ _ ⟨rfl,r,rfl,i,j⟩;refine⟨[(1000000,.nm 1000000)],.raw (.tuple #[]),[(1000000,.arr 53 BI r)],rfl,rfl,?_,?_,rfl,rfl,CM ?_⟩
      ·first|exact eN|refine eM ?_
      ·first|exact eN|refine eM ?_
      ·repeat'(first|exact trivial|refine eS rfl ?_|refine AB ?_|refine rX d ?_ ?_|refine rC ?_ ?_<;>intro e<;>try(cases e;done))
       ·omega
       ·refine⟨⟨(k-1,r),by simp only;omega,hp.trans i,j⟩,by simp only;omega,AC [(1000000,.nm 1000000)] rfl rfl ?_ ?_⟩
        ·simp only;first|exact eN|refine eM ?_
        ·simp only;rw[show ((k-1:Nat):Int)=(k:Int)-1 by omega];first|exact eN|refine eM ?_
   ·have f:k=0:=by omega
    subst f;repeat'(first|exact trivial|refine eS rfl ?_|refine AB ?_|refine rX d ?_ ?_)
    ·omega
    ·refine AJ (ι:={s:Nat×List (Int×Int)//s.1≤n∧D8 (0,0) a (a+n) l s.2∧uF CB (0,0) a n s.1 s.2}) (fun s=>⟨[(0,.sr 1000000 BI 0 l.length),(3,.fn 116),(8,.p T3 (a:Int)),(9,.p (.int .i64) (0:Int)),(12,.p (.int .i64) ((s.1.1:Int)-1))],[(1000000,.arr 53 BI s.1.2)]⟩) (fun s=>s.1.1) ⟨(n,m),No _,hp,mX q⟩ (AC [(1000000,.nm 1000000)] rfl rfl ?_ ?_) (fun s=>?_)
     ·first|exact eN|refine eM ?_
     ·first|exact eN|refine eM ?_
     ·obtain⟨⟨k,c⟩,hk,g,h⟩:=s;simp only at hk g h ⊢;have w:=g.len;repeat'(first|exact trivial|refine eS rfl ?_|refine AB ?_|refine rX d ?_ ?_)
      refine rC (fun e=>?_) (fun e=>?_)
      ·have f:0<k:=by omega
       have h:uF CB (0,0) a n (k-1+1) c:=by rw[show k-1+1=k by omega];exact h
       obtain⟨D,E,F⟩:=uG CJ h (by omega) (by omega);have o:D8 (0,0) a (a+n) c (CU (0,0) c a (a+(k-1))):=D8.swap c (by omega) (by omega) (by omega) (by omega) (by omega);have A:=o.len;have z:=u.perm CJ (g.trans o).perm;have v:((a:Int)+((k:Int)-1)).toNat=a+(k-1):=by omega
       have B:CU (0,0) c a (a+(k-1))=(c.set a (c.getD (a+(k-1)) (0,0))).set (a+(k-1)) (c.getD a (0,0)):=rfl;have key:=hZ (CU (0,0) c a (a+(k-1))) (by omega) z 0 (k-1) a (by omega) (by omega) D;rw[A,w,show ((k-1:Nat):Int)=(k:Int)-1 by omega]at key;repeat'(first|exact trivial|refine eS rfl ?_|refine AB ?_|refine rP d ?_ ?_|fail)
       (refine Bu drawsAny d 18 [([0,1,6,7,8,9,10,11,12,13,14,15,16],17)] [2,3,4,5] (by kernel_rfl) (Jr ?_ ?_);(next=>exact CV);refine Ld d [] ?_ ?_;(next=>exact CV);refine Ow d ?_ ?_ ?_;(next=>exact CV);(next=>exact CV))
       rw[v,←B];repeat'(first|exact trivial|refine eS rfl ?_|refine AB ?_|refine rP d ?_ ?_|fail)
       refine cP 5 d ?_ ?_
       ·trivial
       ·refine rM d (key) [(1000000,.nm 1000000)] [] ?_ ?_ ?_
        ·first|exact eN|refine eM ?_
        ·first|exact eN|refine eM ?_
        ·rintro _ _ ⟨rfl,r,rfl,i,j⟩;refine⟨[(1000000,.nm 1000000)],.raw (.tuple #[]),[(1000000,.arr 53 BI r)],rfl,rfl,?_,?_,rfl,rfl,CM ?_⟩
         ·first|exact eN|refine eM ?_
         ·first|exact eN|refine eM ?_
         ·repeat'(first|exact trivial|refine eS rfl ?_|refine AB ?_|refine rX d ?_ ?_|refine rC ?_ ?_<;>intro e<;>try(cases e;done))
          ·omega
          ·refine⟨⟨(k-1,r),by simp only;omega,(g.trans o).trans (i.mono (No _) (by omega)),uH i j E F⟩,by simp only;omega,AC [(1000000,.nm 1000000)] rfl rfl ?_ ?_⟩
           ·simp only;first|exact eN|refine eM ?_
           ·simp only;rw[show ((k-1:Nat):Int)=(k:Int)-1 by omega];first|exact eN|refine eM ?_
      ·have f:k=0:=by omega
       subst f;repeat'(first|exact trivial|refine eS rfl ?_|refine AB ?_|refine rX d ?_ ?_|refine rC ?_ ?_<;>intro e<;>try(cases e;done))
       exact fM d [] (.raw (.tuple #[])) rfl ⟨rfl,c,rfl,g,A1b h⟩
end
section
attribute [local go_sem] Cu
theorem A3w (l:List (Int×Int)) (ah:l.length≤100000) (O:j5 CB (0,0) l) (a b p:Nat) (hap:a≤p) (aa:p<b) (V:b≤l.length):BB Tryz.prog 173 [.sr 1000000 BI 0 l.length,.p T3 (a:Int),.p T3 (b:Int),.p T3 (p:Int),.fn 116] [(1000000,.arr 53 BI l)] [1000000] (fun res ae=>∃(q:Nat) (w:Bool) (r:List (Int×Int)),res=.tup [.p T3 (q:Int),.p .bool w]∧ae=[(1000000,.arr 53 BI r)]∧D8 (0,0) a b l r∧wA CB (0,0) a b q r):=by
 refine KJ [0,1,2,3,4,10,11,12,13,47,66,71,120,139,144] [] [] Tryz.func173 Tryz.ntmps173 (AF E3 AG) ?_;intro w0 K O0 ρ0 c ai aj;simp only[Ak];have g:D8 (0,0) a b l (CU (0,0) l a p):=D8.swap l (No _) (by omega) hap aa V;have n:CU (0,0) l a p=(l.set a (l.getD p (0,0))).set p (l.getD a (0,0)):=rfl;repeat'(first|exact trivial|refine eS rfl ?_|refine AB ?_|refine rP c ?_ ?_|fail)
 (refine Bu drawsAny c 14 [([0,1,4,5,6,7,8,9,10,11,12],13)] [2,3] (by kernel_rfl) (Jr ?_ ?_);(next=>exact CV);refine Ld c [] ?_ ?_;(next=>exact CV);refine Ow c ?_ ?_ ?_;(next=>exact CV);(next=>exact CV))
 rw[←n];have A:=O.perm CJ g.perm;have R:=g.len;clear n;generalize CU (0,0) l a p=m at *;repeat'(first|exact trivial|refine eS rfl ?_|refine AB ?_|refine rP c ?_ ?_|fail)
 ·exact CV
 ·rw[show (a:Int)+1=((a+1:Nat):Int) by omega,show (b:Int)-1=((b-1:Nat):Int) by omega];refine AJ (ι:={i:Nat//a<i∧i≤b∧PtI CB (0,0) a b i (b-1) m}) (fun s=>⟨[(0,.sr 1000000 BI 0 l.length),(1,.p T3 (a:Int)),(4,.fn 116),(12,.p (.int .i64) (s.1:Int)),(13,.p (.int .i64) ((b-1:Nat):Int))],[(1000000,.arr 53 BI m)]⟩) (fun s=>b-s.1) ⟨a+1,by omega,by omega,⟨fun x h1 f=>by omega,fun x h1 f=>by omega⟩⟩ (AC [(1000000,.nm 1000000)] rfl rfl ?_ ?_) (fun s=>?_)
  ·first|exact eN|refine eM ?_
  ·first|exact eN|refine eM ?_
  ·obtain⟨i,E,I,t⟩:=s;simp only at E I t ⊢;repeat'(first|exact trivial|refine eS rfl ?_|refine AB ?_|refine rX c ?_ ?_)
   ·dsimp only[Ty.den];exact⟨fun _=>by omega,fun _=>by omega⟩
   ·refine Dl (by simp only[go_sem,Nat.reduceEqDiff,reduceCtorEq,Nat.reduceAdd,Nat.reduceSub,Nat.reduceMul,Nat.reduceLeDiff,Nat.reduceLT,Int.reduceLE,Int.reduceToNat,Int.reduceNeg,↓reduceIte];rfl) ?_ ?_
    ·intro d;simp only[AT,DO]at d;obtain⟨h1,f⟩:=d;repeat'(first|exact trivial|refine eS rfl ?_|refine AB ?_|refine rX c ?_ ?_)
     ·exact CV
     ·refine⟨⟨i+1,by omega,by omega,⟨fun x G H=>?_,t.hi⟩⟩,by simp only;omega,AC [(1000000,.nm 1000000)] rfl rfl ?_ ?_⟩
      ·by_cases e:x=i
       ·rw[e];exact f
       ·exact t.lo x G (by omega)
      ·first|exact eN|refine eM ?_
      ·first|exact eN|refine eM ?_
    ·intro d;have B:i≤b-1→CB (m.getD a (0,0)) (m.getD i (0,0))<0:=fun h1=>A.lt CJ (by omega) (by omega) (by omega) fun f=>by
      simp only[AAD,On]at d;rcases d with h|h
      ·omega
      ·exact h f
     have ag:i≤b-1+1:=by omega
     repeat'(first|exact trivial|refine eS rfl ?_|refine AB ?_|refine rX c ?_ ?_)
     refine AJ (ι:={j:Nat//a≤j∧j<b∧i≤j+1∧PtI CB (0,0) a b i j m}) (fun s=>⟨[(0,.sr 1000000 BI 0 l.length),(1,.p T3 (a:Int)),(4,.fn 116),(12,.p (.int .i64) (i:Int)),(13,.p (.int .i64) (s.1:Int))],[(1000000,.arr 53 BI m)]⟩) (fun s=>s.1) ⟨b-1,by omega,by omega,by omega,t⟩ (AC [(1000000,.nm 1000000)] rfl rfl ?_ ?_) (fun s=>?_)
     ·first|exact eN|refine eM ?_
     ·first|exact eN|refine eM ?_
     ·obtain⟨j,v,y,W,D⟩:=s;simp only at v y W D ⊢;clear d;repeat'(first|exact trivial|refine eS rfl ?_|refine AB ?_|refine rX c ?_ ?_)
      ·dsimp only[Ty.den];exact⟨fun _=>by omega,fun _=>by omega⟩
      ·refine Dl (by simp only[go_sem,Nat.reduceEqDiff,reduceCtorEq,Nat.reduceAdd,Nat.reduceSub,Nat.reduceMul,Nat.reduceLeDiff,Nat.reduceLT,Int.reduceLE,Int.reduceToNat,Int.reduceNeg,↓reduceIte];rfl) ?_ ?_
       ·intro d;simp only[AT,DO,OR,On]at d;obtain⟨h1,f⟩:=d;have f:=A.lt CJ (i:=j) (j:=a) (by omega) (by omega) (by omega) f;repeat'(first|exact trivial|refine eS rfl ?_|refine AB ?_|refine rX c ?_ ?_)
        ·exact CV
        ·refine⟨⟨j-1,by omega,by omega,by omega,⟨D.lo,fun x G H=>?_⟩⟩,by simp only;omega,AC [(1000000,.nm 1000000)] rfl rfl ?_ ?_⟩
         ·by_cases e:x=j
          ·rw[e];exact f
          ·exact D.hi x (by omega) H
         ·first|exact eN|refine eM ?_
         ·simp only;rw[show ((j-1:Nat):Int)=(j:Int)-1 by omega];first|exact eN|refine eM ?_
       ·intro d;have C:i≤j→CB (m.getD j (0,0)) (m.getD a (0,0))<0:=fun h1=>by
         simp only[AAD,On,AAU,DO]at d;rcases d with h|h
         ·omega
         ·exact h
        repeat'(first|exact trivial|refine eS rfl ?_|refine AB ?_|refine rX c ?_ ?_)
        refine rC (fun u=>?_) (fun u=>?_)
        ·have Q:i=j+1:=by omega
         subst Q;have o:D8 (0,0) a b m (CU (0,0) m j a):=D8.swap m v y (No _) (by omega) (by omega);have n:CU (0,0) m j a=(m.set j (m.getD a (0,0))).set a (m.getD j (0,0)):=rfl;repeat'(first|exact trivial|refine eS rfl ?_|refine AB ?_|refine rP c ?_ ?_|fail)
         (refine Bu drawsAny c 14 [([0,1,4,5,6,7,8,9,10,11,12],13)] [2,3] (by kernel_rfl) (Jr ?_ ?_);(next=>exact CV);refine Ld c [] ?_ ?_;(next=>exact CV);refine Ow c ?_ ?_ ?_;(next=>exact CV);(next=>exact CV))
         rw[←n];repeat'(first|exact trivial|refine eS rfl ?_|refine AB ?_|refine rX c ?_ ?_|refine rC ?_ ?_<;>intro u<;>try(cases u;done))
         exact fM c [.tmp 10,.tmp 11] (.tup [.p T3 (j:Int),.p .bool true]) eT ⟨j,true,_,rfl,rfl,g.trans o,qD D v y (by omega)⟩
        ·have Z:i≠j:=fun e=>by
          have S:=B (by omega);have af:=C (by omega);rw[e,CJ.anti]at S;omega
         have P:i<j:=by omega
         have o:D8 (0,0) a b m (CU (0,0) m i j):=D8.swap m (by omega) (by omega) v y (by omega);have n:CU (0,0) m i j=(m.set i (m.getD j (0,0))).set j (m.getD i (0,0)):=rfl;have M:=hH D E P y (by omega) (B (by omega)) (C (by omega));repeat'(first|exact trivial|refine eS rfl ?_|refine AB ?_|refine rP c ?_ ?_|fail)
         (refine Bu drawsAny c 14 [([0,1,4,5,6,7,8,9,10,11,12],13)] [2,3] (by kernel_rfl) (Jr ?_ ?_);(next=>exact CV);refine Ld c [] ?_ ?_;(next=>exact CV);refine Ow c ?_ ?_ ?_;(next=>exact CV);(next=>exact CV))
         rw[←n];have J:=g.trans o;have A:=O.perm CJ J.perm;have R:=J.len;clear n o D t B C d g;generalize CU (0,0) m i j=ad at *;repeat'(first|exact trivial|refine eS rfl ?_|refine AB ?_|refine rX c ?_ ?_)
         ·exact CV
         ·exact CV
         ·rw[show (i:Int)+1=((i+1:Nat):Int) by omega,show (j:Int)-1=((j-1:Nat):Int) by omega];refine AJ (ι:={s:Nat×Nat×List (Int×Int)//(a<s.1∧s.1≤s.2.1+1)∧(a≤s.2.1∧s.2.1<b)∧D8 (0,0) a b l s.2.2∧PtI CB (0,0) a b s.1 s.2.1 s.2.2}) (fun s=>⟨[(0,.sr 1000000 BI 0 l.length),(1,.p T3 (a:Int)),(4,.fn 116),(12,.p (.int .i64) (s.1.1:Int)),(13,.p (.int .i64) (s.1.2.1:Int))],[(1000000,.arr 53 BI s.1.2.2)]⟩) (fun s=>s.1.2.1+1-s.1.1) ⟨(i+1,j-1,ad),by simp only;omega,by simp only;omega,J,M⟩ (AC [(1000000,.nm 1000000)] rfl rfl ?_ ?_) (fun s=>?_)
          ·first|exact eN|refine eM ?_
          ·first|exact eN|refine eM ?_
          ·clear M A R J;obtain⟨⟨i,j,m⟩,⟨E,I⟩,⟨v,y⟩,g,t⟩:=s;simp only at E I v y g t ⊢;have A:=O.perm CJ g.perm;have R:=g.len;repeat'(first|exact trivial|refine eS rfl ?_|refine AB ?_|refine rX c ?_ ?_)
           refine AJ (ι:={k:Nat//a<k∧i≤k∧k≤j+1∧PtI CB (0,0) a b k j m}) (fun s=>⟨[(0,.sr 1000000 BI 0 l.length),(1,.p T3 (a:Int)),(4,.fn 116),(12,.p (.int .i64) (s.1:Int)),(13,.p (.int .i64) (j:Int))],[(1000000,.arr 53 BI m)]⟩) (fun s=>j+1-s.1) ⟨i,E,No _,I,t⟩ (AC [(1000000,.nm 1000000)] rfl rfl ?_ ?_) (fun s=>?_)
           ·first|exact eN|refine eM ?_
           ·first|exact eN|refine eM ?_
           ·obtain⟨k,T,X,U,L⟩:=s;simp only at T U X L ⊢;repeat'(first|exact trivial|refine eS rfl ?_|refine AB ?_|refine rX c ?_ ?_)
            ·dsimp only[Ty.den];exact⟨fun _=>by omega,fun _=>by omega⟩
            ·refine Dl (by simp only[go_sem,Nat.reduceEqDiff,reduceCtorEq,Nat.reduceAdd,Nat.reduceSub,Nat.reduceMul,Nat.reduceLeDiff,Nat.reduceLT,Int.reduceLE,Int.reduceToNat,Int.reduceNeg,↓reduceIte];rfl) ?_ ?_
             ·intro d;simp only[AT,DO]at d;obtain⟨h1,f⟩:=d;repeat'(first|exact trivial|refine eS rfl ?_|refine AB ?_|refine rX c ?_ ?_)
              ·exact CV
              ·refine⟨⟨k+1,by omega,by omega,by omega,⟨fun x G H=>?_,L.hi⟩⟩,by simp only;omega,AC [(1000000,.nm 1000000)] rfl rfl ?_ ?_⟩
               ·by_cases e:x=k
                ·rw[e];exact f
                ·exact L.lo x G (by omega)
               ·first|exact eN|refine eM ?_
               ·first|exact eN|refine eM ?_
             ·intro d;have B:k≤j→CB (m.getD a (0,0)) (m.getD k (0,0))<0:=fun h1=>A.lt CJ (by omega) (by omega) (by omega) fun f=>by
               simp only[AAD,On]at d;rcases d with h|h
               ·omega
               ·exact h f
              repeat'(first|exact trivial|refine eS rfl ?_|refine AB ?_|refine rX c ?_ ?_)
              refine AJ (ι:={z:Nat//a≤z∧z≤j∧k≤z+1∧PtI CB (0,0) a b k z m}) (fun s=>⟨[(0,.sr 1000000 BI 0 l.length),(1,.p T3 (a:Int)),(4,.fn 116),(12,.p (.int .i64) (k:Int)),(13,.p (.int .i64) (s.1:Int))],[(1000000,.arr 53 BI m)]⟩) (fun s=>s.1) ⟨j,v,No _,U,L⟩ (AC [(1000000,.nm 1000000)] rfl rfl ?_ ?_) (fun s=>?_)
              ·first|exact eN|refine eM ?_
              ·first|exact eN|refine eM ?_
              ·obtain⟨z,N,ab,Y,F⟩:=s;simp only at N ab Y F ⊢;clear d;repeat'(first|exact trivial|refine eS rfl ?_|refine AB ?_|refine rX c ?_ ?_)
               ·dsimp only[Ty.den];exact⟨fun _=>by omega,fun _=>by omega⟩
               ·refine Dl (by simp only[go_sem,Nat.reduceEqDiff,reduceCtorEq,Nat.reduceAdd,Nat.reduceSub,Nat.reduceMul,Nat.reduceLeDiff,Nat.reduceLT,Int.reduceLE,Int.reduceToNat,Int.reduceNeg,↓reduceIte];rfl) ?_ ?_
                ·intro d;simp only[AT,DO,OR,On]at d;obtain⟨h1,f⟩:=d;have f:=A.lt CJ (i:=z) (j:=a) (by omega) (by omega) (by omega) f;repeat'(first|exact trivial|refine eS rfl ?_|refine AB ?_|refine rX c ?_ ?_)
                 ·exact CV
                 ·refine⟨⟨z-1,by omega,by omega,by omega,⟨F.lo,fun x G H=>?_⟩⟩,by simp only;omega,AC [(1000000,.nm 1000000)] rfl rfl ?_ ?_⟩
                  ·by_cases e:x=z
                   ·rw[e];exact f
                   ·exact F.hi x (by omega) H
                  ·first|exact eN|refine eM ?_
                  ·simp only;rw[show ((z-1:Nat):Int)=(z:Int)-1 by omega];first|exact eN|refine eM ?_
                ·intro d;have C:k≤z→CB (m.getD z (0,0)) (m.getD a (0,0))<0:=fun h1=>by
                  simp only[AAD,On,AAU,DO]at d;rcases d with h|h
                  ·omega
                  ·exact h
                 repeat'(first|exact trivial|refine eS rfl ?_|refine AB ?_|refine rX c ?_ ?_)
                 refine rC (fun u=>?_) (fun u=>?_)
                 ·have Q:k=z+1:=by omega
                  subst Q;have o:D8 (0,0) a b m (CU (0,0) m z a):=D8.swap m N (by omega) (No _) (by omega) (by omega);have n:CU (0,0) m z a=(m.set z (m.getD a (0,0))).set a (m.getD z (0,0)):=rfl;repeat'(first|exact trivial|refine eS rfl ?_|refine AB ?_|refine rP c ?_ ?_|fail)
                  (refine Bu drawsAny c 14 [([0,1,4,5,6,7,8,9,10,11,12],13)] [2,3] (by kernel_rfl) (Jr ?_ ?_);(next=>exact CV);refine Ld c [] ?_ ?_;(next=>exact CV);refine Ow c ?_ ?_ ?_;(next=>exact CV);(next=>exact CV))
                  rw[←n];repeat'(first|exact trivial|refine eS rfl ?_|refine AB ?_|refine rX c ?_ ?_|refine rC ?_ ?_<;>intro u<;>try(cases u;done))
                  exact fM c [.tmp 10,.tmp 11] (.tup [.p T3 (z:Int),.p .bool false]) eT ⟨z,false,_,rfl,rfl,g.trans o,qD F N (by omega) (by omega)⟩
                 ·have Z:k≠z:=fun e=>by
                   have S:=B (by omega);have af:=C (by omega);rw[e,CJ.anti]at S;omega
                  have P:k<z:=by omega
                  have o:D8 (0,0) a b m (CU (0,0) m k z):=D8.swap m (by omega) (by omega) N (by omega) (by omega);have n:CU (0,0) m k z=(m.set k (m.getD z (0,0))).set z (m.getD k (0,0)):=rfl;have M:=hH F T P (by omega) (by omega) (B (by omega)) (C (by omega));repeat'(first|exact trivial|refine eS rfl ?_|refine AB ?_|refine rP c ?_ ?_|fail)
                  (refine Bu drawsAny c 14 [([0,1,4,5,6,7,8,9,10,11,12],13)] [2,3] (by kernel_rfl) (Jr ?_ ?_);(next=>exact CV);refine Ld c [] ?_ ?_;(next=>exact CV);refine Ow c ?_ ?_ ?_;(next=>exact CV);(next=>exact CV))
                  rw[←n];repeat'(first|exact trivial|refine eS rfl ?_|refine AB ?_|refine rX c ?_ ?_)
                  ·exact CV
                  ·exact CV
                  ·refine⟨⟨(k+1,z-1,CU (0,0) m k z),by simp only;omega,by simp only;omega,g.trans o,M⟩,by simp only;omega,AC [(1000000,.nm 1000000)] rfl rfl ?_ ?_⟩
                   ·first|exact eN|refine eM ?_
                   ·simp only;rw[show ((z-1:Nat):Int)=(z:Int)-1 by omega];first|exact eN|refine eM ?_
end
section
attribute [local go_sem] Cu
theorem A3x (l:List (Int×Int)) (am:l.length≤100000) (L:j5 CB (0,0) l) (a b:Nat) (ak:a<b) (al:b≤l.length) (U:Bf CB (0,0) a b l):BB Tryz.prog 171 [.sr 1000000 BI 0 l.length,.p T3 (a:Int),.p T3 (b:Int),.fn 116] [(1000000,.arr 53 BI l)] [1000000] (fun res aj=>∃(w:Bool) (r:List (Int×Int)),res=.p .bool w∧aj=[(1000000,.arr 53 BI r)]∧D8 (0,0) a b l r∧(w=true→RU CB (0,0) a b r)):=by
 refine KJ [0,1,2,3,8,9,10,11,12,16,36,41,45,65,69,84,104,109,124] [] [] Tryz.func171 Tryz.ntmps171 (AF E3 AG) ?_;intro w0 K O0 ρ0 f an ao;simp only[Ak];repeat'(first|exact trivial|refine eS rfl ?_|refine AB ?_|refine rX f ?_ ?_|refine rC ?_ ?_<;>intro q<;>try(cases q;done))
 ·exact CV
 ·refine AJ (ι:={s:Nat×Nat×List (Int×Int)//(a+1≤s.1∧s.1≤b)∧s.2.1≤5∧D8 (0,0) a b l s.2.2∧RU CB (0,0) a s.1 s.2.2}) (fun s=>⟨[(0,.sr 1000000 BI 0 l.length),(1,.p T3 (a:Int)),(2,.p T3 (b:Int)),(3,.fn 116),(9,.p (.int .i64) (s.1.1:Int)),(10,.p (.int .i64) (s.1.2.1:Int))],[(1000000,.arr 53 BI s.1.2.2)]⟩) (fun s=>5-s.1.2.1) ⟨(a+1,0,l),by simp only;omega,Is _,D8.refl a b l,ZE a l⟩ (AC [(1000000,.nm 1000000)] rfl rfl ?_ ?_) (fun s=>?_)
  ·first|exact eN|refine eM ?_
  ·first|exact eN|refine eM ?_
  ·obtain⟨⟨i,t,m⟩,⟨ab,N⟩,ai,u,Q⟩:=s;simp only at ab N ai u Q ⊢;have P:=L.perm CJ u.perm;have ah:=u.len;repeat'(first|exact trivial|refine eS rfl ?_|refine AB ?_|refine rX f ?_ ?_)
   refine rC (fun q=>?_) (fun q=>?_)
   ·repeat'(first|exact trivial|refine eS rfl ?_|refine AB ?_|refine rX f ?_ ?_)
    refine AJ (ι:={k:Nat//i≤k∧k≤b∧RU CB (0,0) a k m}) (fun s=>⟨[(0,.sr 1000000 BI 0 l.length),(1,.p T3 (a:Int)),(2,.p T3 (b:Int)),(3,.fn 116),(9,.p (.int .i64) (s.1:Int)),(10,.p (.int .i64) (t:Int))],[(1000000,.arr 53 BI m)]⟩) (fun s=>b-s.1) ⟨i,No _,N,Q⟩ (AC [(1000000,.nm 1000000)] rfl rfl ?_ ?_) (fun s=>?_)
    ·first|exact eN|refine eM ?_
    ·first|exact eN|refine eM ?_
    ·obtain⟨k,ae,af,F⟩:=s;simp only at ae af F ⊢;have J:((k:Int)-1).toNat=k-1:=by omega
     repeat'(first|exact trivial|refine eS rfl ?_|refine AB ?_|refine rX f ?_ ?_)
     ·dsimp only[Ty.den];exact⟨fun _=>by omega,fun _=>by omega,fun _=>by omega⟩
     ·refine Dl (by simp only[go_sem,Nat.reduceEqDiff,reduceCtorEq,Nat.reduceAdd,Nat.reduceSub,Nat.reduceMul,Nat.reduceLeDiff,Nat.reduceLT,Int.reduceLE,Int.reduceToNat,Int.reduceNeg,↓reduceIte];rfl) ?_ ?_
      ·intro g;simp only[AT,DO,OR,On]at g;obtain⟨h1,z⟩:=g;rw[J]at z;have z:=P.lt CJ (i:=k) (j:=k-1) (by omega) (by omega) (by omega) z;repeat'(first|exact trivial|refine eS rfl ?_|refine AB ?_|refine rX f ?_ ?_)
       ·exact CV
       ·refine⟨⟨k+1,by omega,by omega,A19 CJ F (by omega) z⟩,by simp only;omega,AC [(1000000,.nm 1000000)] rfl rfl ?_ ?_⟩
        ·first|exact eN|refine eM ?_
        ·first|exact eN|refine eM ?_
      ·intro g;clear g;repeat'(first|exact trivial|refine eS rfl ?_|refine AB ?_|refine rX f ?_ ?_)
       refine rC (fun Z=>?_) (fun Z=>?_)
       ·have O:k=b:=by omega
        subst O;repeat'(first|exact trivial|refine eS rfl ?_|refine AB ?_|refine rX f ?_ ?_|refine rC ?_ ?_<;>intro q<;>try(cases q;done))
        exact fM f [.tmp 8] (.p .bool true) eT ⟨true,m,rfl,rfl,u,fun _=>F⟩
       ·have O:k<b:=by omega
        repeat'(first|exact trivial|refine eS rfl ?_|refine AB ?_|refine rX f ?_ ?_)
        ·exact CV
        ·refine rC (fun aa=>?_) (fun aa=>?_)
         ·repeat'(first|exact trivial|refine eS rfl ?_|refine AB ?_|refine rX f ?_ ?_|refine rC ?_ ?_<;>intro q<;>try(cases q;done))
          exact fM f [.tmp 8] (.p .bool false) eT ⟨false,m,rfl,rfl,u,fun h=>by cases h⟩
         ·have v:D8 (0,0) a b m (CU (0,0) m k (k-1)):=D8.swap m (by omega) (by omega) (by omega) (by omega) (by omega);have B:CU (0,0) m k (k-1)=(m.set k (m.getD (k-1) (0,0))).set (k-1) (m.getD k (0,0)):=rfl;have R:mV CB (0,0) a (k-1) (k-1) (CU (0,0) m k (k-1)):=⟨fun x y h0 h1 z S T=>by
           have M:=It (d:=(0,0)) (l:=m) (i:=k) (j:=k-1) (by omega) (by omega);rw[M x,M y,As S,As (show ¬x=k by omega),As T,As (show ¬y=k by omega)];exact F x y h0 h1 (by omega),fun y h1 z=>by omega⟩
          repeat'(first|exact trivial|refine eS rfl ?_|refine AB ?_|refine rP f ?_ ?_|fail)
          (refine Bu drawsAny f 16 [([0,1,5,6,7,8,9,10,11,12,13,14],15)] [2,3,4] (by kernel_rfl) (Jr ?_ ?_);(next=>exact CV);refine Ld f [] ?_ ?_;(next=>exact CV);refine Ow f ?_ ?_ ?_;(next=>exact CV);(next=>exact CV))
          rw[J,←B];have I:=u.trans v;clear B v P ah;generalize CU (0,0) m k (k-1)=c0 at *;refine IJ ?_;refine PZ (ι:={c:List (Int×Int)//D8 (0,0) a b l c∧RU CB (0,0) a k c}) (fun s=>⟨[(0,.sr 1000000 BI 0 l.length),(1,.p T3 (a:Int)),(2,.p T3 (b:Int)),(3,.fn 116),(9,.p (.int .i64) (k:Int)),(10,.p (.int .i64) (t:Int))],[(1000000,.arr 53 BI s.1)]⟩) ?_ (fun s=>?_)
          ·repeat'(first|exact trivial|refine eS rfl ?_|refine AB ?_|refine rX f ?_ ?_)
           ·exact CV
           ·refine rC (fun G=>?_) (fun G=>?_)
            ·repeat'(first|exact trivial|refine eS rfl ?_|refine AB ?_|refine rX f ?_ ?_)
             ·exact CV
             ·rw[show (k:Int)-1=((k-1:Nat):Int) by omega];refine AJ (ι:={s:Nat×List (Int×Int)//(a≤s.1∧s.1≤k-1)∧D8 (0,0) a b l s.2∧mV CB (0,0) a (k-1) s.1 s.2}) (fun s=>⟨[(0,.sr 1000000 BI 0 l.length),(1,.p T3 (a:Int)),(2,.p T3 (b:Int)),(3,.fn 116),(9,.p (.int .i64) (k:Int)),(10,.p (.int .i64) (t:Int)),(11,.p (.int .i64) (s.1.1:Int))],[(1000000,.arr 53 BI s.1.2)]⟩) (fun s=>s.1.1) ⟨(k-1,c0),by simp only;omega,I,R⟩ (AC [(1000000,.nm 1000000)] rfl rfl ?_ ?_) (fun s=>?_)
              ·first|exact eN|refine eM ?_
              ·first|exact eN|refine eM ?_
              ·obtain⟨⟨j,c⟩,⟨D,A⟩,n,o⟩:=s;simp only at D A n o ⊢;have X:=L.perm CJ n.perm;have Y:=n.len;have C:((j:Int)-1).toNat=j-1:=by omega
               have V:=U.pin n;repeat'(first|exact trivial|refine eS rfl ?_|refine AB ?_|refine rX f ?_ ?_)
               refine rC (fun H=>?_) (fun H=>?_)
               ·repeat'(first|exact trivial|refine eS rfl ?_|refine AB ?_|refine rX f ?_ ?_)
                ·exact CV
                ·refine Dl (by simp only[go_sem,Nat.reduceEqDiff,reduceCtorEq,Nat.reduceAdd,Nat.reduceSub,Nat.reduceMul,Nat.reduceLeDiff,Nat.reduceLT,Int.reduceLE,Int.reduceToNat,Int.reduceNeg,↓reduceIte];rfl) ?_ ?_
                 ·intro g;simp only[OR,On]at g;rw[C]at g;have g:=X.lt CJ (i:=j) (j:=j-1) (by omega) (by omega) (by omega) g;have E:=VI CJ o D A (.inr g);rw[show k-1+1=k by omega]at E;repeat'(first|exact trivial|refine eS rfl ?_|refine AB ?_|refine rX f ?_ ?_)
                  refine⟨⟨c,n,E⟩,AC [(1000000,.nm 1000000)] rfl rfl ?_ ?_⟩
                  ·first|exact eN|refine eM ?_
                  ·first|exact eN|refine eM ?_
                 ·intro g;simp only[AAU,DO]at g;rw[C]at g;have g:CB (c.getD j (0,0)) (c.getD (j-1) (0,0))<0:=g;have W:a<j:=by
                   refine Do fun hn=>?_;have e:j=a:=by omega
                   subst e;rcases V with h|h
                   ·omega
                   ·have:=h j (No _) (by omega);rw[CJ.anti]at this;omega
                  have v:D8 (0,0) a b c (CU (0,0) c j (j-1)):=D8.swap c (by omega) (by omega) (by omega) (by omega) (by omega);have B:CU (0,0) c j (j-1)=(c.set j (c.getD (j-1) (0,0))).set (j-1) (c.getD j (0,0)):=rfl;repeat'(first|exact trivial|refine eS rfl ?_|refine AB ?_|refine rP f ?_ ?_|fail)
                  (refine Bu drawsAny f 16 [([0,1,5,6,7,8,9,10,11,12,13,14],15)] [2,3,4] (by kernel_rfl) (Jr ?_ ?_);(next=>exact CV);refine Ld f [] ?_ ?_;(next=>exact CV);refine Ow f ?_ ?_ ?_;(next=>exact CV);(next=>exact CV))
                  rw[C,←B];repeat'(first|exact trivial|refine eS rfl ?_|refine AB ?_|refine rX f ?_ ?_)
                  ·exact CV
                  ·refine⟨⟨(j-1,CU (0,0) c j (j-1)),by simp only;omega,n.trans v,Xk o W A (by omega) g⟩,by simp only;omega,AC [(1000000,.nm 1000000)] rfl rfl ?_ ?_⟩
                   ·first|exact eN|refine eM ?_
                   ·simp only;rw[show ((j-1:Nat):Int)=(j:Int)-1 by omega];first|exact eN|refine eM ?_
               ·have ad:j=a:=by omega
                have E:=VI CJ o D A (.inl ad);rw[show k-1+1=k by omega]at E;repeat'(first|exact trivial|refine eS rfl ?_|refine AB ?_|refine rX f ?_ ?_)
                refine⟨⟨c,n,E⟩,AC [(1000000,.nm 1000000)] rfl rfl ?_ ?_⟩
                ·first|exact eN|refine eM ?_
                ·first|exact eN|refine eM ?_
            ·have ag:k=a+1:=by omega
             repeat'(first|exact trivial|refine eS rfl ?_|refine AB ?_|refine rX f ?_ ?_)
             refine⟨⟨c0,I,by rw[ag];exact ZE a c0⟩,AC [(1000000,.nm 1000000)] rfl rfl ?_ ?_⟩
             ·first|exact eN|refine eM ?_
             ·first|exact eN|refine eM ?_
          ·obtain⟨c,n,o⟩:=s;simp only;clear I R;repeat'(first|exact trivial|refine eS rfl ?_|refine AB ?_|refine rX f ?_ ?_)
           ·exact CV
           ·refine rC (fun G=>?_) (fun G=>?_)
            ·repeat'(first|exact trivial|refine eS rfl ?_|refine AB ?_|refine rX f ?_ ?_)
             ·exact CV
             ·rw[show (k:Int)+1=((k+1:Nat):Int) by omega];refine AJ (ι:={s:Nat×List (Int×Int)//(k+1≤s.1∧s.1≤b)∧D8 (0,0) a b l s.2∧RU CB (0,0) a k s.2}) (fun s=>⟨[(0,.sr 1000000 BI 0 l.length),(1,.p T3 (a:Int)),(2,.p T3 (b:Int)),(3,.fn 116),(9,.p (.int .i64) (k:Int)),(10,.p (.int .i64) (t:Int)),(12,.p (.int .i64) (s.1.1:Int))],[(1000000,.arr 53 BI s.1.2)]⟩) (fun s=>b-s.1.1) ⟨(k+1,c),by simp only;omega,n,o⟩ (AC [(1000000,.nm 1000000)] rfl rfl ?_ ?_) (fun s=>?_)
              ·first|exact eN|refine eM ?_
              ·first|exact eN|refine eM ?_
              ·clear n o;obtain⟨⟨j,c⟩,⟨D,A⟩,n,o⟩:=s;simp only at D A n o ⊢;have Y:=n.len;have C:((j:Int)-1).toNat=j-1:=by omega
               repeat'(first|exact trivial|refine eS rfl ?_|refine AB ?_|refine rX f ?_ ?_)
               refine rC (fun H=>?_) (fun H=>?_)
               ·repeat'(first|exact trivial|refine eS rfl ?_|refine AB ?_|refine rX f ?_ ?_)
                ·exact CV
                ·refine Dl (by simp only[go_sem,Nat.reduceEqDiff,reduceCtorEq,Nat.reduceAdd,Nat.reduceSub,Nat.reduceMul,Nat.reduceLeDiff,Nat.reduceLT,Int.reduceLE,Int.reduceToNat,Int.reduceNeg,↓reduceIte];rfl) ?_ ?_
                 ·intro g;clear g;repeat'(first|exact trivial|refine eS rfl ?_|refine AB ?_|refine rX f ?_ ?_)
                  ·exact CV
                  ·refine⟨⟨(k,t+1,c),by simp only;omega,by simp only;omega,n,o⟩,by simp only;omega,AC [(1000000,.nm 1000000)] rfl rfl ?_ ?_⟩
                   ·first|exact eN|refine eM ?_
                   ·first|exact eN|refine eM ?_
                 ·intro g;clear g;have v:D8 (0,0) k b c (CU (0,0) c j (j-1)):=D8.swap c (by omega) (by omega) (by omega) (by omega) (by omega);have B:CU (0,0) c j (j-1)=(c.set j (c.getD (j-1) (0,0))).set (j-1) (c.getD j (0,0)):=rfl;repeat'(first|exact trivial|refine eS rfl ?_|refine AB ?_|refine rP f ?_ ?_|fail)
                  (refine Bu drawsAny f 16 [([0,1,5,6,7,8,9,10,11,12,13,14],15)] [2,3,4] (by kernel_rfl) (Jr ?_ ?_);(next=>exact CV);refine Ld f [] ?_ ?_;(next=>exact CV);refine Ow f ?_ ?_ ?_;(next=>exact CV);(next=>exact CV))
                  rw[C,←B];repeat'(first|exact trivial|refine eS rfl ?_|refine AB ?_|refine rX f ?_ ?_)
                  ·exact CV
                  ·refine⟨⟨(j+1,CU (0,0) c j (j-1)),by simp only;omega,n.trans (v.mono (by omega) (No _)),NC o fun x ap aq=>v.out x (by omega)⟩,by simp only;omega,AC [(1000000,.nm 1000000)] rfl rfl ?_ ?_⟩
                   ·first|exact eN|refine eM ?_
                   ·first|exact eN|refine eM ?_
               ·repeat'(first|exact trivial|refine eS rfl ?_|refine AB ?_|refine rX f ?_ ?_)
                ·exact CV
                ·refine⟨⟨(k,t+1,c),by simp only;omega,by simp only;omega,n,o⟩,by simp only;omega,AC [(1000000,.nm 1000000)] rfl rfl ?_ ?_⟩
                 ·first|exact eN|refine eM ?_
                 ·first|exact eN|refine eM ?_
            ·repeat'(first|exact trivial|refine eS rfl ?_|refine AB ?_|refine rX f ?_ ?_)
             ·exact CV
             ·refine⟨⟨(k,t+1,c),by simp only;omega,by simp only;omega,n,o⟩,by simp only;omega,AC [(1000000,.nm 1000000)] rfl rfl ?_ ?_⟩
              ·first|exact eN|refine eM ?_
              ·first|exact eN|refine eM ?_
   ·repeat'(first|exact trivial|refine eS rfl ?_|refine AB ?_|refine rX f ?_ ?_|refine rC ?_ ?_<;>intro q<;>try(cases q;done))
    exact fM f [.tmp 8] (.p .bool false) eT ⟨false,m,rfl,rfl,u,fun h=>by cases h⟩
end
section
attribute [local go_sem] Cu
def Gh (l:List (Int×Int)) (s:Nat):List (Nat×Obj):=[(1000000,.arr 53 BI l),(70,.box 3 false [.p T3 (s:Int)])]
theorem VJ (l:List (Int×Int)) (a b s:Nat) (f:a<l.length) (bl:b<l.length) (hs:s≤1000):BB Tryz.prog 185 [.sr 1000000 BI 0 l.length,.p T3 (a:Int),.p T3 (b:Int),.bp 70 [] 0,.fn 116] (Gh l s) [1000000,70] (fun res e=>∃x y t:Nat,res=.tup [.p T3 (x:Int),.p T3 (y:Int)]∧e=Gh l t∧((x=a∧y=b)∨(x=b∧y=a))∧t≤s+1):=by
 refine KJ [0,1,2,3,4,10,11,22] [] [] Tryz.func185 Tryz.ntmps185 (AF E3 AG) ?_;intro w0 K O0 ρ0 c g h;simp only[Ak,Gh];repeat'(first|exact trivial|refine eS rfl ?_|refine AB ?_|refine rX c ?_ ?_|refine rC ?_ ?_<;>intro d<;>try(cases d;done))
 ·exact CV
 ·exact CV
 ·refine fM c [.tmp 10,.tmp 11] (.tup [.p T3 (b:Int),.p T3 (a:Int)]) eT ⟨b,a,s+1,rfl,?_,.inr ⟨rfl,rfl⟩,No _⟩;rw[show ((s+1:Nat):Int)=(s:Int)+1 by omega]
 ·exact fM c [.tmp 10,.tmp 11] (.tup [.p T3 (a:Int),.p T3 (b:Int)]) eT ⟨a,b,s,rfl,rfl,.inl ⟨rfl,rfl⟩,by omega⟩
theorem ZF (l:List (Int×Int)) (a b c s:Nat) (j:a<l.length) (bl:b<l.length) (cl:c<l.length) (hs:s≤900):BB Tryz.prog 182 [.sr 1000000 BI 0 l.length,.p T3 (a:Int),.p T3 (b:Int),.p T3 (c:Int),.bp 70 [] 0,.fn 116] (Gh l s) [1000000,70] (fun res k=>∃x t:Nat,res=.p T3 (x:Int)∧k=Gh l t∧(x=a∨x=b∨x=c)∧t≤s+3):=by
 refine KJ [0,1,2,3,4,5,12] [] [] Tryz.func182 Tryz.ntmps182 AG ?_;intro w0 K O0 ρ0 d o q;simp only[Ak,Gh];repeat'(first|exact trivial|refine eS rfl ?_|refine AB ?_|refine rX d ?_ ?_|refine rC ?_ ?_<;>intro e<;>try(cases e;done))
 refine cP 5 d ?_ ?_
 ·trivial
 ·refine rM d (VJ l a b s j bl (by omega)) [(1000000,.nm 1000000),(70,.nm 70)] [] ?_ ?_ ?_
  ·first|exact eN|refine eM ?_
  ·simp only[Gh];first|exact eN|refine eM ?_
  ·rintro _ _ ⟨g,b1,s1,rfl,rfl,h1,r⟩;refine⟨[(1000000,.nm 1000000),(70,.nm 70)],.tup [.p T3 (g:Int),.p T3 (b1:Int)],[(1000000,.arr 53 BI l),(70,.box 3 false [.p T3 (s1:Int)])],rfl,rfl,?_,?_,rfl,rfl,?_⟩
   ·simp only[Gh];first|exact eN|refine eM ?_
   ·first|exact eN|refine eM ?_
   ·refine rL d ?_ ?_
    ·trivial
    ·repeat'(first|exact trivial|refine eS rfl ?_|refine AB ?_|refine rX d ?_ ?_|refine rC ?_ ?_<;>intro e<;>try(cases e;done))
     refine cP 5 d ?_ ?_
     ·trivial
     ·refine rM d (VJ l b1 c s1 (by omega) cl (by omega)) [(1000000,.nm 1000000),(70,.nm 70)] [] ?_ ?_ ?_
      ·first|exact eN|refine eM ?_
      ·simp only[Gh];first|exact eN|refine eM ?_
      ·rintro _ _ ⟨b2,c2,s2,rfl,rfl,m,u⟩;refine⟨[(1000000,.nm 1000000),(70,.nm 70)],.tup [.p T3 (b2:Int),.p T3 (c2:Int)],[(1000000,.arr 53 BI l),(70,.box 3 false [.p T3 (s2:Int)])],rfl,rfl,?_,?_,rfl,rfl,?_⟩
       ·simp only[Gh];first|exact eN|refine eM ?_
       ·first|exact eN|refine eM ?_
       ·refine rL d ?_ ?_
        ·trivial
        ·repeat'(first|exact trivial|refine eS rfl ?_|refine AB ?_|refine rX d ?_ ?_|refine rC ?_ ?_<;>intro e<;>try(cases e;done))
         refine cP 5 d ?_ ?_
         ·trivial
         ·refine rM d (VJ l g b2 s2 (by omega) (by omega) (by omega)) [(1000000,.nm 1000000),(70,.nm 70)] [] ?_ ?_ ?_
          ·first|exact eN|refine eM ?_
          ·simp only[Gh];first|exact eN|refine eM ?_
          ·rintro _ _ ⟨i,f,h,rfl,rfl,n,v⟩;refine⟨[(1000000,.nm 1000000),(70,.nm 70)],.tup [.p T3 (i:Int),.p T3 (f:Int)],[(1000000,.arr 53 BI l),(70,.box 3 false [.p T3 (h:Int)])],rfl,rfl,?_,?_,rfl,rfl,?_⟩
           ·simp only[Gh];first|exact eN|refine eM ?_
           ·first|exact eN|refine eM ?_
           ·refine rL d ?_ ?_
            ·trivial
            ·repeat'(first|exact trivial|refine eS rfl ?_|refine AB ?_|refine rX d ?_ ?_|refine rC ?_ ?_<;>intro e<;>try(cases e;done))
             exact fM d [.tmp 12] (.p T3 (f:Int)) eT ⟨f,h,rfl,rfl,by omega,by omega⟩
theorem ZG (l:List (Int×Int)) (b s:Nat) (f:1≤b) (bl:b+1<l.length) (g:l.length≤100000) (hs:s≤900):BB Tryz.prog 181 [.sr 1000000 BI 0 l.length,.p T3 (b:Int),.bp 70 [] 0,.fn 116] (Gh l s) [1000000,70] (fun res e=>∃x t:Nat,res=.p T3 (x:Int)∧e=Gh l t∧(b-1≤x∧x≤b+1)∧t≤s+3):=by
 refine KJ [0,1,2,3,8] [] [] Tryz.func181 Tryz.ntmps181 AG ?_;intro w0 K O0 ρ0 a h i;simp only[Ak,Gh];have key:=ZF l (b-1) b (b+1) s (by omega) (by omega) bl hs;rw[show ((b-1:Nat):Int)=(b:Int)-1 by omega,show ((b+1:Nat):Int)=(b:Int)+1 by omega]at key;repeat'(first|exact trivial|refine eS rfl ?_|refine AB ?_|refine rX a ?_ ?_|refine rC ?_ ?_<;>intro c<;>try(cases c;done))
 refine cP 8 a ?_ ?_
 ·exact CV
 ·refine rM a (key) [(1000000,.nm 1000000),(70,.nm 70)] [] ?_ ?_ ?_
  ·first|exact eN|refine eM ?_
  ·simp only[Gh];first|exact eN|refine eM ?_
  ·rintro _ _ ⟨x,t,rfl,rfl,j,d⟩;refine⟨[(1000000,.nm 1000000),(70,.nm 70)],.p T3 (x:Int),[(1000000,.arr 53 BI l),(70,.box 3 false [.p T3 (t:Int)])],rfl,rfl,?_,?_,rfl,rfl,?_⟩
   ·simp only[Gh];first|exact eN|refine eM ?_
   ·first|exact eN|refine eM ?_
   ·refine rL a ?_ ?_
    ·trivial
    ·repeat'(first|exact trivial|refine eS rfl ?_|refine AB ?_|refine rX a ?_ ?_|refine rC ?_ ?_<;>intro c<;>try(cases c;done))
     exact fM a [.tmp 8] (.p T3 (x:Int)) eT ⟨x,t,rfl,rfl,by omega,d⟩
theorem A3y (l:List (Int×Int)) (k:l.length≤100000) (a b:Nat) (z:a+13≤b) (A:b≤l.length):BB Tryz.prog 169 [.sr 1000000 BI 0 l.length,.p T3 (a:Int),.p T3 (b:Int),.fn 116] [(1000000,.arr 53 BI l)] [1000000] (fun res y=>∃(j:Nat) (h:Int),res=.tup [.p T3 (j:Int),.p T3 h]∧y=[(1000000,.arr 53 BI l)]∧a≤j∧j<b):=by
 refine KJ [0,1,2,3,8,9,10,11,12,13,14,34,36,55,57,60] [] [] Tryz.func169 Tryz.ntmps169 AG ?_;intro w0 K O0 ρ0 c B C;simp only[Ak];obtain⟨t,v⟩:∃t,t=(b-a) / 4:=⟨_,rfl⟩;have et:((b:Int)-(a:Int)).tdiv 4=(t:Int):=by
  rw[AAu (by omega)];omega
 have G:4*t≤b-a:=by omega
 have H:3≤t:=by omega
 clear v
 (refine eS rfl ?_;refine rX c ?_ ?_;(next=>first|exact trivial|exact CV))
 (refine eS rfl ?_;refine rX c ?_ ?_;(next=>first|exact trivial|exact CV))
 (refine eS rfl ?_;refine rX c ?_ ?_;(next=>first|exact trivial|exact CV))
 (refine eS rfl ?_;refine rX c ?_ ?_;(next=>first|exact trivial|exact CV|(rw[et];refine⟨⟨by decide,?_⟩,?_,?_⟩<;>omega)))
 (refine eS rfl ?_;refine rX c ?_ ?_;(next=>first|exact trivial|exact CV|(rw[et];refine⟨⟨by decide,?_⟩,?_,?_⟩<;>omega)))
 (refine eS rfl ?_;refine rX c ?_ ?_;(next=>first|exact trivial|exact CV|(rw[et];refine⟨⟨by decide,?_⟩,?_,?_⟩<;>omega)))
 rw[et,show (a:Int)+(t:Int)*1=((a+t:Nat):Int) by omega,show (a:Int)+(t:Int)*2=((a+t*2:Nat):Int) by omega,show (a:Int)+(t:Int)*3=((a+t*3:Nat):Int) by omega];refine IJ ?_;refine PZ (ι:={x:Nat×Nat//a≤x.1∧x.1<b}) (fun x=>⟨[(11,.bp 11 [] 0),(13,.p T3 (x.1.1:Int))],[(1000000,.arr 53 BI l),(11,.box 3 false [.p T3 (x.1.2:Int)])]⟩) ?_ (fun x=>?_)
 ·repeat'(first|exact trivial|refine eS rfl ?_|refine AB ?_|refine rX c ?_ ?_)
  refine rC (fun i=>?_) (fun i=>?_)
  ·repeat'(first|exact trivial|refine eS rfl ?_|refine AB ?_|refine rX c ?_ ?_)
   refine rC (fun r=>?_) (fun r=>?_)
   ·repeat'(first|exact trivial|refine eS rfl ?_|refine AB ?_|refine rP c ?_ ?_|fail)
    refine cP 3 c ?_ ?_
    ·trivial
    ·refine rM c (ZG l (a+t) 0 (by omega) (by omega) k (by omega)) [(1000000,.nm 1000000),(70,.nm 11)] [] ?_ ?_ ?_
     ·first|exact eN|refine eM ?_
     ·simp only[Gh];first|exact eN|refine eM ?_
     ·rintro _ _ ⟨n,s1,rfl,rfl,I,D⟩;refine⟨[(1000000,.nm 1000000),(11,.nm 70)],.p T3 (n:Int),[(1000000,.arr 53 BI l),(11,.box 3 false [.p T3 (s1:Int)])],rfl,rfl,?_,?_,rfl,rfl,?_⟩
      ·simp only[Gh];first|exact eN|refine eM ?_
      ·first|exact eN|refine eM ?_
      ·refine rL c ?_ ?_
       ·trivial
       ·repeat'(first|exact trivial|refine eS rfl ?_|refine AB ?_|refine rX c ?_ ?_)
        refine cP 3 c ?_ ?_
        ·trivial
        ·refine rM c (ZG l (a+t*2) s1 (by omega) (by omega) k (by omega)) [(1000000,.nm 1000000),(70,.nm 11)] [] ?_ ?_ ?_
         ·first|exact eN|refine eM ?_
         ·simp only[Gh];first|exact eN|refine eM ?_
         ·rintro _ _ ⟨o,s2,rfl,rfl,J,E⟩;refine⟨[(1000000,.nm 1000000),(11,.nm 70)],.p T3 (o:Int),[(1000000,.arr 53 BI l),(11,.box 3 false [.p T3 (s2:Int)])],rfl,rfl,?_,?_,rfl,rfl,?_⟩
          ·simp only[Gh];first|exact eN|refine eM ?_
          ·first|exact eN|refine eM ?_
          ·refine rL c ?_ ?_
           ·trivial
           ·repeat'(first|exact trivial|refine eS rfl ?_|refine AB ?_|refine rX c ?_ ?_)
            refine cP 3 c ?_ ?_
            ·trivial
            ·refine rM c (ZG l (a+t*3) s2 (by omega) (by omega) k (by omega)) [(1000000,.nm 1000000),(70,.nm 11)] [] ?_ ?_ ?_
             ·first|exact eN|refine eM ?_
             ·simp only[Gh];first|exact eN|refine eM ?_
             ·rintro _ _ ⟨q,m,rfl,rfl,L,F⟩;refine⟨[(1000000,.nm 1000000),(11,.nm 70)],.p T3 (q:Int),[(1000000,.arr 53 BI l),(11,.box 3 false [.p T3 (m:Int)])],rfl,rfl,?_,?_,rfl,rfl,?_⟩
              ·simp only[Gh];first|exact eN|refine eM ?_
              ·first|exact eN|refine eM ?_
              ·refine rL c ?_ ?_
               ·trivial
               ·repeat'(first|exact trivial|refine eS rfl ?_|refine AB ?_|refine rX c ?_ ?_)
                refine cP 5 c ?_ ?_
                ·trivial
                ·refine rM c (ZF l (n) (o) (q) m (by omega) (by omega) (by omega) (by omega)) [(1000000,.nm 1000000),(70,.nm 11)] [] ?_ ?_ ?_
                 ·first|exact eN|refine eM ?_
                 ·simp only[Gh];first|exact eN|refine eM ?_
                 ·rintro _ _ ⟨e,d,rfl,rfl,w,u⟩;refine⟨[(1000000,.nm 1000000),(11,.nm 70)],.p T3 (e:Int),[(1000000,.arr 53 BI l),(11,.box 3 false [.p T3 (d:Int)])],rfl,rfl,?_,?_,rfl,rfl,?_⟩
                  ·simp only[Gh];first|exact eN|refine eM ?_
                  ·first|exact eN|refine eM ?_
                  ·refine rL c ?_ ?_
                   ·trivial
                   ·repeat'(first|exact trivial|refine eS rfl ?_|refine AB ?_|refine rX c ?_ ?_)
                    refine⟨⟨(e,d),by simp only;omega,by simp only;omega⟩,AC [(1000000,.nm 1000000),(11,.nm 11)] rfl rfl ?_ ?_⟩
                    ·first|exact eN|refine eM ?_
                    ·first|exact eN|refine eM ?_
   ·repeat'(first|exact trivial|refine eS rfl ?_|refine AB ?_|refine rP c ?_ ?_|fail)
    refine cP 5 c ?_ ?_
    ·trivial
    ·refine rM c (ZF l (a+t) (a+t*2) (a+t*3) 0 (by omega) (by omega) (by omega) (by omega)) [(1000000,.nm 1000000),(70,.nm 11)] [] ?_ ?_ ?_
     ·first|exact eN|refine eM ?_
     ·simp only[Gh];first|exact eN|refine eM ?_
     ·rintro _ _ ⟨e,d,rfl,rfl,w,u⟩;refine⟨[(1000000,.nm 1000000),(11,.nm 70)],.p T3 (e:Int),[(1000000,.arr 53 BI l),(11,.box 3 false [.p T3 (d:Int)])],rfl,rfl,?_,?_,rfl,rfl,?_⟩
      ·simp only[Gh];first|exact eN|refine eM ?_
      ·first|exact eN|refine eM ?_
      ·refine rL c ?_ ?_
       ·trivial
       ·repeat'(first|exact trivial|refine eS rfl ?_|refine AB ?_|refine rX c ?_ ?_)
        refine⟨⟨(e,d),by simp only;omega,by simp only;omega⟩,AC [(1000000,.nm 1000000),(11,.nm 11)] rfl rfl ?_ ?_⟩
        ·first|exact eN|refine eM ?_
        ·first|exact eN|refine eM ?_
  ·exfalso;omega
 ·obtain⟨⟨j,s⟩,f,g⟩:=x;simp only at f g ⊢;repeat'(first|exact trivial|refine eS rfl ?_|refine AB ?_|refine rX c ?_ ?_|refine rC ?_ ?_<;>intro i<;>try(cases i;done))
  ·refine Ev.ent (σ':=⟨[(8,.p T3 (j:Int)),(9,.p T3 (1:Int))],[(1000000,.arr 53 BI l)]⟩) ?_ (AC [(1000000,.nm 1000000)] rfl rfl ?_ ?_)
   ·exact fM c [.tmp 8,.tmp 9] (.tup [.p T3 (j:Int),.p T3 (1:Int)]) eT ⟨j,1,rfl,rfl,f,g⟩
   ·first|exact eN|refine eM ?_
   ·first|exact eN|refine eM ?_
  ·refine Ev.ent (σ':=⟨[(8,.p T3 (j:Int)),(9,.p T3 (2:Int))],[(1000000,.arr 53 BI l)]⟩) ?_ (AC [(1000000,.nm 1000000)] rfl rfl ?_ ?_)
   ·exact fM c [.tmp 8,.tmp 9] (.tup [.p T3 (j:Int),.p T3 (2:Int)]) eT ⟨j,2,rfl,rfl,f,g⟩
   ·first|exact eN|refine eM ?_
   ·first|exact eN|refine eM ?_
  ·refine Ev.ent (σ':=⟨[(8,.p T3 (j:Int)),(9,.p T3 (0:Int))],[(1000000,.arr 53 BI l)]⟩) ?_ (AC [(1000000,.nm 1000000)] rfl rfl ?_ ?_)
   ·exact fM c [.tmp 8,.tmp 9] (.tup [.p T3 (j:Int),.p T3 (0:Int)]) eT ⟨j,0,rfl,rfl,f,g⟩
   ·first|exact eN|refine eM ?_
   ·first|exact eN|refine eM ?_
end
theorem A3z (x y:Int) (h0:0≤y) (h1:y<4611686018427387904):0≤B7 .and .u64 x y∧B7 .and .u64 x y≤y:=by
 have e:(IntKind.u64).bits=64:=rfl;have a:(BitVec.ofInt 64 y).toNat=y.toNat:=by
  rw[BitVec.toNat_ofInt];omega
 have d:(BitVec.ofInt 64 x &&& BitVec.ofInt 64 y).toNat≤y.toNat:=by
  rw[BitVec.toNat_and,a];exact Nat.and_le_right
 have b:B7 .and .u64 x y=IntKind.u64.wrap (((BitVec.ofInt 64 x &&& BitVec.ofInt 64 y).toNat:Nat):Int):=rfl;rw[b];generalize (BitVec.ofInt 64 x &&& BitVec.ofInt 64 y).toNat=z at *;have c:IntKind.u64.wrap (z:Int)=(z:Int):=by
  have f:(z:Int)<18446744073709551616:=by omega
  have:IntKind.u64.wrap (z:Int)=(z:Int) % 18446744073709551616:=by
   first|rfl|(simp[IntKind.wrap];done)
  rw[this];omega
 rw[c];omega
theorem A81 (z:Int):0≤IntKind.u64.wrap z∧IntKind.u64.wrap z≤18446744073709551615:=by
 have:IntKind.u64.wrap z=z % 18446744073709551616:=by
  first|rfl|(simp[IntKind.wrap];done)
 omega
theorem iA (x y:Int):0≤B7 .xor .u64 x y∧B7 .xor .u64 x y≤18446744073709551615:=A81 _
theorem A1d {x:Int} (h0:0≤x) (h1:x≤18446744073709551615):0≤WE .u64 x 7∧WE .u64 x 7≤18446744073709551615:=by
 show 0≤x.fdiv 128∧x.fdiv 128≤18446744073709551615;rw[ABK _ (by decide)];omega
theorem uK (x:Int) (h0:0≤x) (h1:x<256):BB Tryz.prog 175 [.p (.int .u64) x] [] [] (fun res f=>(∃n:Nat,res=.p T3 (n:Int)∧n≤8∧(1≤x.toNat→x.toNat<2 ^ n∧2 ^ n≤2*x.toNat))∧f=[]):=by
 refine KJ [0,2,4,8,14] [] [] Tryz.func175 Tryz.ntmps175 AG ?_;intro w0 K O0 ρ0 b g h;simp only[Ak];repeat'(first|exact trivial|refine eS rfl ?_|refine AB ?_|refine rX b ?_ ?_|refine rC ?_ ?_<;>intro a<;>try(cases a;done))
 all_goals first|(exfalso;omega)|skip
 refine MA [0,2] b rfl (by simp only[go_sem,Nat.reduceEqDiff,reduceCtorEq,Nat.reduceAdd,Nat.reduceSub,Nat.reduceMul,Nat.reduceLeDiff,Nat.reduceLT,Int.reduceLE,Int.reduceToNat,Int.reduceNeg,↓reduceIte,ByteArray.size,List.size_toArray,AO];rfl) ?_ ?_
 ·have hu:∀u:UInt8,((u.toNat:Nat):Int)≤255:=fun u=>by have:=u.toNat_lt;omega
  have c:0≤x:=by omega
  refine⟨⟨c,by omega⟩,⟨c,?_⟩,⟨?_,?_⟩,?_,?_⟩
  ·have d:x<((256:Nat):Int):=h1;exact d
  ·exact AB8 (by decide) (AA3 _)
  ·exact AB8 (hu _) (by decide)
  ·rw[Int.zero_add];exact AB8 (by decide) (AA3 _)
  ·rw[Int.zero_add];exact AB8 (hu _) (by decide)
 ·repeat'(first|exact trivial|refine eS rfl ?_|refine AB ?_|refine rX b ?_ ?_|refine rC ?_ ?_<;>intro a<;>try(cases a;done))
  refine fM b [.tmp 2] (.p T3 _) (by simp only[Tu,sS,Q2,Wv,IK,Ky,Jn,go_sem,Nat.reduceEqDiff,reduceCtorEq,Nat.reduceAdd,Nat.reduceSub,Nat.reduceMul,Nat.reduceLeDiff,Nat.reduceLT,Int.reduceLE,Int.reduceToNat,Int.reduceNeg,↓reduceIte];rfl) ⟨⟨_,by rw[Int.zero_add],?_⟩,rfl⟩;have e:x.toNat<256:=by omega
  generalize x.toNat=k at *;clear a;revert e;revert k;decide
theorem qE (x:Int) (h0:0≤x) (h1:x<256):BB Tryz.prog 164 [.p (.int .u64) x] [] [] (fun res d=>(∃n:Nat,res=.p T3 (n:Int)∧n≤8∧(1≤x.toNat→x.toNat<2 ^ n∧2 ^ n≤2*x.toNat))∧d=[]):=by
 refine KJ [0,2] [] [] Tryz.func164 Tryz.ntmps164 AG ?_;intro w0 K O0 ρ0 a e f;simp only[Ak];repeat'(first|exact trivial|refine eS rfl ?_|refine AB ?_|refine rX a ?_ ?_|refine rC ?_ ?_<;>intro b<;>try(cases b;done))
 refine cP 1 a ?_ ?_
 ·trivial
 ·refine rM a (uK x h0 h1) [] [] ?_ ?_ ?_
  ·first|exact eN|refine eM ?_
  ·first|exact eN|refine eM ?_
  ·rintro _ _ ⟨⟨n,rfl,c⟩,rfl⟩;refine⟨[],.p T3 (n:Int),[],rfl,rfl,?_,?_,rfl,rfl,?_⟩
   ·first|exact eN|refine eM ?_
   ·first|exact eN|refine eM ?_
   ·refine rL a ?_ ?_
    ·trivial
    ·repeat'(first|exact trivial|refine eS rfl ?_|refine AB ?_|refine rX a ?_ ?_|refine rC ?_ ?_<;>intro b<;>try(cases b;done))
     exact fM a [.tmp 2] (.p T3 (n:Int)) eT ⟨⟨n,rfl,c⟩,rfl⟩
theorem A3A (x:Int) (h0:1≤x) (h1:x<256):BB Tryz.prog 179 [.p T3 x] [] [] (fun res g=>(∃m:Nat,res=.p (.int .u64) (m:Int)∧x.toNat<m∧m≤2*x.toNat)∧g=[]):=by
 refine KJ [0,2] [] [] Tryz.func179 Tryz.ntmps179 AG ?_;intro w0 K O0 ρ0 a i j;simp only[Ak];repeat'(first|exact trivial|refine eS rfl ?_|refine AB ?_|refine rX a ?_ ?_|refine rC ?_ ?_<;>intro b<;>try(cases b;done))
 refine cP 2 a ?_ ?_
 ·exact CV
 ·refine rM a (qE x (by omega) h1) [] [] ?_ ?_ ?_
  ·first|exact eN|refine eM ?_
  ·first|exact eN|refine eM ?_
  ·rintro _ _ ⟨⟨n,rfl,h,f⟩,rfl⟩;obtain⟨c,d⟩:=f (by omega);refine⟨[],.p T3 (n:Int),[],rfl,rfl,?_,?_,rfl,rfl,?_⟩
   ·first|exact eN|refine eM ?_
   ·first|exact eN|refine eM ?_
   ·refine rL a ?_ ?_
    ·trivial
    ·have e:Sc .u64 1 (n:Int)=((2 ^ n:Nat):Int):=by
      clear c d;have:∀n:Fin 9,Sc .u64 1 ((n.val:Nat):Int)=((2 ^ n.val:Nat):Int):=by decide
      exact this ⟨n,by omega⟩
     rw[e];repeat'(first|exact trivial|refine eS rfl ?_|refine AB ?_|refine rX a ?_ ?_|refine rC ?_ ?_<;>intro b<;>try(cases b;done))
     exact fM a [.tmp 2] (.p (.int .u64) ((2 ^ n:Nat):Int)) eT ⟨⟨_,rfl,c,d⟩,rfl⟩
theorem A3B (s:Int) (hs:0≤s∧s≤18446744073709551615):BB Tryz.prog 180 [.bp 70 [] 0] [(70,.box 213 false [.p (.int .u64) s])] [70] (fun res c=>∃v:Int,(0≤v∧v≤18446744073709551615)∧res=.p (.int .u64) v∧c=[(70,.box 213 false [.p (.int .u64) v])]):=by
 refine KJ [0,2] [] [] Tryz.func180 Tryz.ntmps180 AG ?_;intro w0 K O0 ρ0 a d e;simp only[Ak];repeat'(first|exact trivial|refine eS rfl ?_|refine AB ?_|refine rX a ?_ ?_|refine rC ?_ ?_<;>intro b<;>try(cases b;done))
 ·have:=iA s (Sc .u64 s 13);exact A1d this.1 this.2
 ·exact fM a [.tmp 2] (.p (.int .u64) _) eT ⟨_,iA _ _,rfl,rfl⟩
end Go.Proofs.YtdapahgnpbehbaaGreat.Fw
