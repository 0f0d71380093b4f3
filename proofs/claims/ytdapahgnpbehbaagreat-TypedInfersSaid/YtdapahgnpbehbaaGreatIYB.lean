/- Contracts of the program's and the reference's functions, and the plain laws of what they compute: C35 R07a R07b R07c R07d R07e Sorted R07f R07g R07h R15c P8 C37 H1 D1 D4 N5 N6 N7 T4 G1 G3 PS PA PB PC PD PE PF PL. -/
import Derived.Test.YtdapahgnpbehbaaGreatIYA
import Derived.Test.YtdapahgnpbehbaaGreatIZJ
import Derived.Test.YtdapahgnpbehbaaGreatIZI
set_option linter.unusedVariables false
set_option linter.unusedSimpArgs false
namespace Go.Proofs.YtdapahgnpbehbaaGreat.Fw
open Go
attribute [local irreducible] Ev
attribute [local go_sem] XK AL List.toList_toArray Bl evG evK TS EH JS F1 FC FM Mr J2 B4 Cv LJ CD CS frz ZH Fv Cu A2 E3 BO AV.frz AV.frzs AV.drp AV.drps AV.names AV.namess aq Fy J1 JI QW H6 BP BW IY Dz He D0 Hg Hf Hh RK Ml GG JK E5 Du RL OQ nY IZ Hi KO Eh DR H9 JL D5 QX CK D6 EU OT Hj OU KP IA JM Cn CY Em DS Gm DC EV DD D7 E7 CD CR Mj OP L9 Fj H8 H7 JJ Lw Mo KR KU KS JP Ph KT JQ VZ Mq Mp AV.trn AV.trns Dp CJ Obj.trn Ir Xe Cp DF Co D8 CF EW AZ lk GS Fx Gj t7 ZG TX ZJ Pf kC kD uD AV.cells B0 IW Mk JO Mn CB Lu Ty.cell1 Hd EP DQ FL J0 Dy JH KN OO El GF Ln QU RJ KM JF VX Wq Pe Lv Ce IX RV.flat Ty.flat Ty.size St.add upd del BQ Value.oneCell' KJ Ty.dflt Hc M9 Gw NH List.take_succ_cons List.take_zero List.length_cons XT XU NG Im Kj Ge Io o0 FD LT LU LV LW Oe Og Jb Ht Rd Option.map_some Option.map_none Option.bind_some Option.getD_some Option.getD_none Option.isNone_none Option.isNone_some Bool.and_true Bool.true_and Bool.and_false Bool.false_and Bool.not_true Bool.not_false if_true if_false List.length_cons List.length_nil and_true true_and and_self List.all_cons List.all_nil List.append_nil List.nil_append List.cons_append List.getElem?_cons_zero List.getElem?_cons_succ List.getElem?_nil List.map_cons List.map_nil List.set_cons_zero List.set_cons_succ List.isEmpty_nil List.isEmpty_cons decide_true decide_false beq_self_eq_true bne_self_eq_false Nat.zero_add Nat.add_zero Nat.sub_zero Int.toNat_natCast Int.toNat_zero Int.toNat_one List.take_length List.length_append List.length_singleton true_or or_true or_self false_or or_false Ty.agg.injEq Ty.slice.injEq Ty.prod.injEq Ty.int.injEq Option.some.injEq beq_iff_eq J8 evMG evMQ o6 Gy Kg Bo Il F2 NB Ij Gx Hu Jc J7 MK L1 ML Qa Kh NC ND Ik AU Ac Op.operands Call.operands List.filterMap_cons List.filterMap_nil List.append_eq Bool.cond_false_right Bool.cond_true_left cond_true cond_false implies_true decide_eq_true_eq beq_true beq_false Bool.or_true Bool.or_false Bool.true_or Bool.false_or Option.isSome_some Array.empty_append List.append_toArray E4 LK EX Gk VY Mm E6 FU FT Hk Gl JN KQ TY ZI IR inB JR E8 Fk Ia Ak XV List.drop_zero DJ Gz Vs Ci Kl Ba AV.fgt AV.fgts Obj.fgt Ab Ap AU Df Kk Bg Ip List.any_cons List.any_nil Zh XY Vt XZ Kn Om qs List.flatMap_cons List.flatMap_nil List.cons_append tn Vx It List.take_succ_cons List.drop_succ_cons V0 G8 Bj c9 LZ CG Cc Al FB Ja Bn EZ DV Gv Hs GH IE
attribute [local go_sem] IU dD ty3 ty4 ty5 ty9 vO vP vQ vR vS vT vU vV vW vX vY vZ v4 v5 v6 v7 v8 v9 wA wB wC wD wE wF wG wH wI wJ wK wL wM wN wO wP wQ wR wS wT wU wV wW wX wY wZ w3 w4 w5 w7 w8 w9 xA xB xC xD xE xF xG xH xI xJ xK xL xM xN xO xP xQ xR xS xT xU xV xW xX dE dF dG dH dI dJ dK dL dM dN dP dQ dR dS dT dU dV dW dX dY dZ d3 d4 d5 d6 d7 d8 d9 eA eB eC eD eE eF eG eH eI eJ eK eL eO eP eQ eU eW eX eY eZ e7 e9 fA fB fC fD fE fF fG fH fJ fL fN fO fP fQ fR fS fT fU fV fW fX fY fZ f2 f3 f5 f6 f7 f8 f9 gA gB gC gD gE gF gG gH gI gJ gK gL gM gN gP gQ gR gS gT gU gV gW gX gY gZ g8 g9 hC hH hU hZ iA iB iC iD iE iG iH iI
set_option maxRecDepth 100000
set_option maxHeartbeats 4000000
section
attribute [local go_sem] SQ O8 rF O9
abbrev HN:=ByteArray×List Int×List Int×List (Int×Int)
abbrev AN:=List HN×List rK
def Dv (l:List AP) (v:List (List (Int×Int))) (n:Nat):List HN:=(List.range n).map fun i=>((l.getD i c0).1,(l.getD i c0).2,Ul l (i:Int),v.getD i [])
theorem aO (l:List AP) (v:List (List (Int×Int))) (n:Nat):Dv l v (n+1)=Dv l v n++[((l.getD n c0).1,(l.getD n c0).2,Ul l (n:Int),v.getD n [])]:=by simp[Dv,AAb]
theorem I3 (l:List AP) (v:List (List (Int×Int))) (n:Nat):(Dv l v n).length=n:=by simp[Dv]
def BZ (d:List AF):AN:=(Dv (AJ d) (A3 d).1 (AJ d).length,(Dn d).1)
def Ar (d:List AF):AN×Int:=if (A3 d).2≠0 then (([],[]),(A3 d).2) else (BZ d,0)
def Nn:Ad:={ ins:=[Ef],pre:=fun _=>True,out:=fun(d,_)=>[.p Ls (Ar d).1,.p TU (Ar d).2] }
theorem aP:Aj Tryz.prog 36 Nn:=by
 refine fK [0,2,3,4,5,6,8,9,10,18,29] Tryz.func36 Tryz.ntmps36 (AD aM (AD Nj (AD yF (AD YM AG)))) ?_;rintro w0 O0 ⟨d,u⟩ b - -;simp only[Nn,AL];repeat'(first|exact trivial|refine eS rfl ?_|refine AB ?_|refine rX b ?_ ?_|refine rC ?_ ?_<;>intro a<;>try(cases a;done))
 ·have h1:Ar d=(([],[]),(A3 d).2):=by unfold Ar;rw[BY a]
  exact fI b [.cell 2 31,.tmp 3] (by rw[h1];exact eR)
 ·have c:(A3 d).2=0:=by simpa using a
  have f:Am d=0:=by
   unfold A3 at c;split at c
   ·rename_i h;exact absurd c h
   ·rename_i h;exact By h
  obtain⟨t,x,w⟩:=Bv f;obtain⟨j,m,k⟩:=BJ t;have g:Ar d=(BZ d,0):=by unfold Ar;rw[At (by rw[c];simp)]
  have r:(A3 d).1.length=(AJ d).length:=by
   unfold A3;rw[At (by rw[f];simp)];exact Uq _ _ _ _
  have s:=Md j;have o:(AJ d).length≤256:=by rw[HJ];exact m
  unfold BZ at g;rw[k];generalize AJ d=l at *;generalize (A3 d).1=v at *;refine AH (ι:={n:Nat//n≤l.length}) (fun n=>⟨[(0,.p Ef d),(2,.bp 2 [] 0),(4,.p z1 v),(6,.p Iu l),(8,.bp 8 [] 0),(9,.p (.int .i64) (n.1:Int))],[(2,.box 31 true [.raw (.slice none 0 0),.raw (.slice none 0 0)]),(8,.box 31 true [.sr 53 T84 0 (Dv l v n.1).length,.raw (.slice none 0 0)]),(53,.arr 84 T84 (Dv l v n.1))]⟩) (fun n=>l.length-n.1) ⟨0,IS _⟩ (AC [(2,.nm 2),(8,.nm 8),(53,.nil)] rfl rfl ?_ ?_) (fun n=>?_)
  ·first|exact eN|refine eM ?_
   exact⟨rfl,rfl⟩
  ·first|exact eN|refine eM ?_
  ·obtain⟨n,hn⟩:=n;have q:=I3 l v n;have i:=aO l v n;simp only;repeat'(first|exact trivial|refine eS rfl ?_|refine AB ?_|refine rX b ?_ ?_|refine rC ?_ ?_<;>intro a<;>try(cases a;done))
   ·refine⟨a,a,⟨a,o,s⟩,by rw[r];exact a,?_⟩;rw[q];simp only[AO];omega
   ·omega
   ·have e:n<l.length:=OM.1 a;refine⟨⟨n+1,e⟩,by simp only;omega,AC [(2,.nm 2),(8,.nm 8),(53,.nm 53)] rfl rfl ?_ ?_⟩
    ·simp only[i];first|exact eN|refine eM ?_
    ·simp only[i];first|exact eN|refine eM ?_
   ·have e:n=l.length:=by omega
    subst e;refine GJ [53] ?_;exact fI b [.cell 2 31,.tmp 3] (by rw[g];exact eR)
end
abbrev A3d:=Int×List (Int×Int)
def GL (f:List A3d):Bool:=decide (f.length≤12)&&f.all fun n=>decide (n.2.length≤12)
def SS:Ad:={ ins:=[Fs],pre:=fun _=>True,out:=fun(f,_)=>[.p .bool (GL f)] }
theorem rS:Aj Tryz.prog 12 SS:=by
 refine fK [0,1,2,3,7,12,22] Tryz.func12 Tryz.ntmps12 AG ?_;rintro w0 O0 ⟨l,u⟩ a e f;simp only[SS,AL];repeat'(first|exact trivial|refine eS rfl ?_|refine AB ?_|refine rX a ?_ ?_|refine rC ?_ ?_<;>intro b<;>try(cases b;done))
 ·have h1:GL l=false:=by
   have h:¬(List.length l≤12):=by exact eV
   unfold GL;rw[ABy h];rfl
  exact fI a [.tmp 2] (by rw[h1];exact eR)
 ·refine AH (ι:={k:Nat//k≤l.length∧(l.take k).all (fun n=>decide (n.2.length≤12))=true}) (fun k=>⟨[(0,.p Fs l),(1,.bp 1 [] 0),(3,.p (.int .i64) (k.1:Int))],[(1,.box 25 true [.p Fq l])]⟩) (fun k=>l.length-k.1) ⟨0,by simp⟩ (AC [(1,.nm 1)] rfl rfl ?_ ?_) (fun k=>?_)
  ·first|exact eN|refine eM ?_
  ·first|exact eN|refine eM ?_
  ·obtain⟨k,hk,c⟩:=k;repeat'(first|exact trivial|refine eS rfl ?_|refine AB ?_|refine rX a ?_ ?_|refine rC ?_ ?_<;>intro b<;>try(cases b;done))
   ·exact eV
   ·have h1:GL l=false:=by
     have hk:k<l.length:=by exact eV
     have h:=AE l (0,[]) hk;unfold GL;rw[AAt];right;rw[AAG];exact⟨_,h,by simp only[GO];exact eV⟩
    exact fI a [.tmp 2] (by rw[h1];exact eR)
   ·exact eV
   ·have hk:k<l.length:=by exact eV
    refine⟨⟨k+1,by exact eV,?_⟩,by simp only;exact eV,AC [(1,.nm 1)] rfl rfl ?_ ?_⟩
    ·have h1:=Ae l (0,[]) hk;have d:((l.take (k+1)).all fun n=>decide (n.2.length≤12))=_:=AB5 (fun x=>List.all x fun n=>decide (n.2.length≤12)) h1;rw[d,ABr,c];simp only[AAU,List.all_nil,Bool.and_true,ABP,GO];exact eV
    ·first|exact eN|refine eM ?_
    ·first|exact eN|refine eM ?_
   ·have h1:GL l=true:=by
     have hk:l.take k=l:=As (by exact eV);rw[hk]at c;unfold GL;rw[c,ABj (by exact eV)];rfl
    exact fI a [.tmp 2] (by rw[h1];exact eR)
def F8 (n:Int) (seen:List (Int×Int)):List (Int×Int)→Int
 | []=>0
 | x :: r=>if x.1<0∨x.2<0∨n≤x.2 then 2 else if (seen.any fun y=>y.1==x.1)=true then 4 else F8 n (seen++[x]) r
def HO (l:List (Int×Int)) (n:Int):Int:=F8 n [] l
def YN:Ad:={ ins:=[IT,T3],pre:=fun _=>True,out:=fun(l,n,_)=>[.p TU (HO l n)] }
theorem Me (n:Int) (l:List (Int×Int)) {k:Nat} (h:k<l.length):F8 n (l.take k) (l.drop k)=if (l.getD k (0,0)).1<0∨(l.getD k (0,0)).2<0∨n≤(l.getD k (0,0)).2 then 2 else if ((l.take k).any fun y=>y.1==(l.getD k (0,0)).1)=true then 4 else F8 n (l.take (k+1)) (l.drop (k+1)):=by
 rw[Ae l (0,0) h,OS h,AS,AT h];rfl
theorem Tg (l:List (Int×Int)) (f:Int) {k:Nat} (h:k<l.length):((l.take (k+1)).any fun y=>y.1==f)=((l.take k).any (fun y=>y.1==f)||((l.getD k (0,0)).1==f)):=by
 rw[Ae l (0,0) h,ABO];simp
theorem yJ:Aj Tryz.prog 141 YN:=by
 refine fK [0,1,4,5,6,10,35,38,51] Tryz.func141 Tryz.ntmps141 AG ?_;rintro w0 O0 ⟨l,n,u⟩ b ⟨⟨h,-⟩,-⟩ -;simp only[AO]at h;simp only[YN,AL];repeat'(first|exact trivial|refine eS rfl ?_|refine AB ?_|refine rX b ?_ ?_|refine rC ?_ ?_<;>intro a<;>try(cases a;done))
 refine AH (ι:={k:Nat//k≤l.length∧F8 n (l.take k) (l.drop k)=HO l n}) (fun k=>⟨[(0,.p IT l),(1,.p T3 n),(5,.p (.int .i64) (k.1:Int))],[]⟩) (fun k=>l.length-k.1) ⟨0,by simp[HO]⟩ (AC [] rfl rfl ?_ ?_) (fun k=>?_)
 ·first|exact eN|refine eM ?_
 ·first|exact eN|refine eM ?_
 ·obtain⟨k,hk,c⟩:=k;repeat'(first|exact trivial|refine eS rfl ?_|refine AB ?_|refine rX b ?_ ?_|refine rC ?_ ?_<;>intro a<;>try(cases a;done))
  ·exact eV
  ·have hk:k<l.length:=by exact eV
   have h1:HO l n=2:=by
    rw[←c,Me n l hk,BY (by rw[←or_assoc];exact a)]
   exact fI b [.tmp 4] (by rw[h1];exact eR)
  ·have hk:k<l.length:=by exact eV
   have hn:¬((l.getD k (0,0)).1<0∨(l.getD k (0,0)).2<0∨n≤(l.getD k (0,0)).2):=by
    have:=a;generalize l.getD k (0,0)=x at this;exact eV
   rw[Me n l hk,At hn]at c;refine AH (ι:={j:Nat//j≤k∧((l.take j).any fun y=>y.1==(l.getD k (0,0)).1)=false}) (fun j=>⟨[(0,.p IT l),(1,.p T3 n),(5,.p (.int .i64) (k:Int)),(6,.p (.int .i64) (j.1:Int))],[]⟩) (fun j=>k-j.1) ⟨0,by simp⟩ (AC [] rfl rfl ?_ ?_) (fun j=>?_)
   ·first|exact eN|refine eM ?_
   ·first|exact eN|refine eM ?_
   ·obtain⟨j,i,f⟩:=j;repeat'(first|exact trivial|refine eS rfl ?_|refine AB ?_|refine rX b ?_ ?_|refine rC ?_ ?_<;>intro a<;>try(cases a;done))
    ·exact eV
    ·have e:j<l.length:=by exact eV
     have h1:HO l n=4:=by
      have d:((l.take k).any fun y=>y.1==(l.getD k (0,0)).1)=true:=by
       rw[OF];refine⟨l.getD j (0,0),?_,by simpa using a⟩;rw[AS,AT e];exact ABk.2 ⟨j,by exact eV,rfl⟩
      rw[←c,BY d]
     exact fI b [.tmp 4] (by rw[h1];exact eR)
    ·exact eV
    ·have e:j<l.length:=by exact eV
     refine⟨⟨j+1,by exact eV,?_⟩,by simp only;exact eV,AC [] rfl rfl ?_ ?_⟩
     ·have d:=Tg l (l.getD k (0,0)).1 e;refine d.trans ?_;rw[f];simpa using a
     ·first|exact eN|refine eM ?_
     ·first|exact eN|refine eM ?_
    ·exact eV
    ·have g:j=k:=by exact eV
     subst g;refine⟨⟨j+1,by exact eV,?_⟩,by simp only;exact eV,AC [] rfl rfl ?_ ?_⟩
     ·rw[←c,At (by rw[f];simp)]
     ·first|exact eN|refine eM ?_
     ·first|exact eN|refine eM ?_
  ·have h1:HO l n=0:=by
    have hk:l.length≤k:=by exact eV
    rw[←c,IF hk];rfl
   exact fI b [.tmp 4] (by rw[h1];exact eR)
def ST (n:Int×List (Int×Int)):List Int:=n.1 :: (n.2.length:Int) :: n.2.flatMap fun a=>[a.1,a.2]
def Bi (f:List (Int×List (Int×Int))):List Int:=(f.length:Int) :: f.flatMap ST
def Th (l:List (Int×List (Int×Int))) (k:Nat):List Int:=(l.length:Int) :: (l.take k).flatMap ST
def SU (l:List (Int×List (Int×Int))) (k j:Nat):List Int:=Th l k++[(l.getD k (0,[])).1,((l.getD k (0,[])).2.length:Int)]++((l.getD k (0,[])).2.take j).flatMap fun a=>[a.1,a.2]
theorem PI:∀l:List (Int×Int),(l.flatMap fun a=>[a.1,a.2]).length=2*l.length
 | []=>rfl
 | x :: l=>by simp[PI l];omega
theorem rT (n:Int×List (Int×Int)):(ST n).length=2+2*n.2.length:=by
 have:=PI n.2;simp only[ST,Is];omega
theorem SV:∀l:List (Int×List (Int×Int)),(∀n∈l,n.2.length≤100000)→(l.flatMap ST).length≤l.length*200002
 | [],_=>by simp
 | x :: l,h=>by
  have h1:=h x (by simp);have a:=SV l (fun n hn=>h n (by simp[hn]));have b:=rT x;simp only[ABz,On,Is];omega
theorem YO {l:List (Int×List (Int×Int))} (h:∀n∈l,n.2.length≤100000) {k:Nat} (hk:k≤l.length):(Th l k).length≤1+k*200002:=by
 have h1:=SV (l.take k) (fun n hn=>h n (AA8 hn));rw[OR,AB8 hk]at h1;simp only[Th,Is];omega
theorem rU {l:List (Int×List (Int×Int))} (h:∀n∈l,n.2.length≤100000) {k j:Nat} (hk:k<l.length) (b:j≤(l.getD k (0,[])).2.length):(SU l k j).length≤3+k*200002+2*j:=by
 have h1:=YO h (ACy hk);have a:=PI ((l.getD k (0,[])).2.take j);rw[OR,AB8 b]at a;simp only[SU,On,Is,AAS];omega
theorem Us {l:List (Int×List (Int×Int))} {k:Nat} (hk:k<l.length):Th l (k+1)=SU l k (l.getD k (0,[])).2.length:=by
 unfold Th SU;rw[Ae l (0,[]) hk,List.flatMap_append,gO];simp[ST,Th]
theorem Ut {l:List (Int×List (Int×Int))} {k j:Nat} (a:j<(l.getD k (0,[])).2.length):SU l k (j+1)=SU l k j++[((l.getD k (0,[])).2.getD j (0,0)).1,((l.getD k (0,[])).2.getD j (0,0)).2]:=by
 unfold SU;rw[Ae _ (0,0) a,List.flatMap_append];simp
def SW:Ad:={ ins:=[Fs],pre:=fun(f,_)=>f.length≤100000∧∀n∈f,n.2.length≤100000,out:=fun(f,_)=>[.p IJ (Bi f)] }
theorem aQ:Aj Tryz.prog 74 SW:=by
 refine fK [0,1,2,3,4,5,6,15,38] Tryz.func74 Tryz.ntmps74 AG ?_;rintro w0 O0 ⟨l,u⟩ b ⟨h,-⟩ ⟨n,d⟩;simp only[SW,AL];repeat'(first|exact trivial|refine eS rfl ?_|refine AB ?_|refine rX b ?_ ?_|refine rC ?_ ?_<;>intro a<;>try(cases a;done))
 refine AH (ι:={k:Nat//k≤l.length}) (fun k=>⟨[(0,.p Fs l),(1,.bp 1 [] 0),(3,.sr 10 T3 0 (Th l k.1).length),(4,.p (.int .i64) (k.1:Int))],[(1,.box 25 true [.p Fq l]),(10,.arr 3 T3 (Th l k.1))]⟩) (fun k=>l.length-k.1) ⟨0,by simp⟩ (AC [(1,.nm 1),(10,.nm 10)] rfl rfl ?_ ?_) (fun k=>?_)
 ·first|exact eN|refine eM ?_
  rfl
 ·first|exact eN|refine eM ?_
  rfl
 ·obtain⟨k,hk⟩:=k;have i:=YO d hk;repeat'(first|exact trivial|refine eS rfl ?_|refine AB ?_|refine rX b ?_ ?_|refine rC ?_ ?_<;>intro a<;>try(cases a;done))
  ·exact eV
  ·refine⟨by exact eV,?_⟩;simp only[AO];exact eV
  ·have c:k<l.length:=by exact eV
   have o:=d _ (AE l (0,[]) c);refine AH (ι:={j:Nat//j≤(l.getD k (0,[])).2.length}) (fun j=>⟨[(0,.p Fs l),(1,.bp 1 [] 0),(3,.sr 10 T3 0 (SU l k j.1).length),(4,.p (.int .i64) (k:Int)),(5,.p IT (l.getD k (0,[])).2),(6,.p (.int .i64) (j.1:Int))],[(1,.box 25 true [.p Fq l]),(10,.arr 3 T3 (SU l k j.1))]⟩) (fun j=>(l.getD k (0,[])).2.length-j.1) ⟨0,by simp⟩ (AC [(1,.nm 1),(10,.nm 10)] rfl rfl ?_ ?_) (fun j=>?_)
   ·first|exact eN|refine eM ?_
    simp[SU]
   ·first|exact eN|refine eM ?_
    simp[SU]
   ·obtain⟨j,f⟩:=j;have m:=rU d c f;repeat'(first|exact trivial|refine eS rfl ?_|refine AB ?_|refine rX b ?_ ?_|refine rC ?_ ?_<;>intro a<;>try(cases a;done))
    ·refine⟨by exact eV,by exact eV,?_⟩;simp only[AO];exact eV
    ·exact eV
    ·have e:j<(l.getD k (0,[])).2.length:=by exact eV
     refine⟨⟨j+1,by exact eV⟩,by simp only;exact eV,AC [(1,.nm 1),(10,.nm 10)] rfl rfl ?_ ?_⟩
     ·first|exact eN|refine eM ?_
      exact(Ut e).symm
     ·first|exact eN|refine eM ?_
      have:=AB5 List.length (Ut (l:=l) e);rw[On]at this;exact this.symm
    ·exact eV
    ·have g:j=(l.getD k (0,[])).2.length:=by exact eV
     subst g;refine⟨⟨k+1,by exact eV⟩,by simp only;exact eV,AC [(1,.nm 1),(10,.nm 10)] rfl rfl ?_ ?_⟩
     ·first|exact eN|refine eM ?_
      exact(Us c).symm
     ·first|exact eN|refine eM ?_
      exact AB5 List.length (Us c).symm
  ·have hk:l.take k=l:=As (by exact eV);have h1:Th l k=Bi l:=by unfold Th Bi;rw[hk]
   exact fI b [.tmp 2] (by first|exact eR|refine lE ?_;exact h1)
section
attribute [local go_sem] SW
def Ju:List Int→List Int→Int
 | x :: xs,y :: ys=>if x<y then -1 else if y<x then 1 else Ju xs ys
 | _,_=>0
theorem PJ (xs ys:List Int) {k:Nat} (h1:k<xs.length) (a:k<ys.length):Ju (xs.drop k) (ys.drop k)=if xs.getD k 0<ys.getD k 0 then -1 else if ys.getD k 0<xs.getD k 0 then 1 else Ju (xs.drop (k+1)) (ys.drop (k+1)):=by
 rw[OS h1,OS a,AS,AT h1,AS,AT a];rfl
theorem rV (xs ys:List Int) {k:Nat} (h:xs.length≤k∨ys.length≤k):Ju (xs.drop k) (ys.drop k)=0:=by
 rcases h with h|h
 ·rw[IF h];simp[Ju]
 ·rw[IF h];simp[Ju]
def CW (a b:List (Int×List (Int×Int))):Int:=Ju (Bi a) (Bi b)
def Cl (f:List (Int×List (Int×Int))):Prop:=f.length≤100000∧∀n∈f,n.2.length≤100000
def SX:Ad:={ ins:=[Fs,Fs],pre:=fun(a,b,_)=>Cl a∧Cl b,out:=fun(a,b,_)=>[.p T3 (CW a b)] }
theorem Np {f:List (Int×List (Int×Int))} (h:Cl f):(Bi f).length≤1+f.length*200002:=by
 have:=SV f h.2;simp only[Bi,Is];omega
theorem aR:Aj Tryz.prog 47 SX:=by
 refine fK [0,1,2,3,4,5,6,7,21,32,41] Tryz.func47 Tryz.ntmps47 (AD aQ AG) ?_;rintro w0 O0 ⟨a,b,u⟩ f-⟨⟨g,i⟩,⟨j,l⟩⟩;have m:=Np ⟨g,i⟩;have n:=Np ⟨j,l⟩;simp only[SX,AL];repeat'(first|exact trivial|refine eS rfl ?_|refine AB ?_|refine rX f ?_ ?_|refine rC ?_ ?_<;>intro c<;>try(cases c;done))
 ·exact⟨g,i⟩
 ·exact⟨j,l⟩
 ·refine AH (ι:={k:Nat//Ju ((Bi a).drop k) ((Bi b).drop k)=CW a b}) (fun k=>⟨[(5,.p IJ (Bi a)),(6,.p IJ (Bi b)),(7,.p (.int .i64) (k.1:Int))],[]⟩) (fun k=>(Bi a).length-k.1) ⟨0,by simp[CW]⟩ (AC [] rfl rfl ?_ ?_) (fun k=>?_)
  ·first|exact eN|refine eM ?_
  ·first|exact eN|refine eM ?_
  ·obtain⟨k,hk⟩:=k;repeat'(first|exact trivial|refine eS rfl ?_|refine AB ?_|refine rX f ?_ ?_|refine rC ?_ ?_<;>intro c<;>try(cases c;done))
   ·exact eV
   ·obtain⟨h1,d⟩:k<(Bi a).length∧k<(Bi b).length:=by exact eV
    have e:CW a b=-1:=by rw[←hk,PJ _ _ h1 d,BY c]
    exact fI f [.tmp 4] (by rw[e];exact eR)
   ·exact eV
   ·obtain⟨h1,d⟩:k<(Bi a).length∧k<(Bi b).length:=by exact eV
    have e:CW a b=1:=by rw[←hk,PJ _ _ h1 d,At (by exact eV),BY c]
    exact fI f [.tmp 4] (by rw[e];exact eR)
   ·exact eV
   ·obtain⟨h1,d⟩:k<(Bi a).length∧k<(Bi b).length:=by exact eV
    refine⟨⟨k+1,?_⟩,by simp only;exact eV,AC [] rfl rfl ?_ ?_⟩
    ·rw[←hk,PJ _ _ h1 d,At (by exact eV),At (by exact eV)]
    ·first|exact eN|refine eM ?_
    ·first|exact eN|refine eM ?_
   ·have e:CW a b=0:=by
     rw[←hk];apply rV;by_cases h:k<(Bi a).length
     ·right;have:=c (by exact eV);exact eV
     ·left;exact eV
    exact fI f [.tmp 4] (by rw[e];exact eR)
def Mf:Ad:={ ins:=[Fs,Fs],pre:=fun(a,b,_)=>Cl a∧Cl b,out:=fun(a,b,_)=>[.p .bool (CW a b==0)] }
end
section
attribute [local go_sem] SX YN
theorem SY:Aj Tryz.prog 20 Mf:=by
 refine fK [0,1,2,3,4] Tryz.func20 Tryz.ntmps20 (AD aR AG) ?_;rintro w0 O0 ⟨a,b,u⟩ c-e;simp only[Mf,AL];repeat'(first|exact trivial|refine eS rfl ?_|refine AB ?_|refine rX c ?_ ?_|refine rC ?_ ?_<;>intro d<;>try(cases d;done))
 ·exact e
 ·exact fI c [.tmp 4]
def F9 (m:Int):List (Int×List (Int×Int))→Int
 | []=>0
 | n :: r=>if n.1<0 then 2 else if HO n.2 m≠0 then HO n.2 m else F9 m r
def Bz (f:List (Int×List (Int×Int))):Int:=if f.length=0 then 1 else if 4096<f.length then 7 else F9 f.length f
def rW:Ad:={ ins:=[Fs],pre:=fun _=>True,out:=fun(f,_)=>[.p TU (Bz f)] }
theorem HP (m:Int) (l:List (Int×List (Int×Int))) {k:Nat} (h:k<l.length):F9 m (l.drop k)=if (l.getD k (0,[])).1<0 then 2 else if HO (l.getD k (0,[])).2 m≠0 then HO (l.getD k (0,[])).2 m else F9 m (l.drop (k+1)):=by
 rw[OS h,AS,AT h];rfl
theorem yK:Aj Tryz.prog 108 rW:=by
 refine fK [0,1,2,3,4,8,12,17,26,38] Tryz.func108 Tryz.ntmps108 (AD yJ AG) ?_;rintro w0 O0 ⟨l,u⟩ a ⟨f,-⟩ -;simp only[rW,AL];repeat'(first|exact trivial|refine eS rfl ?_|refine AB ?_|refine rX a ?_ ?_|refine rC ?_ ?_<;>intro b<;>try(cases b;done))
 ·have h1:Bz l=1:=by
   have h:l.length=0:=by exact eV
   unfold Bz;rw[BY h]
  exact fI a [.tmp 2] (by rw[h1];exact eR)
 ·have h1:Bz l=7:=by
   have h:¬l.length=0:=by exact eV
   have e:4096<l.length:=by exact eV
   unfold Bz;rw[At h,BY e]
  exact fI a [.tmp 2] (by rw[h1];exact eR)
 ·have h1:Bz l=F9 l.length l:=by
   have h:¬l.length=0:=by exact eV
   have e:¬4096<l.length:=by exact eV
   unfold Bz;rw[At h,At e]
  refine AH (ι:={k:Nat//k≤l.length∧F9 l.length (l.drop k)=Bz l}) (fun k=>⟨[(1,.bp 1 [] 0),(3,.p (.int .i64) (k.1:Int))],[(1,.box 25 true [.p Fq l])]⟩) (fun k=>l.length-k.1) ⟨0,by simp[h1]⟩ (AC [(1,.nm 1)] rfl rfl ?_ ?_) (fun k=>?_)
  ·first|exact eN|refine eM ?_
  ·first|exact eN|refine eM ?_
  ·obtain⟨k,hk,hf⟩:=k;repeat'(first|exact trivial|refine eS rfl ?_|refine AB ?_|refine rX a ?_ ?_|refine rC ?_ ?_<;>intro b<;>try(cases b;done))
   ·exact eV
   ·have d:k<l.length:=by exact eV
    have c:Bz l=2:=by rw[←hf,HP _ _ d,BY b]
    exact fI a [.tmp 2] (by rw[c];exact eR)
   ·exact eV
   ·have d:k<l.length:=by exact eV
    have c:Bz l=HO (l.getD k (0,[])).2 l.length:=by rw[←hf,HP _ _ d,At (by exact eV),BY b]
    exact fI a [.tmp 2] (by rw[c];exact eR)
   ·exact eV
   ·have d:k<l.length:=by exact eV
    refine⟨⟨k+1,by exact eV,?_⟩,by simp only;exact eV,AC [(1,.nm 1)] rfl rfl ?_ ?_⟩
    ·rw[←hf,HP _ _ d,At (by exact eV),At (by simpa using b)]
    ·first|exact eN|refine eM ?_
    ·first|exact eN|refine eM ?_
   ·have c:Bz l=0:=by
     have hk:l.length≤k:=by exact eV
     rw[←hf,IF hk];rfl
    exact fI a [.tmp 2] (by rw[c];exact eR)
end
def HQ (x:Int×Int) (s:List (Int×Int)):Nat→Nat
 | 0=>0
 | n+1=>if x.1<(s.getD n (0,0)).1 then HQ x s n else n+1
def Mg (s:List (Int×Int)) (x:Int×Int):List (Int×Int):=s.take (HQ x s s.length)++[x]++s.drop (HQ x s s.length)
def AX (l:List (Int×Int)):List (Int×Int):=l.foldl Mg []
theorem Q3 (x:Int×Int) (s:List (Int×Int)):∀n,HQ x s n≤n
 | 0=>If _
 | n+1=>by
  unfold HQ;have:=Q3 x s n;split<;>omega
theorem rZ (s:List (Int×Int)) (x:Int×Int):(Mg s x).length=s.length+1:=by
 have:=Q3 x s s.length;simp[Mg];omega
theorem GX (l:List (Int×Int)) (x:Int×Int):AX (l++[x])=Mg (AX l) x:=by simp[AX]
theorem K0:∀(l s:List (Int×Int)),(l.foldl Mg s).length=s.length+l.length
 | [],s=>by simp
 | x :: l,s=>by simp[K0 l,rZ];omega
theorem CQ (l:List (Int×Int)):(AX l).length=l.length:=by simp[AX,K0]
def Nq:Ad:={ ins:=[IT],pre:=fun(l,_)=>l.length≤1000000,out:=fun(l,_)=>[.own 53 BD (AX l)] }
theorem Uu:Aj Tryz.prog 79 Nq:=by
 refine fK [0,2,3,4,5,6,10,30] Tryz.func79 Tryz.ntmps79 AG ?_;rintro w0 O0 ⟨l,u⟩ c s j;simp only[Nq]at j;simp only[Nq,AL];repeat'(first|exact trivial|refine eS rfl ?_|refine AB ?_|refine rX c ?_ ?_|refine rC ?_ ?_<;>intro a<;>try(cases a;done))
 refine AH (ι:={p:Nat//p≤l.length}) (fun k=>⟨[(0,.p IT l),(3,.sr 10 BD 0 (AX (l.take k.1)).length),(4,.p (.int .i64) (k.1:Int))],[(10,.arr 53 BD (AX (l.take k.1)))]⟩) (fun k=>l.length-k.1) ⟨0,by omega⟩ (AC [(10,.nil)] rfl rfl ?_ ?_) (fun k=>?_)
 ·first|exact eN|refine eM ?_
  rfl
 ·first|exact eN|refine eM ?_
  rfl
 ·obtain⟨k,g⟩:=k;have o:(AX (l.take k)).length=k:=by rw[CQ,OR];exact AB8 g
  repeat'(first|exact trivial|refine eS rfl ?_|refine AB ?_|refine rX c ?_ ?_|refine rC ?_ ?_<;>intro a<;>try(cases a;done))
  ·refine AH (ι:={q:Nat//q≤(AX (l.take k)).length∧HQ (l.getD k (0,0)) (AX (l.take k)) q=HQ (l.getD k (0,0)) (AX (l.take k)) (AX (l.take k)).length}) (fun q=>⟨[(0,.p IT l),(3,.sr 10 BD 0 (AX (l.take k)).length),(4,.p (.int .i64) (k:Int)),(5,.p (.int .i64) (q.1:Int))],[(10,.arr 53 BD (AX (l.take k)))]⟩) (fun q=>q.1) ⟨(AX (l.take k)).length,by simp⟩ (AC [(10,.nm 10)] rfl rfl ?_ ?_) (fun q=>?_)
   ·first|exact eN|refine eM ?_
   ·first|exact eN|refine eM ?_
   ·obtain⟨q,m,hp⟩:=q;have h:k<l.length:=by omega
    have n:=l.length_take_le k;have d:(List.take q (AX (List.take k l))).length=q:=by rw[OR];exact AB8 m
    repeat'(first|exact trivial|refine eS rfl ?_|refine AB ?_|refine rX c ?_ ?_|refine rC ?_ ?_<;>intro a<;>try(cases a;done))
    ·exact eV
    ·exact eV
    ·obtain⟨h1,b⟩:=a;obtain⟨q,rfl⟩:∃r,q=r+1:=⟨q-1,by omega⟩;have e:((q+1:Nat):Int)-1=(q:Int):=by omega
     refine⟨⟨q,by omega,?_⟩,ACr q,AC [(10,.nm 10)] rfl rfl ?_ ?_⟩
     ·rw[←hp];simp only[HQ];rw[e,AA4]at b;rw[BY b]
     ·first|exact eN|refine eM ?_
     ·first|exact eN|refine eM ?_
      show (q:Int)+1-1=q;omega
    ·refine⟨by exact eV,?_⟩;rw[d];unfold AO;omega
    ·refine⟨by exact eV,?_⟩;rw[d];simp only[AO];omega
    ·refine⟨by exact eV,?_⟩;rw[d];simp only[AO,AAP];omega
    ·exact eV
    ·have i:HQ (l.getD k (0,0)) (AX (l.take k)) q=q:=by
      cases q with
      | zero=>rfl
      | succ q =>
       have e:((q+1:Nat):Int)-1=(q:Int):=by omega
       have:=a (by omega);rw[e,AA4]at this;simp only[HQ];rw[At (by omega)]
     have h1:=Ae l (0,0) h;have b:AX (l.take (k+1))=_:=(AB5 AX h1).trans (GX _ _);unfold Mg at b;rw[←hp,i]at b;refine⟨⟨k+1,by exact eV⟩,by simp only;exact eV,AC [(10,.nm 37)] rfl rfl ?_ ?_⟩
     ·first|exact eN|refine eM ?_
      exact b.symm
     ·first|exact eN|refine eM ?_
      have f:=AB5 List.length b;rw[On,On]at f;exact f.symm
  ·have hk:l.take k=l:=As (by exact eV);refine Gu c (.inl rfl) (rv:=.tmp 2) rfl ?_;simp only[Hr,Gr,F0,go_sem,Nat.reduceEqDiff,reduceCtorEq,Nat.reduceAdd,Nat.reduceSub,Nat.reduceMul,Nat.reduceLeDiff,Nat.reduceLT,Int.reduceLE,Int.reduceToNat,Int.reduceNeg,↓reduceIte];rw[hk];first|rfl|exact⟨rfl,rfl⟩|exact⟨rfl,rfl,rfl⟩
section
attribute [local go_sem] Nq
abbrev AK:=Int×List (Int×Int)
def DY (f:List AK):Nat→List Int×List Int→Int→List Int×List Int
 | 0,s,_=>s
 | k+1,s,n=>(AX (f.getD n.toNat (0,[])).2).foldl (fun s a=>if s.1.getD a.2.toNat 0<0 then DY f k s a.2 else s) (s.1.set n.toNat (s.2.length:Int),s.2++[n])
def KL (l:List Int):Nat:=l.countP (fun x=>decide (x<0))
def EE (f:List AK):Prop:=f.length≤100000∧∀x∈f,x.2.length≤100000∧∀a∈x.2,0≤a.2∧a.2<(f.length:Int)
def Qg (f:List AK) (s:List Int×List Int):Prop:=s.1.length=f.length∧s.2.length+KL s.1≤f.length
theorem r8 {l:List Int} {n:Nat} {v:Int} (hn:n<l.length) (a:l.getD n 0<0) (d:0≤v):KL (l.set n v)+1=KL l:=by
 induction l generalizing n with
 | nil=>simp at hn
 | cons x r c =>
  cases n with
  | zero =>
   have b:x<0:=by simpa using a
   have:¬v<0:=by omega
   simp[KL,AAV,b,this]
  | succ n =>
   have h1:=c (n:=n) (by simpa using hn) (by simpa using a);simp only[KL,ABL,AAV]at h1 ⊢;omega
theorem aU {f:List AK} {s:List Int×List Int} {n:Int} (h:Qg f s) (d:0≤n) (hn:n<f.length) (b:s.1.getD n.toNat 0<0) :
  Qg f (s.1.set n.toNat (s.2.length:Int),s.2++[n])∧KL (s.1.set n.toNat (s.2.length:Int))+1=KL s.1:=by
 obtain⟨h1,c⟩:=h;have a:=r8 (l:=s.1) (n:=n.toNat) (v:=(s.2.length:Int)) (by omega) b (by omega);refine⟨⟨by simpa using h1,?_⟩,a⟩;simp only[On,oS];omega
theorem l5 (s:List (Int×Int)) (x:Int×Int):(Mg s x).Perm (x :: s):=by
 unfold Mg;refine(List.perm_append_comm.append_right _).trans ?_;simp
theorem KC:∀(l s:List (Int×Int)),(l.foldl Mg s).Perm (l++s)
 | [],s=>List.Perm.refl _
 | x :: l,s=>by
  refine(KC l (Mg s x)).trans ?_;refine(List.Perm.append_left l (l5 s x)).trans ?_;exact ACt
theorem EK (l:List (Int×Int)):(AX l).Perm l:=by
 have:=KC l [];simpa[AX] using this
theorem K2 {f:List AK} (hf:EE f) (n:Int):List.length (f.getD n.toNat (0,[])).2≤100000:=by
 by_cases h:n.toNat<f.length
 ·have a:f.getD n.toNat (0,[])∈f:=by
   rw[AS,AT h];exact AAf h
  exact(hf.2 _ a).1
 ·rw[AS,iS (by omega)];simp
theorem Q4 {f:List AK} (hf:EE f) {n:Int} {a:Int×Int} (ha:a∈AX (f.getD n.toNat (0,[])).2):0≤a.2∧a.2<f.length:=by
 have ha:=(EK _).mem_iff.1 ha;by_cases h:n.toNat<f.length
 ·have b:f.getD n.toNat (0,[])∈f:=by
   rw[AS,AT h];exact AAf h
  exact(hf.2 _ b).2 a ha
 ·rw[AS,iS (by omega)]at ha;simp at ha
def Dw (f:List AK) (k:Nat) (s:List Int×List Int) (a:Int×Int):List Int×List Int:=if s.1.getD a.2.toNat 0<0 then DY f k s a.2 else s
theorem E0 (f:List AK) (k:Nat) (s:List Int×List Int) (n:Int):DY f (k+1) s n=(AX (f.getD n.toNat (0,[])).2).foldl (Dw f k) (s.1.set n.toNat (s.2.length:Int),s.2++[n]):=rfl
theorem Q5 {f:List AK} {k:Nat} (i:∀(s:List Int×List Int) (n:Int),Qg f s→0≤n→n<f.length→s.1.getD n.toNat 0<0→Qg f (DY f k s n)∧KL (DY f k s n).1≤KL s.1) :
  ∀(l:List (Int×Int)) (t:List Int×List Int),(∀a∈l,0≤a.2∧a.2<(f.length:Int))→Qg f t→Qg f (l.foldl (Dw f k) t)∧KL (l.foldl (Dw f k) t).1≤KL t.1
 | [],t,_,d=>⟨d,If _⟩
 | a :: l,t,c,d=>by
  simp only[TO];by_cases h:t.1.getD a.2.toNat 0<0
  ·obtain⟨j,m⟩:=i t a.2 d (c a (by simp)).1 (c a (by simp)).2 h;have e:Dw f k t a=DY f k t a.2:=BY h;rw[e];obtain⟨o,p⟩:=Q5 i l _ (fun b g=>c b (by simp[g])) j;exact⟨o,f4 p m⟩
  ·have e:Dw f k t a=t:=At h;rw[e];exact Q5 i l t (fun b g=>c b (by simp[g])) d
theorem PK {f:List AK} (hf:EE f):∀(k:Nat) (s:List Int×List Int) (n:Int),Qg f s→0≤n→n<f.length→s.1.getD n.toNat 0<0→Qg f (DY f k s n)∧KL (DY f k s n).1≤KL s.1
 | 0,s,n,h,_,_,_=>⟨h,If _⟩
 | k+1,s,n,h,h0,h1,d=>by
  obtain⟨e,g⟩:=aU h h0 h1 d;obtain⟨b,c⟩:=Q5 (PK hf k) _ _ (fun a ha=>Q4 hf ha) e;rw[E0];exact⟨b,by simp only at c g;omega⟩
theorem PM {α β:Type} (g:β→α→β) (l:List α) (d:α) (t:β) {i:Nat} (hi:i<l.length):(l.take (i+1)).foldl g t=g ((l.take i).foldl g t) (l.getD i d):=by
 rw[Ae l d hi,ABq];rfl
def KD (f:List AK) (s:List Int×List Int):List (Nat×Obj):=[(1,.box 123 true [.p Fs f,.sr 2 T3 0 s.1.length,.sr 3 T3 0 s.2.length]),(2,.arr 3 T3 s.1),(3,.arr 3 T3 s.2)]
theorem r9 (f:List AK) (hf:EE f):∀(k:Nat) (s:List Int×List Int) (n:Int),Qg f s→0≤n→n<f.length→s.1.getD n.toNat 0<0→KL s.1≤k →
  BE Tryz.prog 78 [.bp 1 [] 0,.p T3 n] (KD f s) [1] (fun res M=>res=.raw (.tuple #[])∧M=KD f (DY f k s n)):=by
 intro k;induction k with
 | zero =>
  intro s n h0 h1 u B N;obtain⟨_,O⟩:=aU h0 h1 u B;omega
 | succ k J =>
  intro s n A w m x hk;obtain⟨num,j⟩:=s;obtain⟨t,v⟩:=aU A w m x;obtain⟨G,H⟩:=A;simp only at G H x t v hk;refine KK [0,1,4,5,40,54] [] [] Tryz.func78 Tryz.ntmps78 (AD Uu AG) ?_;intro w0 K O0 ρ0 d Q R;simp only[KD,Ak];repeat'(first|exact trivial|refine eS rfl ?_|refine AB ?_|refine rX d ?_ ?_|refine rC ?_ ?_<;>intro b<;>try(cases b;done))
  ·exact eV
  ·have:=hf.1;simp only[AO];omega
  ·have I:=K2 hf n;exact⟨⟨w,m⟩,f4 I (by omega)⟩
  ·have l:=fun a (ha:a∈AX (f.getD n.toNat (0,[])).2)=>Q4 hf ha;have D:(AX (f.getD n.toNat (0,[])).2).length≤100000:=by rw[CQ];exact K2 hf n
   generalize C:AX (f.getD n.toNat (0,[])).2=L at l D;generalize o:(num.set n.toNat (j.length:Int),j++[n])=s1 at t;have F:∀i,Qg f ((L.take i).foldl (Dw f k) s1)∧KL ((L.take i).foldl (Dw f k) s1).1≤KL s1.1:=fun i=>Q5 (PK hf k) _ _ (fun a ha=>l a (AA8 ha)) t;have m:num.set n.toNat (j.length:Int)=s1.1:=by rw[←o]
   have P:j++[n]=s1.2:=by rw[←o]
   rw[m]at v;refine AH (ι:={i:Nat//i≤L.length}) (fun i=>⟨[(0,.bp 1 [] 0),(1,.p T3 n),(4,.p IT L),(5,.p (.int .i64) (i.1:Int))],KD f ((L.take i.1).foldl (Dw f k) s1)⟩) (fun i=>L.length-i.1) ⟨0,by omega⟩ (A1r [36] (AC [(1,.nm 1),(2,.nm 2),(3,.nm 3)] rfl rfl ?_ ?_)) (fun i=>?_)
   ·simp only[KD];first|exact eN|refine eM ?_
    simp only[List.foldl_nil];rw[←o];simp
   ·first|exact eN|refine eM ?_
   ·obtain⟨i,hi⟩:=i;obtain⟨r,E⟩:=F i;have q:=fun(h:i<L.length)=>PM (Dw f k) L (0,0) s1 h;generalize z:(L.take i).foldl (Dw f k) s1=c at r E q;simp only[KD];repeat'(first|exact trivial|refine eS rfl ?_|refine AB ?_|refine rX d ?_ ?_|refine rC ?_ ?_<;>intro b<;>try(cases b;done))
    ·have g:i<L.length:=by exact eV
     have:=l _ (AE L (0,0) g);obtain⟨h1,u⟩:=r;refine⟨by exact eV,this.1,?_⟩;rw[h1];exact this.2
    ·have g:i<L.length:=by exact eV
     have y:=l _ (AE L (0,0) g);refine cP 6 d ?_ ?_
     ·exact eV
     ·refine rM d (J c (L.getD i (0,0)).2 r y.1 y.2 (by simpa using b) (by omega)) [(1,.nm 1),(2,.nm 2),(3,.nm 3)] [2,3] ?_ ?_ ?_
      ·first|exact eN|refine eM ?_
      ·simp only[KD];first|exact eN|refine eM ?_
      ·rintro _ _ ⟨rfl,rfl⟩;refine⟨[(1,.nm 1),(2,.nm 2),(3,.nm 3)],.raw (.tuple #[]),KD f (DY f k c (L.getD i (0,0)).2),rfl,rfl,?_,?_,rfl,rfl,Ca ?_⟩
       ·simp only[KD];first|exact eN|refine eM ?_
       ·first|exact eN|refine eM ?_
       ·repeat'(first|exact trivial|refine eS rfl ?_|refine AB ?_|refine rX d ?_ ?_|refine rC ?_ ?_<;>intro b<;>try(cases b;done))
        ·exact eV
        ·have e:Dw f k c (L.getD i (0,0))=DY f k c (L.getD i (0,0)).2:=BY (by simpa using b);refine⟨⟨i+1,by omega⟩,by simp only;omega,AC [(1,.nm 1),(2,.nm 2),(3,.nm 3)] rfl rfl ?_ ?_⟩
         ·simp only[KD,q g,e];first|exact eN|refine eM ?_
         ·first|exact eN|refine eM ?_
    ·exact eV
    ·have g:i<L.length:=by exact eV
     have e:Dw f k c (L.getD i (0,0))=c:=At (by simpa using b);refine⟨⟨i+1,by omega⟩,by simp only;omega,AC [(1,.nm 1),(2,.nm 2),(3,.nm 3)] rfl rfl ?_ ?_⟩
     ·simp only[q g,e];first|exact eN|refine eM ?_
     ·first|exact eN|refine eM ?_
    ·have hk:L.take i=L:=As (by exact eV);rw[hk]at z;have h1:DY f (k+1) (num,j) n=c:=by rw[E0,C,←z,←o]
     rw[h1];exact fM d [] (.raw (.tuple #[])) rfl ⟨rfl,rfl⟩
end
section
attribute [local go_sem] Nq
def YP (f:List AK) (s:List Int×List Int):Prop:=∀n∈s.2,0≤n∧n<(f.length:Int)
theorem SZ {f:List AK} (hf:EE f):∀(k:Nat) (s:List Int×List Int) (n:Int),YP f s→0≤n→n<f.length→YP f (DY f k s n)
 | 0,s,n,h,_,_=>h
 | k+1,s,n,h,h0,h1=>by
  rw[E0];have key:∀(l:List (Int×Int)) (t:List Int×List Int),(∀a∈l,0≤a.2∧a.2<(f.length:Int))→YP f t→YP f (l.foldl (Dw f k) t):=by
   intro l;induction l with
   | nil=>intro t _ d;exact d
   | cons a l i =>
    intro t e d;simp only[TO];refine i _ (fun b g=>e b (by simp[g])) ?_;unfold Dw;split
    ·exact SZ hf k t a.2 d (e a (by simp)).1 (e a (by simp)).2
    ·exact d
  refine key _ _ (fun a ha=>Q4 hf ha) ?_;intro m c;simp only[ON,AAs]at c;rcases c with c|rfl
  ·exact h m c
  ·exact⟨h0,h1⟩
def K1 (f:List AK) (root:Int):List Int×List Int:=DY f f.length (List.replicate f.length (-1),[]) root
def Ti (num:List Int) (a:Int×Int):Int×Int:=(a.1,num.getD a.2.toNat 0)
def K3 (f:List AK) (num:List Int) (n:Int):AK:=((f.getD n.toNat (0,[])).1,(AX (f.getD n.toNat (0,[])).2).map (Ti num))
def I4 (f:List AK) (root:Int):List AK:=(K1 f root).2.map (K3 f (K1 f root).1)
theorem YQ (m:Nat):KL (List.replicate m (-1))=m:=by
 induction m with
 | zero=>rfl
 | succ m a=>simp only[KL,List.replicate_succ,AAV]at a ⊢;simp[a]
theorem tr0 (f:List AK):Qg f (List.replicate f.length (-1),[]):=⟨by simp,by simp[YQ]⟩
theorem iX {f:List AK} {n:Int} (h0:0≤n) (h1:n<f.length):(List.replicate f.length (-1:Int)).getD n.toNat 0<0:=by
 have:n.toNat<f.length:=by omega
 simp[AS,AAT,this]
theorem iY {f:List AK} (hf:EE f) {n:Int} (h0:0≤n) (h1:n<f.length):Qg f (K1 f n)∧YP f (K1 f n) :=
 ⟨(PK hf _ _ n (tr0 f) h0 h1 (iX h0 h1)).1,SZ hf _ _ n (fun m a=>by simp at a) h0 h1⟩
theorem Sa {α b:Type} (g:α→b) (h:b→α) (L:List α) (d:α) {k:Nat} (hk:k<L.length) (u:α→α):((L.take k).map u++L.drop k).set k (u (L.getD k d))=(L.take (k+1)).map u++L.drop (k+1)∧((L.take k).map u++L.drop k).getD k d=L.getD k d:=by
 have h1:((L.take k).map u).length=k:=by simp;omega
 have a:L.drop k=L.getD k d :: L.drop (k+1):=by
  rw[OS hk,AS,AT hk];rfl
 constructor
 ·rw[Ae L d hk,ABW _ _ (by omega),h1,AB6,a];simp
 ·rw[AS,AA5 (by omega),h1,AB6,a];rfl
def iZ:Ad:={ ins:=[Fs,T3],pre:=fun(f,n,_)=>EE f∧0≤n∧n<(List.length f:Int),out:=fun(f,n,_)=>[.p Fs (I4 f n)] }
theorem yL:Aj Tryz.prog 54 iZ:=by
 refine fK [0,1,2,4,5,6,7,8,9,10,11,19,40,60] Tryz.func54 Tryz.ntmps54 (AD Uu AG) ?_;rintro w0 O0 ⟨f,root,u⟩ g-⟨hf,l,m⟩;simp only[iZ,AL];have G:=hf.1;repeat'(first|exact trivial|refine eS rfl ?_|refine AB ?_|refine rX g ?_ ?_|refine rC ?_ ?_<;>intro d<;>try(cases d;done))
 refine AH (ι:={i:Nat//i≤f.length}) (fun i=>⟨[(1,.p T3 root),(2,.bp 2 [] 0),(4,.bp 4 [] 0),(5,.bp 14 [] 0),(6,.p (.int .i64) (i.1:Int))],[(2,.box 25 true [.p Fq f]),(4,.box 25 true [.raw (.slice none 0 0)]),(14,.box 123 true [.p Fs f,.sr 10 T3 0 i.1,.raw (.slice none 0 0)]),(10,.arr 3 T3 (List.replicate i.1 (-1)))]⟩) (fun i=>f.length-i.1) ⟨0,by omega⟩ (AC [(2,.nm 2),(4,.nm 4),(14,.nm 14),(10,.nil)] rfl rfl ?_ ?_) (fun i=>?_)
 ·first|exact eN|refine eM ?_
  rfl
 ·first|exact eN|refine eM ?_
 ·obtain⟨i,hi⟩:=i;repeat'(first|exact trivial|refine eS rfl ?_|refine AB ?_|refine rX g ?_ ?_|refine rC ?_ ?_<;>intro d<;>try(cases d;done))
  ·simp only[AO];omega
  ·exact eV
  ·have hi:i<List.length f:=by exact eV
   refine⟨⟨i+1,by omega⟩,by simp only;omega,AC [(2,.nm 2),(4,.nm 4),(14,.nm 14),(10,.nm 10)] rfl rfl ?_ ?_⟩
   ·first|exact eN|refine eM ?_
    rw[List.replicate_succ'];simp
   ·first|exact eN|refine eM ?_
  ·have A:i=List.length f:=by exact eV
   subst A;have w:=iY hf l m;refine cP 2 g ?_ ?_
   ·trivial
   ·refine rM g (r9 f hf (List.length f) (List.replicate (List.length f) (-1),[]) root (tr0 f) l m (iX l m) (by rw[YQ];exact If _)) [(1,.nm 14),(2,.nm 10),(3,.nil)] [10] ?_ ?_ ?_
    ·first|exact eN|refine eM ?_
    ·simp only[KD];first|exact eN|refine eM ?_
     simp
    ·rintro _ _ ⟨rfl,rfl⟩;refine⟨[(14,.nm 1),(101,.nm 2),(102,.nm 3)],.raw (.tuple #[]),[(14,.box 123 true [.p Fs f,.sr 101 T3 0 (K1 f root).1.length,.sr 102 T3 0 (K1 f root).2.length]),(101,.arr 3 T3 (K1 f root).1),(102,.arr 3 T3 (K1 f root).2)],rfl,rfl,?_,?_,rfl,rfl,Ca ?_⟩
     ·simp only[KD,K1];first|exact eN|refine eM ?_
     ·first|exact eN|refine eM ?_
     ·have z:I4 f root=(K1 f root).2.map (K3 f (K1 f root).1):=rfl;rw[z];generalize K1 f root=s at w;obtain⟨num,c⟩:=s;obtain⟨⟨r,t⟩,j⟩:=w;simp only at r t;have j:∀n∈c,0≤n∧n<(List.length f:Int):=j;repeat'(first|exact trivial|refine eS rfl ?_|refine AB ?_|refine rX g ?_ ?_|refine rC ?_ ?_<;>intro d<;>try(cases d;done))
      refine AH (ι:={i:Nat//i≤c.length}) (fun i=>⟨[(2,.bp 2 [] 0),(4,.bp 4 [] 0),(5,.bp 14 [] 0),(7,.bp 7 [] 0),(8,.p (.int .i64) (i.1:Int))],[(2,.box 25 true [.p Fq f]),(4,.box 25 true [.raw (.slice none 0 0)]),(14,.box 123 true [.p Fs f,.sr 101 T3 0 num.length,.sr 102 T3 0 c.length]),(101,.arr 3 T3 num),(102,.arr 3 T3 c),(7,.box 25 true [.sr 200 Lr 0 i.1]),(200,.arr 49 Lr ((c.take i.1).map (K3 f num)))]⟩) (fun i=>c.length-i.1) ⟨0,by omega⟩ (AC [(2,.nm 2),(4,.nm 4),(14,.nm 14),(101,.nm 101),(102,.nm 102),(7,.nm 7),(200,.nil)] rfl rfl ?_ ?_) (fun i=>?_)
      ·first|exact eN|refine eM ?_
      ·first|exact eN|refine eM ?_
      ·obtain⟨i,hi⟩:=i;repeat'(first|exact trivial|refine eS rfl ?_|refine AB ?_|refine rX g ?_ ?_|refine rC ?_ ?_<;>intro d<;>try(cases d;done))
       ·have hi:i<c.length:=by exact eV
        exact⟨by exact eV,j _ (AE c 0 hi)⟩
       ·exact f4 (K2 hf _) (by omega)
       ·have hi:i<c.length:=by exact eV
        have q:=fun a (ha:a∈AX (f.getD (Int.toNat (c.getD i 0)) (0,[])).2)=>Q4 hf ha;have v:K3 f num (c.getD i 0)=((f.getD (Int.toNat (c.getD i 0)) (0,[])).1,(AX (f.getD (Int.toNat (c.getD i 0)) (0,[])).2).map (Ti num)):=rfl;have B:=K2 hf (c.getD i 0);generalize List.getD f (Int.toNat (c.getD i 0)) (0,[])=x at *;obtain⟨E,o⟩:=x;simp only at q v B;have F:=CQ o;generalize AX o=L at *;refine AH (ι:={k:Nat//k≤L.length}) (fun k=>⟨[(2,.bp 2 [] 0),(4,.bp 4 [] 0),(5,.bp 14 [] 0),(7,.bp 7 [] 0),(8,.p (.int .i64) (i:Int)),(9,.bp 9 [] 0),(10,.sr 56 BD 0 L.length),(11,.p (.int .i64) (k.1:Int))],[(56,.arr 53 BD ((L.take k.1).map (Ti num)++L.drop k.1)),(9,.box 49 true [.p T3 E,.p IT o]),(2,.box 25 true [.p Fq f]),(4,.box 25 true [.raw (.slice none 0 0)]),(14,.box 123 true [.p Fs f,.sr 101 T3 0 num.length,.sr 102 T3 0 c.length]),(101,.arr 3 T3 num),(102,.arr 3 T3 c),(7,.box 25 true [.sr 200 Lr 0 i]),(200,.arr 49 Lr ((c.take i).map (K3 f num)))]⟩) (fun k=>L.length-k.1) ⟨0,by omega⟩ (AC [(2,.nm 2),(4,.nm 4),(14,.nm 14),(101,.nm 101),(102,.nm 102),(7,.nm 7),(200,.nm 200),(9,.nm 9),(56,.nm 56)] rfl rfl ?_ ?_) (fun k=>?_)
        ·first|exact eN|refine eM ?_
        ·first|exact eN|refine eM ?_
        ·obtain⟨k,hk⟩:=k;repeat'(first|exact trivial|refine eS rfl ?_|refine AB ?_|refine rX g ?_ ?_|refine rC ?_ ?_<;>intro d<;>try(cases d;done))
         ·have h:k<L.length:=by exact eV
          have e:=(Sa (Ti num) (fun b=>b) L (0,0) h (Ti num)).2;rw[e];have:=q _ (AE L (0,0) h);rw[r];exact⟨by exact eV,this,by exact eV⟩
         ·exact eV
         ·have h:k<L.length:=by exact eV
          have e:=Sa (Ti num) (fun b=>b) L (0,0) h (Ti num);refine⟨⟨k+1,by omega⟩,by simp only;omega,AC [(2,.nm 2),(4,.nm 4),(14,.nm 14),(101,.nm 101),(102,.nm 102),(7,.nm 7),(200,.nm 200),(9,.nm 9),(56,.nm 56)] rfl rfl ?_ ?_⟩
          ·first|exact eN|refine eM ?_
           rw[e.2];exact e.1
          ·first|exact eN|refine eM ?_
         ·simp only[AO];have:=t;omega
         ·exact eV
         ·have h:L.take k=L:=As (by exact eV);have y:L.drop k=[]:=IF (by exact eV);refine⟨⟨i+1,by omega⟩,by simp only;omega,AC [(2,.nm 2),(4,.nm 4),(14,.nm 14),(101,.nm 101),(102,.nm 102),(7,.nm 7),(200,.nm 200)] rfl rfl ?_ ?_⟩
          ·first|exact eN|refine eM ?_
           rw[h,y,AAl,Ae c 0 hi,AAM,tO,ACz,v];have C:List.take i ((c.take i).map (K3 f num))=(c.take i).map (K3 f num):=As (by rw[AA3,OR];omega);have D:List.take L.length (L.map (Ti num))=L.map (Ti num):=As (by rw[AA3];omega);rw[C,D]
          ·first|exact eN|refine eM ?_
       ·have hk:c.take i=c:=As (by exact eV);rw[hk];refine fI g [.cell 4 25] (by first|exact eR|refine lE ?_;exact As (by rw[AA3];exact eV))
end
section
attribute [local go_sem] rW iZ
theorem Sb {n:Int}:∀ {l seen:List (Int×Int)},F8 n seen l=0→∀a∈l,0≤a.1∧0≤a.2∧a.2<n
 | [],_,_,a,ha=>by cases ha
 | x :: l,seen,h,a,ha=>by
  simp only[F8]at h;split at h
  ·cases h
  ·split at h
   ·cases h
   ·rename_i h1 _;rcases Do.1 ha with rfl|ha
    ·omega
    ·exact Sb h a ha
theorem HR {m:Int}:∀ {f:List (Int×List (Int×Int))},F9 m f=0→∀x∈f,0≤x.1∧∀a∈x.2,0≤a.1∧0≤a.2∧a.2<m
 | [],_,x,c=>by cases c
 | y :: f,h,x,c=>by
  simp only[F9]at h;split at h
  ·cases h
  ·split at h
   ·rename_i h1 b;exact absurd h b
   ·rename_i h1 b;have b:HO y.2 m=0:=By b;rcases Do.1 c with rfl|c
    ·exact⟨by omega,Sb b⟩
    ·exact HR h x c
def Sc (f:List (Int×List (Int×Int))):Prop:=∀x∈f,x.2.length≤100000
theorem HS {f:List (Int×List (Int×Int))} (h:Bz f=0) (hs:Sc f):EE f∧0<f.length:=by
 unfold Bz at h;split at h
 ·cases h
 ·split at h
  ·cases h
  ·refine⟨⟨by omega,fun x b=>⟨hs x b,fun a ha=>?_⟩⟩,by omega⟩;have:=(HR h x b).2 a ha;exact⟨this.2.1,this.2.2⟩
def A0 (f:List AK):List AK×Int:=if Bz f=0 then (I4 f 0,0) else ([],Bz f)
def WU:Ad:={ ins:=[Fs],pre:=fun(f,_)=>Sc f,out:=fun(f,_)=>[.p Fs (A0 f).1,.p TU (A0 f).2] }
theorem sA:Aj Tryz.prog 70 WU:=by
 refine fK [0,1,2,3,4,8] Tryz.func70 Tryz.ntmps70 (AD yK (AD yL AG)) ?_;rintro w0 O0 ⟨f,u⟩ b-hs;simp only[WU,AL];repeat'(first|exact trivial|refine eS rfl ?_|refine AB ?_|refine rX b ?_ ?_|refine rC ?_ ?_<;>intro a<;>try(cases a;done))
 ·have h:¬Bz f=0:=by simpa using a
  have e:A0 f=([],Bz f):=At h;exact fI b [.cell 2 25,.tmp 3] (by rw[e];exact eR)
 ·have h:Bz f=0:=by simpa using a
  have:=HS h hs;exact⟨this.1,by exact eV⟩
 ·have h:Bz f=0:=by simpa using a
  have e:A0 f=(I4 f 0,0):=BY h;exact fI b [.cell 2 25,.tmp 3] (by rw[e];exact eR)
end
def i3:Ad:={ ins:=[T3],pre:=fun _=>True,out:=fun(t,_)=>[.p Fs [(t,[])]] }
theorem yM:Aj Tryz.prog 35 i3:=by
 refine fK [0,2] Tryz.func35 Tryz.ntmps35 AG ?_;rintro w0 O0 ⟨t,u⟩ a - -;simp only[i3,AL];repeat'(first|exact trivial|refine eS rfl ?_|refine AB ?_|refine rX a ?_ ?_|refine rC ?_ ?_<;>intro b<;>try(cases b;done))
 exact fI a [.cell 2 25]
section
attribute [local go_sem] SS WU Mf
def ftB (a:Int×Int):Bool:=decide (a.1<64)
def ndB (x:AK):Bool:=decide (x.1<256)&&x.2.all ftB
def HT (f:List AK):Bool:=GL f&&f.all ndB&&((A0 f).2==0&&(CW (A0 f).1 f==0))
theorem K4 {f:List AK} (h:GL f=true):f.length≤12∧∀x∈f,x.2.length≤12:=by
 unfold GL at h;simp only[An,GO,DO]at h;exact h
theorem aV {f:List AK} (hf:EE f) {n:Int} (h0:0≤n) (h1:n<f.length):Cl (I4 f n):=by
 obtain⟨⟨b,c⟩,_⟩:=iY hf h0 h1;have d:=hf.1;refine⟨?_,fun x a=>?_⟩
 ·unfold I4;rw[AA3];omega
 ·obtain⟨m,_,rfl⟩:=Of.1 a;unfold K3;simp only[AA3,CQ];exact K2 hf m
theorem QJ {f:List AK} (hs:Sc f):Cl (A0 f).1:=by
 unfold A0;split
 ·rename_i h;obtain⟨h1,b⟩:=HS h hs;exact aV h1 (by omega) (by omega)
 ·exact⟨by simp,fun x a=>by cases a⟩
end
section
attribute [local go_sem] WU Mf
def i4 (h:AN) (a:Int×Int):Bool:=decide (a.1<(h.2.length:Int))
def Q6 (h:AN) (x:AK):Bool:=decide (x.1<(h.1.length:Int))&&x.2.all (i4 h)
def CO (h:AN) (f:List AK):Int:=if (A0 f).2≠0 then (A0 f).2 else if f.all (Q6 h)=false then 2 else if (CW f (A0 f).1==0)=false then 3 else 0
def Nr:Ad:={ ins:=[Ls,Fs],pre:=fun(_,f,_)=>Cl f,out:=fun(h,f,_)=>[.p TU (CO h f)] }
theorem l7:Aj Tryz.prog 40 Nr:=by
 refine fK [0,1,2,3,4,5,6,7,8,9,16,22,35,40,52,56] Tryz.func40 Tryz.ntmps40 (AD sA (AD SY AG)) ?_;rintro w0 O0 ⟨⟨b,hf⟩,f,u⟩ d-hs;have hs:Cl f:=hs;simp only[Nr,AL];repeat'(first|exact trivial|refine eS rfl ?_|refine AB ?_|refine rX d ?_ ?_|refine rC ?_ ?_<;>intro a<;>try(cases a;done))
 ·exact hs.2
 ·have h1:CO (b,hf) f=(A0 f).2:=by unfold CO;rw[BY a]
  exact fI d [.tmp 4] (by rw[h1];exact eR)
 ·have t:(A0 f).2=0:=by simpa using a
  have q:=QJ hs.2;have w:=hs.1;have g:CO (b,hf) f=if f.all (Q6 (b,hf))=false then 2 else if (CW f (A0 f).1==0)=false then 3 else 0:=by unfold CO;rw[At (by rw[t];simp)]
  refine AH (ι:={i:Nat//i≤f.length∧(f.take i).all (Q6 (b,hf))=true}) (fun i=>⟨[(2,.bp 2 [] 0),(3,.bp 3 [] 0),(5,.bp 5 [] 0),(7,.p (.int .i64) (i.1:Int))],[(2,.box 31 true [.p Qy b,.p TV hf]),(3,.box 25 true [.p Fq f]),(5,.box 25 true [.p Fq (A0 f).1])]⟩) (fun i=>f.length-i.1) ⟨0,by simp⟩ (AC [(2,.nm 2),(3,.nm 3),(5,.nm 5)] rfl rfl ?_ ?_) (fun i=>?_)
  ·first|exact eN|refine eM ?_
  ·first|exact eN|refine eM ?_
  ·obtain⟨i,hi,l⟩:=i;have r:=fun h:i<f.length=>Fb f (0,[]) (Q6 (b,hf)) h;simp only;repeat'(first|exact trivial|refine eS rfl ?_|refine AB ?_|refine rX d ?_ ?_|refine rC ?_ ?_<;>intro a<;>try(cases a;done))
   ·exact a
   ·have c:i<f.length:=OM.1 (by assumption);have e:f.all (Q6 (b,hf))=false:=by
     rw[AAG];refine⟨_,AE f (0,[]) c,?_⟩;unfold Q6;rw[ABy (AAR.2 a)];simp
    rw[BY e]at g;exact fI d [.tmp 4] (by rw[g];exact eR)
   ·have c:i<f.length:=OM.1 (by assumption);have n:=AE f (0,[]) c;have o:Q6 (b,hf) (f.getD i (0,[]))=(f.getD i (0,[])).2.all (i4 (b,hf)):=by
     unfold Q6;rw[ABj (show (f.getD i (0,[])).1<(b.length:Int) from a)];rfl
    have v:(f.getD i (0,[])).2.length≤100000:=hs.2 _ n;refine AH (ι:={k:Nat//k≤(f.getD i (0,[])).2.length∧((f.getD i (0,[])).2.take k).all (i4 (b,hf))=true}) (fun k=>⟨[(2,.bp 2 [] 0),(3,.bp 3 [] 0),(5,.bp 5 [] 0),(7,.p (.int .i64) (i:Int)),(8,.bp 8 [] 0),(9,.p (.int .i64) (k.1:Int))],[(2,.box 31 true [.p Qy b,.p TV hf]),(3,.box 25 true [.p Fq f]),(5,.box 25 true [.p Fq (A0 f).1]),(8,.box 49 true [.p T3 (f.getD i (0,[])).1,.p IT (f.getD i (0,[])).2])]⟩) (fun k=>(f.getD i (0,[])).2.length-k.1) ⟨0,by simp⟩ (AC [(2,.nm 2),(3,.nm 3),(5,.nm 5),(8,.nm 8)] rfl rfl ?_ ?_) (fun k=>?_)
    ·first|exact eN|refine eM ?_
    ·first|exact eN|refine eM ?_
    ·obtain⟨k,hk,m⟩:=k;have s:=fun h:k<(f.getD i (0,[])).2.length=>Fb (f.getD i (0,[])).2 (0,0) (i4 (b,hf)) h;simp only;repeat'(first|exact trivial|refine eS rfl ?_|refine AB ?_|refine rX d ?_ ?_|refine rC ?_ ?_<;>intro a<;>try(cases a;done))
     ·exact a
     ·have j:k<(f.getD i (0,[])).2.length:=OM.1 (by assumption);have e:f.all (Q6 (b,hf))=false:=by
       rw[AAG];refine⟨_,n,?_⟩;rw[o,AAG.2 ⟨_,AE (f.getD i (0,[])).2 (0,0) j,by unfold i4;rw[ABy (AAR.2 a)];simp⟩];simp
      rw[BY e]at g;exact fI d [.tmp 4] (by rw[g];exact eR)
     ·exact eV
     ·have j:k<(f.getD i (0,[])).2.length:=OM.1 (by assumption);refine⟨⟨k+1,j,?_⟩,by simp only;omega,AC [(2,.nm 2),(3,.nm 3),(5,.nm 5),(8,.nm 8)] rfl rfl ?_ ?_⟩
      ·rw[s j,m];unfold i4;exact ABj a
      ·first|exact eN|refine eM ?_
      ·first|exact eN|refine eM ?_
     ·exact eV
     ·have j:(f.getD i (0,[])).2.take k=(f.getD i (0,[])).2:=As (iF.1 a);rw[j]at m;refine⟨⟨i+1,c,?_⟩,by simp only;omega,AC [(2,.nm 2),(3,.nm 3),(5,.nm 5)] rfl rfl ?_ ?_⟩
      ·rw[r c,l,o,m];rfl
      ·first|exact eN|refine eM ?_
      ·first|exact eN|refine eM ?_
   ·exact⟨hs,q⟩
   ·have c:f.take i=f:=As (iF.1 (by assumption));rw[c]at l;rw[At (by rw[l];simp),BY (by simpa using a)]at g;exact fI d [.tmp 4] (by rw[g];exact eR)
   ·have c:f.take i=f:=As (iF.1 (by assumption));rw[c]at l;rw[At (by rw[l];simp),At (by rw[a];simp)]at g;exact fI d [.tmp 4] (by rw[g];exact eR)
def K5 (h:AN) (f:List AK):Bool:=GL f&&CO h f==0
end
section
attribute [local go_sem] Nn Nm SS Nr
def CC (d:List AF):AN:=if d.length≤12∧(Ar d).2=0 then (Ar d).1 else (Ar I2).1
def YR (h:AN) (l:List (List AK)):Bool:=l.all (K5 h)
end
section
def aW:Ad:={ ins:=[Dh,T3],pre:=fun(_,i,_)=>(0:Int)≤i,out:=fun(b,i,_)=>[.p NN (FN b i)],lend:=true }
attribute [local go_sem] aW
theorem sB:Aj Tryz.prog 107 aW:=by
 refine fK [0,1,4,8] Tryz.func107 Tryz.ntmps107 AG ?_;rintro w0 O0 ⟨b,i,u⟩ c-hi;simp only[aW,AL];repeat'(first|exact trivial|refine eS rfl ?_|refine AB ?_|refine rX c ?_ ?_|refine rC ?_ ?_<;>intro a<;>try(cases a;done))
 ·exact⟨hi,a⟩
 ·have h1:FN b i=b.getD i.toNat 0:=by unfold FN;rw[BY a]
  exact fI c [.tmp 4] (by rw[h1];exact eR)
 ·have h1:FN b i=0:=by unfold FN;rw[At (AAR.2 a)]
  exact fI c [.tmp 4] (by rw[h1];exact eR)
def Ns (a b:List Int):Bool:=(List.range a.length).all fun i=>Bu .andNot .u64 (a.getD i 0) (FN b (i:Int))==0
def YS (a b:List Int) (n:Nat):Bool:=(List.range n).all fun i=>Bu .andNot .u64 (a.getD i 0) (FN b (i:Int))==0
theorem aX (a b:List Int) (n:Nat):YS a b (n+1)=(YS a b n&&Bu .andNot .u64 (a.getD n 0) (FN b (n:Int))==0):=by
 unfold YS;rw[AAb,ABr];simp
def Nt:Ad:={ ins:=[Dh,Dh],pre:=fun _=>True,out:=fun(a,b,_)=>[.p .bool (Ns a b)],lend:=true }
attribute [local go_sem] Nt
theorem Sd:Aj Tryz.prog 69 Nt:=by
 refine fK [0,1,4,5,6,7,8,9,10,19] Tryz.func69 Tryz.ntmps69 (AD sB AG) ?_;rintro w0 O0 ⟨a,b,u⟩ e ⟨⟨g,-⟩,-⟩ -;simp only[AO]at g;simp only[Nt,AL];repeat'(first|exact trivial|refine eS rfl ?_|refine AB ?_|refine rX e ?_ ?_|refine rC ?_ ?_<;>intro c<;>try(cases c;done))
 have h:Ns a b=YS a b a.length:=rfl;refine AH (ι:={n:Nat//n≤a.length∧YS a b n=true}) (fun n=>⟨[(1,.p Dh b),(7,.p Dh a),(8,.p (.int .i64) (a.length:Int)),(9,.p (.int .i64) (n.1:Int))],[]⟩) (fun n=>a.length-n.1) ⟨0,IS _,rfl⟩ (AC [] rfl rfl ?_ ?_) (fun n=>?_)
 ·first|exact eN|refine eM ?_
 ·first|exact eN|refine eM ?_
 ·obtain⟨n,hn,f⟩:=n;have hs:=aX a b n;simp only;repeat'(first|exact trivial|refine eS rfl ?_|refine AB ?_|refine rX e ?_ ?_|refine rC ?_ ?_<;>intro c<;>try(cases c;done))
  ·exact c
  ·have d:n<a.length:=by exact eV
   have h1:Ns a b=false:=by
    unfold Ns;rw[AAG];exact⟨n,oN.2 d,by simpa using c⟩
   exact fI e [.tmp 4] (by rw[h1];exact eR)
  ·exact eV
  ·have d:n<a.length:=by exact eV
   refine⟨⟨n+1,d,?_⟩,by simp only;omega,AC [] rfl rfl ?_ ?_⟩
   ·rw[hs,f];simpa using c
   ·first|exact eN|refine eM ?_
   ·first|exact eN|refine eM ?_
  ·have d:n=a.length:=by exact eV
   subst d;exact fI e [.tmp 4] (by rw[h,f];exact eR)
abbrev PN:HN:=(ByteArray.empty,[],[],[])
def BK (h:AN) (a b:Int):Bool:=Ns (h.1.getD b.toNat PN).2.1 (h.1.getD a.toNat PN).2.1
def Uv:Ad:={ ins:=[Ls,T3,T3],pre:=fun(h,a,b,_)=>((0:Int)≤a∧a<(List.length (h:AN).1:Int))∧((0:Int)≤b∧b<(List.length (h:AN).1:Int)),out:=fun(h,a,b,_)=>[.p .bool (BK h a b)],lend:=true }
theorem yN:Aj Tryz.prog 39 Uv:=by
 refine fK [0,1,2,3,6] Tryz.func39 Tryz.ntmps39 (AD Sd AG) ?_;rintro w0 O0 ⟨⟨f,hf⟩,a,b,u⟩ c-⟨ha,e⟩;simp only[Uv,AL];repeat'(first|exact trivial|refine eS rfl ?_|refine AB ?_|refine rX c ?_ ?_|refine rC ?_ ?_<;>intro d<;>try(cases d;done))
 ·exact⟨e,ha⟩
 ·exact fI c [.tmp 6] (by unfold BK;exact eR)
end
section
attribute [local go_sem] Nt
def Se:Ad:={ ins:=[Dh],pre:=fun(b,_)=>List.length b≤100000,out:=fun(b,_)=>[.p Dh (BA b)] }
attribute [local go_sem] Se
theorem aY:Aj Tryz.prog 161 Se:=by
 refine fK [0,2,3,15] Tryz.func161 Tryz.ntmps161 AG ?_;rintro w0 O0 ⟨b,u⟩ d-f;have f:b.length≤100000:=f;simp only[Se,AL];repeat'(first|exact trivial|refine eS rfl ?_|refine AB ?_|refine rX d ?_ ?_|refine rC ?_ ?_<;>intro c<;>try(cases c;done))
 refine AH (ι:={n:Nat//n≤b.length∧CH b n=CH b b.length}) (fun n=>⟨[(0,.p Dh b),(3,.p (.int .i64) (n.1:Int))],[]⟩) (fun n=>n.1) ⟨b.length,If _,rfl⟩ (AC [] rfl rfl ?_ ?_) (fun n=>?_)
 ·first|exact eN|refine eM ?_
 ·first|exact eN|refine eM ?_
 ·obtain⟨n,hn,g⟩:=n;simp only;repeat'(first|exact trivial|refine eS rfl ?_|refine AB ?_|refine rX d ?_ ?_|refine rC ?_ ?_<;>intro c<;>try(cases c;done))
  ·constructor
   ·exact eV
   ·intro h;refine⟨?_,?_⟩<;>exact eV
  ·exact eV
  ·obtain⟨h1,a⟩:=c;obtain⟨m,rfl⟩:∃m,n=m+1:=⟨n-1,by omega⟩;have e:(((m+1:Nat):Int)-1)=(m:Int):=by omega
   rw[e]at a;have a:b.getD m 0=0:=a;have j:CH b m=CH b b.length:=by
    rw[←g];show _=if b.getD m 0=0 then CH b m else m+1
    rw[BY a]
   refine⟨⟨m,by omega,j⟩,by simp,AC [] rfl rfl ?_ ?_⟩
   ·first|exact eN|refine eM ?_
   ·simp only[e];first|exact eN|refine eM ?_
  ·exact iF.2 hn
  ·have i:CH b n=n:=by
    cases n with
    | zero=>rfl
    | succ m =>
     have e:(((m+1:Nat):Int)-1)=(m:Int):=by omega
     rw[e]at c;have a:=c (by omega);have a:¬b.getD m 0=0:=a;show (if b.getD m 0=0 then CH b m else m+1)=m+1;rw[At a]
   have h1:BA b=b.take n:=by unfold BA;rw[←g,i]
   rw[←h1];exact fI d [.tmp 2]
def GA (g:Nat→Int) (n i:Nat):List Int:=(List.range n).map fun j=>if j<i then g j else 0
theorem Uw (g:Nat→Int) (n i:Nat):(GA g n i).length=n:=by simp[GA]
theorem aZ (g:Nat→Int) (n:Nat):GA g n 0=List.replicate n 0:=by
 apply AAE
 ·simp[GA]
 ·intro j h1 a;simp[GA]
theorem l8 (g:Nat→Int) (n i:Nat):(GA g n i).set i (g i)=GA g n (i+1):=by
 apply AAE
 ·simp[GA]
 ·intro j h1 b;simp only[GA,List.getElem_set,ACu,ACe];split
  ·rename_i e;rw[BY (by omega),e]
  ·rename_i e;by_cases a:j<i
   ·rw[BY a,BY (by omega)]
   ·rw[At a,At (by omega)]
def WV (a b:List Int) (i:Nat):Int:=Bu .and .u64 (a.getD i 0) (b.getD i 0)
def FG (a b:List Int):List Int:=BA (GA (WV a b) (min a.length b.length) (min a.length b.length))
def sC:Ad:={ ins:=[Dh,Dh],pre:=fun(a,_,_)=>List.length a≤100000,out:=fun(a,b,_)=>[.p Dh (FG a b)] }
attribute [local go_sem] sC
theorem yO:Aj Tryz.prog 143 sC:=by
 refine fK [0,1,4,5,6,14,15,16] Tryz.func143 Tryz.ntmps143 (AD aY AG) ?_;rintro w0 O0 ⟨a,b,u⟩ d-ha;have ha:a.length≤100000:=ha;simp only[sC,AL];repeat'(first|exact trivial|refine eS rfl ?_|refine AB ?_|refine rX d ?_ ?_|refine rC ?_ ?_<;>intro c<;>try(cases c;done))
 ·split<;>simp only[AO]<;>dsimp only[Ty.den]at *<;>omega
 ·have h:Int.toNat (if ((List.length b:Nat):Int)<((List.length a:Nat):Int) then ((List.length b:Nat):Int) else ((List.length a:Nat):Int))=min (List.length a) (List.length b):=by split<;>omega
  rw[h];have j:FG a b=BA (GA (WV a b) (min a.length b.length) (min a.length b.length)):=rfl;have k:min a.length b.length≤a.length:=Nat.min_le_left _ _;have l:min a.length b.length≤b.length:=Nat.min_le_right _ _;generalize min a.length b.length=n at *;refine AH (ι:={i:Nat//i≤n}) (fun i=>⟨[(0,.p Dh a),(1,.p Dh b),(5,.sr 12 NN 0 n),(14,.p (.int .i64) (n:Int)),(15,.p (.int .i64) (i.1:Int))],[(12,.arr 155 NN (GA (WV a b) n i.1))]⟩) (fun i=>n-i.1) ⟨0,IS _⟩ (AC [(12,.nm 12)] rfl rfl ?_ ?_) (fun i=>?_)
  ·first|exact eN|refine eM ?_
   rw[aZ]
  ·first|exact eN|refine eM ?_
  ·obtain⟨i,hi⟩:=i;have f:=Uw (WV a b) n i;simp only;repeat'(first|exact trivial|refine eS rfl ?_|refine AB ?_|refine rX d ?_ ?_|refine rC ?_ ?_<;>intro c<;>try(cases c;done))
   ·have e:i<n:=OM.1 c;exact⟨by exact eV,by exact eV,c⟩
   ·exact eV
   ·have e:i<n:=OM.1 c;refine⟨⟨i+1,e⟩,by simp only;omega,AC [(12,.nm 12)] rfl rfl ?_ ?_⟩
    ·simp only[←l8];first|exact eN|refine eM ?_
     rfl
    ·first|exact eN|refine eM ?_
   ·have e:i=n:=by omega
    subst e;have g:(GA (WV a b) i i).take i=GA (WV a b) i i:=As (by rw[f];exact If _);refine GJ [12] ?_;repeat'(first|exact trivial|refine eS rfl ?_|refine AB ?_|refine rX d ?_ ?_|refine rC ?_ ?_<;>intro c<;>try(cases c;done))
    ·rw[g,f];dsimp only[Ty.den]at *;omega
    ·rw[g];exact fI d [.tmp 4] (by rw[j];exact eR)
def DZ (a b:List Int):Bool:=Ns a b&&Ns b a
def WW:Ad:={ ins:=[Dh,Dh],pre:=fun _=>True,out:=fun(a,b,_)=>[.p .bool (DZ a b)],lend:=true }
attribute [local go_sem] WW
theorem l9:Aj Tryz.prog 146 WW:=by
 refine fK [0,1,4] Tryz.func146 Tryz.ntmps146 (AD Sd AG) ?_;rintro w0 O0 ⟨a,b,u⟩ c - -;simp only[WW,AL];repeat'(first|exact trivial|refine eS rfl ?_|refine AB ?_|refine rX c ?_ ?_|refine rC ?_ ?_<;>intro d<;>try(cases d;done))
 exact fI c [.tmp 4] (by unfold DZ;exact eR)
def EO (c:List Int):Nat→List HN→Int
 | _,[]=>-1
 | k,t :: l=>if DZ t.2.1 c=true then (k:Int) else EO c (k+1) l
theorem a9 (c:List Int) (l:List HN) {k:Nat} (h:k<l.length):EO c k (l.drop k)=if DZ (l.getD k PN).2.1 c=true then (k:Int) else EO c (k+1) (l.drop (k+1)):=by
 rw[OS h];have e:l.getD k PN=l[k]:=by simp[AS,h]
 rw[e];rfl
theorem sD (c:List Int) (t:HN):BE Tryz.prog 145 [.p T84 t,.bp 1 [] 0] [(1,.box 81 false [.p Dh c])] [1] (fun res d=>res=.p .bool (DZ t.2.1 c)∧d=[(1,.box 81 false [.p Dh c])]):=by
 refine KK [0,1,2,3] [] [] Tryz.func145 Tryz.ntmps145 (AD l9 AG) ?_;intro w0 K O0 ρ0 a e f;simp only[Ak];repeat'(first|exact trivial|refine eS rfl ?_|refine AB ?_|refine rX a ?_ ?_|refine rC ?_ ?_<;>intro b<;>try(cases b;done))
 refine Ev.ent (σ':=⟨[(3,.p .bool (DZ t.2.1 c))],[(1,.box 81 false [.p Dh c])]⟩) ?_ (AC [(1,.nm 1)] rfl rfl ?_ ?_)
 ·exact fM a [.tmp 3] (.p .bool (DZ t.2.1 c)) eT ⟨rfl,rfl⟩
 ·first|exact eN|refine eM ?_
 ·first|exact eN|refine eM ?_
theorem mA (l:List HN) (c:List Int) (i:l.length≤100000):BE Tryz.prog 144 [.p Qy l,.clo 145 [1]] [(1,.box 81 false [.p Dh c])] [1] (fun res g=>res=.p T3 (EO c 0 l)∧g=[(1,.box 81 false [.p Dh c])]):=by
 refine KK [0,1,4,5,7,8,9,16] [] [] Tryz.func144 Tryz.ntmps144 AG ?_;intro w0 K O0 ρ0 b j m;simp only[Ak];repeat'(first|exact trivial|refine eS rfl ?_|refine AB ?_|refine rX b ?_ ?_|refine rC ?_ ?_<;>intro a<;>try(cases a;done))
 refine AH (ι:={k:Nat//k≤l.length∧EO c k (l.drop k)=EO c 0 l}) (fun k=>⟨[(0,.p Qy l),(1,.clo 145 [1]),(7,.p (.int .i64) (l.length:Int)),(8,.p (.int .i64) (k.1:Int))],[(1,.box 81 false [.p Dh c])]⟩) (fun k=>l.length-k.1) ⟨0,IS _,rfl⟩ (AC [(1,.nm 1)] rfl rfl ?_ ?_) (fun k=>?_)
 ·first|exact eN|refine eM ?_
 ·first|exact eN|refine eM ?_
 ·obtain⟨k,hk,hf⟩:=k;have f:=fun h:k<l.length=>a9 c l h;simp only;repeat'(first|exact trivial|refine eS rfl ?_|refine AB ?_|refine rX b ?_ ?_|refine rC ?_ ?_<;>intro a<;>try(cases a;done))
  ·have d:k<l.length:=OM.1 a;have e:=f d;refine cP 5 b ?_ ?_
   ·exact a
   ·refine rM b (sD c (l.getD k PN)) [(1,.nm 1)] [] ?_ ?_ ?_
    ·first|exact eN|refine eM ?_
    ·first|exact eN|refine eM ?_
    ·rintro _ _ ⟨rfl,rfl⟩;refine⟨[(1,.nm 1)],.p .bool (DZ (l.getD k PN).2.1 c),[(1,.box 81 false [.p Dh c])],rfl,rfl,?_,?_,rfl,rfl,Ca ?_⟩
     ·first|exact eN|refine eM ?_
     ·first|exact eN|refine eM ?_
     ·repeat'(first|exact trivial|refine eS rfl ?_|refine AB ?_|refine rX b ?_ ?_|refine rC ?_ ?_<;>intro a<;>try(cases a;done))
      ·have a:DZ (l.getD k PN).2.1 c=true:=a;rw[BY a,hf]at e;refine Ev.ent (σ':=⟨[(4,.p (.int .i64) (k:Int))],[(1,.box 81 false [.p Dh c])]⟩) ?_ (AC [(1,.nm 1)] rfl rfl ?_ ?_)
       ·exact fM b [.tmp 4] (.p T3 (k:Int)) eT ⟨by rw[e],rfl⟩
       ·first|exact eN|refine eM ?_
       ·first|exact eN|refine eM ?_
      ·omega
      ·have a:DZ (l.getD k PN).2.1 c=false:=a;rw[At (by rw[a];simp)]at e;refine⟨⟨k+1,d,e.symm.trans hf⟩,by simp only;omega,AC [(1,.nm 1)] rfl rfl ?_ ?_⟩
       ·first|exact eN|refine eM ?_
       ·first|exact eN|refine eM ?_
  ·have d:l.drop k=[]:=IF (iF.1 a);rw[d]at hf;have hf:(-1:Int)=EO c 0 l:=hf;refine Ev.ent (σ':=⟨[(4,.p (.int .i64) (-1))],[(1,.box 81 false [.p Dh c])]⟩) ?_ (AC [(1,.nm 1)] rfl rfl ?_ ?_)
   ·exact fM b [.tmp 4] (.p T3 (-1)) eT ⟨by rw[hf],rfl⟩
   ·first|exact eN|refine eM ?_
   ·first|exact eN|refine eM ?_
def BH (h:AN) (t:Int):List Int:=(h.1.getD t.toNat PN).2.1
def DM (h:AN) (a b:Int):Int×Bool :=
 if (FG (BH h a) (BH h b)).length=0 then (0,false) else if EO (FG (BH h a) (BH h b)) 0 h.1<0 then (0,false) else (EO (FG (BH h a) (BH h b)) 0 h.1,true)
def i5:Ad:={ ins:=[Ls,T3,T3],pre:=fun(h,a,b,_)=>((0:Int)≤a∧a<(List.length (h:AN).1:Int))∧((0:Int)≤b∧b<(List.length (h:AN).1:Int))∧List.length (h:AN).1≤100000∧(∀x∈(h:AN).1,x.2.1.length≤100000),out:=fun(h,a,b,_)=>[.p T3 (DM h a b).1,.p .bool (DM h a b).2],lend:=true }
theorem yP:Aj Tryz.prog 110 i5:=by
 refine fK [0,1,2,3,6,7,8,9,25,31] Tryz.func110 Tryz.ntmps110 (AD yO AG) ?_;rintro w0 O0 ⟨⟨d,hf⟩,a,b,u⟩ e-⟨ha,i,k,n⟩;simp only[i5,AL];refine Ev.ent (σ':=⟨[(0,.p Ls (d,hf)),(1,.p T3 a),(2,.p T3 b)],[]⟩) ?_ (AC [] rfl rfl ?_ ?_)
 ·repeat'(first|exact trivial|refine eS rfl ?_|refine AB ?_|refine rX e ?_ ?_|refine rC ?_ ?_<;>intro f<;>try(cases f;done))
  ·refine⟨ha,i,?_⟩;have h1:Int.toNat a<List.length d:=(ACg ha.1).2 ha.2;exact n _ (AE (d:List HN) PN h1)
  ·have l:DM (d,hf) a b=(0,false):=by
    unfold DM;rw[BY (by unfold BH;exact Int.ofNat.inj f)]
   exact fI e [.tmp 6,.tmp 7] (by rw[l];exact eR)
  ·have j:∀c,c=FG (List.getD d (Int.toNat a) (ByteArray.empty,[],[],[])).2.1 (List.getD d (Int.toNat b) (ByteArray.empty,[],[],[])).2.1→c=FG (BH (d,hf) a) (BH (d,hf) b):=fun c h=>h;have g:DM (d,hf) a b=if EO (FG (BH (d,hf) a) (BH (d,hf) b)) 0 d<0 then (0,false) else (EO (FG (BH (d,hf) a) (BH (d,hf) b)) 0 d,true):=by
    unfold DM;rw[At (fun h=>f (by unfold BH at h;exact AB5 Int.ofNat h))]
   generalize o:FG (List.getD d (Int.toNat a) (ByteArray.empty,[],[],[])).2.1 (List.getD d (Int.toNat b) (ByteArray.empty,[],[],[])).2.1=c at *;rw[←j c rfl]at g;refine cP 3 e ?_ ?_
   ·trivial
   ·refine rM e (mA d c k) [(1,.nm 8)] [] ?_ ?_ ?_
    ·first|exact eN|refine eM ?_
    ·first|exact eN|refine eM ?_
    ·rintro _ _ ⟨rfl,rfl⟩;refine⟨[(8,.nm 1)],.p T3 (EO c 0 d),[(8,.box 81 false [.p Dh c])],rfl,rfl,?_,?_,rfl,rfl,?_⟩
     ·first|exact eN|refine eM ?_
     ·first|exact eN|refine eM ?_
     ·generalize EO c 0 d=m at *;refine rL e ?_ ?_
      ·trivial
      ·repeat'(first|exact trivial|refine eS rfl ?_|refine AB ?_|refine rX e ?_ ?_|refine rC ?_ ?_<;>intro f<;>try(cases f;done))
       ·rw[BY f]at g;exact fI e [.tmp 6,.tmp 7] (by rw[g];exact eR)
       ·rw[At (AAR.2 f)]at g;exact fI e [.tmp 6,.tmp 7] (by rw[g];exact eR)
 ·first|exact eN|refine eM ?_
 ·first|exact eN|refine eM ?_
end
theorem Sf (l:List (List Int)) (i k:Nat):l <+: Fc l i k:=by
 unfold Fc;split
 ·exact ACc _ _
 ·exact AAO _
theorem Sg (i:Nat):∀(n k:Nat) (l:List (List Int)),l <+: Fd i n k l
 | 0,_,l=>AAO l
 | n+1,k,l=>by
  unfold Fd;split
  ·exact(Sf l i k).trans (Sg i n (k+1) _)
  ·exact AAO l
theorem Nu:∀(n i:Nat) (l:List (List Int)),l <+: HF n i l
 | 0,_,l=>AAO l
 | n+1,i,l=>by
  unfold HF;split
  ·exact(Sg i i 0 l).trans (Nu n (i+1) _)
  ·exact AAO l
theorem Nv {l m:List (List Int)} (h:l <+: m) {k:Nat} (hk:k<l.length):m.getD k []=l.getD k []:=by
 obtain⟨t,rfl⟩:=h;simp only[AS];rw[AA2 hk]
def KE (l:List (List Int)) (q p:Nat):Prop:=Dt (l.getD q []) (l.getD p [])=[]∨Dt (l.getD q []) (l.getD p [])∈l
theorem KE.pre {l m:List (List Int)} (h:l <+: m) {q p:Nat} (b:q<l.length) (hp:p<l.length) (a:KE l q p):KE m q p:=by
 unfold KE at a ⊢;rw[Nv h b,Nv h hp];rcases a with a|a
 ·exact .inl a
 ·exact .inr (h.subset a)
theorem yQ {l:List (List Int)} {b:List Int} (h:Z6 l b=true):b∈l:=by
 obtain⟨x,a,e⟩:=OF.1 h;have:x=b:=by simpa[FO] using e
 rw[←this];exact a
theorem bA {l:List (List Int)} {i k:Nat} (hi:i<l.length) (hk:k<l.length):KE (Fc l i k) i k:=by
 have hp:=Sf l i k;unfold KE;rw[Nv hp hi,Nv hp hk];unfold Fc;split
 ·right;simp
 ·rename_i a;rw[An,GO,To]at a;by_cases h0:0<((Dt (l.getD i []) (l.getD k [])).length:Int)
  ·right;cases b:Z6 l (Dt (l.getD i []) (l.getD k [])) with
   | true=>exact yQ b
   | false=>exact absurd ⟨h0,b⟩ a
  ·left;exact aT (by omega)
theorem Sh {i:Nat}:∀ {n k:Nat} {l:List (List Int)},n+k=i→i<l.length→(Fd i n k l).length≤256→(∀p,p<k→KE l i p)→∀p,p<i→KE (Fd i n k l) i p
 | 0,k,l,hn,hi,a,h=>fun p hp=>h p (by omega)
 | n+1,k,l,hn,hi,a,h=>by
  unfold Fd at a ⊢;split at a
  ·rename_i b;rw[BY b];have hp:=Sf l i k;refine Sh (by omega) (AAq hi hp.length_le) a fun p c=>?_;by_cases e:p=k
   ·subst e;exact bA hi (by omega)
   ·exact(h p (by omega)).pre hp hi (by omega)
  ·rename_i b;exact absurd (by omega:l.length≤256) b
theorem Si:∀ {n i:Nat} {l:List (List Int)},257≤n+i→(HF n i l).length≤256→i≤l.length→(∀q p,p<q→q<i→KE l q p)→∀q p,p<q→q<(HF n i l).length→KE (HF n i l) q p
 | 0,i,l,hn,a,f,h=>fun q p c d=>by
  have k:l.length≤256:=a;omega
 | n+1,i,l,hn,a,f,h=>by
  unfold HF at a ⊢;split at a
  ·rename_i b;rw[BY b];have hp:=Sg i i 0 l;have m:=hp.length_le;have g:=(Nu n (i+1) (Fd i i 0 l)).length_le;refine Si (by omega) a (by omega) fun q p c d=>?_;by_cases e:q=i
   ·subst e;exact Sh (by omega) b.1 (by omega) (fun p hp=>by omega) p c
   ·exact(h q p c (by omega)).pre hp (by omega) (by omega)
  ·rename_i b;rw[At b];intro q p c d;exact h q p c (by
    refine By fun j=>b ⟨by omega,a⟩)
theorem WX {c:List (List Int)} (a:(Ai c).length≤256):∀q p,p<q→q<(Ai c).length→KE (Ai c) q p :=
 Si (by omega) a (IS _) (fun q p _ h=>by omega)
theorem sE (a b:List Int) (k:Nat):(Dt a b).getD k 0=if k<a.length then Bu .and .u64 (a.getD k 0) (b.getD k 0) else 0:=by
 unfold Dt;rw[Na];split
 ·rename_i h;exact Lc .and a b h
 ·rename_i h;rw[AS,iS (by rw[EC];omega)];rfl
theorem GB {b:List Int} {k:Nat} (h:¬k<b.length):b.getD k 0=0:=by
 rw[AS,iS (by omega)];rfl
theorem Jv {a b:List Int} (ha:HH a) (c:HH b) (i:Nat):A4 (Dt a b) i=(A4 a i&&A4 b i):=by
 unfold A4;rw[sE];split
 ·rw[HG (A8 ha _) (A8 c _),AA4,Nat.testBit_and]
 ·rename_i h;rw[GB h];simp
theorem Lf {a b:List Int} (ha:HH a) (d:HH b):HH (Dt a b):=by
 refine MX fun x c=>?_;unfold Fa at c;obtain⟨i,-,rfl⟩:=Of.1 c;rw[Ix,HG (A8 ha _) (A8 d _)];have h1:=A8 ha i;have e:(a.getD i 0).toNat &&& (b.getD i 0).toNat≤(a.getD i 0).toNat:=AC4;have f:=h1.1;have g:=h1.2;exact⟨oF _,by omega⟩
theorem PO (b:List Int):∀n,CH b n=0∨b.getD (CH b n-1) 0≠0
 | 0=>.inl rfl
 | n+1=>by
  unfold CH;split
  ·exact PO b n
  ·rename_i h;right;simpa using h
theorem yR {n:Nat} (h0:n≠0) (h1:n<18446744073709551616):∃r,r<64∧n.testBit r=true:=by
 refine By fun b=>h0 ?_;refine Nat.eq_of_testBit_eq fun r=>?_;rw[Nat.zero_testBit];by_cases c:r<64
 ·cases a:n.testBit r with
  | false=>rfl
  | true=>exact absurd ⟨r,c,a⟩ b
 ·have e:(18446744073709551616:Nat)=2 ^ 64:=by decide
  rw[e]at h1;exact Nat.testBit_lt_two_pow (AAq h1 (Nat.pow_le_pow_right (by decide) (by omega)))
theorem YT {b:List Int} (c:HH b) {k:Nat} (h:b.getD k 0≠0):∃i,A4 b i=true:=by
 have a:=A8 c k;have h1:=a.1;have e:=a.2;obtain⟨r,f,d⟩:=yR (n:=(b.getD k 0).toNat) (by omega) (by omega);refine⟨64*k+r,?_⟩;unfold A4;rw[show (64*k+r) / 64=k by omega,show (64*k+r) % 64=r by omega];exact d
theorem bB {b:List Int} (a:HH b) (h:BA b≠[]):∃i,A4 b i=true:=by
 rcases PO b b.length with h1|h1
 ·exact absurd (by unfold BA;rw[h1];rfl) h
 ·exact YT a h1
theorem Ux {a b:List Int} (ha:HH a) (c:HH b) (h:∀i,A4 a i=true→A4 b i=true) (k:Nat):Bu .andNot .u64 (a.getD k 0) (b.getD k 0)=0:=by
 rw[O5];have:(BitVec.ofInt 64 (a.getD k 0) &&& ~~~BitVec.ofInt 64 (b.getD k 0))=0#64:=by
  apply BitVec.eq_of_getLsbD_eq;intro r e;rw[BitVec.getLsbD_and,BitVec.getLsbD_not,←ABm,←ABm,Ex (A8 ha k),Ex (A8 c k)];have hk:=h (64*k+r);unfold A4 at hk;rw[show (64*k+r) / 64=k by omega,show (64*k+r) % 64=r by omega]at hk;cases d:(a.getD k 0).toNat.testBit r with
  | false=>simp
  | true=>rw[hk d];simp
 rw[this];rfl
theorem Ff {a b:List Int} (ha:HH a) (c:HH b):Eg a b=true↔∀i,A4 a i=true→A4 b i=true:=by
 constructor
 ·exact fun h i hi=>Kz ha c h hi
 ·intro h;unfold Eg Oy BA;have h1:CH (Fa .andNot a b a.length) (Fa .andNot a b a.length).length=0:=by
   rw[EC];exact O6 fun k hk=>by rw[Lc _ _ _ hk];exact Ux ha c h k
  rw[h1];rfl
structure H3 (l:List (List Int)):Prop where
 wds:∀c∈l,HH c
 some:∀c∈l,∃i,A4 c i=true
 wid:∀c∈l,c.length≤64
 meet:∀a∈l,∀b∈l,(∃i,A4 a i=true∧A4 b i=true)→∃t∈l,∀i,A4 t i=(A4 a i&&A4 b i)
structure Bs (l:List (List Int)):Prop where
 wds:∀c∈l,HH c
 some:∀c∈l,∃i,A4 c i=true
theorem PP {l:List (List Int)} {k:Nat} (h:¬k<l.length):l.getD k []=[]:=by
 rw[AS,iS (by omega)];rfl
theorem Bs.get {l:List (List Int)} (h:Bs l) (k:Nat):HH (l.getD k []):=by
 by_cases hk:k<l.length
 ·exact h.wds _ (A6 hk)
 ·rw[PP hk];intro x a;cases a
theorem yS {l:List (List Int)} (h:Bs l) (i k:Nat):Bs (Fc l i k):=by
 unfold Fc;split
 ·rename_i b;rw[An,GO]at b;refine⟨fun c a=>?_,fun c a=>?_⟩
  ·rcases ON.1 a with a|a
   ·exact h.wds c a
   ·have:c=Dt (l.getD i []) (l.getD k []):=by simpa using a
    rw[this];exact Lf (h.get i) (h.get k)
  ·rcases ON.1 a with a|a
   ·exact h.some c a
   ·have:c=Dt (l.getD i []) (l.getD k []):=by simpa using a
    rw[this];have g:Dt (l.getD i []) (l.getD k [])≠[]:=by
     intro e;rw[e]at b;exact absurd b.1 (by simp)
    have m:HH (Fa .and (l.getD i []) (l.getD k []) (l.getD i []).length):=by
     intro x d;unfold Fa at d;obtain⟨j,-,rfl⟩:=Of.1 d;rw[Ix,HG (A8 (h.get i) _) (A8 (h.get k) _)];have h1:=A8 (h.get i) j;have n:((l.getD i []).getD j 0).toNat &&& ((l.getD k []).getD j 0).toNat≤((l.getD i []).getD j 0).toNat:=AC4;have o:=h1.1;have p:=h1.2;exact⟨oF _,by omega⟩
    obtain⟨j,f⟩:=bB m g;exact⟨j,by unfold Dt;rw[MW];exact f⟩
 ·exact h
theorem i6 {i:Nat}:∀ {n k:Nat} {l:List (List Int)},Bs l→Bs (Fd i n k l)
 | 0,_,_,h=>h
 | n+1,k,l,h=>by
  unfold Fd;split
  ·exact i6 (yS h i k)
  ·exact h
theorem i7:∀ {n i:Nat} {l:List (List Int)},Bs l→Bs (HF n i l)
 | 0,_,_,h=>h
 | n+1,i,l,h=>by
  unfold HF;split
  ·exact i7 (i6 h)
  ·exact h
theorem mB {d:List AF} (f:Ax d=0):Bs (AQ d):=by
 obtain⟨-,l,-⟩:=Ao f;have h:=DW d d.length;rw[gO]at h;have b:(AM d).length≤4096:=by omega
 refine⟨fun c a=>?_,fun c a=>?_⟩
 ·unfold AQ at a;obtain⟨s,-,rfl⟩:=Of.1 a;exact(Bh (d:=d) b s 0).2.1
 ·unfold AQ at a;obtain⟨s,hs,rfl⟩:=Of.1 a;obtain⟨j,g,e⟩:=DK ByteArray.empty hs;have i:0≤Af d s:=by
   obtain⟨x,k,e⟩:=CV hs;rw[←e];exact Cz k
  exact⟨j,(Bh (d:=d) b s j).1.2 ⟨g,by rw[e];exact MY i⟩⟩
theorem Sj {d:List AF} (l:Ax d=0) (s:(Ai (AQ d)).length≤256):H3 (Ai (AQ d)):=by
 obtain⟨-,o,-⟩:=Ao l;have g:Bs (Ai (AQ d)):=i7 (mB l);have n:=WX s;refine⟨g.wds,g.some,Ni (Mc o),fun a ha b r hi=>?_⟩;obtain⟨q,f,rfl⟩:=DK [] ha;obtain⟨p,hp,rfl⟩:=DK [] r;have key:∀q p,q<(Ai (AQ d)).length→p<(Ai (AQ d)).length→KE (Ai (AQ d)) q p→(∃i,A4 ((Ai (AQ d)).getD q []) i=true∧A4 ((Ai (AQ d)).getD p []) i=true) →
   ∃t∈Ai (AQ d),∀i,A4 t i=(A4 ((Ai (AQ d)).getD q []) i&&A4 ((Ai (AQ d)).getD p []) i):=by
  intro q p f hp c hi;have m:=Jv (g.get q) (g.get p);rcases c with c|c
  ·obtain⟨i,j,k⟩:=hi;have:=m i;rw[c,j,k]at this;unfold A4 at this;simp at this
  ·exact⟨_,c,m⟩
 rcases ABn p q with h|h|h
 ·exact key q p f hp (n q p h f) hi
 ·subst h;exact⟨_,A6 f,fun i=>by rw[Bool.and_self]⟩
 ·obtain⟨t,u,e⟩:=key p q hp f (n p q h hp) (by obtain⟨i,j,k⟩:=hi;exact⟨i,k,j⟩);exact⟨t,u,fun i=>by rw[e i,Bool.and_comm]⟩
def I5 (h:AN):Prop:=H3 (h.1.map fun t=>t.2.1)∧h.1.length≤256
theorem GC (d:List AF):I5 (Ar d).1:=by
 unfold Ar;split
 ·exact⟨⟨fun c h=>(by cases h),fun c h=>(by cases h),fun c h=>(by cases h),fun c h=>(by cases h)⟩,by simp⟩
 ·rename_i g;have g:(A3 d).2=0:=By g;have m:Am d=0:=by
   unfold A3 at g;split at g
   ·rename_i h;exact absurd g h
   ·rename_i h;exact By h
  obtain⟨p,-,-⟩:=Bv m;obtain⟨l,k,-⟩:=BJ p;have hf:=Sj l k;have f:∀c,c∈((BZ d).1.map fun t=>t.2.1)↔c∈Ai (AQ d):=by
   intro c;have e:((BZ d).1.map fun t=>t.2.1)=(AJ d).map fun x=>x.2:=by
    show ((Dv _ _ _).map fun t=>t.2.1)=_;unfold Dv;rw[ABI];apply AAE
    ·simp
    ·intro i h1 q;simp[AS,show i<(AJ d).length by simpa using h1]
   rw[e];constructor
   ·intro h;obtain⟨x,o,rfl⟩:=Of.1 h;obtain⟨b,j,rfl⟩:=C0.1 o;exact j
   ·intro h;exact Of.2 ⟨_,C0.2 ⟨c,h,rfl⟩,rfl⟩
  refine⟨⟨fun c h=>hf.wds c ((f c).1 h),fun c h=>hf.some c ((f c).1 h),fun c h=>hf.wid c ((f c).1 h),fun a ha b j hi=>?_⟩,?_⟩
  ·obtain⟨t,n,e⟩:=hf.meet a ((f a).1 ha) b ((f b).1 j) hi;exact⟨t,(f t).2 n,e⟩
  ·show (Dv _ _ _).length≤256;rw[I3,HJ];exact k
theorem Bq {h:AN} {t:Int} (a:0≤t) (b:t<(h.1.length:Int)):BH h t∈h.1.map fun t=>t.2.1 :=
 Of.2 ⟨_,AE h.1 PN (k:=t.toNat) (by omega),rfl⟩
theorem Sk {a b:List Int} (ha:HH a) (c:HH b):Ns a b=true↔∀i,A4 a i=true→A4 b i=true:=by
 constructor
 ·intro h i hi;by_cases hk:i / 64<a.length
  ·have h1:=DO.1 h (i / 64) (oN.2 hk);rw[AA0,Ix]at h1;exact QE (A8 ha _) (A8 c _) h1 (ACC _ (by decide)) hi
  ·exfalso;unfold A4 at hi;rw[GB hk]at hi;simp at hi
 ·intro h;unfold Ns;rw[DO];intro k _;rw[AA0,Ix];exact Ux ha c h k
theorem sF {a b:List Int} (ha:HH a) (c:HH b) (i:Nat):A4 (FG a b) i=(A4 a i&&A4 b i):=by
 unfold FG;rw[MW];unfold A4;have:(GA (WV a b) (min a.length b.length) (min a.length b.length)).getD (i / 64) 0=Bu .and .u64 (a.getD (i / 64) 0) (b.getD (i / 64) 0):=by
  by_cases h:i / 64<min a.length b.length
  ·unfold GA;rw[AS,AAW,ABG h];show (if i / 64<min a.length b.length then WV a b (i / 64) else 0)=_;rw[BY h];rfl
  ·rw[GB (by rw[Uw];exact h),HG (A8 ha _) (A8 c _)];by_cases h1:i / 64<a.length
   ·rw[GB (b:=b) (by omega)];simp
   ·rw[GB (b:=a) h1];simp
 rw[this,HG (A8 ha _) (A8 c _),AA4,Nat.testBit_and]
theorem sG {a b:List Int} (ha:HH a) (d:HH b):HH (FG a b):=by
 refine MX fun x c=>?_;unfold GA at c;obtain⟨j,-,rfl⟩:=Of.1 c;split
 ·unfold WV;rw[HG (A8 ha _) (A8 d _)];have h1:=A8 ha j;have e:(a.getD j 0).toNat &&& (b.getD j 0).toNat≤(a.getD j 0).toNat:=AC4;have f:=h1.1;have g:=h1.2;exact⟨oF _,by omega⟩
 ·exact⟨by decide,by decide⟩
theorem Sl (c:List Int):∀(l:List HN) (k:Nat),(EO c k l=-1∧∀t∈l,DZ t.2.1 c=false)∨((k:Int)≤EO c k l∧EO c k l<(k:Int)+l.length∧DZ (l.getD ((EO c k l).toNat-k) PN).2.1 c=true)
 | [],k=>.inl ⟨rfl,fun t a=>by cases a⟩
 | x :: l,k=>by
  simp only[EO];split
  ·rename_i h;right;refine⟨by omega,by simp only[Is];omega,?_⟩;rw[show ((k:Int).toNat-k)=0 by omega];exact h
  ·rename_i h;have h:DZ x.2.1 c=false:=by simpa using h
   rcases Sl c l (k+1) with ⟨h1,b⟩|⟨h1,b,d⟩
   ·left;refine⟨h1,fun t a=>?_⟩;rcases Do.1 a with rfl|a
    ·exact h
    ·exact b t a
   ·right;refine⟨by omega,by simp only[Is];omega,?_⟩;rw[show ((EO c (k+1) l).toNat-k)=((EO c (k+1) l).toNat-(k+1))+1 by omega];exact d
def YU (h:AN) (t:Int) (i:Nat):Bool:=A4 (BH h t) i
theorem BV {h:AN} (hk:I5 h) {a b:Int} (a0:0≤a) (c:a<(h.1.length:Int)) (d:0≤b) (b1:b<(h.1.length:Int)):BK h a b=true↔∀i,YU h b i=true→YU h a i=true :=
 Sk (hk.1.wds _ (Bq d b1)) (hk.1.wds _ (Bq a0 c))
theorem sH {h:AN} (hk:I5 h) {a b:Int} (a0:0≤a) (g:a<(h.1.length:Int)) (j:0≤b) (b1:b<(h.1.length:Int)) :
  ((DM h a b).2=true→0≤(DM h a b).1∧(DM h a b).1<(h.1.length:Int)∧∀i,YU h (DM h a b).1 i=(YU h a i&&YU h b i))∧((∃i,YU h a i=true∧YU h b i=true)→(DM h a b).2=true):=by
 have r:=hk.1.wds _ (Bq a0 g);have s:=hk.1.wds _ (Bq j b1);have c:=sF r s;have n:=sG r s;have heq:∀t∈h.1,DZ t.2.1 (FG (BH h a) (BH h b))=true↔∀i,A4 t.2.1 i=A4 (FG (BH h a) (BH h b)) i:=by
  intro t d;have wt:=hk.1.wds t.2.1 (Of.2 ⟨t,d,rfl⟩);unfold DZ;rw[An,Sk wt n,Sk n wt];constructor
  ·rintro⟨u,v⟩ i;rw[ABt];exact⟨u i,v i⟩
  ·intro e;exact⟨fun i hi=>by rw[←e i];exact hi,fun i hi=>by rw[e i];exact hi⟩
 unfold DM;by_cases f:(FG (BH h a) (BH h b)).length=0
 ·rw[BY f];refine⟨fun e=>(by cases e),?_⟩;rintro⟨i,p,q⟩;exfalso;have:=c i;rw[aT f]at this;unfold YU at p q;rw[p,q]at this;unfold A4 at this;simp at this
 ·rw[At f];rcases Sl (FG (BH h a) (BH h b)) h.1 0 with ⟨h1,l⟩|⟨h1,l,m⟩
  ·rw[BY (by omega)];refine⟨fun e=>(by cases e),fun hi=>?_⟩;exfalso;obtain⟨t,d,e⟩:=hk.1.meet _ (Bq a0 g) _ (Bq j b1) hi;obtain⟨x,o,rfl⟩:=Of.1 d;have:=(heq x o).2 (fun i=>by rw[c i];exact e i);rw[l x o]at this;cases this
  ·have h1:0≤EO (FG (BH h a) (BH h b)) 0 h.1:=by omega
   rw[At (by omega)];refine⟨fun _=>⟨h1,by simp only;omega,fun i=>?_⟩,fun _=>rfl⟩;rw[AC8]at m;have w:=AE h.1 PN (k:=(EO (FG (BH h a) (BH h b)) 0 h.1).toNat) (by omega);have:=(heq _ w).1 m i;rw[c i]at this;exact this
theorem Sm {h:AN} (hk:I5 h) {a b:Int} (a0:0≤a) (l:a<(h.1.length:Int)) (m:0≤b) (b1:b<(h.1.length:Int)) :
  ((DM h a b).2=true→0≤(DM h a b).1∧(DM h a b).1<(h.1.length:Int)∧BK h a (DM h a b).1=true∧BK h b (DM h a b).1=true) ∧
  ∀x,0≤x→x<(h.1.length:Int)→BK h a x=true→BK h b x=true→(DM h a b).2=true∧BK h (DM h a b).1 x=true:=by
 obtain⟨q,t⟩:=sH hk a0 l m b1;refine⟨fun e=>?_,fun x g k r s=>?_⟩
 ·obtain⟨c,d,f⟩:=q e;refine⟨c,d,(BV hk a0 l c d).2 fun i hi=>?_,(BV hk m b1 c d).2 fun i hi=>?_⟩
  ·rw[f i,An]at hi;exact hi.1
  ·rw[f i,An]at hi;exact hi.2
 ·have n:=(BV hk a0 l g k).1 r;have o:=(BV hk m b1 g k).1 s;obtain⟨i,hi⟩:=hk.1.some _ (Bq g k);have e:=t ⟨i,n i hi,o i hi⟩;obtain⟨c,d,f⟩:=q e;refine⟨e,(BV hk c d g k).2 fun j p=>?_⟩;rw[f j,An];exact⟨n j p,o j p⟩
def uB (c:List Int):Prop:=c.length=0∨c.getD (c.length-1) 0≠0
theorem Jw (b:List Int):uB (BA b):=by
 unfold uB BA;have a:=SA b b.length;rw[OR,AB8 a];rcases PO b b.length with h|h
 ·exact .inl h
 ·by_cases h0:CH b b.length=0
  ·exact .inl h0
  ·right;rw[AS,List.getElem?_take_of_lt (by omega),←AS];exact h
theorem yT {a b:List Int} (ha:HH a) (f:HH b) (h:∀i,A4 a i=A4 b i) (k:Nat):a.getD k 0=b.getD k 0:=by
 have c:=A8 ha k;have d:=A8 f k;have j:=c.1;have l:=c.2;have m:=d.1;have o:=d.2;have e:(a.getD k 0).toNat=(b.getD k 0).toNat:=by
  refine Nat.eq_of_testBit_eq fun r=>?_;by_cases g:r<64
  ·have:=h (64*k+r);unfold A4 at this;rw[show (64*k+r) / 64=k by omega,show (64*k+r) % 64=r by omega]at this;exact this
  ·have big:∀n:Nat,n<18446744073709551616→n.testBit r=false:=fun n hn=>by
    have e:(18446744073709551616:Nat)=2 ^ 64:=by decide
    rw[e]at hn;exact Nat.testBit_lt_two_pow (AAq hn (Nat.pow_le_pow_right (by decide) (by omega)))
   rw[big _ (by omega),big _ (by omega)]
 omega
theorem i8 {a b:List Int} (d:∀k,a.getD k 0=b.getD k 0) (c:uB b):b.length≤a.length:=by
 rcases c with h|h
 ·omega
 ·refine By fun e=>h ?_;rw[←d];exact GB (by omega)
theorem WY {a b:List Int} (ha:HH a) (e:HH b) (g:uB a) (j:uB b) (h:∀i,A4 a i=A4 b i):a=b:=by
 have c:=yT ha e h;have f:a.length=b.length:=ABJ (i8 (fun k=>(c k).symm) g) (i8 c j);refine AAE f fun i h1 d=>?_;have:=c i;simpa[AS,h1,d] using this
theorem YV {α:Type} (l:List α) (x:α) (n:Nat):List.Perm (l.take n++[x]++l.drop n) (x :: l):=by
 have h:l.take n++[x]++l.drop n=l.take n++x :: l.drop n:=by simp
 rw[h];refine ACt.trans ?_;rw[ABf]
def i9 (l:List ByteArray):Prop:=l.Pairwise fun a b=>AY a b=false
theorem K6 {a b:ByteArray} (h:AY a b=false):AY b a=false:=by
 cases c:AY b a with
 | false=>rfl
 | true=>rw[DX c]at h;cases h
theorem Sn {l:List ByteArray} {s:ByteArray} (h:i9 l) (hs:∀x∈l,AY x s=false):i9 (Ds l s):=by
 unfold Ds;split
 ·exact h
 ·refine(List.Perm.pairwise_iff (fun b=>K6 b) (YV l s _)).2 ?_;exact ABg.2 ⟨fun x a=>K6 (hs x a),h⟩
theorem So {d:List AF} (hn:CL d=0):i9 (AM d):=by
 have key:∀k,k≤d.length→i9 (AM (d.take k))∧∀s∈AM (d.take k),∃i,i<k∧(d.getD i d0).1=s:=by
  intro k;induction k with
  | zero =>
   intro _;exact⟨.nil,fun s hs=>by cases hs⟩
  | succ k f =>
   intro hk;obtain⟨h1,a⟩:=f (by omega);have e:AM (d.take (k+1))=Ds (AM (d.take k)) (d.getD k d0).1:=by
    have:d.take (k+1)=d.take k++[d.getD k d0]:=Ae d d0 (by omega);rw[this];unfold AM;rw[ABq];rfl
   rw[e];refine⟨Sn h1 fun x c=>?_,fun s hs=>?_⟩
   ·obtain⟨i,hi,rfl⟩:=a x c;cases b:AY (d.getD i d0).1 (d.getD k d0).1 with
    | false=>rfl
    | true =>
     have g:=Hz d b;rw[Iy hn (j:=i) (by omega),Iy hn (j:=k) (by omega)]at g;omega
   ·rcases F5 hs with hs|hs
    ·obtain⟨i,hi,e⟩:=a s hs;exact⟨i,by omega,e⟩
    ·exact⟨k,by omega,hs.symm⟩
 have:=(key d.length (If _)).1
 rwa [gO]at this
structure Nd (l:List (List Int)):Prop where
 nd:l.Nodup
 nrm:∀c∈l,uB c
theorem yU {l:List (List Int)} {c:List Int} (h:Nd l) (b:c∉l) (hn:uB c):Nd (l++[c]):=by
 refine⟨?_,fun x a=>?_⟩
 ·rw[AAF];refine⟨h.nd,by simp,fun x a y d e=>b ?_⟩;have:y=c:=by simpa using d
  rw[←this,←e];exact a
 ·rcases ON.1 a with a|a
  ·exact h.nrm x a
  ·have:x=c:=by simpa using a
   rw[this];exact hn
theorem yV {l:List (List Int)} (h:Nd l) (i k:Nat):Nd (Fc l i k):=by
 unfold Fc;split
 ·rename_i a;rw[An,To]at a;refine yU h (fun b=>?_) (Jw _);have:Z6 l (Dt (l.getD i []) (l.getD k []))=true:=OF.2 ⟨_,b,by unfold FO;exact ABj rfl⟩;rw[this]at a;cases a.2
 ·exact h
theorem jA {i:Nat}:∀ {n k:Nat} {l:List (List Int)},Nd l→Nd (Fd i n k l)
 | 0,_,_,h=>h
 | n+1,k,l,h=>by
  unfold Fd;split
  ·exact jA (yV h i k)
  ·exact h
theorem Q7:∀ {n i:Nat} {l:List (List Int)},Nd l→Nd (HF n i l)
 | 0,_,_,h=>h
 | n+1,i,l,h=>by
  unfold HF;split
  ·exact Q7 (jA h)
  ·exact h
theorem PQ {d:List AF} (m:Ax d=0):Nd (AQ d):=by
 obtain⟨-,l,-,hn,p⟩:=Ao m;have q:=DW d d.length;rw[gO]at q;have hap:=So hn;refine⟨?_,fun c n=>?_⟩
 ·unfold AQ List.Nodup;rw[ABo,nO];intro i j hi a o e;have h1:=(nO.1 hap) i j hi a o;have g:∀k,(hk:k<(AM d).length)→(AM d).getD k ByteArray.empty=(AM d)[k]:=fun k hk=>by simp[AS,hk]
  have f:=(Bh (d:=d) (all:=AM d) (by omega) (AM d)[j] 0).2.1;have b:=X8 hn p l hi a (by
   rw[g i hi,g j a,e];unfold Cr;have:=(Ff f f).2 fun _ h=>h;rw[this];rfl)
  rw[g i hi,g j a,h1]at b;cases b
 ·obtain⟨s,hs,rfl⟩:=Of.1 n;unfold ED uA;split
  ·exact Jw _
  ·exact .inl rfl
theorem K7 {d:List AF}:∀ {l:List (List Int)} {o:List AP},(o.map (·.2)++l).Nodup→((l.foldl (O7 d) o).map (·.2)).Nodup
 | [],o,h=>by simpa using h
 | b :: l,o,h=>by
  rw[TO];refine K7 ?_;unfold O7 Fe WO;have hp:=(YV o (F6 d (AM d) (AQ d) b,b) (Ez (F6 d (AM d) (AQ d) b,b) o o.length)).map (fun x:AP=>x.2);have c:List.Perm ((o.take (Ez (F6 d (AM d) (AQ d) b,b) o o.length)++[(F6 d (AM d) (AQ d) b,b)]++o.drop (Ez (F6 d (AM d) (AQ d) b,b) o o.length)).map (fun x:AP=>x.2)++l) (o.map (·.2)++b :: l) :=
   (hp.append_right l).trans (ACt (a:=b)).symm
  exact c.nodup_iff.2 h
def GY (h:AN):Prop:=∀a b,0≤a→a<(h.1.length:Int)→0≤b→b<(h.1.length:Int)→BK h a b=true→BK h b a=true→a=b
theorem A0D {h:AN} (hk:I5 h) (hn:Nd (h.1.map fun t=>t.2.1)):GY h:=by
 intro a b a0 c d b1 h1 f;have l:=hk.1.wds _ (Bq a0 c);have m:=hk.1.wds _ (Bq d b1);have e:BH h a=BH h b:=WY l m (hn.nrm _ (Bq a0 c)) (hn.nrm _ (Bq d b1)) fun i=>by
  rw[ABt];exact⟨(BV hk d b1 a0 c).1 f i,(BV hk a0 c d b1).1 h1 i⟩
 have hp:=nO.1 hn.nd;have g:∀k:Int,0≤k→(hk:k<(h.1.length:Int))→BH h k=(h.1.map fun t=>t.2.1)[k.toNat]'(by rw[AA3];omega):=fun k n o=>by
  unfold BH;simp[AS,show k.toNat<h.1.length by omega]
 rw[g a a0 c,g b d b1]at e;rcases Int.lt_trichotomy a b with j|heq|j
 ·exact absurd e (hp a.toNat b.toNat (by rw[AA3];omega) (by rw[AA3];omega) (by omega))
 ·exact heq
 ·exact absurd e.symm (hp b.toNat a.toNat (by rw[AA3];omega) (by rw[AA3];omega) (by omega))
theorem QK (d:List AF):GY (Ar d).1:=by
 refine A0D (GC d) ?_;unfold Ar;split
 ·exact⟨.nil,fun c h=>(by cases h)⟩
 ·rename_i a;have a:(A3 d).2=0:=By a;have g:Am d=0:=by
   unfold A3 at a;split at a
   ·rename_i h;exact absurd a h
   ·rename_i h;exact By h
  obtain⟨m,-,-⟩:=Bv g;obtain⟨f,o,-⟩:=BJ m;have hf:Nd (Ai (AQ d)):=Q7 (PQ f);have e:((BZ d).1.map fun t=>t.2.1)=(AJ d).map fun x=>x.2:=by
   show ((Dv _ _ _).map fun t=>t.2.1)=_;unfold Dv;rw[ABI];apply AAE
   ·simp
   ·intro i h1 n;simp[AS,show i<(AJ d).length by simpa using h1]
  show Nd ((BZ d).1.map fun t=>t.2.1);rw[e];refine⟨K7 (by simpa using hf.nd),fun c k=>?_⟩;obtain⟨x,l,rfl⟩:=Of.1 k;obtain⟨b,j,rfl⟩:=C0.1 l;exact hf.nrm b j
section
attribute [local go_sem] i5
def DN (f:Int):List (Int×Int)→Int×Bool
 | []=>(0,false)
 | x :: l=>if x.1=f then (x.2,true) else DN f l
theorem Sp (f:Int) (l:List (Int×Int)) {k:Nat} (h:k<l.length):DN f (l.drop k)=if (l.getD k (0,0)).1=f then ((l.getD k (0,0)).2,true) else DN f (l.drop (k+1)):=by
 rw[OS h];have e:l.getD k (0,0)=l[k]:=by simp[AS,h]
 rw[e];rfl
def X1 (h:AN) (t:Int):List (Int×Int):=(h.1.getD t.toNat PN).2.2.2
def Br (h:AN) (t f:Int):Int×Bool:=DN f (X1 h t)
def L6:Ad:={ ins:=[Ls,T3,T3],pre:=fun(h,t,_,_)=>(0:Int)≤t∧t<(List.length (h:AN).1:Int),out:=fun(h,t,f,_)=>[.p T3 (Br h t f).1,.p .bool (Br h t f).2],lend:=true }
attribute [local go_sem] L6
theorem jB:Aj Tryz.prog 26 L6:=by
 refine fK [0,1,2,3,6,7,9,15,16,17,18,26] Tryz.func26 Tryz.ntmps26 AG ?_;rintro w0 O0 ⟨⟨d,hf⟩,t,f,u⟩ b q ⟨j,m⟩;simp only[L6,AL];refine Ev.ent (σ':=⟨[(0,.p Ls (d,hf)),(1,.p T3 t),(2,.p T3 f)],[]⟩) ?_ (AC [] rfl rfl ?_ ?_)
 ·repeat'(first|exact trivial|refine eS rfl ?_|refine AB ?_|refine rX b ?_ ?_|refine rC ?_ ?_<;>intro a<;>try(cases a;done))
  ·exact⟨j,m⟩
  ·have o:∀l,l=(List.getD d (Int.toNat t) (ByteArray.empty,[],[],[])).2.2.2→Br (d,hf) t f=DN f l:=fun l e=>by rw[e];rfl
   have r:List.length (List.getD d (Int.toNat t) (ByteArray.empty,[],[],[])).2.2.2≤140737488355328:=(q.1.1.2 _ (AE (d:List HN) PN ((ACg j).2 m))).2.2.2.1;generalize (List.getD d (Int.toNat t) (ByteArray.empty,[],[],[])).2.2.2=l at *;rw[o l rfl];refine AH (ι:={k:Nat//k≤List.length l∧DN f l=DN f (l.drop k)}) (fun k=>⟨[(2,.p T3 f),(15,.p Xl l),(16,.p (.int .i64) (List.length l:Int)),(17,.p (.int .i64) (k.1:Int))],[]⟩) (fun k=>List.length l-k.1) ⟨0,IS _,rfl⟩ (AC [] rfl rfl ?_ ?_) (fun k=>?_)
   ·first|exact eN|refine eM ?_
   ·first|exact eN|refine eM ?_
   ·obtain⟨k,hk,c⟩:=k;have i:=fun h:k<List.length l=>Sp f l h;simp only;repeat'(first|exact trivial|refine eS rfl ?_|refine AB ?_|refine rX b ?_ ?_|refine rC ?_ ?_<;>intro a<;>try(cases a;done))
    ·exact a
    ·refine cP 5 b ?_ ?_
     ·trivial
     ·refine A3O b ?_;refine rL b ?_ ?_
      ·trivial
      ·repeat'(first|exact trivial|refine eS rfl ?_|refine AB ?_|refine rX b ?_ ?_|refine rC ?_ ?_<;>intro a<;>try(cases a;done))
       ·have g:k<List.length l:=by exact eV
        rw[i g,BY a]at c;exact fI b [.tmp 6,.tmp 7] (by rw[c];exact eR)
       ·omega
       ·have g:k<List.length l:=by exact eV
        rw[i g,At a]at c;refine⟨⟨k+1,g,c⟩,by simp only;omega,AC [] rfl rfl ?_ ?_⟩
        ·first|exact eN|refine eM ?_
        ·first|exact eN|refine eM ?_
    ·have n:List.drop k (l:List (Int×Int))=[]:=IF (by exact eV);rw[n]at c;have c:DN f l=(0,false):=c;exact fI b [.tmp 6,.tmp 7] (by rw[c];exact eR)
 ·first|exact eN|refine eM ?_
 ·first|exact eN|refine eM ?_
abbrev Di:=List Int×List Int
def Cm (h:AN) (s:Di) (n t:Int):Option Di :=
 if (DM h (s.1.getD n.toNat 0) t).2=true then some (if (DM h (s.1.getD n.toNat 0) t).1=s.1.getD n.toNat 0 then s else (s.1.set n.toNat (DM h (s.1.getD n.toNat 0) t).1,s.2++[n])) else none
def Da (h:AN) (s:Di):List (Nat×Obj):=[(1,.box 74 true [.p Ls h,.sr 2 T3 0 s.1.length,.p IJ s.2]),(2,.arr 3 T3 s.1)]
theorem YW (h:AN) (hk:I5 h) (s:Di) {n t:Int} (n0:0≤n) (n1:n<(s.1.length:Int)) (f:0≤s.1.getD n.toNat 0) (IU:s.1.getD n.toNat 0<(h.1.length:Int)) (l:0≤t) (o:t<(h.1.length:Int)) (j:s.2.length≤1000000000) :
  BE Tryz.prog 72 [.bp 1 [] 0,.p T3 n,.p T3 t] (Da h s) [1]
  (fun res d=>(Cm h s n t=none∧res=.p .bool false∧d=Da h s)∨∃e,Cm h s n t=some e∧res=.p .bool true∧d=Da h e):=by
 obtain⟨ty,w⟩:=s;simp only at n1 f IU j;have g:h.1.length≤100000:=f4 hk.2 (by omega);have i:∀x∈h.1,x.2.1.length≤100000:=fun x k=>f4 (hk.1.wid x.2.1 (Of.2 ⟨x,k,rfl⟩)) (by omega);refine KK [0,1,2,6,7,8,26,35] [] [] Tryz.func72 Tryz.ntmps72 (AD yP AG) ?_;intro w0 K O0 ρ0 c q r;simp only[Da,Ak];repeat'(first|exact trivial|refine eS rfl ?_|refine AB ?_|refine rX c ?_ ?_|refine rC ?_ ?_<;>intro b<;>try(cases b;done))
 ·exact⟨⟨n0,n1⟩,⟨f,IU⟩,⟨l,o⟩,g,i⟩
 ·have a:Cm h (ty,w) n t=none:=by unfold Cm;rw[At (by simp only;rw[b];simp)]
  refine Ev.ent (σ':=⟨[(6,.p .bool false)],Da h (ty,w)⟩) ?_ (AC [(1,.nm 1),(2,.nm 2)] rfl rfl ?_ ?_)
  ·exact fM c [.tmp 6] (.p .bool false) eT (.inl ⟨a,rfl,rfl⟩)
  ·unfold Da;first|exact eN|refine eM ?_
  ·first|exact eN|refine eM ?_
 ·exact⟨n0,n1⟩
 ·exact⟨n0,n1⟩
 ·simp only[AO];omega
 ·have a:Cm h (ty,w) n t=some (ty.set n.toNat (DM h (ty.getD n.toNat 0) t).1,w++[n]):=by unfold Cm;rw[BY (by assumption),At b]
  generalize (DM h (ty.getD n.toNat 0) t).1=m at *;have u:(w++[n]).take (w.length+1)=w++[n]:=As (by simp);refine GJ [61] ?_;refine Ev.ent (σ':=⟨[(6,.p .bool true)],Da h (ty.set n.toNat m,w++[n])⟩) ?_ (AC [(1,.nm 1),(2,.nm 2)] rfl rfl ?_ ?_)
  ·exact fM c [.tmp 6] (.p .bool true) eT (.inr ⟨_,a,rfl,rfl⟩)
  ·unfold Da;simp only[AAw];first|exact eN|refine eM ?_
  ·first|exact eN|refine eM ?_
 ·have a:Cm h (ty,w) n t=some (ty,w):=by unfold Cm;rw[BY (by assumption),BY (by simpa using b)]
  refine Ev.ent (σ':=⟨[(6,.p .bool true)],Da h (ty,w)⟩) ?_ (AC [(1,.nm 1),(2,.nm 2)] rfl rfl ?_ ?_)
  ·exact fM c [.tmp 6] (.p .bool true) eT (.inr ⟨_,a,rfl,rfl⟩)
  ·unfold Da;first|exact eN|refine eM ?_
  ·first|exact eN|refine eM ?_
end
section
def bC:Ad:={ ins:=[T3],pre:=fun _=>True,out:=fun _=>[.p .bool false] }
attribute [local go_sem] bC
def E1 (a b:Int):Int:=if a<b then -1 else if b<a then 1 else 0
def GD:Ad:={ ins:=[T3,T3],pre:=fun _=>True,out:=fun(a,b,_)=>[.p T3 (E1 a b)] }
attribute [local go_sem] GD
def CX:Ad:={ ins:=[BD,BD],pre:=fun _=>True,out:=fun(a,b,_)=>[.p T3 (E1 (Prod.fst a) (Prod.fst b))] }
attribute [local go_sem] CX
theorem sI:Aj Tryz.prog 157 bC:=by
 refine fK [0,2] Tryz.func157 Tryz.ntmps157 AG ?_;rintro w0 O0 ⟨x,u⟩ a - -;simp only[bC,AL];repeat'(first|exact trivial|refine eS rfl ?_|refine AB ?_|refine rX a ?_ ?_|refine rC ?_ ?_<;>intro b<;>try(cases b;done))
 exact fI a [.tmp 2]
theorem Ft:Aj Tryz.prog 138 GD:=by
 refine fK [0,1,4,5,6,11,12,13,16,19] Tryz.func138 Tryz.ntmps138 (AD sI AG) ?_;rintro w0 O0 ⟨a,b,u⟩ c - -;simp only[GD,AL];repeat'(first|exact trivial|refine eS rfl ?_|refine AB ?_|refine rX c ?_ ?_|refine rC ?_ ?_<;>intro d<;>try(cases d;done))
 ·have e:E1 a b=-1:=BY d;exact fI c [.tmp 4] (by rw[e];exact eR)
 ·have e:E1 a b=1:=by unfold E1;rw[At (by omega),BY d]
  exact fI c [.tmp 4] (by rw[e];exact eR)
 ·have e:E1 a b=0:=by unfold E1;rw[At (by omega),At (by omega)]
  exact fI c [.tmp 4] (by rw[e];exact eR)
theorem EL:Aj Tryz.prog 116 CX:=by
 refine fK [0,1,2,3,4] Tryz.func116 Tryz.ntmps116 (AD Ft AG) ?_;rintro w0 O0 ⟨a,b,u⟩ c - -;simp only[CX,AL];repeat'(first|exact trivial|refine eS rfl ?_|refine AB ?_|refine rX c ?_ ?_|refine rC ?_ ?_<;>intro d<;>try(cases d;done))
 exact fI c [.tmp 4]
def sJ (l:List (Int×Int)):Prop:=∀i,i+1<l.length→(l.getD i (0,0)).1<(l.getD (i+1) (0,0)).1
end
def Qh (f:List AK):Nat→List Int→Int→List Int
 | 0,o,_=>o
 | k+1,o,n=>(f.getD n.toNat (0,[])).2.foldl (fun o a=>if a.2∈o then o else Qh f k o a.2) (o++[n])
def DB (f:List AK) (k:Nat) (o:List Int) (a:Int×Int):List Int:=if a.2∈o then o else Qh f k o a.2
theorem Nw (f:List AK) (k:Nat) (o:List Int) (n:Int):Qh f (k+1) o n=(f.getD n.toNat (0,[])).2.foldl (DB f k) (o++[n]):=rfl
structure QL (f:List AK) (o:List Int):Prop where
 nd:o.Nodup
 rng:∀x∈o,0≤x∧x<(f.length:Int)
theorem QL.len {f:List AK} {o:List Int} (h:QL f o):o.length≤f.length:=by
 have h1:(o.map Int.toNat).Nodup:=by
  rw[List.Nodup,ABo];refine h.nd.imp_of_mem fun {a b} ha c g e=>g ?_;have:=h.rng a ha;have:=h.rng b c;omega
 have:=Dm f.length (o.map Int.toNat) h1 (fun j d=>by
  obtain⟨x,i,rfl⟩:=Of.1 d;have:=h.rng x i;omega)
 simpa using this
theorem QL.snoc {f:List AK} {o:List Int} (h:QL f o) {n:Int} (h0:0≤n) (h1:n<f.length) (hn:n∉o):QL f (o++[n]):=by
 refine⟨?_,fun x c=>?_⟩
 ·rw[AAF];refine⟨h.nd,by simp,fun a ha b d=>?_⟩;have:b=n:=by simpa using d
  subst this;intro e;subst e;exact hn ha
 ·rcases ON.1 c with c|c
  ·exact h.rng x c
  ·have:x=n:=by simpa using c
   subst this;exact⟨h0,h1⟩
theorem K8 {f:List AK} {k:Nat} (e:∀(o:List Int) (n:Int),QL f o→0≤n→n<f.length→n∉o→QL f (Qh f k o n)∧o <+: Qh f k o n) :
  ∀(l:List (Int×Int)) (o:List Int),(∀a∈l,0≤a.2∧a.2<(f.length:Int))→QL f o→QL f (l.foldl (DB f k) o)∧o <+: l.foldl (DB f k) o
 | [],o,_,h=>⟨h,AAO _⟩
 | a :: l,o,c,h=>by
  simp only[TO];have d:QL f (DB f k o a)∧o <+: DB f k o a:=by
   unfold DB;split
   ·exact⟨h,AAO _⟩
   ·rename_i hn;exact e o a.2 h (c a (by simp)).1 (c a (by simp)).2 hn
  obtain⟨g,i⟩:=K8 e l _ (fun b j=>c b (by simp[j])) d.1;exact⟨g,d.2.trans i⟩
theorem I6 {f:List AK} (hf:EE f) {n:Int} {a:Int×Int} (ha:a∈(f.getD n.toNat (0,[])).2):0≤a.2∧a.2<f.length:=by
 by_cases h:n.toNat<f.length
 ·have b:f.getD n.toNat (0,[])∈f:=by
   rw[AS,AT h];exact AAf h
  exact(hf.2 _ b).2 a ha
 ·rw[AS,iS (by omega)]at ha;simp at ha
theorem K9 {f:List AK} (hf:EE f):∀(k:Nat) (o:List Int) (n:Int),QL f o→0≤n→n<f.length→n∉o→QL f (Qh f k o n)∧o <+: Qh f k o n
 | 0,o,n,h,_,_,_=>⟨h,AAO _⟩
 | k+1,o,n,h,h0,h1,d=>by
  obtain⟨b,c⟩:=K8 (K9 hf k) _ _ (fun a ha=>I6 hf ha) (h.snoc h0 h1 d);rw[Nw];exact⟨b,(ACc o [n]).trans c⟩
theorem Sq {f:List AK} (hf:EE f):∀(k:Nat) (o:List Int) (n:Int),QL f o→0≤n→n<f.length→n∉o→f.length-o.length≤k →
  n∈Qh f k o n∧∀x∈Qh f k o n,x∈o∨∀a∈(f.getD x.toNat (0,[])).2,a.2∈Qh f k o n
 | 0,o,n,h,h0,h1,m,hk=>by
  have:=(h.snoc h0 h1 m).len;simp only[On,oS]at this;omega
 | k+1,o,n,h,h0,h1,m,hk=>by
  have key:∀(l:List (Int×Int)) (t:List Int),(∀a∈l,0≤a.2∧a.2<(f.length:Int))→QL f t→f.length-t.length≤k →
    (∀a∈l,a.2∈l.foldl (DB f k) t)∧∀x∈l.foldl (DB f k) t,x∈t∨∀a∈(f.getD x.toNat (0,[])).2,a.2∈l.foldl (DB f k) t:=by
   intro l;induction l with
   | nil=>exact fun t _ _ _=>⟨fun a ha=>(by cases ha),fun x c=>.inl c⟩
   | cons a l z =>
    intro t p r u;simp only[TO];have v:QL f (DB f k t a)∧t <+: DB f k t a∧a.2∈DB f k t a∧∀x∈DB f k t a,x∈t∨∀b∈(f.getD x.toNat (0,[])).2,b.2∈DB f k t a:=by
     unfold DB;split
     ·rename_i hn;exact⟨r,AAO _,hn,fun x c=>.inl c⟩
     ·rename_i hn;have q:=p a (by simp);obtain⟨e,g⟩:=K9 hf k t a.2 r q.1 q.2 hn;obtain⟨i,j⟩:=Sq hf k t a.2 r q.1 q.2 hn u;exact⟨e,g,i,j⟩
    obtain⟨e,g,i,j⟩:=v;have A:=g.length_le;obtain⟨w,y⟩:=z (DB f k t a) (fun b d=>p b (by simp[d])) e (by omega);obtain⟨_,s⟩:=K8 (K9 hf k) l (DB f k t a) (fun b d=>p b (by simp[d])) e;refine⟨fun b d=>?_,fun x c=>?_⟩
    ·rcases Do.1 d with rfl|d
     ·exact s.subset i
     ·exact w b d
    ·rcases y x c with c|c
     ·rcases j x c with c|c
      ·exact .inl c
      ·exact .inr fun b d=>s.subset (c b d)
     ·exact .inr c
  have hs:=h.snoc h0 h1 m;obtain⟨e,g⟩:=key (f.getD n.toNat (0,[])).2 (o++[n]) (fun a ha=>I6 hf ha) hs (by simp only[On,oS];omega);obtain⟨_,i⟩:=K8 (K9 hf k) (f.getD n.toNat (0,[])).2 (o++[n]) (fun a ha=>I6 hf ha) hs;rw[Nw];refine⟨i.subset (by simp),fun x c=>?_⟩;rcases g x c with c|c
  ·rcases ON.1 c with c|c
   ·exact .inl c
   ·have:x=n:=by simpa using c
    subst this;exact .inr e
  ·exact .inr c
def yW (o:List Int) (x:Int):Int:=if x∈o then (o.idxOf x:Int) else 0
def YX (o:List Int) (a:Int×Int):Int×Int:=(a.1,yW o a.2)
def QM (f:List AK) (o:List Int) (n:Int):AK:=((f.getD n.toNat (0,[])).1,(f.getD n.toNat (0,[])).2.map (YX o))
def Ej (f:List AK) (root:Int):List AK:=(Qh f f.length [] root).map (QM f (Qh f f.length [] root))
def mC (f:List AK):Prop:=∀x∈f,sJ x.2∧x.2.length≤200
theorem sK {f:List AK} (hf:mC f) (n:Int):sJ (f.getD n.toNat (0,[])).2∧(f.getD n.toNat (0,[])).2.length≤200:=by
 by_cases h:n.toNat<f.length
 ·have a:f.getD n.toNat (0,[])∈f:=by
   rw[AS,AT h];exact AAf h
  exact hf _ a
 ·rw[AS,iS (by omega)];exact⟨fun i hi=>by simp at hi,by simp⟩
theorem LA {l:List (Int×Int)} (h:sJ l):AX l=l:=by
 have key:∀i,i≤l.length→AX (l.take i)=l.take i:=by
  intro i;induction i with
  | zero=>intro _;rfl
  | succ i d =>
   intro hi;rw[Ae l (0,0) (by omega),GX,d (by omega)];have b:(l.take i).length=i:=by rw[OR];omega
   have c:HQ (l.getD i (0,0)) (l.take i) (l.take i).length=(l.take i).length:=by
    rw[b];cases i with
    | zero=>rfl
    | succ i =>
     have h1:=h i (by omega);have a:(l.take (i+1)).getD i (0,0)=l.getD i (0,0):=by
      simp only[AS];rw[iN];simp
     simp only[HQ];rw[a,At (by omega)]
   unfold Mg;rw[c,gO,ABE,AAl]
 have:=key l.length (If _)
 rwa [gO]at this
structure KF (f:List AK) (num o:List Int):Prop where
 len:num.length=f.length
 get:∀j,j<f.length→num.getD j 0=if (j:Int)∈o then (o.idxOf (j:Int):Int) else -1
theorem KF.neg {f:List AK} {num o:List Int} (h:KF f num o) {n:Int} (h0:0≤n) (h1:n<f.length):num.getD n.toNat 0<0↔n∉o:=by
 have:=h.get n.toNat (by omega);rw[show ((n.toNat:Nat):Int)=n by omega]at this;rw[this];split
 ·rename_i a;constructor
  ·intro e;omega
  ·intro e;exact absurd a e
 ·rename_i a;exact⟨fun _=>a,fun _=>by omega⟩
theorem Uy {o:List Int} {x n:Int} (h:x∈o):(o++[n]).idxOf x=o.idxOf x:=by rw[List.idxOf_append,BY h]
theorem Uz {o:List Int} {n:Int} (h:n∉o):(o++[n]).idxOf n=o.length:=by rw[List.idxOf_append,At h];simp
theorem KF.snoc {f:List AK} {num o:List Int} (h:KF f num o) {n:Int} (h0:0≤n) (h1:n<f.length) (hn:n∉o):KF f (num.set n.toNat (o.length:Int)) (o++[n]):=by
 refine⟨by simpa using h.len,fun j b=>?_⟩;have d:j<num.length:=by rw[h.len];exact b
 by_cases e:j=n.toNat
 ·subst e;have en:((n.toNat:Nat):Int)=n:=by omega
  rw[en];simp only[AS];rw[List.getElem?_set_self d,BY (by simp),Uz hn];simp
 ·have en:¬(j:Int)=n:=by omega
  simp only[AS];rw[List.getElem?_set_ne (fun c=>e c.symm)];have:=h.get j b;simp only[AS]at this;rw[this];by_cases a:(j:Int)∈o
  ·rw[BY a,BY (by simp[a]),Uy a]
  ·rw[At a,At (by simp[a,en])]
theorem Sr {f:List AK} (hf:EE f) (hs:mC f):∀(k:Nat) (s:List Int×List Int) (n:Int),KF f s.1 s.2→QL f s.2→0≤n→n<f.length→n∉s.2→(DY f k s n).2=Qh f k s.2 n∧KF f (DY f k s n).1 (DY f k s n).2
 | 0,s,n,h,_,_,_,_=>⟨rfl,h⟩
 | k+1,s,n,h,w,h0,h1,m=>by
  have key:∀(l:List (Int×Int)) (t:List Int×List Int),(∀a∈l,0≤a.2∧a.2<(f.length:Int))→KF f t.1 t.2→QL f t.2→(l.foldl (Dw f k) t).2=l.foldl (DB f k) t.2∧KF f (l.foldl (Dw f k) t).1 (l.foldl (Dw f k) t).2:=by
   intro l;induction l with
   | nil=>exact fun t _ d _=>⟨rfl,d⟩
   | cons a l z =>
    intro t o d j;simp only[TO];have q:=o a (by simp);have p:=d.neg q.1 q.2;have x:(Dw f k t a).2=DB f k t.2 a∧KF f (Dw f k t a).1 (Dw f k t a).2∧QL f (Dw f k t a).2:=by
     unfold Dw DB;by_cases c:a.2∈t.2
     ·rw[BY c,At (by rw[p];exact fun e=>e c)];exact⟨rfl,d,j⟩
     ·rw[At c,BY (by rw[p];exact c)];obtain⟨g,i⟩:=Sr hf hs k t a.2 d j q.1 q.2 c;exact⟨g,i,by rw[g];exact(K9 hf k t.2 a.2 j q.1 q.2 c).1⟩
    obtain⟨g,i,u⟩:=x;obtain⟨r,y⟩:=z (Dw f k t a) (fun b v=>o b (by simp[v])) i u;rw[g]at r;exact⟨r,y⟩
  rw[E0,Nw,LA (sK hs n).1];exact key _ (s.1.set n.toNat (s.2.length:Int),s.2++[n]) (fun a ha=>I6 hf ha) (h.snoc h0 h1 m) (w.snoc h0 h1 m)
theorem Ss {f:List AK} (hf:EE f) (hs:mC f) {root:Int} (h0:0≤root) (h1:root<f.length):I4 f root=Ej f root:=by
 have l:KF f (List.replicate f.length (-1)) []:=⟨by simp,fun j k=>by simp[AS,AAT,k]⟩;have d:QL f []:=⟨by simp,fun x e=>by cases e⟩;obtain⟨c,b⟩:=Sr hf hs f.length (List.replicate f.length (-1),[]) root l d h0 h1 (by simp);have c:(K1 f root).2=Qh f f.length [] root:=c;have b:KF f (K1 f root).1 (K1 f root).2:=b;have i:=(Sq hf f.length [] root d h0 h1 (by simp) (by simp)).2;have m:=(K9 hf f.length [] root d h0 h1 (by simp)).1;unfold I4 Ej;rw[c]at b ⊢;generalize Qh f f.length [] root=o at *;refine AAD fun x e=>?_;unfold K3 QM;rw[LA (sK hs x).1];refine AB5 _ (AAD fun a ha=>?_);unfold Ti YX yW;have h:a.2∈o:=by
  rcases i x e with g|g
  ·cases g
  ·exact g a ha
 have n:=I6 hf ha;have:=b.get a.2.toNat (by omega);rw[show ((a.2.toNat:Nat):Int)=a.2 by omega]at this;rw[this,BY h,BY h]
def nU (o:List Int):List (Int×Int):=(List.range o.length).map fun i=>(o.getD i 0,(i:Int))
theorem YY (o:List Int) (n:Int):nU (o++[n])=nU o++[(n,(o.length:Int))]:=by
 unfold nU;rw[On,oS,AAb,AAM]
 congr 1
 ·refine AAD fun i hi=>?_;have:i<o.length:=oN.1 hi;simp only[AS];rw[AA2 this]
 ·simp[AS]
theorem mD (k:Int) (a b:List (Int×Int)):Ay T3 T3 k (a++b)=(Ay T3 T3 k a).or (Ay T3 T3 k b):=by
 induction a with
 | nil=>rfl
 | cons x a c =>
  simp only[ABe,Ay];split
  ·rfl
  ·exact c
theorem Fu {α:Type} {p:List α→Prop} (h0:p []) (h1:∀l a,p l→p (l++[a])) (l:List α):p l:=by
 have:∀n (l:List α),l.length=n→p l:=by
  intro n;induction n with
  | zero=>intro l b;rw[List.length_eq_zero_iff.1 b];exact h0
  | succ n d =>
   intro l b;have c:l≠[]:=by intro e;subst e;simp at b
   rw[←List.dropLast_concat_getLast c];exact h1 _ _ (d _ (by simp[b]))
 exact this _ l rfl
theorem PR (o:List Int) (x:Int):Ay T3 T3 x (nU o)=if x∈o then some (o.idxOf x:Int) else none:=by
 induction o using Fu with
 | h0=>rfl
 | h1 o n b =>
  rw[YY,mD,b];by_cases a:x∈o
  ·rw[BY a,BY (by simp[a]),Uy a];rfl
  ·rw[At a];by_cases hn:x=n
   ·subst hn;rw[BY (by simp),Uz a];simp[Ay,IR]
   ·rw[At (by simp[a,hn])];have:((x==n)=true)↔False:=by simp[hn]
    simp[Ay,IR,hn]
theorem mE (k v:Int) (l:List (Int×Int)) (h:Ay T3 T3 k l=none):Gi T3 T3 k v l=l++[(k,v)]:=by
 induction l with
 | nil=>rfl
 | cons x l b =>
  simp only[Ay]at h;simp only[Gi,ABe];split at h
  ·cases h
  ·rename_i a;rw[At a,b h]
theorem sL {o:List Int} {n:Int} (hn:n∉o):Gi T3 T3 n (o.length:Int) (nU o)=nU (o++[n]):=by
 rw[mE _ _ _ (by rw[PR,At hn]),YY]
theorem yX (o:List Int) (x:Int):(Ay T3 T3 x (nU o)).getD 0=yW o x:=by
 rw[PR];unfold yW;split<;>rfl
theorem Su (o:List Int) (x:Int):(Ay T3 T3 x (nU o)).isSome=decide (x∈o):=by
 rw[PR];split<;>simp[*]
section
variable {α:Type}
structure SO (o:α→α→Int):Prop where
 anti:∀a b,o b a=- o a b
 trans:∀ {a b c},o a b<0→o b c<0→o a c<0
variable {o:α→α→Int} {d:α}
def B9 (d:α) (l:List α) (i j:Nat):List α:=(l.set i (l.getD j d)).set j (l.getD i d)
theorem HU {l:List α} {i j:Nat} (hi:i<l.length) (c:j<l.length) (k:Nat):(B9 d l i j).getD k d=if k=j then l.getD i d else if k=i then l.getD j d else l.getD k d:=by
 unfold B9;simp only[AS,AAp,AAw];by_cases a:j=k
 ·rw[BY a,BY (by omega),BY a.symm];rfl
 ·rw[At a,At (show ¬k=j by omega)];by_cases b:i=k
  ·rw[BY b,BY (by omega),BY b.symm];rfl
  ·rw[At b,At (show ¬k=i by omega)]
theorem mF {l:List α} {i j:Nat} (hi:i<l.length) (a:j<l.length):(B9 d l i j).Perm l:=by
 have b:l.getD i d=l[i]:=by rw[AS,AT hi];rfl
 have c:l.getD j d=l[j]:=by rw[AS,AT a];rfl
 unfold B9;rw[b,c];exact List.set_set_perm hi a
structure Db (d:α) (a b:Nat) (l r:List α):Prop where
 perm:r.Perm l
 out:∀k,k<a∨b≤k→r.getD k d=l.getD k d
 inn:∀i,a≤i→i<b→∃j,a≤j∧j<b∧r.getD i d=l.getD j d
theorem Db.len {a b:Nat} {l r:List α} (h:Db d a b l r):r.length=l.length:=h.perm.length_eq
theorem Db.refl (a b:Nat) (l:List α):Db d a b l l:=⟨List.Perm.refl _,fun _ _=>rfl,fun i h1 c=>⟨i,h1,c,rfl⟩⟩
theorem Db.trans {a b:Nat} {l r s:List α} (h:Db d a b l r) (c:Db d a b r s):Db d a b l s:=⟨c.perm.trans h.perm,fun k hk=>(c.out k hk).trans (h.out k hk),fun i h1 g=>by
 obtain⟨j,m,n,e⟩:=c.inn i h1 g;obtain⟨k,o,p,f⟩:=h.inn j m n;exact⟨k,o,p,e.trans f⟩⟩
theorem Db.mono {a b c b':Nat} {l r:List α} (h:Db d a b l r) (ha:c≤a) (g:b≤b'):Db d c b' l r:=⟨h.perm,fun k hk=>h.out k (by omega),fun i h1 f=>by
 by_cases hi:a≤i∧i<b
 ·obtain⟨j,m,n,e⟩:=h.inn i hi.1 hi.2;exact⟨j,by omega,by omega,e⟩
 ·exact⟨i,h1,f,h.out i (by omega)⟩⟩
theorem Db.swap {a b:Nat} (l:List α) {i j:Nat} (g:a≤i) (h:i<b) (m:a≤j) (n:j<b) (q:b≤l.length):Db d a b l (B9 d l i j):=by
 have f:=HU (d:=d) (l:=l) (i:=i) (j:=j) (by omega) (by omega);refine⟨mF (by omega) (by omega),fun k hk=>?_,fun k o p=>?_⟩
 ·rw[f k,At (by omega),At (by omega)]
 ·rw[f k];by_cases c:k=j
  ·rw[BY c];exact⟨i,g,h,rfl⟩
  ·rw[At c];by_cases e:k=i
   ·rw[BY e];exact⟨j,m,n,rfl⟩
   ·rw[At e];exact⟨k,o,p,rfl⟩
def ZF (o:α→α→Int) (d:α) (l:List α):Prop:=∀i j,i<l.length→j<l.length→i≠j→o (l.getD i d) (l.getD j d)≠0
theorem jC (g:SO o) (l:List α):ZF o d l↔l.Pairwise fun a b=>o a b≠0:=by
 have e:∀i (h:i<l.length),l.getD i d=l[i]:=fun i h=>by rw[AS,AT h];rfl
 rw[nO];constructor
 ·intro h i j hi c f;have:=h i j hi c (by omega)
  rwa [e i hi,e j c]at this
 ·intro h i j hi c f;rw[e i hi,e j c];rcases Nat.lt_or_gt_of_ne f with h1|h1
  ·exact h i j hi c h1
  ·have k:=h j i c hi h1;rw[g.anti];omega
theorem ZF.perm (c:SO o) {l r:List α} (h:ZF o d l) (hp:r.Perm l):ZF o d r:=by
 rw[jC c]at h ⊢;refine(hp.symm.pairwise_iff ?_).1 h;intro a b e;rw[c.anti];omega
theorem ZF.lt (c:SO o) {l:List α} (h:ZF o d l) {i j:Nat} (hi:i<l.length) (b:j<l.length) (a:i≠j) (hn:¬o (l.getD i d) (l.getD j d)<0):o (l.getD j d) (l.getD i d)<0:=by
 have h1:=h i j hi b a;rw[c.anti];omega
def PT (o:α→α→Int) (d:α) (a b:Nat) (l:List α):Prop:=∀i j,a≤i→i<j→j<b→o (l.getD i d) (l.getD j d)<0
theorem WZ (a:Nat) (l:List α):PT o d a (a+1) l:=fun i j h1 b c=>by omega
theorem sM (g:SO o) {a b:Nat} {l:List α} (h:PT o d a b l) (m:a<b) (c:o (l.getD (b-1) d) (l.getD b d)<0):PT o d a (b+1) l:=by
 intro i j h1 e k;by_cases f:j=b
 ·subst f;by_cases hi:i=j-1
  ·rw[hi];exact c
  ·exact g.trans (h i (j-1) h1 (by omega) (by omega)) c
 ·exact h i j h1 e (by omega)
theorem Lg {a b:Nat} {l r:List α} (h:PT o d a b l) (e:∀k,a≤k→k<b→r.getD k d=l.getD k d):PT o d a b r:=fun i j h1 f c=>by
 rw[e i h1 (by omega),e j (by omega) c];exact h i j h1 f c
def bD (o:α→α→Int) (d:α) (a i j:Nat) (m:List α):Prop:=(∀x y,a≤x→x<y→y≤i→x≠j→y≠j→o (m.getD x d) (m.getD y d)<0)∧∀y,j<y→y≤i→o (m.getD j d) (m.getD y d)<0
theorem bE {a i:Nat} {m:List α} (h:PT o d a i m):bD o d a i i m:=⟨fun x y h0 h1 b c e=>h x y h0 h1 (by omega),fun y h1 b=>by omega⟩
theorem Sv (g:SO o) {a i j:Nat} {m:List α} (h:bD o d a i j m) (l:a≤j) (n:j≤i) (b:j=a∨o (m.getD (j-1) d) (m.getD j d)<0):PT o d a (i+1) m:=by
 intro x y h0 h1 k;by_cases c:x=j
 ·subst c;exact h.2 y h1 (by omega)
 ·by_cases e:y=j
  ·subst e;rcases b with b|b
   ·omega
   ·by_cases f:x=y-1
    ·subst f;exact b
    ·exact g.trans (h.1 x (y-1) h0 (by omega) (by omega) c (by omega)) b
  ·exact h.1 x y h0 h1 (by omega) c e
theorem U0 {a i j:Nat} {m:List α} (h:bD o d a i j m) (h0:a<j) (q:j≤i) (hi:i<m.length) (p:o (m.getD j d) (m.getD (j-1) d)<0):bD o d a i (j-1) (B9 d m j (j-1)):=by
 have f:=HU (d:=d) (l:=m) (i:=j) (j:=j-1) (by omega) (by omega);refine⟨fun x y g h1 e k n=>?_,fun y h1 e=>?_⟩
 ·rw[f x,f y,At k,At n];by_cases c:x=j
  ·subst c;rw[BY rfl,At (by omega)];exact h.1 (x-1) y (by omega) (by omega) e (by omega) (by omega)
  ·rw[At c];by_cases b:y=j
   ·rw[BY b];exact h.1 x (j-1) g (by omega) (by omega) c (by omega)
   ·rw[At b];exact h.1 x y g h1 e c b
 ·rw[f (j-1),f y,BY rfl,At (by omega)];by_cases b:y=j
  ·rw[BY b];exact p
  ·rw[At b];exact h.2 y (by omega) e
def Hp (o:α→α→Int) (d:α) (f hi lo:Nat) (m:List α):Prop:=∀k c,lo≤k→(c=2*k+1∨c=2*k+2)→c<hi→o (m.getD (f+c) d) (m.getD (f+k) d)<0
structure z5 (o:α→α→Int) (d:α) (f hi lo root:Nat) (m:List α):Prop where
 le:lo≤root
 hp:∀k c,lo≤k→k≠root→(c=2*k+1∨c=2*k+2)→c<hi→o (m.getD (f+c) d) (m.getD (f+k) d)<0
 up:∀p c,lo≤p→(root=2*p+1∨root=2*p+2)→(c=2*root+1∨c=2*root+2)→c<hi→o (m.getD (f+c) d) (m.getD (f+p) d)<0
theorem mG {f hi lo:Nat} {m:List α} (h:Hp o d f hi (lo+1) m):z5 o d f hi lo lo m:=⟨If _,fun k c h1 a b e=>h k c (by omega) b e,fun p c h1 a=>by omega⟩
theorem sN {f hi lo root:Nat} {m:List α} (h:z5 o d f hi lo root m) (e:hi≤2*root+1):Hp o d f hi lo m:=fun k c h1 a b=>h.hp k c h1 (by omega) a b
theorem YZ (i:SO o) {f hi lo root ch:Nat} {m:List α} (h:z5 o d f hi lo root m) (j:ch=2*root+1∨ch=2*root+2) (g:o (m.getD (f+ch) d) (m.getD (f+root) d)<0)
  (hs:∀c,(c=2*root+1∨c=2*root+2)→c<hi→c≠ch→o (m.getD (f+c) d) (m.getD (f+ch) d)<0):Hp o d f hi lo m:=fun k c h1 a b=>by
 by_cases hk:k=root
 ·subst hk;by_cases e:c=ch
  ·rw[e];exact g
  ·exact i.trans (hs c a b e) g
 ·exact h.hp k c h1 hk a b
theorem Ya {f hi lo root ch:Nat} {m:List α} (h:z5 o d f hi lo root m) (r:ch<hi) (hf:f+hi≤m.length) (n:ch=2*root+1∨ch=2*root+2) (t:o (m.getD (f+root) d) (m.getD (f+ch) d)<0)
  (hs:∀c,(c=2*root+1∨c=2*root+2)→c<hi→c≠ch→o (m.getD (f+c) d) (m.getD (f+ch) d)<0):z5 o d f hi lo ch (B9 d m (f+root) (f+ch)):=by
 have e:=HU (d:=d) (l:=m) (i:=f+root) (j:=f+ch) (by omega) (by omega);have u:=h.le;refine⟨by omega,fun k c h1 g a b=>?_,fun p c h1 g a b=>?_⟩
 ·rw[e,e];by_cases hk:k=root
  ·subst hk;rw[At (show ¬f+k=f+ch by omega),BY rfl];by_cases q:c=ch
   ·rw[BY (by omega)];exact t
   ·rw[At (by omega),At (by omega)];exact hs c a b q
  ·rw[At (show ¬f+k=f+ch by omega),At (show ¬f+k=f+root by omega)];by_cases s:c=root
   ·subst s;rw[At (by omega),BY rfl];exact h.up k ch h1 a n r
   ·rw[At (by omega),At (by omega)];exact h.hp k c h1 hk a b
 ·have hp:p=root:=by omega
  subst hp;rw[e,e,At (by omega),At (by omega),At (by omega),BY rfl];exact h.hp ch c (by omega) (by omega) a b
theorem Yb (b:SO o) {f hi:Nat} {m:List α} (h:Hp o d f hi 0 m):∀(n k:Nat),k≤n→0<k→k<hi→o (m.getD (f+k) d) (m.getD f d)<0
 | 0,k,h1,c,_=>by omega
 | n+1,k,h1,c,e=>by
  have a:=h ((k-1) / 2) k (by omega) (by omega) e;by_cases g:(k-1) / 2=0
  ·rw[g]at a;exact a
  ·exact b.trans a (Yb b h n ((k-1) / 2) (by omega) (by omega) (by omega))
structure mH (o:α→α→Int) (d:α) (f n i:Nat) (m:List α):Prop where
 heap:Hp o d f i 0 m
 srt:PT o d (f+i) (f+n) m
 big:∀x y,x<i→i≤y→y<n→o (m.getD (f+x) d) (m.getD (f+y) d)<0
theorem bF {f n:Nat} {m:List α} (h:Hp o d f n 0 m):mH o d f n n m:=⟨h,fun i j h1 a b=>by omega,fun x y h1 a b=>by omega⟩
theorem mI (t:SO o) {f n i:Nat} {m:List α} (h:mH o d f n (i+1) m) (hi:i<n) (v:f+n≤m.length) :
  z5 o d f i 0 0 (B9 d m f (f+i))∧PT o d (f+i) (f+n) (B9 d m f (f+i))∧∀x y,x<i→i≤y→y<n→o ((B9 d m f (f+i)).getD (f+x) d) ((B9 d m f (f+i)).getD (f+y) d)<0:=by
 have a:=HU (d:=d) (l:=m) (i:=f) (j:=f+i) (by omega) (by omega);have q:=Yb t h.heap i;refine⟨⟨If _,fun k c h1 e b u=>?_,fun p c h1 e=>by omega⟩,fun x y h1 e b=>?_,fun x y h1 e b=>?_⟩
 ·rw[a,a,At (by omega),At (by omega),At (by omega),At (by omega)];exact h.heap k c h1 b (by omega)
 ·rw[a,a,At (show ¬y=f+i by omega),At (show ¬y=f by omega)];by_cases g:x=f+i
  ·rw[BY g];have:=h.big 0 (y-f) (by omega) (by omega) (by omega)
   rwa [show f+0=f by omega,show f+(y-f)=y by omega]at this
  ·rw[At g,At (by omega)];exact h.srt x y (by omega) e b
 ·have key:∀z,z<i+1→i+1≤y→o (m.getD (f+z) d) (m.getD (f+y) d)<0:=fun z s r=>h.big z y s r b;rw[a,a,At (show ¬f+x=f+i by omega)];by_cases r:y=i
  ·rw[BY (show f+y=f+i by omega)];by_cases g:x=0
   ·rw[BY (show f+x=f by omega)];exact q i (by omega) (by omega) (by omega)
   ·rw[At (show ¬f+x=f by omega)];exact q x (by omega) (by omega) (by omega)
  ·rw[At (show ¬f+y=f+i by omega),At (show ¬f+y=f by omega)];by_cases g:x=0
   ·rw[BY (show f+x=f by omega)];exact key i (by omega) (by omega)
   ·rw[At (show ¬f+x=f by omega)];exact key x (by omega) (by omega)
theorem mJ {f n i:Nat} {m r:List α} (hp:Db d f (f+i) m r) (g:Hp o d f i 0 r) (hs:PT o d (f+i) (f+n) m) (c:∀x y,x<i→i≤y→y<n→o (m.getD (f+x) d) (m.getD (f+y) d)<0):mH o d f n i r :=
 ⟨g,Lg hs fun k h1 a=>hp.out k (by omega),fun x y h1 a b=>by
  rw[hp.out (f+y) (by omega)];obtain⟨j,h,l,e⟩:=hp.inn (f+x) (by omega) (by omega);rw[e];have:=c (j-f) y (by omega) a b
  rwa [show f+(j-f)=j by omega]at this⟩
theorem sO {f n:Nat} {m:List α} (h:mH o d f n 0 m):PT o d f (f+n) m:=h.srt
structure z6 (o:α→α→Int) (d:α) (a b i j:Nat) (m:List α):Prop where
 lo:∀x,a<x→x<i→o (m.getD x d) (m.getD a d)<0
 hi:∀x,j<x→x<b→o (m.getD a d) (m.getD x d)<0
theorem Yc {a b i j:Nat} {m:List α} (h:z6 o d a b i j m) (n:a<i) (q:i<j) (r:j<b) (p:b≤m.length) (h1:o (m.getD a d) (m.getD i d)<0) (k:o (m.getD j d) (m.getD a d)<0):z6 o d a b (i+1) (j-1) (B9 d m i j):=by
 have c:=HU (d:=d) (l:=m) (i:=i) (j:=j) (by omega) (by omega);refine⟨fun x f g=>?_,fun x f g=>?_⟩
 ·rw[c x,c a,At (show ¬x=j by omega),At (show ¬a=j by omega),At (show ¬a=i by omega)];by_cases e:x=i
  ·rw[BY e];exact k
  ·rw[At e];exact h.lo x f (by omega)
 ·rw[c x,c a,At (show ¬a=j by omega),At (show ¬a=i by omega)];by_cases e:x=j
  ·rw[BY e];exact h1
  ·rw[At e,At (by omega)];exact h.hi x (by omega) g
structure nV (o:α→α→Int) (d:α) (a b p:Nat) (m:List α):Prop where
 l:a≤p
 r:p<b
 lo:∀x,a≤x→x<p→o (m.getD x d) (m.getD p d)<0
 hi:∀x,p<x→x<b→o (m.getD p d) (m.getD x d)<0
theorem jD {a b j:Nat} {m:List α} (h:z6 o d a b (j+1) j m) (g:a≤j) (k:j<b) (p:b≤m.length):nV o d a b j (B9 d m j a):=by
 have c:=HU (d:=d) (l:=m) (i:=j) (j:=a) (by omega) (by omega);refine⟨g,k,fun x n f=>?_,fun x n f=>?_⟩
 ·rw[c x,c j,At (show ¬j=a by omega),BY rfl];by_cases e:x=a
  ·rw[BY e];exact h.lo j (by omega) (by omega)
  ·rw[At e,At (by omega)];exact h.lo x (by omega) (by omega)
 ·rw[c x,c j,At (show ¬x=a by omega),At (show ¬x=j by omega)];by_cases e:j=a
  ·rw[BY e];rw[e];exact h.hi x (by omega) f
  ·rw[At e,BY rfl];exact h.hi x (by omega) f
structure mK (o:α→α→Int) (d:α) (a0 b0 a b:Nat) (m:List α):Prop where
 s1:PT o d a0 a m
 s2:PT o d b b0 m
 c1:∀x y,a0≤x→x<a→a≤y→y<b0→o (m.getD x d) (m.getD y d)<0
 c2:∀x y,a0≤x→x<b→b≤y→y<b0→o (m.getD x d) (m.getD y d)<0
 ab:a0≤a∧a≤b∧b≤b0
theorem mL {a b:Nat} (g:a≤b) (m:List α):mK o d a b a b m:=⟨fun i j h1 c e=>by omega,fun i j h1 c e=>by omega,fun x y h1 c=>by omega,fun x y h1 c e f=>by omega,by omega⟩
theorem mK.pin {a0 l a b:Nat} {m r:List α} (h:mK o d a0 l a b m) (hp:Db d a b m r):mK o d a0 l a b r:=by
 obtain⟨v,A,w⟩:=h.ab;have key:∀(P:α→Prop) (lo hi:Nat),lo≤a→b≤hi→(∀y,lo≤y→y<hi→P (m.getD y d))→∀y,lo≤y→y<hi→P (r.getD y d):=fun P lo hi h1 n p y c f=>by
  obtain⟨j,q,s,e⟩:=(hp.mono h1 n).inn y c f;rw[e];exact p j q s
 refine⟨Lg h.s1 fun k t u=>hp.out k (by omega),Lg h.s2 fun k t u=>hp.out k (by omega),fun x y g i c f=>?_,fun x y g i c f=>?_,h.ab⟩
 ·rw[hp.out x (by omega)];exact key (fun z=>o (m.getD x d) z<0) a l (If _) w (fun y c f=>h.c1 x y g i c f) y c f
 ·rw[hp.out y (by omega)];exact key (fun z=>o z (m.getD y d)<0) a0 b v (If _) (fun x g i=>h.c2 x y g i c f) x g i
theorem mK.done {a0 g a b:Nat} {m:List α} (h:mK o d a0 g a b m) (hs:PT o d a b m):PT o d a0 g m:=by
 obtain⟨l,n,p⟩:=h.ab;intro i j h1 c e;by_cases hi:i<a
 ·by_cases f:j<a
  ·exact h.s1 i j h1 c f
  ·exact h.c1 i j h1 hi (by omega) e
 ·by_cases f:j<b
  ·exact hs i j (by omega) c f
  ·by_cases k:i<b
   ·exact h.c2 i j h1 k (by omega) e
   ·exact h.s2 i j (by omega) c e
theorem mK.left (t:SO o) {a0 e a b p:Nat} {m:List α} (h:mK o d a0 e a b m) (hp:nV o d a b p m) (hs:PT o d a p m):mK o d a0 e (p+1) b m:=by
 obtain⟨z,A,B⟩:=h.ab;have v:=hp.l;have w:=hp.r;refine⟨fun i j h1 f u=>?_,h.s2,fun x y k C D n=>?_,h.c2,by omega⟩
 ·by_cases hi:i<a
  ·by_cases c:j<a
   ·exact h.s1 i j h1 f c
   ·exact h.c1 i j h1 hi (by omega) (by omega)
  ·by_cases c:j=p
   ·rw[c];exact hp.lo i (by omega) (by omega)
   ·exact hs i j (by omega) f (by omega)
 ·by_cases q:x<a
  ·exact h.c1 x y k q (by omega) n
  ·by_cases g:y<b
   ·by_cases s:x=p
    ·rw[s];exact hp.hi y (by omega) g
    ·exact t.trans (hp.lo x (by omega) (by omega)) (hp.hi y (by omega) g)
   ·exact h.c2 x y k (by omega) (by omega) n
theorem mK.right (w:SO o) {a0 g a b p:Nat} {m:List α} (h:mK o d a0 g a b m) (hp:nV o d a b p m) (hs:PT o d (p+1) b m):mK o d a0 g a p m:=by
 obtain⟨B,C,D⟩:=h.ab;have z:=hp.l;have A:=hp.r;refine⟨h.s1,fun i j h1 k n=>?_,fun x y c e s f=>h.c1 x y c e s f,fun x y c e s f=>?_,by omega⟩
 ·by_cases q:j<b
  ·by_cases hi:i=p
   ·rw[hi];exact hp.hi j (by omega) q
   ·exact hs i j (by omega) k q
  ·by_cases t:i<b
   ·exact h.c2 i j (by omega) t (by omega) n
   ·exact h.s2 i j (by omega) k n
 ·by_cases v:y<b
  ·by_cases u:x<a
   ·exact h.c1 x y c u (by omega) f
   ·by_cases hyp:y=p
    ·rw[hyp];exact hp.lo x (by omega) e
    ·exact w.trans (hp.lo x (by omega) e) (hp.hi y (by omega) v)
  ·exact h.c2 x y c (by omega) (by omega) f
theorem nV.pinL {a b p:Nat} {m r:List α} (h:nV o d a b p m) (hp:Db d a p m r):nV o d a b p r:=by
 have g:=h.l;have i:=h.r;refine⟨g,i,fun x c f=>?_,fun x c f=>?_⟩
 ·rw[hp.out p (by omega)];obtain⟨j,k,n,e⟩:=hp.inn x c f;rw[e];exact h.lo j k n
 ·rw[hp.out p (by omega),hp.out x (by omega)];exact h.hi x c f
theorem nV.pinR {a b p:Nat} {m r:List α} (h:nV o d a b p m) (hp:Db d (p+1) b m r):nV o d a b p r:=by
 have g:=h.l;have i:=h.r;refine⟨g,i,fun x f c=>?_,fun x f c=>?_⟩
 ·rw[hp.out p (by omega),hp.out x (by omega)];exact h.lo x f c
 ·rw[hp.out p (by omega)];obtain⟨j,n,k,e⟩:=hp.inn x (by omega) c;rw[e];exact h.hi j (by omega) k
def Bf (o:α→α→Int) (d:α) (a b:Nat) (m:List α):Prop:=a=0∨∀y,a≤y→y<b→o (m.getD (a-1) d) (m.getD y d)<0
theorem Bf.pin {a b:Nat} {m r:List α} (h:Bf o d a b m) (hp:Db d a b m r):Bf o d a b r:=by
 rcases h with h|h
 ·exact .inl h
 ·by_cases h0:a=0
  ·exact .inl h0
  ·right;intro y g i;rw[hp.out (a-1) (by omega)];obtain⟨j,c,f,e⟩:=hp.inn y g i;rw[e];exact h j c f
theorem Bf.sub {a b b':Nat} {m:List α} (h:Bf o d a b m) (e:b'≤b):Bf o d a b' m:=h.imp id fun h y c f=>h y c (by omega)
theorem nV.bf {a b p:Nat} {m:List α} (h:nV o d a b p m):Bf o d (p+1) b m:=.inr fun y e c=>by
 rw[show p+1-1=p by omega];exact h.hi y (by omega) c
end
section
attribute [local go_sem] CX
def Bw (a b:Int×Int):Int:=E1 a.1 b.1
theorem B2:SO Bw:=⟨fun a b=>by unfold Bw E1;(repeat' split)<;>omega,fun {a b c} h1 d=>by
 unfold Bw E1 at *
 (repeat' split at h1)<;>(repeat' split at d)<;>(repeat' split)<;>omega⟩
theorem yY (l:List (Int×Int)) (M:l.length≤100000) (w:ZF Bw (0,0) l) (a b:Nat) (H:a≤100000) (I:b≤l.length):BE Tryz.prog 166 [.sr 1000000 BD 0 l.length,.p T3 (a:Int),.p T3 (b:Int),.fn 116] [(1000000,.arr 53 BD l)] [1000000] (fun res F=>res=.raw (.tuple #[])∧∃r,F=[(1000000,.arr 53 BD r)]∧Db (0,0) a b l r∧PT Bw (0,0) a b r):=by
 refine KK [0,1,2,3,8,9,14,34] [] [] Tryz.func166 Tryz.ntmps166 (AD EL AG) ?_;intro w0 K O0 ρ0 d O P;simp only[Ak];repeat'(first|exact trivial|refine eS rfl ?_|refine AB ?_|refine rX d ?_ ?_|refine rC ?_ ?_<;>intro e<;>try(cases e;done))
 ·omega
 ·refine AH (ι:={s:Nat×List (Int×Int)//a+1≤s.1∧(s.1=a+1∨s.1≤b)∧Db (0,0) a b l s.2∧PT Bw (0,0) a s.1 s.2}) (fun s=>⟨[(0,.sr 1000000 BD 0 l.length),(1,.p T3 (a:Int)),(2,.p T3 (b:Int)),(3,.fn 116),(8,.p (.int .i64) (s.1.1:Int))],[(1000000,.arr 53 BD s.1.2)]⟩) (fun s=>b-s.1.1) ⟨(a+1,l),If _,.inl rfl,Db.refl a b l,WZ a l⟩ (AC [(1000000,.nm 1000000)] rfl rfl ?_ ?_) (fun s=>?_)
  ·first|exact eN|refine eM ?_
  ·first|exact eN|refine eM ?_
  ·obtain⟨⟨i,m⟩,B,C,hp,hs⟩:=s;simp only at B C hp hs ⊢;have N:=hp.len;repeat'(first|exact trivial|refine eS rfl ?_|refine AB ?_|refine rX d ?_ ?_|refine rC ?_ ?_<;>intro e<;>try(cases e;done))
   ·have D:i<b:=by exact eV
    refine AH (ι:={t:Nat×List (Int×Int)//a≤t.1∧t.1≤i∧Db (0,0) a b l t.2∧bD Bw (0,0) a i t.1 t.2}) (fun t=>⟨[(0,.sr 1000000 BD 0 l.length),(1,.p T3 (a:Int)),(2,.p T3 (b:Int)),(3,.fn 116),(8,.p (.int .i64) (i:Int)),(9,.p (.int .i64) (t.1.1:Int))],[(1000000,.arr 53 BD t.1.2)]⟩) (fun t=>t.1.1) ⟨(i,m),by omega,If i,hp,bE hs⟩ (AC [(1000000,.nm 1000000)] rfl rfl ?_ ?_) (fun t=>?_)
    ·first|exact eN|refine eM ?_
    ·first|exact eN|refine eM ?_
    ·obtain⟨⟨j,c⟩,ha,q,g,o⟩:=t;simp only at ha q g o ⊢;have J:=g.len;have z:=w.perm B2 g.perm;repeat'(first|exact trivial|refine eS rfl ?_|refine AB ?_|refine rX d ?_ ?_)
     ·dsimp only[Ty.den]at *;exact⟨fun _=>by omega,fun _=>⟨by omega,by omega⟩,fun _=>⟨by omega,by omega⟩⟩
     ·have n:a<j→((j:Int)-1).toNat=j-1:=fun _=>by omega
      refine DH (by simp only[go_sem,Nat.reduceEqDiff,reduceCtorEq,Nat.reduceAdd,Nat.reduceSub,Nat.reduceMul,Nat.reduceLeDiff,Nat.reduceLT,Int.reduceLE,Int.reduceToNat,Int.reduceNeg,↓reduceIte];rfl) ?_ ?_
      ·intro f;simp only[An,GO]at f;have k:a<j:=by omega
       have u:Bw (c.getD j (0,0)) (c.getD ((j:Int)-1).toNat (0,0))<0:=f.2;rw[n k]at u;have E:B9 (0,0) c j (j-1)=(c.set j (c.getD (j-1) (0,0))).set (j-1) (c.getD j (0,0)):=rfl;repeat'(first|exact trivial|refine eS rfl ?_|refine AB ?_|refine rP d ?_ ?_|fail)
       (refine Cj drawsAny d 16 [([0,1,5,6,7,8,9,10,11,12,13,14],15)] [2,3,4] (by kernel_rfl) (R4 ?_ ?_);(next=>exact CA);refine Td d [] ?_ ?_;(next=>exact CA);refine TT d ?_ ?_ ?_;(next=>exact CA);(next=>exact CA))
       rw[n k];repeat'(first|exact trivial|refine eS rfl ?_|refine AB ?_|refine rX d ?_ ?_|refine rC ?_ ?_<;>intro e<;>try(cases e;done))
       ·dsimp only[Ty.den]at *;omega
       ·refine⟨⟨(j-1,B9 (0,0) c j (j-1)),by simp only;omega,by simp only;omega,g.trans (Db.swap c (by omega) (by omega) (by omega) (by omega) (by omega)),U0 o k q (by omega) u⟩,by simp only;omega,AC [(1000000,.nm 1000000)] rfl rfl ?_ ?_⟩
        ·simp only;rw[E];first|exact eN|refine eM ?_
        ·simp only;rw[show ((j-1:Nat):Int)=(j:Int)-1 by omega];first|exact eN|refine eM ?_
      ·intro f;have A:j=a∨Bw (c.getD (j-1) (0,0)) (c.getD j (0,0))<0:=by
        by_cases k:j=a
        ·exact .inl k
        ·right;simp only[AAt,NO]at f;rw[n (by omega)]at f;rcases f with h|h
         ·omega
         ·exact z.lt B2 (by omega) (by omega) (by omega) h
       repeat'(first|exact trivial|refine eS rfl ?_|refine AB ?_|refine rX d ?_ ?_|refine rC ?_ ?_<;>intro e<;>try(cases e;done))
       ·exact eV
       ·refine⟨⟨(i+1,c),by simp only;omega,.inr D,g,Sv B2 o ha q A⟩,by simp only;omega,AC [(1000000,.nm 1000000)] rfl rfl ?_ ?_⟩
        ·first|exact eN|refine eM ?_
        ·first|exact eN|refine eM ?_
   ·have L:b≤i:=by exact eV
    exact fM d [] (.raw (.tuple #[])) rfl ⟨rfl,m,rfl,hp,fun x y h1 v G=>hs x y h1 v (by omega)⟩
end
section
attribute [local go_sem] CX
theorem yZ (l:List (Int×Int)) (o:l.length≤100000) (a b:Nat) (h:a<b) (k:b≤l.length):BE Tryz.prog 170 [.sr 1000000 BD 0 l.length,.p T3 (a:Int),.p T3 (b:Int),.fn 116] [(1000000,.arr 53 BD l)] [1000000] (fun res g=>res=.raw (.tuple #[])∧∃r,g=[(1000000,.arr 53 BD r)]∧Db (0,0) a b l r):=by
 refine KK [0,1,2,8,9,15] [] [] Tryz.func170 Tryz.ntmps170 AG ?_;intro w0 K O0 ρ0 c t u;simp only[Ak];repeat'(first|exact trivial|refine eS rfl ?_|refine AB ?_|refine rX c ?_ ?_|refine rC ?_ ?_<;>intro d<;>try(cases d;done))
 ·omega
 ·rw[show (b:Int)-1=((b-1:Nat):Int) by omega];refine AH (ι:={s:Nat×Nat×List (Int×Int)//a≤s.1∧s.2.1<b∧Db (0,0) a b l s.2.2}) (fun s=>⟨[(0,.sr 1000000 BD 0 l.length),(8,.p (.int .i64) (s.1.1:Int)),(9,.p (.int .i64) (s.1.2.1:Int))],[(1000000,.arr 53 BD s.1.2.2)]⟩) (fun s=>s.1.2.1-s.1.1) ⟨(a,b-1,l),If _,by simp only;omega,Db.refl a b l⟩ (AC [(1000000,.nm 1000000)] rfl rfl ?_ ?_) (fun s=>?_)
  ·first|exact eN|refine eM ?_
  ·first|exact eN|refine eM ?_
  ·obtain⟨⟨i,j,m⟩,hi,e,hp⟩:=s;simp only at hi e hp ⊢;have q:=hp.len;repeat'(first|exact trivial|refine eS rfl ?_|refine AB ?_|refine rX c ?_ ?_)
   refine rC (fun d=>?_) (fun d=>?_)
   ·repeat'(first|exact trivial|refine eS rfl ?_|refine AB ?_|refine rP c ?_ ?_|fail)
    have n:i<j:=by omega
    have f:B9 (0,0) m i j=(m.set i (m.getD j (0,0))).set j (m.getD i (0,0)):=rfl
    (refine Cj drawsAny c 14 [([0,1,4,5,6,7,8,9,10,11,12],13)] [2,3] (by kernel_rfl) (R4 ?_ ?_);(next=>exact CA);refine Td c [] ?_ ?_;(next=>exact CA);refine TT c ?_ ?_ ?_;(next=>exact CA);(next=>exact CA))
    repeat'(first|exact trivial|refine eS rfl ?_|refine AB ?_|refine rX c ?_ ?_|refine rC ?_ ?_<;>intro d<;>try(cases d;done))
    ·omega
    ·omega
    ·refine⟨⟨(i+1,j-1,B9 (0,0) m i j),by simp only;omega,by simp only;omega,hp.trans (Db.swap m (by omega) (by omega) (by omega) (by omega) (by omega))⟩,by simp only;omega,AC [(1000000,.nm 1000000)] rfl rfl ?_ ?_⟩
     ·simp only;rw[f];first|exact eN|refine eM ?_
     ·simp only;rw[show ((j-1:Nat):Int)=(j:Int)-1 by omega];first|exact eN|refine eM ?_
   ·repeat'(first|exact trivial|refine eS rfl ?_|refine AB ?_|refine rX c ?_ ?_|refine rC ?_ ?_<;>intro d<;>try(cases d;done))
    exact fM c [] (.raw (.tuple #[])) rfl ⟨rfl,m,rfl,hp⟩
theorem Yd (l:List (Int×Int)) (o:l.length≤100000) (z:ZF Bw (0,0) l) (lo hi f:Nat) (G:lo≤100000) (hf:f+hi≤l.length) (A:z5 Bw (0,0) f hi lo lo l):BE Tryz.prog 178 [.sr 1000000 BD 0 l.length,.p T3 (lo:Int),.p T3 (hi:Int),.p T3 (f:Int),.fn 116] [(1000000,.arr 53 BD l)] [1000000] (fun res E=>res=.raw (.tuple #[])∧∃r,E=[(1000000,.arr 53 BD r)]∧Db (0,0) f (f+hi) l r∧Hp Bw (0,0) f hi lo r):=by
 refine KK [0,1,2,3,4,10,11,18,40,58] [] [] Tryz.func178 Tryz.ntmps178 (AD EL AG) ?_;intro w0 K O0 ρ0 a I J;simp only[Ak];repeat'(first|exact trivial|refine eS rfl ?_|refine AB ?_|refine rX a ?_ ?_|refine rC ?_ ?_<;>intro d<;>try(cases d;done))
 refine AH (ι:={s:Nat×List (Int×Int)//s.1≤lo+hi∧Db (0,0) f (f+hi) l s.2∧z5 Bw (0,0) f hi lo s.1 s.2}) (fun s=>⟨[(0,.sr 1000000 BD 0 l.length),(2,.p T3 (hi:Int)),(3,.p T3 (f:Int)),(4,.fn 116),(10,.p (.int .i64) (s.1.1:Int))],[(1000000,.arr 53 BD s.1.2)]⟩) (fun s=>lo+hi-s.1.1) ⟨(lo,l),by omega,Db.refl _ _ l,A⟩ (AC [(1000000,.nm 1000000)] rfl rfl ?_ ?_) (fun s=>?_)
 ·first|exact eN|refine eM ?_
 ·first|exact eN|refine eM ?_
 ·obtain⟨⟨root,m⟩,D,hp,k⟩:=s;simp only at D hp k ⊢;have H:=hp.len;have t:=z.perm B2 hp.perm;repeat'(first|exact trivial|refine eS rfl ?_|refine AB ?_|refine rX a ?_ ?_)
  ·omega
  ·refine rC (fun d=>?_) (fun d=>?_)
   ·have o:hi≤2*root+1:=by omega
    repeat'(first|exact trivial|refine eS rfl ?_|refine AB ?_|refine rX a ?_ ?_|refine rC ?_ ?_<;>intro d<;>try(cases d;done))
    exact fM a [] (.raw (.tuple #[])) rfl ⟨rfl,m,rfl,hp,sN k o⟩
   ·have o:2*root+1<hi:=by omega
    have n:((f:Int)+(2*(root:Int)+1)).toNat=f+(2*root+1):=by omega
    have q:((f:Int)+(2*(root:Int)+1+1)).toNat=f+(2*root+2):=by omega
    have w:((f:Int)+(2*(root:Int)+1)+1).toNat=f+(2*root+2):=by omega
    have g:((f:Int)+(root:Int)).toNat=f+root:=by omega
    repeat'(first|exact trivial|refine eS rfl ?_|refine AB ?_|refine rX a ?_ ?_)
    ·dsimp only[Ty.den];exact⟨by omega,fun _=>by omega,fun _=>by omega,fun _=>by omega,fun _=>by omega,fun _=>by omega⟩
    ·refine DH (by simp only[go_sem,Nat.reduceEqDiff,reduceCtorEq,Nat.reduceAdd,Nat.reduceSub,Nat.reduceMul,Nat.reduceLeDiff,Nat.reduceLT,Int.reduceLE,Int.reduceToNat,Int.reduceNeg,↓reduceIte];rfl) ?_ ?_
     ·intro e;simp only[An,GO]at e;obtain⟨F,e⟩:=e;have C:Bw (m.getD (f+(2*root+1)) (0,0)) (m.getD (f+(2*root+2)) (0,0))<0:=by rw[←n,←w];exact e
      have B:2*root+2<hi:=by omega
      have hs:∀c,(c=2*root+1∨c=2*root+2)→c<hi→c≠2*root+2→Bw (m.getD (f+c) (0,0)) (m.getD (f+(2*root+2)) (0,0))<0:=fun c h1 x y=>by
       rw[show c=2*root+1 by omega];exact C
      repeat'(first|exact trivial|refine eS rfl ?_|refine AB ?_|refine rX a ?_ ?_)
      ·omega
      ·exact CA
      ·refine DH (by simp only[go_sem,Nat.reduceEqDiff,reduceCtorEq,Nat.reduceAdd,Nat.reduceSub,Nat.reduceMul,Nat.reduceLeDiff,Nat.reduceLT,Int.reduceLE,Int.reduceToNat,Int.reduceNeg,↓reduceIte];rfl) ?_ ?_
       ·intro b;simp only[To,NO]at b;rw[g,q]at b;have u:=t.lt B2 (i:=f+root) (j:=f+(2*root+2)) (by omega) (by omega) (by omega) b;repeat'(first|exact trivial|refine eS rfl ?_|refine AB ?_|refine rX a ?_ ?_|refine rC ?_ ?_<;>intro d<;>try(cases d;done))
        exact fM a [] (.raw (.tuple #[])) rfl ⟨rfl,m,rfl,hp,YZ B2 k (.inr rfl) u hs⟩
       ·intro b;simp only[AAI,GO]at b;rw[g,q]at b;have v:B9 (0,0) m (f+root) (f+(2*root+2))=(m.set (f+root) (m.getD (f+(2*root+2)) (0,0))).set (f+(2*root+2)) (m.getD (f+root) (0,0)):=rfl;repeat'(first|exact trivial|refine eS rfl ?_|refine AB ?_|refine rP a ?_ ?_|fail)
        (refine Cj drawsAny a 22 [([0,1,2,3,8,9,10,11,12,13,14,15,16,17,18,19,20],21)] [4,5,6,7] (by kernel_rfl) (R4 ?_ ?_);(next=>exact CA);refine Td a [] ?_ ?_;(next=>exact CA);refine TT a ?_ ?_ ?_;(next=>exact CA);(next=>exact CA))
        rw[g,q];repeat'(first|exact trivial|refine eS rfl ?_|refine AB ?_|refine rX a ?_ ?_|refine rC ?_ ?_<;>intro d<;>try(cases d;done))
        refine⟨⟨(2*root+2,B9 (0,0) m (f+root) (f+(2*root+2))),by simp only;omega,hp.trans (Db.swap m (by omega) (by omega) (by omega) (by omega) (by omega)),Ya k B (by omega) (.inr rfl) b hs⟩,by simp only;omega,AC [(1000000,.nm 1000000)] rfl rfl ?_ ?_⟩
        ·simp only;rw[v];first|exact eN|refine eM ?_
        ·simp only;rw[show ((2*root+2:Nat):Int)=2*(root:Int)+1+1 by omega];first|exact eN|refine eM ?_
     ·intro e;have hs:∀c,(c=2*root+1∨c=2*root+2)→c<hi→c≠2*root+1→Bw (m.getD (f+c) (0,0)) (m.getD (f+(2*root+1)) (0,0))<0:=fun c h1 x y=>by
       simp only[AAt,NO]at e;have a:c=2*root+2:=by omega
       subst a;rcases e with h|h
       ·omega
       ·rw[n,w]at h;exact t.lt B2 (by omega) (by omega) (by omega) h
      repeat'(first|exact trivial|refine eS rfl ?_|refine AB ?_|refine rX a ?_ ?_)
      ·exact CA
      ·refine DH (by simp only[go_sem,Nat.reduceEqDiff,reduceCtorEq,Nat.reduceAdd,Nat.reduceSub,Nat.reduceMul,Nat.reduceLeDiff,Nat.reduceLT,Int.reduceLE,Int.reduceToNat,Int.reduceNeg,↓reduceIte];rfl) ?_ ?_
       ·intro b;simp only[To,NO]at b;rw[g,n]at b;have u:=t.lt B2 (i:=f+root) (j:=f+(2*root+1)) (by omega) (by omega) (by omega) b;repeat'(first|exact trivial|refine eS rfl ?_|refine AB ?_|refine rX a ?_ ?_|refine rC ?_ ?_<;>intro d<;>try(cases d;done))
        exact fM a [] (.raw (.tuple #[])) rfl ⟨rfl,m,rfl,hp,YZ B2 k (.inl rfl) u hs⟩
       ·intro b;simp only[AAI,GO]at b;rw[g,n]at b;have v:B9 (0,0) m (f+root) (f+(2*root+1))=(m.set (f+root) (m.getD (f+(2*root+1)) (0,0))).set (f+(2*root+1)) (m.getD (f+root) (0,0)):=rfl;repeat'(first|exact trivial|refine eS rfl ?_|refine AB ?_|refine rP a ?_ ?_|fail)
        (refine Cj drawsAny a 22 [([0,1,2,3,8,9,10,11,12,13,14,15,16,17,18,19,20],21)] [4,5,6,7] (by kernel_rfl) (R4 ?_ ?_);(next=>exact CA);refine Td a [] ?_ ?_;(next=>exact CA);refine TT a ?_ ?_ ?_;(next=>exact CA);(next=>exact CA))
        rw[g,n];repeat'(first|exact trivial|refine eS rfl ?_|refine AB ?_|refine rX a ?_ ?_|refine rC ?_ ?_<;>intro d<;>try(cases d;done))
        refine⟨⟨(2*root+1,B9 (0,0) m (f+root) (f+(2*root+1))),by simp only;omega,hp.trans (Db.swap m (by omega) (by omega) (by omega) (by omega) (by omega)),Ya k o (by omega) (.inl rfl) b hs⟩,by simp only;omega,AC [(1000000,.nm 1000000)] rfl rfl ?_ ?_⟩
        ·simp only;rw[v];first|exact eN|refine eM ?_
        ·simp only;rw[show ((2*root+1:Nat):Int)=2*(root:Int)+1 by omega];first|exact eN|refine eM ?_
end
section
attribute [local go_sem] CX
theorem sP (l:List (Int×Int)) (L:l.length≤100000) (u:ZF Bw (0,0) l) (a b:Nat) (I:a≤b) (J:b≤l.length):BE Tryz.prog 167 [.sr 1000000 BD 0 l.length,.p T3 (a:Int),.p T3 (b:Int),.fn 116] [(1000000,.arr 53 BD l)] [1000000] (fun res C=>res=.raw (.tuple #[])∧∃r,C=[(1000000,.arr 53 BD r)]∧Db (0,0) a b l r∧PT Bw (0,0) a b r):=by
 refine KK [0,1,2,3,8,9,10,11,12,21,33] [] [] Tryz.func167 Tryz.ntmps167 AG ?_;intro w0 K O0 ρ0 d M N;simp only[Ak];obtain⟨n,hn⟩:∃n,b=a+n:=⟨b-a,by omega⟩;subst hn;have t:(((a+n:Nat):Int)-(a:Int)-1).tdiv 2=(((n-1) / 2+1:Nat):Int)-1:=by
  by_cases h0:n=0
  ·subst h0;rw[show ((a+0:Nat):Int)-(a:Int)-1=-1 by omega];decide
  ·rw[AAn (by omega)];omega
 have en:((a+n:Nat):Int)-(a:Int)=(n:Int):=by omega
 repeat'(first|exact trivial|refine eS rfl ?_|refine AB ?_|refine rX d ?_ ?_|refine rC ?_ ?_<;>intro e<;>try(cases e;done))
 ·omega
 ·rw[t];exact⟨by omega,by decide,by omega⟩
 ·rw[t,en];refine AH (ι:={s:Nat×List (Int×Int)//s.1≤n+1∧Db (0,0) a (a+n) l s.2∧Hp Bw (0,0) a n s.1 s.2}) (fun s=>⟨[(0,.sr 1000000 BD 0 l.length),(3,.fn 116),(8,.p T3 (a:Int)),(9,.p (.int .i64) (0:Int)),(10,.p (.int .i64) (n:Int)),(11,.p (.int .i64) ((s.1.1:Int)-1))],[(1000000,.arr 53 BD s.1.2)]⟩) (fun s=>s.1.1) ⟨((n-1) / 2+1,l),by simp only;omega,Db.refl _ _ l,fun k c h1 G H=>by simp only at h1;omega⟩ (AC [(1000000,.nm 1000000)] rfl rfl ?_ ?_) (fun s=>?_)
  ·first|exact eN|refine eM ?_
  ·first|exact eN|refine eM ?_
  ·obtain⟨⟨k,m⟩,hk,hp,q⟩:=s;simp only at hk hp q ⊢;have y:=hp.len;have x:=u.perm B2 hp.perm;repeat'(first|exact trivial|refine eS rfl ?_|refine AB ?_|refine rX d ?_ ?_)
   refine rC (fun e=>?_) (fun e=>?_)
   ·have f:0<k:=by omega
    have key:=Yd m (by omega) x (k-1) n a (by omega) (by omega) (mG (by rw[show k-1+1=k by omega];exact q));rw[y,show ((k-1:Nat):Int)=(k:Int)-1 by omega]at key;repeat'(first|exact trivial|refine eS rfl ?_|refine AB ?_|refine rX d ?_ ?_)
    refine cP 5 d ?_ ?_
    ·trivial
    ·refine rM d (key) [(1000000,.nm 1000000)] [] ?_ ?_ ?_
     ·first|exact eN|refine eM ?_
     ·first|exact eN|refine eM ?_
     ·rintro _ _ ⟨rfl,r,rfl,i,j⟩;refine⟨[(1000000,.nm 1000000)],.raw (.tuple #[]),[(1000000,.arr 53 BD r)],rfl,rfl,?_,?_,rfl,rfl,Ca ?_⟩
      ·first|exact eN|refine eM ?_
      ·first|exact eN|refine eM ?_
      ·repeat'(first|exact trivial|refine eS rfl ?_|refine AB ?_|refine rX d ?_ ?_|refine rC ?_ ?_<;>intro e<;>try(cases e;done))
       ·omega
       ·refine⟨⟨(k-1,r),by simp only;omega,hp.trans i,j⟩,by simp only;omega,AC [(1000000,.nm 1000000)] rfl rfl ?_ ?_⟩
        ·simp only;first|exact eN|refine eM ?_
        ·simp only;rw[show ((k-1:Nat):Int)=(k:Int)-1 by omega];first|exact eN|refine eM ?_
   ·have f:k=0:=by omega
    subst f;repeat'(first|exact trivial|refine eS rfl ?_|refine AB ?_|refine rX d ?_ ?_)
    ·omega
    ·refine AH (ι:={s:Nat×List (Int×Int)//s.1≤n∧Db (0,0) a (a+n) l s.2∧mH Bw (0,0) a n s.1 s.2}) (fun s=>⟨[(0,.sr 1000000 BD 0 l.length),(3,.fn 116),(8,.p T3 (a:Int)),(9,.p (.int .i64) (0:Int)),(12,.p (.int .i64) ((s.1.1:Int)-1))],[(1000000,.arr 53 BD s.1.2)]⟩) (fun s=>s.1.1) ⟨(n,m),If _,hp,bF q⟩ (AC [(1000000,.nm 1000000)] rfl rfl ?_ ?_) (fun s=>?_)
     ·first|exact eN|refine eM ?_
     ·first|exact eN|refine eM ?_
     ·obtain⟨⟨k,c⟩,hk,g,h⟩:=s;simp only at hk g h ⊢;have w:=g.len;repeat'(first|exact trivial|refine eS rfl ?_|refine AB ?_|refine rX d ?_ ?_)
      refine rC (fun e=>?_) (fun e=>?_)
      ·have f:0<k:=by omega
       have h:mH Bw (0,0) a n (k-1+1) c:=by rw[show k-1+1=k by omega];exact h
       obtain⟨D,E,F⟩:=mI B2 h (by omega) (by omega);have o:Db (0,0) a (a+n) c (B9 (0,0) c a (a+(k-1))):=Db.swap c (by omega) (by omega) (by omega) (by omega) (by omega);have A:=o.len;have z:=u.perm B2 (g.trans o).perm;have v:((a:Int)+((k:Int)-1)).toNat=a+(k-1):=by omega
       have B:B9 (0,0) c a (a+(k-1))=(c.set a (c.getD (a+(k-1)) (0,0))).set (a+(k-1)) (c.getD a (0,0)):=rfl;have key:=Yd (B9 (0,0) c a (a+(k-1))) (by omega) z 0 (k-1) a (by omega) (by omega) D;rw[A,w,show ((k-1:Nat):Int)=(k:Int)-1 by omega]at key;repeat'(first|exact trivial|refine eS rfl ?_|refine AB ?_|refine rP d ?_ ?_|fail)
       (refine Cj drawsAny d 18 [([0,1,6,7,8,9,10,11,12,13,14,15,16],17)] [2,3,4,5] (by kernel_rfl) (R4 ?_ ?_);(next=>exact CA);refine Td d [] ?_ ?_;(next=>exact CA);refine TT d ?_ ?_ ?_;(next=>exact CA);(next=>exact CA))
       rw[v,←B];repeat'(first|exact trivial|refine eS rfl ?_|refine AB ?_|refine rP d ?_ ?_|fail)
       refine cP 5 d ?_ ?_
       ·trivial
       ·refine rM d (key) [(1000000,.nm 1000000)] [] ?_ ?_ ?_
        ·first|exact eN|refine eM ?_
        ·first|exact eN|refine eM ?_
        ·rintro _ _ ⟨rfl,r,rfl,i,j⟩;refine⟨[(1000000,.nm 1000000)],.raw (.tuple #[]),[(1000000,.arr 53 BD r)],rfl,rfl,?_,?_,rfl,rfl,Ca ?_⟩
         ·first|exact eN|refine eM ?_
         ·first|exact eN|refine eM ?_
         ·repeat'(first|exact trivial|refine eS rfl ?_|refine AB ?_|refine rX d ?_ ?_|refine rC ?_ ?_<;>intro e<;>try(cases e;done))
          ·omega
          ·refine⟨⟨(k-1,r),by simp only;omega,(g.trans o).trans (i.mono (If _) (by omega)),mJ i j E F⟩,by simp only;omega,AC [(1000000,.nm 1000000)] rfl rfl ?_ ?_⟩
           ·simp only;first|exact eN|refine eM ?_
           ·simp only;rw[show ((k-1:Nat):Int)=(k:Int)-1 by omega];first|exact eN|refine eM ?_
      ·have f:k=0:=by omega
       subst f;repeat'(first|exact trivial|refine eS rfl ?_|refine AB ?_|refine rX d ?_ ?_|refine rC ?_ ?_<;>intro e<;>try(cases e;done))
       exact fM d [] (.raw (.tuple #[])) rfl ⟨rfl,c,rfl,g,sO h⟩
end
section
attribute [local go_sem] CX
theorem y3 (l:List (Int×Int)) (ah:l.length≤100000) (O:ZF Bw (0,0) l) (a b p:Nat) (hap:a≤p) (aa:p<b) (V:b≤l.length):BE Tryz.prog 173 [.sr 1000000 BD 0 l.length,.p T3 (a:Int),.p T3 (b:Int),.p T3 (p:Int),.fn 116] [(1000000,.arr 53 BD l)] [1000000] (fun res ae=>∃(q:Nat) (w:Bool) (r:List (Int×Int)),res=.tup [.p T3 (q:Int),.p .bool w]∧ae=[(1000000,.arr 53 BD r)]∧Db (0,0) a b l r∧nV Bw (0,0) a b q r):=by
 refine KK [0,1,2,3,4,10,11,12,13,47,66,71,120,139,144] [] [] Tryz.func173 Tryz.ntmps173 (AD EL AG) ?_;intro w0 K O0 ρ0 c ai aj;simp only[Ak];have g:Db (0,0) a b l (B9 (0,0) l a p):=Db.swap l (If _) (by omega) hap aa V;have n:B9 (0,0) l a p=(l.set a (l.getD p (0,0))).set p (l.getD a (0,0)):=rfl;repeat'(first|exact trivial|refine eS rfl ?_|refine AB ?_|refine rP c ?_ ?_|fail)
 (refine Cj drawsAny c 14 [([0,1,4,5,6,7,8,9,10,11,12],13)] [2,3] (by kernel_rfl) (R4 ?_ ?_);(next=>exact CA);refine Td c [] ?_ ?_;(next=>exact CA);refine TT c ?_ ?_ ?_;(next=>exact CA);(next=>exact CA))
 rw[←n];have A:=O.perm B2 g.perm;have R:=g.len;clear n;generalize B9 (0,0) l a p=m at *;repeat'(first|exact trivial|refine eS rfl ?_|refine AB ?_|refine rP c ?_ ?_|fail)
 ·exact CA
 ·rw[show (a:Int)+1=((a+1:Nat):Int) by omega,show (b:Int)-1=((b-1:Nat):Int) by omega];refine AH (ι:={i:Nat//a<i∧i≤b∧z6 Bw (0,0) a b i (b-1) m}) (fun s=>⟨[(0,.sr 1000000 BD 0 l.length),(1,.p T3 (a:Int)),(4,.fn 116),(12,.p (.int .i64) (s.1:Int)),(13,.p (.int .i64) ((b-1:Nat):Int))],[(1000000,.arr 53 BD m)]⟩) (fun s=>b-s.1) ⟨a+1,by omega,by omega,⟨fun x h1 f=>by omega,fun x h1 f=>by omega⟩⟩ (AC [(1000000,.nm 1000000)] rfl rfl ?_ ?_) (fun s=>?_)
  ·first|exact eN|refine eM ?_
  ·first|exact eN|refine eM ?_
  ·obtain⟨i,E,I,t⟩:=s;simp only at E I t ⊢;repeat'(first|exact trivial|refine eS rfl ?_|refine AB ?_|refine rX c ?_ ?_)
   ·dsimp only[Ty.den];exact⟨fun _=>by omega,fun _=>by omega⟩
   ·refine DH (by simp only[go_sem,Nat.reduceEqDiff,reduceCtorEq,Nat.reduceAdd,Nat.reduceSub,Nat.reduceMul,Nat.reduceLeDiff,Nat.reduceLT,Int.reduceLE,Int.reduceToNat,Int.reduceNeg,↓reduceIte];rfl) ?_ ?_
    ·intro d;simp only[An,GO]at d;obtain⟨h1,f⟩:=d;repeat'(first|exact trivial|refine eS rfl ?_|refine AB ?_|refine rX c ?_ ?_)
     ·exact CA
     ·refine⟨⟨i+1,by omega,by omega,⟨fun x G H=>?_,t.hi⟩⟩,by simp only;omega,AC [(1000000,.nm 1000000)] rfl rfl ?_ ?_⟩
      ·by_cases e:x=i
       ·rw[e];exact f
       ·exact t.lo x G (by omega)
      ·first|exact eN|refine eM ?_
      ·first|exact eN|refine eM ?_
    ·intro d;have B:i≤b-1→Bw (m.getD a (0,0)) (m.getD i (0,0))<0:=fun h1=>A.lt B2 (by omega) (by omega) (by omega) fun f=>by
      simp only[AAt,NO]at d;rcases d with h|h
      ·omega
      ·exact h f
     have ag:i≤b-1+1:=by omega
     repeat'(first|exact trivial|refine eS rfl ?_|refine AB ?_|refine rX c ?_ ?_)
     refine AH (ι:={j:Nat//a≤j∧j<b∧i≤j+1∧z6 Bw (0,0) a b i j m}) (fun s=>⟨[(0,.sr 1000000 BD 0 l.length),(1,.p T3 (a:Int)),(4,.fn 116),(12,.p (.int .i64) (i:Int)),(13,.p (.int .i64) (s.1:Int))],[(1000000,.arr 53 BD m)]⟩) (fun s=>s.1) ⟨b-1,by omega,by omega,by omega,t⟩ (AC [(1000000,.nm 1000000)] rfl rfl ?_ ?_) (fun s=>?_)
     ·first|exact eN|refine eM ?_
     ·first|exact eN|refine eM ?_
     ·obtain⟨j,v,y,W,D⟩:=s;simp only at v y W D ⊢;clear d;repeat'(first|exact trivial|refine eS rfl ?_|refine AB ?_|refine rX c ?_ ?_)
      ·dsimp only[Ty.den];exact⟨fun _=>by omega,fun _=>by omega⟩
      ·refine DH (by simp only[go_sem,Nat.reduceEqDiff,reduceCtorEq,Nat.reduceAdd,Nat.reduceSub,Nat.reduceMul,Nat.reduceLeDiff,Nat.reduceLT,Int.reduceLE,Int.reduceToNat,Int.reduceNeg,↓reduceIte];rfl) ?_ ?_
       ·intro d;simp only[An,GO,To,NO]at d;obtain⟨h1,f⟩:=d;have f:=A.lt B2 (i:=j) (j:=a) (by omega) (by omega) (by omega) f;repeat'(first|exact trivial|refine eS rfl ?_|refine AB ?_|refine rX c ?_ ?_)
        ·exact CA
        ·refine⟨⟨j-1,by omega,by omega,by omega,⟨D.lo,fun x G H=>?_⟩⟩,by simp only;omega,AC [(1000000,.nm 1000000)] rfl rfl ?_ ?_⟩
         ·by_cases e:x=j
          ·rw[e];exact f
          ·exact D.hi x (by omega) H
         ·first|exact eN|refine eM ?_
         ·simp only;rw[show ((j-1:Nat):Int)=(j:Int)-1 by omega];first|exact eN|refine eM ?_
       ·intro d;have C:i≤j→Bw (m.getD j (0,0)) (m.getD a (0,0))<0:=fun h1=>by
         simp only[AAt,NO,AAI,GO]at d;rcases d with h|h
         ·omega
         ·exact h
        repeat'(first|exact trivial|refine eS rfl ?_|refine AB ?_|refine rX c ?_ ?_)
        refine rC (fun u=>?_) (fun u=>?_)
        ·have Q:i=j+1:=by omega
         subst Q;have o:Db (0,0) a b m (B9 (0,0) m j a):=Db.swap m v y (If _) (by omega) (by omega);have n:B9 (0,0) m j a=(m.set j (m.getD a (0,0))).set a (m.getD j (0,0)):=rfl;repeat'(first|exact trivial|refine eS rfl ?_|refine AB ?_|refine rP c ?_ ?_|fail)
         (refine Cj drawsAny c 14 [([0,1,4,5,6,7,8,9,10,11,12],13)] [2,3] (by kernel_rfl) (R4 ?_ ?_);(next=>exact CA);refine Td c [] ?_ ?_;(next=>exact CA);refine TT c ?_ ?_ ?_;(next=>exact CA);(next=>exact CA))
         rw[←n];repeat'(first|exact trivial|refine eS rfl ?_|refine AB ?_|refine rX c ?_ ?_|refine rC ?_ ?_<;>intro u<;>try(cases u;done))
         exact fM c [.tmp 10,.tmp 11] (.tup [.p T3 (j:Int),.p .bool true]) eT ⟨j,true,_,rfl,rfl,g.trans o,jD D v y (by omega)⟩
        ·have Z:i≠j:=fun e=>by
          have S:=B (by omega);have af:=C (by omega);rw[e,B2.anti]at S;omega
         have P:i<j:=by omega
         have o:Db (0,0) a b m (B9 (0,0) m i j):=Db.swap m (by omega) (by omega) v y (by omega);have n:B9 (0,0) m i j=(m.set i (m.getD j (0,0))).set j (m.getD i (0,0)):=rfl;have M:=Yc D E P y (by omega) (B (by omega)) (C (by omega));repeat'(first|exact trivial|refine eS rfl ?_|refine AB ?_|refine rP c ?_ ?_|fail)
         (refine Cj drawsAny c 14 [([0,1,4,5,6,7,8,9,10,11,12],13)] [2,3] (by kernel_rfl) (R4 ?_ ?_);(next=>exact CA);refine Td c [] ?_ ?_;(next=>exact CA);refine TT c ?_ ?_ ?_;(next=>exact CA);(next=>exact CA))
         rw[←n];have J:=g.trans o;have A:=O.perm B2 J.perm;have R:=J.len;clear n o D t B C d g;generalize B9 (0,0) m i j=ad at *;repeat'(first|exact trivial|refine eS rfl ?_|refine AB ?_|refine rX c ?_ ?_)
         ·exact CA
         ·exact CA
         ·rw[show (i:Int)+1=((i+1:Nat):Int) by omega,show (j:Int)-1=((j-1:Nat):Int) by omega];refine AH (ι:={s:Nat×Nat×List (Int×Int)//(a<s.1∧s.1≤s.2.1+1)∧(a≤s.2.1∧s.2.1<b)∧Db (0,0) a b l s.2.2∧z6 Bw (0,0) a b s.1 s.2.1 s.2.2}) (fun s=>⟨[(0,.sr 1000000 BD 0 l.length),(1,.p T3 (a:Int)),(4,.fn 116),(12,.p (.int .i64) (s.1.1:Int)),(13,.p (.int .i64) (s.1.2.1:Int))],[(1000000,.arr 53 BD s.1.2.2)]⟩) (fun s=>s.1.2.1+1-s.1.1) ⟨(i+1,j-1,ad),by simp only;omega,by simp only;omega,J,M⟩ (AC [(1000000,.nm 1000000)] rfl rfl ?_ ?_) (fun s=>?_)
          ·first|exact eN|refine eM ?_
          ·first|exact eN|refine eM ?_
          ·clear M A R J;obtain⟨⟨i,j,m⟩,⟨E,I⟩,⟨v,y⟩,g,t⟩:=s;simp only at E I v y g t ⊢;have A:=O.perm B2 g.perm;have R:=g.len;repeat'(first|exact trivial|refine eS rfl ?_|refine AB ?_|refine rX c ?_ ?_)
           refine AH (ι:={k:Nat//a<k∧i≤k∧k≤j+1∧z6 Bw (0,0) a b k j m}) (fun s=>⟨[(0,.sr 1000000 BD 0 l.length),(1,.p T3 (a:Int)),(4,.fn 116),(12,.p (.int .i64) (s.1:Int)),(13,.p (.int .i64) (j:Int))],[(1000000,.arr 53 BD m)]⟩) (fun s=>j+1-s.1) ⟨i,E,If _,I,t⟩ (AC [(1000000,.nm 1000000)] rfl rfl ?_ ?_) (fun s=>?_)
           ·first|exact eN|refine eM ?_
           ·first|exact eN|refine eM ?_
           ·obtain⟨k,T,X,U,L⟩:=s;simp only at T U X L ⊢;repeat'(first|exact trivial|refine eS rfl ?_|refine AB ?_|refine rX c ?_ ?_)
            ·dsimp only[Ty.den];exact⟨fun _=>by omega,fun _=>by omega⟩
            ·refine DH (by simp only[go_sem,Nat.reduceEqDiff,reduceCtorEq,Nat.reduceAdd,Nat.reduceSub,Nat.reduceMul,Nat.reduceLeDiff,Nat.reduceLT,Int.reduceLE,Int.reduceToNat,Int.reduceNeg,↓reduceIte];rfl) ?_ ?_
             ·intro d;simp only[An,GO]at d;obtain⟨h1,f⟩:=d;repeat'(first|exact trivial|refine eS rfl ?_|refine AB ?_|refine rX c ?_ ?_)
              ·exact CA
              ·refine⟨⟨k+1,by omega,by omega,by omega,⟨fun x G H=>?_,L.hi⟩⟩,by simp only;omega,AC [(1000000,.nm 1000000)] rfl rfl ?_ ?_⟩
               ·by_cases e:x=k
                ·rw[e];exact f
                ·exact L.lo x G (by omega)
               ·first|exact eN|refine eM ?_
               ·first|exact eN|refine eM ?_
             ·intro d;have B:k≤j→Bw (m.getD a (0,0)) (m.getD k (0,0))<0:=fun h1=>A.lt B2 (by omega) (by omega) (by omega) fun f=>by
               simp only[AAt,NO]at d;rcases d with h|h
               ·omega
               ·exact h f
              repeat'(first|exact trivial|refine eS rfl ?_|refine AB ?_|refine rX c ?_ ?_)
              refine AH (ι:={z:Nat//a≤z∧z≤j∧k≤z+1∧z6 Bw (0,0) a b k z m}) (fun s=>⟨[(0,.sr 1000000 BD 0 l.length),(1,.p T3 (a:Int)),(4,.fn 116),(12,.p (.int .i64) (k:Int)),(13,.p (.int .i64) (s.1:Int))],[(1000000,.arr 53 BD m)]⟩) (fun s=>s.1) ⟨j,v,If _,U,L⟩ (AC [(1000000,.nm 1000000)] rfl rfl ?_ ?_) (fun s=>?_)
              ·first|exact eN|refine eM ?_
              ·first|exact eN|refine eM ?_
              ·obtain⟨z,N,ab,Y,F⟩:=s;simp only at N ab Y F ⊢;clear d;repeat'(first|exact trivial|refine eS rfl ?_|refine AB ?_|refine rX c ?_ ?_)
               ·dsimp only[Ty.den];exact⟨fun _=>by omega,fun _=>by omega⟩
               ·refine DH (by simp only[go_sem,Nat.reduceEqDiff,reduceCtorEq,Nat.reduceAdd,Nat.reduceSub,Nat.reduceMul,Nat.reduceLeDiff,Nat.reduceLT,Int.reduceLE,Int.reduceToNat,Int.reduceNeg,↓reduceIte];rfl) ?_ ?_
                ·intro d;simp only[An,GO,To,NO]at d;obtain⟨h1,f⟩:=d;have f:=A.lt B2 (i:=z) (j:=a) (by omega) (by omega) (by omega) f;repeat'(first|exact trivial|refine eS rfl ?_|refine AB ?_|refine rX c ?_ ?_)
                 ·exact CA
                 ·refine⟨⟨z-1,by omega,by omega,by omega,⟨F.lo,fun x G H=>?_⟩⟩,by simp only;omega,AC [(1000000,.nm 1000000)] rfl rfl ?_ ?_⟩
                  ·by_cases e:x=z
                   ·rw[e];exact f
                   ·exact F.hi x (by omega) H
                  ·first|exact eN|refine eM ?_
                  ·simp only;rw[show ((z-1:Nat):Int)=(z:Int)-1 by omega];first|exact eN|refine eM ?_
                ·intro d;have C:k≤z→Bw (m.getD z (0,0)) (m.getD a (0,0))<0:=fun h1=>by
                  simp only[AAt,NO,AAI,GO]at d;rcases d with h|h
                  ·omega
                  ·exact h
                 repeat'(first|exact trivial|refine eS rfl ?_|refine AB ?_|refine rX c ?_ ?_)
                 refine rC (fun u=>?_) (fun u=>?_)
                 ·have Q:k=z+1:=by omega
                  subst Q;have o:Db (0,0) a b m (B9 (0,0) m z a):=Db.swap m N (by omega) (If _) (by omega) (by omega);have n:B9 (0,0) m z a=(m.set z (m.getD a (0,0))).set a (m.getD z (0,0)):=rfl;repeat'(first|exact trivial|refine eS rfl ?_|refine AB ?_|refine rP c ?_ ?_|fail)
                  (refine Cj drawsAny c 14 [([0,1,4,5,6,7,8,9,10,11,12],13)] [2,3] (by kernel_rfl) (R4 ?_ ?_);(next=>exact CA);refine Td c [] ?_ ?_;(next=>exact CA);refine TT c ?_ ?_ ?_;(next=>exact CA);(next=>exact CA))
                  rw[←n];repeat'(first|exact trivial|refine eS rfl ?_|refine AB ?_|refine rX c ?_ ?_|refine rC ?_ ?_<;>intro u<;>try(cases u;done))
                  exact fM c [.tmp 10,.tmp 11] (.tup [.p T3 (z:Int),.p .bool false]) eT ⟨z,false,_,rfl,rfl,g.trans o,jD F N (by omega) (by omega)⟩
                 ·have Z:k≠z:=fun e=>by
                   have S:=B (by omega);have af:=C (by omega);rw[e,B2.anti]at S;omega
                  have P:k<z:=by omega
                  have o:Db (0,0) a b m (B9 (0,0) m k z):=Db.swap m (by omega) (by omega) N (by omega) (by omega);have n:B9 (0,0) m k z=(m.set k (m.getD z (0,0))).set z (m.getD k (0,0)):=rfl;have M:=Yc F T P (by omega) (by omega) (B (by omega)) (C (by omega));repeat'(first|exact trivial|refine eS rfl ?_|refine AB ?_|refine rP c ?_ ?_|fail)
                  (refine Cj drawsAny c 14 [([0,1,4,5,6,7,8,9,10,11,12],13)] [2,3] (by kernel_rfl) (R4 ?_ ?_);(next=>exact CA);refine Td c [] ?_ ?_;(next=>exact CA);refine TT c ?_ ?_ ?_;(next=>exact CA);(next=>exact CA))
                  rw[←n];repeat'(first|exact trivial|refine eS rfl ?_|refine AB ?_|refine rX c ?_ ?_)
                  ·exact CA
                  ·exact CA
                  ·refine⟨⟨(k+1,z-1,B9 (0,0) m k z),by simp only;omega,by simp only;omega,g.trans o,M⟩,by simp only;omega,AC [(1000000,.nm 1000000)] rfl rfl ?_ ?_⟩
                   ·first|exact eN|refine eM ?_
                   ·simp only;rw[show ((z-1:Nat):Int)=(z:Int)-1 by omega];first|exact eN|refine eM ?_
end
section
attribute [local go_sem] CX
theorem y4 (l:List (Int×Int)) (am:l.length≤100000) (L:ZF Bw (0,0) l) (a b:Nat) (ak:a<b) (al:b≤l.length) (U:Bf Bw (0,0) a b l):BE Tryz.prog 171 [.sr 1000000 BD 0 l.length,.p T3 (a:Int),.p T3 (b:Int),.fn 116] [(1000000,.arr 53 BD l)] [1000000] (fun res aj=>∃(w:Bool) (r:List (Int×Int)),res=.p .bool w∧aj=[(1000000,.arr 53 BD r)]∧Db (0,0) a b l r∧(w=true→PT Bw (0,0) a b r)):=by
 refine KK [0,1,2,3,8,9,10,11,12,16,36,41,45,65,69,84,104,109,124] [] [] Tryz.func171 Tryz.ntmps171 (AD EL AG) ?_;intro w0 K O0 ρ0 f an ao;simp only[Ak];repeat'(first|exact trivial|refine eS rfl ?_|refine AB ?_|refine rX f ?_ ?_|refine rC ?_ ?_<;>intro q<;>try(cases q;done))
 ·exact CA
 ·refine AH (ι:={s:Nat×Nat×List (Int×Int)//(a+1≤s.1∧s.1≤b)∧s.2.1≤5∧Db (0,0) a b l s.2.2∧PT Bw (0,0) a s.1 s.2.2}) (fun s=>⟨[(0,.sr 1000000 BD 0 l.length),(1,.p T3 (a:Int)),(2,.p T3 (b:Int)),(3,.fn 116),(9,.p (.int .i64) (s.1.1:Int)),(10,.p (.int .i64) (s.1.2.1:Int))],[(1000000,.arr 53 BD s.1.2.2)]⟩) (fun s=>5-s.1.2.1) ⟨(a+1,0,l),by simp only;omega,IS _,Db.refl a b l,WZ a l⟩ (AC [(1000000,.nm 1000000)] rfl rfl ?_ ?_) (fun s=>?_)
  ·first|exact eN|refine eM ?_
  ·first|exact eN|refine eM ?_
  ·obtain⟨⟨i,t,m⟩,⟨ab,N⟩,ai,u,Q⟩:=s;simp only at ab N ai u Q ⊢;have P:=L.perm B2 u.perm;have ah:=u.len;repeat'(first|exact trivial|refine eS rfl ?_|refine AB ?_|refine rX f ?_ ?_)
   refine rC (fun q=>?_) (fun q=>?_)
   ·repeat'(first|exact trivial|refine eS rfl ?_|refine AB ?_|refine rX f ?_ ?_)
    refine AH (ι:={k:Nat//i≤k∧k≤b∧PT Bw (0,0) a k m}) (fun s=>⟨[(0,.sr 1000000 BD 0 l.length),(1,.p T3 (a:Int)),(2,.p T3 (b:Int)),(3,.fn 116),(9,.p (.int .i64) (s.1:Int)),(10,.p (.int .i64) (t:Int))],[(1000000,.arr 53 BD m)]⟩) (fun s=>b-s.1) ⟨i,If _,N,Q⟩ (AC [(1000000,.nm 1000000)] rfl rfl ?_ ?_) (fun s=>?_)
    ·first|exact eN|refine eM ?_
    ·first|exact eN|refine eM ?_
    ·obtain⟨k,ae,af,F⟩:=s;simp only at ae af F ⊢;have J:((k:Int)-1).toNat=k-1:=by omega
     repeat'(first|exact trivial|refine eS rfl ?_|refine AB ?_|refine rX f ?_ ?_)
     ·dsimp only[Ty.den];exact⟨fun _=>by omega,fun _=>by omega,fun _=>by omega⟩
     ·refine DH (by simp only[go_sem,Nat.reduceEqDiff,reduceCtorEq,Nat.reduceAdd,Nat.reduceSub,Nat.reduceMul,Nat.reduceLeDiff,Nat.reduceLT,Int.reduceLE,Int.reduceToNat,Int.reduceNeg,↓reduceIte];rfl) ?_ ?_
      ·intro g;simp only[An,GO,To,NO]at g;obtain⟨h1,z⟩:=g;rw[J]at z;have z:=P.lt B2 (i:=k) (j:=k-1) (by omega) (by omega) (by omega) z;repeat'(first|exact trivial|refine eS rfl ?_|refine AB ?_|refine rX f ?_ ?_)
       ·exact CA
       ·refine⟨⟨k+1,by omega,by omega,sM B2 F (by omega) z⟩,by simp only;omega,AC [(1000000,.nm 1000000)] rfl rfl ?_ ?_⟩
        ·first|exact eN|refine eM ?_
        ·first|exact eN|refine eM ?_
      ·intro g;clear g;repeat'(first|exact trivial|refine eS rfl ?_|refine AB ?_|refine rX f ?_ ?_)
       refine rC (fun Z=>?_) (fun Z=>?_)
       ·have O:k=b:=by omega
        subst O;repeat'(first|exact trivial|refine eS rfl ?_|refine AB ?_|refine rX f ?_ ?_|refine rC ?_ ?_<;>intro q<;>try(cases q;done))
        exact fM f [.tmp 8] (.p .bool true) eT ⟨true,m,rfl,rfl,u,fun _=>F⟩
       ·have O:k<b:=by omega
        repeat'(first|exact trivial|refine eS rfl ?_|refine AB ?_|refine rX f ?_ ?_)
        ·exact CA
        ·refine rC (fun aa=>?_) (fun aa=>?_)
         ·repeat'(first|exact trivial|refine eS rfl ?_|refine AB ?_|refine rX f ?_ ?_|refine rC ?_ ?_<;>intro q<;>try(cases q;done))
          exact fM f [.tmp 8] (.p .bool false) eT ⟨false,m,rfl,rfl,u,fun h=>by cases h⟩
         ·have v:Db (0,0) a b m (B9 (0,0) m k (k-1)):=Db.swap m (by omega) (by omega) (by omega) (by omega) (by omega);have B:B9 (0,0) m k (k-1)=(m.set k (m.getD (k-1) (0,0))).set (k-1) (m.getD k (0,0)):=rfl;have R:bD Bw (0,0) a (k-1) (k-1) (B9 (0,0) m k (k-1)):=⟨fun x y h0 h1 z S T=>by
           have M:=HU (d:=(0,0)) (l:=m) (i:=k) (j:=k-1) (by omega) (by omega);rw[M x,M y,At S,At (show ¬x=k by omega),At T,At (show ¬y=k by omega)];exact F x y h0 h1 (by omega),fun y h1 z=>by omega⟩
          repeat'(first|exact trivial|refine eS rfl ?_|refine AB ?_|refine rP f ?_ ?_|fail)
          (refine Cj drawsAny f 16 [([0,1,5,6,7,8,9,10,11,12,13,14],15)] [2,3,4] (by kernel_rfl) (R4 ?_ ?_);(next=>exact CA);refine Td f [] ?_ ?_;(next=>exact CA);refine TT f ?_ ?_ ?_;(next=>exact CA);(next=>exact CA))
          rw[J,←B];have I:=u.trans v;clear B v P ah;generalize B9 (0,0) m k (k-1)=c0 at *;refine Gq ?_;refine M8 (ι:={c:List (Int×Int)//Db (0,0) a b l c∧PT Bw (0,0) a k c}) (fun s=>⟨[(0,.sr 1000000 BD 0 l.length),(1,.p T3 (a:Int)),(2,.p T3 (b:Int)),(3,.fn 116),(9,.p (.int .i64) (k:Int)),(10,.p (.int .i64) (t:Int))],[(1000000,.arr 53 BD s.1)]⟩) ?_ (fun s=>?_)
          ·repeat'(first|exact trivial|refine eS rfl ?_|refine AB ?_|refine rX f ?_ ?_)
           ·exact CA
           ·refine rC (fun G=>?_) (fun G=>?_)
            ·repeat'(first|exact trivial|refine eS rfl ?_|refine AB ?_|refine rX f ?_ ?_)
             ·exact CA
             ·rw[show (k:Int)-1=((k-1:Nat):Int) by omega];refine AH (ι:={s:Nat×List (Int×Int)//(a≤s.1∧s.1≤k-1)∧Db (0,0) a b l s.2∧bD Bw (0,0) a (k-1) s.1 s.2}) (fun s=>⟨[(0,.sr 1000000 BD 0 l.length),(1,.p T3 (a:Int)),(2,.p T3 (b:Int)),(3,.fn 116),(9,.p (.int .i64) (k:Int)),(10,.p (.int .i64) (t:Int)),(11,.p (.int .i64) (s.1.1:Int))],[(1000000,.arr 53 BD s.1.2)]⟩) (fun s=>s.1.1) ⟨(k-1,c0),by simp only;omega,I,R⟩ (AC [(1000000,.nm 1000000)] rfl rfl ?_ ?_) (fun s=>?_)
              ·first|exact eN|refine eM ?_
              ·first|exact eN|refine eM ?_
              ·obtain⟨⟨j,c⟩,⟨D,A⟩,n,o⟩:=s;simp only at D A n o ⊢;have X:=L.perm B2 n.perm;have Y:=n.len;have C:((j:Int)-1).toNat=j-1:=by omega
               have V:=U.pin n;repeat'(first|exact trivial|refine eS rfl ?_|refine AB ?_|refine rX f ?_ ?_)
               refine rC (fun H=>?_) (fun H=>?_)
               ·repeat'(first|exact trivial|refine eS rfl ?_|refine AB ?_|refine rX f ?_ ?_)
                ·exact CA
                ·refine DH (by simp only[go_sem,Nat.reduceEqDiff,reduceCtorEq,Nat.reduceAdd,Nat.reduceSub,Nat.reduceMul,Nat.reduceLeDiff,Nat.reduceLT,Int.reduceLE,Int.reduceToNat,Int.reduceNeg,↓reduceIte];rfl) ?_ ?_
                 ·intro g;simp only[To,NO]at g;rw[C]at g;have g:=X.lt B2 (i:=j) (j:=j-1) (by omega) (by omega) (by omega) g;have E:=Sv B2 o D A (.inr g);rw[show k-1+1=k by omega]at E;repeat'(first|exact trivial|refine eS rfl ?_|refine AB ?_|refine rX f ?_ ?_)
                  refine⟨⟨c,n,E⟩,AC [(1000000,.nm 1000000)] rfl rfl ?_ ?_⟩
                  ·first|exact eN|refine eM ?_
                  ·first|exact eN|refine eM ?_
                 ·intro g;simp only[AAI,GO]at g;rw[C]at g;have g:Bw (c.getD j (0,0)) (c.getD (j-1) (0,0))<0:=g;have W:a<j:=by
                   refine By fun hn=>?_;have e:j=a:=by omega
                   subst e;rcases V with h|h
                   ·omega
                   ·have:=h j (If _) (by omega);rw[B2.anti]at this;omega
                  have v:Db (0,0) a b c (B9 (0,0) c j (j-1)):=Db.swap c (by omega) (by omega) (by omega) (by omega) (by omega);have B:B9 (0,0) c j (j-1)=(c.set j (c.getD (j-1) (0,0))).set (j-1) (c.getD j (0,0)):=rfl;repeat'(first|exact trivial|refine eS rfl ?_|refine AB ?_|refine rP f ?_ ?_|fail)
                  (refine Cj drawsAny f 16 [([0,1,5,6,7,8,9,10,11,12,13,14],15)] [2,3,4] (by kernel_rfl) (R4 ?_ ?_);(next=>exact CA);refine Td f [] ?_ ?_;(next=>exact CA);refine TT f ?_ ?_ ?_;(next=>exact CA);(next=>exact CA))
                  rw[C,←B];repeat'(first|exact trivial|refine eS rfl ?_|refine AB ?_|refine rX f ?_ ?_)
                  ·exact CA
                  ·refine⟨⟨(j-1,B9 (0,0) c j (j-1)),by simp only;omega,n.trans v,U0 o W A (by omega) g⟩,by simp only;omega,AC [(1000000,.nm 1000000)] rfl rfl ?_ ?_⟩
                   ·first|exact eN|refine eM ?_
                   ·simp only;rw[show ((j-1:Nat):Int)=(j:Int)-1 by omega];first|exact eN|refine eM ?_
               ·have ad:j=a:=by omega
                have E:=Sv B2 o D A (.inl ad);rw[show k-1+1=k by omega]at E;repeat'(first|exact trivial|refine eS rfl ?_|refine AB ?_|refine rX f ?_ ?_)
                refine⟨⟨c,n,E⟩,AC [(1000000,.nm 1000000)] rfl rfl ?_ ?_⟩
                ·first|exact eN|refine eM ?_
                ·first|exact eN|refine eM ?_
            ·have ag:k=a+1:=by omega
             repeat'(first|exact trivial|refine eS rfl ?_|refine AB ?_|refine rX f ?_ ?_)
             refine⟨⟨c0,I,by rw[ag];exact WZ a c0⟩,AC [(1000000,.nm 1000000)] rfl rfl ?_ ?_⟩
             ·first|exact eN|refine eM ?_
             ·first|exact eN|refine eM ?_
          ·obtain⟨c,n,o⟩:=s;simp only;clear I R;repeat'(first|exact trivial|refine eS rfl ?_|refine AB ?_|refine rX f ?_ ?_)
           ·exact CA
           ·refine rC (fun G=>?_) (fun G=>?_)
            ·repeat'(first|exact trivial|refine eS rfl ?_|refine AB ?_|refine rX f ?_ ?_)
             ·exact CA
             ·rw[show (k:Int)+1=((k+1:Nat):Int) by omega];refine AH (ι:={s:Nat×List (Int×Int)//(k+1≤s.1∧s.1≤b)∧Db (0,0) a b l s.2∧PT Bw (0,0) a k s.2}) (fun s=>⟨[(0,.sr 1000000 BD 0 l.length),(1,.p T3 (a:Int)),(2,.p T3 (b:Int)),(3,.fn 116),(9,.p (.int .i64) (k:Int)),(10,.p (.int .i64) (t:Int)),(12,.p (.int .i64) (s.1.1:Int))],[(1000000,.arr 53 BD s.1.2)]⟩) (fun s=>b-s.1.1) ⟨(k+1,c),by simp only;omega,n,o⟩ (AC [(1000000,.nm 1000000)] rfl rfl ?_ ?_) (fun s=>?_)
              ·first|exact eN|refine eM ?_
              ·first|exact eN|refine eM ?_
              ·clear n o;obtain⟨⟨j,c⟩,⟨D,A⟩,n,o⟩:=s;simp only at D A n o ⊢;have Y:=n.len;have C:((j:Int)-1).toNat=j-1:=by omega
               repeat'(first|exact trivial|refine eS rfl ?_|refine AB ?_|refine rX f ?_ ?_)
               refine rC (fun H=>?_) (fun H=>?_)
               ·repeat'(first|exact trivial|refine eS rfl ?_|refine AB ?_|refine rX f ?_ ?_)
                ·exact CA
                ·refine DH (by simp only[go_sem,Nat.reduceEqDiff,reduceCtorEq,Nat.reduceAdd,Nat.reduceSub,Nat.reduceMul,Nat.reduceLeDiff,Nat.reduceLT,Int.reduceLE,Int.reduceToNat,Int.reduceNeg,↓reduceIte];rfl) ?_ ?_
                 ·intro g;clear g;repeat'(first|exact trivial|refine eS rfl ?_|refine AB ?_|refine rX f ?_ ?_)
                  ·exact CA
                  ·refine⟨⟨(k,t+1,c),by simp only;omega,by simp only;omega,n,o⟩,by simp only;omega,AC [(1000000,.nm 1000000)] rfl rfl ?_ ?_⟩
                   ·first|exact eN|refine eM ?_
                   ·first|exact eN|refine eM ?_
                 ·intro g;clear g;have v:Db (0,0) k b c (B9 (0,0) c j (j-1)):=Db.swap c (by omega) (by omega) (by omega) (by omega) (by omega);have B:B9 (0,0) c j (j-1)=(c.set j (c.getD (j-1) (0,0))).set (j-1) (c.getD j (0,0)):=rfl;repeat'(first|exact trivial|refine eS rfl ?_|refine AB ?_|refine rP f ?_ ?_|fail)
                  (refine Cj drawsAny f 16 [([0,1,5,6,7,8,9,10,11,12,13,14],15)] [2,3,4] (by kernel_rfl) (R4 ?_ ?_);(next=>exact CA);refine Td f [] ?_ ?_;(next=>exact CA);refine TT f ?_ ?_ ?_;(next=>exact CA);(next=>exact CA))
                  rw[C,←B];repeat'(first|exact trivial|refine eS rfl ?_|refine AB ?_|refine rX f ?_ ?_)
                  ·exact CA
                  ·refine⟨⟨(j+1,B9 (0,0) c j (j-1)),by simp only;omega,n.trans (v.mono (by omega) (If _)),Lg o fun x ap aq=>v.out x (by omega)⟩,by simp only;omega,AC [(1000000,.nm 1000000)] rfl rfl ?_ ?_⟩
                   ·first|exact eN|refine eM ?_
                   ·first|exact eN|refine eM ?_
               ·repeat'(first|exact trivial|refine eS rfl ?_|refine AB ?_|refine rX f ?_ ?_)
                ·exact CA
                ·refine⟨⟨(k,t+1,c),by simp only;omega,by simp only;omega,n,o⟩,by simp only;omega,AC [(1000000,.nm 1000000)] rfl rfl ?_ ?_⟩
                 ·first|exact eN|refine eM ?_
                 ·first|exact eN|refine eM ?_
            ·repeat'(first|exact trivial|refine eS rfl ?_|refine AB ?_|refine rX f ?_ ?_)
             ·exact CA
             ·refine⟨⟨(k,t+1,c),by simp only;omega,by simp only;omega,n,o⟩,by simp only;omega,AC [(1000000,.nm 1000000)] rfl rfl ?_ ?_⟩
              ·first|exact eN|refine eM ?_
              ·first|exact eN|refine eM ?_
   ·repeat'(first|exact trivial|refine eS rfl ?_|refine AB ?_|refine rX f ?_ ?_|refine rC ?_ ?_<;>intro q<;>try(cases q;done))
    exact fM f [.tmp 8] (.p .bool false) eT ⟨false,m,rfl,rfl,u,fun h=>by cases h⟩
end
section
attribute [local go_sem] CX
def Fg (l:List (Int×Int)) (s:Nat):List (Nat×Obj):=[(1000000,.arr 53 BD l),(70,.box 3 false [.p T3 (s:Int)])]
theorem Sw (l:List (Int×Int)) (a b s:Nat) (f:a<l.length) (g:b<l.length) (hs:s≤1000):BE Tryz.prog 185 [.sr 1000000 BD 0 l.length,.p T3 (a:Int),.p T3 (b:Int),.bp 70 [] 0,.fn 116] (Fg l s) [1000000,70] (fun res e=>∃x y t:Nat,res=.tup [.p T3 (x:Int),.p T3 (y:Int)]∧e=Fg l t∧((x=a∧y=b)∨(x=b∧y=a))∧t≤s+1):=by
 refine KK [0,1,2,3,4,10,11,22] [] [] Tryz.func185 Tryz.ntmps185 (AD EL AG) ?_;intro w0 K O0 ρ0 c h i;simp only[Ak,Fg];repeat'(first|exact trivial|refine eS rfl ?_|refine AB ?_|refine rX c ?_ ?_|refine rC ?_ ?_<;>intro d<;>try(cases d;done))
 ·exact CA
 ·exact CA
 ·refine fM c [.tmp 10,.tmp 11] (.tup [.p T3 (b:Int),.p T3 (a:Int)]) eT ⟨b,a,s+1,rfl,?_,.inr ⟨rfl,rfl⟩,If _⟩;rw[show ((s+1:Nat):Int)=(s:Int)+1 by omega]
 ·exact fM c [.tmp 10,.tmp 11] (.tup [.p T3 (a:Int),.p T3 (b:Int)]) eT ⟨a,b,s,rfl,rfl,.inl ⟨rfl,rfl⟩,by omega⟩
theorem Wa (l:List (Int×Int)) (a b c s:Nat) (j:a<l.length) (k:b<l.length) (cl:c<l.length) (hs:s≤900):BE Tryz.prog 182 [.sr 1000000 BD 0 l.length,.p T3 (a:Int),.p T3 (b:Int),.p T3 (c:Int),.bp 70 [] 0,.fn 116] (Fg l s) [1000000,70] (fun res m=>∃x t:Nat,res=.p T3 (x:Int)∧m=Fg l t∧(x=a∨x=b∨x=c)∧t≤s+3):=by
 refine KK [0,1,2,3,4,5,12] [] [] Tryz.func182 Tryz.ntmps182 AG ?_;intro w0 K O0 ρ0 d q r;simp only[Ak,Fg];repeat'(first|exact trivial|refine eS rfl ?_|refine AB ?_|refine rX d ?_ ?_|refine rC ?_ ?_<;>intro e<;>try(cases e;done))
 refine cP 5 d ?_ ?_
 ·trivial
 ·refine rM d (Sw l a b s j k (by omega)) [(1000000,.nm 1000000),(70,.nm 70)] [] ?_ ?_ ?_
  ·first|exact eN|refine eM ?_
  ·simp only[Fg];first|exact eN|refine eM ?_
  ·rintro _ _ ⟨g,b1,s1,rfl,rfl,h1,u⟩;refine⟨[(1000000,.nm 1000000),(70,.nm 70)],.tup [.p T3 (g:Int),.p T3 (b1:Int)],[(1000000,.arr 53 BD l),(70,.box 3 false [.p T3 (s1:Int)])],rfl,rfl,?_,?_,rfl,rfl,?_⟩
   ·simp only[Fg];first|exact eN|refine eM ?_
   ·first|exact eN|refine eM ?_
   ·refine rL d ?_ ?_
    ·trivial
    ·repeat'(first|exact trivial|refine eS rfl ?_|refine AB ?_|refine rX d ?_ ?_|refine rC ?_ ?_<;>intro e<;>try(cases e;done))
     refine cP 5 d ?_ ?_
     ·trivial
     ·refine rM d (Sw l b1 c s1 (by omega) cl (by omega)) [(1000000,.nm 1000000),(70,.nm 70)] [] ?_ ?_ ?_
      ·first|exact eN|refine eM ?_
      ·simp only[Fg];first|exact eN|refine eM ?_
      ·rintro _ _ ⟨b2,c2,s2,rfl,rfl,n,v⟩;refine⟨[(1000000,.nm 1000000),(70,.nm 70)],.tup [.p T3 (b2:Int),.p T3 (c2:Int)],[(1000000,.arr 53 BD l),(70,.box 3 false [.p T3 (s2:Int)])],rfl,rfl,?_,?_,rfl,rfl,?_⟩
       ·simp only[Fg];first|exact eN|refine eM ?_
       ·first|exact eN|refine eM ?_
       ·refine rL d ?_ ?_
        ·trivial
        ·repeat'(first|exact trivial|refine eS rfl ?_|refine AB ?_|refine rX d ?_ ?_|refine rC ?_ ?_<;>intro e<;>try(cases e;done))
         refine cP 5 d ?_ ?_
         ·trivial
         ·refine rM d (Sw l g b2 s2 (by omega) (by omega) (by omega)) [(1000000,.nm 1000000),(70,.nm 70)] [] ?_ ?_ ?_
          ·first|exact eN|refine eM ?_
          ·simp only[Fg];first|exact eN|refine eM ?_
          ·rintro _ _ ⟨i,f,h,rfl,rfl,o,w⟩;refine⟨[(1000000,.nm 1000000),(70,.nm 70)],.tup [.p T3 (i:Int),.p T3 (f:Int)],[(1000000,.arr 53 BD l),(70,.box 3 false [.p T3 (h:Int)])],rfl,rfl,?_,?_,rfl,rfl,?_⟩
           ·simp only[Fg];first|exact eN|refine eM ?_
           ·first|exact eN|refine eM ?_
           ·refine rL d ?_ ?_
            ·trivial
            ·repeat'(first|exact trivial|refine eS rfl ?_|refine AB ?_|refine rX d ?_ ?_|refine rC ?_ ?_<;>intro e<;>try(cases e;done))
             exact fM d [.tmp 12] (.p T3 (f:Int)) eT ⟨f,h,rfl,rfl,by omega,by omega⟩
theorem Wb (l:List (Int×Int)) (b s:Nat) (g:1≤b) (d:b+1<l.length) (h:l.length≤100000) (hs:s≤900):BE Tryz.prog 181 [.sr 1000000 BD 0 l.length,.p T3 (b:Int),.bp 70 [] 0,.fn 116] (Fg l s) [1000000,70] (fun res f=>∃x t:Nat,res=.p T3 (x:Int)∧f=Fg l t∧(b-1≤x∧x≤b+1)∧t≤s+3):=by
 refine KK [0,1,2,3,8] [] [] Tryz.func181 Tryz.ntmps181 AG ?_;intro w0 K O0 ρ0 a i j;simp only[Ak,Fg];have key:=Wa l (b-1) b (b+1) s (by omega) (by omega) d hs;rw[show ((b-1:Nat):Int)=(b:Int)-1 by omega,show ((b+1:Nat):Int)=(b:Int)+1 by omega]at key;repeat'(first|exact trivial|refine eS rfl ?_|refine AB ?_|refine rX a ?_ ?_|refine rC ?_ ?_<;>intro c<;>try(cases c;done))
 refine cP 8 a ?_ ?_
 ·exact CA
 ·refine rM a (key) [(1000000,.nm 1000000),(70,.nm 70)] [] ?_ ?_ ?_
  ·first|exact eN|refine eM ?_
  ·simp only[Fg];first|exact eN|refine eM ?_
  ·rintro _ _ ⟨x,t,rfl,rfl,k,e⟩;refine⟨[(1000000,.nm 1000000),(70,.nm 70)],.p T3 (x:Int),[(1000000,.arr 53 BD l),(70,.box 3 false [.p T3 (t:Int)])],rfl,rfl,?_,?_,rfl,rfl,?_⟩
   ·simp only[Fg];first|exact eN|refine eM ?_
   ·first|exact eN|refine eM ?_
   ·refine rL a ?_ ?_
    ·trivial
    ·repeat'(first|exact trivial|refine eS rfl ?_|refine AB ?_|refine rX a ?_ ?_|refine rC ?_ ?_<;>intro c<;>try(cases c;done))
     exact fM a [.tmp 8] (.p T3 (x:Int)) eT ⟨x,t,rfl,rfl,by omega,e⟩
theorem y5 (l:List (Int×Int)) (k:l.length≤100000) (a b:Nat) (z:a+13≤b) (A:b≤l.length):BE Tryz.prog 169 [.sr 1000000 BD 0 l.length,.p T3 (a:Int),.p T3 (b:Int),.fn 116] [(1000000,.arr 53 BD l)] [1000000] (fun res y=>∃(j:Nat) (h:Int),res=.tup [.p T3 (j:Int),.p T3 h]∧y=[(1000000,.arr 53 BD l)]∧a≤j∧j<b):=by
 refine KK [0,1,2,3,8,9,10,11,12,13,14,34,36,55,57,60] [] [] Tryz.func169 Tryz.ntmps169 AG ?_;intro w0 K O0 ρ0 c B C;simp only[Ak];obtain⟨t,v⟩:∃t,t=(b-a) / 4:=⟨_,rfl⟩;have et:((b:Int)-(a:Int)).tdiv 4=(t:Int):=by
  rw[AAn (by omega)];omega
 have G:4*t≤b-a:=by omega
 have H:3≤t:=by omega
 clear v
 (refine eS rfl ?_;refine rX c ?_ ?_;(next=>first|exact trivial|exact CA))
 (refine eS rfl ?_;refine rX c ?_ ?_;(next=>first|exact trivial|exact CA))
 (refine eS rfl ?_;refine rX c ?_ ?_;(next=>first|exact trivial|exact CA))
 (refine eS rfl ?_;refine rX c ?_ ?_;(next=>first|exact trivial|exact CA|(rw[et];refine⟨⟨by decide,?_⟩,?_,?_⟩<;>omega)))
 (refine eS rfl ?_;refine rX c ?_ ?_;(next=>first|exact trivial|exact CA|(rw[et];refine⟨⟨by decide,?_⟩,?_,?_⟩<;>omega)))
 (refine eS rfl ?_;refine rX c ?_ ?_;(next=>first|exact trivial|exact CA|(rw[et];refine⟨⟨by decide,?_⟩,?_,?_⟩<;>omega)))
 rw[et,show (a:Int)+(t:Int)*1=((a+t:Nat):Int) by omega,show (a:Int)+(t:Int)*2=((a+t*2:Nat):Int) by omega,show (a:Int)+(t:Int)*3=((a+t*3:Nat):Int) by omega];refine Gq ?_;refine M8 (ι:={x:Nat×Nat//a≤x.1∧x.1<b}) (fun x=>⟨[(11,.bp 11 [] 0),(13,.p T3 (x.1.1:Int))],[(1000000,.arr 53 BD l),(11,.box 3 false [.p T3 (x.1.2:Int)])]⟩) ?_ (fun x=>?_)
 ·repeat'(first|exact trivial|refine eS rfl ?_|refine AB ?_|refine rX c ?_ ?_)
  refine rC (fun i=>?_) (fun i=>?_)
  ·repeat'(first|exact trivial|refine eS rfl ?_|refine AB ?_|refine rX c ?_ ?_)
   refine rC (fun r=>?_) (fun r=>?_)
   ·repeat'(first|exact trivial|refine eS rfl ?_|refine AB ?_|refine rP c ?_ ?_|fail)
    refine cP 3 c ?_ ?_
    ·trivial
    ·refine rM c (Wb l (a+t) 0 (by omega) (by omega) k (by omega)) [(1000000,.nm 1000000),(70,.nm 11)] [] ?_ ?_ ?_
     ·first|exact eN|refine eM ?_
     ·simp only[Fg];first|exact eN|refine eM ?_
     ·rintro _ _ ⟨n,s1,rfl,rfl,I,D⟩;refine⟨[(1000000,.nm 1000000),(11,.nm 70)],.p T3 (n:Int),[(1000000,.arr 53 BD l),(11,.box 3 false [.p T3 (s1:Int)])],rfl,rfl,?_,?_,rfl,rfl,?_⟩
      ·simp only[Fg];first|exact eN|refine eM ?_
      ·first|exact eN|refine eM ?_
      ·refine rL c ?_ ?_
       ·trivial
       ·repeat'(first|exact trivial|refine eS rfl ?_|refine AB ?_|refine rX c ?_ ?_)
        refine cP 3 c ?_ ?_
        ·trivial
        ·refine rM c (Wb l (a+t*2) s1 (by omega) (by omega) k (by omega)) [(1000000,.nm 1000000),(70,.nm 11)] [] ?_ ?_ ?_
         ·first|exact eN|refine eM ?_
         ·simp only[Fg];first|exact eN|refine eM ?_
         ·rintro _ _ ⟨o,s2,rfl,rfl,J,E⟩;refine⟨[(1000000,.nm 1000000),(11,.nm 70)],.p T3 (o:Int),[(1000000,.arr 53 BD l),(11,.box 3 false [.p T3 (s2:Int)])],rfl,rfl,?_,?_,rfl,rfl,?_⟩
          ·simp only[Fg];first|exact eN|refine eM ?_
          ·first|exact eN|refine eM ?_
          ·refine rL c ?_ ?_
           ·trivial
           ·repeat'(first|exact trivial|refine eS rfl ?_|refine AB ?_|refine rX c ?_ ?_)
            refine cP 3 c ?_ ?_
            ·trivial
            ·refine rM c (Wb l (a+t*3) s2 (by omega) (by omega) k (by omega)) [(1000000,.nm 1000000),(70,.nm 11)] [] ?_ ?_ ?_
             ·first|exact eN|refine eM ?_
             ·simp only[Fg];first|exact eN|refine eM ?_
             ·rintro _ _ ⟨q,m,rfl,rfl,L,F⟩;refine⟨[(1000000,.nm 1000000),(11,.nm 70)],.p T3 (q:Int),[(1000000,.arr 53 BD l),(11,.box 3 false [.p T3 (m:Int)])],rfl,rfl,?_,?_,rfl,rfl,?_⟩
              ·simp only[Fg];first|exact eN|refine eM ?_
              ·first|exact eN|refine eM ?_
              ·refine rL c ?_ ?_
               ·trivial
               ·repeat'(first|exact trivial|refine eS rfl ?_|refine AB ?_|refine rX c ?_ ?_)
                refine cP 5 c ?_ ?_
                ·trivial
                ·refine rM c (Wa l (n) (o) (q) m (by omega) (by omega) (by omega) (by omega)) [(1000000,.nm 1000000),(70,.nm 11)] [] ?_ ?_ ?_
                 ·first|exact eN|refine eM ?_
                 ·simp only[Fg];first|exact eN|refine eM ?_
                 ·rintro _ _ ⟨e,d,rfl,rfl,w,u⟩;refine⟨[(1000000,.nm 1000000),(11,.nm 70)],.p T3 (e:Int),[(1000000,.arr 53 BD l),(11,.box 3 false [.p T3 (d:Int)])],rfl,rfl,?_,?_,rfl,rfl,?_⟩
                  ·simp only[Fg];first|exact eN|refine eM ?_
                  ·first|exact eN|refine eM ?_
                  ·refine rL c ?_ ?_
                   ·trivial
                   ·repeat'(first|exact trivial|refine eS rfl ?_|refine AB ?_|refine rX c ?_ ?_)
                    refine⟨⟨(e,d),by simp only;omega,by simp only;omega⟩,AC [(1000000,.nm 1000000),(11,.nm 11)] rfl rfl ?_ ?_⟩
                    ·first|exact eN|refine eM ?_
                    ·first|exact eN|refine eM ?_
   ·repeat'(first|exact trivial|refine eS rfl ?_|refine AB ?_|refine rP c ?_ ?_|fail)
    refine cP 5 c ?_ ?_
    ·trivial
    ·refine rM c (Wa l (a+t) (a+t*2) (a+t*3) 0 (by omega) (by omega) (by omega) (by omega)) [(1000000,.nm 1000000),(70,.nm 11)] [] ?_ ?_ ?_
     ·first|exact eN|refine eM ?_
     ·simp only[Fg];first|exact eN|refine eM ?_
     ·rintro _ _ ⟨e,d,rfl,rfl,w,u⟩;refine⟨[(1000000,.nm 1000000),(11,.nm 70)],.p T3 (e:Int),[(1000000,.arr 53 BD l),(11,.box 3 false [.p T3 (d:Int)])],rfl,rfl,?_,?_,rfl,rfl,?_⟩
      ·simp only[Fg];first|exact eN|refine eM ?_
      ·first|exact eN|refine eM ?_
      ·refine rL c ?_ ?_
       ·trivial
       ·repeat'(first|exact trivial|refine eS rfl ?_|refine AB ?_|refine rX c ?_ ?_)
        refine⟨⟨(e,d),by simp only;omega,by simp only;omega⟩,AC [(1000000,.nm 1000000),(11,.nm 11)] rfl rfl ?_ ?_⟩
        ·first|exact eN|refine eM ?_
        ·first|exact eN|refine eM ?_
  ·exfalso;omega
 ·obtain⟨⟨j,s⟩,f,g⟩:=x;simp only at f g ⊢;repeat'(first|exact trivial|refine eS rfl ?_|refine AB ?_|refine rX c ?_ ?_|refine rC ?_ ?_<;>intro i<;>try(cases i;done))
  ·refine Ev.ent (σ':=⟨[(8,.p T3 (j:Int)),(9,.p T3 (1:Int))],[(1000000,.arr 53 BD l)]⟩) ?_ (AC [(1000000,.nm 1000000)] rfl rfl ?_ ?_)
   ·exact fM c [.tmp 8,.tmp 9] (.tup [.p T3 (j:Int),.p T3 (1:Int)]) eT ⟨j,1,rfl,rfl,f,g⟩
   ·first|exact eN|refine eM ?_
   ·first|exact eN|refine eM ?_
  ·refine Ev.ent (σ':=⟨[(8,.p T3 (j:Int)),(9,.p T3 (2:Int))],[(1000000,.arr 53 BD l)]⟩) ?_ (AC [(1000000,.nm 1000000)] rfl rfl ?_ ?_)
   ·exact fM c [.tmp 8,.tmp 9] (.tup [.p T3 (j:Int),.p T3 (2:Int)]) eT ⟨j,2,rfl,rfl,f,g⟩
   ·first|exact eN|refine eM ?_
   ·first|exact eN|refine eM ?_
  ·refine Ev.ent (σ':=⟨[(8,.p T3 (j:Int)),(9,.p T3 (0:Int))],[(1000000,.arr 53 BD l)]⟩) ?_ (AC [(1000000,.nm 1000000)] rfl rfl ?_ ?_)
   ·exact fM c [.tmp 8,.tmp 9] (.tup [.p T3 (j:Int),.p T3 (0:Int)]) eT ⟨j,0,rfl,rfl,f,g⟩
   ·first|exact eN|refine eM ?_
   ·first|exact eN|refine eM ?_
end
theorem y6 (x y:Int) (h0:0≤y) (h1:y<4611686018427387904):0≤Bu .and .u64 x y∧Bu .and .u64 x y≤y:=by
 have e:(IntKind.u64).bits=64:=rfl;have a:(BitVec.ofInt 64 y).toNat=y.toNat:=by
  rw[BitVec.toNat_ofInt];omega
 have d:(BitVec.ofInt 64 x &&& BitVec.ofInt 64 y).toNat≤y.toNat:=by
  rw[BitVec.toNat_and,a];exact Nat.and_le_right
 have b:Bu .and .u64 x y=IntKind.u64.wrap (((BitVec.ofInt 64 x &&& BitVec.ofInt 64 y).toNat:Nat):Int):=rfl;rw[b];generalize (BitVec.ofInt 64 x &&& BitVec.ofInt 64 y).toNat=z at *;have c:IntKind.u64.wrap (z:Int)=(z:Int):=by
  have f:(z:Int)<18446744073709551616:=by omega
  have:IntKind.u64.wrap (z:Int)=(z:Int) % 18446744073709551616:=by
   first|rfl|(simp[IntKind.wrap];done)
  rw[this];omega
 rw[c];omega
theorem A3e (z:Int):0≤IntKind.u64.wrap z∧IntKind.u64.wrap z≤18446744073709551615:=by
 have:IntKind.u64.wrap z=z % 18446744073709551616:=by
  first|rfl|(simp[IntKind.wrap];done)
 omega
theorem Ye (x y:Int):0≤Bu .xor .u64 x y∧Bu .xor .u64 x y≤18446744073709551615:=A3e _
theorem sQ {x:Int} (h0:0≤x) (h1:x≤18446744073709551615):0≤TW .u64 x 7∧TW .u64 x 7≤18446744073709551615:=by
 show 0≤x.fdiv 128∧x.fdiv 128≤18446744073709551615;rw[ABA _ (by decide)];omega
theorem mM (x:Int) (h0:0≤x) (h1:x<256):BE Tryz.prog 175 [.p (.int .u64) x] [] [] (fun res g=>(∃n:Nat,res=.p T3 (n:Int)∧n≤8∧(1≤x.toNat→x.toNat<2 ^ n∧2 ^ n≤2*x.toNat))∧g=[]):=by
 refine KK [0,2,4,8,14] [] [] Tryz.func175 Tryz.ntmps175 AG ?_;intro w0 K O0 ρ0 b h i;simp only[Ak];repeat'(first|exact trivial|refine eS rfl ?_|refine AB ?_|refine rX b ?_ ?_|refine rC ?_ ?_<;>intro a<;>try(cases a;done))
 all_goals first|(exfalso;omega)|skip
 refine Km [0,2] b rfl (by simp only[go_sem,Nat.reduceEqDiff,reduceCtorEq,Nat.reduceAdd,Nat.reduceSub,Nat.reduceMul,Nat.reduceLeDiff,Nat.reduceLT,Int.reduceLE,Int.reduceToNat,Int.reduceNeg,↓reduceIte,ByteArray.size,List.size_toArray,AO];rfl) ?_ ?_
 ·have d:∀u:UInt8,((u.toNat:Nat):Int)≤255:=fun u=>by have:=u.toNat_lt;omega
  have c:0≤x:=by omega
  refine⟨⟨c,by omega⟩,⟨c,?_⟩,⟨?_,?_⟩,?_,?_⟩
  ·have e:x<((256:Nat):Int):=h1;exact e
  ·exact AB0 (by decide) (oF _)
  ·exact AB0 (d _) (by decide)
  ·rw[Int.zero_add];exact AB0 (by decide) (oF _)
  ·rw[Int.zero_add];exact AB0 (d _) (by decide)
 ·repeat'(first|exact trivial|refine eS rfl ?_|refine AB ?_|refine rX b ?_ ?_|refine rC ?_ ?_<;>intro a<;>try(cases a;done))
  refine fM b [.tmp 2] (.p T3 _) (by simp only[Rm,kW,Oj,UH,Gr,JZ,ID,go_sem,Nat.reduceEqDiff,reduceCtorEq,Nat.reduceAdd,Nat.reduceSub,Nat.reduceMul,Nat.reduceLeDiff,Nat.reduceLT,Int.reduceLE,Int.reduceToNat,Int.reduceNeg,↓reduceIte];rfl) ⟨⟨_,by rw[Int.zero_add],?_⟩,rfl⟩;have f:x.toNat<256:=by omega
  generalize x.toNat=k at *;clear a;revert f;revert k;decide
theorem jE (x:Int) (h0:0≤x) (h1:x<256):BE Tryz.prog 164 [.p (.int .u64) x] [] [] (fun res d=>(∃n:Nat,res=.p T3 (n:Int)∧n≤8∧(1≤x.toNat→x.toNat<2 ^ n∧2 ^ n≤2*x.toNat))∧d=[]):=by
 refine KK [0,2] [] [] Tryz.func164 Tryz.ntmps164 AG ?_;intro w0 K O0 ρ0 a e f;simp only[Ak];repeat'(first|exact trivial|refine eS rfl ?_|refine AB ?_|refine rX a ?_ ?_|refine rC ?_ ?_<;>intro b<;>try(cases b;done))
 refine cP 1 a ?_ ?_
 ·trivial
 ·refine rM a (mM x h0 h1) [] [] ?_ ?_ ?_
  ·first|exact eN|refine eM ?_
  ·first|exact eN|refine eM ?_
  ·rintro _ _ ⟨⟨n,rfl,c⟩,rfl⟩;refine⟨[],.p T3 (n:Int),[],rfl,rfl,?_,?_,rfl,rfl,?_⟩
   ·first|exact eN|refine eM ?_
   ·first|exact eN|refine eM ?_
   ·refine rL a ?_ ?_
    ·trivial
    ·repeat'(first|exact trivial|refine eS rfl ?_|refine AB ?_|refine rX a ?_ ?_|refine rC ?_ ?_<;>intro b<;>try(cases b;done))
     exact fM a [.tmp 2] (.p T3 (n:Int)) eT ⟨⟨n,rfl,c⟩,rfl⟩
theorem y7 (x:Int) (h0:1≤x) (h1:x<256):BE Tryz.prog 179 [.p T3 x] [] [] (fun res g=>(∃m:Nat,res=.p (.int .u64) (m:Int)∧x.toNat<m∧m≤2*x.toNat)∧g=[]):=by
 refine KK [0,2] [] [] Tryz.func179 Tryz.ntmps179 AG ?_;intro w0 K O0 ρ0 a i j;simp only[Ak];repeat'(first|exact trivial|refine eS rfl ?_|refine AB ?_|refine rX a ?_ ?_|refine rC ?_ ?_<;>intro b<;>try(cases b;done))
 refine cP 2 a ?_ ?_
 ·exact CA
 ·refine rM a (jE x (by omega) h1) [] [] ?_ ?_ ?_
  ·first|exact eN|refine eM ?_
  ·first|exact eN|refine eM ?_
  ·rintro _ _ ⟨⟨n,rfl,h,f⟩,rfl⟩;obtain⟨c,d⟩:=f (by omega);refine⟨[],.p T3 (n:Int),[],rfl,rfl,?_,?_,rfl,rfl,?_⟩
   ·first|exact eN|refine eM ?_
   ·first|exact eN|refine eM ?_
   ·refine rL a ?_ ?_
    ·trivial
    ·have e:QV .u64 1 (n:Int)=((2 ^ n:Nat):Int):=by
      clear c d;have:∀n:Fin 9,QV .u64 1 ((n.val:Nat):Int)=((2 ^ n.val:Nat):Int):=by decide
      exact this ⟨n,by omega⟩
     rw[e];repeat'(first|exact trivial|refine eS rfl ?_|refine AB ?_|refine rX a ?_ ?_|refine rC ?_ ?_<;>intro b<;>try(cases b;done))
     exact fM a [.tmp 2] (.p (.int .u64) ((2 ^ n:Nat):Int)) eT ⟨⟨_,rfl,c,d⟩,rfl⟩
theorem y8 (s:Int) (hs:0≤s∧s≤18446744073709551615):BE Tryz.prog 180 [.bp 70 [] 0] [(70,.box 213 false [.p (.int .u64) s])] [70] (fun res c=>∃v:Int,(0≤v∧v≤18446744073709551615)∧res=.p (.int .u64) v∧c=[(70,.box 213 false [.p (.int .u64) v])]):=by
 refine KK [0,2] [] [] Tryz.func180 Tryz.ntmps180 AG ?_;intro w0 K O0 ρ0 a d e;simp only[Ak];repeat'(first|exact trivial|refine eS rfl ?_|refine AB ?_|refine rX a ?_ ?_|refine rC ?_ ?_<;>intro b<;>try(cases b;done))
 ·have:=Ye s (QV .u64 s 13);exact sQ this.1 this.2
 ·exact fM a [.tmp 2] (.p (.int .u64) _) eT ⟨_,Ye _ _,rfl,rfl⟩
end Go.Proofs.YtdapahgnpbehbaaGreat.Fw
