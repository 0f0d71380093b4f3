/- Contracts of the program's and the reference's functions, and the plain laws of what they compute: PG PH T1 G4 G5 G6 T2 T3 T5 P1 P9 T13 T14 T15 T6 T7 T8 T9 T10 T11 T12 T16 R08a P3 P4 P5 P2 P7 W1 W2 W3 W4 D2 D3 W5 U1 U2 U3 U4 U5 U6 U7 U8 U9 U10 U11 U12 N8 N9 V1. -/
import Derived.Test.YtdapahgnpbehbaaGreatIYB
import Derived.Test.YtdapahgnpbehbaaGreatIZI
import Derived.Test.YtdapahgnpbehbaaGreatIZJ
set_option linter.unusedVariables false
set_option linter.unusedSimpArgs false
namespace Go.Proofs.YtdapahgnpbehbaaGreat.Fw
open Go
attribute [local irreducible] Ev
attribute [local go_sem] XK AL List.toList_toArray Bl evG evK TS EH JS F1 FC FM Mr J2 B4 Cv LJ CD CS frz ZH Fv Cu A2 E3 BO AV.frz AV.frzs AV.drp AV.drps AV.names AV.namess aq Fy J1 JI QW H6 BP BW IY Dz He D0 Hg Hf Hh RK Ml GG JK E5 Du RL OQ nY IZ Hi KO Eh DR H9 JL D5 QX CK D6 EU OT Hj OU KP IA JM Cn CY Em DS Gm DC EV DD D7 E7 CD CR Mj OP L9 Fj H8 H7 JJ Lw Mo KR KU KS JP Ph KT JQ VZ Mq Mp AV.trn AV.trns Dp CJ Obj.trn Ir Xe Cp DF Co D8 CF EW AZ lk GS Fx Gj t7 ZG TX ZJ Pf kC kD uD AV.cells B0 IW Mk JO Mn CB Lu Ty.cell1 Hd EP DQ FL J0 Dy JH KN OO El GF Ln QU RJ KM JF VX Wq Pe Lv Ce IX RV.flat Ty.flat Ty.size St.add upd del BQ Value.oneCell' KJ Ty.dflt Hc M9 Gw NH List.take_succ_cons List.take_zero List.length_cons XT XU NG Im Kj Ge Io o0 FD LT LU LV LW Oe Og Jb Ht Rd Option.map_some Option.map_none Option.bind_some Option.getD_some Option.getD_none Option.isNone_none Option.isNone_some Bool.and_true Bool.true_and Bool.and_false Bool.false_and Bool.not_true Bool.not_false if_true if_false List.length_cons List.length_nil and_true true_and and_self List.all_cons List.all_nil List.append_nil List.nil_append List.cons_append List.getElem?_cons_zero List.getElem?_cons_succ List.getElem?_nil List.map_cons List.map_nil List.set_cons_zero List.set_cons_succ List.isEmpty_nil List.isEmpty_cons decide_true decide_false beq_self_eq_true bne_self_eq_false Nat.zero_add Nat.add_zero Nat.sub_zero Int.toNat_natCast Int.toNat_zero Int.toNat_one List.take_length List.length_append List.length_singleton true_or or_true or_self false_or or_false Ty.agg.injEq Ty.slice.injEq Ty.prod.injEq Ty.int.injEq Option.some.injEq beq_iff_eq J8 evMG evMQ o6 Gy Kg Bo Il F2 NB Ij Gx Hu Jc J7 MK L1 ML Qa Kh NC ND Ik AU Ac Op.operands Call.operands List.filterMap_cons List.filterMap_nil List.append_eq Bool.cond_false_right Bool.cond_true_left cond_true cond_false implies_true decide_eq_true_eq beq_true beq_false Bool.or_true Bool.or_false Bool.true_or Bool.false_or Option.isSome_some Array.empty_append List.append_toArray E4 LK EX Gk VY Mm E6 FU FT Hk Gl JN KQ TY ZI IR inB JR E8 Fk Ia Ak XV List.drop_zero DJ Gz Vs Ci Kl Ba AV.fgt AV.fgts Obj.fgt Ab Ap AU Df Kk Bg Ip List.any_cons List.any_nil Zh XY Vt XZ Kn Om qs List.flatMap_cons List.flatMap_nil List.cons_append tn Vx It List.take_succ_cons List.drop_succ_cons V0 G8 Bj c9 LZ CG Cc Al FB Ja Bn EZ DV Gv Hs GH IE
attribute [local go_sem] IU dD ty3 ty4 ty5 ty9 vO vP vQ vR vS vT vU vV vW vX vY vZ v4 v5 v6 v7 v8 v9 wA wB wC wD wE wF wG wH wI wJ wK wL wM wN wO wP wQ wR wS wT wU wV wW wX wY wZ w3 w4 w5 w7 w8 w9 xA xB xC xD xE xF xG xH xI xJ xK xL xM xN xO xP xQ xR xS xT xU xV xW xX dE dF dG dH dI dJ dK dL dM dN dP dQ dR dS dT dU dV dW dX dY dZ d3 d4 d5 d6 d7 d8 d9 eA eB eC eD eE eF eG eH eI eJ eK eL eO eP eQ eU eW eX eY eZ e7 e9 fA fB fC fD fE fF fG fH fJ fL fN fO fP fQ fR fS fT fU fV fW fX fY fZ f2 f3 f5 f6 f7 f8 f9 gA gB gC gD gE gF gG gH gI gJ gK gL gM gN gP gQ gR gS gT gU gV gW gX gY gZ g8 g9 hC hH hU hZ iA iB iC iD iE iG iH iI
set_option maxRecDepth 100000
set_option maxHeartbeats 4000000
section
attribute [local go_sem] CX
theorem y9 (l:List (Int×Int)) (J:l.length<256) (a b:Nat) (F:a+8≤b) (H:b≤l.length):BE Tryz.prog 168 [.sr 1000000 BD 0 l.length,.p T3 (a:Int),.p T3 (b:Int),.fn 116] [(1000000,.arr 53 BD l)] [1000000] (fun res E=>res=.raw (.tuple #[])∧∃r,E=[(1000000,.arr 53 BD r)]∧Db (0,0) a b l r):=by
 refine KK [0,1,2,8,9,10,11,12,17,35,45] [] [] Tryz.func168 Tryz.ntmps168 AG ?_;intro w0 K O0 ρ0 d L M;simp only[Ak];obtain⟨n,hn⟩:∃n,b=a+n:=⟨b-a,by omega⟩;subst hn;have en:((a+n:Nat):Int)-(a:Int)=(n:Int):=by omega
 obtain⟨t,D⟩:∃t,t=n / 4:=⟨_,rfl⟩;have et:(n:Int).tdiv 4=(t:Int):=by
  rw[AAn (by omega)];omega
 have N:4*t≤n:=by omega
 have O:2≤t:=by omega
 clear D
 (refine eS rfl ?_;refine rX d ?_ ?_;(next=>first|exact trivial|exact CA))
 rw[en];repeat'(first|exact trivial|refine eS rfl ?_|refine AB ?_|refine rX d ?_ ?_)
 refine rC (fun e=>?_) (fun e=>?_)
 ·repeat'(first|exact trivial|refine eS rfl ?_|refine AB ?_|refine rX d ?_ ?_)
  ·exact CA
  ·refine cP 1 d ?_ ?_
   ·trivial
   ·refine rM d (y7 (n:Int) (by omega) (by omega)) [] [] ?_ ?_ ?_
    ·first|exact eN|refine eM ?_
    ·first|exact eN|refine eM ?_
    ·rintro _ _ ⟨⟨m,rfl,A,B⟩,rfl⟩;rw[AA4]at A B;refine⟨[],.p (.int .u64) (m:Int),[],rfl,rfl,?_,?_,rfl,rfl,?_⟩
     ·first|exact eN|refine eM ?_
     ·first|exact eN|refine eM ?_
     ·refine rL d ?_ ?_
      ·trivial
      ·repeat'(first|exact trivial|refine eS rfl ?_|refine AB ?_|refine rX d ?_ ?_)
       ·rw[et];refine⟨⟨by decide,?_⟩,?_,?_,?_⟩<;>omega
       ·rw[et,show (a:Int)+(t:Int)*2-1=((a+t*2-1:Nat):Int) by omega];refine AH (ι:={s:Nat×Int×List (Int×Int)//(a≤s.1∧s.1≤a+t*2+2)∧(0≤s.2.1∧s.2.1≤18446744073709551615)∧Db (0,0) a (a+n) l s.2.2}) (fun s=>⟨[(0,.sr 1000000 BD 0 l.length),(1,.p T3 (a:Int)),(8,.p (.int .i64) (n:Int)),(9,.bp 9 [] 0),(10,.p (.int .u64) (m:Int)),(11,.p (.int .i64) (s.1.1:Int))],[(1000000,.arr 53 BD s.1.2.2),(9,.box 213 false [.p (.int .u64) s.1.2.1])]⟩) (fun s=>a+t*2+2-s.1.1) ⟨(a+t*2-1,(n:Int),l),by simp only;omega,by simp only;omega,Db.refl _ _ l⟩ (AC [(1000000,.nm 1000000),(9,.nm 9)] rfl rfl ?_ ?_) (fun s=>?_)
        ·first|exact eN|refine eM ?_
        ·first|exact eN|refine eM ?_
        ·obtain⟨⟨i,x,c⟩,⟨y,z⟩,q,hp⟩:=s;simp only at y z q hp ⊢;have I:=hp.len;repeat'(first|exact trivial|refine eS rfl ?_|refine AB ?_|refine rX d ?_ ?_)
         ·rw[et];refine⟨⟨by decide,?_⟩,?_,?_,?_⟩<;>omega
         ·rw[et];refine rC (fun u=>?_) (fun u=>?_)
          ·refine eS rfl ?_;refine cP 0 d ?_ ?_
           ·trivial
           ·refine rM d (y8 x q) [(70,.nm 9)] [] ?_ ?_ ?_
            ·first|exact eN|refine eM ?_
            ·first|exact eN|refine eM ?_
            ·rintro _ _ ⟨v,k,rfl,rfl⟩;refine⟨[(9,.nm 70)],.p (.int .u64) v,[(9,.box 213 false [.p (.int .u64) v])],rfl,rfl,?_,?_,rfl,rfl,?_⟩
             ·first|exact eN|refine eM ?_
             ·first|exact eN|refine eM ?_
             ·have G:=y6 v ((m:Int)-1) (by omega) (by omega);refine rL d ?_ ?_
              ·exact⟨by omega,by omega⟩
              ·generalize Bu .and .u64 v ((m:Int)-1)=r at *;repeat'(first|exact trivial|refine eS rfl ?_|refine AB ?_|refine rX d ?_ ?_)
               refine rC (fun w=>?_) (fun w=>?_)
               ·obtain⟨o,g⟩:∃o:Nat,r-(n:Int)=(o:Int):=⟨(r-(n:Int)).toNat,by omega⟩;have C:o<n:=by omega
                refine rX d ?_ ?_
                ·exact CA
                ·rw[g];have h:Db (0,0) a (a+n) c (B9 (0,0) c i (a+o)):=Db.swap c (by omega) (by omega) (by omega) (by omega) (by omega);have j:B9 (0,0) c i (a+o)=(c.set i (c.getD (a+o) (0,0))).set (a+o) (c.getD i (0,0)):=rfl;have f:((a:Int)+(o:Int)).toNat=a+o:=by omega
                 repeat'(first|exact trivial|refine eS rfl ?_|refine AB ?_|refine rP d ?_ ?_|fail)
                 (refine Cj drawsAny d 18 [([0,1,6,7,8,9,10,11,12,13,14,15,16],17)] [2,3,4,5] (by kernel_rfl) (R4 ?_ ?_);(next=>exact CA);refine Td d [] ?_ ?_;(next=>exact CA);refine TT d ?_ ?_ ?_;(next=>exact CA);(next=>exact CA))
                 rw[f,←j];repeat'(first|exact trivial|refine eS rfl ?_|refine AB ?_|refine rX d ?_ ?_)
                 ·exact CA
                 ·refine⟨⟨(i+1,v,B9 (0,0) c i (a+o)),by simp only;omega,k,hp.trans h⟩,by simp only;omega,AC [(1000000,.nm 1000000),(9,.nm 9)] rfl rfl ?_ ?_⟩
                  ·first|exact eN|refine eM ?_
                  ·first|exact eN|refine eM ?_
               ·obtain⟨o,g⟩:∃o:Nat,r=(o:Int):=⟨r.toNat,by omega⟩;subst g;have C:o<n:=by omega
                have h:Db (0,0) a (a+n) c (B9 (0,0) c i (a+o)):=Db.swap c (by omega) (by omega) (by omega) (by omega) (by omega);have j:B9 (0,0) c i (a+o)=(c.set i (c.getD (a+o) (0,0))).set (a+o) (c.getD i (0,0)):=rfl;have f:((a:Int)+(o:Int)).toNat=a+o:=by omega
                repeat'(first|exact trivial|refine eS rfl ?_|refine AB ?_|refine rP d ?_ ?_|fail)
                (refine Cj drawsAny d 18 [([0,1,6,7,8,9,10,11,12,13,14,15,16],17)] [2,3,4,5] (by kernel_rfl) (R4 ?_ ?_);(next=>exact CA);refine Td d [] ?_ ?_;(next=>exact CA);refine TT d ?_ ?_ ?_;(next=>exact CA);(next=>exact CA))
                rw[f,←j];repeat'(first|exact trivial|refine eS rfl ?_|refine AB ?_|refine rX d ?_ ?_)
                ·exact CA
                ·refine⟨⟨(i+1,v,B9 (0,0) c i (a+o)),by simp only;omega,k,hp.trans h⟩,by simp only;omega,AC [(1000000,.nm 1000000),(9,.nm 9)] rfl rfl ?_ ?_⟩
                 ·first|exact eN|refine eM ?_
                 ·first|exact eN|refine eM ?_
          ·repeat'(first|exact trivial|refine eS rfl ?_|refine AB ?_|refine rX d ?_ ?_|refine rC ?_ ?_<;>intro e<;>try(cases e;done))
           refine Ev.ent (σ':=⟨[],[(1000000,.arr 53 BD c)]⟩) ?_ (AC [(1000000,.nm 1000000)] rfl rfl ?_ ?_)
           ·exact fM d [] (.raw (.tuple #[])) rfl ⟨rfl,c,rfl,hp⟩
           ·first|exact eN|refine eM ?_
           ·first|exact eN|refine eM ?_
 ·exfalso;omega
end
section
attribute [local go_sem] CX
def Yf (l:List (Int×Int)) (a b c:Nat):Prop:=BE Tryz.prog 163 [.sr 1000000 BD 0 l.length,.p T3 (a:Int),.p T3 (b:Int),.p T3 (c:Int),.fn 116] [(1000000,.arr 53 BD l)] [1000000] (fun res d=>res=.raw (.tuple #[])∧∃r,d=[(1000000,.arr 53 BD r)]∧Db (0,0) a b l r∧PT Bw (0,0) a b r)
theorem mN (l:List (Int×Int)) (az:l.length<256) (aa:ZF Bw (0,0) l) (a b S:Nat) (ar:a≤b) (ay:b≤l.length) (av:S≤1000) (aq:Bf Bw (0,0) a b l)
  (V:∀(l':List (Int×Int)),l'.length<256→ZF Bw (0,0) l'→∀J b' an:Nat,b'-J<b-a→J≤b'→b'≤l'.length→an≤1000→Bf Bw (0,0) J b' l'→Yf l' J b' an):Yf l a b S:=by
 unfold Yf;refine KK [0,1,2,3,4,10,11,12,13,14,15,16,17,18,19,20,25,32,39,56,75,80,97,125] [] [] Tryz.func163 Tryz.ntmps163 (AD EL AG) ?_;intro w0 K O0 ρ0 c bb bc;simp only[Ak];repeat'(first|exact trivial|refine eS rfl ?_|refine AB ?_|refine rX c ?_ ?_)
 refine AH (ι:={s:(Nat×Nat×Nat)×(Bool×Bool)×List (Int×Int)//mK Bw (0,0) a b s.1.1 s.1.2.1 s.2.2∧Db (0,0) a b l s.2.2∧Bf Bw (0,0) s.1.1 s.1.2.1 s.2.2∧s.1.2.2≤1000}) (fun s=>⟨[(0,.sr 1000000 BD 0 l.length),(1,.p T3 (s.1.1.1:Int)),(2,.p T3 (s.1.1.2.1:Int)),(3,.p T3 (s.1.1.2.2:Int)),(4,.fn 116),(10,.p .bool s.1.2.1.1),(11,.p .bool s.1.2.1.2)],[(1000000,.arr 53 BD s.1.2.2)]⟩) (fun s=>s.1.1.2.1-s.1.1.1) ⟨((a,b,S),(true,true),l),mL ar l,Db.refl a b l,aq,av⟩ (AC [(1000000,.nm 1000000)] rfl rfl ?_ ?_) (fun s=>?_)
 ·first|exact eN|refine eM ?_
 ·first|exact eN|refine eM ?_
 ·obtain⟨⟨⟨d,b1,H⟩,⟨T,U⟩,m⟩,t,o,Q,ag⟩:=s;simp only at t o Q ag ⊢;obtain⟨D,ax,E⟩:=t.ab;have N:=aa.perm B2 o.perm;have u:=o.len;repeat'(first|exact trivial|refine eS rfl ?_|refine AB ?_|refine rX c ?_ ?_)
  ·exact CA
  ·refine rC (fun k=>?_) (fun k=>?_)
   ·have key:=yY m (by omega) N d b1 (by omega) (by omega);rw[u]at key;repeat'(first|exact trivial|refine eS rfl ?_|refine AB ?_|refine rX c ?_ ?_)
    refine cP 4 c ?_ ?_
    ·trivial
    ·refine rM c (key) [(1000000,.nm 1000000)] [] ?_ ?_ ?_
     ·first|exact eN|refine eM ?_
     ·first|exact eN|refine eM ?_
     ·rintro _ _ ⟨rfl,r,rfl,e,g⟩;refine⟨[(1000000,.nm 1000000)],.raw (.tuple #[]),[(1000000,.arr 53 BD r)],rfl,rfl,?_,?_,rfl,rfl,Ca ?_⟩
      ·first|exact eN|refine eM ?_
      ·first|exact eN|refine eM ?_
      ·repeat'(first|exact trivial|refine eS rfl ?_|refine AB ?_|refine rX c ?_ ?_|refine rC ?_ ?_<;>intro k<;>try(cases k;done))
       exact fM c [] (.raw (.tuple #[])) rfl ⟨rfl,r,rfl,o.trans (e.mono D E),(t.pin e).done g⟩
   ·have ap:d+13≤b1:=by omega
    have el:(b1:Int)-(d:Int)=((b1-d:Nat):Int):=by omega
    rw[el];repeat'(first|exact trivial|refine eS rfl ?_|refine AB ?_|refine rX c ?_ ?_)
    refine rC (fun au=>?_) (fun au=>?_)
    ·have key:=sP m (by omega) N d b1 ax (by omega);rw[u]at key;repeat'(first|exact trivial|refine eS rfl ?_|refine AB ?_|refine rX c ?_ ?_)
     refine cP 4 c ?_ ?_
     ·trivial
     ·refine rM c (key) [(1000000,.nm 1000000)] [] ?_ ?_ ?_
      ·first|exact eN|refine eM ?_
      ·first|exact eN|refine eM ?_
      ·rintro _ _ ⟨rfl,r,rfl,e,g⟩;refine⟨[(1000000,.nm 1000000)],.raw (.tuple #[]),[(1000000,.arr 53 BD r)],rfl,rfl,?_,?_,rfl,rfl,Ca ?_⟩
       ·first|exact eN|refine eM ?_
       ·first|exact eN|refine eM ?_
       ·repeat'(first|exact trivial|refine eS rfl ?_|refine AB ?_|refine rX c ?_ ?_|refine rC ?_ ?_<;>intro k<;>try(cases k;done))
        exact fM c [] (.raw (.tuple #[])) rfl ⟨rfl,r,rfl,o.trans (e.mono D E),(t.pin e).done g⟩
    ·have ba:0<H:=by omega
     refine cM ?_;refine Gq ?_;refine M8 (ι:={x:Nat×List (Int×Int)//x.1≤1000∧Db (0,0) d b1 m x.2}) (fun x=>⟨[(0,.sr 1000000 BD 0 l.length),(1,.p T3 (d:Int)),(2,.p T3 (b1:Int)),(3,.p T3 (x.1.1:Int)),(4,.fn 116),(10,.p .bool T),(11,.p .bool U),(12,.p (.int .i64) ((b1-d:Nat):Int))],[(1000000,.arr 53 BD x.1.2)]⟩) ?_ (fun x=>?_)
     ·repeat'(first|exact trivial|refine eS rfl ?_|refine AB ?_|refine rX c ?_ ?_)
      refine rC (fun n=>?_) (fun n=>?_)
      ·have key:=y9 m (by omega) d b1 (by omega) (by omega);rw[u]at key;refine eS rfl ?_;refine cP 4 c ?_ ?_
       ·trivial
       ·refine rM c (key) [(1000000,.nm 1000000)] [] ?_ ?_ ?_
        ·first|exact eN|refine eM ?_
        ·first|exact eN|refine eM ?_
        ·rintro _ _ ⟨rfl,r,rfl,e⟩;refine⟨[(1000000,.nm 1000000)],.raw (.tuple #[]),[(1000000,.arr 53 BD r)],rfl,rfl,?_,?_,rfl,rfl,Ca ?_⟩
         ·first|exact eN|refine eM ?_
         ·first|exact eN|refine eM ?_
         ·repeat'(first|exact trivial|refine eS rfl ?_|refine AB ?_|refine rX c ?_ ?_)
          ·exact CA
          ·refine⟨⟨(H-1,r),by simp only;omega,e⟩,AC [(1000000,.nm 1000000)] rfl rfl ?_ ?_⟩
           ·first|exact eN|refine eM ?_
           ·simp only;rw[show ((H-1:Nat):Int)=(H:Int)-1 by omega];first|exact eN|refine eM ?_
      ·repeat'(first|exact trivial|refine eS rfl ?_|refine AB ?_|refine rX c ?_ ?_)
       refine⟨⟨(H,m),ag,Db.refl _ _ m⟩,AC [(1000000,.nm 1000000)] rfl rfl ?_ ?_⟩
       ·first|exact eN|refine eM ?_
       ·first|exact eN|refine eM ?_
     ·obtain⟨⟨C,i⟩,G,f⟩:=x;simp only at G f ⊢;have v:i.length=l.length:=f.len.trans u;have key:=y5 i (by omega) d b1 ap (by omega);rw[v]at key;refine eS rfl ?_;refine cP 4 c ?_ ?_
      ·trivial
      ·refine rM c (key) [(1000000,.nm 1000000)] [] ?_ ?_ ?_
       ·first|exact eN|refine eM ?_
       ·first|exact eN|refine eM ?_
       ·rintro _ _ ⟨j,hint,rfl,rfl,z,A⟩;refine⟨[(1000000,.nm 1000000)],.tup [.p T3 (j:Int),.p T3 hint],[(1000000,.arr 53 BD i)],rfl,rfl,?_,?_,rfl,rfl,?_⟩
        ·first|exact eN|refine eM ?_
        ·first|exact eN|refine eM ?_
        ·refine rL c ?_ ?_
         ·trivial
         ·refine Gq ?_;refine M8 (ι:={x:Nat×Int×List (Int×Int)//(d≤x.1∧x.1<b1)∧Db (0,0) d b1 m x.2.2}) (fun x=>⟨[(0,.sr 1000000 BD 0 l.length),(1,.p T3 (d:Int)),(2,.p T3 (b1:Int)),(3,.p T3 (C:Int)),(4,.fn 116),(10,.p .bool T),(11,.p .bool U),(12,.p (.int .i64) ((b1-d:Nat):Int)),(13,.p T3 (x.1.1:Int)),(14,.p T3 x.1.2.1)],[(1000000,.arr 53 BD x.1.2.2)]⟩) ?_ (fun x=>?_)
          ·repeat'(first|exact trivial|refine eS rfl ?_|refine AB ?_|refine rX c ?_ ?_)
           refine rC (fun n=>?_) (fun n=>?_)
           ·have key:=yZ i (by omega) d b1 (by omega) (by omega);rw[v]at key;refine eS rfl ?_;refine cP 4 c ?_ ?_
            ·trivial
            ·refine rM c (key) [(1000000,.nm 1000000)] [] ?_ ?_ ?_
             ·first|exact eN|refine eM ?_
             ·first|exact eN|refine eM ?_
             ·rintro _ _ ⟨rfl,r,rfl,e⟩;refine⟨[(1000000,.nm 1000000)],.raw (.tuple #[]),[(1000000,.arr 53 BD r)],rfl,rfl,?_,?_,rfl,rfl,Ca ?_⟩
              ·first|exact eN|refine eM ?_
              ·first|exact eN|refine eM ?_
              ·repeat'(first|exact trivial|refine eS rfl ?_|refine AB ?_|refine rX c ?_ ?_)
               ·exact CA
               ·refine⟨⟨(b1-1-(j-d),1,r),by simp only;omega,f.trans e⟩,AC [(1000000,.nm 1000000)] rfl rfl ?_ ?_⟩
                ·first|exact eN|refine eM ?_
                ·simp only;rw[show ((b1-1-(j-d):Nat):Int)=(b1:Int)-1-((j:Int)-(d:Int)) by omega];first|exact eN|refine eM ?_
           ·repeat'(first|exact trivial|refine eS rfl ?_|refine AB ?_|refine rX c ?_ ?_)
            refine⟨⟨(j,hint,i),⟨z,A⟩,f⟩,AC [(1000000,.nm 1000000)] rfl rfl ?_ ?_⟩
            ·first|exact eN|refine eM ?_
            ·first|exact eN|refine eM ?_
          ·clear z A f v key;obtain⟨⟨j,hint,i⟩,⟨z,A⟩,f⟩:=x;simp only at z A f ⊢;have v:i.length=l.length:=f.len.trans u;have ah:=N.perm B2 f.perm;have Y:=Q.pin f;refine M8 (ι:={x:List (Int×Int)//Db (0,0) d b1 m x}) (fun x=>⟨[(0,.sr 1000000 BD 0 l.length),(1,.p T3 (d:Int)),(2,.p T3 (b1:Int)),(3,.p T3 (C:Int)),(4,.fn 116),(10,.p .bool T),(11,.p .bool U),(12,.p (.int .i64) ((b1-d:Nat):Int)),(13,.p T3 (j:Int))],[(1000000,.arr 53 BD x.1)]⟩) ?_ (fun x=>?_)
           ·repeat'(first|exact trivial|refine eS rfl ?_|refine AB ?_|refine rX c ?_ ?_)
            refine rC (fun n=>?_) (fun n=>?_)
            ·have key:=y4 i (by omega) ah d b1 (by omega) (by omega) Y;rw[v]at key;refine eS rfl ?_;refine cP 4 c ?_ ?_
             ·trivial
             ·refine rM c (key) [(1000000,.nm 1000000)] [] ?_ ?_ ?_
              ·first|exact eN|refine eM ?_
              ·first|exact eN|refine eM ?_
              ·rintro _ _ ⟨w,r,rfl,rfl,e,g⟩;refine⟨[(1000000,.nm 1000000)],.p .bool w,[(1000000,.arr 53 BD r)],rfl,rfl,?_,?_,rfl,rfl,Ca ?_⟩
               ·first|exact eN|refine eM ?_
               ·first|exact eN|refine eM ?_
               ·refine eS rfl ?_;refine rC (fun af=>?_) (fun af=>?_)
                ·repeat'(first|exact trivial|refine eS rfl ?_|refine AB ?_|refine rX c ?_ ?_|refine rC ?_ ?_<;>intro k<;>try(cases k;done))
                 have am:=f.trans e;exact fM c [] (.raw (.tuple #[])) rfl ⟨rfl,r,rfl,o.trans (am.mono D E),(t.pin am).done (g af)⟩
                ·repeat'(first|exact trivial|refine eS rfl ?_|refine AB ?_|refine rX c ?_ ?_)
                 refine⟨⟨r,f.trans e⟩,AC [(1000000,.nm 1000000)] rfl rfl ?_ ?_⟩
                 ·first|exact eN|refine eM ?_
                 ·first|exact eN|refine eM ?_
            ·repeat'(first|exact trivial|refine eS rfl ?_|refine AB ?_|refine rX c ?_ ?_)
             refine⟨⟨i,f⟩,AC [(1000000,.nm 1000000)] rfl rfl ?_ ?_⟩
             ·first|exact eN|refine eM ?_
             ·first|exact eN|refine eM ?_
           ·clear v ah Y f;obtain⟨ao,y⟩:=x;simp only;have ak:ao.length=l.length:=y.len.trans u;have ai:=N.perm B2 y.perm;have R:=Q.pin y;have ad:=t.pin y;repeat'(first|exact trivial|refine eS rfl ?_|refine AB ?_|refine rX c ?_ ?_)
            ·dsimp only[Ty.den];exact⟨fun _=>by omega,fun _=>by omega,fun _=>by omega⟩
            ·refine DH (by simp only[go_sem,Nat.reduceEqDiff,reduceCtorEq,Nat.reduceAdd,Nat.reduceSub,Nat.reduceMul,Nat.reduceLeDiff,Nat.reduceLT,Int.reduceLE,Int.reduceToNat,Int.reduceNeg,↓reduceIte];rfl) ?_ ?_
             ·intro L;exfalso;simp only[An,GO,To,NO]at L;obtain⟨h1,X⟩:=L;rw[show ((d:Int)-1).toNat=d-1 by omega]at X;rcases R with h|h
              ·omega
              ·exact X (h j z A)
             ·intro L;clear L;have key:=y3 ao (by omega) ai d b1 j z A (by omega);rw[ak]at key;repeat'(first|exact trivial|refine eS rfl ?_|refine AB ?_|refine rX c ?_ ?_)
              refine cP 5 c ?_ ?_
              ·trivial
              ·refine rM c (key) [(1000000,.nm 1000000)] [] ?_ ?_ ?_
               ·first|exact eN|refine eM ?_
               ·first|exact eN|refine eM ?_
               ·rintro _ _ ⟨q,w,I,rfl,rfl,P,F⟩;refine⟨[(1000000,.nm 1000000)],.tup [.p T3 (q:Int),.p .bool w],[(1000000,.arr 53 BD I)],rfl,rfl,?_,?_,rfl,rfl,?_⟩
                ·first|exact eN|refine eM ?_
                ·first|exact eN|refine eM ?_
                ·have aw:=F.l;have bd:=F.r;have O:=o.trans ((y.trans P).mono D E);have al:=O.len;have aj:=aa.perm B2 O.perm;have Z:=R.pin P;have ae:=ad.pin P;clear y ak ai R ad P key;have W:(((b1-d:Nat):Int)).tdiv 8=(((b1-d) / 8:Nat):Int):=by
                  rw[AAn (by omega)];omega
                 refine rL c ?_ ?_
                 ·trivial
                 ·repeat'(first|exact trivial|refine eS rfl ?_|refine AB ?_|refine rX c ?_ ?_)
                  ·exact CA
                  ·rw[W];exact⟨by decide,by omega,by omega⟩
                  ·rw[W];refine rC (fun n=>?_) (fun n=>?_)
                   ·have key:=V I (by omega) aj d q C (by omega) aw (by omega) G (Z.sub (by omega));unfold Yf at key;rw[al]at key;repeat'(first|exact trivial|refine eS rfl ?_|refine AB ?_|refine rX c ?_ ?_)
                    refine cP 5 c ?_ ?_
                    ·trivial
                    ·refine rM c (key) [(1000000,.nm 1000000)] [] ?_ ?_ ?_
                     ·first|exact eN|refine eM ?_
                     ·first|exact eN|refine eM ?_
                     ·rintro _ _ ⟨rfl,r,rfl,e,g⟩;refine⟨[(1000000,.nm 1000000)],.raw (.tuple #[]),[(1000000,.arr 53 BD r)],rfl,rfl,?_,?_,rfl,rfl,Ca ?_⟩
                      ·first|exact eN|refine eM ?_
                      ·first|exact eN|refine eM ?_
                      ·have M:=F.pinL e;have B:Db (0,0) d b1 I r:=e.mono (If _) (by omega);repeat'(first|exact trivial|refine eS rfl ?_|refine AB ?_|refine rX c ?_ ?_)
                       ·exact CA
                       ·refine⟨⟨((q+1,b1,C),(decide ((((b1-d) / 8:Nat):Int)≤(q:Int)-(d:Int)),w),r),(ae.pin B).left B2 M g,O.trans (B.mono D E),M.bf,G⟩,by simp only;omega,AC [(1000000,.nm 1000000)] rfl rfl ?_ ?_⟩
                        ·first|exact eN|refine eM ?_
                        ·first|exact eN|refine eM ?_
                   ·have key:=V I (by omega) aj (q+1) b1 C (by omega) (by omega) (by omega) G F.bf;unfold Yf at key;rw[al,show ((q+1:Nat):Int)=(q:Int)+1 by omega]at key;repeat'(first|exact trivial|refine eS rfl ?_|refine AB ?_|refine rX c ?_ ?_)
                    refine cP 6 c ?_ ?_
                    ·exact CA
                    ·refine rM c (key) [(1000000,.nm 1000000)] [] ?_ ?_ ?_
                     ·first|exact eN|refine eM ?_
                     ·first|exact eN|refine eM ?_
                     ·rintro _ _ ⟨rfl,r,rfl,e,g⟩;refine⟨[(1000000,.nm 1000000)],.raw (.tuple #[]),[(1000000,.arr 53 BD r)],rfl,rfl,?_,?_,rfl,rfl,Ca ?_⟩
                      ·first|exact eN|refine eM ?_
                      ·first|exact eN|refine eM ?_
                      ·have M:=F.pinR e;have B:Db (0,0) d b1 I r:=e.mono (by omega) (If _);repeat'(first|exact trivial|refine eS rfl ?_|refine AB ?_|refine rX c ?_ ?_)
                       refine⟨⟨((d,q,C),(decide ((((b1-d) / 8:Nat):Int)≤(b1:Int)-(q:Int)),w),r),(ae.pin B).right B2 M g,O.trans (B.mono D E),(Z.pin B).sub (b':=q) (by omega),G⟩,by simp only;omega,AC [(1000000,.nm 1000000)] rfl rfl ?_ ?_⟩
                       ·first|exact eN|refine eM ?_
                       ·first|exact eN|refine eM ?_
theorem zA (l:List (Int×Int)) (i:l.length<256) (e:ZF Bw (0,0) l) (a b c:Nat) (f:a≤b) (g:b≤l.length) (j:c≤1000) (d:Bf Bw (0,0) a b l):Yf l a b c:=by
 have key:∀(n:Nat) (l:List (Int×Int)),l.length<256→ZF Bw (0,0) l→∀a b c:Nat,b-a<n→a≤b→b≤l.length→c≤1000→Bf Bw (0,0) a b l→Yf l a b c:=by
  intro n;induction n with
  | zero=>intro l _ _ a b c h;omega
  | succ n s =>
   intro l i e a b c hn f g j d;exact mN l i e a b c f g j d fun l' h1 m k b' t u o p q r=>s l' h1 m k b' t (by omega) o p q r
 exact key (b-a+1) l i e a b c (by omega) f g j d
end
def sR (l:List (Int×Int)):Prop:=l.Pairwise fun a b=>a.1≠b.1
def z7 (l:List (Int×Int)):Prop:=l.Pairwise fun a b=>a.1<b.1
theorem VA (x:Int×Int) (s:List (Int×Int)):∀n,(∀j,HQ x s n≤j→j<n→x.1<(s.getD j (0,0)).1)∧(HQ x s n=0∨¬x.1<(s.getD (HQ x s n-1) (0,0)).1)
 | 0=>⟨fun j h1 a=>by omega,.inl rfl⟩
 | n+1=>by
  obtain⟨h1,a⟩:=VA x s n;unfold HQ;split
  ·rename_i h;refine⟨fun j b c=>?_,a⟩;by_cases e:j=n
   ·rw[e];exact h
   ·exact h1 j b (by omega)
  ·rename_i h;exact⟨fun j b c=>by omega,.inr (by simpa using h)⟩
theorem zB {s:List (Int×Int)} (hs:z7 s) {x:Int×Int} (l:∀a∈s,a.1≠x.1):z7 (Mg s x):=by
 obtain⟨h1,c⟩:=VA x s s.length;have m:=Q3 x s s.length;unfold Mg;generalize HQ x s s.length=p at *;have hp:=hs;unfold z7 at hp;rw[←ABf p s,AB4]at hp;have g:∀i (h:i<s.length),s.getD i (0,0)=s[i]:=fun i h=>by rw[AS,AT h];rfl
 have k:∀a∈s.take p,a.1<x.1:=by
  intro a ha;rcases c with c|c
  ·subst c;simp at ha
  ·obtain⟨i,hi,rfl⟩:=AAa.1 ha;rw[OR]at hi;rw[List.getElem_take];by_cases o:p=0
   ·omega
   have f:p-1<s.length:=by omega
   rw[g (p-1) f]at c;have n:=l s[p-1] (AAf f);by_cases e:i=p-1
   ·subst e;omega
   ·have:=(nO.1 hs) i (p-1) (by omega) f (by omega);omega
 have j:∀a∈s.drop p,x.1<a.1:=by
  intro a ha;obtain⟨i,hi,rfl⟩:=AAa.1 ha;rw[AAP]at hi;rw[List.getElem_drop,←g (p+i) (by omega)];exact h1 (p+i) (by omega) (by omega)
 unfold z7;rw[AAy,AB4];refine⟨hp.1,?_,fun a ha b d=>?_⟩
 ·rw[List.singleton_append,ABg];exact⟨j,hp.2.1⟩
 ·rcases Do.1 (by simpa using d:b∈x :: s.drop p) with rfl|d
  ·exact k a ha
  ·exact hp.2.2 a ha b d
theorem Mh {l:List (Int×Int)} (h:sR l):z7 (AX l):=by
 induction l using Fu with
 | h0=>exact List.Pairwise.nil
 | h1 l a d =>
  unfold sR at h;rw[AB4]at h;rw[GX];exact zB (d h.1) fun b c=>h.2.2 b ((EK l).mem_iff.1 c) a (by simp)
theorem mO {l r:List (Int×Int)} (hp:r.Perm l) (h1:z7 r) (c:z7 l):r=l :=
 List.Perm.eq_of_pairwise (le:=fun a b:Int×Int=>a.1<b.1) (fun a b _ _ d e=>by omega) h1 c hp
theorem jF {l:List (Int×Int)} (h:z7 l):sJ l:=by
 intro i hi;have a:∀i (h:i<l.length),l.getD i (0,0)=l[i]:=fun i h=>by rw[AS,AT h];rfl
 rw[a i (by omega),a (i+1) hi];exact(nO.1 h) i (i+1) (by omega) hi (by omega)
theorem A0E {l:List (Int×Int)} (h:sR l):ZF Bw (0,0) l:=by
 rw[jC B2];refine h.imp fun {a b} g e=>g ?_;unfold Bw E1 at e;split at e
 ·omega
 ·split at e<;>omega
theorem bG {l r:List (Int×Int)} (h:sR l) (hp:r.Perm l) (hs:PT Bw (0,0) 0 l.length r):r=AX l:=by
 refine mO (hp.trans (EK l).symm) (nO.2 fun i j hi b c=>?_) (Mh h);have a:∀i (h:i<r.length),r.getD i (0,0)=r[i]:=fun i h=>by rw[AS,AT h];rfl
 have:=hs i j (IS _) c (by rw[←hp.length_eq];exact b);rw[a i hi,a j b]at this;unfold Bw E1 at this;split at this
 ·assumption
 ·split at this<;>omega
theorem LB {l:List (Int×Int)} (h:sR l):AX (AX l)=AX l:=LA (jF (Mh h))
def z8 (f:List AK):Prop:=∀x∈f,sR x.2∧x.2.length≤200
def Dj (f:List AK):List AK:=f.map fun x=>(x.1,AX x.2)
theorem FH (f:List AK):(Dj f).length=f.length:=AA3 _
theorem Nx (f:List AK) (n:Nat):(Dj f).getD n (0,[])=((f.getD n (0,[])).1,AX (f.getD n (0,[])).2):=by
 unfold Dj;simp only[AS,AAW];cases f[n]?<;>rfl
theorem PU {f:List AK} (h:EE f):EE (Dj f):=by
 refine⟨by rw[FH];exact h.1,fun x d=>?_⟩;obtain⟨y,e,rfl⟩:=Of.1 d;obtain⟨b,c⟩:=h.2 y e;refine⟨by simp only[CQ];exact b,fun a ha=>?_⟩;rw[FH];exact c a ((EK _).mem_iff.1 ha)
theorem sS {f:List AK} (h:z8 f):mC (Dj f):=by
 intro x c;obtain⟨y,d,rfl⟩:=Of.1 c;obtain⟨a,b⟩:=h y d;exact⟨jF (Mh a),by simp only[CQ];exact b⟩
theorem jG {f:List AK} (hf:z8 f) (n:Int):sR (f.getD n.toNat (0,[])).2∧(f.getD n.toNat (0,[])).2.length≤200:=by
 by_cases h:n.toNat<f.length
 ·have a:f.getD n.toNat (0,[])∈f:=by
   rw[AS,AT h];exact AAf h
  exact hf _ a
 ·rw[AS,iS (by omega)];exact⟨List.Pairwise.nil,by simp⟩
theorem QN {f:List AK} (h:z8 f):∀(k:Nat) (s:List Int×List Int) (n:Int),DY (Dj f) k s n=DY f k s n
 | 0,_,_=>rfl
 | k+1,s,n=>by
  rw[E0,E0,Nx];simp only;rw[LB (jG h n).1];refine AB5 (fun g=>List.foldl g _ _) ?_;funext s a;unfold Dw;rw[QN h k s a.2]
theorem mP {f:List AK} (h:z8 f) (r:Int):I4 (Dj f) r=I4 f r:=by
 have a:K1 (Dj f) r=K1 f r:=by
  unfold K1;rw[FH,QN h]
 unfold I4;rw[a];refine AAD fun n _=>?_;unfold K3;rw[Nx];simp only;rw[LB (jG h n).1]
theorem Yg {f:List AK} (hf:EE f) (hn:z8 f) {root:Int} (h0:0≤root) (h1:root<f.length):I4 f root=Ej (Dj f) root:=by
 rw[←mP hn];exact Ss (PU hf) (sS hn) h0 (by rw[FH];exact h1)
theorem sT {L:Go.Loop} (h1:L.state=.ready) (a:L.pending=none):{ { L with state:=.busy } with state:=.ready,pending:=none }=L:=by
 cases L;simp_all
theorem VB (l:List (Int×Int)):BE Tryz.prog 115 [.p IT l] [] [] (fun res c=>res=.clo 149 [1]∧c=[(1,.box 47 false [.p IT l])]):=by
 refine KK [0,1,2] [] [] Tryz.func115 Tryz.ntmps115 AG ?_;intro w0 K O0 ρ0 a d e;simp only[Ak];repeat'(first|exact trivial|refine eS rfl ?_|refine AB ?_|refine rX a ?_ ?_|refine rC ?_ ?_<;>intro b<;>try(cases b;done))
 exact fM a [.tmp 2] (.clo 149 [1]) eT ⟨rfl,rfl⟩
def B6 (l:List (Int×Int)) (L:Go.Loop) (a:Array Value) (i:Nat):List (Nat×Obj):=[(1,.box 47 false [.p IT l]),(101,.loop L),(102,.frame a [(2,.bp 2 [] 0),(6,.clo 149 [1])]),(2,.box 47 false [.sr 7 BD 0 i]),(7,.arr 53 BD (l.take i))]
theorem bH (l:List (Int×Int)) (g:l.length≤100000) (L:Go.Loop) (b:Array Value) (f:∀i,i<l.length→Xg Tryz.prog 101 [.p BD (l.getD i (0,0))] (B6 l L b i) [1,101,102,2] (fun res e=>res=.p .bool true∧e=B6 l L b (i+1))) :
  BE Tryz.prog 149 [.yl 101,.bp 1 [] 0] (B6 l L b 0) [1,101,102,2] (fun res e=>res=.raw (.tuple #[])∧e=B6 l L b l.length):=by
 refine KK [0,1,4,5,6,7,8,14] [] [] Tryz.func149 Tryz.ntmps149 AG ?_;intro w0 K O0 ρ0 a h j;simp only[Ak,B6];repeat'(first|exact trivial|refine eS rfl ?_|refine AB ?_|refine rX a ?_ ?_|refine rC ?_ ?_<;>intro c<;>try(cases c;done))
 refine AH (ι:={i:Nat//i≤l.length}) (fun i=>⟨[(0,.yl 101),(1,.bp 1 [] 0),(5,.p IT l),(6,.p (.int .i64) (l.length:Int)),(7,.p (.int .i64) (i.1:Int))],B6 l L b i.1⟩) (fun i=>l.length-i.1) ⟨0,by omega⟩ (AC [(1,.nm 1),(101,.nm 101),(102,.nm 102),(2,.nm 2),(7,.nm 7)] rfl rfl ?_ ?_) (fun i=>?_)
 ·simp only[B6];first|exact eN|refine eM ?_
 ·first|exact eN|refine eM ?_
 ·obtain⟨i,hi⟩:=i;simp only[B6];repeat'(first|exact trivial|refine eS rfl ?_|refine AB ?_|refine rX a ?_ ?_|refine rC ?_ ?_<;>intro c<;>try(cases c;done))
  ·exact eV
  ·have d:i<l.length:=by exact eV
   refine cP 2 a ?_ ?_
   ·trivial
   ·refine rY 101 101 a (f i d) [(1,.nm 1),(101,.nm 101),(102,.nm 102),(2,.nm 2),(7,.nm 7)] [7] ?_ ?_ ?_
    ·first|exact eN|refine eM ?_
    ·simp only[B6];first|exact eN|refine eM ?_
    ·rintro _ _ ⟨rfl,rfl⟩;refine⟨[(1,.nm 1),(101,.nm 101),(102,.nm 102),(2,.nm 2),(7,.nm 7)],.p .bool true,B6 l L b (i+1),rfl,rfl,?_,?_,rfl,rfl,?_⟩
     ·simp only[B6];first|exact eN|refine eM ?_
     ·first|exact eN|refine eM ?_
     ·simp only[B6];refine G2 [0,1,5,6,7,14] a (by simp only[go_sem,Nat.reduceEqDiff,reduceCtorEq,Nat.reduceAdd,Nat.reduceSub,Nat.reduceMul,Nat.reduceLeDiff,Nat.reduceLT,Int.reduceLE,Int.reduceToNat,Int.reduceNeg,↓reduceIte];rfl) ?_ ?_
      ·trivial
      ·repeat'(first|exact trivial|refine eS rfl ?_|refine AB ?_|refine rX a ?_ ?_|refine rC ?_ ?_<;>intro c<;>try(cases c;done))
       ·exact eV
       ·refine⟨⟨i+1,by omega⟩,by simp only;omega,AC [(1,.nm 1),(101,.nm 101),(102,.nm 102),(2,.nm 2),(7,.nm 7)] rfl rfl ?_ ?_⟩
        ·simp only[B6];first|exact eN|refine eM ?_
        ·first|exact eN|refine eM ?_
  ·have d:i=l.length:=by exact eV
   subst d;refine fM a [] (.raw (.tuple #[])) rfl ⟨rfl,?_⟩;simp only[B6,gO]
theorem Wc (l:List (Int×Int)) (o:l.length≤100000):BE Tryz.prog 162 [.raw (.slice none 0 0),.clo 149 [1]] [(1,.box 47 false [.p IT l])] [] (fun res r=>res=.sr 7 BD 0 l.length∧r=[(7,.arr 53 BD l)]):=by
 refine fKR [0,1,2,4,5,6,7] [] [] Tryz.func162 Tryz.ntmps162 AG ?_;intro w0 K O0 ρ0 a u v;simp only[Ak];repeat'(first|exact trivial|refine eS rfl ?_|refine AB ?_|refine rX a ?_ ?_|refine rC ?_ ?_<;>intro c<;>try(cases c;done))
 refine pV a rfl rfl (by simp only[go_sem,Nat.reduceEqDiff,reduceCtorEq,Nat.reduceAdd,Nat.reduceSub,Nat.reduceMul,Nat.reduceLeDiff,Nat.reduceLT,Int.reduceLE,Int.reduceToNat,Int.reduceNeg,↓reduceIte];rfl) 101 103 102 rfl rfl rfl rfl ?_;intro L d f g h j k m q;refine⟨_,B6 l L d 0,[1,101,102,2],_,[(1,.nm 1),(101,.nm 101),(102,.nm 102),(2,.nm 2),(7,.nil)],[],bH l o L d ?_,rfl,rfl,?_,?_,rfl,?_⟩
 ·intro i hi;refine pU (fr:=102) rfl rfl f j k m h q rfl (by kernel_rfl) (by simp) rfl rfl (by kernel_rfl) (by kernel_rfl) (tyTab_ok [] [0,1,2,4,5,6,7]) AG ?_;intro z s t A y a w x n;simp only[B6,G8];repeat'(first|exact trivial|refine eS rfl ?_|refine AB ?_|refine rX a ?_ ?_|refine rC ?_ ?_<;>intro c<;>try(cases c;done))
  refine⟨rfl,?_⟩;repeat'(first|exact trivial|refine eS rfl ?_|refine AB ?_|refine rX a ?_ ?_|refine rC ?_ ?_<;>intro c<;>try(cases c;done))
  ·simp only[AO];omega
  ·have e:List.take i (List.take i l)++[((l.getD i (0,0)).1,(l.getD i (0,0)).2)]=l.take (i+1):=by
    rw[Ae l (0,0) hi,As (ABH (by rw[OR];omega):(l.take i).length≤i)]
   refine Ev.ent (σ':=⟨[],[(1,.box 47 false [.p IT l]),(101,.loop { L with state:=.busy }),(102,.frame d [(2,.bp 2 [] 0),(6,.clo 149 [1])]),(2,.box 47 false [.sr 7 BD 0 (i+1)]),(7,.arr 53 BD (l.take (i+1)))]⟩) ?_ (AC [(1,.nm 1),(101,.nm 101),(102,.nm 102),(2,.nm 2),(7,.nm 7)] rfl rfl ?_ ?_)
   ·refine lA a (yn:=101) rfl rfl (by simp) n ⟨rfl,?_⟩;simp only[B6,go_sem,Nat.reduceEqDiff,reduceCtorEq,Nat.reduceAdd,Nat.reduceSub,Nat.reduceMul,Nat.reduceLeDiff,Nat.reduceLT,Int.reduceLE,Int.reduceToNat,Int.reduceNeg,↓reduceIte,sT f g]
   ·first|exact eN|refine eM ?_
    exact e
   ·first|exact eN|refine eM ?_
 ·simp only[Bj];first|exact eN|refine eM ?_
 ·simp only[Bj,B6];first|exact eN|refine eM ?_
 ·rintro _ _ ⟨rfl,rfl⟩;refine⟨[(1,.nm 1),(101,.nm 101),(102,.nm 102),(2,.nm 2),(7,.nm 7)],B6 l L d l.length,L,rfl,rfl,?_,rfl,rfl,rfl,by rw[f];rfl,?_⟩
  ·simp only[B6];first|exact eN|refine eM ?_
  ·intro b;rw[g];simp only[EvJ,B6,Bj,go_sem,Nat.reduceEqDiff,reduceCtorEq,Nat.reduceAdd,Nat.reduceSub,Nat.reduceMul,Nat.reduceLeDiff,Nat.reduceLT,Int.reduceLE,Int.reduceToNat,Int.reduceNeg,↓reduceIte];replace a:=lB (dn:=103) (b:=b) a;repeat'(first|exact trivial|refine eS rfl ?_|refine AB ?_|refine rX a ?_ ?_|refine rC ?_ ?_<;>intro c<;>try(cases c;done))
   refine Ev.ent (σ':=⟨[(4,.sr 7 BD 0 l.length)],[(7,.arr 53 BD l),(103,.dfr)]⟩) ?_ (AC [(7,.nm 7),(103,.nm 103)] rfl rfl ?_ ?_)
   ·exact pY a [.tmp 4] rfl (.inl rfl) rfl rfl (.sr 7 BD 0 l.length) eT ⟨rfl,by simp only[go_sem,Nat.reduceEqDiff,reduceCtorEq,Nat.reduceAdd,Nat.reduceSub,Nat.reduceMul,Nat.reduceLeDiff,Nat.reduceLT,Int.reduceLE,Int.reduceToNat,Int.reduceNeg,↓reduceIte]⟩
   ·first|exact eN|refine eM ?_
   ·first|exact eN|refine eM ?_
theorem bI (l:List (Int×Int)) (c:l.length≤100000):BE Tryz.prog 147 [.clo 149 [1]] [(1,.box 47 false [.p IT l])] [] (fun res d=>res=.sr 7 BD 0 l.length∧d=[(7,.arr 53 BD l)]):=by
 refine KK [0,2] [] [] Tryz.func147 Tryz.ntmps147 AG ?_;intro w0 K O0 ρ0 a e f;simp only[Ak];repeat'(first|exact trivial|refine eS rfl ?_|refine AB ?_|refine rX a ?_ ?_|refine rC ?_ ?_<;>intro b<;>try(cases b;done))
 refine cP 1 a ?_ ?_
 ·trivial
 ·refine rM a (Wc l c) [(1,.nm 1)] [1] ?_ ?_ ?_
  ·first|exact eN|refine eM ?_
  ·first|exact eN|refine eM ?_
  ·rintro _ _ ⟨rfl,rfl⟩;refine⟨[(7,.nm 7)],.sr 7 BD 0 l.length,[(7,.arr 53 BD l)],rfl,rfl,?_,?_,rfl,rfl,?_⟩
   ·first|exact eN|refine eM ?_
   ·first|exact eN|refine eM ?_
   ·refine G2 [2] a (by simp only[go_sem,Nat.reduceEqDiff,reduceCtorEq,Nat.reduceAdd,Nat.reduceSub,Nat.reduceMul,Nat.reduceLeDiff,Nat.reduceLT,Int.reduceLE,Int.reduceToNat,Int.reduceNeg,↓reduceIte];rfl) ?_ ?_
    ·trivial
    ·repeat'(first|exact trivial|refine eS rfl ?_|refine AB ?_|refine rX a ?_ ?_|refine rC ?_ ?_<;>intro b<;>try(cases b;done))
     exact fM a [.tmp 2] (.sr 7 BD 0 l.length) eT ⟨rfl,rfl⟩
theorem Yh (l:List (Int×Int)) (h:l.length≤200) (hs:sR l):BE Tryz.prog 148 [.sr 1000000 BD 0 l.length,.fn 116] [(1000000,.arr 53 BD l)] [1000000] (fun res f=>res=.raw (.tuple #[])∧f=[(1000000,.arr 53 BD (AX l))]):=by
 have d:=A0E hs;refine KK [0,1,4] [] [] Tryz.func148 Tryz.ntmps148 AG ?_;intro w0 K O0 ρ0 a i j;simp only[Ak];repeat'(first|exact trivial|refine eS rfl ?_|refine AB ?_|refine rX a ?_ ?_|refine rC ?_ ?_<;>intro b<;>try(cases b;done))
 refine cP 4 a ?_ ?_
 ·exact eV
 ·refine rM a (jE (l.length:Int) (by omega) (by omega)) [] [] ?_ ?_ ?_
  ·first|exact eN|refine eM ?_
  ·first|exact eN|refine eM ?_
  ·rintro _ _ ⟨⟨n,rfl,g,-⟩,rfl⟩;refine⟨[],.p T3 (n:Int),[],rfl,rfl,?_,?_,rfl,rfl,?_⟩
   ·first|exact eN|refine eM ?_
   ·first|exact eN|refine eM ?_
   ·have key:=zA l (by omega) d 0 l.length n (IS _) (If _) (by omega) (.inl rfl);unfold Yf at key;rw[show ((0:Nat):Int)=0 from rfl]at key;refine Qt a 1 (by simp only[go_sem,Nat.reduceEqDiff,reduceCtorEq,Nat.reduceAdd,Nat.reduceSub,Nat.reduceMul,Nat.reduceLeDiff,Nat.reduceLT,Int.reduceLE,Int.reduceToNat,Int.reduceNeg,↓reduceIte];rfl) ?_ ?_
    ·trivial
    ·refine rM a (key) [(1000000,.nm 1000000)] [] ?_ ?_ ?_
     ·first|exact eN|refine eM ?_
     ·first|exact eN|refine eM ?_
     ·rintro _ _ ⟨rfl,r,rfl,hp,e⟩;have c:=bG hs hp.perm e;subst c;have k:=CQ l;refine⟨[(1000000,.nm 1000000)],.raw (.tuple #[]),[(1000000,.arr 53 BD (AX l))],rfl,rfl,?_,?_,rfl,rfl,Ca ?_⟩
      ·first|exact eN|refine eM ?_
      ·first|exact eN|refine eM ?_
      ·repeat'(first|exact trivial|refine eS rfl ?_|refine AB ?_|refine rX a ?_ ?_|refine rC ?_ ?_<;>intro b<;>try(cases b;done))
       exact fM a [] (.raw (.tuple #[])) rfl ⟨rfl,rfl⟩
theorem L7 (l:List (Int×Int)) (c:l.length≤200) (hs:sR l):BE Tryz.prog 114 [.clo 149 [1],.fn 116] [(1,.box 47 false [.p IT l])] [] (fun res d=>res=.sr 7 BD 0 l.length∧d=[(7,.arr 53 BD (AX l))]):=by
 have g:=CQ l;refine KK [0,1,4,5] [] [] Tryz.func114 Tryz.ntmps114 AG ?_;intro w0 K O0 ρ0 a e f;simp only[Ak];repeat'(first|exact trivial|refine eS rfl ?_|refine AB ?_|refine rX a ?_ ?_|refine rC ?_ ?_<;>intro b<;>try(cases b;done))
 refine cP 1 a ?_ ?_
 ·trivial
 ·refine rM a (bI l (by omega)) [(1,.nm 1)] [1] ?_ ?_ ?_
  ·first|exact eN|refine eM ?_
  ·first|exact eN|refine eM ?_
  ·rintro _ _ ⟨rfl,rfl⟩;refine⟨[(1000000,.nm 7)],.sr 1000000 BD 0 l.length,[(1000000,.arr 53 BD l)],rfl,rfl,?_,?_,rfl,rfl,?_⟩
   ·first|exact eN|refine eM ?_
   ·first|exact eN|refine eM ?_
   ·refine G2 [1,5] a (by simp only[go_sem,Nat.reduceEqDiff,reduceCtorEq,Nat.reduceAdd,Nat.reduceSub,Nat.reduceMul,Nat.reduceLeDiff,Nat.reduceLT,Int.reduceLE,Int.reduceToNat,Int.reduceNeg,↓reduceIte];rfl) ?_ ?_
    ·trivial
    ·repeat'(first|exact trivial|refine eS rfl ?_|refine AB ?_|refine rX a ?_ ?_|refine rC ?_ ?_<;>intro b<;>try(cases b;done))
     refine cP 2 a ?_ ?_
     ·trivial
     ·refine rM a (Yh l c hs) [(1000000,.nm 1000000)] [] ?_ ?_ ?_
      ·first|exact eN|refine eM ?_
      ·first|exact eN|refine eM ?_
      ·rintro _ _ ⟨rfl,rfl⟩;refine⟨[(1000000,.nm 1000000)],.raw (.tuple #[]),[(1000000,.arr 53 BD (AX l))],rfl,rfl,?_,?_,rfl,rfl,Ca ?_⟩
       ·first|exact eN|refine eM ?_
       ·first|exact eN|refine eM ?_
       ·repeat'(first|exact trivial|refine eS rfl ?_|refine AB ?_|refine rX a ?_ ?_|refine rC ?_ ?_<;>intro b<;>try(cases b;done))
        refine Ev.ent (σ':=⟨[(4,.sr 7 BD 0 l.length)],[(7,.arr 53 BD (AX l))]⟩) ?_ (AC [(7,.nm 1000000)] rfl rfl ?_ ?_)
        ·exact fM a [.tmp 4] (.sr 7 BD 0 l.length) eT ⟨rfl,rfl⟩
        ·first|exact eN|refine eM ?_
        ·first|exact eN|refine eM ?_
def KG (f:List AK) (o:List Int):List (Nat×Obj):=[(1,.box 60 false [.sr 5 T3 0 o.length]),(2,.box 160 false [.mp 6]),(3,.box 25 true [.p Fq f]),(4,.box 124 false [.clo 113 [1,2,3,4]]),(5,.arr 3 T3 o),(6,.mapo T3 T3 (nU o))]
theorem A3f {f:List AK} {o:List Int} (h:QL f o):QL (Dj f) o:=⟨h.nd,fun x a=>by rw[FH];exact h.rng x a⟩
theorem z9 {f:List AK} {o:List Int} (h:QL (Dj f) o):QL f o:=⟨h.nd,fun x a=>by have:=h.rng x a;rwa [FH]at this⟩
theorem mQ (f:List AK) (hf:EE f) (hs:z8 f):∀(k:Nat) (o:List Int) (n:Int),QL f o→0≤n→n<f.length→n∉o→f.length-o.length≤k →
  BE Tryz.prog 113 [.p T3 n,.bp 1 [] 0,.bp 2 [] 0,.bp 3 [] 0,.bp 4 [] 0] (KG f o) [1,2,3,4,6] (fun res Q=>res=.raw (.tuple #[])∧Q=KG f (Qh (Dj f) k o n)):=by
 intro k;induction k with
 | zero =>
  intro o n h0 h1 A B R;have:=(h0.snoc h1 A B).len;simp only[On,oS]at this;omega
 | succ k P =>
  intro o n D u v w hk;have t:=D.snoc u v w;have I:=t.len;simp only[On,oS]at I;have S:=hf.1;refine KK [0,1,2,3,4,7,9,25,26,27,28,39] [] [] Tryz.func113 Tryz.ntmps113 AG ?_;intro w0 K O0 ρ0 c T U;simp only[KG,Ak];repeat'(first|exact trivial|refine eS rfl ?_|refine AB ?_|refine rX c ?_ ?_|refine rC ?_ ?_<;>intro b<;>try(cases b;done))
  ·simp only[AO];omega
  ·rw[sL w];obtain⟨O,G⟩:=jG hs n;have s:=fun a (ha:a∈AX (f.getD n.toNat (0,[])).2)=>I6 hf ((EK _).mem_iff.1 ha);have F:Qh (Dj f) (k+1) o n=(AX (f.getD n.toNat (0,[])).2).foldl (DB (Dj f) k) (o++[n]):=by rw[Nw,Nx]
   have E:=A3f (f:=f) t;refine cP 6 c ?_ ?_
   ·exact⟨u,v⟩
   ·generalize (f.getD n.toNat (0,[])).2=g at *;refine rM c (VB g) [] [] ?_ ?_ ?_
    ·first|exact eN|refine eM ?_
    ·first|exact eN|refine eM ?_
    ·rintro _ _ ⟨rfl,rfl⟩;refine⟨[(50,.nm 1)],.clo 149 [50],[(50,.box 47 false [.p IT g])],rfl,rfl,?_,?_,rfl,rfl,?_⟩
     ·first|exact eN|refine eM ?_
     ·first|exact eN|refine eM ?_
     ·refine rM c (L7 g G O) [(1,.nm 50)] [50] ?_ ?_ ?_
      ·first|exact eN|refine eM ?_
      ·first|exact eN|refine eM ?_
      ·rintro _ _ ⟨rfl,rfl⟩;have C:=CQ g;rw[←C];generalize AX g=L at *;refine⟨[(51,.nm 7)],.sr 51 BD 0 L.length,[(51,.arr 53 BD L)],rfl,rfl,?_,?_,rfl,rfl,?_⟩
       ·first|exact eN|refine eM ?_
       ·first|exact eN|refine eM ?_
       ·refine G2 [0,1,2,3,4,25,26,27] c (by simp only[go_sem,Nat.reduceEqDiff,reduceCtorEq,Nat.reduceAdd,Nat.reduceSub,Nat.reduceMul,Nat.reduceLeDiff,Nat.reduceLT,Int.reduceLE,Int.reduceToNat,Int.reduceNeg,↓reduceIte];rfl) ?_ ?_
        ·trivial
        ·have N:∀i,QL (Dj f) ((L.take i).foldl (DB (Dj f) k) (o++[n]))∧o++[n] <+: (L.take i).foldl (DB (Dj f) k) (o++[n]):=fun i=>K8 (K9 (PU hf) k) _ _ (fun a ha=>by rw[FH];exact s a (AA8 ha)) E;generalize J:o++[n]=q at *;have M:q.length=o.length+1:=by rw[←J];simp
         rw[←M];repeat'(first|exact trivial|refine eS rfl ?_|refine AB ?_|refine rX c ?_ ?_|refine rC ?_ ?_<;>intro b<;>try(cases b;done))
         refine AH (ι:={i:Nat//i≤L.length}) (fun i=>⟨[(0,.p T3 n),(1,.bp 1 [] 0),(2,.bp 2 [] 0),(3,.bp 3 [] 0),(4,.bp 4 [] 0),(25,.p IT L),(26,.p (.int .i64) (L.length:Int)),(27,.p (.int .i64) (i.1:Int))],KG f ((L.take i.1).foldl (DB (Dj f) k) q)⟩) (fun i=>L.length-i.1) ⟨0,by omega⟩ (A1r [51] (AC [(1,.nm 1),(2,.nm 2),(3,.nm 3),(4,.nm 4),(5,.nm 5),(6,.nm 6)] rfl rfl ?_ ?_)) (fun i=>?_)
         ·simp only[KG,AAL,List.foldl_nil];first|exact eN|refine eM ?_
         ·first|exact eN|refine eM ?_
         ·obtain⟨i,hi⟩:=i;obtain⟨j,y⟩:=N i;replace j:=z9 j;have r:=fun(h:i<L.length)=>PM (DB (Dj f) k) L (0,0) q h;have H:=y.length_le;generalize x:(L.take i).foldl (DB (Dj f) k) q=d at j y r H;simp only[KG];repeat'(first|exact trivial|refine eS rfl ?_|refine AB ?_|refine rX c ?_ ?_|refine rC ?_ ?_<;>intro b<;>try(cases b;done))
          ·exact eV
          ·have l:i<L.length:=by exact eV
           have z:=s _ (AE L (0,0) l);have m:(L.getD i (0,0)).2∉d:=by rw[Su]at b;simpa using b
           refine cP 3 c ?_ ?_
           ·trivial
           ·refine rM c (P d (L.getD i (0,0)).2 j z.1 z.2 m (by omega)) [(1,.nm 1),(2,.nm 2),(3,.nm 3),(4,.nm 4),(5,.nm 5),(6,.nm 6)] [5] ?_ ?_ ?_
            ·first|exact eN|refine eM ?_
            ·simp only[KG];first|exact eN|refine eM ?_
            ·rintro _ _ ⟨rfl,rfl⟩;refine⟨[(1,.nm 1),(2,.nm 2),(3,.nm 3),(4,.nm 4),(5,.nm 5),(6,.nm 6)],.raw (.tuple #[]),KG f (Qh (Dj f) k d (L.getD i (0,0)).2),rfl,rfl,?_,?_,rfl,rfl,Ca ?_⟩
             ·simp only[KG];first|exact eN|refine eM ?_
             ·first|exact eN|refine eM ?_
             ·simp only[KG];repeat'(first|exact trivial|refine eS rfl ?_|refine AB ?_|refine rX c ?_ ?_|refine rC ?_ ?_<;>intro b<;>try(cases b;done))
              ·exact eV
              ·have e:DB (Dj f) k d (L.getD i (0,0))=Qh (Dj f) k d (L.getD i (0,0)).2:=At m;refine⟨⟨i+1,by omega⟩,by simp only;omega,AC [(1,.nm 1),(2,.nm 2),(3,.nm 3),(4,.nm 4),(5,.nm 5),(6,.nm 6)] rfl rfl ?_ ?_⟩
               ·simp only[r l,e];first|exact eN|refine eM ?_
               ·first|exact eN|refine eM ?_
          ·exact eV
          ·have l:i<L.length:=by exact eV
           have m:(L.getD i (0,0)).2∈d:=by rw[Su]at b;simpa using b
           have e:DB (Dj f) k d (L.getD i (0,0))=d:=BY m;refine⟨⟨i+1,by omega⟩,by simp only;omega,AC [(1,.nm 1),(2,.nm 2),(3,.nm 3),(4,.nm 4),(5,.nm 5),(6,.nm 6)] rfl rfl ?_ ?_⟩
           ·simp only[r l,e];first|exact eN|refine eM ?_
           ·first|exact eN|refine eM ?_
          ·have hk:L.take i=L:=As (by exact eV);rw[hk]at x;rw[F,x];exact fM c [] (.raw (.tuple #[])) rfl ⟨rfl,rfl⟩
section
theorem mR {α a:Type} (g:α→a) (o:List α) (d:α) (z:a) {i:Nat} (h:i<o.length):((o.take i).map g++List.replicate (o.length-i) z).set i (g (o.getD i d))=(o.take (i+1)).map g++List.replicate (o.length-(i+1)) z:=by
 obtain⟨m,c⟩:∃m,o.length-i=m+1:=⟨o.length-i-1,by omega⟩;have e:o.length-(i+1)=m:=by omega
 have b:((o.take i).map g).length=i:=by rw[AA3,OR];omega
 rw[c,e,ABW _ _ (by omega),b,AB6,List.replicate_succ,ACb,Ae o d h,AAM];simp
def Q8:Ad:={ ins:=[Fs,T3],pre:=fun(f,n,_)=>EE f∧z8 f∧0≤n∧n<(List.length f:Int),out:=fun(f,n,_)=>[.p Fs (Ej (Dj f) n)] }
attribute [local go_sem] Q8
theorem mS:Aj Tryz.prog 77 Q8:=by
 refine fK [0,1,2,4,5,6,7,8,9,10,11,12,22,23,24,25,38,39,40] Tryz.func77 Tryz.ntmps77 AG ?_;rintro w0 O0 ⟨f,root,u⟩ a-⟨hf,hs,r,s⟩;simp only[Q8,AL];have z:=hf.1;have j:QL f []:=⟨by simp,fun x C=>by cases C⟩;obtain⟨g,H⟩:=K9 (PU hf) f.length [] root (A3f j) r (by rw[FH];exact s) (by simp);replace g:=z9 g;have w:Ej (Dj f) root=(Qh (Dj f) f.length [] root).map (QM (Dj f) (Qh (Dj f) f.length [] root)):=by unfold Ej;rw[FH]
 rw[w];repeat'(first|exact trivial|refine eS rfl ?_|refine AB ?_|refine rX a ?_ ?_|refine rC ?_ ?_<;>intro c<;>try(cases c;done))
 refine cP 2 a ?_ ?_
 ·trivial
 ·refine rM a (mQ f hf hs (List.length f) [] root j r s (by simp) (by simp)) [(1,.nm 6),(2,.nm 5),(3,.nm 2),(4,.nm 7),(5,.nil),(6,.nm 13)] [] ?_ ?_ ?_
  ·first|exact eN|refine eM ?_
  ·simp only[KG];first|exact eN|refine eM ?_
   rfl
  ·rintro _ _ ⟨rfl,rfl⟩;refine⟨[(6,.nm 1),(5,.nm 2),(2,.nm 3),(7,.nm 4),(101,.nm 5),(13,.nm 6)],.raw (.tuple #[]),[(6,.box 60 false [.sr 101 T3 0 (Qh (Dj f) (List.length f) [] root).length]),(5,.box 160 false [.mp 13]),(2,.box 25 true [.p Fq f]),(7,.box 124 false [.clo 113 [6,5,2,7]]),(101,.arr 3 T3 (Qh (Dj f) (List.length f) [] root)),(13,.mapo T3 T3 (nU (Qh (Dj f) (List.length f) [] root)))],rfl,rfl,?_,?_,rfl,rfl,Ca ?_⟩
   ·simp only[KG];first|exact eN|refine eM ?_
   ·first|exact eN|refine eM ?_
   ·generalize Qh (Dj f) (List.length f) [] root=o at *;have G:=g.len;repeat'(first|exact trivial|refine eS rfl ?_|refine AB ?_|refine rX a ?_ ?_|refine rC ?_ ?_<;>intro c<;>try(cases c;done))
    ·simp only[AO];omega
    ·refine AH (ι:={i:Nat//i≤o.length}) (fun i=>⟨[(2,.bp 2 [] 0),(4,.bp 4 [] 0),(5,.bp 5 [] 0),(8,.bp 8 [] 0),(22,.sr 101 T3 0 o.length),(23,.p (.int .i64) (o.length:Int)),(24,.p (.int .i64) (i.1:Int))],[(8,.box 25 true [.sr 20 Lr 0 o.length]),(20,.arr 49 Lr ((o.take i.1).map (QM (Dj f) o)++List.replicate (o.length-i.1) (0,[]))),(5,.box 160 false [.mp 13]),(2,.box 25 true [.p Fq f]),(101,.arr 3 T3 o),(13,.mapo T3 T3 (nU o)),(4,.box 25 true [.raw (.slice none 0 0)])]⟩) (fun i=>o.length-i.1) ⟨0,by omega⟩ (AC [(8,.nm 8),(20,.nm 20),(5,.nm 5),(2,.nm 2),(101,.nm 101),(13,.nm 13),(4,.nm 4)] rfl rfl ?_ ?_) (fun i=>?_)
     ·first|exact eN|refine eM ?_
     ·first|exact eN|refine eM ?_
     ·obtain⟨i,hi⟩:=i;repeat'(first|exact trivial|refine eS rfl ?_|refine AB ?_|refine rX a ?_ ?_|refine rC ?_ ?_<;>intro c<;>try(cases c;done))
      ·exact eV
      ·have l:i<o.length:=by exact eV
       have hn:=g.rng _ (AE o 0 l);have q:QM (Dj f) o (o.getD i 0)=((f.getD (o.getD i 0).toNat (0,[])).1,(AX (f.getD (o.getD i 0).toNat (0,[])).2).map (YX o)):=by unfold QM;rw[Nx]
       obtain⟨t,m⟩:=jG hs (o.getD i 0);refine cP 6 a ?_ ?_
       ·exact hn
       ·have F:List.length f≤100000:=z;generalize B:o.getD i 0=n at *;generalize A:f.getD n.toNat (0,[])=x at *;obtain⟨I,d⟩:=x;simp only at t m q;refine rM a (VB d) [] [] ?_ ?_ ?_
        ·first|exact eN|refine eM ?_
        ·first|exact eN|refine eM ?_
        ·rintro _ _ ⟨rfl,rfl⟩;refine⟨[(50,.nm 1)],.clo 149 [50],[(50,.box 47 false [.p IT d])],rfl,rfl,?_,?_,rfl,rfl,?_⟩
         ·first|exact eN|refine eM ?_
         ·first|exact eN|refine eM ?_
         ·refine rM a (L7 d m t) [(1,.nm 50)] [50] ?_ ?_ ?_
          ·first|exact eN|refine eM ?_
          ·first|exact eN|refine eM ?_
          ·rintro _ _ ⟨rfl,rfl⟩;have v:=CQ d;rw[←v];generalize E:AX d=L at *;refine⟨[(51,.nm 7)],.sr 51 BD 0 L.length,[(51,.arr 53 BD L)],rfl,rfl,?_,?_,rfl,rfl,?_⟩
           ·first|exact eN|refine eM ?_
           ·first|exact eN|refine eM ?_
           ·refine G2 [2,4,5,8,9,10,11,22,23,24] a (by simp only[go_sem,Nat.reduceEqDiff,reduceCtorEq,Nat.reduceAdd,Nat.reduceSub,Nat.reduceMul,Nat.reduceLeDiff,Nat.reduceLT,Int.reduceLE,Int.reduceToNat,Int.reduceNeg,↓reduceIte];rfl) ?_ ?_
            ·trivial
            ·repeat'(first|exact trivial|refine eS rfl ?_|refine AB ?_|refine rX a ?_ ?_|refine rC ?_ ?_<;>intro c<;>try(cases c;done))
             refine AH (ι:={k:Nat//k≤L.length}) (fun k=>⟨[(2,.bp 2 [] 0),(4,.bp 4 [] 0),(5,.bp 5 [] 0),(8,.bp 8 [] 0),(9,.p (.int .i64) (i:Int)),(10,.p T3 n),(11,.sr 51 BD 0 L.length),(22,.sr 101 T3 0 o.length),(23,.p (.int .i64) (o.length:Int)),(24,.p (.int .i64) (i:Int)),(38,.p (.int .i64) (L.length:Int)),(39,.p (.int .i64) (k.1:Int))],[(51,.arr 53 BD ((L.take k.1).map (YX o)++L.drop k.1)),(8,.box 25 true [.sr 20 Lr 0 o.length]),(20,.arr 49 Lr ((o.take i).map (QM (Dj f) o)++List.replicate (o.length-i) (0,[]))),(5,.box 160 false [.mp 13]),(2,.box 25 true [.p Fq f]),(101,.arr 3 T3 o),(13,.mapo T3 T3 (nU o)),(4,.box 25 true [.raw (.slice none 0 0)])]⟩) (fun k=>L.length-k.1) ⟨0,by omega⟩ (AC [(51,.nm 51),(8,.nm 8),(20,.nm 20),(5,.nm 5),(2,.nm 2),(101,.nm 101),(13,.nm 13),(4,.nm 4)] rfl rfl ?_ ?_) (fun k=>?_)
             ·first|exact eN|refine eM ?_
             ·first|exact eN|refine eM ?_
             ·obtain⟨k,hk⟩:=k;repeat'(first|exact trivial|refine eS rfl ?_|refine AB ?_|refine rX a ?_ ?_|refine rC ?_ ?_<;>intro c<;>try(cases c;done))
              ·exact eV
              ·exact eV
              ·have h:k<L.length:=by exact eV
               have e:=Sa (YX o) (fun b=>b) L (0,0) h (YX o);refine⟨⟨k+1,by omega⟩,by simp only;omega,AC [(51,.nm 51),(8,.nm 8),(20,.nm 20),(5,.nm 5),(2,.nm 2),(101,.nm 101),(13,.nm 13),(4,.nm 4)] rfl rfl ?_ ?_⟩
               ·first|exact eN|refine eM ?_
                rw[e.2];rw[←e.1];unfold YX;rw[←yX]
               ·first|exact eN|refine eM ?_
              ·exact⟨hn,by exact eV⟩
              ·exact eV
              ·have h:L.take k=L:=As (by exact eV);have y:L.drop k=[]:=IF (by exact eV);refine⟨⟨i+1,by omega⟩,by simp only;omega,AC [(8,.nm 8),(20,.nm 20),(5,.nm 5),(2,.nm 2),(101,.nm 101),(13,.nm 13),(4,.nm 4)] rfl rfl ?_ ?_⟩
               ·first|exact eN|refine eM ?_
                rw[h,y,AAl];have e:=mR (QM (Dj f) o) o 0 (0,[]) l;rw[B,q]at e;rw[←e,A,As (by simp:(L.map (YX o)).length≤L.length)]
               ·first|exact eN|refine eM ?_
      ·have hk:o.take i=o:=As (by exact eV);have D:o.length-i=0:=by exact eV
       rw[hk,D];exact fI a [.cell 4 25] (by simp only[List.replicate_zero,AAl];first|exact eR|refine lE ?_;exact As (by rw[AA3];exact eV))
end
section
attribute [local go_sem] GD YN
theorem Yi {a b:Int}:E1 a b=0↔a=b:=by
 unfold E1;split
 ·constructor<;>intro h<;>omega
 ·split
  ·constructor<;>intro h<;>omega
  ·exact⟨fun _=>by omega,fun _=>rfl⟩
def Tj:List Int→Int
 | []=>0
 | x :: l=>if x=0 then Tj l else x
theorem Yj {l:List Int} {k:Nat} (h:k<l.length):Tj (l.drop k)=if l.getD k 0=0 then Tj (l.drop (k+1)) else l.getD k 0:=by
 rw[OS h];have e:l.getD k 0=l[k]:=by simp[AS,h]
 rw[e];rfl
def bJ:Ad:={ ins:=[IJ],pre:=fun _=>True,out:=fun(l,_)=>[.p T3 (Tj l)],lend:=true }
attribute [local go_sem] bJ
theorem Yk:Aj Tryz.prog 158 bJ:=by
 refine fK [0,2,3,5,6,7,8,9,14] Tryz.func158 Tryz.ntmps158 AG ?_;rintro w0 O0 ⟨l,u⟩ c ⟨⟨f,-⟩,-⟩ -;simp only[AO]at f;simp only[bJ,AL];repeat'(first|exact trivial|refine eS rfl ?_|refine AB ?_|refine rX c ?_ ?_|refine rC ?_ ?_<;>intro b<;>try(cases b;done))
 refine AH (ι:={k:Nat//k≤List.length l∧Tj l=Tj ((l:List Int).drop k)}) (fun k=>⟨[(3,.p T3 0),(6,.p IJ l),(7,.p (.int .i64) (List.length l:Int)),(8,.p (.int .i64) (k.1:Int))],[]⟩) (fun k=>List.length l-k.1) ⟨0,IS _,rfl⟩ (AC [] rfl rfl ?_ ?_) (fun k=>?_)
 ·first|exact eN|refine eM ?_
 ·first|exact eN|refine eM ?_
 ·obtain⟨k,hk,a⟩:=k;repeat'(first|exact trivial|refine eS rfl ?_|refine AB ?_|refine rX c ?_ ?_|refine rC ?_ ?_<;>intro b<;>try(cases b;done))
  ·exact b
  ·have d:k<List.length l:=by exact eV
   rw[Yj d,At b]at a;exact fI c [.tmp 2] (by rw[a];exact eR)
  ·exact eV
  ·have d:k<List.length l:=by exact eV
   rw[Yj d,BY (by simpa using b)]at a;refine⟨⟨k+1,d,a⟩,by simp only;omega,AC [] rfl rfl ?_ ?_⟩
   ·first|exact eN|refine eM ?_
   ·first|exact eN|refine eM ?_
  ·have e:List.drop k (l:List Int)=[]:=IF (by exact eV);rw[e]at a;have a:Tj l=0:=a;exact fI c [.tmp 2] (by rw[a];exact eR)
def GM {α:Type} (c:α→α→Int):List α→List α→Int
 | [],[]=>0
 | [],_ :: _=>-1
 | _ :: _,[]=>1
 | x :: p,y :: q=>if c x y=0 then GM c p q else c x y
theorem I7 {α:Type} {c:α→α→Int} (d:∀a b,c a b=0↔a=b):∀ {p q:List α},GM c p q=0↔p=q
 | [],[]=>⟨fun _=>rfl,fun _=>rfl⟩
 | [],_ :: _=>⟨fun h=>by simp[GM]at h,fun h=>by cases h⟩
 | _ :: _,[]=>⟨fun h=>by simp[GM]at h,fun h=>by cases h⟩
 | x :: p,y :: q=>by
  unfold GM;split
  ·rename_i h;rw[I7 d,(d x y).1 h];exact⟨fun e=>by rw[e],fun e=>(List.cons.inj e).2⟩
  ·rename_i h;exact⟨fun e=>absurd e h,fun e=>absurd ((d x y).2 (List.cons.inj e).1) h⟩
theorem KH {α:Type} (d:α) {l:List α} {k:Nat} (h:k<l.length):l.drop k=l.getD k d :: l.drop (k+1):=by
 rw[OS h];have e:l.getD k d=l[k]:=by simp[AS,h]
 rw[e]
theorem Lh {α:Type} {c:α→α→Int} (d:α) {p q:List α} {k:Nat} (h1:k<p.length) (a:k<q.length):GM c (p.drop k) (q.drop k)=if c (p.getD k d) (q.getD k d)=0 then GM c (p.drop (k+1)) (q.drop (k+1)) else c (p.getD k d) (q.getD k d):=by
 rw[KH d h1,KH d a];rfl
def Ek (a b:Int×Int):Int:=Tj [E1 a.1 b.1,E1 a.2 b.2]
theorem QO (a b:Int×Int):Ek a b=0↔a=b:=by
 unfold Ek Tj Tj Tj;constructor
 ·intro h;by_cases h1:E1 a.1 b.1=0
  ·rw[BY h1]at h;by_cases c:E1 a.2 b.2=0
   ·exact Prod.ext (Yi.1 h1) (Yi.1 c)
   ·rw[At c]at h;exact absurd h c
  ·rw[At h1]at h;exact absurd h h1
 ·rintro rfl;rw[BY (Yi.2 rfl),BY (Yi.2 rfl)]
def Wd:Ad:={ ins:=[BD,BD],pre:=fun _=>True,out:=fun(a,b,_)=>[.p T3 (Ek a b)] }
attribute [local go_sem] Wd
theorem mT:Aj Tryz.prog 160 Wd:=by
 refine fKP [0,1,2,3,4] [15] [] Tryz.func160 Tryz.ntmps160 (AD Ft (AD Yk AG)) ?_;rintro w0 O0 ⟨a,b,u⟩ c - -;simp only[Wd,AL];repeat'(first|exact trivial|refine eS rfl ?_|refine AB ?_|refine rX c ?_ ?_|refine rC ?_ ?_<;>intro d<;>try(cases d;done))
 exact fI c [.tmp 4] (by unfold Ek;exact eR)
theorem mU (p q:List (Int×Int)) (hp:p.length≤100000):BE Tryz.prog 159 [.p IT p,.p IT q,.fn 160] [] [] (fun res i=>res=.p T3 (GM Ek p q)∧i=[]):=by
 refine KK [0,1,2,6,7,8,9,10,11,12,13,14,21,31,38] [] [] Tryz.func159 Tryz.ntmps159 (AD mT AG) ?_;intro w0 K O0 ρ0 c m n;simp only[Ak];repeat'(first|exact trivial|refine eS rfl ?_|refine AB ?_|refine rX c ?_ ?_|refine rC ?_ ?_<;>intro a<;>try(cases a;done))
 refine AH (ι:={k:Nat//k≤p.length∧k≤q.length∧GM Ek p q=GM Ek (p.drop k) (q.drop k)}) (fun k=>⟨[(0,.p IT p),(1,.p IT q),(2,.fn 160),(11,.p IT p),(12,.p (.int .i64) (p.length:Int)),(13,.p (.int .i64) (k.1:Int))],[]⟩) (fun k=>p.length-k.1) ⟨0,IS _,IS _,rfl⟩ (AC [] rfl rfl ?_ ?_) (fun k=>?_)
 ·first|exact eN|refine eM ?_
 ·first|exact eN|refine eM ?_
 ·obtain⟨k,j,l,b⟩:=k;simp only;repeat'(first|exact trivial|refine eS rfl ?_|refine AB ?_|refine rX c ?_ ?_|refine rC ?_ ?_<;>intro a<;>try(cases a;done))
  ·exact a
  ·have d:k<p.length:=by exact eV
   have g:q.drop k=[]:=IF (by exact eV);have h1:GM Ek p q=1:=by
    rw[b,g,KH (0,0) d];rfl
   refine Ev.ent (σ':=⟨[(6,.p T3 1)],[]⟩) (fM c [.tmp 6] (.p T3 1) eT ⟨by rw[h1],rfl⟩) (AC [] rfl rfl ?_ ?_)
   ·first|exact eN|refine eM ?_
   ·first|exact eN|refine eM ?_
  ·exact a
  ·have d:k<p.length:=by exact eV
   have e:k<q.length:=by exact eV
   rw[Lh (0,0) d e,At a]at b;refine Ev.ent (σ':=⟨[(6,.p T3 (Ek (p.getD k (0,0)) (q.getD k (0,0))))],[]⟩) (fM c [.tmp 6] (.p T3 (Ek (p.getD k (0,0)) (q.getD k (0,0)))) eT ⟨by rw[b],rfl⟩) (AC [] rfl rfl ?_ ?_)
   ·first|exact eN|refine eM ?_
   ·first|exact eN|refine eM ?_
  ·exact eV
  ·have d:k<p.length:=by exact eV
   have e:k<q.length:=by exact eV
   rw[Lh (0,0) d e,BY (by simpa using a)]at b;refine⟨⟨k+1,d,e,b⟩,by simp only;omega,AC [] rfl rfl ?_ ?_⟩
   ·first|exact eN|refine eM ?_
   ·first|exact eN|refine eM ?_
  ·have f:p.drop k=[]:=IF (by exact eV);have h1:GM Ek p q=-1:=by
    rw[b,f,KH (0,0) (show k<q.length by exact eV)];rfl
   exact fM c [.tmp 6] (.p T3 (-1)) eT ⟨by rw[h1],rfl⟩
  ·have f:p.drop k=[]:=IF (by exact eV);have h:q.drop k=[]:=IF (by exact eV);have h1:GM Ek p q=0:=by
    rw[b,f,h];rfl
   exact fM c [.tmp 6] (.p T3 0) eT ⟨by rw[h1],rfl⟩
def DE (a b:AK):Int:=if Tj [E1 a.1 b.1,E1 (a.2.length:Int) (b.2.length:Int)]=0 then GM Ek a.2 b.2 else Tj [E1 a.1 b.1,E1 (a.2.length:Int) (b.2.length:Int)]
theorem Ny (a b:AK):DE a b=0↔a=b:=by
 unfold DE;constructor
 ·intro h;split at h
  ·rename_i h1;unfold Tj Tj Tj at h1;by_cases c:E1 a.1 b.1=0
   ·exact Prod.ext (Yi.1 c) ((I7 QO).1 h)
   ·rw[At c]at h1;exact absurd h1 c
  ·rename_i h1;exact absurd h h1
 ·rintro rfl;have h1:Tj [E1 a.1 a.1,E1 (a.2.length:Int) (a.2.length:Int)]=0:=by
   unfold Tj Tj Tj;rw[BY (Yi.2 rfl),BY (Yi.2 rfl)]
  rw[BY h1];exact(I7 QO).2 rfl
def Nz:Ad:={ ins:=[Lr,Lr],pre:=fun(a,_,_)=>List.length (Prod.snd (a:AK))≤100000,out:=fun(a,b,_)=>[.p T3 (DE a b)] }
attribute [local go_sem] Nz
theorem bK:Aj Tryz.prog 140 Nz:=by
 refine fKP [0,1,2,3,4,5,21] [18] [] Tryz.func140 Tryz.ntmps140 (AD Ft (AD Yk AG)) ?_;rintro w0 O0 ⟨⟨ta,la⟩,⟨tb,b⟩,u⟩ a-ha;have ha:List.length la≤100000:=ha;simp only[Nz,AL];repeat'(first|exact trivial|refine eS rfl ?_|refine AB ?_|refine rX a ?_ ?_|refine rC ?_ ?_<;>intro c<;>try(cases c;done))
 ·have h1:DE (ta,la) (tb,b)=Tj [E1 ta tb,E1 (List.length la:Int) (List.length b:Int)]:=At c;exact fI a [.tmp 4] (by rw[h1];exact eR)
 ·have h1:DE (ta,la) (tb,b)=GM Ek la b:=BY (by simpa using c);refine cP 4 a ?_ ?_
  ·trivial
  ·refine rM a (mU la b ha) [] [] ?_ ?_ ?_
   ·first|exact eN|refine eM ?_
   ·first|exact eN|refine eM ?_
   ·rintro _ _ ⟨rfl,rfl⟩;refine⟨[],.p T3 (GM Ek la b),[],rfl,rfl,?_,?_,rfl,rfl,?_⟩
    ·first|exact eN|refine eM ?_
    ·first|exact eN|refine eM ?_
    ·refine rL a ?_ ?_
     ·trivial
     ·repeat'(first|exact trivial|refine eS rfl ?_|refine AB ?_|refine rX a ?_ ?_|refine rC ?_ ?_<;>intro c<;>try(cases c;done))
      exact fI a [.tmp 4] (by rw[h1];exact eR)
end
section
attribute [local go_sem] GD YN Nz Q8
theorem bL (p q:List (AK)) (hp:p.length≤100000) (g:∀x∈p,x.2.length≤100000):BE Tryz.prog 139 [.p Fq p,.p Fq q,.fn 140] [] [] (fun res j=>res=.p T3 (GM DE p q)∧j=[]):=by
 refine KK [0,1,2,6,7,8,9,10,11,12,13,14,21,31,38] [] [] Tryz.func139 Tryz.ntmps139 (AD bK AG) ?_;intro w0 K O0 ρ0 c n o;simp only[Ak];repeat'(first|exact trivial|refine eS rfl ?_|refine AB ?_|refine rX c ?_ ?_|refine rC ?_ ?_<;>intro a<;>try(cases a;done))
 refine AH (ι:={k:Nat//k≤p.length∧k≤q.length∧GM DE p q=GM DE (p.drop k) (q.drop k)}) (fun k=>⟨[(0,.p Fq p),(1,.p Fq q),(2,.fn 140),(11,.p Fq p),(12,.p (.int .i64) (p.length:Int)),(13,.p (.int .i64) (k.1:Int))],[]⟩) (fun k=>p.length-k.1) ⟨0,IS _,IS _,rfl⟩ (AC [] rfl rfl ?_ ?_) (fun k=>?_)
 ·first|exact eN|refine eM ?_
 ·first|exact eN|refine eM ?_
 ·obtain⟨k,l,m,b⟩:=k;simp only;repeat'(first|exact trivial|refine eS rfl ?_|refine AB ?_|refine rX c ?_ ?_|refine rC ?_ ?_<;>intro a<;>try(cases a;done))
  ·exact a
  ·have d:k<p.length:=by exact eV
   have h:q.drop k=[]:=IF (by exact eV);have h1:GM DE p q=1:=by
    rw[b,h,KH (0,[]) d];rfl
   refine Ev.ent (σ':=⟨[(6,.p T3 1)],[]⟩) (fM c [.tmp 6] (.p T3 1) eT ⟨by rw[h1],rfl⟩) (AC [] rfl rfl ?_ ?_)
   ·first|exact eN|refine eM ?_
   ·first|exact eN|refine eM ?_
  ·exact a
  ·exact g _ (AE p (0,[]) (by exact eV))
  ·have d:k<p.length:=by exact eV
   have e:k<q.length:=by exact eV
   rw[Lh (0,[]) d e,At a]at b;refine Ev.ent (σ':=⟨[(6,.p T3 (DE (p.getD k (0,[])) (q.getD k (0,[]))))],[]⟩) (fM c [.tmp 6] (.p T3 (DE (p.getD k (0,[])) (q.getD k (0,[])))) eT ⟨by rw[b],rfl⟩) (AC [] rfl rfl ?_ ?_)
   ·first|exact eN|refine eM ?_
   ·first|exact eN|refine eM ?_
  ·exact eV
  ·have d:k<p.length:=by exact eV
   have e:k<q.length:=by exact eV
   rw[Lh (0,[]) d e,BY (by simpa using a)]at b;refine⟨⟨k+1,d,e,b⟩,by simp only;omega,AC [] rfl rfl ?_ ?_⟩
   ·first|exact eN|refine eM ?_
   ·first|exact eN|refine eM ?_
  ·have f:p.drop k=[]:=IF (by exact eV);have h1:GM DE p q=-1:=by
    rw[b,f,KH (0,[]) (show k<q.length by exact eV)];rfl
   exact fM c [.tmp 6] (.p T3 (-1)) eT ⟨by rw[h1],rfl⟩
  ·have f:p.drop k=[]:=IF (by exact eV);have i:q.drop k=[]:=IF (by exact eV);have h1:GM DE p q=0:=by
    rw[b,f,i];rfl
   exact fM c [.tmp 6] (.p T3 0) eT ⟨by rw[h1],rfl⟩
def QP (a b:List AK):Int:=if E1 (a.length:Int) (b.length:Int)=0 then GM DE a b else E1 (a.length:Int) (b.length:Int)
theorem bM (a b:List AK):QP a b=0↔a=b:=by
 unfold QP;constructor
 ·intro h;split at h
  ·exact(I7 Ny).1 h
  ·rename_i h1;exact absurd h h1
 ·rintro rfl;rw[BY (Yi.2 rfl)];exact(I7 Ny).2 rfl
def bN:Ad:={ ins:=[Fs,Fs],pre:=fun(a,_,_)=>Cl a,out:=fun(a,b,_)=>[.p T3 (QP a b)] }
attribute [local go_sem] bN
theorem sU:Aj Tryz.prog 106 bN:=by
 refine fK [0,1,2,3,4,5,14] Tryz.func106 Tryz.ntmps106 (AD Ft AG) ?_;rintro w0 O0 ⟨a,b,u⟩ c-⟨e,f⟩;simp only[bN,AL];repeat'(first|exact trivial|refine eS rfl ?_|refine AB ?_|refine rX c ?_ ?_|refine rC ?_ ?_<;>intro d<;>try(cases d;done))
 ·have h1:QP a b=E1 (List.length a:Int) (List.length b:Int):=At d;exact fI c [.tmp 4] (by rw[h1];exact eR)
 ·have h1:QP a b=GM DE a b:=BY (by simpa using d);refine cP 4 c ?_ ?_
  ·trivial
  ·refine rM c (bL a b e f) [] [] ?_ ?_ ?_
   ·first|exact eN|refine eM ?_
   ·first|exact eN|refine eM ?_
   ·rintro _ _ ⟨rfl,rfl⟩;refine⟨[],.p T3 (GM DE a b),[],rfl,rfl,?_,?_,rfl,rfl,?_⟩
    ·first|exact eN|refine eM ?_
    ·first|exact eN|refine eM ?_
    ·refine rL c ?_ ?_
     ·trivial
     ·repeat'(first|exact trivial|refine eS rfl ?_|refine AB ?_|refine rX c ?_ ?_|refine rC ?_ ?_<;>intro d<;>try(cases d;done))
      exact fI c [.tmp 4] (by rw[h1];exact eR)
def Q9:Ad:={ ins:=[Fs,Fs],pre:=fun(a,_,_)=>Cl a,out:=fun(a,b,_)=>[.p .bool (QP a b==0)] }
attribute [local go_sem] Q9
theorem mV:Aj Tryz.prog 68 Q9:=by
 refine fK [0,1,2,3,4] Tryz.func68 Tryz.ntmps68 (AD sU AG) ?_;rintro w0 O0 ⟨a,b,u⟩ c-ha;simp only[Q9,AL];repeat'(first|exact trivial|refine eS rfl ?_|refine AB ?_|refine rX c ?_ ?_|refine rC ?_ ?_<;>intro d<;>try(cases d;done))
 ·exact ha
 ·exact fI c [.tmp 4]
def Yl (l:List (Int×Int)):List (Int×Bool):=l.foldl (fun m a=>Gi T3 .bool a.1 true m) []
theorem Sx {b:Ty} (x k:Int) (v:b.den) (m:List (Int×b.den)):Ay T3 b x (Gi T3 b k v m)=if x=k then some v else Ay T3 b x m:=by
 induction m with
 | nil=>simp[Gi,Ay,IR]
 | cons y m g =>
  simp only[Gi];by_cases c:IR T3 k y.1=true
  ·rw[BY c];have d:k=y.1:=by simpa[IR] using c
   simp only[Ay,IR,AA0];by_cases a:x=k
   ·rw[BY a,BY a]
   ·rw[At a,At a,At (by rw[←d];exact a)]
  ·rw[At c];have d:¬k=y.1:=by simpa[IR] using c
   simp only[Ay];by_cases a:IR T3 x y.1=true
   ·have f:x=y.1:=by simpa[IR] using a
    rw[BY a,BY a,At (by rw[f];exact fun e=>d e.symm)]
   ·rw[At a,At a,g]
theorem mW (x:Int) (l:List (Int×Int)):(Ay T3 .bool x (Yl l)).getD false=l.any fun y=>y.1==x:=by
 induction l using Fu with
 | h0=>rfl
 | h1 l a c =>
  have e:Yl (l++[a])=Gi T3 .bool a.1 true (Yl l):=by unfold Yl;rw[ABq];rfl
  rw[e,Sx,ABO,←c];by_cases h:x=a.1
  ·rw[BY h,h];simp
  ·rw[At h];have b:¬a.1=x:=fun e=>h e.symm;simp[b]
def FI (x:AK) (n:Int):Int:=if x.1<0 then 2 else HO x.2 n
def Sy:Ad:={ ins:=[Lr,T3],pre:=fun _=>True,out:=fun(x,n,_)=>[.p TU (FI x n)] }
attribute [local go_sem] Sy
theorem bO:Aj Tryz.prog 76 Sy:=by
 refine fK [0,1,2,4,5,7,10,13,14,15,16,32,36] Tryz.func76 Tryz.ntmps76 AG ?_;rintro w0 O0 ⟨⟨t,l⟩,n,u⟩ d ⟨⟨-,⟨o,-⟩⟩,-⟩ -;simp only[AO]at o;simp only[Sy,AL];repeat'(first|exact trivial|refine eS rfl ?_|refine AB ?_|refine rX d ?_ ?_|refine rC ?_ ?_<;>intro b<;>try(cases b;done))
 ·have h1:FI (t,l) n=2:=BY b;exact fI d [.tmp 4] (by rw[h1];exact eR)
 ·have h0:FI (t,l) n=F8 n [] l:=At (AAR.2 b);rw[h0];refine AH (ι:={k:Nat//k≤List.length l∧F8 n [] l=F8 n ((l:List (Int×Int)).take k) ((l:List (Int×Int)).drop k)}) (fun k=>⟨[(1,.p T3 n),(5,.mp 11),(13,.p IT l),(14,.p (.int .i64) (List.length l:Int)),(15,.p (.int .i64) (k.1:Int))],[(11,.mapo T3 .bool (Yl ((l:List (Int×Int)).take k.1)))]⟩) (fun k=>List.length l-k.1) ⟨0,IS _,rfl⟩ (AC [(11,.nm 11)] rfl rfl ?_ ?_) (fun k=>?_)
  ·first|exact eN|refine eM ?_
   rfl
  ·first|exact eN|refine eM ?_
  ·obtain⟨k,hk,f⟩:=k;have g:=fun h:k<l.length=>Me n l h;have q:=fun h:k<l.length=>PM (fun(m:List (Int×Bool)) (a:Int×Int)=>Gi T3 .bool a.1 true m) l (0,0) [] h;have i:=fun x=>mW x (List.take k (l:List (Int×Int)));simp only;repeat'(first|exact trivial|refine eS rfl ?_|refine AB ?_|refine rX d ?_ ?_|refine rC ?_ ?_<;>intro b<;>try(cases b;done))
   ·exact b
   ·have c:k<List.length l:=by exact eV
    have e:F8 n [] l=2:=by rw[f,g c,BY (by omega)]
    exact fI d [.tmp 4] (by rw[e];exact eR)
   ·have c:k<List.length l:=by exact eV
    rw[i]at b;have e:F8 n [] l=4:=by rw[f,g c,At (by omega),BY b]
    exact fI d [.tmp 4] (by rw[e];exact eR)
   ·exact eV
   ·have c:k<List.length l:=by exact eV
    rw[i]at b;refine⟨⟨k+1,c,by rw[f,g c,At (by omega),At (by rw[b];simp)]⟩,by simp only;omega,AC [(11,.nm 11)] rfl rfl ?_ ?_⟩
    ·first|exact eN|refine eM ?_
     exact(q c).symm
    ·first|exact eN|refine eM ?_
   ·have j:List.drop k (l:List (Int×Int))=[]:=IF (by exact eV);have e:F8 n [] l=0:=by rw[f,j];rfl
    exact fI d [.tmp 4] (by rw[e];exact eR)
theorem Ym {n:Int}:∀ {l seen:List (Int×Int)},F8 n seen l=0→(∀a∈l,∀b∈seen,b.1≠a.1)∧sR l
 | [],_,_=>⟨fun a ha=>(by cases ha),List.Pairwise.nil⟩
 | x :: l,seen,h=>by
  simp only[F8]at h;split at h
  ·cases h
  ·split at h
   ·cases h
   ·rename_i h1 g;obtain⟨c,f⟩:=Ym h;refine⟨fun a ha b d=>?_,ABg.2 ⟨fun a ha e=>c a ha x (by simp) e,f⟩⟩;rcases Do.1 ha with rfl|ha
    ·intro e;exact g (OF.2 ⟨b,d,by simp[e]⟩)
    ·exact c a ha b (by simp[d])
theorem Yn {m:Int}:∀ {f:List AK},F9 m f=0→∀x∈f,sR x.2
 | [],_,x,b=>by cases b
 | y :: f,h,x,b=>by
  simp only[F9]at h;split at h
  ·cases h
  ·split at h
   ·rename_i h1 a;exact absurd h a
   ·rename_i h1 a;have a:HO y.2 m=0:=By a;rcases Do.1 b with rfl|b
    ·exact(Ym a).2
    ·exact Yn h x b
def N0 (f:List AK):Prop:=∀x∈f,x.2.length≤200
theorem Yo {f:List AK} (h:Bz f=0) (hs:N0 f):z8 f:=by
 unfold Bz at h;split at h
 ·cases h
 ·split at h
  ·cases h
  ·exact fun x a=>⟨Yn h x a,hs x a⟩
def OA:Ad:={ ins:=[Fs],pre:=fun(f,_)=>N0 f,out:=fun(f,_)=>[.p Fs (A0 f).1,.p TU (A0 f).2] }
attribute [local go_sem] OA
theorem VC:Aj Tryz.prog 51 OA:=by
 refine fK [0,1,2,3,5,6,10,15,18,19,20,21,30] Tryz.func51 Tryz.ntmps51 (AD bO (AD mS AG)) ?_;rintro w0 O0 ⟨f,u⟩ c ⟨⟨n,-⟩,-⟩ hs;simp only[AO]at n;have hs:N0 f:=hs;have l:Sc f:=fun x o=>f4 (hs x o) (by omega);simp only[OA,AL];repeat'(first|exact trivial|refine eS rfl ?_|refine AB ?_|refine rX c ?_ ?_|refine rC ?_ ?_<;>intro a<;>try(cases a;done))
 ·have h1:Bz f=1:=by
   have h:f.length=0:=by exact eV
   unfold Bz;rw[BY h]
  have e:A0 f=([],1):=by unfold A0;rw[h1];rfl
  exact fI c [.cell 2 25,.tmp 3] (by rw[e];exact eR)
 ·have h1:Bz f=7:=by
   have h:¬f.length=0:=by exact eV
   have i:4096<f.length:=by exact eV
   unfold Bz;rw[At h,BY i]
  have e:A0 f=([],7):=by unfold A0;rw[h1];rfl
  exact fI c [.cell 2 25,.tmp 3] (by rw[e];exact eR)
 ·have h1:Bz f=F9 f.length f:=by
   have h:¬f.length=0:=by exact eV
   have i:¬4096<f.length:=by exact eV
   unfold Bz;rw[At h,At i]
  have j:0<f.length:=by exact eV
  refine AH (ι:={k:Nat//k≤f.length∧F9 f.length (f.drop k)=Bz f}) (fun k=>⟨[(1,.bp 1 [] 0),(2,.bp 2 [] 0),(18,.p Fq f),(19,.p (.int .i64) (f.length:Int)),(20,.p (.int .i64) (k.1:Int))],[(1,.box 25 true [.p Fq f]),(2,.box 25 true [.raw (.slice none 0 0)])]⟩) (fun k=>f.length-k.1) ⟨0,by simp[h1]⟩ (AC [(1,.nm 1),(2,.nm 2)] rfl rfl ?_ ?_) (fun k=>?_)
  ·first|exact eN|refine eM ?_
  ·first|exact eN|refine eM ?_
  ·obtain⟨k,hk,hf⟩:=k;simp only;repeat'(first|exact trivial|refine eS rfl ?_|refine AB ?_|refine rX c ?_ ?_|refine rC ?_ ?_<;>intro a<;>try(cases a;done))
   ·exact a
   ·have g:k<f.length:=by exact eV
    have a:¬FI (f.getD k (0,[])) f.length=0:=a;have m:Bz f=FI (f.getD k (0,[])) f.length:=by
     rw[←hf,HP _ _ g];unfold FI at a ⊢;by_cases b:(f.getD k (0,[])).1<0
     ·rw[BY b,BY b]
     ·rw[At b]at a;rw[At b,At b,BY a]
    have e:A0 f=([],FI (f.getD k (0,[])) f.length):=by unfold A0;rw[m,At a]
    exact fI c [.cell 2 25,.tmp 3] (by rw[e];exact eR)
   ·exact eV
   ·have g:k<f.length:=by exact eV
    have a:FI (f.getD k (0,[])) f.length=0:=by simpa using a
    refine⟨⟨k+1,g,?_⟩,by simp only;omega,AC [(1,.nm 1),(2,.nm 2)] rfl rfl ?_ ?_⟩
    ·rw[←hf,HP _ _ g];unfold FI at a;by_cases b:(f.getD k (0,[])).1<0
     ·rw[BY b]at a;cases a
     ·rw[At b]at a;rw[At b,At (by rw[a];simp)]
    ·first|exact eN|refine eM ?_
    ·first|exact eN|refine eM ?_
   ·have d:Bz f=0:=by rw[←hf,IF (by exact eV)];rfl
    exact⟨(HS d l).1,Yo d hs,OM.2 j⟩
   ·have d:Bz f=0:=by rw[←hf,IF (by exact eV)];rfl
    have e:A0 f=(Ej (Dj f) 0,0):=by unfold A0;rw[BY d,Yg (HS d l).1 (Yo d hs) (AC6 0) (OM.2 j)]
    exact fI c [.cell 2 25,.tmp 3] (by rw[e];exact eR)
end
def I8 (h:AN) (f:Int):Int:=(h.2.getD f.toNat (ByteArray.empty,0)).2
def LC (h:AN) (n:Int):List (Int×Int)→Di→Option Di
 | [],s=>some s
 | a :: l,s=>(Cm h s n (I8 h a.1)).bind (LC h n l)
def Lt (h:AN) (n:Int):List (Int×Int)→Di→Option Di
 | [],s=>some s
 | a :: l,s=>if (Br h (s.1.getD n.toNat 0) a.1).2=true then (Cm h s a.2 (Br h (s.1.getD n.toNat 0) a.1).1).bind (Lt h n l) else none
def I9 (h:AN) (f:List AK) (n:Int) (s:Di):Option Di:=(LC h n (f.getD n.toNat (0,[])).2 s).bind (Lt h n (f.getD n.toNat (0,[])).2)
def jH (h:AN) (f:List AK):Nat→Nat→Di→Option (List Int)
 | 0,_,_=>none
 | k+1,i,s=>if i<s.2.length then (I9 h f (s.2.getD i 0) s).bind (jH h f k (i+1)) else some s.1
def A1 (f:List AK):List Int:=f.map fun x=>x.1
def Dx (f:List AK):List Int:=(List.range f.length).map fun i:Nat=>(i:Int)
def DP (f:List AK) (ty:List Int):List AK:=(List.range f.length).map fun i=>(ty.getD i 0,(f.getD i (0,[])).2)
structure Tk (h:AN):Prop where
 int:∀x∈h.2,0≤x.2∧x.2<(h.1.length:Int)
 val:∀t∈h.1,∀p∈t.2.2.2,0≤p.2∧p.2<(h.1.length:Int)
structure Li (h:AN) (m:Nat) (s:Di):Prop where
 len:s.1.length=m
 ty:∀t∈s.1,0≤t∧t<(h.1.length:Int)
 wt:∀n∈s.2,0≤n∧n<(m:Int)
theorem Li.get {h:AN} {m:Nat} {s:Di} (hs:Li h m s) {n:Int} (n0:0≤n) (n1:n<(m:Int)):0≤s.1.getD n.toNat 0∧s.1.getD n.toNat 0<(h.1.length:Int):=by
 have a:n.toNat<s.1.length:=by rw[hs.len];omega
 rw[AS,AT a];exact hs.ty _ (AAf a)
def Yp (h:AN) (t:Int):Nat:=((List.range h.1.length).filter fun i:Nat=>BK h t (i:Int)).length
def Lj (h:AN) (ty:List Int):Nat:=(ty.map (Yp h)).sum
theorem VD {α:Type} {p q:α→Bool}:∀ {l:List α},(∀x∈l,q x=true→p x=true)→(∃b∈l,p b=true∧q b=false)→(l.filter q).length<(l.filter p).length
 | [],_,⟨b,c,_⟩=>by cases c
 | x :: l,h1,⟨b,c,f,g⟩=>by
  have i:∀ {l:List α},(∀x∈l,q x=true→p x=true)→(l.filter q).length≤(l.filter p).length:=by
   intro l h;induction l with
   | nil=>exact If _
   | cons y l j =>
    have e:=j fun z d=>h z (bY _ d);rw[AAr,AAr];by_cases a:q y=true
    ·rw[BY a,BY (h y (by simp) a)];simp only[Is];omega
    ·rw[At a];split
     ·simp only[Is];omega
     ·exact e
  rw[AAr,AAr];rcases Do.1 c with rfl|c
  ·rw[At (by rw[g];simp),BY f];have:=i fun z d=>h1 z (bY _ d);simp only[Is];omega
  ·have e:=VD (fun z d=>h1 z (bY _ d)) ⟨b,c,f,g⟩;by_cases a:q x=true
   ·rw[BY a,BY (h1 x (by simp) a)];simp only[Is];omega
   ·rw[At a];split
    ·simp only[Is];omega
    ·exact e
theorem RA {h:AN} (hk:I5 h) {a:Int} (a0:0≤a) (b:a<(h.1.length:Int)):BK h a a=true:=(BV hk a0 b a0 b).2 fun _ h=>h
theorem FJ {h:AN} (hk:I5 h) {a b c:Int} (a0:0≤a) (d:a<(h.1.length:Int)) (e:0≤b) (b1:b<(h.1.length:Int)) (c0:0≤c) (c1:c<(h.1.length:Int)) (h1:BK h a b=true) (f:BK h b c=true):BK h a c=true :=
 (BV hk a0 d c0 c1).2 fun i hi=>(BV hk a0 d e b1).1 h1 i ((BV hk e b1 c0 c1).1 f i hi)
theorem jI {h:AN} (hk:I5 h) (hi:GY h) {a m:Int} (a0:0≤a) (b:a<(h.1.length:Int)) (d:0≤m) (f:m<(h.1.length:Int)) (hs:BK h a m=true) (g:m≠a):Yp h m<Yp h a:=by
 refine VD (fun x c e=>?_) ⟨a.toNat,oN.2 (by omega),?_,?_⟩
 ·have c:=oN.1 c;exact FJ hk a0 b d f (oF _) (by omega) hs e
 ·rw[AAQ a0];exact RA hk a0 b
 ·rw[AAQ a0];cases e:BK h m a with
  | false=>rfl
  | true=>exact absurd (hi m a d f a0 b e hs) g
theorem jJ {α:Type} (g:α→Nat) (d:α):∀ {l:List α} {i:Nat} {v:α},i<l.length→((l.set i v).map g).sum+g (l.getD i d)=(l.map g).sum+g v
 | [],i,v,h=>by simp at h
 | x :: l,0,v,h=>by simp only[ACb,tO,ACo,List.getD_cons_zero];omega
 | x :: l,i+1,v,h=>by
  have:=jJ g d (l:=l) (i:=i) (v:=v) (by simpa using h);simp only[ABL,tO,ACo,List.getD_cons_succ];omega
theorem EM {h:AN} (hk:I5 h) (hi:GY h) {m:Nat} {s b:Di} (hs:Li h m s) {n t:Int} (n0:0≤n) (n1:n<(m:Int)) (o:0≤t) (p:t<(h.1.length:Int)) (e:Cm h s n t=some b) :
  Li h m b∧Lj h b.1+b.2.length≤Lj h s.1+s.2.length∧s.2.length≤b.2.length:=by
 obtain⟨c,d⟩:=hs.get n0 n1;unfold Cm at e;split at e
 ·rename_i j;obtain⟨f,g,l,r⟩:=(Sm hk c d o p).1 j;generalize (DM h (s.1.getD n.toNat 0) t).1=v at *;injection e with e
  split at e
  ·subst e;exact⟨hs,If _,If _⟩
  ·rename_i k;subst e;have q:=jI hk hi c d f g l k;have i:n.toNat<s.1.length:=by rw[hs.len];omega
   have hp:=jJ (Yp h) 0 (v:=v) i;refine⟨⟨by simp only[AAw];exact hs.len,fun x a=>?_,fun x a=>?_⟩,?_,by simp⟩
   ·rcases AAX a with a|rfl
    ·exact hs.ty x a
    ·exact⟨f,g⟩
   ·rcases ON.1 a with a|a
    ·exact hs.wt x a
    ·rw[AAs.1 a];exact⟨n0,n1⟩
   ·unfold Lj;simp only[On,oS];omega
 ·cases e
def Ec (h:AN) (m:Nat) (a:Int×Int):Prop:=(0≤a.1∧a.1<(h.2.length:Int))∧0≤a.2∧a.2<(m:Int)
theorem GE {h:AN} (hf:Tk h) {f:Int} (b:0≤f) (c:f<(h.2.length:Int)):0≤I8 h f∧I8 h f<(h.1.length:Int):=by
 have a:f.toNat<h.2.length:=by omega
 unfold I8;rw[AS,AT a];exact hf.int _ (AAf a)
theorem VE {f:Int}:∀ {l:List (Int×Int)},(DN f l).2=true→(f,(DN f l).1)∈l
 | [],h=>by cases h
 | x :: l,h=>by
  unfold DN at h ⊢;split
  ·rename_i e;rw[←e];simp
  ·rename_i e;rw[At e]at h;exact bY _ (VE h)
theorem VF {h:AN} {t:Int} (a:0≤t) (b:t<(h.1.length:Int)):h.1.getD t.toNat PN∈h.1:=AE h.1 PN (by omega)
theorem EF {h:AN} (hf:Tk h) {t f:Int} (a:0≤t) (b:t<(h.1.length:Int)) (e:(Br h t f).2=true):0≤(Br h t f).1∧(Br h t f).1<(h.1.length:Int) :=
 hf.val _ (VF a b) _ (VE e)
theorem OB {h:AN} (hk:I5 h) (hi:GY h) (hf:Tk h) {m:Nat} {n:Int} (n0:0≤n) (n1:n<(m:Int)):∀ {l:List (Int×Int)} {s c:Di},(∀a∈l,Ec h m a)→Li h m s→LC h n l s=some c →
  Li h m c∧Lj h c.1+c.2.length≤Lj h s.1+s.2.length∧s.2.length≤c.2.length
 | [],s,c,_,hs,e=>by
  injection e with e
  subst e;exact⟨hs,If _,If _⟩
 | a :: l,s,c,f,hs,e=>by
  unfold LC at e;cases d:Cm h s n (I8 h a.1) with
  | none=>rw[d]at e;cases e
  | some s1 =>
   rw[d]at e;obtain⟨⟨a0,g⟩,-⟩:=f a (by simp);obtain⟨k,o⟩:=GE hf a0 g;obtain⟨i,q,r⟩:=EM hk hi hs n0 n1 k o d;obtain⟨p,t,u⟩:=OB hk hi hf n0 n1 (fun b j=>f b (by simp[j])) i e;exact⟨p,by omega,by omega⟩
theorem RB {h:AN} (hk:I5 h) (hi:GY h) (hf:Tk h) {m:Nat} {n:Int} (n0:0≤n) (n1:n<(m:Int)):∀ {l:List (Int×Int)} {s c:Di},(∀a∈l,Ec h m a)→Li h m s→Lt h n l s=some c →
  Li h m c∧Lj h c.1+c.2.length≤Lj h s.1+s.2.length∧s.2.length≤c.2.length
 | [],s,c,_,hs,e=>by
  injection e with e
  subst e;exact⟨hs,If _,If _⟩
 | a :: l,s,c,g,hs,e=>by
  unfold Lt at e;split at e
  ·rename_i o;obtain⟨j,f⟩:=hs.get n0 n1;obtain⟨p,q⟩:=EF hf j f o;cases d:Cm h s a.2 (Br h (s.1.getD n.toNat 0) a.1).1 with
   | none=>rw[d]at e;cases e
   | some s1 =>
    rw[d]at e;obtain⟨-,i,b1⟩:=g a (by simp);obtain⟨f,t,u⟩:=EM hk hi hs i b1 p q d;obtain⟨r,v,w⟩:=RB hk hi hf n0 n1 (fun b k=>g b (by simp[k])) f e;exact⟨r,by omega,by omega⟩
  ·cases e
def LD (h:AN) (f:List AK):Prop:=∀x∈f,∀a∈x.2,Ec h f.length a
theorem LE {h:AN} {f:List AK} (ha:LD h f) {n:Int} (n0:0≤n) (n1:n<(f.length:Int)):∀a∈(f.getD n.toNat (0,[])).2,Ec h f.length a:=ha _ (AE f (0,[]) (by omega))
theorem OC {h:AN} (hk:I5 h) (hi:GY h) (hf:Tk h) {f:List AK} (ha:LD h f) {n:Int} (n0:0≤n) (n1:n<(f.length:Int)) {s a:Di} (hs:Li h f.length s) (e:I9 h f n s=some a) :
  Li h f.length a∧Lj h a.1+a.2.length≤Lj h s.1+s.2.length∧s.2.length≤a.2.length:=by
 unfold I9 at e;cases b:LC h n (f.getD n.toNat (0,[])).2 s with
 | none=>rw[b]at e;cases e
 | some s1 =>
  rw[b]at e;obtain⟨c,g,i⟩:=OB hk hi hf n0 n1 (LE ha n0 n1) hs b;obtain⟨d,j,k⟩:=RB hk hi hf n0 n1 (LE ha n0 n1) c e;exact⟨d,by omega,by omega⟩
theorem zC (h:AN) (t:Int):Yp h t≤h.1.length:=by
 unfold Yp;exact f4 (AAZ _ _) (by simp)
theorem sV (h:AN):∀ty:List Int,Lj h ty≤ty.length*h.1.length
 | []=>by simp[Lj]
 | t :: ty=>by
  have h1:=sV h ty;have a:=zC h t;unfold Lj at h1 ⊢;simp only[tO,ACo,Is,ABF,Nat.one_mul];omega
def HV (h:AN) (f:List AK):Nat:=f.length*h.1.length+f.length+1
def LF (h:AN) (f:List AK):Option (List Int):=jH h f (HV h f) 0 (A1 f,Dx f)
def Bx (h:AN) (f:List AK):List AK×Bool:=match LF h f with
 | some ty=>(DP f ty,true)
 | none=>([],false)
theorem VG {h:AN} {f:List AK} (a:∀x∈f,0≤x.1∧x.1<(h.1.length:Int)):Li h f.length (A1 f,Dx f):=by
 refine⟨by simp[A1],fun t h1=>?_,fun n hn=>?_⟩
 ·obtain⟨x,b,rfl⟩:=Of.1 h1;exact a x b
 ·obtain⟨i,hi,rfl⟩:=Of.1 hn;have:=oN.1 hi;omega
theorem We (h:AN) (f:List AK):Lj h (A1 f)+(Dx f).length+1≤HV h f:=by
 have:=sV h (A1 f);unfold HV;rw[show (A1 f).length=f.length by simp[A1]]at this;rw[show (Dx f).length=f.length by simp[Dx]];omega
theorem sW (l:List (Int×Int)):sJ l↔l.Pairwise (fun a b=>a.1<b.1):=by
 constructor
 ·intro h;rw[nO];have key:∀d i,i+d+1<l.length→(l.getD i (0,0)).1<(l.getD (i+d+1) (0,0)).1:=by
   intro d;induction d with
   | zero=>intro i hi;exact h i hi
   | succ d e =>
    intro i hi;have h1:=e i (by omega);have f:=h (i+d+1) (by omega);have:i+(d+1)+1=i+d+1+1:=by omega
    rw[this];omega
  intro i j hi c g;have h1:=key (j-i-1) i (by omega);rw[show i+(j-i-1)+1=j by omega]at h1;simpa[AS,hi,c] using h1
 ·intro h i hi;rw[nO]at h;have:=h i (i+1) (by omega) hi (by omega);simpa[AS,hi,show i<l.length by omega] using this
theorem JA {x y:Int} {xs ys:List Int} (h:Ju (x :: xs) (y :: ys)=0):x=y∧Ju xs ys=0:=by
 simp only[Ju]at h;split at h
 ·cases h
 ·split at h
  ·cases h
  ·exact⟨by omega,h⟩
theorem Sz:∀ {l m:List (Int×Int)} {r s:List Int},l.length=m.length→Ju (l.flatMap (fun a=>[a.1,a.2])++r) (m.flatMap (fun a=>[a.1,a.2])++s)=0→l=m∧Ju r s=0
 | [],[],_,_,_,h=>⟨rfl,by simpa using h⟩
 | [],_ :: _,_,_,b,_=>by simp at b
 | _ :: _,[],_,_,b,_=>by simp at b
 | (c,d) :: l,(b1,b2) :: m,r,s,b,h=>by
  have h:Ju (c :: d :: (l.flatMap (fun a=>[a.1,a.2])++r)) (b1 :: b2 :: (m.flatMap (fun a=>[a.1,a.2])++s))=0:=by simpa using h
  obtain⟨e,i⟩:=JA h;obtain⟨f,j⟩:=JA i;obtain⟨g,k⟩:=Sz (l:=l) (m:=m) (by simpa using b) j;exact⟨by rw[e,f,g],k⟩
theorem S0:∀ {l m:List AK} {r s:List Int},l.length=m.length→Ju (l.flatMap ST++r) (m.flatMap ST++s)=0→l=m∧Ju r s=0
 | [],[],_,_,_,h=>⟨rfl,by simpa using h⟩
 | [],_ :: _,_,_,b,_=>by simp at b
 | _ :: _,[],_,_,b,_=>by simp at b
 | (d,c) :: l,(b1,b2) :: m,r,s,b,h=>by
  have h:Ju (d :: (c.length:Int) :: (c.flatMap (fun a=>[a.1,a.2])++(l.flatMap ST++r))) (b1 :: (b2.length:Int) :: (b2.flatMap (fun a=>[a.1,a.2])++(m.flatMap ST++s)))=0:=by simpa[ST] using h
  obtain⟨e,i⟩:=JA h;obtain⟨o,j⟩:=JA i;obtain⟨f,k⟩:=Sz (l:=c) (m:=b2) (by omega) j;obtain⟨g,n⟩:=S0 (l:=l) (m:=m) (by simpa using b) k;exact⟨by rw[e,f,g],n⟩
theorem LG {a b:List AK} (h:CW a b=0):a=b:=by
 unfold CW Bi at h;obtain⟨h1,c⟩:=JA h;have:=S0 (l:=a) (m:=b) (r:=[]) (s:=[]) (by omega) (by simpa using c);exact this.1
theorem VH:∀l:List Int,Ju l l=0
 | []=>rfl
 | x :: l=>by simp[Ju,VH l]
theorem Ed (a:List AK):CW a a=0:=VH _
theorem S1 (x:Int×Int) (s:List (Int×Int)):∀n,(∀j,HQ x s n≤j→j<n→x.1<(s.getD j (0,0)).1)∧(0<HQ x s n→(s.getD (HQ x s n-1) (0,0)).1≤x.1)
 | 0=>⟨fun j h1 b=>by omega,fun h=>by simp[HQ]at h⟩
 | n+1=>by
  obtain⟨h1,b⟩:=S1 x s n;unfold HQ;split
  ·rename_i c;refine⟨fun j a d=>?_,b⟩;by_cases e:j=n
   ·subst e;exact c
   ·exact h1 j a (by omega)
  ·rename_i c;exact⟨fun j a d=>by omega,fun _=>by simp only[Nat.add_sub_cancel];omega⟩
theorem A0F {l:List (Int×Int)} (h:l.Pairwise (fun a b=>a.1≤b.1)) {i j:Nat} (d:i≤j) (c:j<l.length):(l.getD i (0,0)).1≤(l.getD j (0,0)).1:=by
 rcases Nat.eq_or_lt_of_le d with rfl|e
 ·exact AC6 _
 ·rw[nO]at h;have:=h i j (by omega) c e;simpa[AS,c,show i<l.length by omega] using this
theorem Yq {s:List (Int×Int)} (h:s.Pairwise (fun a b=>a.1≤b.1)) (x:Int×Int):(Mg s x).Pairwise (fun a b=>a.1≤b.1):=by
 obtain⟨h1,g⟩:=S1 x s s.length;have hp:=Q3 x s s.length;unfold Mg;generalize HQ x s s.length=p at *;rw[AB4,AB4];have f:∀a∈s.take p,a.1≤x.1:=fun a ha=>by
  obtain⟨i,hi,rfl⟩:=AAa.1 ha;rw[OR]at hi;have k:=A0F h (i:=i) (j:=p-1) (by omega) (by omega);have l:=g (by omega);have e:(s.take p)[i].1=(s.getD i (0,0)).1:=by simp[AS,show i<s.length by omega]
  rw[e];omega
 have d:∀b∈s.drop p,x.1≤b.1:=fun b c=>by
  obtain⟨i,hi,rfl⟩:=AAa.1 c;rw[AAP]at hi;have k:=h1 (p+i) (by omega) (by omega);have e:(s.drop p)[i].1=(s.getD (p+i) (0,0)).1:=by simp[AS,show p+i<s.length by omega]
  rw[e];omega
 refine⟨⟨h.sublist (List.take_sublist _ _),by simp,fun a ha b c=>?_⟩,h.sublist (List.drop_sublist _ _),fun a ha b c=>?_⟩
 ·have:b=x:=by simpa using c
  rw[this];exact f a ha
 ·rcases ON.1 ha with ha|ha
  ·exact AB0 (f a ha) (d b c)
  ·have:a=x:=by simpa using ha
   rw[this];exact d b c
theorem Qi (l:List (Int×Int)):(AX l).Pairwise (fun a b=>a.1≤b.1):=by
 induction l using Fu with
 | h0=>exact List.Pairwise.nil
 | h1 l a c=>rw[GX];exact Yq c a
theorem QQ {n:Int}:∀ {l seen:List (Int×Int)},F8 n seen l=0→(l.map (·.1)).Nodup∧∀a∈l,∀b∈seen,b.1≠a.1
 | [],_,_=>⟨by simp,fun a ha=>by cases ha⟩
 | x :: l,seen,h=>by
  simp only[F8]at h;split at h
  ·cases h
  ·split at h
   ·cases h
   ·rename_i h1 d;obtain⟨g,f⟩:=QQ h;have d:∀b∈seen,b.1≠x.1:=fun b c e=>d (OF.2 ⟨b,c,by simp[e]⟩);refine⟨?_,fun a ha b c=>?_⟩
    ·rw[tO,AAc];refine⟨fun i=>?_,g⟩;obtain⟨a,ha,e⟩:=Of.1 i;exact f a ha x (by simp) e.symm
    ·rcases Do.1 ha with rfl|ha
     ·exact d b c
     ·exact f a ha b (by simp[c])
theorem S2 {m:Int}:∀ {f:List AK},F9 m f=0→∀x∈f,HO x.2 m=0
 | [],_,x,a=>by cases a
 | y :: f,h,x,a=>by
  simp only[F9]at h;split at h
  ·cases h
  ·split at h
   ·rename_i h1 b;exact absurd h b
   ·rename_i h1 b;rcases Do.1 a with rfl|a
    ·exact By b
    ·exact S2 h x a
theorem mX {l:List (Int×Int)} (h:l.Pairwise (fun a b=>a.1≤b.1)) (hn:(l.map (·.1)).Nodup):l.Pairwise (fun a b=>a.1<b.1):=by
 rw[List.Nodup,ABo]at hn;refine(h.and hn).imp fun {a b} c=>?_;have h1:=c.1;have d:¬a.1=b.1:=c.2;omega
theorem S3 {f:List AK} (h:HT f=true):EE f∧mC f∧0<f.length∧GL f=true:=by
 unfold HT at h;simp only[An,AA0]at h;obtain⟨⟨e,_⟩,c,d⟩:=h;obtain⟨t,g⟩:=K4 e;have r:Sc f:=fun x b=>f4 (g x b) (by omega);have a:Bz f=0:=by
  unfold A0 at c;split at c
  ·assumption
  ·exact c
 obtain⟨o,h0⟩:=HS a r;have k:(A0 f).1=I4 f 0:=by unfold A0;rw[BY a]
 rw[k]at d;have l:=LG d;refine⟨o,fun x b=>⟨?_,f4 (g x b) (by omega)⟩,h0,e⟩;rw[←l]at b;obtain⟨n,_,rfl⟩:=Of.1 b;rw[sW];have j:((f.getD n.toNat (0,[])).2.map (·.1)).Nodup:=by
  by_cases p:n.toNat<f.length
  ·have q:f.getD n.toNat (0,[])∈f:=AE f (0,[]) p;have m:F9 f.length f=0:=by
    unfold Bz at a;split at a
    ·cases a
    ·split at a
     ·cases a
     ·exact a
   exact(QQ (S2 m _ q)).1
  ·rw[AS,iS (by omega)];simp
 have s:=mX (Qi (f.getD n.toNat (0,[])).2) (((EK _).map (·.1)).nodup_iff.2 j);unfold K3;simp only;rw[ABo];exact s.imp fun i=>i
section
attribute [local go_sem] OA Q9 L6 Uv
theorem A0G (a b:List AK):(CW a b==0)=(QP a b==0):=by
 rw[ABt,AA0,AA0,bM];exact⟨LG,fun e=>by rw[e];exact Ed b⟩
def RC:Ad:={ ins:=[Ls,Fs],pre:=fun(_,f,_)=>Cl f∧N0 f,out:=fun(h,f,_)=>[.p TU (CO h f)] }
attribute [local go_sem] RC
theorem mY:Aj Tryz.prog 38 RC:=by
 refine fK [0,1,2,3,4,5,6,8,10,17,20,21,22,23,31,33,34,35,36,44,50] Tryz.func38 Tryz.ntmps38 (AD VC (AD mV AG)) ?_;rintro w0 O0 ⟨⟨b,hf⟩,f,u⟩ d-⟨hs,n⟩;have hs:Cl f:=hs;have n:N0 f:=n;simp only[RC,AL];repeat'(first|exact trivial|refine eS rfl ?_|refine AB ?_|refine rX d ?_ ?_|refine rC ?_ ?_<;>intro a<;>try(cases a;done))
 ·exact n
 ·have h1:CO (b,hf) f=(A0 f).2:=by unfold CO;rw[BY a]
  exact fI d [.tmp 4] (by rw[h1];exact eR)
 ·have t:(A0 f).2=0:=by simpa using a
  have x:=QJ hs.2;have w:=hs.1;have g:CO (b,hf) f=if f.all (Q6 (b,hf))=false then 2 else if (QP f (A0 f).1==0)=false then 3 else 0:=by unfold CO;rw[At (by rw[t];simp),A0G f (A0 f).1]
  refine AH (ι:={i:Nat//i≤f.length∧(f.take i).all (Q6 (b,hf))=true}) (fun i=>⟨[(2,.bp 2 [] 0),(3,.bp 3 [] 0),(5,.bp 5 [] 0),(20,.p Fq f),(21,.p (.int .i64) (f.length:Int)),(22,.p (.int .i64) (i.1:Int))],[(2,.box 31 true [.p Qy b,.p TV hf]),(3,.box 25 true [.p Fq f]),(5,.box 25 true [.p Fq (A0 f).1])]⟩) (fun i=>f.length-i.1) ⟨0,by simp⟩ (AC [(2,.nm 2),(3,.nm 3),(5,.nm 5)] rfl rfl ?_ ?_) (fun i=>?_)
  ·first|exact eN|refine eM ?_
  ·first|exact eN|refine eM ?_
  ·obtain⟨i,hi,l⟩:=i;have r:=fun h:i<f.length=>Fb f (0,[]) (Q6 (b,hf)) h;simp only;repeat'(first|exact trivial|refine eS rfl ?_|refine AB ?_|refine rX d ?_ ?_|refine rC ?_ ?_<;>intro a<;>try(cases a;done))
   ·exact a
   ·have c:i<f.length:=OM.1 (by assumption);have e:f.all (Q6 (b,hf))=false:=by
     rw[AAG];refine⟨_,AE f (0,[]) c,?_⟩;unfold Q6;rw[ABy (AAR.2 a)];simp
    rw[BY e]at g;exact fI d [.tmp 4] (by rw[g];exact eR)
   ·have c:i<f.length:=OM.1 (by assumption);have o:=AE f (0,[]) c;have q:Q6 (b,hf) (f.getD i (0,[]))=(f.getD i (0,[])).2.all (i4 (b,hf)):=by
     unfold Q6;rw[ABj (show (f.getD i (0,[])).1<(b.length:Int) from a)];rfl
    have v:(f.getD i (0,[])).2.length≤100000:=hs.2 _ o;refine AH (ι:={k:Nat//k≤(f.getD i (0,[])).2.length∧((f.getD i (0,[])).2.take k).all (i4 (b,hf))=true}) (fun k=>⟨[(2,.bp 2 [] 0),(3,.bp 3 [] 0),(5,.bp 5 [] 0),(20,.p Fq f),(21,.p (.int .i64) (f.length:Int)),(22,.p (.int .i64) (i:Int)),(33,.p IT (f.getD i (0,[])).2),(34,.p (.int .i64) ((f.getD i (0,[])).2.length:Int)),(35,.p (.int .i64) (k.1:Int))],[(2,.box 31 true [.p Qy b,.p TV hf]),(3,.box 25 true [.p Fq f]),(5,.box 25 true [.p Fq (A0 f).1])]⟩) (fun k=>(f.getD i (0,[])).2.length-k.1) ⟨0,by simp⟩ (AC [(2,.nm 2),(3,.nm 3),(5,.nm 5)] rfl rfl ?_ ?_) (fun k=>?_)
    ·first|exact eN|refine eM ?_
    ·first|exact eN|refine eM ?_
    ·obtain⟨k,hk,m⟩:=k;have s:=fun h:k<(f.getD i (0,[])).2.length=>Fb (f.getD i (0,[])).2 (0,0) (i4 (b,hf)) h;simp only;repeat'(first|exact trivial|refine eS rfl ?_|refine AB ?_|refine rX d ?_ ?_|refine rC ?_ ?_<;>intro a<;>try(cases a;done))
     ·exact a
     ·have j:k<(f.getD i (0,[])).2.length:=OM.1 (by assumption);have e:f.all (Q6 (b,hf))=false:=by
       rw[AAG];refine⟨_,o,?_⟩;rw[q,AAG.2 ⟨_,AE (f.getD i (0,[])).2 (0,0) j,by unfold i4;rw[ABy (AAR.2 a)];simp⟩];simp
      rw[BY e]at g;exact fI d [.tmp 4] (by rw[g];exact eR)
     ·exact eV
     ·have j:k<(f.getD i (0,[])).2.length:=OM.1 (by assumption);refine⟨⟨k+1,j,?_⟩,by simp only;omega,AC [(2,.nm 2),(3,.nm 3),(5,.nm 5)] rfl rfl ?_ ?_⟩
      ·rw[s j,m];unfold i4;exact ABj a
      ·first|exact eN|refine eM ?_
      ·first|exact eN|refine eM ?_
     ·exact eV
     ·have j:(f.getD i (0,[])).2.take k=(f.getD i (0,[])).2:=As (iF.1 a);rw[j]at m;refine⟨⟨i+1,c,?_⟩,by simp only;omega,AC [(2,.nm 2),(3,.nm 3),(5,.nm 5)] rfl rfl ?_ ?_⟩
      ·rw[r c,l,q,m];rfl
      ·first|exact eN|refine eM ?_
      ·first|exact eN|refine eM ?_
   ·exact hs
   ·have c:f.take i=f:=As (iF.1 (by assumption));rw[c]at l;rw[At (by rw[l];simp),BY (by simpa using a)]at g;exact fI d [.tmp 4] (by rw[g];exact eR)
   ·have c:f.take i=f:=As (iF.1 (by assumption));rw[c]at l;rw[At (by rw[l];simp),At (by rw[a];simp)]at g;exact fI d [.tmp 4] (by rw[g];exact eR)
end
section
attribute [local go_sem] RC L6 Uv
def IP (h:AN) (f:List AK) (t:Int):List (Int×Int)→Int
 | []=>0
 | a :: l=>if (Br h t a.1).2=false then 10 else if BK h (Br h t a.1).1 (f.getD a.2.toNat (0,[])).1=false then 11 else IP h f t l
def HW (h:AN) (f:List AK):List AK→Int
 | []=>0
 | x :: l=>if IP h f x.1 x.2=0 then HW h f l else IP h f x.1 x.2
def GZ (h:AN) (f:List AK):Int:=if CO h f=0 then HW h f f else CO h f
structure Chk (h:AN) (f:List AK):Prop where
 ty:∀x∈f,0≤x.1∧x.1<(h.1.length:Int)
 arc:∀x∈f,∀a∈x.2,Ec h f.length a
theorem A0H {h:AN} {f:List AK} (e:CO h f=0):Chk h f:=by
 have h1:(A0 f).2=0:=by
  refine By fun hn=>?_;unfold CO at e;rw[BY hn]at e;exact hn e
 have c:Bz f=0:=by
  refine By fun hn=>?_;unfold A0 at h1;rw[At hn]at h1;exact hn h1
 have d:f.all (Q6 h)=true:=by
  cases k:f.all (Q6 h) with
  | true=>rfl
  | false =>
   unfold CO at e;rw[At (by rw[h1];simp),BY k]at e;cases e
 have j:F9 f.length f=0:=by
  unfold Bz at c;split at c
  ·cases c
  ·split at c
   ·cases c
   ·exact c
 have g:=HR j;rw[DO]at d;have i:∀x∈f,x.1<(h.1.length:Int)∧∀a∈x.2,a.1<(h.2.length:Int):=fun x b=>by
  have:=d x b;unfold Q6 at this;rw[An,GO,DO]at this;exact⟨this.1,fun a ha=>by have:=this.2 a ha;unfold i4 at this;simpa using this⟩
 exact⟨fun x b=>⟨(g x b).1,(i x b).1⟩,fun x b a ha=>by
  obtain⟨l,m,n⟩:=(g x b).2 a ha;exact⟨⟨l,(i x b).2 a ha⟩,m,n⟩⟩
theorem Tl (h:AN) (f l:List AK) {k:Nat} (hk:k<l.length):HW h f (l.drop k)=if IP h f (l.getD k (0,[])).1 (l.getD k (0,[])).2=0 then HW h f (l.drop (k+1)) else IP h f (l.getD k (0,[])).1 (l.getD k (0,[])).2:=by
 rw[KH (0,[]) hk];rfl
theorem Yr (h:AN) (f:List AK) (t:Int) (l:List (Int×Int)) {k:Nat} (hk:k<l.length):IP h f t (l.drop k)=if (Br h t (l.getD k (0,0)).1).2=false then 10 else if BK h (Br h t (l.getD k (0,0)).1).1 (f.getD (l.getD k (0,0)).2.toNat (0,[])).1=false then 11 else IP h f t (l.drop (k+1)):=by
 rw[KH (0,0) hk];rfl
def RD:Ad:={ ins:=[Ls,Fs],pre:=fun(h,f,_)=>Tk h∧Cl f∧N0 f,out:=fun(h,f,_)=>[.p TU (GZ h f)] }
attribute [local go_sem] RD
theorem mZ:Aj Tryz.prog 15 RD:=by
 refine fK [0,1,2,3,4,5,7,9,10,11,16,19,20,21,22,26,27,28,29,42,53] Tryz.func15 Tryz.ntmps15 (AD mY (AD jB (AD yN AG))) ?_;rintro w0 O0 ⟨⟨a,hf⟩,f,u⟩ e-⟨o,hs,s⟩;have o:Tk (a,hf):=o;have hs:Cl f:=hs;have s:N0 f:=s;have K:=hs.1;simp only[RD,AL];repeat'(first|exact trivial|refine eS rfl ?_|refine AB ?_|refine rX e ?_ ?_|refine rC ?_ ?_<;>intro b<;>try(cases b;done))
 ·exact⟨hs,s⟩
 ·have j:GZ (a,hf) f=CO (a,hf) f:=At b;exact fI e [.tmp 4] (by rw[j];exact eR)
 ·have C:CO (a,hf) f=0:=by simpa using b
  have j:GZ (a,hf) f=HW (a,hf) f f:=BY C;obtain⟨A,E⟩:=A0H C;refine AH (ι:={i:Nat//i≤f.length∧HW (a,hf) f f=HW (a,hf) f (f.drop i)}) (fun i=>⟨[(2,.bp 2 [] 0),(3,.bp 3 [] 0),(19,.p Fq f),(20,.p (.int .i64) (f.length:Int)),(21,.p (.int .i64) (i.1:Int))],[(2,.box 31 true [.p Qy a,.p TV hf]),(3,.box 25 true [.p Fq f])]⟩) (fun i=>f.length-i.1) ⟨0,IS _,rfl⟩ (AC [(2,.nm 2),(3,.nm 3)] rfl rfl ?_ ?_) (fun i=>?_)
  ·first|exact eN|refine eM ?_
  ·first|exact eN|refine eM ?_
  ·obtain⟨i,hi,g⟩:=i;have I:=fun h:i<f.length=>Tl (a,hf) f f h;have H:=fun h:i<f.length=>AE f (0,[]) h;simp only;repeat'(first|exact trivial|refine eS rfl ?_|refine AB ?_|refine rX e ?_ ?_|refine rC ?_ ?_<;>intro b<;>try(cases b;done))
   ·exact b
   ·have q:i<f.length:=OM.1 b;have m:=I q;have r:=H q;obtain⟨y,z⟩:=A _ r;have B:=E _ r;have F:=hs.2 _ r;generalize M:f.getD i (0,[])=x at *;obtain⟨t,L⟩:=x;simp only at m y z B F ⊢;refine AH (ι:={k:Nat//k≤L.length∧IP (a,hf) f t L=IP (a,hf) f t (L.drop k)}) (fun k=>⟨[(2,.bp 2 [] 0),(3,.bp 3 [] 0),(7,.bp 7 [] 0),(19,.p Fq f),(20,.p (.int .i64) (f.length:Int)),(21,.p (.int .i64) (i:Int)),(26,.p IT L),(27,.p (.int .i64) (L.length:Int)),(28,.p (.int .i64) (k.1:Int))],[(7,.box 49 true [.p T3 t,.p IT L]),(2,.box 31 true [.p Qy a,.p TV hf]),(3,.box 25 true [.p Fq f])]⟩) (fun k=>L.length-k.1) ⟨0,IS _,rfl⟩ (AC [(7,.nm 7),(2,.nm 2),(3,.nm 3)] rfl rfl ?_ ?_) (fun k=>?_)
    ·first|exact eN|refine eM ?_
    ·first|exact eN|refine eM ?_
    ·obtain⟨k,hk,c⟩:=k;have v:=fun h:k<L.length=>Yr (a,hf) f t L h;have G:=fun h:k<L.length=>B _ (AE L (0,0) h);simp only;have J:=EF (f:=(L.getD k (0,0)).1) o y z;repeat'(first|exact trivial|refine eS rfl ?_|refine AB ?_|refine rX e ?_ ?_|refine rC ?_ ?_<;>intro b<;>try(cases b;done))
     ·exact b
     ·exact⟨y,z⟩
     ·have d:k<L.length:=by exact eV
      rw[v d,BY b]at c;have l:GZ (a,hf) f=10:=by rw[j,g,m,At (by rw[c];simp),c]
      exact fI e [.tmp 4] (by rw[l];exact eR)
     ·have d:k<L.length:=by exact eV
      obtain⟨-,D,b1⟩:=G d;exact⟨⟨D,b1⟩,J b,A _ (AE f (0,[]) (by omega))⟩
     ·have d:k<L.length:=by exact eV
      have w:(Br (a,hf) t (List.getD L k (0,0)).1).2=true:=by assumption
      rw[v d,At (by rw[w];simp),BY b]at c;have l:GZ (a,hf) f=11:=by rw[j,g,m,At (by rw[c];simp),c]
      exact fI e [.tmp 4] (by rw[l];exact eR)
     ·omega
     ·have d:k<L.length:=by exact eV
      have w:(Br (a,hf) t (List.getD L k (0,0)).1).2=true:=by assumption
      rw[v d,At (by rw[w];simp),At (by rw[b];simp)]at c;refine⟨⟨k+1,d,c⟩,by simp only;omega,AC [(7,.nm 7),(2,.nm 2),(3,.nm 3)] rfl rfl ?_ ?_⟩
      ·first|exact eN|refine eM ?_
      ·first|exact eN|refine eM ?_
     ·omega
     ·have n:L.drop k=[]:=IF (iF.1 b);rw[n]at c;have c:IP (a,hf) f t L=0:=c;rw[m,BY c]at g;refine⟨⟨i+1,q,g⟩,by simp only;omega,AC [(2,.nm 2),(3,.nm 3)] rfl rfl ?_ ?_⟩
      ·first|exact eN|refine eM ?_
      ·first|exact eN|refine eM ?_
   ·have n:f.drop i=[]:=IF (iF.1 b);rw[n]at g;have l:GZ (a,hf) f=0:=by rw[j,g];rfl
    exact fI e [.tmp 4] (by rw[l];exact eR)
theorem sX:Aj Tryz.prog 41 L6:=by
 refine fK [0,1,2,3,6,7,8,9,19,28] Tryz.func41 Tryz.ntmps41 AG ?_;rintro w0 O0 ⟨⟨c,hf⟩,t,f,u⟩ d q ⟨j,m⟩;simp only[L6,AL];refine Ev.ent (σ':=⟨[(0,.p Ls (c,hf)),(1,.p T3 t),(2,.p T3 f)],[]⟩) ?_ (AC [] rfl rfl ?_ ?_)
 ·repeat'(first|exact trivial|refine eS rfl ?_|refine AB ?_|refine rX d ?_ ?_|refine rC ?_ ?_<;>intro b<;>try(cases b;done))
  ·exact⟨j,m⟩
  ·have o:∀l,l=(List.getD c (Int.toNat t) (ByteArray.empty,[],[],[])).2.2.2→Br (c,hf) t f=DN f l:=fun l e=>by rw[e];rfl
   have r:List.length (List.getD c (Int.toNat t) (ByteArray.empty,[],[],[])).2.2.2≤140737488355328:=(q.1.1.2 _ (AE (c:List HN) PN ((ACg j).2 m))).2.2.2.1;generalize (List.getD c (Int.toNat t) (ByteArray.empty,[],[],[])).2.2.2=l at *;rw[o l rfl];refine AH (ι:={k:Nat//k≤List.length l∧DN f l=DN f (l.drop k)}) (fun k=>⟨[(2,.p T3 f),(8,.p Xl l),(9,.p (.int .i64) (k.1:Int))],[]⟩) (fun k=>List.length l-k.1) ⟨0,IS _,rfl⟩ (AC [] rfl rfl ?_ ?_) (fun k=>?_)
   ·first|exact eN|refine eM ?_
   ·first|exact eN|refine eM ?_
   ·obtain⟨k,hk,a⟩:=k;have i:=fun h:k<List.length l=>Sp f l h;simp only;repeat'(first|exact trivial|refine eS rfl ?_|refine AB ?_|refine rX d ?_ ?_|refine rC ?_ ?_<;>intro b<;>try(cases b;done))
    ·exact b
    ·exact OM.2 (by exact eV)
    ·have g:k<List.length l:=by exact eV
     rw[i g,BY b]at a;exact fI d [.tmp 6,.tmp 7] (by rw[a];exact eR)
    ·omega
    ·have g:k<List.length l:=by exact eV
     rw[i g,At b]at a;refine⟨⟨k+1,g,a⟩,by simp only;omega,AC [] rfl rfl ?_ ?_⟩
     ·first|exact eN|refine eM ?_
     ·first|exact eN|refine eM ?_
    ·have n:List.drop k (l:List (Int×Int))=[]:=IF (by exact eV);rw[n]at a;have a:DN f l=(0,false):=a;exact fI d [.tmp 6,.tmp 7] (by rw[a];exact eR)
 ·first|exact eN|refine eM ?_
 ·first|exact eN|refine eM ?_
end
section
attribute [local go_sem] Nr L6 NP
end
section
attribute [local go_sem] L6
theorem bP (h:AN) (hk:I5 h) (hi:GY h) (hf:Tk h) (W:h.2.length≤100000) (f:List AK) (O:EE f) (ha:LD h f) (s:Di) (hs:Li h f.length s) {n:Int} (n0:0≤n) (n1:n<(f.length:Int)) (S:Lj h s.1+s.2.length≤1000000000) :
  BE Tryz.prog 43 [.bp 1 [] 0,.p Fs f,.p T3 n] (Da h s) [1]
  (fun res z=>(I9 h f n s=none∧res=.p .bool false∧∃A,z=Da h A)∨∃A,I9 h f n s=some A∧res=.p .bool true∧z=Da h A):=by
 have G:=LE ha n0 n1;have Y:(f.getD n.toNat (0,[])).2.length≤100000:=(O.2 _ (AE f (0,[]) (by omega))).1;have N:I9 h f n s=(LC h n (f.getD n.toNat (0,[])).2 s).bind (Lt h n (f.getD n.toNat (0,[])).2):=rfl;rw[N];refine KK [0,1,2,4,6,8,10,11,12,18,19,20,21,37,44,45,46,47,76] [] [] Tryz.func43 Tryz.ntmps43 (AD jB AG) ?_;intro w0 K O0 ρ0 a Z aa;simp only[Da,Ak];repeat'(first|exact trivial|refine eS rfl ?_|refine AB ?_|refine rX a ?_ ?_|refine rC ?_ ?_<;>intro b<;>try(cases b;done))
 ·exact⟨n0,n1⟩
 ·have X:f.getD n.toNat (0,[])=f.getD n.toNat (0,[]):=rfl;generalize J:(f.getD n.toNat (0,[])).2=L at *;refine AH (ι:={x:Nat×Di//x.1≤L.length∧Li h f.length x.2∧Lj h x.2.1+x.2.2.length≤1000000000∧LC h n L s=LC h n (L.drop x.1) x.2}) (fun x=>⟨[(0,.bp 1 [] 0),(2,.p T3 n),(4,.bp 4 [] 0),(18,.p IT L),(19,.p (.int .i64) (L.length:Int)),(20,.p (.int .i64) (x.1.1:Int))],[(4,.box 25 true [.p Fq f]),(1,.box 74 true [.p Ls h,.sr 2 T3 0 x.1.2.1.length,.p IJ x.1.2.2]),(2,.arr 3 T3 x.1.2.1)]⟩) (fun x=>L.length-x.1.1) ⟨(0,s),IS _,hs,S,rfl⟩ (AC [(4,.nm 4),(1,.nm 1),(2,.nm 2)] rfl rfl ?_ ?_) (fun x=>?_)
  ·first|exact eN|refine eM ?_
  ·first|exact eN|refine eM ?_
  ·obtain⟨⟨k,s1⟩,Q,r,C,i⟩:=x;simp only at Q r C i ⊢;repeat'(first|exact trivial|refine eS rfl ?_|refine AB ?_|refine rX a ?_ ?_|refine rC ?_ ?_<;>intro b<;>try(cases b;done))
   ·exact b
   ·have l:k<L.length:=OM.1 b;have d:LC h n (L.drop k) s1=(Cm h s1 n (I8 h (L.getD k (0,0)).1)).bind (LC h n (L.drop (k+1))):=by rw[KH (0,0) l];rfl
    obtain⟨⟨a0,F⟩,u,b1⟩:=G _ (AE L (0,0) l);obtain⟨o,q⟩:=GE hf a0 F;obtain⟨w,y⟩:=r.get n0 n1;refine cD 12 a ?_ ?_
    ·exact⟨a0,F⟩
    ·refine rM a (YW h hk s1 n0 (by rw[r.len];exact n1) w y o q (by omega)) [(1,.nm 1),(2,.nm 2)] [2] ?_ ?_ ?_
     ·first|exact eN|refine eM ?_
      rfl
     ·simp only[Da];first|exact eN|refine eM ?_
     ·rintro res z (⟨c,rfl,rfl⟩|⟨s2,c,rfl,rfl⟩)
      ·refine⟨[(1,.nm 1),(2,.nm 2)],.p .bool false,Da h s1,rfl,rfl,?_,?_,rfl,rfl,?_⟩
       ·simp only[Da];first|exact eN|refine eM ?_
       ·first|exact eN|refine eM ?_
       ·simp only[Da];refine rL a ?_ ?_
        ·trivial
        ·repeat'(first|exact trivial|refine eS rfl ?_|refine AB ?_|refine rX a ?_ ?_|refine rC ?_ ?_<;>intro b<;>try(cases b;done))
         refine Ev.ent (σ':=⟨[(6,.p .bool false)],Da h s1⟩) ?_ (AC [(1,.nm 1),(2,.nm 2)] rfl rfl ?_ ?_)
         ·exact fM a [.tmp 6] (.p .bool false) eT (.inl ⟨by rw[i,d,c];rfl,rfl,s1,rfl⟩)
         ·unfold Da;first|exact eN|refine eM ?_
         ·first|exact eN|refine eM ?_
      ·refine⟨[(1,.nm 1),(2,.nm 2)],.p .bool true,Da h s2,rfl,rfl,?_,?_,rfl,rfl,?_⟩
       ·simp only[Da];first|exact eN|refine eM ?_
       ·first|exact eN|refine eM ?_
       ·simp only[Da];refine rL a ?_ ?_
        ·trivial
        ·obtain⟨D,E,T⟩:=EM hk hi r n0 n1 o q c;repeat'(first|exact trivial|refine eS rfl ?_|refine AB ?_|refine rX a ?_ ?_|refine rC ?_ ?_<;>intro b<;>try(cases b;done))
         ·omega
         ·refine⟨⟨(k+1,s2),l,D,f4 E C,by rw[i,d,c];rfl⟩,by simp only;omega,AC [(4,.nm 4),(1,.nm 1),(2,.nm 2)] rfl rfl ?_ ?_⟩
          ·first|exact eN|refine eM ?_
          ·first|exact eN|refine eM ?_
   ·exact⟨n0,n1⟩
   ·have B:L.drop k=[]:=IF (iF.1 b);rw[B]at i;have i:LC h n L s=some s1:=i;rw[i];have M:(List.getD f n.toNat (0,[])).2=L:=J;rw[M];refine AH (ι:={x:Nat×Di//x.1≤L.length∧Li h f.length x.2∧Lj h x.2.1+x.2.2.length≤1000000000∧(some s1).bind (Lt h n L)=Lt h n (L.drop x.1) x.2}) (fun x=>⟨[(0,.bp 1 [] 0),(2,.p T3 n),(44,.p IT L),(45,.p (.int .i64) (L.length:Int)),(46,.p (.int .i64) (x.1.1:Int))],[(1,.box 74 true [.p Ls h,.sr 2 T3 0 x.1.2.1.length,.p IJ x.1.2.2]),(2,.arr 3 T3 x.1.2.1)]⟩) (fun x=>L.length-x.1.1) ⟨(0,s1),IS _,r,C,rfl⟩ (AC [(1,.nm 1),(2,.nm 2)] rfl rfl ?_ ?_) (fun x=>?_)
    ·first|exact eN|refine eM ?_
    ·first|exact eN|refine eM ?_
    ·obtain⟨⟨j,s2⟩,P,m,H,g⟩:=x;simp only at P m H g ⊢;obtain⟨w,y⟩:=m.get n0 n1;repeat'(first|exact trivial|refine eS rfl ?_|refine AB ?_|refine rX a ?_ ?_|refine rC ?_ ?_<;>intro b<;>try(cases b;done))
     ·exact b
     ·exact⟨⟨n0,by rw[m.len];exact n1⟩,w,y⟩
     ·have l:j<L.length:=OM.1 b;have d:Lt h n (L.drop j) s2=if (Br h (s2.1.getD n.toNat 0) (L.getD j (0,0)).1).2=true then (Cm h s2 (L.getD j (0,0)).2 (Br h (s2.1.getD n.toNat 0) (L.getD j (0,0)).1).1).bind (Lt h n (L.drop (j+1))) else none:=by rw[KH (0,0) l];rfl
      obtain⟨-,u,b1⟩:=G _ (AE L (0,0) l);have R:=fun e=>EF (f:=(L.getD j (0,0)).1) hf w y e;generalize Br h (s2.1.getD n.toNat 0) (L.getD j (0,0)).1=v at *;obtain⟨t,ok⟩:=v;refine evP a 3 ?_ ?_
      ·trivial
      ·cases ok with
       | false =>
        rw[At (by simp)]at d;refine rL a ?_ ?_
        ·trivial
        ·repeat'(first|exact trivial|refine eS rfl ?_|refine AB ?_|refine rX a ?_ ?_|refine rC ?_ ?_<;>intro b<;>try(cases b;done))
         refine Ev.ent (σ':=⟨[(6,.p .bool false)],Da h s2⟩) ?_ (AC [(1,.nm 1),(2,.nm 2)] rfl rfl ?_ ?_)
         ·exact fM a [.tmp 6] (.p .bool false) eT (.inl ⟨by rw[g,d],rfl,s2,rfl⟩)
         ·unfold Da;first|exact eN|refine eM ?_
         ·first|exact eN|refine eM ?_
       | true =>
        rw[BY rfl]at d;obtain⟨o,q⟩:=R rfl;simp only at o q d;obtain⟨U,V⟩:=m.get u b1;refine rN 4 a ?_ ?_
        ·trivial
        ·refine clG a (YW h hk s2 u (by rw[m.len];exact b1) U V o q (by omega)) [(1,.nm 1),(2,.nm 2)] [2] ?_ ?_ ?_
         ·first|exact eN|refine eM ?_
         ·simp only[Da];first|exact eN|refine eM ?_
         ·rintro res z (⟨c,rfl,rfl⟩|⟨I,c,rfl,rfl⟩)
          ·refine⟨[(1,.nm 1),(2,.nm 2)],.p .bool false,Da h s2,rfl,rfl,?_,?_,rfl,rfl,?_⟩
           ·simp only[Da];first|exact eN|refine eM ?_
           ·first|exact eN|refine eM ?_
           ·simp only[Da];refine rL a ?_ ?_
            ·trivial
            ·repeat'(first|exact trivial|refine eS rfl ?_|refine AB ?_|refine rX a ?_ ?_|refine rC ?_ ?_<;>intro b<;>try(cases b;done))
             refine Ev.ent (σ':=⟨[(6,.p .bool false)],Da h s2⟩) ?_ (AC [(1,.nm 1),(2,.nm 2)] rfl rfl ?_ ?_)
             ·exact fM a [.tmp 6] (.p .bool false) eT (.inl ⟨by rw[g,d,c];rfl,rfl,s2,rfl⟩)
             ·unfold Da;first|exact eN|refine eM ?_
             ·first|exact eN|refine eM ?_
          ·refine⟨[(1,.nm 1),(2,.nm 2)],.p .bool true,Da h I,rfl,rfl,?_,?_,rfl,rfl,?_⟩
           ·simp only[Da];first|exact eN|refine eM ?_
           ·first|exact eN|refine eM ?_
           ·simp only[Da];refine rL a ?_ ?_
            ·trivial
            ·obtain⟨D,E,T⟩:=EM hk hi m u b1 o q c;repeat'(first|exact trivial|refine eS rfl ?_|refine AB ?_|refine rX a ?_ ?_|refine rC ?_ ?_<;>intro b<;>try(cases b;done))
             ·omega
             ·refine⟨⟨(j+1,I),l,D,f4 E H,by rw[g,d,c];rfl⟩,by simp only;omega,AC [(1,.nm 1),(2,.nm 2)] rfl rfl ?_ ?_⟩
              ·first|exact eN|refine eM ?_
              ·first|exact eN|refine eM ?_
     ·have B:L.drop j=[]:=IF (iF.1 b);rw[B]at g;have g:(some s1).bind (Lt h n L)=some s2:=g;refine Ev.ent (σ':=⟨[(6,.p .bool true)],Da h s2⟩) ?_ (AC [(1,.nm 1),(2,.nm 2)] rfl rfl ?_ ?_)
      ·exact fM a [.tmp 6] (.p .bool true) eT (.inr ⟨s2,g,rfl,rfl⟩)
      ·unfold Da;first|exact eN|refine eM ?_
      ·first|exact eN|refine eM ?_
end
section
def Wf:Ad:={ ins:=[Fq],pre:=fun(l,_)=>List.length l≤100000,out:=fun(l,_)=>[.own 49 Lr l] }
attribute [local go_sem] Wf
theorem m5:Aj Tryz.prog 44 Wf:=by
 refine fK [0,2,4] Tryz.func44 Tryz.ntmps44 AG ?_;rintro w0 O0 ⟨l,u⟩ a-d;have d:List.length l≤100000:=d;simp only[Wf,AL];repeat'(first|exact trivial|refine eS rfl ?_|refine AB ?_|refine rX a ?_ ?_|refine rC ?_ ?_<;>intro c<;>try(cases c;done))
 refine cP 1 a ?_ ?_
 ·trivial
 ·refine UT a false rfl rfl ?_;intro b e;refine rL a ?_ ?_
  ·trivial
  ·repeat'(first|exact trivial|refine eS rfl ?_|refine AB ?_|refine rX a ?_ ?_|refine rC ?_ ?_<;>intro c<;>try(cases c;done))
   ·have f:l=[]:=e c;subst f;refine Ev.ent (σ':=⟨[(2,.sr 5 Lr 0 0)],[(5,.arr 49 Lr [])]⟩) ?_ (AC [(5,.nil)] rfl rfl ?_ ?_)
    ·exact Gu a (.inl rfl) (rv:=.tmp 2) rfl (by simp only[Hr,Gr,F0,go_sem,Nat.reduceEqDiff,reduceCtorEq,Nat.reduceAdd,Nat.reduceSub,Nat.reduceMul,Nat.reduceLeDiff,Nat.reduceLT,Int.reduceLE,Int.reduceToNat,Int.reduceNeg,↓reduceIte])
    ·first|exact eN|refine eM ?_
    ·first|exact eN|refine eM ?_
   ·simp only[AO];omega
   ·exact Gu a (.inl rfl) (rv:=.tmp 2) rfl (by simp only[Hr,Gr,F0,go_sem,Nat.reduceEqDiff,reduceCtorEq,Nat.reduceAdd,Nat.reduceSub,Nat.reduceMul,Nat.reduceLeDiff,Nat.reduceLT,Int.reduceLE,Int.reduceToNat,Int.reduceNeg,↓reduceIte])
structure m6 (h:AN) (f:List AK):Prop where
 ok:I5 h
 inj:GY h
 ft:Tk h
 fl:h.2.length≤100000
 good:EE f
 arcs:LD h f
 ty:∀x∈f,0≤x.1∧x.1<(h.1.length:Int)
def S4:Ad:={ ins:=[Ls,Fs],pre:=fun(h,f,_)=>m6 h f,out:=fun(h,f,_)=>[.p Fs (Bx h f).1,.p .bool (Bx h f).2] }
theorem Gg (f:List AK) (ty:List Int):(DP f ty).length=f.length:=by simp[DP]
theorem PW (f:List AK) (ty:List Int) {i:Nat} (h:i<f.length):(DP f ty).getD i (0,[])=(ty.getD i 0,(f.getD i (0,[])).2):=by
 unfold DP;simp[AS,h]
theorem m7 {α:Type} (F f:List α) (d:α) (b:F.length=f.length) {j:Nat} (h:j<f.length):(F.take j++f.drop j).set j (F.getD j d)=F.take (j+1)++f.drop (j+1)∧(F.take j++f.drop j).getD j d=f.getD j d:=by
 have h1:(F.take j).length=j:=by rw[OR];omega
 have a:f.drop j=f.getD j d :: f.drop (j+1):=by
  rw[OS h,AS,AT h];rfl
 constructor
 ·rw[Ae F d (by omega),ABW _ _ (by omega),h1,AB6,a];simp
 ·rw[AS,AA5 (by omega),h1,AB6,a];rfl
theorem S5:Aj Tryz.prog 18 S4:=by
 refine fK [0,1,2,3,4,5,6,7,8,9,10,11,16,17,18,19,51,64,72,73,74] Tryz.func18 Tryz.ntmps18 (AD m5 AG) ?_;rintro w0 O0 ⟨⟨a,hf⟩,f,u⟩ c-hp;have hp:m6 (a,hf) f:=hp;have D:=We (a,hf) f;have w:=hp.good.1;have S:HV (a,hf) f≤30000000:=by
  have h1:a.length≤256:=hp.ok.2;have C:f.length*a.length≤100000*256:=Nat.mul_le_mul w h1;have R:f.length*(a,hf).1.length≤100000*256:=C;unfold HV;omega
 have J:=VG hp.ty;simp only[S4,AL];repeat'(first|exact trivial|refine eS rfl ?_|refine AB ?_|refine rX c ?_ ?_|refine rC ?_ ?_<;>intro b<;>try(cases b;done))
 refine AH (ι:={i:Nat//i≤f.length}) (fun i=>⟨[(3,.bp 3 [] 0),(4,.bp 4 [] 0),(6,.bp 14 [] 0),(16,.p Fq f),(17,.p (.int .i64) (f.length:Int)),(18,.p (.int .i64) (i.1:Int))],[(3,.box 25 true [.p Fq f]),(4,.box 25 true [.raw (.slice none 0 0)]),(14,.box 74 true [.p Ls (a,hf),.sr 31 T3 0 i.1,.sr 41 T3 0 i.1]),(31,.arr 3 T3 ((A1 f).take i.1)),(41,.arr 3 T3 ((Dx f).take i.1))]⟩) (fun i=>f.length-i.1) ⟨0,IS _⟩ (AC [(3,.nm 3),(4,.nm 4),(14,.nm 14),(31,.nil),(41,.nil)] rfl rfl ?_ ?_) (fun i=>?_)
 ·first|exact eN|refine eM ?_
 ·first|exact eN|refine eM ?_
 ·obtain⟨i,hi⟩:=i;have tl:((A1 f).take i).length=i:=by rw[OR];simp[A1];omega
  have X:((Dx f).take i).length=i:=by rw[OR];simp[Dx];omega
  have ts:i<f.length→(A1 f).take i++[(f.getD i (0,[])).1]=(A1 f).take (i+1):=fun h=>by
   rw[Ae (A1 f) 0 (by simpa[A1] using h)];simp[A1,AS,h]
  have P:i<f.length→(Dx f).take i++[(i:Int)]=(Dx f).take (i+1):=fun h=>by
   rw[Ae (Dx f) 0 (by simpa[Dx] using h)];simp[Dx,AS,h]
  repeat'(first|exact trivial|refine eS rfl ?_|refine AB ?_|refine rX c ?_ ?_|refine rC ?_ ?_<;>intro b<;>try(cases b;done))
  ·exact b
  ·have g:i<f.length:=OM.1 b;have O:=ts g;have Q:=P g;refine Cj drawsAny c 9 [([1,2,3,4,5,6,7],8)] [0] (by kernel_rfl) (R4 ?_ ?_)
   ·trivial
   ·refine Td c [31] ?_ ?_
    ·simp only[AO];omega
    ·refine TT c ?_ ?_ ?_
     ·trivial
     ·trivial
     ·repeat'(first|exact trivial|refine eS rfl ?_|refine AB ?_|refine rX c ?_ ?_|refine rC ?_ ?_<;>intro b<;>try(cases b;done))
      ·simp only[AO];omega
      ·omega
      ·refine⟨⟨i+1,g⟩,by simp only;omega,AC [(3,.nm 3),(4,.nm 4),(14,.nm 14),(31,.nm 31),(41,.nm 41)] rfl rfl ?_ ?_⟩
       ·simp only[←O,←Q];first|exact eN|refine eM ?_
        simp only[ABv,ACx,and_self]
       ·first|exact eN|refine eM ?_
  ·have g:i=f.length:=by
    have:=iF.1 b;omega
   subst g;have et:(A1 f).take f.length=A1 f:=As (by simp[A1]);have v:(Dx f).take f.length=Dx f:=As (by simp[Dx]);have N:(A1 f).length=f.length:=by simp[A1]
   have Y:(Dx f).length=f.length:=by simp[Dx]
   rw[et,v];have B:(Dx f).take f.length=Dx f:=v;refine GJ [41] ?_;rw[B];refine AH (ι:={x:Nat×Di//Li (a,hf) f.length x.2∧Lj (a,hf) x.2.1+x.2.2.length+1≤HV (a,hf) f∧x.1≤x.2.2.length∧∃k,Lj (a,hf) x.2.1+x.2.2.length+1≤k+x.1∧jH (a,hf) f k x.1 x.2=LF (a,hf) f}) (fun x=>⟨[(3,.bp 3 [] 0),(4,.bp 4 [] 0),(6,.bp 14 [] 0),(9,.p (.int .i64) (x.1.1:Int))],[(3,.box 25 true [.p Fq f]),(4,.box 25 true [.raw (.slice none 0 0)]),(14,.box 74 true [.p Ls (a,hf),.sr 31 T3 0 x.1.2.1.length,.p IJ x.1.2.2]),(31,.arr 3 T3 x.1.2.1)]⟩) (fun x=>Lj (a,hf) x.1.2.1+x.1.2.2.length-x.1.1) ⟨(0,A1 f,Dx f),J,D,IS _,HV (a,hf) f,by simp only;omega,rfl⟩ (AC [(3,.nm 3),(4,.nm 4),(14,.nm 14),(31,.nm 31)] rfl rfl ?_ ?_) (fun x=>?_)
   ·simp only[N];first|exact eN|refine eM ?_
   ·first|exact eN|refine eM ?_
   ·obtain⟨⟨i,s⟩,hs,I,hi,k,hk,e⟩:=x;simp only at hs I hi hk e ⊢;repeat'(first|exact trivial|refine eS rfl ?_|refine AB ?_|refine rX c ?_ ?_|refine rC ?_ ?_<;>intro b<;>try(cases b;done))
    ·have m:i<s.2.length:=OM.1 b;obtain⟨z,A⟩:=hs.wt _ (AE s.2 (0:Int) m);obtain⟨k,rfl⟩:∃t,k=t+1:=⟨k-1,by omega⟩;have r:jH (a,hf) f (k+1) i s=(I9 (a,hf) f (s.2.getD i 0) s).bind (jH (a,hf) f k (i+1)):=BY m;rw[r]at e;refine cD 9 c ?_ ?_
     ·exact b
     ·refine rM c (bP (a,hf) hp.ok hp.inj hp.ft hp.fl f hp.good hp.arcs s hs z A (by omega)) [(1,.nm 14),(2,.nm 31)] [31] ?_ ?_ ?_
      ·first|exact eN|refine eM ?_
      ·simp only[Da];first|exact eN|refine eM ?_
      ·rintro res W (⟨l,rfl,d,rfl⟩|⟨d,l,rfl,rfl⟩)
       ·refine⟨[(14,.nm 1),(31,.nm 2)],.p .bool false,[(14,.box 74 true [.p Ls (a,hf),.sr 31 T3 0 d.1.length,.p IJ d.2]),(31,.arr 3 T3 d.1)],rfl,rfl,?_,?_,rfl,rfl,?_⟩
        ·simp only[Da];first|exact eN|refine eM ?_
        ·first|exact eN|refine eM ?_
        ·refine rL c ?_ ?_
         ·trivial
         ·repeat'(first|exact trivial|refine eS rfl ?_|refine AB ?_|refine rX c ?_ ?_|refine rC ?_ ?_<;>intro b<;>try(cases b;done))
          have o:Bx (a,hf) f=([],false):=by unfold Bx;rw[←e,l];rfl
          exact fI c [.cell 4 25,.tmp 5] (by rw[o];exact eR)
       ·obtain⟨M,U,V⟩:=OC hp.ok hp.inj hp.ft hp.arcs z A hs l;rw[l]at e;refine⟨[(14,.nm 1),(31,.nm 2)],.p .bool true,[(14,.box 74 true [.p Ls (a,hf),.sr 31 T3 0 d.1.length,.p IJ d.2]),(31,.arr 3 T3 d.1)],rfl,rfl,?_,?_,rfl,rfl,?_⟩
        ·simp only[Da];first|exact eN|refine eM ?_
        ·first|exact eN|refine eM ?_
        ·refine rL c ?_ ?_
         ·trivial
         ·repeat'(first|exact trivial|refine eS rfl ?_|refine AB ?_|refine rX c ?_ ?_|refine rC ?_ ?_<;>intro b<;>try(cases b;done))
          ·omega
          ·refine⟨⟨(i+1,d),M,by simp only;omega,by simp only;omega,k,by simp only;omega,e⟩,by simp only;omega,AC [(3,.nm 3),(4,.nm 4),(14,.nm 14),(31,.nm 31)] rfl rfl ?_ ?_⟩
           ·first|exact eN|refine eM ?_
           ·first|exact eN|refine eM ?_
    ·exact w
    ·have m:¬i<s.2.length:=fun h=>by
      have:=iF.1 b;omega
     obtain⟨k,rfl⟩:∃t,k=t+1:=⟨k-1,by omega⟩;have r:jH (a,hf) f (k+1) i s=some s.1:=At m;have o:Bx (a,hf) f=(DP f s.1,true):=by unfold Bx;rw[←e,r]
     have q:=Gg f s.1;have K:=fun i h=>PW f s.1 (i:=i) h;generalize hT:DP f s.1=F at *;have L:=hs.len;refine AH (ι:={j:Nat//j≤f.length}) (fun j=>⟨[(4,.bp 4 [] 0),(6,.bp 14 [] 0),(10,.bp 10 [] 0),(72,.p (.int .i64) (f.length:Int)),(73,.p (.int .i64) (j.1:Int))],[(10,.box 25 true [.sr 68 Lr 0 f.length]),(68,.arr 49 Lr (F.take j.1++f.drop j.1)),(4,.box 25 true [.raw (.slice none 0 0)]),(14,.box 74 true [.p Ls (a,hf),.sr 31 T3 0 s.1.length,.p IJ s.2]),(31,.arr 3 T3 s.1)]⟩) (fun j=>f.length-j.1) ⟨0,IS _⟩ (AC [(10,.nm 10),(68,.nm 68),(4,.nm 4),(14,.nm 14),(31,.nm 31)] rfl rfl ?_ ?_) (fun j=>?_)
     ·first|exact eN|refine eM ?_
     ·first|exact eN|refine eM ?_
     ·obtain⟨j,T⟩:=j;have H:=fun h:j<f.length=>m7 F f (0,[]) q h;repeat'(first|exact trivial|refine eS rfl ?_|refine AB ?_|refine rX c ?_ ?_|refine rC ?_ ?_<;>intro b<;>try(cases b;done))
      ·exact⟨by rw[L];exact b,b⟩
      ·omega
      ·have n:j<f.length:=OM.1 b;obtain⟨y,G⟩:=H n;rw[K j n]at y;refine⟨⟨j+1,n⟩,by simp only;omega,AC [(10,.nm 10),(68,.nm 68),(4,.nm 4),(14,.nm 14),(31,.nm 31)] rfl rfl ?_ ?_⟩
       ·simp only[←y];first|exact eN|refine eM ?_
        rw[G]
       ·first|exact eN|refine eM ?_
      ·have hF:F.take j=F:=As (by rw[q];exact iF.1 b);have E:List.drop j f=[]:=IF (iF.1 b);rw[hF,E,AAl];exact fI c [.cell 4 25,.tmp 5] (by rw[o];first|exact eR|refine lE ?_;exact As (by rw[q];exact If _))
end
def IQ {α:Type} (p:α→Bool):Nat→List α→Int
 | _,[]=>-1
 | k,a :: l=>if p a=true then (k:Int) else IQ p (k+1) l
theorem S6 {α:Type} (p:α→Bool):∀(k:Nat) (l:List α),decide (0≤IQ p k l)=l.any p
 | _,[]=>rfl
 | k,a :: l=>by
  unfold IQ;rw[List.any_cons];split
  ·rename_i h;rw[h,Bool.true_or];exact ABj (oF k)
  ·rename_i h;have h:p a=false:=by simpa using h
   rw[h,ACp];exact S6 p (k+1) l
theorem VI {α:Type} (p:α→Bool) (d:α) (l:List α) {k:Nat} (h:k<l.length):IQ p k (l.drop k)=if p (l.getD k d)=true then (k:Int) else IQ p (k+1) (l.drop (k+1)):=by
 rw[KH d h];rfl
theorem m8 (m:List (Int×Bool)) (a:Int×Int):BE Tryz.prog 57 [.p T87 a,.bp 1 [] 0] [(1,.box 95 false [.mp 3]),(3,.mapo T3 .bool m)] [1,3] (fun res d=>res=.p .bool ((Ay T3 .bool a.2 m).getD false)∧d=[(1,.box 95 false [.mp 3]),(3,.mapo T3 .bool m)]):=by
 refine KK [0,1,2,3] [] [] Tryz.func57 Tryz.ntmps57 AG ?_;intro w0 K O0 ρ0 b e f;simp only[Ak];repeat'(first|exact trivial|refine eS rfl ?_|refine AB ?_|refine rX b ?_ ?_|refine rC ?_ ?_<;>intro c<;>try(cases c;done))
 refine Ev.ent (σ':=⟨[(3,.p .bool ((Ay T3 .bool a.2 m).getD false))],[(1,.box 95 false [.mp 3]),(3,.mapo T3 .bool m)]⟩) ?_ (AC [(1,.nm 1),(3,.nm 3)] rfl rfl ?_ ?_)
 ·exact fM b [.tmp 3] (.p .bool ((Ay T3 .bool a.2 m).getD false)) eT ⟨rfl,rfl⟩
 ·first|exact eN|refine eM ?_
 ·first|exact eN|refine eM ?_
theorem sY (v:Int×Int) (a:Int×Int):BE Tryz.prog 50 [.p BD a,.bp 1 [] 0] [(1,.box 87 true [.p T3 v.1,.p T3 v.2])] [1] (fun res d=>res=.p .bool (a.1==v.1)∧d=[(1,.box 87 true [.p T3 v.1,.p T3 v.2])]):=by
 refine KK [0,1,2,3] [] [] Tryz.func50 Tryz.ntmps50 AG ?_;intro w0 K O0 ρ0 b e f;simp only[Ak];repeat'(first|exact trivial|refine eS rfl ?_|refine AB ?_|refine rX b ?_ ?_|refine rC ?_ ?_<;>intro c<;>try(cases c;done))
 refine Ev.ent (σ':=⟨[(3,.p .bool (a.1==v.1))],[(1,.box 87 true [.p T3 v.1,.p T3 v.2])]⟩) ?_ (AC [(1,.nm 1)] rfl rfl ?_ ?_)
 ·exact fM b [.tmp 3] (.p .bool (a.1==v.1)) eT ⟨rfl,rfl⟩
 ·first|exact eN|refine eM ?_
 ·first|exact eN|refine eM ?_
theorem m9 (m:List (Int×Bool)) (l:List (Int×Int)) (o:l.length≤140737488355328):BE Tryz.prog 81 [.p Xl l,.clo 57 [1]] [(1,.box 95 false [.mp 3]),(3,.mapo T3 .bool m)] [1,3] (fun res n=>res=.p T3 (IQ (fun a=>(Ay T3 .bool (Prod.snd a) m).getD false) 0 l)∧n=[(1,.box 95 false [.mp 3]),(3,.mapo T3 .bool m)]):=by
 refine KK [0,1,4,5,7,8,9,16] [] [] Tryz.func81 Tryz.ntmps81 AG ?_;intro w0 K O0 ρ0 d q r;simp only[Ak];repeat'(first|exact trivial|refine eS rfl ?_|refine AB ?_|refine rX d ?_ ?_|refine rC ?_ ?_<;>intro c<;>try(cases c;done))
 refine AH (ι:={k:Nat//k≤l.length∧IQ (fun a=>(Ay T3 .bool (Prod.snd a) m).getD false) k (l.drop k)=IQ (fun a=>(Ay T3 .bool (Prod.snd a) m).getD false) 0 l}) (fun k=>⟨[(0,.p Xl l),(1,.clo 57 [1]),(7,.p (.int .i64) (l.length:Int)),(8,.p (.int .i64) (k.1:Int))],[(1,.box 95 false [.mp 3]),(3,.mapo T3 .bool m)]⟩) (fun k=>l.length-k.1) ⟨0,IS _,rfl⟩ (AC [(1,.nm 1),(3,.nm 3)] rfl rfl ?_ ?_) (fun k=>?_)
 ·first|exact eN|refine eM ?_
 ·first|exact eN|refine eM ?_
 ·obtain⟨k,hk,hf⟩:=k;have j:k<l.length→∀b,(fun a=>(Ay T3 .bool (Prod.snd a) m).getD false) (l.getD k (0,0))=b→IQ (fun a=>(Ay T3 .bool (Prod.snd a) m).getD false) k (l.drop k)=if b=true then (k:Int) else IQ (fun a=>(Ay T3 .bool (Prod.snd a) m).getD false) (k+1) (l.drop (k+1)):=fun h b e=>by rw[←e];exact VI (fun a=>(Ay T3 .bool (Prod.snd a) m).getD false) (0,0) l h
  simp only;repeat'(first|exact trivial|refine eS rfl ?_|refine AB ?_|refine rX d ?_ ?_|refine rC ?_ ?_<;>intro c<;>try(cases c;done))
  ·have f:k<l.length:=OM.1 c;refine cP 5 d ?_ ?_
   ·exact c
   ·have key:=m8 m (l.getD k (0,0));refine rM d (key) [(1,.nm 1),(3,.nm 3)] [] ?_ ?_ ?_
    ·first|exact eN|refine eM ?_
    ·first|exact eN|refine eM ?_
    ·rintro _ _ ⟨rfl,rfl⟩;refine⟨[(1,.nm 1),(3,.nm 3)],.p .bool ((fun a=>(Ay T3 .bool (Prod.snd a) m).getD false) (l.getD k (0,0))),[(1,.box 95 false [.mp 3]),(3,.mapo T3 .bool m)],rfl,rfl,?_,?_,rfl,rfl,Ca ?_⟩
     ·first|exact eN|refine eM ?_
     ·first|exact eN|refine eM ?_
     ·generalize s:(fun a=>(Ay T3 .bool (Prod.snd a) m).getD false) (l.getD k (0,0))=i at *;have g:=j f i rfl;repeat'(first|exact trivial|refine eS rfl ?_|refine AB ?_|refine rX d ?_ ?_|refine rC ?_ ?_<;>intro c<;>try(cases c;done))
      ·have c:i=true:=c;rw[BY c,hf]at g;refine Ev.ent (σ':=⟨[(4,.p (.int .i64) (k:Int))],[(1,.box 95 false [.mp 3]),(3,.mapo T3 .bool m)]⟩) ?_ (AC [(1,.nm 1),(3,.nm 3)] rfl rfl ?_ ?_)
       ·exact fM d [.tmp 4] (.p T3 (k:Int)) eT ⟨by rw[g],rfl⟩
       ·first|exact eN|refine eM ?_
       ·first|exact eN|refine eM ?_
      ·omega
      ·have c:i=false:=c;rw[At (by rw[c];simp)]at g;refine⟨⟨k+1,f,g.symm.trans hf⟩,by simp only;omega,AC [(1,.nm 1),(3,.nm 3)] rfl rfl ?_ ?_⟩
       ·first|exact eN|refine eM ?_
       ·first|exact eN|refine eM ?_
  ·have f:l.drop k=[]:=IF (iF.1 c);rw[f]at hf;have hf:(-1:Int)=IQ (fun a=>(Ay T3 .bool (Prod.snd a) m).getD false) 0 l:=hf;refine Ev.ent (σ':=⟨[(4,.p (.int .i64) (-1))],[(1,.box 95 false [.mp 3]),(3,.mapo T3 .bool m)]⟩) ?_ (AC [(1,.nm 1),(3,.nm 3)] rfl rfl ?_ ?_)
   ·exact fM d [.tmp 4] (.p T3 (-1)) eT ⟨by rw[hf],rfl⟩
   ·first|exact eN|refine eM ?_
   ·first|exact eN|refine eM ?_
theorem sZ (m:List (Int×Bool)) (l:List (Int×Int)) (e:l.length≤140737488355328):BE Tryz.prog 56 [.p Xl l,.clo 57 [1]] [(1,.box 95 false [.mp 3]),(3,.mapo T3 .bool m)] [1,3] (fun res f=>res=.p .bool (l.any (fun a=>(Ay T3 .bool (Prod.snd a) m).getD false))∧f=[(1,.box 95 false [.mp 3]),(3,.mapo T3 .bool m)]):=by
 refine KK [0,1,4] [] [] Tryz.func56 Tryz.ntmps56 AG ?_;intro w0 K O0 ρ0 b g h;simp only[Ak];repeat'(first|exact trivial|refine eS rfl ?_|refine AB ?_|refine rX b ?_ ?_|refine rC ?_ ?_<;>intro c<;>try(cases c;done))
 refine cP 2 b ?_ ?_
 ·trivial
 ·have key:=m9 m l e;refine rM b (key) [(1,.nm 1),(3,.nm 3)] [] ?_ ?_ ?_
  ·first|exact eN|refine eM ?_
  ·first|exact eN|refine eM ?_
  ·rintro _ _ ⟨rfl,rfl⟩;refine⟨[(1,.nm 1),(3,.nm 3)],.p T3 (IQ (fun a=>(Ay T3 .bool (Prod.snd a) m).getD false) 0 l),[(1,.box 95 false [.mp 3]),(3,.mapo T3 .bool m)],rfl,rfl,?_,?_,rfl,rfl,?_⟩
   ·first|exact eN|refine eM ?_
   ·first|exact eN|refine eM ?_
   ·have ha:=S6 (fun a=>(Ay T3 .bool (Prod.snd a) m).getD false) 0 l;generalize IQ (fun a=>(Ay T3 .bool (Prod.snd a) m).getD false) 0 l=d at *;refine rL b ?_ ?_
    ·trivial
    ·repeat'(first|exact trivial|refine eS rfl ?_|refine AB ?_|refine rX b ?_ ?_|refine rC ?_ ?_<;>intro c<;>try(cases c;done))
     refine Ev.ent (σ':=⟨[(4,.p .bool (decide (0≤d)))],[(1,.box 95 false [.mp 3]),(3,.mapo T3 .bool m)]⟩) ?_ (AC [(1,.nm 1),(3,.nm 3)] rfl rfl ?_ ?_)
     ·exact fM b [.tmp 4] (.p .bool (decide (0≤d))) eT ⟨by rw[ha],rfl⟩
     ·first|exact eN|refine eM ?_
     ·first|exact eN|refine eM ?_
theorem nA (v:Int×Int) (l:List (Int×Int)) (n:l.length≤140737488355328):BE Tryz.prog 75 [.p IT l,.clo 50 [1]] [(1,.box 87 true [.p T3 v.1,.p T3 v.2])] [1] (fun res m=>res=.p T3 (IQ (fun a=>(Prod.fst a==v.1)) 0 l)∧m=[(1,.box 87 true [.p T3 v.1,.p T3 v.2])]):=by
 refine KK [0,1,4,5,7,8,9,16] [] [] Tryz.func75 Tryz.ntmps75 AG ?_;intro w0 K O0 ρ0 d o q;simp only[Ak];repeat'(first|exact trivial|refine eS rfl ?_|refine AB ?_|refine rX d ?_ ?_|refine rC ?_ ?_<;>intro c<;>try(cases c;done))
 refine AH (ι:={k:Nat//k≤l.length∧IQ (fun a=>(Prod.fst a==v.1)) k (l.drop k)=IQ (fun a=>(Prod.fst a==v.1)) 0 l}) (fun k=>⟨[(0,.p IT l),(1,.clo 50 [1]),(7,.p (.int .i64) (l.length:Int)),(8,.p (.int .i64) (k.1:Int))],[(1,.box 87 true [.p T3 v.1,.p T3 v.2])]⟩) (fun k=>l.length-k.1) ⟨0,IS _,rfl⟩ (AC [(1,.nm 1)] rfl rfl ?_ ?_) (fun k=>?_)
 ·first|exact eN|refine eM ?_
 ·first|exact eN|refine eM ?_
 ·obtain⟨k,hk,hf⟩:=k;have j:k<l.length→∀b,(fun a=>(Prod.fst a==v.1)) (l.getD k (0,0))=b→IQ (fun a=>(Prod.fst a==v.1)) k (l.drop k)=if b=true then (k:Int) else IQ (fun a=>(Prod.fst a==v.1)) (k+1) (l.drop (k+1)):=fun h b e=>by rw[←e];exact VI (fun a=>(Prod.fst a==v.1)) (0,0) l h
  simp only;repeat'(first|exact trivial|refine eS rfl ?_|refine AB ?_|refine rX d ?_ ?_|refine rC ?_ ?_<;>intro c<;>try(cases c;done))
  ·have f:k<l.length:=OM.1 c;refine cP 5 d ?_ ?_
   ·exact c
   ·have key:=sY v (l.getD k (0,0));refine rM d (key) [(1,.nm 1)] [] ?_ ?_ ?_
    ·first|exact eN|refine eM ?_
    ·first|exact eN|refine eM ?_
    ·rintro _ _ ⟨rfl,rfl⟩;refine⟨[(1,.nm 1)],.p .bool ((fun a=>(Prod.fst a==v.1)) (l.getD k (0,0))),[(1,.box 87 true [.p T3 v.1,.p T3 v.2])],rfl,rfl,?_,?_,rfl,rfl,Ca ?_⟩
     ·first|exact eN|refine eM ?_
     ·first|exact eN|refine eM ?_
     ·generalize r:(fun a=>(Prod.fst a==v.1)) (l.getD k (0,0))=i at *;have g:=j f i rfl;repeat'(first|exact trivial|refine eS rfl ?_|refine AB ?_|refine rX d ?_ ?_|refine rC ?_ ?_<;>intro c<;>try(cases c;done))
      ·have c:i=true:=c;rw[BY c,hf]at g;refine Ev.ent (σ':=⟨[(4,.p (.int .i64) (k:Int))],[(1,.box 87 true [.p T3 v.1,.p T3 v.2])]⟩) ?_ (AC [(1,.nm 1)] rfl rfl ?_ ?_)
       ·exact fM d [.tmp 4] (.p T3 (k:Int)) eT ⟨by rw[g],rfl⟩
       ·first|exact eN|refine eM ?_
       ·first|exact eN|refine eM ?_
      ·omega
      ·have c:i=false:=c;rw[At (by rw[c];simp)]at g;refine⟨⟨k+1,f,g.symm.trans hf⟩,by simp only;omega,AC [(1,.nm 1)] rfl rfl ?_ ?_⟩
       ·first|exact eN|refine eM ?_
       ·first|exact eN|refine eM ?_
  ·have f:l.drop k=[]:=IF (iF.1 c);rw[f]at hf;have hf:(-1:Int)=IQ (fun a=>(Prod.fst a==v.1)) 0 l:=hf;refine Ev.ent (σ':=⟨[(4,.p (.int .i64) (-1))],[(1,.box 87 true [.p T3 v.1,.p T3 v.2])]⟩) ?_ (AC [(1,.nm 1)] rfl rfl ?_ ?_)
   ·exact fM d [.tmp 4] (.p T3 (-1)) eT ⟨by rw[hf],rfl⟩
   ·first|exact eN|refine eM ?_
   ·first|exact eN|refine eM ?_
theorem s0 (v:Int×Int) (l:List (Int×Int)) (e:l.length≤140737488355328):BE Tryz.prog 49 [.p IT l,.clo 50 [1]] [(1,.box 87 true [.p T3 v.1,.p T3 v.2])] [1] (fun res f=>res=.p .bool (l.any (fun a=>(Prod.fst a==v.1)))∧f=[(1,.box 87 true [.p T3 v.1,.p T3 v.2])]):=by
 refine KK [0,1,4] [] [] Tryz.func49 Tryz.ntmps49 AG ?_;intro w0 K O0 ρ0 b g h;simp only[Ak];repeat'(first|exact trivial|refine eS rfl ?_|refine AB ?_|refine rX b ?_ ?_|refine rC ?_ ?_<;>intro c<;>try(cases c;done))
 refine cP 2 b ?_ ?_
 ·trivial
 ·have key:=nA v l e;refine rM b (key) [(1,.nm 1)] [] ?_ ?_ ?_
  ·first|exact eN|refine eM ?_
  ·first|exact eN|refine eM ?_
  ·rintro _ _ ⟨rfl,rfl⟩;refine⟨[(1,.nm 1)],.p T3 (IQ (fun a=>(Prod.fst a==v.1)) 0 l),[(1,.box 87 true [.p T3 v.1,.p T3 v.2])],rfl,rfl,?_,?_,rfl,rfl,?_⟩
   ·first|exact eN|refine eM ?_
   ·first|exact eN|refine eM ?_
   ·have ha:=S6 (fun a=>(Prod.fst a==v.1)) 0 l;generalize IQ (fun a=>(Prod.fst a==v.1)) 0 l=d at *;refine rL b ?_ ?_
    ·trivial
    ·repeat'(first|exact trivial|refine eS rfl ?_|refine AB ?_|refine rX b ?_ ?_|refine rC ?_ ?_<;>intro c<;>try(cases c;done))
     refine Ev.ent (σ':=⟨[(4,.p .bool (decide (0≤d)))],[(1,.box 87 true [.p T3 v.1,.p T3 v.2])]⟩) ?_ (AC [(1,.nm 1)] rfl rfl ?_ ?_)
     ·exact fM b [.tmp 4] (.p .bool (decide (0≤d))) eT ⟨by rw[ha],rfl⟩
     ·first|exact eN|refine eM ?_
     ·first|exact eN|refine eM ?_
abbrev JB:=List (List (Int×Int))
def zD (v:JB) (s:List Bool×Bool) (i:Nat):List Bool×Bool:=if (s.1.getD i false&&!((v.getD i []).any fun a=>s.1.getD a.2.toNat false))=true then (s.1.set i false,true) else s
def rB (v:JB) (l:List Bool) (i:Nat):List Bool×Bool:=(List.range i).foldl (zD v) (l,false)
def S7 (v:JB):Nat→List Bool→List Bool
 | 0,l=>l
 | k+1,l=>if (rB v l v.length).2=true then S7 v k (rB v l v.length).1 else (rB v l v.length).1
def jK (v:JB):Bool:=(S7 v (v.length+1) (List.replicate v.length true)).all (!·)
def OD (l:List Bool):Nat:=l.countP id
theorem Ys:∀ {l:List Bool} {i:Nat},l.getD i false=true→OD (l.set i false)+1=OD l
 | [],i,h=>by simp at h
 | x :: l,0,h=>by
  have h:x=true:=by simpa using h
  subst h;simp[OD]
 | x :: l,i+1,h=>by
  have:=Ys (l:=l) (i:=i) (by simpa using h);unfold OD at this ⊢;rw[ABL,AAV,AAV];omega
theorem s5 (n:Nat):OD (List.replicate n true)=n:=by unfold OD;rw[List.countP_eq_length.2 (fun a ha=>by rw[List.eq_of_mem_replicate ha];rfl),List.length_replicate]
theorem jL (v:JB) (l:List Bool) (i:Nat):rB v l (i+1)=zD v (rB v l i) i:=by
 unfold rB;rw[AAb,ABq];rfl
theorem s6 (v:JB) (l:List Bool):∀i,(rB v l i).1.length=l.length∧((rB v l i).2=true→OD (rB v l i).1<OD l)∧((rB v l i).2=false→(rB v l i).1=l)∧OD (rB v l i).1≤OD l
 | 0=>⟨rfl,fun h=>(by cases h),fun _=>rfl,If _⟩
 | i+1=>by
  obtain⟨h1,b,c,d⟩:=s6 v l i;rw[jL];generalize rB v l i=s at *;unfold zD;split
  ·rename_i h;rw[An]at h;have f:=Ys h.1;have a:OD (s.1.set i false)<OD l:=by omega
   exact⟨by simpa using h1,fun _=>a,fun e=>(by cases e),ACy a⟩
  ·exact⟨h1,b,c,d⟩
structure MI (m:List (Int×Bool)) (l:List Bool):Prop where
 nd:(m.map (·.1)).Nodup
 get:∀k:Int,Ay T3 .bool k m=if 0≤k∧l.getD k.toNat false=true then some true else none
theorem jM (k:Int) (v:Bool):∀ {m:List (Int×Bool)},(m.map (·.1)).Nodup→((Gi T3 .bool k v m).map (·.1)).Nodup∧∀x,x∈(Gi T3 .bool k v m).map (·.1)→x=k∨x∈m.map (·.1)
 | [],_=>by simp[Gi]
 | y :: m,h=>by
  rw[tO,AAc]at h;unfold Gi;split
  ·rename_i e;have e:k=y.1:=by simpa[IR] using e
   refine⟨?_,fun x a=>?_⟩
   ·rw[tO,AAc,e];exact h
   ·rcases Do.1 a with a|a
    ·exact .inl a
    ·exact .inr (bY _ a)
  ·rename_i e;have e:¬k=y.1:=by simpa[IR] using e
   obtain⟨c,b⟩:=jM k v h.2;refine⟨?_,fun x a=>?_⟩
   ·rw[tO,AAc];refine⟨fun d=>?_,c⟩;rcases b _ d with a|a
    ·exact e a.symm
    ·exact h.1 a
   ·rcases Do.1 a with a|a
    ·exact .inr (by rw[a];simp)
    ·exact(b x a).imp id fun g=>bY _ g
theorem Yt (k:Int):∀m:List (Int×Bool),(Lq T3 .bool k m).Sublist m
 | []=>List.Sublist.refl _
 | y :: m=>by
  unfold Lq;split
  ·exact List.sublist_cons_self _ _
  ·exact(Yt k m).cons_cons _
theorem VJ {x:Int}:∀ {m:List (Int×Bool)},x∉m.map (·.1)→Ay T3 .bool x m=none
 | [],_=>rfl
 | y :: m,h=>by
  unfold Ay;rw[At (by
   intro e;have e:x=y.1:=by simpa[IR] using e
   exact h (by rw[e];simp))]
  exact VJ fun a=>h (bY _ a)
theorem VK (x k:Int):∀ {m:List (Int×Bool)},(m.map (·.1)).Nodup→Ay T3 .bool x (Lq T3 .bool k m)=if x=k then none else Ay T3 .bool x m
 | [],_=>by simp[Lq,Ay]
 | y :: m,h=>by
  rw[tO,AAc]at h;unfold Lq;split
  ·rename_i e;have e:k=y.1:=by simpa[IR] using e
   by_cases a:x=k
   ·rw[BY a,a,e];exact VJ h.1
   ·rw[At a];have c:¬x=y.1:=by rw[←e];exact a
    simp[Ay,IR,c]
  ·rename_i e;have e:¬k=y.1:=by simpa[IR] using e
   have f:=VK x k h.2;by_cases b:x=y.1
   ·have d:¬x=k:=by rw[b];exact fun g=>e g.symm
    rw[At d];simp[Ay,IR,b]
   ·have hn:¬IR T3 x y.1=true:=by simpa[IR] using b
    simp only[Ay];rw[At hn,At hn,f]
theorem MI.zero:MI [] (List.replicate 0 true):=⟨List.nodup_nil,fun k=>by simp[Ay]⟩
theorem MI.put {m:List (Int×Bool)} {i:Nat} (h:MI m (List.replicate i true)):MI (Gi T3 .bool (i:Int) true m) (List.replicate (i+1) true):=by
 refine⟨(jM _ _ h.nd).1,fun(k:Int)=>?_⟩;rw[Sx,h.get];by_cases hk:k=(i:Int)
 ·rw[BY hk,BY];subst hk;refine⟨oF _,?_⟩;simp[AS,AAT]
 ·rw[At hk];have e:(0≤k∧(List.replicate i true).getD k.toNat false=true)↔(0≤k∧(List.replicate (i+1) true).getD k.toNat false=true):=by
   simp only[AS,AAT];constructor
   ·rintro⟨a,b⟩;refine⟨a,?_⟩;split at b
    ·rw[BY (by omega)];rfl
    ·simp at b
   ·rintro⟨a,b⟩;refine⟨a,?_⟩;split at b
    ·rw[BY (by omega)];rfl
    ·simp at b
  by_cases c:0≤k∧(List.replicate i true).getD k.toNat false=true
  ·rw[BY c,BY (e.1 c)]
  ·rw[At c,At fun g=>c (e.2 g)]
theorem MI.del {m:List (Int×Bool)} {l:List Bool} (h:MI m l) (i:Nat):MI (Lq T3 .bool (i:Int) m) (l.set i false):=by
 refine⟨h.nd.sublist ((Yt _ m).map _),fun(k:Int)=>?_⟩;rw[VK _ _ h.nd,h.get];by_cases hk:k=(i:Int)
 ·subst hk;rw[BY rfl,At];rintro⟨-,b⟩;rw[AA4]at b;simp only[AS,AAp]at b;rw[BY trivial]at b;split at b<;>simp at b
 ·rw[At hk];by_cases a:0≤k
  ·have c:¬i=k.toNat:=by omega
   simp only[AS,AAp];rw[At c]
  ·rw[At fun g=>a g.1,At fun g=>a g.1]
theorem bQ (y:Int×Bool) (m:List (Int×Bool)):Ay T3 .bool y.1 (y :: m)=some y.2:=by
 unfold Ay;rw[BY (by simp[IR])]
theorem MI.len0 {m:List (Int×Bool)} {l:List Bool} (h:MI m l):m.length=0↔l.all (!·)=true:=by
 constructor
 ·intro e;have e:m=[]:=aT e;subst e;refine DO.2 fun b a=>?_;obtain⟨i,hi,rfl⟩:=AAa.1 a;have:=h.get (i:Int);cases a:l[i] with
  | false=>rfl
  | true =>
   rw[BY ⟨oF _,by rw[AA4,AS,AT hi,a];rfl⟩]at this;cases this
 ·intro e;cases m with
  | nil=>rfl
  | cons y m =>
   have:=h.get y.1;rw[bQ]at this;split at this
   ·rename_i f;have d:y.1.toNat<l.length:=by
     refine By fun hn=>?_;have:=f.2;rw[AS,iS (by omega)]at this;cases this
    have c:=f.2;rw[AS,AT d]at c;have:=DO.1 e _ (AAf d);rw[show l[y.1.toNat]=true from c]at this;cases this
   ·cases this
theorem Lk {x:Int}:∀ {m:List (Int×Bool)},x∈m.map (·.1)→Ay T3 .bool x m≠none
 | y :: m,h=>by
  unfold Ay;split
  ·simp
  ·rename_i e;rcases Do.1 h with h|h
   ·exact absurd (by simp[IR,h]) e
   ·exact Lk h
theorem MI.len {m:List (Int×Bool)} {l:List Bool} (h:MI m l):m.length≤l.length:=by
 have h1:((m.map (·.1)).map Int.toNat).Nodup:=by
  rw[List.Nodup,ABo];refine h.nd.imp_of_mem fun {a b:Int} ha d i e=>i ?_;have h1:=Lk ha;have c:=Lk d;rw[h.get]at h1 c;have a0:0≤a:=By fun g=>h1 (At fun q=>g q.1);have n:0≤b:=By fun g=>c (At fun q=>g q.1);omega
 have:=Dm l.length _ h1 (fun j f=>by
  obtain⟨x,k,rfl⟩:=Of.1 f;have h1:=Lk k;rw[h.get]at h1;refine By fun hn=>h1 (At fun g=>?_);have:=g.2;rw[AS,iS (by omega)]at this;cases this)
 simpa using this
theorem MI.look {m:List (Int×Bool)} {l:List Bool} (h:MI m l) {k:Int} (a:0≤k):(Ay T3 .bool k m).getD false=l.getD k.toNat false:=by
 rw[h.get];cases b:l.getD k.toNat false with
 | true=>rw[BY ⟨a,rfl⟩];rfl
 | false=>rw[At fun g=>by cases g.2];rfl
section
def VOk (v:JB):Prop:=∀r∈v,∀a∈r,0≤a.2∧a.2<(v.length:Int)
theorem s7 {m:List (Int×Bool)} {l:List Bool} (h:MI m l) {r:List (Int×Int)} (c:∀a∈r,0≤a.2):(r.any fun a=>(Ay T3 .bool (Prod.snd a) m).getD false)=r.any fun a=>l.getD a.2.toNat false:=by
 induction r with
 | nil=>rfl
 | cons a r e =>
  rw[List.any_cons,List.any_cons,e (fun b d=>c b (bY _ d)),h.look (c a (by simp))]
def jN:Ad:={ ins:=[z1],pre:=fun(v,_)=>VOk v,out:=fun(v,_)=>[.p .bool (jK v)],lend:=true }
attribute [local go_sem] jN
theorem zE:Aj Tryz.prog 24 jN:=by
 refine fK [0,2,3,4,5,6,9,10,11,16,18,19,20,33] Tryz.func24 Tryz.ntmps24 AG ?_;rintro w0 O0 ⟨v,u⟩ c ⟨⟨S,Q⟩,-⟩ w;have w:VOk v:=w;simp only[AO]at S;have R:∀r∈(v:JB),List.length r≤140737488355328:=fun r t=>(Q r t).1;simp only[jN,AL];repeat'(first|exact trivial|refine eS rfl ?_|refine AB ?_|refine rX c ?_ ?_|refine rC ?_ ?_<;>intro d<;>try(cases d;done))
 refine AH (ι:={x:Nat×List (Int×Bool)//x.1≤List.length v∧MI x.2 (List.replicate x.1 true)}) (fun x=>⟨[(0,.p z1 v),(3,.bp 3 [] 0),(9,.p (.int .i64) (List.length v:Int)),(10,.p (.int .i64) (x.1.1:Int))],[(3,.box 95 false [.mp 7]),(7,.mapo T3 .bool x.1.2)]⟩) (fun x=>List.length v-x.1.1) ⟨(0,[]),IS _,MI.zero⟩ (AC [(3,.nm 3),(7,.nm 7)] rfl rfl ?_ ?_) (fun x=>?_)
 ·first|exact eN|refine eM ?_
 ·first|exact eN|refine eM ?_
 ·obtain⟨⟨i,m⟩,hi,s⟩:=x;simp only at hi s ⊢;repeat'(first|exact trivial|refine eS rfl ?_|refine AB ?_|refine rX c ?_ ?_|refine rC ?_ ?_<;>intro d<;>try(cases d;done))
  ·omega
  ·have g:i<List.length v:=by exact eV
   refine⟨⟨(i+1,Gi T3 .bool (i:Int) true m),g,s.put⟩,by simp only;omega,AC [(3,.nm 3),(7,.nm 7)] rfl rfl ?_ ?_⟩
   ·first|exact eN|refine eM ?_
   ·first|exact eN|refine eM ?_
  ·have g:i=List.length v:=by exact eV
   subst g;refine AH (ι:={x:Bool×List (Int×Bool)×List Bool//x.2.2.length=List.length v∧MI x.2.1 x.2.2∧(x.1=true→∃k,OD x.2.2+1≤k∧S7 v k x.2.2=S7 v (List.length v+1) (List.replicate (List.length v) true))∧(x.1=false→x.2.2=S7 v (List.length v+1) (List.replicate (List.length v) true))}) (fun x=>⟨[(0,.p z1 v),(3,.bp 3 [] 0),(5,.p .bool x.1.1)],[(3,.box 95 false [.mp 7]),(7,.mapo T3 .bool x.1.2.1)]⟩) (fun x=>2*OD x.1.2.2+(if x.1.1=true then 1 else 0)) ⟨(true,m,List.replicate (List.length v) true),by simp,s,fun _=>⟨_,by simp only[s5];exact If _,rfl⟩,fun e=>by cases e⟩ (AC [(3,.nm 3),(7,.nm 7)] rfl rfl ?_ ?_) (fun x=>?_)
   ·first|exact eN|refine eM ?_
   ·first|exact eN|refine eM ?_
   ·obtain⟨⟨b,I,l⟩,q,n,B,C⟩:=x;simp only at q n B C ⊢;repeat'(first|exact trivial|refine eS rfl ?_|refine AB ?_|refine rX c ?_ ?_|refine rC ?_ ?_<;>intro d<;>try(cases d;done))
    ·have D:b=true:=d;obtain⟨k,hk,o⟩:=B D;obtain⟨k,rfl⟩:∃U,k=U+1:=⟨k-1,by omega⟩;refine AH (ι:={x:Nat×List (Int×Bool)//x.1≤List.length v∧MI x.2 (rB v l x.1).1}) (fun x=>⟨[(0,.p z1 v),(3,.bp 3 [] 0),(5,.p .bool (rB v l x.1.1).2),(18,.p (.int .i64) (List.length v:Int)),(19,.p (.int .i64) (x.1.1:Int))],[(3,.box 95 false [.mp 7]),(7,.mapo T3 .bool x.1.2)]⟩) (fun x=>List.length v-x.1.1) ⟨(0,I),IS _,n⟩ (AC [(3,.nm 3),(7,.nm 7)] rfl rfl ?_ ?_) (fun x=>?_)
     ·first|exact eN|refine eM ?_
     ·first|exact eN|refine eM ?_
      rfl
     ·obtain⟨⟨i,h⟩,hi,j⟩:=x;simp only at hi j ⊢;have f:=jL v l i;have M:=s6 v l i;repeat'(first|exact trivial|refine eS rfl ?_|refine AB ?_|refine rX c ?_ ?_|refine rC ?_ ?_<;>intro d<;>try(cases d;done))
      ·have g:i<List.length v:=by exact eV
       have E:=j.look (k:=(i:Int)) (oF _);rw[AA4]at E;have F:List.getD v i []∈(v:JB):=AE (v:JB) [] g;have K:=s7 j (r:=List.getD v i []) fun a ha=>(w _ F a ha).1;have G:zD v (rB v l i) i=if ((rB v l i).1.getD i false&&!((List.getD v i []).any fun a=>(rB v l i).1.getD a.2.toNat false))=true then ((rB v l i).1.set i false,true) else rB v l i:=rfl
       rw[←K,←E]at G;rw[G]at f;have L:=j.del i;refine evP c 4 ?_ ?_
       ·trivial
       ·cases A:(Ay T3 .bool (i:Int) h).getD false with
        | false =>
         rw[A,Bool.false_and,At (by simp)]at f;refine rL c ?_ ?_
         ·trivial
         ·repeat'(first|exact trivial|refine eS rfl ?_|refine AB ?_|refine rX c ?_ ?_|refine rC ?_ ?_<;>intro d<;>try(cases d;done))
          ·omega
          ·refine⟨⟨(i+1,h),g,by rw[f];exact j⟩,by simp only;omega,AC [(3,.nm 3),(7,.nm 7)] rfl rfl ?_ ?_⟩
           ·first|exact eN|refine eM ?_
           ·simp only[f];first|exact eN|refine eM ?_
        | true =>
         rw[A,ABP]at f;refine rN 5 c ?_ ?_
         ·exact d
         ·have key:=sZ h (List.getD v i []) (R _ F);generalize List.any (List.getD v i []) (fun a=>(Ay T3 .bool (Prod.snd a) h).getD false)=y at *;refine clG c (key) [(1,.nm 3),(3,.nm 7)] [] ?_ ?_ ?_
          ·first|exact eN|refine eM ?_
          ·first|exact eN|refine eM ?_
          ·rintro _ _ ⟨rfl,rfl⟩;refine⟨[(3,.nm 1),(7,.nm 3)],.p .bool y,[(3,.box 95 false [.mp 7]),(7,.mapo T3 .bool h)],rfl,rfl,?_,?_,rfl,rfl,?_⟩
           ·first|exact eN|refine eM ?_
           ·first|exact eN|refine eM ?_
           ·refine rL c ?_ ?_
            ·trivial
            ·cases z:y with
             | true =>
              subst z;rw[AC3,At (by simp)]at f;repeat'(first|exact trivial|refine eS rfl ?_|refine AB ?_|refine rX c ?_ ?_|refine rC ?_ ?_<;>intro d<;>try(cases d;done))
              ·omega
              ·refine⟨⟨(i+1,h),g,by rw[f];exact j⟩,by simp only;omega,AC [(3,.nm 3),(7,.nm 7)] rfl rfl ?_ ?_⟩
               ·first|exact eN|refine eM ?_
               ·simp only[f];first|exact eN|refine eM ?_
             | false =>
              subst z;rw[ACk,BY rfl]at f;repeat'(first|exact trivial|refine eS rfl ?_|refine AB ?_|refine rX c ?_ ?_|refine rC ?_ ?_<;>intro d<;>try(cases d;done))
              refine cP 2 c ?_ ?_
              ·trivial
              ·refine A3M c Tryz.underlying95 Tryz.underlying3 ?_;refine rL c ?_ ?_
               ·trivial
               ·repeat'(first|exact trivial|refine eS rfl ?_|refine AB ?_|refine rX c ?_ ?_|refine rC ?_ ?_<;>intro d<;>try(cases d;done))
                ·omega
                ·refine⟨⟨(i+1,Lq T3 .bool (i:Int) h),g,by rw[f];exact L⟩,by simp only;omega,AC [(3,.nm 3),(7,.nm 7)] rfl rfl ?_ ?_⟩
                 ·first|exact eN|refine eM ?_
                 ·simp only[f];first|exact eN|refine eM ?_
      ·have g:i=List.length v:=by exact eV
       subst g;obtain⟨T,H,V,W⟩:=M;have J:S7 v (k+1) l=if (rB v l (List.length v)).2=true then S7 v k (rB v l (List.length v)).1 else (rB v l (List.length v)).1:=rfl
       rw[J]at o;refine⟨⟨((rB v l (List.length v)).2,h,(rB v l (List.length v)).1),T.trans q,j,fun e=>⟨k,?_,?_⟩,fun e=>?_⟩,?_,AC [(3,.nm 3),(7,.nm 7)] rfl rfl ?_ ?_⟩
       ·have:=H e;simp only;omega
       ·rw[←o,BY e]
       ·rw[←o,At (by rw[show (rB v l (List.length v)).2=false from e];simp)]
       ·simp only;rw[BY D];split
        ·rename_i e;have:=H e;omega
        ·omega
       ·first|exact eN|refine eM ?_
       ·first|exact eN|refine eM ?_
    ·have N:=C d;have O:=n.len0;have P:=n.len;rw[q]at P;have t:((I.length:Int)==0)=jK v:=by
      unfold jK;rw[←N,ABt,AA0,←O];omega
     refine cP 1 c ?_ ?_
     ·trivial
     ·refine A3N c Tryz.underlying95 ?_ ?_
      ·simp only[AO];omega
      ·refine rL c ?_ ?_
       ·trivial
       ·repeat'(first|exact trivial|refine eS rfl ?_|refine AB ?_|refine rX c ?_ ?_|refine rC ?_ ?_<;>intro d<;>try(cases d;done))
        exact fI c [.tmp 2] (by rw[←t];exact eR)
end
def Wg:Ad:={ ins:=[IT],pre:=fun(l,_)=>List.length l≤100000,out:=fun(l,_)=>[.own 53 BD l] }
theorem nB:Aj Tryz.prog 48 Wg:=by
 refine fK [0,2,4] Tryz.func48 Tryz.ntmps48 AG ?_;rintro w0 O0 ⟨l,u⟩ a-d;have d:List.length l≤100000:=d;simp only[Wg,AL];repeat'(first|exact trivial|refine eS rfl ?_|refine AB ?_|refine rX a ?_ ?_|refine rC ?_ ?_<;>intro c<;>try(cases c;done))
 refine cP 1 a ?_ ?_
 ·trivial
 ·refine UT a false rfl rfl ?_;intro b e;refine rL a ?_ ?_
  ·trivial
  ·repeat'(first|exact trivial|refine eS rfl ?_|refine AB ?_|refine rX a ?_ ?_|refine rC ?_ ?_<;>intro c<;>try(cases c;done))
   ·have f:l=[]:=e c;subst f;refine Ev.ent (σ':=⟨[(2,.sr 5 BD 0 0)],[(5,.arr 53 BD [])]⟩) ?_ (AC [(5,.nil)] rfl rfl ?_ ?_)
    ·exact Gu a (.inl rfl) (rv:=.tmp 2) rfl (by simp only[Hr,Gr,F0,go_sem,Nat.reduceEqDiff,reduceCtorEq,Nat.reduceAdd,Nat.reduceSub,Nat.reduceMul,Nat.reduceLeDiff,Nat.reduceLT,Int.reduceLE,Int.reduceToNat,Int.reduceNeg,↓reduceIte])
    ·first|exact eN|refine eM ?_
    ·first|exact eN|refine eM ?_
   ·simp only[AO];omega
   ·exact Gu a (.inl rfl) (rv:=.tmp 2) rfl (by simp only[Hr,Gr,F0,go_sem,Nat.reduceEqDiff,reduceCtorEq,Nat.reduceAdd,Nat.reduceSub,Nat.reduceMul,Nat.reduceLeDiff,Nat.reduceLT,Int.reduceLE,Int.reduceToNat,Int.reduceNeg,↓reduceIte])
def HX (h:AN):JB:=h.1.map fun t=>t.2.2.2
def S8 (N:List AK) (i:Nat) (v:Int×Int):List AK:=N.set i ((N.getD i (0,[])).1,(N.getD i (0,[])).2++[(v.1,(N.length:Int))])++[(v.2,[])]
def Tm (i:Nat):List (Int×Int)→List AK→Option (List AK)
 | [],N=>some N
 | v :: r,N=>if ((N.getD i (0,[])).2.any fun a=>a.1==v.1)=true then Tm i r N else if 4096≤N.length then none else Tm i r (S8 N i v)
def Yu (h:AN):Nat→Nat→List AK→Option (List AK)
 | 0,_,_=>none
 | k+1,i,N=>if i<N.length then (Tm i (X1 h (N.getD i (0,[])).1) N).bind (Yu h k (i+1)) else some N
def HY (h:AN) (f:List AK):List AK×Int :=
 if (Bx h f).2=false then ([],12) else if jK (HX h)=false then ([],6)
 else match Yu h ((Bx h f).1.length+4097) 0 (Bx h f).1 with
  | none=>([],7)
  | some N=>A0 N
theorem Yv (N:List AK) (i:Nat) (v:Int×Int):(S8 N i v).length=N.length+1:=by simp[S8]
structure nW (h:AN) (m i k:Nat) (N:List AK):Prop where
 len:N.length≤m
 ty:∀x∈N,0≤x.1∧x.1<(h.1.length:Int)
 lo:∀j,j<i→(N.getD j (0,[])).2.length≤200
 at':(N.getD i (0,[])).2.length≤100+k
 hi:∀j,i<j→(N.getD j (0,[])).2.length≤100
theorem s8 {α:Type} (l:List α) (x d:α) (j:Nat):(l++[x]).getD j d=if j<l.length then l.getD j d else if j=l.length then x else d:=by
 simp only[AS];by_cases h:j<l.length
 ·rw[BY h,AA2 h]
 ·rw[At h,AA5 (by omega)];by_cases e:j=l.length
  ·rw[BY e,e,AB6];rfl
  ·rw[At e,iS (by simp only[oS];omega)];rfl
theorem Fh {α:Type} (l:List α) (x d:α) {i:Nat} (h:i<l.length) (j:Nat):(l.set i x).getD j d=if j=i then x else l.getD j d:=by
 simp only[AS,AAp];by_cases e:i=j
 ·rw[BY e,BY h,BY e.symm];rfl
 ·rw[At e,At (show ¬j=i by omega)]
theorem s9 {N:List AK} {i:Nat} (h:i<N.length) (v:Int×Int) (j:Nat):(S8 N i v).getD j (0,[])=if j=i then ((N.getD i (0,[])).1,(N.getD i (0,[])).2++[(v.1,(N.length:Int))]) else if j=N.length then (v.2,[]) else N.getD j (0,[]):=by
 unfold S8;rw[s8,Fh _ _ _ h,AAw];by_cases a:j=i
 ·rw[BY a,BY (by omega),BY a]
 ·rw[At a,At a];by_cases c:j<N.length
  ·rw[BY c,At (by omega)]
  ·rw[At c];by_cases b:j=N.length
   ·rw[BY b,BY b]
   ·rw[At b,At b,AS,iS (by omega)];rfl
theorem nW.add {h:AN} {m i k:Nat} {N:List AK} (b:nW h m i k N) (hi:i<N.length) (f:4096≤m) (e:N.length<4096) {v:Int×Int} (v0:0≤v.2) (v1:v.2<(h.1.length:Int)):nW h m i (k+1) (S8 N i v):=by
 have c:=fun j=>s9 hi v j;refine⟨by rw[Yv];omega,fun x a=>?_,fun j d=>?_,?_,fun j d=>?_⟩
 ·unfold S8 at a;rcases ON.1 a with a|a
  ·rcases AAX a with a|rfl
   ·exact b.ty x a
   ·exact(b.ty (N.getD i (0,[])) (AE N (0,[]) hi) :)
  ·rw[AAs.1 a];exact⟨v0,v1⟩
 ·rw[c,At (by omega),At (by omega)];exact b.lo j d
 ·rw[c,BY rfl];have:=b.at';simp only[On,oS];omega
 ·rw[c,At (by omega)];split
  ·simp
  ·exact b.hi j d
theorem nW.skip {h:AN} {m i k:Nat} {N:List AK} (a:nW h m i k N):nW h m i (k+1) N:=⟨a.len,a.ty,a.lo,by have:=a.at';omega,a.hi⟩
theorem nW.next {h:AN} {m i k:Nat} {N:List AK} (a:nW h m i k N) (hk:k≤100):nW h m (i+1) 0 N:=⟨a.len,a.ty,fun j b=>by
 by_cases e:j=i
 ·have:=a.at';rw[e];omega
 ·exact a.lo j (by omega),a.hi (i+1) (by omega),fun j b=>a.hi j (by omega)⟩
structure tA (h:AN) (f:List AK):Prop where
 inf:m6 h f
 fw:∀t∈h.1,t.2.2.2.length≤100
 vok:VOk (HX h)
 rw':∀x∈f,x.2.length≤100
theorem A00 {h:AN} (hk:I5 h) (hi:GY h) (hf:Tk h) {f:List AK} (ha:LD h f):∀ {k i:Nat} {s:Di} {ty:List Int},Li h f.length s→jH h f k i s=some ty→ty.length=f.length∧∀t∈ty,0≤t∧t<(h.1.length:Int)
 | 0,_,_,_,_,e=>by cases e
 | k+1,i,s,ty,hs,e=>by
  unfold jH at e;split at e
  ·rename_i b;obtain⟨n0,n1⟩:=hs.wt _ (AE s.2 (0:Int) b);cases a:I9 h f (s.2.getD i 0) s with
   | none=>rw[a]at e;cases e
   | some s1 =>
    rw[a]at e;exact A00 hk hi hf ha (OC hk hi hf ha n0 n1 hs a).1 e
  ·injection e with e
   subst e;exact⟨hs.len,hs.ty⟩
theorem Yw {h:AN} {f:List AK} (hp:m6 h f):∀x∈(Bx h f).1,(0≤x.1∧x.1<(h.1.length:Int))∧∃y∈f,x.2=y.2:=by
 unfold Bx;cases e:LF h f with
 | none=>intro x a;cases a
 | some ty =>
  obtain⟨h1,b⟩:=A00 hp.ok hp.inj hp.ft hp.arcs (VG hp.ty) e;intro x a;obtain⟨i,hi,rfl⟩:=Of.1 a;have hi:=oN.1 hi;exact⟨b _ (AE ty (0:Int) (by omega)),_,AE f (0,[]) hi,rfl⟩
theorem nC (h:AN) (f:List AK):(Bx h f).1.length≤f.length:=by
 unfold Bx;split
 ·rw[Gg];exact If _
 ·simp
theorem tB {h:AN} {f:List AK} (hp:tA h f):nW h (max 4096 (Bx h f).1.length) 0 0 (Bx h f).1:=by
 have b:∀j,((Bx h f).1.getD j (0,[])).2.length≤100:=fun j=>by
  by_cases a:j<(Bx h f).1.length
  ·obtain⟨-,y,d,e⟩:=Yw hp.inf _ (AE (Bx h f).1 (0,[]) a);rw[e];exact hp.rw' y d
  ·rw[AS,iS (by omega)];simp
 exact⟨Nat.le_max_right _ _,fun x c=>(Yw hp.inf x c).1,fun j a=>by omega,b 0,fun j _=>b j⟩
section
attribute [local go_sem] S4 jN Wg OA
attribute [local go_sem] R6 Zn ne_eq not_false_eq_true
def Wh:Ad:={ ins:=[Ls,Fs],pre:=fun(h,f,_)=>tA h f,out:=fun(h,f,_)=>[.p Fs (HY h f).1,.p TU (HY h f).2] }
attribute [local go_sem] Wh
theorem tC:Aj Tryz.prog 21 Wh:=by
 refine fKP [0,1,2,3,4,5,6,7,8,10,11,13,14,16,24,27,28,29,30,41,44,45,46,47,63,75,76,77,78,87,90] [] [(57,53),(112,53)] Tryz.func21 Tryz.ntmps21 (AD S5 (AD zE (AD nB (AD VC AG)))) ?_;rintro w0 O0 ⟨⟨b,hf⟩,f,u⟩ d-hp;have hp:tA (b,hf) f:=hp;have ak:b.length≤256:=hp.inf.ok.2;simp only[Wh,AL];repeat'(first|exact trivial|refine eS rfl ?_|refine AB ?_|refine rX d ?_ ?_|refine rC ?_ ?_<;>intro c<;>try(cases c;done))
 ·exact hp.inf
 ·have g:HY (b,hf) f=([],12):=BY c;exact fI d [.cell 4 25,.tmp 5] (by rw[g];exact eR)
 ·have Q:¬(Bx (b,hf) f).2=false:=by rw[c];simp
  have F:(HX (b,hf)).length=b.length:=by simp[HX]
  refine AH (ι:={i:Nat//i≤b.length}) (fun i=>⟨[(2,.bp 2 [] 0),(4,.bp 4 [] 0),(6,.bp 6 [] 0),(8,.sr 37 Xl 0 i.1),(27,.p Qy b),(28,.p (.int .i64) (b.length:Int)),(29,.p (.int .i64) (i.1:Int))],[(6,.box 25 true [.p Fq (Bx (b,hf) f).1]),(4,.box 25 true [.raw (.slice none 0 0)]),(2,.box 31 true [.p Qy b,.p TV hf]),(37,.arr 82 Xl ((HX (b,hf)).take i.1))]⟩) (fun i=>b.length-i.1) ⟨0,IS _⟩ (AC [(6,.nm 6),(4,.nm 4),(2,.nm 2),(37,.nil)] rfl rfl ?_ ?_) (fun i=>?_)
  ·first|exact eN|refine eM ?_
  ·first|exact eN|refine eM ?_
  ·obtain⟨i,hi⟩:=i;have ab:i<b.length→(HX (b,hf)).take i++[(List.getD b i (ByteArray.empty,[],[],[])).2.2.2]=(HX (b,hf)).take (i+1):=fun h=>by
    rw[Ae (HX (b,hf)) [] (by rw[F];exact h)];simp[HX,AS,h]
   have al:((HX (b,hf)).take i).length=i:=by rw[OR,F];omega
   have R:((HX (b,hf)).take i).take i=(HX (b,hf)).take i:=by rw[ABv,ACx]
   simp only;have E:i=b.length→List.take i (List.take i (HX (b,hf)))=HX (b,hf):=fun e=>by
    rw[R];exact As (by rw[F];omega)
   repeat'(first|exact trivial|refine eS rfl ?_|refine AB ?_|refine rX d ?_ ?_|refine rC ?_ ?_<;>intro c<;>try(cases c;done))
   ·exact c
   ·simp only[AO];omega
   ·omega
   ·have K:i<b.length:=OM.1 c;have aa:=ab K;refine⟨⟨i+1,K⟩,by simp only;omega,AC [(6,.nm 6),(4,.nm 4),(2,.nm 2),(37,.nm 37)] rfl rfl ?_ ?_⟩
    ·simp only[←aa];first|exact eN|refine eM ?_
     rw[R]
    ·first|exact eN|refine eM ?_
   ·rw[E (by exact eV)];exact hp.vok
   ·have m:=E (by exact eV);rw[m]at c;have g:HY (b,hf) f=([],6):=by
     unfold HY;rw[At Q,BY c]
    exact fI d [.cell 4 25,.tmp 5] (by rw[g];exact eR)
   ·have m:=E (by exact eV);rw[m]at c;have D:=tB hp;have an:=nC (b,hf) f;have aj:=hp.inf.good.1;have g:HY (b,hf) f=match Yu (b,hf) ((Bx (b,hf) f).1.length+4097) 0 (Bx (b,hf) f).1 with
      | none=>([],7)
      | some N=>A0 N:=by
     unfold HY;rw[At Q,At (by rw[c];simp)];all_goals rfl
    generalize (Bx (b,hf) f).1=x at *;refine AH (ι:={j:Nat//j≤x.length}) (fun j=>⟨[(2,.bp 2 [] 0),(4,.bp 4 [] 0),(11,.sr 58 Lr 0 j.1),(44,.p Fq x),(45,.p (.int .i64) (x.length:Int)),(46,.p (.int .i64) (j.1:Int))],[(4,.box 25 true [.raw (.slice none 0 0)]),(2,.box 31 true [.p Qy b,.p TV hf]),(58,.nest 49 53 T3 BD (x.take j.1) none)]⟩) (fun j=>x.length-j.1) ⟨0,IS _⟩ (AC [(4,.nm 4),(2,.nm 2),(58,.nil)] rfl rfl ?_ ?_) (fun j=>?_)
    ·first|exact eN|refine eM ?_
    ·first|exact eN|refine eM ?_
    ·obtain⟨j,O⟩:=j;have X:∀y∈x,y.2.length≤100:=fun y G=>by
      obtain⟨k,hk,rfl⟩:=AAa.1 G;have e:x.getD k (0,[])=x[k]:=by rw[AS,AT hk];rfl
      rw[←e];by_cases h0:k=0
      ·rw[h0];exact D.at'
      ·exact D.hi k (by omega)
     simp only;repeat'(first|exact trivial|refine eS rfl ?_|refine AB ?_|refine rX d ?_ ?_|refine rC ?_ ?_<;>intro c<;>try(cases c;done))
     ·exact c
     ·have z:j<x.length:=OM.1 c;have Y:=X _ (AE x (0,[]) z);refine Cj drawsAny d 9 [([1,2,3,4,5,6],7),([0],8)] [] (by kernel_rfl) (R4 ?_ ?_)
      ·dsimp only[Ty.den]at *;omega
      ·refine A3P d ?_ ?_
       ·rfl
       ·refine R4 ?_ ?_
        ·trivial
        ·refine Td d [58,57] ?_ ?_
         ·have e:(List.take j x).length=j:=by rw[OR];omega
          rw[e];simp only[AO];exact⟨trivial,by omega⟩
         ·refine TT d ?_ ?_ ?_
          ·trivial
          ·trivial
          ·repeat'(first|exact trivial|refine eS rfl ?_|refine AB ?_|refine rX d ?_ ?_|refine rC ?_ ?_<;>intro c<;>try(cases c;done))
           ·omega
           ·have e:=Ae x (0,[]) z;refine⟨⟨j+1,z⟩,by simp only;omega,AC [(4,.nm 4),(2,.nm 2),(58,.nm 58)] rfl rfl ?_ ?_⟩
            ·simp only[e];first|exact eN|refine eM ?_
            ·first|exact eN|refine eM ?_
             rw[OR];omega
     ·have z:j=x.length:=by exact eV
      subst z;have ad:x.take x.length=x:=As (If _);rw[ad];refine AH (ι:={s:Nat×List AK//s.1≤s.2.length∧nW (b,hf) (max 4096 x.length) s.1 0 s.2∧∃k,max 4096 x.length+1≤k+s.1∧Yu (b,hf) (x.length+4097) 0 x=Yu (b,hf) k s.1 s.2}) (fun s=>⟨[(2,.bp 2 [] 0),(4,.bp 4 [] 0),(11,.sr 58 Lr 0 s.1.2.length),(14,.p (.int .i64) (s.1.1:Int))],[(4,.box 25 true [.raw (.slice none 0 0)]),(2,.box 31 true [.p Qy b,.p TV hf]),(58,.nest 49 53 T3 BD s.1.2 none)]⟩) (fun s=>max 4096 x.length+1-s.1.1) ⟨(0,x),IS _,D,x.length+4097,by omega,rfl⟩ (AC [(4,.nm 4),(2,.nm 2),(58,.nm 58)] rfl rfl ?_ ?_) (fun s=>?_)
      ·first|exact eN|refine eM ?_
      ·first|exact eN|refine eM ?_
      ·obtain⟨⟨i,N⟩,V,r,k,hk,m⟩:=s;simp only at V r m hk ⊢;have ai:=r.len;repeat'(first|exact trivial|refine eS rfl ?_|refine AB ?_|refine rX d ?_ ?_|refine rC ?_ ?_<;>intro c<;>try(cases c;done))
       ·have q:i<N.length:=OM.1 c;exact⟨c,r.ty _ (AE N (0,[]) q)⟩
       ·have q:i<N.length:=OM.1 c;obtain⟨ae,af⟩:=r.ty _ (AE N (0,[]) q);obtain⟨k,rfl⟩:∃H,k=H+1:=⟨k-1,by omega⟩;have C:Yu (b,hf) (k+1) i N=(Tm i (X1 (b,hf) (N.getD i (0,[])).1) N).bind (Yu (b,hf) k (i+1)):=BY q;rw[C]at m;have P:=VF (h:=(b,hf)) ae af;have ag:(X1 (b,hf) (N.getD i (0,[])).1).length≤100:=hp.fw _ P;have T:∀a∈X1 (b,hf) (N.getD i (0,[])).1,0≤a.2∧a.2<((b,hf):AN).1.length:=hp.inf.ft.val _ P;have J:∀l,l=X1 (b,hf) (N.getD i (0,[])).1→(List.getD b (Int.toNat (N.getD i (0,[])).1) (ByteArray.empty,[],[],[])).2.2.2=l:=fun l e=>by rw[e];rfl
        generalize S:X1 (b,hf) (N.getD i (0,[])).1=L at *;rw[J L rfl];clear J S;refine AH (ι:={y:Nat×List AK//y.1≤L.length∧nW (b,hf) (max 4096 x.length) i y.1 y.2∧i<y.2.length∧Tm i L N=Tm i (L.drop y.1) y.2}) (fun y=>⟨[(2,.bp 2 [] 0),(4,.bp 4 [] 0),(11,.sr 58 Lr 0 y.1.2.length),(14,.p (.int .i64) (i:Int)),(75,.p Xl L),(76,.p (.int .i64) (L.length:Int)),(77,.p (.int .i64) (y.1.1:Int))],[(4,.box 25 true [.raw (.slice none 0 0)]),(2,.box 31 true [.p Qy b,.p TV hf]),(58,.nest 49 53 T3 BD y.1.2 none)]⟩) (fun y=>L.length-y.1.1) ⟨(0,N),IS _,r,q,rfl⟩ (AC [(4,.nm 4),(2,.nm 2),(58,.nm 58)] rfl rfl ?_ ?_) (fun y=>?_)
        ·first|exact eN|refine eM ?_
        ·first|exact eN|refine eM ?_
        ·obtain⟨⟨j,M⟩,O,t,o,n⟩:=y;simp only at O t o n ⊢;have ah:=t.len;repeat'(first|exact trivial|refine eS rfl ?_|refine AB ?_|refine rX d ?_ ?_|refine rC ?_ ?_<;>intro c<;>try(cases c;done))
         ·exact c
         ·have B:j<L.length:=OM.1 c;have w:Tm i (L.drop j) M=if ((M.getD i (0,[])).2.any fun a=>a.1==(L.getD j (0,0)).1)=true then Tm i (L.drop (j+1)) M else if 4096≤M.length then none else Tm i (L.drop (j+1)) (S8 M i (L.getD j (0,0))):=by rw[KH (0,0) B];rfl
          obtain⟨v0,v1⟩:=T _ (AE L (0,0) B);have Y:=t.at';generalize am:L.getD j (0,0)=v at *;refine cP 6 d ?_ ?_
          ·exact OM.2 o
          ·have key:=s0 v (M.getD i (0,[])).2 (by omega);generalize List.any (M.getD i (0,[])).2 (fun a=>(Prod.fst a==v.1))=I at *;refine A3Q d key rfl ?_;refine rL d ?_ ?_
           ·trivial
           ·repeat'(first|exact trivial|refine eS rfl ?_|refine AB ?_|refine rX d ?_ ?_|refine rC ?_ ?_<;>intro c<;>try(cases c;done))
            ·omega
            ·rename_i A;rw[BY c]at w;refine⟨⟨(j+1,M),B,t.skip,o,n.trans w⟩,by simp only;omega,AC [(4,.nm 4),(2,.nm 2),(58,.nm 58)] rfl rfl ?_ ?_⟩
             ·first|exact eN|refine eM ?_
             ·first|exact eN|refine eM ?_
            ·have A:I=false:=by assumption
             rw[At (by rw[A];simp),BY (iF.1 c)]at w;rw[m,n,w]at g;have g:HY (b,hf) f=([],7):=g;exact fI d [.cell 4 25,.tmp 5] (by rw[g];exact eR)
            ·have W:M.length<4096:=OM.1 c;have A:I=false:=by assumption
             rw[At (by rw[A];simp),At (by omega)]at w;refine Cj drawsAny d 14 [([2,3,4,5,6,7,8,9,10,11,12],13)] [0,1] (by kernel_rfl) (R4 ?_ ?_)
             ·exact OM.2 o
             ·refine mxN d 58 ?_ ?_
              ·simp only[AO];dsimp only[Ty.den]at *;omega
              ·refine TT d ?_ ?_ ?_
               ·trivial
               ·exact OM.2 o
               ·repeat'(first|exact trivial|refine eS rfl ?_|refine AB ?_|refine rX d ?_ ?_|refine rC ?_ ?_<;>intro c<;>try(cases c;done))
                ·rw[AAw];simp only[AO];exact⟨trivial,by omega⟩
                ·omega
                ·refine⟨⟨(j+1,S8 M i v),B,t.add o (by omega) W v0 v1,by rw[Yv];omega,n.trans w⟩,by simp only;omega,AC [(4,.nm 4),(2,.nm 2),(58,.nm 58)] rfl rfl ?_ ?_⟩
                 ·unfold S8;first|exact eN|refine eM ?_
                 ·unfold S8;first|exact eN|refine eM ?_
         ·omega
         ·have U:L.drop j=[]:=IF (iF.1 c);rw[U]at n;have n:Tm i L N=some M:=n;rw[n]at m;refine⟨⟨(i+1,M),o,t.next (by omega),k,by simp only;omega,m⟩,by simp only;omega,AC [(4,.nm 4),(2,.nm 2),(58,.nm 58)] rfl rfl ?_ ?_⟩
          ·first|exact eN|refine eM ?_
          ·first|exact eN|refine eM ?_
       ·have q:¬i<N.length:=fun h=>by
         have:=iF.1 c;omega
        obtain⟨k,rfl⟩:∃H,k=H+1:=⟨k-1,by omega⟩;have C:Yu (b,hf) (k+1) i N=some N:=At q;rw[m,C]at g;have g:HY (b,hf) f=A0 N:=g;have Z:N0 N:=fun y G=>by
         obtain⟨k,hk,rfl⟩:=AAa.1 G;have e:N.getD k (0,[])=N[k]:=by rw[AS,AT hk];rfl
         rw[←e];exact r.lo k (by omega)
        refine GJ [58] ?_;repeat'(first|exact trivial|refine eS rfl ?_|refine AB ?_|refine rX d ?_ ?_|refine rC ?_ ?_<;>intro c<;>try(cases c;done))
        ·exact Z
        ·exact fI d [.cell 4 25,.tmp 5] (by rw[g];exact eR)
end
section
attribute [local go_sem] Nn Nm SS Nr
def OE:Ad:={ ins:=[Ef],pre:=fun _=>True,out:=fun(d,_)=>[.p Ls (CC d)] }
attribute [local go_sem] OE
theorem VL:Aj Tryz.prog 14 OE:=by
 refine fK [0,2,3,4,5,9,16] Tryz.func14 Tryz.ntmps14 (AD aP (AD aN AG)) ?_;rintro w0 O0 ⟨d,u⟩ a - -;simp only[OE,AL];repeat'(first|exact trivial|refine eS rfl ?_|refine AB ?_|refine rX a ?_ ?_|refine rC ?_ ?_<;>intro b<;>try(cases b;done))
 ·have h1:CC d=(Ar d).1:=by unfold CC;rw[BY ⟨by exact eV,b⟩]
  exact fI a [.cell 2 31] (by rw[h1];exact eR)
 ·have h1:CC d=(Ar I2).1:=by unfold CC;rw[At (fun h=>b h.2)]
  exact fI a [.cell 2 31] (by rw[h1];exact eR)
 ·have h1:CC d=(Ar I2).1:=by
   unfold CC;rw[At];intro h;have:=h.1;exact eV
  exact fI a [.cell 2 31] (by rw[h1];exact eR)
def RE:Ad:={ ins:=[Ls,T58],pre:=fun _=>True,out:=fun(h,l,_)=>[.p .bool (YR h l)],lend:=true }
attribute [local go_sem] RE
theorem nD:Aj Tryz.prog 17 RE:=by
 refine fK [0,1,2,4,6,7,8,9,10,21] Tryz.func17 Tryz.ntmps17 (AD rS (AD l7 AG)) ?_;rintro w0 O0 ⟨⟨c,hf⟩,l,u⟩ d ⟨-,⟨j,-⟩,-⟩ -;simp only[AO]at j;simp only[RE,AL];repeat'(first|exact trivial|refine eS rfl ?_|refine AB ?_|refine rX d ?_ ?_|refine rC ?_ ?_<;>intro a<;>try(cases a;done))
 refine AH (ι:={k:Nat//k≤l.length∧(l.take k).all (K5 (c,hf))=true}) (fun k=>⟨[(2,.bp 2 [] 0),(7,.p T58 l),(8,.p (.int .i64) (l.length:Int)),(9,.p (.int .i64) (k.1:Int))],[(2,.box 31 true [.p Qy c,.p TV hf])]⟩) (fun k=>l.length-k.1) ⟨0,by simp⟩ (AC [(2,.nm 2)] rfl rfl ?_ ?_) (fun k=>?_)
 ·first|exact eN|refine eM ?_
 ·first|exact eN|refine eM ?_
 ·obtain⟨k,hk,g⟩:=k;repeat'(first|exact trivial|refine eS rfl ?_|refine AB ?_|refine rX d ?_ ?_|refine rC ?_ ?_<;>intro a<;>try(cases a;done))
  ·exact a
  ·intro h;obtain⟨h1,b⟩:=K4 (f:=l.getD k []) (by simpa using h);exact⟨f4 h1 (by decide),fun x m=>f4 (b x m) (by decide)⟩
  ·have e:k<l.length:=OM.1 (by assumption);have h1:YR (c,hf) l=false:=by
    unfold YR;rw[AAG];refine⟨_,AE l [] e,?_⟩;unfold K5;rw[An,AA0];rintro⟨b,i⟩;rcases a with h|h
    ·rw[b]at h;cases h
    ·exact h i
   exact fI d [.tmp 4] (by rw[h1];exact eR)
  ·omega
  ·have e:k<l.length:=OM.1 (by assumption);refine⟨⟨k+1,e,?_⟩,by simp only;omega,AC [(2,.nm 2)] rfl rfl ?_ ?_⟩
   ·have h:K5 (c,hf) (l.getD k [])=true:=by
     have b:=a.2;unfold K5;rw[a.1,ABP,AA0];simpa using b
    rw[Ae l [] e,ABr,g];simpa using h
   ·first|exact eN|refine eM ?_
   ·first|exact eN|refine eM ?_
  ·have hk:l.take k=l:=As (iF.1 a);rw[hk]at g;have h1:YR (c,hf) l=true:=g;exact fI d [.tmp 4] (by rw[h1];exact eR)
def jO:Ad:={ ins:=[Fq],pre:=fun _=>True,out:=fun(l,_)=>[.p Fs l] }
attribute [local go_sem] jO
theorem zF:Aj Tryz.prog 33 jO:=by
 refine fK [0,2] Tryz.func33 Tryz.ntmps33 AG ?_;rintro w0 O0 ⟨t,u⟩ a - -;simp only[jO,AL];repeat'(first|exact trivial|refine eS rfl ?_|refine AB ?_|refine rX a ?_ ?_|refine rC ?_ ?_<;>intro b<;>try(cases b;done))
 exact fI a [.cell 2 25]
def Fi (l:List Int) (n:Nat):List (Int×Int):=(List.range n).map fun i=>(l.getD (2*i) 0,l.getD (2*i+1) 0)
theorem Yx (l:List Int) (n:Nat):Fi l (n+1)=Fi l n++[(l.getD (2*n) 0,l.getD (2*n+1) 0)]:=by simp[Fi,AAb]
theorem bR (l:List Int) (n:Nat):(Fi l n).length=n:=by simp[Fi]
def RF:Ad:={ ins:=[T3,IJ],pre:=fun(_,l,_)=>List.length l≤1000,out:=fun(t,l,_)=>[.p Lr (t,Fi l (List.length l / 2))] }
attribute [local go_sem] RF
theorem nE:Aj Tryz.prog 34 RF:=by
 refine fK [0,1,4,5,6,13] Tryz.func34 Tryz.ntmps34 AG ?_;rintro w0 O0 ⟨t,l,u⟩ b-c;simp only[RF,AL];repeat'(first|exact trivial|refine eS rfl ?_|refine AB ?_|refine rX b ?_ ?_|refine rC ?_ ?_<;>intro a<;>try(cases a;done))
 have c:l.length≤1000:=c;refine AH (ι:={k:Nat//k≤l.length / 2}) (fun k=>⟨[(1,.p IJ l),(4,.bp 4 [] 0),(5,.bp 5 [] 0),(6,.p (.int .i64) (2*(k.1:Int)))],[(4,.box 49 true [.p T3 (0:Int),.raw (.slice none 0 0)]),(5,.box 49 true [.p T3 t,.sr 29 BD 0 (Fi l k.1).length]),(29,.arr 53 BD (Fi l k.1))]⟩) (fun k=>l.length / 2-k.1) ⟨0,IS _⟩ (AC [(4,.nm 4),(5,.nm 5),(29,.nil)] rfl rfl ?_ ?_) (fun k=>?_)
 ·first|exact eN|refine eM ?_
  exact⟨rfl,rfl⟩
 ·first|exact eN|refine eM ?_
  rfl
 ·obtain⟨k,hk⟩:=k;have e:=bR l k;have f:=Yx l k;simp only;repeat'(first|exact trivial|refine eS rfl ?_|refine AB ?_|refine rX b ?_ ?_|refine rC ?_ ?_<;>intro a<;>try(cases a;done))
  ·omega
  ·rw[e];simp only[AO];exact eV
  ·omega
  ·refine⟨⟨k+1,by omega⟩,by simp only;omega,AC [(4,.nm 4),(5,.nm 5),(29,.nm 29)] rfl rfl ?_ ?_⟩
   ·simp only[f];first|exact eN|refine eM ?_
    rw[show (2*(k:Int)).toNat=2*k by omega,show (2*(k:Int)+1).toNat=2*k+1 by omega]
   ·first|exact eN|refine eM ?_
    show (2*(k:Int)+2)=2*((k:Int)+1);omega
  ·have d:k=l.length / 2:=by omega
   subst d;exact fI b [.cell 4 49]
end
section
open Go
end
theorem getD_set_ne {α:Type} (l:List α) (d v:α) {i j:Nat} (h:i≠j):(l.set i v).getD j d=l.getD j d:=by
 simp only[AS];rw[List.getElem?_set_ne h]
section
open Go
end
section
open Go
end
section
open Go
end
section
attribute [local go_sem] Mf i3
end
section
open Go
end
section
open Go
end
section
attribute [local go_sem] Uv
end
section
attribute [local go_sem] Uv
structure tD (a b:List AK) (m:List Int):Prop where
 len:m.length=a.length
 rng:∀x∈m,x<(b.length:Int)
theorem tD.set {a b:List AK} {m:List Int} (h:tD a b m) (k:Nat) {v:Int} (d:v<(b.length:Int)):tD a b (m.set k v):=by
 refine⟨by simp[h.len],fun x c=>?_⟩;rcases AAX c with c|c
 ·exact h.rng x c
 ·rw[c];exact d
theorem tD.get {a b:List AK} {m:List Int} (h:tD a b m) (d:0<b.length) (k:Nat):m.getD k 0<(b.length:Int):=by
 rw[AS];cases c:m[k]? with
 | none=>show (0:Int)<_;omega
 | some x=>exact h.rng x (AA9 c)
def A3h (h:AN) (f:List AK):Prop:=∀x∈f,0≤x.1∧x.1<(h.1.length:Int)
end
abbrev tE (p:List Int) (n:Int):Int:=p.getD n.toNat 0
structure Fo (p:List Int) (rk:Int→Nat):Prop where
 rng:∀n,0≤n→n<(p.length:Int)→0≤tE p n∧tE p n<(p.length:Int)
 dec:∀n,0≤n→n<(p.length:Int)→tE p n≠n→rk (tE p n)<rk n
inductive Rt (p:List Int):Int→Int→Prop
 | base {n:Int} (h:tE p n=n):Rt p n n
 | step {n r:Int} (h:tE p n≠n) (h2:Rt p (tE p n) r):Rt p n r
theorem Rt.root {p:List Int} {n r:Int} (h:Rt p n r):tE p r=r:=by
 induction h with
 | base h=>exact h
 | step _ _ a=>exact a
theorem Fo.ex {p:List Int} {b:Int→Nat} (h:Fo p b):∀(k:Nat) (n:Int),b n≤k→0≤n→n<(p.length:Int)→∃r,Rt p n r∧0≤r∧r<(p.length:Int)
 | 0,n,hk,h0,h1=>by
  by_cases e:tE p n=n
  ·exact⟨n,.base e,h0,h1⟩
  ·have:=h.dec n h0 h1 e;omega
 | k+1,n,hk,h0,h1=>by
  by_cases e:tE p n=n
  ·exact⟨n,.base e,h0,h1⟩
  ·have g:=h.dec n h0 h1 e;have a:=h.rng n h0 h1;obtain⟨r,c,d,f⟩:=h.ex k (tE p n) (by omega) a.1 a.2;exact⟨r,.step e c,d,f⟩
theorem Fo.root {p:List Int} {a:Int→Nat} (h:Fo p a) {n:Int} (h0:0≤n) (h1:n<(p.length:Int)):∃r,Rt p n r∧0≤r∧r<(p.length:Int):=h.ex (a n) n (If _) h0 h1
def PX (p q:List Int):Prop:=p.length=q.length∧∀x r,0≤x→x<(p.length:Int)→(Rt p x r↔Rt q x r)
theorem PX.refl (p:List Int):PX p p:=⟨rfl,fun _ _ _ _=>Iff.rfl⟩
theorem PX.trans {p q s:List Int} (h:PX p q) (g:PX q s):PX p s :=
 ⟨h.1.trans g.1,fun x r a b=>(h.2 x r a b).trans (g.2 x r a (by rw[←h.1];exact b))⟩
section
open Go
end
section
open Go
end
section
attribute [local go_sem] i5
section
variable {xs ys W0 x y bo V:List (Int×Int)} {k:Nat}
end
end
inductive EG (n:Nat) (p:List Int) (W:List (Int×Int)):Int→Int→Prop
 | cls {x y r:Int} (x0:0≤x) (x1:x<(n:Int)) (y0:0≤y) (y1:y<(n:Int)) (h:Rt p x r) (g:Rt p y r):EG n p W x y
 | wt {x y:Int} (h:(x,y)∈W):EG n p W x y
 | symm {x y:Int} (h:EG n p W x y):EG n p W y x
 | trans {x y z:Int} (h:EG n p W x y) (g:EG n p W y z):EG n p W x z
theorem EG.mono {n:Nat} {p q:List Int} {W V:List (Int×Int)} (h1:∀x y r,0≤x→x<(n:Int)→0≤y→y<(n:Int)→Rt p x r→Rt p y r→EG n q V x y) (a:∀x y,(x,y)∈W→EG n q V x y) {x y:Int} (h:EG n p W x y):EG n q V x y:=by
 induction h with
 | cls e f i j h g=>exact h1 _ _ _ e f i j h g
 | wt h=>exact a _ _ h
 | symm _ b=>exact .symm b
 | trans _ _ c d=>exact .trans c d
section
variable {h:AN} {N:List AK} {P:List (Int×Int)} {p ty:List Int} {ar:List (List (Int×Int))} {W:List (Int×Int)} {s t a b:Int}
end
theorem VM {α:Type} [DecidableEq α]:∀ {l l':List α},l.Nodup→(∀x∈l,x∈l')→l.length≤l'.length
 | [],_,_,_=>by simp
 | x :: l,l',hn,h=>by
  obtain⟨d,c⟩:=AAc.1 hn;have a:=h x (by simp);have:=VM (l:=l) (l':=l'.erase x) c (fun y b=>(AC1 (fun e:y=x=>d (by rw[←e];exact b))).2 (h y (by simp[b])));rw[ABp a]at this;have:=ABc a;simp only[Is];omega
open Classical in
noncomputable def rtF (p:List Int) (x:Int):Int:=if h:∃r,Rt p x r then h.choose else x
noncomputable def quo (p ty:List Int) (ar:List (List (Int×Int))):List AK:=(List.range p.length).map fun k=>(ty.getD k 0,(ar.getD k []).map fun a=>(a.1,rtF p a.2))
section
open Go
end
section
open Go
end
section
variable {h:AN} {N:List AK} {P:List (Int×Int)} {p ty:List Int} {ar:List (List (Int×Int))}
end
section
open Go
end
section
open Go
end
def A3i (d:List AF) (o:List ByteArray) (i:Nat):Prop:=∀j,j<i→∀x∈d,AR x.2.1 (o.getD j ByteArray.empty)=true→AR o x.1=true
theorem tF {c:ByteArray} {o:List ByteArray} {x:AF} (h:AR x.2.1 c=true):AR (Ea c o x) x.1=true:=by
 unfold Ea;split
 ·rw[MT,CU,Bool.or_true]
 ·rename_i a;rw[h,ABP,To]at a;simpa using a
theorem VN {c:ByteArray} {x:AF} (h:AR x.2.1 c=true):∀ {l:List AF} {o:List ByteArray},x∈l→AR (l.foldl (Ea c) o) x.1=true
 | [],_,a=>by cases a
 | y :: l,o,a=>by
  rw[TO];rcases Do.1 a with rfl|a
  ·exact Iz (fun z b=>Ld b) (tF h)
  ·exact VN h a
theorem S9 {d:List AF}:∀ {n i:Nat} {o:List ByteArray},WG d o→d.length≤n+i→A3i d o i→i≤o.length→∃m,A3i d (CM d n i o) m∧(CM d n i o).length≤m
 | 0,i,o,ha,f,a,hi=>⟨i,a,by
  have:=ha.len;show o.length≤i;omega⟩
 | n+1,i,o,ha,f,a,hi=>by
  unfold CM;split
  ·rename_i q;obtain⟨c,k⟩:=SD (o.getD i ByteArray.empty) (l:=d) (o:=o) (fun _ h=>h) ha;refine S9 c (by omega) (fun j p x b hs=>?_) (by omega);rw[O2 _ (by omega)]at hs;by_cases e:j=i
   ·subst e;exact VN hs b
   ·exact Iz (fun z g=>Ld g) (a j (by omega) x b hs)
  ·exact⟨i,a,by omega⟩
theorem PY {α:Type} {p:α→Bool}:∀ {l:List α},l.countP p=1→∀x∈l,p x=true→∀y∈l,p y=true→x=y
 | [],h,x,a,_,_,_,_=>by cases a
 | z :: l,h,x,a,c,y,b,d=>by
  rw[AAV]at h;by_cases f:p z=true
  ·rw[BY f]at h;have h0:l.countP p=0:=by omega
   rw[List.countP_eq_zero]at h0;have g:x=z:=by
    rcases Do.1 a with e|a
    ·exact e
    ·exact absurd c (h0 x a)
   have i:y=z:=by
    rcases Do.1 b with e|b
    ·exact e
    ·exact absurd d (h0 y b)
   rw[g,i]
  ·rw[At f]at h;have a:x∈l:=by
    rcases Do.1 a with e|a
    ·rw[e]at c;exact absurd c f
    ·exact a
   have b:y∈l:=by
    rcases Do.1 b with e|b
    ·rw[e]at d;exact absurd d f
    ·exact b
   exact PY (by omega) x a c y b d
theorem TA (s:ByteArray):∀(l:List AF) (k:Nat),0≤CT s k l→∃x∈l,AY x.1 s=true
 | [],k,h=>by
  simp only[CT]at h;omega
 | y :: l,k,h=>by
  simp only[CT]at h;split at h
  ·rename_i e;exact⟨y,by simp,e⟩
  ·obtain⟨x,a,e⟩:=TA s l (k+1) h;exact⟨x,by simp[a],e⟩
theorem bS {d:List AF} (t:Ax d=0):∃r∈d,∀x∈d,AR (CN d r.1) x.1=true:=by
 obtain⟨hs,I,h1,hn,l⟩:=Ao t;have C:0<d.countP fun x=>x.2.1.length==0:=by
  have:HD d=d.countP fun x=>x.2.1.length==0:=rfl;omega
 obtain⟨r,c,q⟩:=List.countP_pos_iff.1 C;refine⟨r,c,?_⟩;have D:=Cz c;have u:WG d [r.1]:=⟨fun s hs=>by
  have:s=r.1:=by simpa using hs
  rw[this];exact D,by simp⟩
 obtain⟨m,B,J⟩:=S9 (d:=d) (n:=d.length) (i:=0) u (by omega) (fun j A=>by omega) (by omega);have p:r.1∈CM d d.length 0 [r.1]:=Jp (by simp);have v:CN d r.1=Iw (CM d d.length 0 [r.1]):=by unfold CN;rw[At (by omega)]
 rw[v];generalize CM d d.length 0 [r.1]=o at *;have key:∀(k:Nat) (x:AF),x∈d→FP d x.1≤k→AR o x.1=true:=by
  intro k;induction k with
  | zero =>
   intro x a hk;by_cases g:x.2.1.length=0
   ·have e:=PY h1 x a (by simpa using g) r c q;rw[e];exact Ey p
   ·obtain⟨s,b⟩:∃s,s∈x.2.1:=ABY (by omega);have:=Jo hn l a (Ey b);omega
  | succ k H =>
   intro x a hk;by_cases g:x.2.1.length=0
   ·have e:=PY h1 x a (by simpa using g) r c q;rw[e];exact Ey p
   ·obtain⟨s,b⟩:∃s,s∈x.2.1:=ABY (by omega);have E:=Jo hn l a (Ey b);obtain⟨y,G,e⟩:=TA s d 0 (hs x a s b);rw[←HI d e]at E;obtain⟨z,h,f⟩:=OF.1 (H y G (by omega));obtain⟨j,A,rfl⟩:=DK ByteArray.empty h;refine B j (by omega) x a ?_;exact OF.2 ⟨s,b,DX (A7 f e)⟩
 intro x a;obtain⟨z,h,e⟩:=OF.1 (key _ x a (If _));obtain⟨w,F,f⟩:=OF.1 (Ng (o:=[]) h);exact OF.2 ⟨w,F,A7 f e⟩
abbrev tG (c:List Int):Nat:=(G9 c).length
theorem tH {w:Int} (a:qZ w) {r:Nat} (d:r<64):qI w (r:Int)=w.toNat.testBit r:=by
 have h0:=a.1;have h1:=a.2;have c:w.toNat / 2 ^ r≤w.toNat:=Nat.div_le_self _ _;have e:TW .u64 w (r:Int)=((w.toNat / 2 ^ r:Nat):Int):=by
  unfold TW;have b:min ((r:Int)).toNat IntKind.u64.bits=r:=by
   show min ((r:Int)).toNat 64=r;omega
  have hp:(0:Int)≤2 ^ r:=Int.le_of_lt (Int.pow_pos (by decide));rw[b,ABA _ hp,Int.natCast_ediv,AAQ h0];simp
 unfold qI;rw[Nat.testBit_eq_decide_div_mod_eq,e];generalize w.toNat / 2 ^ r=z at *;rw[HG ⟨by omega,by omega⟩ ⟨by decide,by decide⟩,AA4,show (1:Int).toNat=1 from rfl,Nat.and_one_is_mod,ABt,AA0,GO];omega
theorem RG {b:List Int} (d:HH b) (i:Nat):Ox b (i:Int)=A4 b i:=by
 have a:Int.tdiv (i:Int) 64=((i / 64:Nat):Int):=by rw[AAn (by omega)];omega
 have c:Int.tmod (i:Int) 64=((i % 64:Nat):Int):=by rw[ABd (by omega)];omega
 unfold Ox A4;rw[a,c,AA4];by_cases hk:i / 64<b.length
 ·rw[At (by rw[AA1,GO,GO];omega),tH (A8 d _) (by omega)]
 ·rw[BY (by rw[AA1,GO,GO];omega),GB hk];simp
theorem Yy (c:List Int):(G9 c).Nodup:=by
 unfold G9 L3 List.Nodup;rw[ABo];refine List.Pairwise.imp (fun h e=>h ?_) (List.Pairwise.filter _ List.nodup_range);exact Int.ofNat.inj e
theorem Ll {c:List Int} (b:HH c) {x:Int}:x∈G9 c↔∃i:Nat,x=(i:Int)∧A4 c i=true:=by
 unfold G9 L3;rw[Of];constructor
 ·rintro⟨i,hi,rfl⟩;rw[AAg]at hi;exact⟨i,rfl,by rw[←RG b];exact hi.2⟩
 ·rintro⟨i,rfl,a⟩;refine⟨i,AAg.2 ⟨oN.2 ?_,by rw[RG b];exact a⟩,rfl⟩;refine By fun d=>?_;unfold A4 at a;rw[GB (by omega)]at a;simp at a
theorem A0I {a b:List Int} (ha:HH a) (f:HH b) (h:∀i,A4 a i=true→A4 b i=true) (g:tG b≤tG a) (i:Nat) (hi:A4 b i=true):A4 a i=true:=by
 refine By fun hn=>?_;have c:(i:Int)∉G9 a:=fun k=>by
  obtain⟨j,e,d⟩:=(Ll ha).1 k;have:i=j:=Int.ofNat.inj e;rw[this]at hn;exact hn d
 have:=VM (l:=(i:Int) :: G9 a) (l':=G9 b) (AAc.2 ⟨c,Yy a⟩) fun x c=>by
  rcases Do.1 c with rfl|c
  ·exact(Ll f).2 ⟨i,rfl,hi⟩
  ·obtain⟨j,rfl,d⟩:=(Ll ha).1 c;exact(Ll f).2 ⟨j,rfl,h j d⟩
 rw[Is]at this;unfold tG at g;omega
theorem TB (x:AP) (out:List AP):∀n,(Ez x out n=0→n=0∨FF x (out.getD 0 c0)=true)∧∀k,Ez x out n=k+1→FF x (out.getD k c0)=false
 | 0=>⟨fun _=>.inl rfl,fun k h=>by simp[Ez]at h⟩
 | n+1=>by
  obtain⟨h1,b⟩:=TB x out n;unfold Ez;split
  ·rename_i a;refine⟨fun e=>?_,b⟩;rcases h1 e with e|e
   ·subst e;exact .inr a
   ·exact .inr e
  ·rename_i a;refine⟨fun e=>by omega,fun k e=>?_⟩;have:n=k:=by omega
   subst this;simpa using a
theorem Yz {a b:AP} (h:FF a b=true):tG b.2≤tG a.2:=by
 unfold FF at h;rw[AA1,An,GO,AA0]at h;unfold tG;omega
theorem Wi {a b:AP} (h:FF a b=false):tG a.2≤tG b.2:=by
 unfold FF at h;rw[AAi,NO]at h;unfold tG;omega
def HM (out:List AP):Prop:=∀y∈out,tG y.2≤tG (out.getD 0 c0).2
theorem zG {out:List AP} (h:HM out) (x:AP):HM (WO out x):=by
 obtain⟨s1,s2⟩:=TB x out out.length;have b:=YA x out out.length;intro y a;rw[YE]at a;unfold WO;cases hk:Ez x out out.length with
 | zero =>
  rw[AAL,AAm,AB9];have e:([x]++out).getD 0 c0=x:=rfl;rw[e];rcases a with rfl|a
  ·exact If _
  ·have h1:=h y a;rcases s1 hk with e|e
   ·rw[aT e]at a;cases a
   ·exact f4 h1 (Yz e)
 | succ k =>
  have c:=Wi (s2 k hk);rw[hk]at b;have e:(out.take (k+1)++[x]++out.drop (k+1)).getD 0 c0=out.getD 0 c0:=by
   cases out with
   | nil=>simp at b
   | cons z out=>rfl
  rw[e];rcases a with rfl|a
  ·exact f4 c (h _ (A6 (by omega)))
  ·exact h y a
theorem Y0 {d:List AF}:∀ {l:List (List Int)} {o:List AP},HM o→HM (l.foldl (O7 d) o)
 | [],_,h=>h
 | b :: l,o,h=>by
  rw[TO];exact Y0 (zG h _)
def In (n:Nat) (c:List Int):Prop:=HH c∧∀i,A4 c i=true→i<n
theorem A0J (n:Nat):In n []:=⟨fun x a=>(by cases a),fun i hi=>by unfold A4 at hi;simp at hi⟩
theorem A0K {n:Nat} {a b:List Int} (ha:In n a) (c:In n b):In n (Dt a b) :=
 ⟨Lf ha.1 c.1,fun i hi=>by
  rw[Jv ha.1 c.1,An]at hi;exact ha.2 i hi.1⟩
theorem jP {n:Nat} {l:List (List Int)} (h:∀c∈l,In n c) (k:Nat):In n (l.getD k []):=by
 by_cases hk:k<l.length
 ·exact h _ (A6 hk)
 ·rw[PP hk];exact A0J n
theorem zH {n:Nat} {l:List (List Int)} (h:∀c∈l,In n c) (i k:Nat):∀c∈Fc l i k,In n c:=by
 intro c a;unfold Fc at a;split at a
 ·rcases ON.1 a with a|a
  ·exact h c a
  ·have:c=Dt (l.getD i []) (l.getD k []):=by simpa using a
   rw[this];exact A0K (jP h i) (jP h k)
 ·exact h c a
theorem jQ {q i:Nat}:∀ {n k:Nat} {l:List (List Int)},(∀c∈l,In q c)→∀c∈Fd i n k l,In q c
 | 0,_,_,h=>h
 | n+1,k,l,h=>by
  unfold Fd;split
  ·exact jQ (zH h i k)
  ·exact h
theorem Wj {q:Nat}:∀ {n i:Nat} {l:List (List Int)},(∀c∈l,In q c)→∀c∈HF n i l,In q c
 | 0,_,_,h=>h
 | n+1,i,l,h=>by
  unfold HF;split
  ·exact Wj (jQ h)
  ·exact h
def A3S (h:AN):Prop:=∀t,0≤t→t<(h.1.length:Int)→BK h 0 t=true
theorem Y2 (d:List AF):A3S (Ar d).1:=by
 have hk:=GC d;unfold Ar at hk ⊢;split
 ·intro t h0 h1;simp at h1;omega
 ·rename_i a;rw[At a]at hk;have a:(A3 d).2=0:=By a;have E:Am d=0:=by
   unfold A3 at a;split at a
   ·rename_i h;exact absurd a h
   ·rename_i h;exact By h
  obtain⟨O,-,-⟩:=Bv E;obtain⟨m,Q,-⟩:=BJ O;obtain⟨-,D,-,hn,P⟩:=Ao m;have L:=DW d d.length;rw[gO]at L;have j:(AM d).length≤4096:=by omega
  obtain⟨r,z,G⟩:=bS m;have g:∀c∈Ai (AQ d),In (AM d).length c:=Wj fun c k=>by
   obtain⟨s,hs,rfl⟩:=Of.1 k;exact⟨(Bh (d:=d) j s 0).2.1,fun i hi=>((Bh (d:=d) j s i).1.1 hi).1⟩
  obtain⟨s,hs,C⟩:=OF.1 (MZ z);have M:s=r.1:=by
   obtain⟨x,f,rfl⟩:=CV hs;rw[Nc hn f z C]
  subst M;have p:ED d (AM d) r.1∈Ai (AQ d):=by
   have hp:AQ d <+: Ai (AQ d):=Nu 257 0 (AQ d);exact hp.subset (Of.2 ⟨_,hs,rfl⟩)
  have n:∀i,i<(AM d).length→A4 (ED d (AM d) r.1) i=true:=fun i hi=>by
   refine(Bh (d:=d) j r.1 i).1.2 ⟨hi,?_⟩;obtain⟨x,f,e⟩:=CV (A6 (d:=ByteArray.empty) hi);rw[←e];exact G x f
  have F:HM (AJ d):=Y0 fun y N=>by cases N
  have v:=C0.2 ⟨_,p,rfl⟩;have w:0<(AJ d).length:=ABc v;have u:=F _ v;obtain⟨b,o,l⟩:=C0.1 (A6 (d:=c0) w);rw[l]at u;have J:=A0I (g b o).1 (g _ p).1 (fun i hi=>n i ((g b o).2 i hi)) u;have I:BH (BZ d) 0=b:=by
   show ((Dv (AJ d) _ _).getD 0 PN).2.1=b;have:(Dv (AJ d) (A3 d).1 (AJ d).length).getD 0 PN=(((AJ d).getD 0 c0).1,((AJ d).getD 0 c0).2,Ul (AJ d) ((0:Nat):Int),(A3 d).1.getD 0 []):=by
    unfold Dv;rw[AS,AAW,ABG w];rfl
   rw[this,l]
  have R:(BZ d).1.length=(AJ d).length:=I3 _ _ _;intro t A B;refine(BV hk (by omega) (by show (0:Int)<((BZ d).1.length:Int);omega) A B).2 fun i hi=>?_;show A4 (BH (BZ d) 0) i=true;rw[I];refine J i (n i ?_);have H:=Bq A B;have K:BH (BZ d) t∈Ai (AQ d):=by
   have e:((BZ d).1.map fun t=>t.2.1)=(AJ d).map fun x=>x.2:=by
    show ((Dv _ _ _).map fun t=>t.2.1)=_;unfold Dv;rw[ABI];apply AAE
    ·simp
    ·intro i h1 D;simp[AS,show i<(AJ d).length by simpa using h1]
   have q:BH (BZ d) t∈(BZ d).1.map fun t=>t.2.1:=H;rw[e]at q;obtain⟨x,f,ex⟩:=Of.1 q;obtain⟨c,k,rfl⟩:=C0.1 f;rw[←ex];exact k
  exact(g _ K).2 i hi
theorem TC (d:List AF):Nd ((Ar d).1.1.map fun t=>t.2.1):=by
 unfold Ar;split
 ·exact⟨.nil,fun c h=>(by cases h)⟩
 ·rename_i a;have a:(A3 d).2=0:=By a;have g:Am d=0:=by
   unfold A3 at a;split at a
   ·rename_i h;exact absurd a h
   ·rename_i h;exact By h
  obtain⟨m,-,-⟩:=Bv g;obtain⟨f,o,-⟩:=BJ m;have hf:Nd (Ai (AQ d)):=Q7 (PQ f);have e:((BZ d).1.map fun t=>t.2.1)=(AJ d).map fun x=>x.2:=by
   show ((Dv _ _ _).map fun t=>t.2.1)=_;unfold Dv;rw[ABI];apply AAE
   ·simp
   ·intro i h1 n;simp[AS,show i<(AJ d).length by simpa using h1]
  show Nd ((BZ d).1.map fun t=>t.2.1);rw[e];refine⟨K7 (by simpa using hf.nd),fun c k=>?_⟩;obtain⟨x,l,rfl⟩:=Of.1 k;obtain⟨b,j,rfl⟩:=C0.1 l;exact hf.nrm b j
section
open Go
end
end Go.Proofs.YtdapahgnpbehbaaGreat.Fw
