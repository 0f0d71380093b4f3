/- Contracts of the program's and the reference's functions, and the plain laws of what they compute: PH T1 G4 G5 G6 T2 T3 T5 P1 P9 T13 T14 T15 T6 T7 T8 T9 T10 T11 T12 T16 R08a P3 P4 P5 P2 P7 W1 W2 W3 W4 D2 D3 W5 U1 U2 U3. -/
import Derived.Test.YtdapahgnpbehbaaGreatLYB
import Derived.Test.YtdapahgnpbehbaaGreatLZI
import Derived.Test.YtdapahgnpbehbaaGreatLZJ
set_option linter.unusedVariables false
set_option linter.unusedSimpArgs false
namespace Go.Proofs.YtdapahgnpbehbaaGreat.Fw
open Go
attribute [local irreducible] Ev
attribute [local go_sem] XB AM List.toList_toArray Br evG evK Te Ef Ju Fm E6 F7 Nl KI CG Ct K2 B0 Ck frz aD GX DJ A7 FY BW AV.frz AV.frzs AV.drp AV.drps AV.names AV.namess aq GY KH Jl Qq ID BQ BX JJ Ea Hn Eb Hq Ho Hr Si Nf GZ JK Fa Dz Sj PJ xZ JL II Kw FE Dk IJ Jn EE Qr Ca EF Eq PK IK PM Lk IL Jo Cs Cj FK Dl HL DR Er DS EH FJ B0 Ci O6 O8 MB F5 IG IE Jm MC Ni Ll K0 Ky Jr PN Kz Js Wa Nk Nj AV.trn AV.trns Dy CZ Obj.trn JY Y8 DF DT DE EI CV Es Aj lk Gr GP HJ yC aC Tc aF PI pY pZ pfs AV.cells CE JG OB Jq Nh CU L9 Ty.cell1 Hm Ep Dj F4 Kv EZ KG Lj O7 Eo Gy L8 Qp Sg L5 KF WX Yj O9 MA Cr JH RV.flat Ty.flat Ty.size St.add upd del Bd Value.oneCell' Kt Ty.dflt Hl M7 G0 ND List.take_succ_cons List.take_zero List.length_cons XI XJ NC IV KS Ge H9 uE E7 LB LC LD LE OL OM JQ Hx Q1 Option.map_some Option.map_none Option.bind_some Option.getD_some Option.getD_none Option.isNone_none Option.isNone_some Bool.and_true Bool.true_and Bool.and_false Bool.false_and Bool.not_true Bool.not_false if_true if_false List.length_cons List.length_nil and_true true_and and_self List.all_cons List.all_nil List.append_nil List.nil_append List.cons_append List.getElem?_cons_zero List.getElem?_cons_succ List.getElem?_nil List.map_cons List.map_nil List.set_cons_zero List.set_cons_succ List.isEmpty_nil List.isEmpty_cons decide_true decide_false beq_self_eq_true bne_self_eq_false Nat.zero_add Nat.add_zero Nat.sub_zero Int.toNat_natCast Int.toNat_zero Int.toNat_one List.take_length List.length_append List.length_singleton true_or or_true or_self false_or or_false Ty.agg.injEq Ty.slice.injEq Ty.prod.injEq Ty.int.injEq Option.some.injEq beq_iff_eq Lr evMG evMQ x5 HQ Lq Bx JS GL MN JR HP Hy JT KR MO MQ MP Q2 KQ M9 NA H8 AY Al Op.operands Call.operands List.filterMap_cons List.filterMap_nil List.append_eq Bool.cond_false_right Bool.cond_true_left cond_true cond_false implies_true decide_eq_true_eq beq_true beq_false Bool.or_true Bool.or_false Bool.true_or Bool.false_or Option.isSome_some Array.empty_append List.append_toArray FZ K3 Et He WZ Ng FI Fg Ff IM HK Jp Kx Td aE Jk inB Jt FT F6 X1 Ah XK List.drop_zero De Hi We CK Jz BV AV.fgt AV.fgts Obj.fgt Af Ai AY Cu IW BH GB List.any_cons List.any_nil lD Y5 Wf Y6 L6 Pl qs List.flatMap_cons List.flatMap_nil List.cons_append tn Wg Hj List.take_succ_cons List.drop_succ_cons Wh HS Bl bT KU B2 CO Aa Ex Jy Bg Ew Dm HN Hw GA HO
attribute [local go_sem] J3 mO ty3 ty4 ty5 ty9 A02 A03 A04 A05 A06 A07 A08 A09 A0a A0b A0c A0d A0e A0f A0g A0h A0i A0j A0k A0l A0m A0n A0o A0p A0q A0r A0s A0t A0u A0v A0w A0x A0y A0z A0A A0B A0C A0D A0E A0F A0G A0H A0I A0J A0K A0L A0M A0N A0O A0P A0Q A0R A0S A0T A0U A0V A0W A0X A0Y A0Z A10 A11 A12 A13 A14 A15 A16 A17 A18 A19 A1a A1b A1c A1d b6 b7 b8 b9 cA cB cC cE cF cG cH cI cJ cK cL cM cN cO cQ cR cS cU cV cW cX cZ c5 c6 c7 c8 c9 dA dB dC dD dE dF dG dH dI dJ dK dL dM dN dP dQ dR dS dT dU dV dW dX dY dZ d3 d4 d5 d6 d7 d8 d9 eB eC eD eE eF eG eH eI eJ eK eL eO eQ eU eX eY eZ e5 e7 e9 fA fB fC fD fE fF fG fH fJ fL fN fO fP fQ fR fS fT fU fV fW fX fY fZ f3 f4 f5 f6 f7 f9 gB gC gD gE gF gG gH
set_option maxRecDepth 100000
set_option maxHeartbeats 4000000
section
attribute [local go_sem] DA
def i9 (l:List (Int×Int)) (a b c:Nat):Prop:=BA Tryz.prog 163 [.sr 1000000 BE 0 l.length,.p T3 (a:Int),.p T3 (b:Int),.p T3 (c:Int),.fn 116] [(1000000,.arr 53 BE l)] [1000000] (fun res d=>res=.raw (.tuple #[])∧∃r,d=[(1000000,.arr 53 BE r)]∧ED (0,0) a b l r∧Ra CF (0,0) a b r)
theorem wB (l:List (Int×Int)) (az:l.length<256) (aa:lE CF (0,0) l) (a b S:Nat) (ar:a≤b) (ay:b≤l.length) (av:S≤1000) (aq:Bf CF (0,0) a b l)
  (V:∀(l':List (Int×Int)),l'.length<256→lE CF (0,0) l'→∀J b' an:Nat,b'-J<b-a→J≤b'→b'≤l'.length→an≤1000→Bf CF (0,0) J b' l'→i9 l' J b' an):i9 l a b S:=by
 unfold i9;refine J1 [0,1,2,3,4,10,11,12,13,14,15,16,17,18,19,20,25,32,39,56,75,80,97,125] [] [] Tryz.func163 Tryz.ntmps163 (AF FB AG) ?_;intro w0 K O0 ρ0 c bb bc;simp only[Ah];repeat'(first|exact trivial|refine eS rfl ?_|refine AB ?_|refine rX c ?_ ?_)
 refine AH (ι:={s:(Nat×Nat×Nat)×(Bool×Bool)×List (Int×Int)//v8 CF (0,0) a b s.1.1 s.1.2.1 s.2.2∧ED (0,0) a b l s.2.2∧Bf CF (0,0) s.1.1 s.1.2.1 s.2.2∧s.1.2.2≤1000}) (fun s=>⟨[(0,.sr 1000000 BE 0 l.length),(1,.p T3 (s.1.1.1:Int)),(2,.p T3 (s.1.1.2.1:Int)),(3,.p T3 (s.1.1.2.2:Int)),(4,.fn 116),(10,.p .bool s.1.2.1.1),(11,.p .bool s.1.2.1.2)],[(1000000,.arr 53 BE s.1.2.2)]⟩) (fun s=>s.1.1.2.1-s.1.1.1) ⟨((a,b,S),(true,true),l),v9 ar l,ED.refl a b l,aq,av⟩ (AC [(1000000,.nm 1000000)] rfl rfl ?_ ?_) (fun s=>?_)
 ·first|exact eN|refine eM ?_
 ·first|exact eN|refine eM ?_
 ·obtain⟨⟨⟨d,b1,H⟩,⟨T,U⟩,m⟩,t,o,Q,ag⟩:=s;simp only at t o Q ag ⊢;obtain⟨D,ax,E⟩:=t.ab;have N:=aa.perm CP o.perm;have u:=o.len;repeat'(first|exact trivial|refine eS rfl ?_|refine AB ?_|refine rX c ?_ ?_)
  ·exact CY
  ·refine rC (fun k=>?_) (fun k=>?_)
   ·have key:=A4U m (by omega) N d b1 (by omega) (by omega);rw[u]at key;repeat'(first|exact trivial|refine eS rfl ?_|refine AB ?_|refine rX c ?_ ?_)
    refine cP 4 c ?_ ?_
    ·trivial
    ·refine rM c (key) [(1000000,.nm 1000000)] [] ?_ ?_ ?_
     ·first|exact eN|refine eM ?_
     ·first|exact eN|refine eM ?_
     ·rintro _ _ ⟨rfl,r,rfl,e,g⟩;refine⟨[(1000000,.nm 1000000)],.raw (.tuple #[]),[(1000000,.arr 53 BE r)],rfl,rfl,?_,?_,rfl,rfl,CS ?_⟩
      ·first|exact eN|refine eM ?_
      ·first|exact eN|refine eM ?_
      ·repeat'(first|exact trivial|refine eS rfl ?_|refine AB ?_|refine rX c ?_ ?_|refine rC ?_ ?_<;>intro k<;>try(cases k;done))
       exact fM c [] (.raw (.tuple #[])) rfl ⟨rfl,r,rfl,o.trans (e.mono D E),(t.pin e).done g⟩
   ·have ap:d+13≤b1:=by omega
    have el:(b1:Int)-(d:Int)=((b1-d:Nat):Int):=by omega
    rw[el];repeat'(first|exact trivial|refine eS rfl ?_|refine AB ?_|refine rX c ?_ ?_)
    refine rC (fun au=>?_) (fun au=>?_)
    ·have key:=A2e m (by omega) N d b1 ax (by omega);rw[u]at key;repeat'(first|exact trivial|refine eS rfl ?_|refine AB ?_|refine rX c ?_ ?_)
     refine cP 4 c ?_ ?_
     ·trivial
     ·refine rM c (key) [(1000000,.nm 1000000)] [] ?_ ?_ ?_
      ·first|exact eN|refine eM ?_
      ·first|exact eN|refine eM ?_
      ·rintro _ _ ⟨rfl,r,rfl,e,g⟩;refine⟨[(1000000,.nm 1000000)],.raw (.tuple #[]),[(1000000,.arr 53 BE r)],rfl,rfl,?_,?_,rfl,rfl,CS ?_⟩
       ·first|exact eN|refine eM ?_
       ·first|exact eN|refine eM ?_
       ·repeat'(first|exact trivial|refine eS rfl ?_|refine AB ?_|refine rX c ?_ ?_|refine rC ?_ ?_<;>intro k<;>try(cases k;done))
        exact fM c [] (.raw (.tuple #[])) rfl ⟨rfl,r,rfl,o.trans (e.mono D E),(t.pin e).done g⟩
    ·have ba:0<H:=by omega
     refine qH ?_;refine IR ?_;refine Pf (ι:={x:Nat×List (Int×Int)//x.1≤1000∧ED (0,0) d b1 m x.2}) (fun x=>⟨[(0,.sr 1000000 BE 0 l.length),(1,.p T3 (d:Int)),(2,.p T3 (b1:Int)),(3,.p T3 (x.1.1:Int)),(4,.fn 116),(10,.p .bool T),(11,.p .bool U),(12,.p (.int .i64) ((b1-d:Nat):Int))],[(1000000,.arr 53 BE x.1.2)]⟩) ?_ (fun x=>?_)
     ·repeat'(first|exact trivial|refine eS rfl ?_|refine AB ?_|refine rX c ?_ ?_)
      refine rC (fun n=>?_) (fun n=>?_)
      ·have key:=A52 m (by omega) d b1 (by omega) (by omega);rw[u]at key;refine eS rfl ?_;refine cP 4 c ?_ ?_
       ·trivial
       ·refine rM c (key) [(1000000,.nm 1000000)] [] ?_ ?_ ?_
        ·first|exact eN|refine eM ?_
        ·first|exact eN|refine eM ?_
        ·rintro _ _ ⟨rfl,r,rfl,e⟩;refine⟨[(1000000,.nm 1000000)],.raw (.tuple #[]),[(1000000,.arr 53 BE r)],rfl,rfl,?_,?_,rfl,rfl,CS ?_⟩
         ·first|exact eN|refine eM ?_
         ·first|exact eN|refine eM ?_
         ·repeat'(first|exact trivial|refine eS rfl ?_|refine AB ?_|refine rX c ?_ ?_)
          ·exact CY
          ·refine⟨⟨(H-1,r),by simp only;omega,e⟩,AC [(1000000,.nm 1000000)] rfl rfl ?_ ?_⟩
           ·first|exact eN|refine eM ?_
           ·simp only;rw[show ((H-1:Nat):Int)=(H:Int)-1 by omega];first|exact eN|refine eM ?_
      ·repeat'(first|exact trivial|refine eS rfl ?_|refine AB ?_|refine rX c ?_ ?_)
       refine⟨⟨(H,m),ag,ED.refl _ _ m⟩,AC [(1000000,.nm 1000000)] rfl rfl ?_ ?_⟩
       ·first|exact eN|refine eM ?_
       ·first|exact eN|refine eM ?_
     ·obtain⟨⟨C,i⟩,G,f⟩:=x;simp only at G f ⊢;have v:i.length=l.length:=f.len.trans u;have key:=A4Y i (by omega) d b1 ap (by omega);rw[v]at key;refine eS rfl ?_;refine cP 4 c ?_ ?_
      ·trivial
      ·refine rM c (key) [(1000000,.nm 1000000)] [] ?_ ?_ ?_
       ·first|exact eN|refine eM ?_
       ·first|exact eN|refine eM ?_
       ·rintro _ _ ⟨j,hint,rfl,rfl,z,A⟩;refine⟨[(1000000,.nm 1000000)],.tup [.p T3 (j:Int),.p T3 hint],[(1000000,.arr 53 BE i)],rfl,rfl,?_,?_,rfl,rfl,?_⟩
        ·first|exact eN|refine eM ?_
        ·first|exact eN|refine eM ?_
        ·refine rL c ?_ ?_
         ·trivial
         ·refine IR ?_;refine Pf (ι:={x:Nat×Int×List (Int×Int)//(d≤x.1∧x.1<b1)∧ED (0,0) d b1 m x.2.2}) (fun x=>⟨[(0,.sr 1000000 BE 0 l.length),(1,.p T3 (d:Int)),(2,.p T3 (b1:Int)),(3,.p T3 (C:Int)),(4,.fn 116),(10,.p .bool T),(11,.p .bool U),(12,.p (.int .i64) ((b1-d:Nat):Int)),(13,.p T3 (x.1.1:Int)),(14,.p T3 x.1.2.1)],[(1000000,.arr 53 BE x.1.2.2)]⟩) ?_ (fun x=>?_)
          ·repeat'(first|exact trivial|refine eS rfl ?_|refine AB ?_|refine rX c ?_ ?_)
           refine rC (fun n=>?_) (fun n=>?_)
           ·have key:=A4V i (by omega) d b1 (by omega) (by omega);rw[v]at key;refine eS rfl ?_;refine cP 4 c ?_ ?_
            ·trivial
            ·refine rM c (key) [(1000000,.nm 1000000)] [] ?_ ?_ ?_
             ·first|exact eN|refine eM ?_
             ·first|exact eN|refine eM ?_
             ·rintro _ _ ⟨rfl,r,rfl,e⟩;refine⟨[(1000000,.nm 1000000)],.raw (.tuple #[]),[(1000000,.arr 53 BE r)],rfl,rfl,?_,?_,rfl,rfl,CS ?_⟩
              ·first|exact eN|refine eM ?_
              ·first|exact eN|refine eM ?_
              ·repeat'(first|exact trivial|refine eS rfl ?_|refine AB ?_|refine rX c ?_ ?_)
               ·exact CY
               ·refine⟨⟨(b1-1-(j-d),1,r),by simp only;omega,f.trans e⟩,AC [(1000000,.nm 1000000)] rfl rfl ?_ ?_⟩
                ·first|exact eN|refine eM ?_
                ·simp only;rw[show ((b1-1-(j-d):Nat):Int)=(b1:Int)-1-((j:Int)-(d:Int)) by omega];first|exact eN|refine eM ?_
           ·repeat'(first|exact trivial|refine eS rfl ?_|refine AB ?_|refine rX c ?_ ?_)
            refine⟨⟨(j,hint,i),⟨z,A⟩,f⟩,AC [(1000000,.nm 1000000)] rfl rfl ?_ ?_⟩
            ·first|exact eN|refine eM ?_
            ·first|exact eN|refine eM ?_
          ·clear z A f v key;obtain⟨⟨j,hint,i⟩,⟨z,A⟩,f⟩:=x;simp only at z A f ⊢;have v:i.length=l.length:=f.len.trans u;have ah:=N.perm CP f.perm;have Y:=Q.pin f;refine Pf (ι:={x:List (Int×Int)//ED (0,0) d b1 m x}) (fun x=>⟨[(0,.sr 1000000 BE 0 l.length),(1,.p T3 (d:Int)),(2,.p T3 (b1:Int)),(3,.p T3 (C:Int)),(4,.fn 116),(10,.p .bool T),(11,.p .bool U),(12,.p (.int .i64) ((b1-d:Nat):Int)),(13,.p T3 (j:Int))],[(1000000,.arr 53 BE x.1)]⟩) ?_ (fun x=>?_)
           ·repeat'(first|exact trivial|refine eS rfl ?_|refine AB ?_|refine rX c ?_ ?_)
            refine rC (fun n=>?_) (fun n=>?_)
            ·have key:=A4X i (by omega) ah d b1 (by omega) (by omega) Y;rw[v]at key;refine eS rfl ?_;refine cP 4 c ?_ ?_
             ·trivial
             ·refine rM c (key) [(1000000,.nm 1000000)] [] ?_ ?_ ?_
              ·first|exact eN|refine eM ?_
              ·first|exact eN|refine eM ?_
              ·rintro _ _ ⟨w,r,rfl,rfl,e,g⟩;refine⟨[(1000000,.nm 1000000)],.p .bool w,[(1000000,.arr 53 BE r)],rfl,rfl,?_,?_,rfl,rfl,CS ?_⟩
               ·first|exact eN|refine eM ?_
               ·first|exact eN|refine eM ?_
               ·refine eS rfl ?_;refine rC (fun af=>?_) (fun af=>?_)
                ·repeat'(first|exact trivial|refine eS rfl ?_|refine AB ?_|refine rX c ?_ ?_|refine rC ?_ ?_<;>intro k<;>try(cases k;done))
                 have am:=f.trans e;exact fM c [] (.raw (.tuple #[])) rfl ⟨rfl,r,rfl,o.trans (am.mono D E),(t.pin am).done (g af)⟩
                ·repeat'(first|exact trivial|refine eS rfl ?_|refine AB ?_|refine rX c ?_ ?_)
                 refine⟨⟨r,f.trans e⟩,AC [(1000000,.nm 1000000)] rfl rfl ?_ ?_⟩
                 ·first|exact eN|refine eM ?_
                 ·first|exact eN|refine eM ?_
            ·repeat'(first|exact trivial|refine eS rfl ?_|refine AB ?_|refine rX c ?_ ?_)
             refine⟨⟨i,f⟩,AC [(1000000,.nm 1000000)] rfl rfl ?_ ?_⟩
             ·first|exact eN|refine eM ?_
             ·first|exact eN|refine eM ?_
           ·clear v ah Y f;obtain⟨ao,y⟩:=x;simp only;have ak:ao.length=l.length:=y.len.trans u;have ai:=N.perm CP y.perm;have R:=Q.pin y;have ad:=t.pin y;repeat'(first|exact trivial|refine eS rfl ?_|refine AB ?_|refine rX c ?_ ?_)
            ·dsimp only[Ty.den];exact⟨fun _=>by omega,fun _=>by omega,fun _=>by omega⟩
            ·refine Dq (by simp only[go_sem,Nat.reduceEqDiff,reduceCtorEq,Nat.reduceAdd,Nat.reduceSub,Nat.reduceMul,Nat.reduceLeDiff,Nat.reduceLT,Int.reduceLE,Int.reduceToNat,Int.reduceNeg,↓reduceIte];rfl) ?_ ?_
             ·intro L;exfalso;simp only[As,IS,bY,On]at L;obtain⟨h1,X⟩:=L;rw[show ((d:Int)-1).toNat=d-1 by omega]at X;rcases R with h|h
              ·omega
              ·exact X (h j z A)
             ·intro L;clear L;have key:=A4W ao (by omega) ai d b1 j z A (by omega);rw[ak]at key;repeat'(first|exact trivial|refine eS rfl ?_|refine AB ?_|refine rX c ?_ ?_)
              refine cP 5 c ?_ ?_
              ·trivial
              ·refine rM c (key) [(1000000,.nm 1000000)] [] ?_ ?_ ?_
               ·first|exact eN|refine eM ?_
               ·first|exact eN|refine eM ?_
               ·rintro _ _ ⟨q,w,I,rfl,rfl,P,F⟩;refine⟨[(1000000,.nm 1000000)],.tup [.p T3 (q:Int),.p .bool w],[(1000000,.arr 53 BE I)],rfl,rfl,?_,?_,rfl,rfl,?_⟩
                ·first|exact eN|refine eM ?_
                ·first|exact eN|refine eM ?_
                ·have aw:=F.l;have bd:=F.r;have O:=o.trans ((y.trans P).mono D E);have al:=O.len;have aj:=aa.perm CP O.perm;have Z:=R.pin P;have ae:=ad.pin P;clear y ak ai R ad P key;have W:(((b1-d:Nat):Int)).tdiv 8=(((b1-d) / 8:Nat):Int):=by
                  rw[AAG (by omega)];omega
                 refine rL c ?_ ?_
                 ·trivial
                 ·repeat'(first|exact trivial|refine eS rfl ?_|refine AB ?_|refine rX c ?_ ?_)
                  ·exact CY
                  ·rw[W];exact⟨by decide,by omega,by omega⟩
                  ·rw[W];refine rC (fun n=>?_) (fun n=>?_)
                   ·have key:=V I (by omega) aj d q C (by omega) aw (by omega) G (Z.sub (by omega));unfold i9 at key;rw[al]at key;repeat'(first|exact trivial|refine eS rfl ?_|refine AB ?_|refine rX c ?_ ?_)
                    refine cP 5 c ?_ ?_
                    ·trivial
                    ·refine rM c (key) [(1000000,.nm 1000000)] [] ?_ ?_ ?_
                     ·first|exact eN|refine eM ?_
                     ·first|exact eN|refine eM ?_
                     ·rintro _ _ ⟨rfl,r,rfl,e,g⟩;refine⟨[(1000000,.nm 1000000)],.raw (.tuple #[]),[(1000000,.arr 53 BE r)],rfl,rfl,?_,?_,rfl,rfl,CS ?_⟩
                      ·first|exact eN|refine eM ?_
                      ·first|exact eN|refine eM ?_
                      ·have M:=F.pinL e;have B:ED (0,0) d b1 I r:=e.mono (Is _) (by omega);repeat'(first|exact trivial|refine eS rfl ?_|refine AB ?_|refine rX c ?_ ?_)
                       ·exact CY
                       ·refine⟨⟨((q+1,b1,C),(decide ((((b1-d) / 8:Nat):Int)≤(q:Int)-(d:Int)),w),r),(ae.pin B).left CP M g,O.trans (B.mono D E),M.bf,G⟩,by simp only;omega,AC [(1000000,.nm 1000000)] rfl rfl ?_ ?_⟩
                        ·first|exact eN|refine eM ?_
                        ·first|exact eN|refine eM ?_
                   ·have key:=V I (by omega) aj (q+1) b1 C (by omega) (by omega) (by omega) G F.bf;unfold i9 at key;rw[al,show ((q+1:Nat):Int)=(q:Int)+1 by omega]at key;repeat'(first|exact trivial|refine eS rfl ?_|refine AB ?_|refine rX c ?_ ?_)
                    refine cP 6 c ?_ ?_
                    ·exact CY
                    ·refine rM c (key) [(1000000,.nm 1000000)] [] ?_ ?_ ?_
                     ·first|exact eN|refine eM ?_
                     ·first|exact eN|refine eM ?_
                     ·rintro _ _ ⟨rfl,r,rfl,e,g⟩;refine⟨[(1000000,.nm 1000000)],.raw (.tuple #[]),[(1000000,.arr 53 BE r)],rfl,rfl,?_,?_,rfl,rfl,CS ?_⟩
                      ·first|exact eN|refine eM ?_
                      ·first|exact eN|refine eM ?_
                      ·have M:=F.pinR e;have B:ED (0,0) d b1 I r:=e.mono (by omega) (Is _);repeat'(first|exact trivial|refine eS rfl ?_|refine AB ?_|refine rX c ?_ ?_)
                       refine⟨⟨((d,q,C),(decide ((((b1-d) / 8:Nat):Int)≤(b1:Int)-(q:Int)),w),r),(ae.pin B).right CP M g,O.trans (B.mono D E),(Z.pin B).sub (b':=q) (by omega),G⟩,by simp only;omega,AC [(1000000,.nm 1000000)] rfl rfl ?_ ?_⟩
                       ·first|exact eN|refine eM ?_
                       ·first|exact eN|refine eM ?_
theorem A53 (l:List (Int×Int)) (i:l.length<256) (e:lE CF (0,0) l) (a b c:Nat) (f:a≤b) (g:b≤l.length) (j:c≤1000) (d:Bf CF (0,0) a b l):i9 l a b c:=by
 have key:∀(n:Nat) (l:List (Int×Int)),l.length<256→lE CF (0,0) l→∀a b c:Nat,b-a<n→a≤b→b≤l.length→c≤1000→Bf CF (0,0) a b l→i9 l a b c:=by
  intro n;induction n with
  | zero=>intro l _ _ a b c h;omega
  | succ n s =>
   intro l i e a b c hn f g j d;exact wB l i e a b c f g j d fun l' h1 m k b' t u o p q r=>s l' h1 m k b' t (by omega) o p q r
 exact key (b-a+1) l i e a b c (by omega) f g j d
end
def NdA (l:List (Int×Int)):Prop:=l.Pairwise fun a b=>a.1≠b.1
def LtA (l:List (Int×Int)):Prop:=l.Pairwise fun a b=>a.1<b.1
theorem X5 (x:Int×Int) (s:List (Int×Int)):∀n,(∀j,Iu x s n≤j→j<n→x.1<(s.getD j (0,0)).1)∧(Iu x s n=0∨¬x.1<(s.getD (Iu x s n-1) (0,0)).1)
 | 0=>⟨fun j h1 a=>by omega,.inl rfl⟩
 | n+1=>by
  obtain⟨h1,a⟩:=X5 x s n;unfold Iu;split
  ·rename_i h;refine⟨fun j b c=>?_,a⟩;by_cases e:j=n
   ·rw[e];exact h
   ·exact h1 j b (by omega)
  ·rename_i h;exact⟨fun j b c=>by omega,.inr (by simpa using h)⟩
theorem A54 {s:List (Int×Int)} (hs:LtA s) {x:Int×Int} (l:∀a∈s,a.1≠x.1):LtA (Om s x):=by
 obtain⟨h1,c⟩:=X5 x s s.length;have m:=TD x s s.length;unfold Om;generalize Iu x s s.length=p at *;have hp:=hs;unfold LtA at hp;rw[←ABA p s,ABs]at hp;have g:∀i (h:i<s.length),s.getD i (0,0)=s[i]:=fun i h=>by rw[AS,AT h];rfl
 have k:∀a∈s.take p,a.1<x.1:=by
  intro a ha;rcases c with c|c
  ·subst c;simp at ha
  ·obtain⟨i,hi,rfl⟩:=AA6.1 ha;rw[OS]at hi;rw[List.getElem_take];by_cases o:p=0
   ·omega
   have f:p-1<s.length:=by omega
   rw[g (p-1) f]at c;have n:=l s[p-1] (AAs f);by_cases e:i=p-1
   ·subst e;omega
   ·have:=(oR.1 hs) i (p-1) (by omega) f (by omega);omega
 have j:∀a∈s.drop p,x.1<a.1:=by
  intro a ha;obtain⟨i,hi,rfl⟩:=AA6.1 ha;rw[AAr]at hi;rw[List.getElem_drop,←g (p+i) (by omega)];exact h1 (p+i) (by omega) (by omega)
 unfold LtA;rw[oF,ABs];refine⟨hp.1,?_,fun a ha b d=>?_⟩
 ·rw[List.singleton_append,AAx];exact⟨j,hp.2.1⟩
 ·rcases By.1 (by simpa using d:b∈x :: s.drop p) with rfl|d
  ·exact k a ha
  ·exact hp.2.2 a ha b d
theorem Ot {l:List (Int×Int)} (h:NdA l):LtA (AU l):=by
 induction l using Gw with
 | h0=>exact List.Pairwise.nil
 | h1 l a d =>
  unfold NdA at h;rw[ABs]at h;rw[H0];exact A54 (d h.1) fun b c=>h.2.2 b ((B5 l).mem_iff.1 c) a (by simp)
theorem wC {l r:List (Int×Int)} (hp:r.Perm l) (h1:LtA r) (c:LtA l):r=l :=
 List.Perm.eq_of_pairwise (le:=fun a b:Int×Int=>a.1<b.1) (fun a b _ _ d e=>by omega) h1 c hp
theorem sG {l:List (Int×Int)} (h:LtA l):n7 l:=by
 intro i hi;have a:∀i (h:i<l.length),l.getD i (0,0)=l[i]:=fun i h=>by rw[AS,AT h];rfl
 rw[a i (by omega),a (i+1) hi];exact(oR.1 h) i (i+1) (by omega) hi (by omega)
theorem A6H {l:List (Int×Int)} (h:NdA l):lE CF (0,0) l:=by
 rw[sD CP];refine h.imp fun {a b} g e=>g ?_;unfold CF F2 at e;split at e
 ·omega
 ·split at e<;>omega
theorem oC {l r:List (Int×Int)} (h:NdA l) (hp:r.Perm l) (hs:Ra CF (0,0) 0 l.length r):r=AU l:=by
 refine wC (hp.trans (B5 l).symm) (oR.2 fun i j hi b c=>?_) (Ot h);have a:∀i (h:i<r.length),r.getD i (0,0)=r[i]:=fun i h=>by rw[AS,AT h];rfl
 have:=hs i j (NO _) c (by rw[←hp.length_eq];exact b);rw[a i hi,a j b]at this;unfold CF F2 at this;split at this
 ·assumption
 ·split at this<;>omega
theorem Mn {l:List (Int×Int)} (h:NdA l):AU (AU l)=AU l:=Jg (sG (Ot h))
def NdF (f:List AE):Prop:=∀x∈f,NdA x.2∧x.2.length≤200
def ET (f:List AE):List AE:=f.map fun x=>(x.1,AU x.2)
theorem GF (f:List AE):(ET f).length=f.length:=To _
theorem QT (f:List AE) (n:Nat):(ET f).getD n (0,[])=((f.getD n (0,[])).1,AU (f.getD n (0,[])).2):=by
 unfold ET;simp only[AS,AA0];cases f[n]?<;>rfl
theorem Rb {f:List AE} (h:Ae f):Ae (ET f):=by
 refine⟨by rw[GF];exact h.1,fun x d=>?_⟩;obtain⟨y,e,rfl⟩:=GO.1 d;obtain⟨b,c⟩:=h.2 y e;refine⟨by simp only[Cq];exact b,fun a ha=>?_⟩;rw[GF];exact c a ((B5 _).mem_iff.1 ha)
theorem A2h {f:List AE} (h:NdF f):Oq (ET f):=by
 intro x c;obtain⟨y,d,rfl⟩:=GO.1 c;obtain⟨a,b⟩:=h y d;exact⟨sG (Ot a),by simp only[Cq];exact b⟩
theorem sH {f:List AE} (hf:NdF f) (n:Int):NdA (f.getD n.toNat (0,[])).2∧(f.getD n.toNat (0,[])).2.length≤200:=by
 by_cases h:n.toNat<f.length
 ·have a:f.getD n.toNat (0,[])∈f:=by
   rw[AS,AT h];exact AAs h
  exact hf _ a
 ·rw[AS,dO (by omega)];exact⟨List.Pairwise.nil,by simp⟩
theorem SV {f:List AE} (h:NdF f):∀(k:Nat) (s:List Int×List Int) (n:Int),Di (ET f) k s n=Di f k s n
 | 0,_,_=>rfl
 | k+1,s,n=>by
  rw[Dw,Dw,QT];simp only;rw[Mn (sH h n).1];refine AB6 (fun g=>List.foldl g _ _) ?_;funext s a;unfold EP;rw[SV h k s a.2]
theorem wD {f:List AE} (h:NdF f) (r:Int):Fx (ET f) r=Fx f r:=by
 have a:GD (ET f) r=GD f r:=by
  unfold GD;rw[GF,SV h]
 unfold Fx;rw[a];refine tO fun n _=>?_;unfold Lx;rw[QT];simp only;rw[Mn (sH h n).1]
theorem jA {f:List AE} (hf:Ae f) (hn:NdF f) {root:Int} (h0:0≤root) (h1:root<f.length):Fx f root=AQ (ET f) root:=by
 rw[←wD hn];exact Iy (Rb hf) (A2h hn) h0 (by rw[GF];exact h1)
theorem A2i {L:Go.Loop} (h1:L.state=.ready) (a:L.pending=none):{ { L with state:=.busy } with state:=.ready,pending:=none }=L:=by
 cases L;simp_all
theorem X6 (l:List (Int×Int)):BA Tryz.prog 115 [.p Cl l] [] [] (fun res c=>res=.clo 149 [1]∧c=[(1,.box 47 false [.p Cl l])]):=by
 refine J1 [0,1,2] [] [] Tryz.func115 Tryz.ntmps115 AG ?_;intro w0 K O0 ρ0 a d e;simp only[Ah];repeat'(first|exact trivial|refine eS rfl ?_|refine AB ?_|refine rX a ?_ ?_|refine rC ?_ ?_<;>intro b<;>try(cases b;done))
 exact fM a [.tmp 2] (.clo 149 [1]) eT ⟨rfl,rfl⟩
def CT (l:List (Int×Int)) (L:Go.Loop) (a:Array Value) (i:Nat):List (Nat×Obj):=[(1,.box 47 false [.p Cl l]),(101,.loop L),(102,.frame a [(2,.bp 2 [] 0),(6,.clo 149 [1])]),(2,.box 47 false [.sr 7 BE 0 i]),(7,.arr 53 BE (l.take i))]
theorem oD (l:List (Int×Int)) (g:l.length≤100000) (L:Go.Loop) (b:Array Value) (f:∀i,i<l.length→bS Tryz.prog 101 [.p BE (l.getD i (0,0))] (CT l L b i) [1,101,102,2] (fun res e=>res=.p .bool true∧e=CT l L b (i+1))) :
  BA Tryz.prog 149 [.yl 101,.bp 1 [] 0] (CT l L b 0) [1,101,102,2] (fun res e=>res=.raw (.tuple #[])∧e=CT l L b l.length):=by
 refine J1 [0,1,4,5,6,7,8,14] [] [] Tryz.func149 Tryz.ntmps149 AG ?_;intro w0 K O0 ρ0 a h j;simp only[Ah,CT];repeat'(first|exact trivial|refine eS rfl ?_|refine AB ?_|refine rX a ?_ ?_|refine rC ?_ ?_<;>intro c<;>try(cases c;done))
 refine AH (ι:={i:Nat//i≤l.length}) (fun i=>⟨[(0,.yl 101),(1,.bp 1 [] 0),(5,.p Cl l),(6,.p (.int .i64) (l.length:Int)),(7,.p (.int .i64) (i.1:Int))],CT l L b i.1⟩) (fun i=>l.length-i.1) ⟨0,by omega⟩ (AC [(1,.nm 1),(101,.nm 101),(102,.nm 102),(2,.nm 2),(7,.nm 7)] rfl rfl ?_ ?_) (fun i=>?_)
 ·simp only[CT];exact eN
 ·exact eN
 ·obtain⟨i,hi⟩:=i;simp only[CT];repeat'(first|exact trivial|refine eS rfl ?_|refine AB ?_|refine rX a ?_ ?_|refine rC ?_ ?_<;>intro c<;>try(cases c;done))
  ·exact eV
  ·have d:i<l.length:=by exact eV
   refine cP 2 a ?_ ?_
   ·trivial
   ·refine rY 101 101 a (f i d) [(1,.nm 1),(101,.nm 101),(102,.nm 102),(2,.nm 2),(7,.nm 7)] [7] ?_ ?_ ?_
    ·exact eN
    ·simp only[CT];exact eN
    ·rintro _ _ ⟨rfl,rfl⟩;refine⟨[(1,.nm 1),(101,.nm 101),(102,.nm 102),(2,.nm 2),(7,.nm 7)],.p .bool true,CT l L b (i+1),rfl,rfl,?_,?_,rfl,rfl,?_⟩
     ·simp only[CT];exact eN
     ·exact eN
     ·simp only[CT];refine IY [0,1,5,6,7,14] a (by simp only[go_sem,Nat.reduceEqDiff,reduceCtorEq,Nat.reduceAdd,Nat.reduceSub,Nat.reduceMul,Nat.reduceLeDiff,Nat.reduceLT,Int.reduceLE,Int.reduceToNat,Int.reduceNeg,↓reduceIte];rfl) ?_ ?_
      ·trivial
      ·repeat'(first|exact trivial|refine eS rfl ?_|refine AB ?_|refine rX a ?_ ?_|refine rC ?_ ?_<;>intro c<;>try(cases c;done))
       ·exact eV
       ·refine⟨⟨i+1,by omega⟩,by simp only;omega,AC [(1,.nm 1),(101,.nm 101),(102,.nm 102),(2,.nm 2),(7,.nm 7)] rfl rfl ?_ ?_⟩
        ·simp only[CT];exact eN
        ·exact eN
  ·have d:i=l.length:=by exact eV
   subst d;refine fM a [] (.raw (.tuple #[])) rfl ⟨rfl,?_⟩;simp only[CT,iS]
theorem Zh (l:List (Int×Int)) (o:l.length≤100000):BA Tryz.prog 162 [.raw (.slice none 0 0),.clo 149 [1]] [(1,.box 47 false [.p Cl l])] [] (fun res r=>res=.sr 7 BE 0 l.length∧r=[(7,.arr 53 BE l)]):=by
 refine fKR [0,1,2,4,5,6,7] [] [] Tryz.func162 Tryz.ntmps162 AG ?_;intro w0 K O0 ρ0 a u v;simp only[Ah];repeat'(first|exact trivial|refine eS rfl ?_|refine AB ?_|refine rX a ?_ ?_|refine rC ?_ ?_<;>intro c<;>try(cases c;done))
 refine z3 a rfl rfl (by simp only[go_sem,Nat.reduceEqDiff,reduceCtorEq,Nat.reduceAdd,Nat.reduceSub,Nat.reduceMul,Nat.reduceLeDiff,Nat.reduceLT,Int.reduceLE,Int.reduceToNat,Int.reduceNeg,↓reduceIte];rfl) 101 103 102 rfl rfl rfl rfl ?_;intro L d f g h j k m q;refine⟨_,CT l L d 0,[1,101,102,2],_,[(1,.nm 1),(101,.nm 101),(102,.nm 102),(2,.nm 2),(7,.nil)],[],oD l o L d ?_,rfl,rfl,?_,?_,rfl,?_⟩
 ·intro i hi;refine z2 (fr:=102) rfl rfl f j k m h q rfl (by kernel_rfl) (by simp) rfl rfl (by kernel_rfl) (by kernel_rfl) (tyTab_ok [] [0,1,2,4,5,6,7]) AG ?_;intro z s t A y a w x n;simp only[CT,HS];repeat'(first|exact trivial|refine eS rfl ?_|refine AB ?_|refine rX a ?_ ?_|refine rC ?_ ?_<;>intro c<;>try(cases c;done))
  refine⟨rfl,?_⟩;repeat'(first|exact trivial|refine eS rfl ?_|refine AB ?_|refine rX a ?_ ?_|refine rC ?_ ?_<;>intro c<;>try(cases c;done))
  ·simp only[AO];omega
  ·have e:List.take i (List.take i l)++[((l.getD i (0,0)).1,(l.getD i (0,0)).2)]=l.take (i+1):=by
    rw[AX l (0,0) hi,An (ACh (by rw[OS];omega):(l.take i).length≤i)]
   refine Ev.ent (σ':=⟨[],[(1,.box 47 false [.p Cl l]),(101,.loop { L with state:=.busy }),(102,.frame d [(2,.bp 2 [] 0),(6,.clo 149 [1])]),(2,.box 47 false [.sr 7 BE 0 (i+1)]),(7,.arr 53 BE (l.take (i+1)))]⟩) ?_ (AC [(1,.nm 1),(101,.nm 101),(102,.nm 102),(2,.nm 2),(7,.nm 7)] rfl rfl ?_ ?_)
   ·refine uV a (yn:=101) rfl rfl (by simp) n ⟨rfl,?_⟩;simp only[CT,go_sem,Nat.reduceEqDiff,reduceCtorEq,Nat.reduceAdd,Nat.reduceSub,Nat.reduceMul,Nat.reduceLeDiff,Nat.reduceLT,Int.reduceLE,Int.reduceToNat,Int.reduceNeg,↓reduceIte,A2i f g]
   ·refine eM ?_;exact e
   ·exact eN
 ·simp only[Bl];exact eN
 ·simp only[Bl,CT];exact eN
 ·rintro _ _ ⟨rfl,rfl⟩;refine⟨[(1,.nm 1),(101,.nm 101),(102,.nm 102),(2,.nm 2),(7,.nm 7)],CT l L d l.length,L,rfl,rfl,?_,rfl,rfl,rfl,by rw[f];rfl,?_⟩
  ·simp only[CT];exact eN
  ·intro b;rw[g];simp only[EvJ,CT,Bl,go_sem,Nat.reduceEqDiff,reduceCtorEq,Nat.reduceAdd,Nat.reduceSub,Nat.reduceMul,Nat.reduceLeDiff,Nat.reduceLT,Int.reduceLE,Int.reduceToNat,Int.reduceNeg,↓reduceIte];replace a:=uW (dn:=103) (b:=b) a;repeat'(first|exact trivial|refine eS rfl ?_|refine AB ?_|refine rX a ?_ ?_|refine rC ?_ ?_<;>intro c<;>try(cases c;done))
   refine Ev.ent (σ':=⟨[(4,.sr 7 BE 0 l.length)],[(7,.arr 53 BE l),(103,.dfr)]⟩) ?_ (AC [(7,.nm 7),(103,.nm 103)] rfl rfl ?_ ?_)
   ·exact z6 a [.tmp 4] rfl (.inl rfl) rfl rfl (.sr 7 BE 0 l.length) eT ⟨rfl,by simp only[go_sem,Nat.reduceEqDiff,reduceCtorEq,Nat.reduceAdd,Nat.reduceSub,Nat.reduceMul,Nat.reduceLeDiff,Nat.reduceLT,Int.reduceLE,Int.reduceToNat,Int.reduceNeg,↓reduceIte]⟩
   ·exact eN
   ·exact eN
theorem oE (l:List (Int×Int)) (c:l.length≤100000):BA Tryz.prog 147 [.clo 149 [1]] [(1,.box 47 false [.p Cl l])] [] (fun res d=>res=.sr 7 BE 0 l.length∧d=[(7,.arr 53 BE l)]):=by
 refine J1 [0,2] [] [] Tryz.func147 Tryz.ntmps147 AG ?_;intro w0 K O0 ρ0 a e f;simp only[Ah];repeat'(first|exact trivial|refine eS rfl ?_|refine AB ?_|refine rX a ?_ ?_|refine rC ?_ ?_<;>intro b<;>try(cases b;done))
 refine cP 1 a ?_ ?_
 ·trivial
 ·refine rM a (Zh l c) [(1,.nm 1)] [1] ?_ ?_ ?_
  ·exact eN
  ·exact eN
  ·rintro _ _ ⟨rfl,rfl⟩;refine⟨[(7,.nm 7)],.sr 7 BE 0 l.length,[(7,.arr 53 BE l)],rfl,rfl,?_,?_,rfl,rfl,?_⟩
   ·exact eN
   ·exact eN
   ·refine IY [2] a (by simp only[go_sem,Nat.reduceEqDiff,reduceCtorEq,Nat.reduceAdd,Nat.reduceSub,Nat.reduceMul,Nat.reduceLeDiff,Nat.reduceLT,Int.reduceLE,Int.reduceToNat,Int.reduceNeg,↓reduceIte];rfl) ?_ ?_
    ·trivial
    ·repeat'(first|exact trivial|refine eS rfl ?_|refine AB ?_|refine rX a ?_ ?_|refine rC ?_ ?_<;>intro b<;>try(cases b;done))
     exact fM a [.tmp 2] (.sr 7 BE 0 l.length) eT ⟨rfl,rfl⟩
theorem jB (l:List (Int×Int)) (h:l.length≤200) (hs:NdA l):BA Tryz.prog 148 [.sr 1000000 BE 0 l.length,.fn 116] [(1000000,.arr 53 BE l)] [1000000] (fun res f=>res=.raw (.tuple #[])∧f=[(1000000,.arr 53 BE (AU l))]):=by
 have d:=A6H hs;refine J1 [0,1,4] [] [] Tryz.func148 Tryz.ntmps148 AG ?_;intro w0 K O0 ρ0 a i j;simp only[Ah];repeat'(first|exact trivial|refine eS rfl ?_|refine AB ?_|refine rX a ?_ ?_|refine rC ?_ ?_<;>intro b<;>try(cases b;done))
 refine cP 4 a ?_ ?_
 ·exact eV
 ·refine rM a (sF (l.length:Int) (by omega) (by omega)) [] [] ?_ ?_ ?_
  ·exact eN
  ·exact eN
  ·rintro _ _ ⟨⟨n,rfl,g,-⟩,rfl⟩;refine⟨[],.p T3 (n:Int),[],rfl,rfl,?_,?_,rfl,rfl,?_⟩
   ·exact eN
   ·exact eN
   ·have key:=A53 l (by omega) d 0 l.length n (NO _) (Is _) (by omega) (.inl rfl);unfold i9 at key;rw[show ((0:Nat):Int)=0 from rfl]at key;refine S5 a 1 (by simp only[go_sem,Nat.reduceEqDiff,reduceCtorEq,Nat.reduceAdd,Nat.reduceSub,Nat.reduceMul,Nat.reduceLeDiff,Nat.reduceLT,Int.reduceLE,Int.reduceToNat,Int.reduceNeg,↓reduceIte];rfl) ?_ ?_
    ·trivial
    ·refine rM a (key) [(1000000,.nm 1000000)] [] ?_ ?_ ?_
     ·exact eN
     ·exact eN
     ·rintro _ _ ⟨rfl,r,rfl,hp,e⟩;have c:=oC hs hp.perm e;subst c;have k:=Cq l;refine⟨[(1000000,.nm 1000000)],.raw (.tuple #[]),[(1000000,.arr 53 BE (AU l))],rfl,rfl,?_,?_,rfl,rfl,CS ?_⟩
      ·exact eN
      ·exact eN
      ·repeat'(first|exact trivial|refine eS rfl ?_|refine AB ?_|refine rX a ?_ ?_|refine rC ?_ ?_<;>intro b<;>try(cases b;done))
       exact fM a [] (.raw (.tuple #[])) rfl ⟨rfl,rfl⟩
theorem Ny (l:List (Int×Int)) (c:l.length≤200) (hs:NdA l):BA Tryz.prog 114 [.clo 149 [1],.fn 116] [(1,.box 47 false [.p Cl l])] [] (fun res d=>res=.sr 7 BE 0 l.length∧d=[(7,.arr 53 BE (AU l))]):=by
 have g:=Cq l;refine J1 [0,1,4,5] [] [] Tryz.func114 Tryz.ntmps114 AG ?_;intro w0 K O0 ρ0 a e f;simp only[Ah];repeat'(first|exact trivial|refine eS rfl ?_|refine AB ?_|refine rX a ?_ ?_|refine rC ?_ ?_<;>intro b<;>try(cases b;done))
 refine cP 1 a ?_ ?_
 ·trivial
 ·refine rM a (oE l (by omega)) [(1,.nm 1)] [1] ?_ ?_ ?_
  ·exact eN
  ·exact eN
  ·rintro _ _ ⟨rfl,rfl⟩;refine⟨[(1000000,.nm 7)],.sr 1000000 BE 0 l.length,[(1000000,.arr 53 BE l)],rfl,rfl,?_,?_,rfl,rfl,?_⟩
   ·exact eN
   ·exact eN
   ·refine IY [1,5] a (by simp only[go_sem,Nat.reduceEqDiff,reduceCtorEq,Nat.reduceAdd,Nat.reduceSub,Nat.reduceMul,Nat.reduceLeDiff,Nat.reduceLT,Int.reduceLE,Int.reduceToNat,Int.reduceNeg,↓reduceIte];rfl) ?_ ?_
    ·trivial
    ·repeat'(first|exact trivial|refine eS rfl ?_|refine AB ?_|refine rX a ?_ ?_|refine rC ?_ ?_<;>intro b<;>try(cases b;done))
     refine cP 2 a ?_ ?_
     ·trivial
     ·refine rM a (jB l c hs) [(1000000,.nm 1000000)] [] ?_ ?_ ?_
      ·exact eN
      ·exact eN
      ·rintro _ _ ⟨rfl,rfl⟩;refine⟨[(1000000,.nm 1000000)],.raw (.tuple #[]),[(1000000,.arr 53 BE (AU l))],rfl,rfl,?_,?_,rfl,rfl,CS ?_⟩
       ·exact eN
       ·exact eN
       ·repeat'(first|exact trivial|refine eS rfl ?_|refine AB ?_|refine rX a ?_ ?_|refine rC ?_ ?_<;>intro b<;>try(cases b;done))
        refine Ev.ent (σ':=⟨[(4,.sr 7 BE 0 l.length)],[(7,.arr 53 BE (AU l))]⟩) ?_ (AC [(7,.nm 1000000)] rfl rfl ?_ ?_)
        ·exact fM a [.tmp 4] (.sr 7 BE 0 l.length) eT ⟨rfl,rfl⟩
        ·exact eN
        ·exact eN
def L1 (f:List AE) (o:List Int):List (Nat×Obj):=[(1,.box 60 false [.sr 5 T3 0 o.length]),(2,.box 160 false [.mp 6]),(3,.box 25 true [.p Em f]),(4,.box 124 false [.clo 113 [1,2,3,4]]),(5,.arr 3 T3 o),(6,.mapo T3 T3 (x8 o))]
theorem A9v {f:List AE} {o:List Int} (h:La f o):La (ET f) o:=⟨h.nd,fun x a=>by rw[GF];exact h.rng x a⟩
theorem A5Y {f:List AE} {o:List Int} (h:La (ET f) o):La f o:=⟨h.nd,fun x a=>by have:=h.rng x a;rwa [GF]at this⟩
theorem wE (f:List AE) (hf:Ae f) (hs:NdF f):∀(k:Nat) (o:List Int) (n:Int),La f o→0≤n→n<f.length→n∉o→f.length-o.length≤k →
  BA Tryz.prog 113 [.p T3 n,.bp 1 [] 0,.bp 2 [] 0,.bp 3 [] 0,.bp 4 [] 0] (L1 f o) [1,2,3,4,6] (fun res Q=>res=.raw (.tuple #[])∧Q=L1 f (Eh (ET f) k o n)):=by
 intro k;induction k with
 | zero =>
  intro o n h0 h1 A B R;have:=(h0.snoc h1 A B).len;simp only[Do,aS]at this;omega
 | succ k P =>
  intro o n D u v w hk;have t:=D.snoc u v w;have I:=t.len;simp only[Do,aS]at I;have S:=hf.1;refine J1 [0,1,2,3,4,7,9,25,26,27,28,39] [] [] Tryz.func113 Tryz.ntmps113 AG ?_;intro w0 K O0 ρ0 c T U;simp only[L1,Ah];repeat'(first|exact trivial|refine eS rfl ?_|refine AB ?_|refine rX c ?_ ?_|refine rC ?_ ?_<;>intro b<;>try(cases b;done))
  ·simp only[AO];omega
  ·rw[A2a w];obtain⟨O,G⟩:=sH hs n;have s:=fun a (ha:a∈AU (f.getD n.toNat (0,[])).2)=>B9 hf ((B5 _).mem_iff.1 ha);have F:Eh (ET f) (k+1) o n=(AU (f.getD n.toNat (0,[])).2).foldl (Ac (ET f) k) (o++[n]):=by rw[DB,QT]
   have E:=A9v (f:=f) t;refine cP 6 c ?_ ?_
   ·exact⟨u,v⟩
   ·generalize (f.getD n.toNat (0,[])).2=g at *;refine rM c (X6 g) [] [] ?_ ?_ ?_
    ·exact eN
    ·exact eN
    ·rintro _ _ ⟨rfl,rfl⟩;refine⟨[(50,.nm 1)],.clo 149 [50],[(50,.box 47 false [.p Cl g])],rfl,rfl,?_,?_,rfl,rfl,?_⟩
     ·exact eN
     ·exact eN
     ·refine rM c (Ny g G O) [(1,.nm 50)] [50] ?_ ?_ ?_
      ·exact eN
      ·exact eN
      ·rintro _ _ ⟨rfl,rfl⟩;have C:=Cq g;rw[←C];generalize AU g=L at *;refine⟨[(51,.nm 7)],.sr 51 BE 0 L.length,[(51,.arr 53 BE L)],rfl,rfl,?_,?_,rfl,rfl,?_⟩
       ·exact eN
       ·exact eN
       ·refine IY [0,1,2,3,4,25,26,27] c (by simp only[go_sem,Nat.reduceEqDiff,reduceCtorEq,Nat.reduceAdd,Nat.reduceSub,Nat.reduceMul,Nat.reduceLeDiff,Nat.reduceLT,Int.reduceLE,Int.reduceToNat,Int.reduceNeg,↓reduceIte];rfl) ?_ ?_
        ·trivial
        ·have N:∀i,La (ET f) ((L.take i).foldl (Ac (ET f) k) (o++[n]))∧o++[n] <+: (L.take i).foldl (Ac (ET f) k) (o++[n]):=fun i=>E1 (EB (Rb hf) k) _ _ (fun a ha=>by rw[GF];exact s a (AAu ha)) E;generalize J:o++[n]=q at *;have M:q.length=o.length+1:=by rw[←J];simp
         rw[←M];repeat'(first|exact trivial|refine eS rfl ?_|refine AB ?_|refine rX c ?_ ?_|refine rC ?_ ?_<;>intro b<;>try(cases b;done))
         refine AH (ι:={i:Nat//i≤L.length}) (fun i=>⟨[(0,.p T3 n),(1,.bp 1 [] 0),(2,.bp 2 [] 0),(3,.bp 3 [] 0),(4,.bp 4 [] 0),(25,.p Cl L),(26,.p (.int .i64) (L.length:Int)),(27,.p (.int .i64) (i.1:Int))],L1 f ((L.take i.1).foldl (Ac (ET f) k) q)⟩) (fun i=>L.length-i.1) ⟨0,by omega⟩ (A7D [51] (AC [(1,.nm 1),(2,.nm 2),(3,.nm 3),(4,.nm 4),(5,.nm 5),(6,.nm 6)] rfl rfl ?_ ?_)) (fun i=>?_)
         ·simp only[L1,AAX,ACE];exact eN
         ·exact eN
         ·obtain⟨i,hi⟩:=i;obtain⟨j,y⟩:=N i;replace j:=A5Y j;have r:=fun(h:i<L.length)=>NK (Ac (ET f) k) L (0,0) q h;have H:=y.length_le;generalize x:(L.take i).foldl (Ac (ET f) k) q=d at j y r H;simp only[L1];repeat'(first|exact trivial|refine eS rfl ?_|refine AB ?_|refine rX c ?_ ?_|refine rC ?_ ?_<;>intro b<;>try(cases b;done))
          ·exact eV
          ·have l:i<L.length:=by exact eV
           have z:=s _ (AD L (0,0) l);have m:(L.getD i (0,0)).2∉d:=by rw[VS]at b;simpa using b
           refine cP 3 c ?_ ?_
           ·trivial
           ·refine rM c (P d (L.getD i (0,0)).2 j z.1 z.2 m (by omega)) [(1,.nm 1),(2,.nm 2),(3,.nm 3),(4,.nm 4),(5,.nm 5),(6,.nm 6)] [5] ?_ ?_ ?_
            ·exact eN
            ·simp only[L1];exact eN
            ·rintro _ _ ⟨rfl,rfl⟩;refine⟨[(1,.nm 1),(2,.nm 2),(3,.nm 3),(4,.nm 4),(5,.nm 5),(6,.nm 6)],.raw (.tuple #[]),L1 f (Eh (ET f) k d (L.getD i (0,0)).2),rfl,rfl,?_,?_,rfl,rfl,CS ?_⟩
             ·simp only[L1];exact eN
             ·exact eN
             ·simp only[L1];repeat'(first|exact trivial|refine eS rfl ?_|refine AB ?_|refine rX c ?_ ?_|refine rC ?_ ?_<;>intro b<;>try(cases b;done))
              ·exact eV
              ·have e:Ac (ET f) k d (L.getD i (0,0))=Eh (ET f) k d (L.getD i (0,0)).2:=At m;refine⟨⟨i+1,by omega⟩,by simp only;omega,AC [(1,.nm 1),(2,.nm 2),(3,.nm 3),(4,.nm 4),(5,.nm 5),(6,.nm 6)] rfl rfl ?_ ?_⟩
               ·simp only[r l,e];exact eN
               ·exact eN
          ·exact eV
          ·have l:i<L.length:=by exact eV
           have m:(L.getD i (0,0)).2∈d:=by rw[VS]at b;simpa using b
           have e:Ac (ET f) k d (L.getD i (0,0))=d:=BY m;refine⟨⟨i+1,by omega⟩,by simp only;omega,AC [(1,.nm 1),(2,.nm 2),(3,.nm 3),(4,.nm 4),(5,.nm 5),(6,.nm 6)] rfl rfl ?_ ?_⟩
           ·simp only[r l,e];exact eN
           ·exact eN
          ·have hk:L.take i=L:=An (by exact eV);rw[hk]at x;rw[F,x];exact fM c [] (.raw (.tuple #[])) rfl ⟨rfl,rfl⟩
section
theorem wF {α a:Type} (g:α→a) (o:List α) (d:α) (z:a) {i:Nat} (h:i<o.length):((o.take i).map g++List.replicate (o.length-i) z).set i (g (o.getD i d))=(o.take (i+1)).map g++List.replicate (o.length-(i+1)) z:=by
 obtain⟨m,c⟩:∃m,o.length-i=m+1:=⟨o.length-i-1,by omega⟩;have e:o.length-(i+1)=m:=by omega
 have b:((o.take i).map g).length=i:=by rw[To,OS];omega
 rw[c,e,AAO _ _ (by omega),b,AAI,AC0,ABf,AX o d h,AAl];simp
def TJ:Ad:={ ins:=[E9,T3],pre:=fun(f,n,_)=>Ae f∧NdF f∧0≤n∧n<(List.length f:Int),out:=fun(f,n,_)=>[.p E9 (AQ (ET f) n)] }
attribute [local go_sem] TJ
theorem wG:Ag Tryz.prog 77 TJ:=by
 refine fK [0,1,2,4,5,6,7,8,9,10,11,12,22,23,24,25,38,39,40] Tryz.func77 Tryz.ntmps77 AG ?_;rintro w0 O0 ⟨f,root,u⟩ a-⟨hf,hs,r,s⟩;simp only[TJ,AM];have z:=hf.1;have j:La f []:=⟨by simp,fun x C=>by cases C⟩;obtain⟨g,H⟩:=EB (Rb hf) f.length [] root (A9v j) r (by rw[GF];exact s) (by simp);replace g:=A5Y g;have w:AQ (ET f) root=(Eh (ET f) f.length [] root).map (E2 (ET f) (Eh (ET f) f.length [] root)):=by unfold AQ;rw[GF]
 rw[w];repeat'(first|exact trivial|refine eS rfl ?_|refine AB ?_|refine rX a ?_ ?_|refine rC ?_ ?_<;>intro c<;>try(cases c;done))
 refine cP 2 a ?_ ?_
 ·trivial
 ·refine rM a (wE f hf hs (List.length f) [] root j r s (by simp) (by simp)) [(1,.nm 6),(2,.nm 5),(3,.nm 2),(4,.nm 7),(5,.nil),(6,.nm 13)] [] ?_ ?_ ?_
  ·exact eN
  ·simp only[L1];refine eM ?_;rfl
  ·rintro _ _ ⟨rfl,rfl⟩;refine⟨[(6,.nm 1),(5,.nm 2),(2,.nm 3),(7,.nm 4),(101,.nm 5),(13,.nm 6)],.raw (.tuple #[]),[(6,.box 60 false [.sr 101 T3 0 (Eh (ET f) (List.length f) [] root).length]),(5,.box 160 false [.mp 13]),(2,.box 25 true [.p Em f]),(7,.box 124 false [.clo 113 [6,5,2,7]]),(101,.arr 3 T3 (Eh (ET f) (List.length f) [] root)),(13,.mapo T3 T3 (x8 (Eh (ET f) (List.length f) [] root)))],rfl,rfl,?_,?_,rfl,rfl,CS ?_⟩
   ·simp only[L1];exact eN
   ·exact eN
   ·generalize Eh (ET f) (List.length f) [] root=o at *;have G:=g.len;repeat'(first|exact trivial|refine eS rfl ?_|refine AB ?_|refine rX a ?_ ?_|refine rC ?_ ?_<;>intro c<;>try(cases c;done))
    ·simp only[AO];omega
    ·refine AH (ι:={i:Nat//i≤o.length}) (fun i=>⟨[(2,.bp 2 [] 0),(4,.bp 4 [] 0),(5,.bp 5 [] 0),(8,.bp 8 [] 0),(22,.sr 101 T3 0 o.length),(23,.p (.int .i64) (o.length:Int)),(24,.p (.int .i64) (i.1:Int))],[(8,.box 25 true [.sr 20 JD 0 o.length]),(20,.arr 49 JD ((o.take i.1).map (E2 (ET f) o)++List.replicate (o.length-i.1) (0,[]))),(5,.box 160 false [.mp 13]),(2,.box 25 true [.p Em f]),(101,.arr 3 T3 o),(13,.mapo T3 T3 (x8 o)),(4,.box 25 true [.raw (.slice none 0 0)])]⟩) (fun i=>o.length-i.1) ⟨0,by omega⟩ (eW [(8,.nm 8),(20,.nm 20),(5,.nm 5),(2,.nm 2),(101,.nm 101),(13,.nm 13),(4,.nm 4)]) (fun i=>?_)
     ·obtain⟨i,hi⟩:=i;repeat'(first|exact trivial|refine eS rfl ?_|refine AB ?_|refine rX a ?_ ?_|refine rC ?_ ?_<;>intro c<;>try(cases c;done))
      ·exact eV
      ·have l:i<o.length:=by exact eV
       have hn:=g.rng _ (AD o 0 l);have q:E2 (ET f) o (o.getD i 0)=((f.getD (o.getD i 0).toNat (0,[])).1,(AU (f.getD (o.getD i 0).toNat (0,[])).2).map (Oo o)):=by unfold E2;rw[QT]
       obtain⟨t,m⟩:=sH hs (o.getD i 0);refine cP 6 a ?_ ?_
       ·exact hn
       ·have F:List.length f≤100000:=z;generalize B:o.getD i 0=n at *;generalize A:f.getD n.toNat (0,[])=x at *;obtain⟨I,d⟩:=x;simp only at t m q;refine rM a (X6 d) [] [] ?_ ?_ ?_
        ·exact eN
        ·exact eN
        ·rintro _ _ ⟨rfl,rfl⟩;refine⟨[(50,.nm 1)],.clo 149 [50],[(50,.box 47 false [.p Cl d])],rfl,rfl,?_,?_,rfl,rfl,?_⟩
         ·exact eN
         ·exact eN
         ·refine rM a (Ny d m t) [(1,.nm 50)] [50] ?_ ?_ ?_
          ·exact eN
          ·exact eN
          ·rintro _ _ ⟨rfl,rfl⟩;have v:=Cq d;rw[←v];generalize E:AU d=L at *;refine⟨[(51,.nm 7)],.sr 51 BE 0 L.length,[(51,.arr 53 BE L)],rfl,rfl,?_,?_,rfl,rfl,?_⟩
           ·exact eN
           ·exact eN
           ·refine IY [2,4,5,8,9,10,11,22,23,24] a (by simp only[go_sem,Nat.reduceEqDiff,reduceCtorEq,Nat.reduceAdd,Nat.reduceSub,Nat.reduceMul,Nat.reduceLeDiff,Nat.reduceLT,Int.reduceLE,Int.reduceToNat,Int.reduceNeg,↓reduceIte];rfl) ?_ ?_
            ·trivial
            ·repeat'(first|exact trivial|refine eS rfl ?_|refine AB ?_|refine rX a ?_ ?_|refine rC ?_ ?_<;>intro c<;>try(cases c;done))
             refine AH (ι:={k:Nat//k≤L.length}) (fun k=>⟨[(2,.bp 2 [] 0),(4,.bp 4 [] 0),(5,.bp 5 [] 0),(8,.bp 8 [] 0),(9,.p (.int .i64) (i:Int)),(10,.p T3 n),(11,.sr 51 BE 0 L.length),(22,.sr 101 T3 0 o.length),(23,.p (.int .i64) (o.length:Int)),(24,.p (.int .i64) (i:Int)),(38,.p (.int .i64) (L.length:Int)),(39,.p (.int .i64) (k.1:Int))],[(51,.arr 53 BE ((L.take k.1).map (Oo o)++L.drop k.1)),(8,.box 25 true [.sr 20 JD 0 o.length]),(20,.arr 49 JD ((o.take i).map (E2 (ET f) o)++List.replicate (o.length-i) (0,[]))),(5,.box 160 false [.mp 13]),(2,.box 25 true [.p Em f]),(101,.arr 3 T3 o),(13,.mapo T3 T3 (x8 o)),(4,.box 25 true [.raw (.slice none 0 0)])]⟩) (fun k=>L.length-k.1) ⟨0,by omega⟩ (eW [(51,.nm 51),(8,.nm 8),(20,.nm 20),(5,.nm 5),(2,.nm 2),(101,.nm 101),(13,.nm 13),(4,.nm 4)]) (fun k=>?_)
             ·obtain⟨k,hk⟩:=k;repeat'(first|exact trivial|refine eS rfl ?_|refine AB ?_|refine rX a ?_ ?_|refine rC ?_ ?_<;>intro c<;>try(cases c;done))
              ·exact eV
              ·exact eV
              ·have h:k<L.length:=by exact eV
               have e:=VB (Oo o) (fun b=>b) L (0,0) h (Oo o);refine⟨⟨k+1,by omega⟩,by simp only;omega,AC [(51,.nm 51),(8,.nm 8),(20,.nm 20),(5,.nm 5),(2,.nm 2),(101,.nm 101),(13,.nm 13),(4,.nm 4)] rfl rfl ?_ ?_⟩
               ·refine eM ?_;rw[e.2];rw[←e.1];unfold Oo;rw[←A4T]
               ·exact eN
              ·exact⟨hn,by exact eV⟩
              ·exact eV
              ·have h:L.take k=L:=An (by exact eV);have y:L.drop k=[]:=IF (by exact eV);refine⟨⟨i+1,by omega⟩,by simp only;omega,AC [(8,.nm 8),(20,.nm 20),(5,.nm 5),(2,.nm 2),(101,.nm 101),(13,.nm 13),(4,.nm 4)] rfl rfl ?_ ?_⟩
               ·refine eM ?_;rw[h,y,AAh];have e:=wF (E2 (ET f) o) o 0 (0,[]) l;rw[B,q]at e;rw[←e,A,An (by simp:(L.map (Oo o)).length≤L.length)]
               ·exact eN
      ·have hk:o.take i=o:=An (by exact eV);have D:o.length-i=0:=by exact eV
       rw[hk,D];exact fI a [.cell 4 25] (by simp only[List.replicate_zero,AAh];first|exact eR|refine bW ?_;exact An (by rw[To];exact eV))
end
section
attribute [local go_sem] HG iP
theorem jC {a b:Int}:F2 a b=0↔a=b:=by
 unfold F2;split
 ·constructor<;>intro h<;>omega
 ·split
  ·constructor<;>intro h<;>omega
  ·exact⟨fun _=>by omega,fun _=>rfl⟩
def Wm:List Int→Int
 | []=>0
 | x :: l=>if x=0 then Wm l else x
theorem jD {l:List Int} {k:Nat} (h:k<l.length):Wm (l.drop k)=if l.getD k 0=0 then Wm (l.drop (k+1)) else l.getD k 0:=by
 rw[ON h];have e:l.getD k 0=l[k]:=by simp[AS,h]
 rw[e];rfl
def oG:Ad:={ ins:=[GM],pre:=fun _=>True,out:=fun(l,_)=>[.p T3 (Wm l)],lend:=true }
attribute [local go_sem] oG
theorem jE:Ag Tryz.prog 158 oG:=by
 refine fK [0,2,3,5,6,7,8,9,14] Tryz.func158 Tryz.ntmps158 AG ?_;rintro w0 O0 ⟨l,u⟩ c ⟨⟨f,-⟩,-⟩ -;simp only[AO]at f;simp only[oG,AM];repeat'(first|exact trivial|refine eS rfl ?_|refine AB ?_|refine rX c ?_ ?_|refine rC ?_ ?_<;>intro b<;>try(cases b;done))
 refine AH (ι:={k:Nat//k≤List.length l∧Wm l=Wm ((l:List Int).drop k)}) (fun k=>⟨[(3,.p T3 0),(6,.p GM l),(7,.p (.int .i64) (List.length l:Int)),(8,.p (.int .i64) (k.1:Int))],[]⟩) (fun k=>List.length l-k.1) ⟨0,NO _,rfl⟩ (AC [] rfl rfl ?_ ?_) (fun k=>?_)
 ·first|exact eN|refine eM ?_
 ·first|exact eN|refine eM ?_
 ·obtain⟨k,hk,a⟩:=k;repeat'(first|exact trivial|refine eS rfl ?_|refine AB ?_|refine rX c ?_ ?_|refine rC ?_ ?_<;>intro b<;>try(cases b;done))
  ·exact b
  ·have d:k<List.length l:=by exact eV
   rw[jD d,At b]at a;exact fI c [.tmp 2] (by rw[a];exact eR)
  ·exact eV
  ·have d:k<List.length l:=by exact eV
   rw[jD d,BY (by simpa using b)]at a;refine⟨⟨k+1,d,a⟩,by simp only;omega,AC [] rfl rfl ?_ ?_⟩
   ·first|exact eN|refine eM ?_
   ·first|exact eN|refine eM ?_
  ·have e:List.drop k (l:List Int)=[]:=IF (by exact eV);rw[e]at a;have a:Wm l=0:=a;exact fI c [.tmp 2] (by rw[a];exact eR)
def HY {α:Type} (c:α→α→Int):List α→List α→Int
 | [],[]=>0
 | [],_ :: _=>-1
 | _ :: _,[]=>1
 | x :: p,y :: q=>if c x y=0 then HY c p q else c x y
theorem Kd {α:Type} {c:α→α→Int} (d:∀a b,c a b=0↔a=b):∀ {p q:List α},HY c p q=0↔p=q
 | [],[]=>⟨fun _=>rfl,fun _=>rfl⟩
 | [],_ :: _=>⟨fun h=>by simp[HY]at h,fun h=>by cases h⟩
 | _ :: _,[]=>⟨fun h=>by simp[HY]at h,fun h=>by cases h⟩
 | x :: p,y :: q=>by
  unfold HY;split
  ·rename_i h;rw[Kd d,(d x y).1 h];exact⟨fun e=>by rw[e],fun e=>(List.cons.inj e).2⟩
  ·rename_i h;exact⟨fun e=>absurd e h,fun e=>absurd ((d x y).2 (List.cons.inj e).1) h⟩
theorem L2 {α:Type} (d:α) {l:List α} {k:Nat} (h:k<l.length):l.drop k=l.getD k d :: l.drop (k+1):=by
 rw[ON h];have e:l.getD k d=l[k]:=by simp[AS,h]
 rw[e]
theorem NN {α:Type} {c:α→α→Int} (d:α) {p q:List α} {k:Nat} (h1:k<p.length) (a:k<q.length):HY c (p.drop k) (q.drop k)=if c (p.getD k d) (q.getD k d)=0 then HY c (p.drop (k+1)) (q.drop (k+1)) else c (p.getD k d) (q.getD k d):=by
 rw[L2 d h1,L2 d a];rfl
def Fd (a b:Int×Int):Int:=Wm [F2 a.1 b.1,F2 a.2 b.2]
theorem SW (a b:Int×Int):Fd a b=0↔a=b:=by
 unfold Fd Wm Wm Wm;constructor
 ·intro h;by_cases h1:F2 a.1 b.1=0
  ·rw[BY h1]at h;by_cases c:F2 a.2 b.2=0
   ·exact Prod.ext (jC.1 h1) (jC.1 c)
   ·rw[At c]at h;exact absurd h c
  ·rw[At h1]at h;exact absurd h h1
 ·rintro rfl;rw[BY (jC.2 rfl),BY (jC.2 rfl)]
def Zi:Ad:={ ins:=[BE,BE],pre:=fun _=>True,out:=fun(a,b,_)=>[.p T3 (Fd a b)] }
attribute [local go_sem] Zi
theorem wH:Ag Tryz.prog 160 Zi:=by
 refine fKP [0,1,2,3,4] [15] [] Tryz.func160 Tryz.ntmps160 (AF Gv (AF jE AG)) ?_;rintro w0 O0 ⟨a,b,u⟩ c - -;simp only[Zi,AM];repeat'(first|exact trivial|refine eS rfl ?_|refine AB ?_|refine rX c ?_ ?_|refine rC ?_ ?_<;>intro d<;>try(cases d;done))
 exact fI c [.tmp 4] (by unfold Fd;exact eR)
theorem wI (p q:List (Int×Int)) (hp:p.length≤100000):BA Tryz.prog 159 [.p Cl p,.p Cl q,.fn 160] [] [] (fun res i=>res=.p T3 (HY Fd p q)∧i=[]):=by
 refine J1 [0,1,2,6,7,8,9,10,11,12,13,14,21,31,38] [] [] Tryz.func159 Tryz.ntmps159 (AF wH AG) ?_;intro w0 K O0 ρ0 c m n;simp only[Ah];repeat'(first|exact trivial|refine eS rfl ?_|refine AB ?_|refine rX c ?_ ?_|refine rC ?_ ?_<;>intro a<;>try(cases a;done))
 refine AH (ι:={k:Nat//k≤p.length∧k≤q.length∧HY Fd p q=HY Fd (p.drop k) (q.drop k)}) (fun k=>⟨[(0,.p Cl p),(1,.p Cl q),(2,.fn 160),(11,.p Cl p),(12,.p (.int .i64) (p.length:Int)),(13,.p (.int .i64) (k.1:Int))],[]⟩) (fun k=>p.length-k.1) ⟨0,NO _,NO _,rfl⟩ (AC [] rfl rfl ?_ ?_) (fun k=>?_)
 ·first|exact eN|refine eM ?_
 ·first|exact eN|refine eM ?_
 ·obtain⟨k,j,l,b⟩:=k;simp only;repeat'(first|exact trivial|refine eS rfl ?_|refine AB ?_|refine rX c ?_ ?_|refine rC ?_ ?_<;>intro a<;>try(cases a;done))
  ·exact a
  ·have d:k<p.length:=by exact eV
   have g:q.drop k=[]:=IF (by exact eV);have h1:HY Fd p q=1:=by
    rw[b,g,L2 (0,0) d];rfl
   refine Ev.ent (σ':=⟨[(6,.p T3 1)],[]⟩) (fM c [.tmp 6] (.p T3 1) eT ⟨by rw[h1],rfl⟩) (AC [] rfl rfl ?_ ?_)
   ·first|exact eN|refine eM ?_
   ·first|exact eN|refine eM ?_
  ·exact a
  ·have d:k<p.length:=by exact eV
   have e:k<q.length:=by exact eV
   rw[NN (0,0) d e,At a]at b;refine Ev.ent (σ':=⟨[(6,.p T3 (Fd (p.getD k (0,0)) (q.getD k (0,0))))],[]⟩) (fM c [.tmp 6] (.p T3 (Fd (p.getD k (0,0)) (q.getD k (0,0)))) eT ⟨by rw[b],rfl⟩) (AC [] rfl rfl ?_ ?_)
   ·first|exact eN|refine eM ?_
   ·first|exact eN|refine eM ?_
  ·exact eV
  ·have d:k<p.length:=by exact eV
   have e:k<q.length:=by exact eV
   rw[NN (0,0) d e,BY (by simpa using a)]at b;refine⟨⟨k+1,d,e,b⟩,by simp only;omega,AC [] rfl rfl ?_ ?_⟩
   ·first|exact eN|refine eM ?_
   ·first|exact eN|refine eM ?_
  ·have f:p.drop k=[]:=IF (by exact eV);have h1:HY Fd p q=-1:=by
    rw[b,f,L2 (0,0) (show k<q.length by exact eV)];rfl
   exact fM c [.tmp 6] (.p T3 (-1)) eT ⟨by rw[h1],rfl⟩
  ·have f:p.drop k=[]:=IF (by exact eV);have h:q.drop k=[]:=IF (by exact eV);have h1:HY Fd p q=0:=by
    rw[b,f,h];rfl
   exact fM c [.tmp 6] (.p T3 0) eT ⟨by rw[h1],rfl⟩
def Dn (a b:AE):Int:=if Wm [F2 a.1 b.1,F2 (a.2.length:Int) (b.2.length:Int)]=0 then HY Fd a.2 b.2 else Wm [F2 a.1 b.1,F2 (a.2.length:Int) (b.2.length:Int)]
theorem QU (a b:AE):Dn a b=0↔a=b:=by
 unfold Dn;constructor
 ·intro h;split at h
  ·rename_i h1;unfold Wm Wm Wm at h1;by_cases c:F2 a.1 b.1=0
   ·exact Prod.ext (jC.1 c) ((Kd SW).1 h)
   ·rw[At c]at h1;exact absurd h1 c
  ·rename_i h1;exact absurd h h1
 ·rintro rfl;have h1:Wm [F2 a.1 a.1,F2 (a.2.length:Int) (a.2.length:Int)]=0:=by
   unfold Wm Wm Wm;rw[BY (jC.2 rfl),BY (jC.2 rfl)]
  rw[BY h1];exact(Kd SW).2 rfl
def QV:Ad:={ ins:=[JD,JD],pre:=fun(a,_,_)=>List.length (Prod.snd (a:AE))≤100000,out:=fun(a,b,_)=>[.p T3 (Dn a b)] }
attribute [local go_sem] QV
theorem oH:Ag Tryz.prog 140 QV:=by
 refine fKP [0,1,2,3,4,5,21] [18] [] Tryz.func140 Tryz.ntmps140 (AF Gv (AF jE AG)) ?_;rintro w0 O0 ⟨⟨ta,la⟩,⟨tb,b⟩,u⟩ a-ha;have ha:List.length la≤100000:=ha;simp only[QV,AM];repeat'(first|exact trivial|refine eS rfl ?_|refine AB ?_|refine rX a ?_ ?_|refine rC ?_ ?_<;>intro c<;>try(cases c;done))
 ·have h1:Dn (ta,la) (tb,b)=Wm [F2 ta tb,F2 (List.length la:Int) (List.length b:Int)]:=At c;exact fI a [.tmp 4] (by rw[h1];exact eR)
 ·have h1:Dn (ta,la) (tb,b)=HY Fd la b:=BY (by simpa using c);refine cP 4 a ?_ ?_
  ·trivial
  ·refine rM a (wI la b ha) [] [] ?_ ?_ ?_
   ·first|exact eN|refine eM ?_
   ·first|exact eN|refine eM ?_
   ·rintro _ _ ⟨rfl,rfl⟩;refine⟨[],.p T3 (HY Fd la b),[],rfl,rfl,?_,?_,rfl,rfl,?_⟩
    ·first|exact eN|refine eM ?_
    ·first|exact eN|refine eM ?_
    ·refine rL a ?_ ?_
     ·trivial
     ·repeat'(first|exact trivial|refine eS rfl ?_|refine AB ?_|refine rX a ?_ ?_|refine rC ?_ ?_<;>intro c<;>try(cases c;done))
      exact fI a [.tmp 4] (by rw[h1];exact eR)
end
section
attribute [local go_sem] HG iP QV TJ
theorem oI (p q:List (AE)) (hp:p.length≤100000) (g:∀x∈p,x.2.length≤100000):BA Tryz.prog 139 [.p Em p,.p Em q,.fn 140] [] [] (fun res j=>res=.p T3 (HY Dn p q)∧j=[]):=by
 refine J1 [0,1,2,6,7,8,9,10,11,12,13,14,21,31,38] [] [] Tryz.func139 Tryz.ntmps139 (AF oH AG) ?_;intro w0 K O0 ρ0 c n o;simp only[Ah];repeat'(first|exact trivial|refine eS rfl ?_|refine AB ?_|refine rX c ?_ ?_|refine rC ?_ ?_<;>intro a<;>try(cases a;done))
 refine AH (ι:={k:Nat//k≤p.length∧k≤q.length∧HY Dn p q=HY Dn (p.drop k) (q.drop k)}) (fun k=>⟨[(0,.p Em p),(1,.p Em q),(2,.fn 140),(11,.p Em p),(12,.p (.int .i64) (p.length:Int)),(13,.p (.int .i64) (k.1:Int))],[]⟩) (fun k=>p.length-k.1) ⟨0,NO _,NO _,rfl⟩ (eW []) (fun k=>?_)
 ·obtain⟨k,l,m,b⟩:=k;simp only;repeat'(first|exact trivial|refine eS rfl ?_|refine AB ?_|refine rX c ?_ ?_|refine rC ?_ ?_<;>intro a<;>try(cases a;done))
  ·exact a
  ·have d:k<p.length:=by exact eV
   have h:q.drop k=[]:=IF (by exact eV);have h1:HY Dn p q=1:=by
    rw[b,h,L2 (0,[]) d];rfl
   exact Ev.ent (σ':=⟨[(6,.p T3 1)],[]⟩) (fM c [.tmp 6] (.p T3 1) eT ⟨by rw[h1],rfl⟩) (eW [])
  ·exact a
  ·exact g _ (AD p (0,[]) (by exact eV))
  ·have d:k<p.length:=by exact eV
   have e:k<q.length:=by exact eV
   rw[NN (0,[]) d e,At a]at b;exact Ev.ent (σ':=⟨[(6,.p T3 (Dn (p.getD k (0,[])) (q.getD k (0,[]))))],[]⟩) (fM c [.tmp 6] (.p T3 (Dn (p.getD k (0,[])) (q.getD k (0,[])))) eT ⟨by rw[b],rfl⟩) (eW [])
  ·exact eV
  ·have d:k<p.length:=by exact eV
   have e:k<q.length:=by exact eV
   rw[NN (0,[]) d e,BY (by simpa using a)]at b;exact⟨⟨k+1,d,e,b⟩,by simp only;omega,eW []⟩
  ·have f:p.drop k=[]:=IF (by exact eV);have h1:HY Dn p q=-1:=by
    rw[b,f,L2 (0,[]) (show k<q.length by exact eV)];rfl
   exact fM c [.tmp 6] (.p T3 (-1)) eT ⟨by rw[h1],rfl⟩
  ·have f:p.drop k=[]:=IF (by exact eV);have i:q.drop k=[]:=IF (by exact eV);have h1:HY Dn p q=0:=by
    rw[b,f,i];rfl
   exact fM c [.tmp 6] (.p T3 0) eT ⟨by rw[h1],rfl⟩
def SX (a b:List AE):Int:=if F2 (a.length:Int) (b.length:Int)=0 then HY Dn a b else F2 (a.length:Int) (b.length:Int)
theorem oJ (a b:List AE):SX a b=0↔a=b:=by
 unfold SX;constructor
 ·intro h;split at h
  ·exact(Kd QU).1 h
  ·rename_i h1;exact absurd h h1
 ·rintro rfl;rw[BY (jC.2 rfl)];exact(Kd QU).2 rfl
def oK:Ad:={ ins:=[E9,E9],pre:=fun(a,_,_)=>C0 a,out:=fun(a,b,_)=>[.p T3 (SX a b)] }
attribute [local go_sem] oK
theorem A2j:Ag Tryz.prog 106 oK:=by
 refine fK [0,1,2,3,4,5,14] Tryz.func106 Tryz.ntmps106 (AF Gv AG) ?_;rintro w0 O0 ⟨a,b,u⟩ c-⟨e,f⟩;simp only[oK,AM];repeat'(first|exact trivial|refine eS rfl ?_|refine AB ?_|refine rX c ?_ ?_|refine rC ?_ ?_<;>intro d<;>try(cases d;done))
 ·have h1:SX a b=F2 (List.length a:Int) (List.length b:Int):=At d;exact fI c [.tmp 4] (by rw[h1];exact eR)
 ·have h1:SX a b=HY Dn a b:=BY (by simpa using d);refine cP 4 c ?_ ?_
  ·trivial
  ·refine rM c (oI a b e f) [] [] ?_ ?_ ?_
   ·exact eN
   ·exact eN
   ·rintro _ _ ⟨rfl,rfl⟩;refine⟨[],.p T3 (HY Dn a b),[],rfl,rfl,?_,?_,rfl,rfl,?_⟩
    ·exact eN
    ·exact eN
    ·refine rL c ?_ ?_
     ·trivial
     ·repeat'(first|exact trivial|refine eS rfl ?_|refine AB ?_|refine rX c ?_ ?_|refine rC ?_ ?_<;>intro d<;>try(cases d;done))
      exact fI c [.tmp 4] (by rw[h1];exact eR)
def TK:Ad:={ ins:=[E9,E9],pre:=fun(a,_,_)=>C0 a,out:=fun(a,b,_)=>[.p .bool (SX a b==0)] }
attribute [local go_sem] TK
theorem wJ:Ag Tryz.prog 68 TK:=by
 refine fK [0,1,2,3,4] Tryz.func68 Tryz.ntmps68 (AF A2j AG) ?_;rintro w0 O0 ⟨a,b,u⟩ c-ha;simp only[TK,AM];repeat'(first|exact trivial|refine eS rfl ?_|refine AB ?_|refine rX c ?_ ?_|refine rC ?_ ?_<;>intro d<;>try(cases d;done))
 ·exact ha
 ·exact fI c [.tmp 4]
def jF (l:List (Int×Int)):List (Int×Bool):=l.foldl (fun m a=>IC T3 .bool a.1 true m) []
theorem VV {b:Ty} (x k:Int) (v:b.den) (m:List (Int×b.den)):A8 T3 b x (IC T3 b k v m)=if x=k then some v else A8 T3 b x m:=by
 induction m with
 | nil=>simp[IC,A8,Jk]
 | cons y m g =>
  simp only[IC];by_cases c:Jk T3 k y.1=true
  ·rw[BY c];have d:k=y.1:=by simpa[Jk] using c
   simp only[A8,Jk,AAq];by_cases a:x=k
   ·rw[BY a,BY a]
   ·rw[At a,At a,At (by rw[←d];exact a)]
  ·rw[At c];have d:¬k=y.1:=by simpa[Jk] using c
   simp only[A8];by_cases a:Jk T3 x y.1=true
   ·have f:x=y.1:=by simpa[Jk] using a
    rw[BY a,BY a,At (by rw[f];exact fun e=>d e.symm)]
   ·rw[At a,At a,g]
theorem wK (x:Int) (l:List (Int×Int)):(A8 T3 .bool x (jF l)).getD false=l.any fun y=>y.1==x:=by
 induction l using Gw with
 | h0=>rfl
 | h1 l a c =>
  have e:jF (l++[a])=IC T3 .bool a.1 true (jF l):=by unfold jF;rw[ABu];rfl
  rw[e,VV,AC4,←c];by_cases h:x=a.1
  ·rw[BY h,h];simp
  ·rw[At h];have b:¬a.1=x:=fun e=>h e.symm;simp[b]
def GG (x:AE) (n:Int):Int:=if x.1<0 then 2 else Ir x.2 n
def VW:Ad:={ ins:=[JD,T3],pre:=fun _=>True,out:=fun(x,n,_)=>[.p WV (GG x n)] }
attribute [local go_sem] VW
theorem oL:Ag Tryz.prog 76 VW:=by
 refine fK [0,1,2,4,5,7,10,13,14,15,16,32,36] Tryz.func76 Tryz.ntmps76 AG ?_;rintro w0 O0 ⟨⟨t,l⟩,n,u⟩ d ⟨⟨-,⟨o,-⟩⟩,-⟩ -;simp only[AO]at o;simp only[VW,AM];repeat'(first|exact trivial|refine eS rfl ?_|refine AB ?_|refine rX d ?_ ?_|refine rC ?_ ?_<;>intro b<;>try(cases b;done))
 ·have h1:GG (t,l) n=2:=BY b;exact fI d [.tmp 4] (by rw[h1];exact eR)
 ·have h0:GG (t,l) n=HB n [] l:=At (ABc.2 b);rw[h0];refine AH (ι:={k:Nat//k≤List.length l∧HB n [] l=HB n ((l:List (Int×Int)).take k) ((l:List (Int×Int)).drop k)}) (fun k=>⟨[(1,.p T3 n),(5,.mp 11),(13,.p Cl l),(14,.p (.int .i64) (List.length l:Int)),(15,.p (.int .i64) (k.1:Int))],[(11,.mapo T3 .bool (jF ((l:List (Int×Int)).take k.1)))]⟩) (fun k=>List.length l-k.1) ⟨0,NO _,rfl⟩ (AC [(11,.nm 11)] rfl rfl ?_ ?_) (fun k=>?_)
  ·refine eM ?_;rfl
  ·exact eN
  ·obtain⟨k,hk,f⟩:=k;have g:=fun h:k<l.length=>Oj n l h;have q:=fun h:k<l.length=>NK (fun(m:List (Int×Bool)) (a:Int×Int)=>IC T3 .bool a.1 true m) l (0,0) [] h;have i:=fun x=>wK x (List.take k (l:List (Int×Int)));simp only;repeat'(first|exact trivial|refine eS rfl ?_|refine AB ?_|refine rX d ?_ ?_|refine rC ?_ ?_<;>intro b<;>try(cases b;done))
   ·exact b
   ·have c:k<List.length l:=by exact eV
    have e:HB n [] l=2:=by rw[f,g c,BY (by omega)]
    exact fI d [.tmp 4] (by rw[e];exact eR)
   ·have c:k<List.length l:=by exact eV
    rw[i]at b;have e:HB n [] l=4:=by rw[f,g c,At (by omega),BY b]
    exact fI d [.tmp 4] (by rw[e];exact eR)
   ·exact eV
   ·have c:k<List.length l:=by exact eV
    rw[i]at b;refine⟨⟨k+1,c,by rw[f,g c,At (by omega),At (by rw[b];simp)]⟩,by simp only;omega,AC [(11,.nm 11)] rfl rfl ?_ ?_⟩
    ·refine eM ?_;exact(q c).symm
    ·exact eN
   ·have j:List.drop k (l:List (Int×Int))=[]:=IF (by exact eV);have e:HB n [] l=0:=by rw[f,j];rfl
    exact fI d [.tmp 4] (by rw[e];exact eR)
theorem jG {n:Int}:∀ {l seen:List (Int×Int)},HB n seen l=0→(∀a∈l,∀b∈seen,b.1≠a.1)∧NdA l
 | [],_,_=>⟨fun a ha=>(by cases ha),List.Pairwise.nil⟩
 | x :: l,seen,h=>by
  simp only[HB]at h;split at h
  ·cases h
  ·split at h
   ·cases h
   ·rename_i h1 g;obtain⟨c,f⟩:=jG h;refine⟨fun a ha b d=>?_,AAx.2 ⟨fun a ha e=>c a ha x (by simp) e,f⟩⟩;rcases By.1 ha with rfl|ha
    ·intro e;exact g (gO.2 ⟨b,d,by simp[e]⟩)
    ·exact c a ha b (by simp[d])
theorem jH {m:Int}:∀ {f:List AE},HC m f=0→∀x∈f,NdA x.2
 | [],_,x,b=>by cases b
 | y :: f,h,x,b=>by
  simp only[HC]at h;split at h
  ·cases h
  ·split at h
   ·rename_i h1 a;exact absurd h a
   ·rename_i h1 a;have a:Ir y.2 m=0:=DO a;rcases By.1 b with rfl|b
    ·exact(jG a).2
    ·exact jH h x b
def QW (f:List AE):Prop:=∀x∈f,x.2.length≤200
theorem jI {f:List AE} (h:CH f=0) (hs:QW f):NdF f:=by
 unfold CH at h;split at h
 ·cases h
 ·split at h
  ·cases h
  ·exact fun x a=>⟨jH h x a,hs x a⟩
def QX:Ad:={ ins:=[E9],pre:=fun(f,_)=>QW f,out:=fun(f,_)=>[.p E9 (A4 f).1,.p WV (A4 f).2] }
attribute [local go_sem] QX
theorem X7:Ag Tryz.prog 51 QX:=by
 refine fK [0,1,2,3,5,6,10,15,18,19,20,21,30] Tryz.func51 Tryz.ntmps51 (AF oL (AF wG AG)) ?_;rintro w0 O0 ⟨f,u⟩ c ⟨⟨n,-⟩,-⟩ hs;simp only[AO]at n;have hs:QW f:=hs;have l:VD f:=fun x o=>TO (hs x o) (by omega);simp only[QX,AM];repeat'(first|exact trivial|refine eS rfl ?_|refine AB ?_|refine rX c ?_ ?_|refine rC ?_ ?_<;>intro a<;>try(cases a;done))
 ·have h1:CH f=1:=by
   have h:f.length=0:=by exact eV
   unfold CH;rw[BY h]
  have e:A4 f=([],1):=by unfold A4;rw[h1];rfl
  exact fI c [.cell 2 25,.tmp 3] (by rw[e];exact eR)
 ·have h1:CH f=7:=by
   have h:¬f.length=0:=by exact eV
   have i:4096<f.length:=by exact eV
   unfold CH;rw[At h,BY i]
  have e:A4 f=([],7):=by unfold A4;rw[h1];rfl
  exact fI c [.cell 2 25,.tmp 3] (by rw[e];exact eR)
 ·have h1:CH f=HC f.length f:=by
   have h:¬f.length=0:=by exact eV
   have i:¬4096<f.length:=by exact eV
   unfold CH;rw[At h,At i]
  have j:0<f.length:=by exact eV
  refine AH (ι:={k:Nat//k≤f.length∧HC f.length (f.drop k)=CH f}) (fun k=>⟨[(1,.bp 1 [] 0),(2,.bp 2 [] 0),(18,.p Em f),(19,.p (.int .i64) (f.length:Int)),(20,.p (.int .i64) (k.1:Int))],[(1,.box 25 true [.p Em f]),(2,.box 25 true [.raw (.slice none 0 0)])]⟩) (fun k=>f.length-k.1) ⟨0,by simp[h1]⟩ (eW [(1,.nm 1),(2,.nm 2)]) (fun k=>?_)
  ·obtain⟨k,hk,hf⟩:=k;simp only;repeat'(first|exact trivial|refine eS rfl ?_|refine AB ?_|refine rX c ?_ ?_|refine rC ?_ ?_<;>intro a<;>try(cases a;done))
   ·exact a
   ·have g:k<f.length:=by exact eV
    have a:¬GG (f.getD k (0,[])) f.length=0:=a;have m:CH f=GG (f.getD k (0,[])) f.length:=by
     rw[←hf,It _ _ g];unfold GG at a ⊢;by_cases b:(f.getD k (0,[])).1<0
     ·rw[BY b,BY b]
     ·rw[At b]at a;rw[At b,At b,BY a]
    have e:A4 f=([],GG (f.getD k (0,[])) f.length):=by unfold A4;rw[m,At a]
    exact fI c [.cell 2 25,.tmp 3] (by rw[e];exact eR)
   ·exact eV
   ·have g:k<f.length:=by exact eV
    have a:GG (f.getD k (0,[])) f.length=0:=by simpa using a
    refine⟨⟨k+1,g,?_⟩,by simp only;omega,AC [(1,.nm 1),(2,.nm 2)] rfl rfl ?_ ?_⟩
    ·rw[←hf,It _ _ g];unfold GG at a;by_cases b:(f.getD k (0,[])).1<0
     ·rw[BY b]at a;cases a
     ·rw[At b]at a;rw[At b,At (by rw[a];simp)]
    ·exact eN
    ·exact eN
   ·have d:CH f=0:=by rw[←hf,IF (by exact eV)];rfl
    exact⟨(Iw d l).1,jI d hs,OR.2 j⟩
   ·have d:CH f=0:=by rw[←hf,IF (by exact eV)];rfl
    have e:A4 f=(AQ (ET f) 0,0):=by unfold A4;rw[BY d,jA (Iw d l).1 (jI d hs) (ACd 0) (OR.2 j)]
    exact fI c [.cell 2 25,.tmp 3] (by rw[e];exact eR)
end
def Ke (h:AJ) (f:Int):Int:=(h.2.getD f.toNat (ByteArray.empty,0)).2
def Mo (h:AJ) (n:Int):List (Int×Int)→ER→Option ER
 | [],s=>some s
 | a :: l,s=>(DN h s n (Ke h a.1)).bind (Mo h n l)
def Nc (h:AJ) (n:Int):List (Int×Int)→ER→Option ER
 | [],s=>some s
 | a :: l,s=>if (B8 h (s.1.getD n.toNat 0) a.1).2=true then (DN h s a.2 (B8 h (s.1.getD n.toNat 0) a.1).1).bind (Nc h n l) else none
def Kg (h:AJ) (f:List AE) (n:Int) (s:ER):Option ER:=(Mo h n (f.getD n.toNat (0,[])).2 s).bind (Nc h n (f.getD n.toNat (0,[])).2)
def sI (h:AJ) (f:List AE):Nat→Nat→ER→Option (List Int)
 | 0,_,_=>none
 | k+1,i,s=>if i<s.2.length then (Kg h f (s.2.getD i 0) s).bind (sI h f k (i+1)) else some s.1
def A5 (f:List AE):List Int:=f.map fun x=>x.1
def Ei (f:List AE):List Int:=(List.range f.length).map fun i:Nat=>(i:Int)
def Cg (f:List AE) (ty:List Int):List AE:=(List.range f.length).map fun i=>(ty.getD i 0,(f.getD i (0,[])).2)
structure Wn (h:AJ):Prop where
 int:∀x∈h.2,0≤x.2∧x.2<(h.1.length:Int)
 val:∀t∈h.1,∀p∈t.2.2.2,0≤p.2∧p.2<(h.1.length:Int)
structure NP (h:AJ) (m:Nat) (s:ER):Prop where
 len:s.1.length=m
 ty:∀t∈s.1,0≤t∧t<(h.1.length:Int)
 wt:∀n∈s.2,0≤n∧n<(m:Int)
theorem NP.get {h:AJ} {m:Nat} {s:ER} (hs:NP h m s) {n:Int} (n0:0≤n) (n1:n<(m:Int)):0≤s.1.getD n.toNat 0∧s.1.getD n.toNat 0<(h.1.length:Int):=by
 have a:n.toNat<s.1.length:=by rw[hs.len];omega
 rw[AS,AT a];exact hs.ty _ (AAs a)
def jJ (h:AJ) (t:Int):Nat:=((List.range h.1.length).filter fun i:Nat=>A6 h t (i:Int)).length
def NQ (h:AJ) (ty:List Int):Nat:=(ty.map (jJ h)).sum
theorem X8 {α:Type} {p q:α→Bool}:∀ {l:List α},(∀x∈l,q x=true→p x=true)→(∃b∈l,p b=true∧q b=false)→(l.filter q).length<(l.filter p).length
 | [],_,⟨b,c,_⟩=>by cases c
 | x :: l,h1,⟨b,c,f,g⟩=>by
  have i:∀ {l:List α},(∀x∈l,q x=true→p x=true)→(l.filter q).length≤(l.filter p).length:=by
   intro l h;induction l with
   | nil=>exact Is _
   | cons y l j =>
    have e:=j fun z d=>h z (If _ d);rw[AAn,AAn];by_cases a:q y=true
    ·rw[BY a,BY (h y (by simp) a)];simp only[OF];omega
    ·rw[At a];split
     ·simp only[OF];omega
     ·exact e
  rw[AAn,AAn];rcases By.1 c with rfl|c
  ·rw[At (by rw[g];simp),BY f];have:=i fun z d=>h1 z (If _ d);simp only[OF];omega
  ·have e:=X8 (fun z d=>h1 z (If _ d)) ⟨b,c,f,g⟩;by_cases a:q x=true
   ·rw[BY a,BY (h1 x (by simp) a)];simp only[OF];omega
   ·rw[At a];split
    ·simp only[OF];omega
    ·exact e
theorem TL {h:AJ} (hk:HW h) {a:Int} (a0:0≤a) (b:a<(h.1.length:Int)):A6 h a a=true:=(BO hk a0 b a0 b).2 fun _ h=>h
theorem GH {h:AJ} (hk:HW h) {a b c:Int} (a0:0≤a) (d:a<(h.1.length:Int)) (e:0≤b) (b1:b<(h.1.length:Int)) (c0:0≤c) (c1:c<(h.1.length:Int)) (h1:A6 h a b=true) (f:A6 h b c=true):A6 h a c=true :=
 (BO hk a0 d c0 c1).2 fun i hi=>(BO hk a0 d e b1).1 h1 i ((BO hk e b1 c0 c1).1 f i hi)
theorem sJ {h:AJ} (hk:HW h) (hi:HX h) {a m:Int} (a0:0≤a) (b:a<(h.1.length:Int)) (d:0≤m) (f:m<(h.1.length:Int)) (hs:A6 h a m=true) (g:m≠a):jJ h m<jJ h a:=by
 refine X8 (fun x c e=>?_) ⟨a.toNat,oN.2 (by omega),?_,?_⟩
 ·have c:=oN.1 c;exact GH hk a0 b d f (AA1 _) (by omega) hs e
 ·rw[ABm a0];exact TL hk a0 b
 ·rw[ABm a0];cases e:A6 h m a with
  | false=>rfl
  | true=>exact absurd (hi m a d f a0 b e hs) g
theorem sK {α:Type} (g:α→Nat) (d:α):∀ {l:List α} {i:Nat} {v:α},i<l.length→((l.set i v).map g).sum+g (l.getD i d)=(l.map g).sum+g v
 | [],i,v,h=>by simp at h
 | x :: l,0,v,h=>by simp only[ABf,AA4,ACK,List.getD_cons_zero];omega
 | x :: l,i+1,v,h=>by
  have:=sK g d (l:=l) (i:=i) (v:=v) (by simpa using h);simp only[AC2,AA4,ACK,List.getD_cons_succ];omega
theorem FC {h:AJ} (hk:HW h) (hi:HX h) {m:Nat} {s b:ER} (hs:NP h m s) {n t:Int} (n0:0≤n) (n1:n<(m:Int)) (o:0≤t) (p:t<(h.1.length:Int)) (e:DN h s n t=some b) :
  NP h m b∧NQ h b.1+b.2.length≤NQ h s.1+s.2.length∧s.2.length≤b.2.length:=by
 obtain⟨c,d⟩:=hs.get n0 n1;unfold DN at e;split at e
 ·rename_i j;obtain⟨f,g,l,r⟩:=(Mk hk c d o p).1 j;generalize (CD h (s.1.getD n.toNat 0) t).1=v at *;injection e with e
  split at e
  ·subst e;exact⟨hs,Is _,Is _⟩
  ·rename_i k;subst e;have q:=sJ hk hi c d f g l k;have i:n.toNat<s.1.length:=by rw[hs.len];omega
   have hp:=sK (jJ h) 0 (v:=v) i;refine⟨⟨by simp only[AAm];exact hs.len,fun x a=>?_,fun x a=>?_⟩,?_,by simp⟩
   ·rcases ABn a with a|rfl
    ·exact hs.ty x a
    ·exact⟨f,g⟩
   ·rcases Of.1 a with a|a
    ·exact hs.wt x a
    ·rw[AB1.1 a];exact⟨n0,n1⟩
   ·unfold NQ;simp only[Do,aS];omega
 ·cases e
def FQ (h:AJ) (m:Nat) (a:Int×Int):Prop:=(0≤a.1∧a.1<(h.2.length:Int))∧0≤a.2∧a.2<(m:Int)
theorem HH {h:AJ} (hf:Wn h) {f:Int} (b:0≤f) (c:f<(h.2.length:Int)):0≤Ke h f∧Ke h f<(h.1.length:Int):=by
 have a:f.toNat<h.2.length:=by omega
 unfold Ke;rw[AS,AT a];exact hf.int _ (AAs a)
theorem X9 {f:Int}:∀ {l:List (Int×Int)},(Dx f l).2=true→(f,(Dx f l).1)∈l
 | [],h=>by cases h
 | x :: l,h=>by
  unfold Dx at h ⊢;split
  ·rename_i e;rw[←e];simp
  ·rename_i e;rw[At e]at h;exact If _ (X9 h)
theorem YA {h:AJ} {t:Int} (a:0≤t) (b:t<(h.1.length:Int)):h.1.getD t.toNat RT∈h.1:=AD h.1 RT (by omega)
theorem E3 {h:AJ} (hf:Wn h) {t f:Int} (a:0≤t) (b:t<(h.1.length:Int)) (e:(B8 h t f).2=true):0≤(B8 h t f).1∧(B8 h t f).1<(h.1.length:Int) :=
 hf.val _ (YA a b) _ (X9 e)
theorem QY {h:AJ} (hk:HW h) (hi:HX h) (hf:Wn h) {m:Nat} {n:Int} (n0:0≤n) (n1:n<(m:Int)):∀ {l:List (Int×Int)} {s c:ER},(∀a∈l,FQ h m a)→NP h m s→Mo h n l s=some c →
  NP h m c∧NQ h c.1+c.2.length≤NQ h s.1+s.2.length∧s.2.length≤c.2.length
 | [],s,c,_,hs,e=>by
  injection e with e
  subst e;exact⟨hs,Is _,Is _⟩
 | a :: l,s,c,f,hs,e=>by
  unfold Mo at e;cases d:DN h s n (Ke h a.1) with
  | none=>rw[d]at e;cases e
  | some s1 =>
   rw[d]at e;obtain⟨⟨a0,g⟩,-⟩:=f a (by simp);obtain⟨k,o⟩:=HH hf a0 g;obtain⟨i,q,r⟩:=FC hk hi hs n0 n1 k o d;obtain⟨p,t,u⟩:=QY hk hi hf n0 n1 (fun b j=>f b (by simp[j])) i e;exact⟨p,by omega,by omega⟩
theorem TM {h:AJ} (hk:HW h) (hi:HX h) (hf:Wn h) {m:Nat} {n:Int} (n0:0≤n) (n1:n<(m:Int)):∀ {l:List (Int×Int)} {s c:ER},(∀a∈l,FQ h m a)→NP h m s→Nc h n l s=some c →
  NP h m c∧NQ h c.1+c.2.length≤NQ h s.1+s.2.length∧s.2.length≤c.2.length
 | [],s,c,_,hs,e=>by
  injection e with e
  subst e;exact⟨hs,Is _,Is _⟩
 | a :: l,s,c,g,hs,e=>by
  unfold Nc at e;split at e
  ·rename_i o;obtain⟨j,f⟩:=hs.get n0 n1;obtain⟨p,q⟩:=E3 hf j f o;cases d:DN h s a.2 (B8 h (s.1.getD n.toNat 0) a.1).1 with
   | none=>rw[d]at e;cases e
   | some s1 =>
    rw[d]at e;obtain⟨-,i,b1⟩:=g a (by simp);obtain⟨f,t,u⟩:=FC hk hi hs i b1 p q d;obtain⟨r,v,w⟩:=TM hk hi hf n0 n1 (fun b k=>g b (by simp[k])) f e;exact⟨r,by omega,by omega⟩
  ·cases e
def Lb (h:AJ) (f:List AE):Prop:=∀x∈f,∀a∈x.2,FQ h f.length a
theorem Mp {h:AJ} {f:List AE} (ha:Lb h f) {n:Int} (n0:0≤n) (n1:n<(f.length:Int)):∀a∈(f.getD n.toNat (0,[])).2,FQ h f.length a:=ha _ (AD f (0,[]) (by omega))
theorem QZ {h:AJ} (hk:HW h) (hi:HX h) (hf:Wn h) {f:List AE} (ha:Lb h f) {n:Int} (n0:0≤n) (n1:n<(f.length:Int)) {s a:ER} (hs:NP h f.length s) (e:Kg h f n s=some a) :
  NP h f.length a∧NQ h a.1+a.2.length≤NQ h s.1+s.2.length∧s.2.length≤a.2.length:=by
 unfold Kg at e;cases b:Mo h n (f.getD n.toNat (0,[])).2 s with
 | none=>rw[b]at e;cases e
 | some s1 =>
  rw[b]at e;obtain⟨c,g,i⟩:=QY hk hi hf n0 n1 (Mp ha n0 n1) hs b;obtain⟨d,j,k⟩:=TM hk hi hf n0 n1 (Mp ha n0 n1) c e;exact⟨d,by omega,by omega⟩
theorem A55 (h:AJ) (t:Int):jJ h t≤h.1.length:=by
 unfold jJ;exact TO (AAK _ _) (by simp)
theorem A2k (h:AJ):∀ty:List Int,NQ h ty≤ty.length*h.1.length
 | []=>by simp[NQ]
 | t :: ty=>by
  have h1:=A2k h ty;have a:=A55 h t;unfold NQ at h1 ⊢;simp only[AA4,ACK,OF,ACt,Nat.one_mul];omega
def I0 (h:AJ) (f:List AE):Nat:=f.length*h.1.length+f.length+1
def HZ (h:AJ) (f:List AE):Option (List Int):=sI h f (I0 h f) 0 (A5 f,Ei f)
def Ba (h:AJ) (f:List AE):List AE×Bool:=match HZ h f with
 | some ty=>(Cg f ty,true)
 | none=>([],false)
theorem YB {h:AJ} {f:List AE} (a:∀x∈f,0≤x.1∧x.1<(h.1.length:Int)):NP h f.length (A5 f,Ei f):=by
 refine⟨by simp[A5],fun t h1=>?_,fun n hn=>?_⟩
 ·obtain⟨x,b,rfl⟩:=GO.1 h1;exact a x b
 ·obtain⟨i,hi,rfl⟩:=GO.1 hn;have:=oN.1 hi;omega
theorem Zj (h:AJ) (f:List AE):NQ h (A5 f)+(Ei f).length+1≤I0 h f:=by
 have:=A2k h (A5 f);unfold I0;rw[show (A5 f).length=f.length by simp[A5]]at this;rw[show (Ei f).length=f.length by simp[Ei]];omega
def A2l (a:Int→Int×Int→Bool) (f:List AE) (i:Nat):AE:=((f.getD i (0,[])).1,(f.getD i (0,[])).2.filter (a (i:Int)))
def GV (a:Int→Int×Int→Bool) (f:List AE) (i:Nat):List AE:=(List.range i).map (A2l a f)
def VX (a:Int→Int×Int→Bool) (f:List AE):List AE:=AQ (GV a f f.length) 0
theorem Kh (a:Int→Int×Int→Bool) (f:List AE) (i:Nat):(GV a f i).length=i:=by simp[GV]
theorem I1 (l:List (Int×Int)):n7 l↔l.Pairwise (fun a b=>a.1<b.1):=by
 constructor
 ·intro h;rw[oR];have key:∀d i,i+d+1<l.length→(l.getD i (0,0)).1<(l.getD (i+d+1) (0,0)).1:=by
   intro d;induction d with
   | zero=>intro i hi;exact h i hi
   | succ d e =>
    intro i hi;have h1:=e i (by omega);have f:=h (i+d+1) (by omega);have:i+(d+1)+1=i+d+1+1:=by omega
    rw[this];omega
  intro i j hi c g;have h1:=key (j-i-1) i (by omega);rw[show i+(j-i-1)+1=j by omega]at h1;simpa[AS,hi,c] using h1
 ·intro h i hi;rw[oR]at h;have:=h i (i+1) (by omega) hi (by omega);simpa[AS,hi,show i<l.length by omega] using this
theorem jK {l:List (Int×Int)} (h:n7 l) (p:Int×Int→Bool):n7 (l.filter p):=by
 rw[I1]at h ⊢;exact h.sublist ACu
theorem YC {f:List AE} (hf:Ae f) (hs:Oq f) (d:Int→Int×Int→Bool):Ae (GV d f f.length)∧Oq (GV d f f.length):=by
 have e:∀i,i<f.length→f.getD i (0,[])∈f:=fun i hi=>AD f (0,[]) hi;refine⟨⟨by rw[Kh];exact hf.1,fun x c=>?_⟩,fun x c=>?_⟩
 ·obtain⟨i,hi,rfl⟩:=GO.1 c;have hi:i<f.length:=oN.1 hi;obtain⟨h1,b⟩:=hf.2 _ (e i hi);rw[Kh];exact⟨TO (AAK _ _) h1,fun a ha=>b a (AAk.1 ha).1⟩
 ·obtain⟨i,hi,rfl⟩:=GO.1 c;have hi:i<f.length:=oN.1 hi;obtain⟨h1,b⟩:=hs _ (e i hi);exact⟨jK h1 _,TO (AAK _ _) b⟩
theorem Ki {x y:Int} {xs ys:List Int} (h:LX (x :: xs) (y :: ys)=0):x=y∧LX xs ys=0:=by
 simp only[LX]at h;split at h
 ·cases h
 ·split at h
  ·cases h
  ·exact⟨by omega,h⟩
theorem VY:∀ {l m:List (Int×Int)} {r s:List Int},l.length=m.length→LX (l.flatMap (fun a=>[a.1,a.2])++r) (m.flatMap (fun a=>[a.1,a.2])++s)=0→l=m∧LX r s=0
 | [],[],_,_,_,h=>⟨rfl,by simpa using h⟩
 | [],_ :: _,_,_,b,_=>by simp at b
 | _ :: _,[],_,_,b,_=>by simp at b
 | (c,d) :: l,(b1,b2) :: m,r,s,b,h=>by
  have h:LX (c :: d :: (l.flatMap (fun a=>[a.1,a.2])++r)) (b1 :: b2 :: (m.flatMap (fun a=>[a.1,a.2])++s))=0:=by simpa using h
  obtain⟨e,i⟩:=Ki h;obtain⟨f,j⟩:=Ki i;obtain⟨g,k⟩:=VY (l:=l) (m:=m) (by simpa using b) j;exact⟨by rw[e,f,g],k⟩
theorem VZ:∀ {l m:List AE} {r s:List Int},l.length=m.length→LX (l.flatMap Uv++r) (m.flatMap Uv++s)=0→l=m∧LX r s=0
 | [],[],_,_,_,h=>⟨rfl,by simpa using h⟩
 | [],_ :: _,_,_,b,_=>by simp at b
 | _ :: _,[],_,_,b,_=>by simp at b
 | (d,c) :: l,(b1,b2) :: m,r,s,b,h=>by
  have h:LX (d :: (c.length:Int) :: (c.flatMap (fun a=>[a.1,a.2])++(l.flatMap Uv++r))) (b1 :: (b2.length:Int) :: (b2.flatMap (fun a=>[a.1,a.2])++(m.flatMap Uv++s)))=0:=by simpa[Uv] using h
  obtain⟨e,i⟩:=Ki h;obtain⟨o,j⟩:=Ki i;obtain⟨f,k⟩:=VY (l:=c) (m:=b2) (by omega) j;obtain⟨g,n⟩:=VZ (l:=l) (m:=m) (by simpa using b) k;exact⟨by rw[e,f,g],n⟩
theorem Jh {a b:List AE} (h:Cz a b=0):a=b:=by
 unfold Cz Bu at h;obtain⟨h1,c⟩:=Ki h;have:=VZ (l:=a) (m:=b) (r:=[]) (s:=[]) (by omega) (by simpa using c);exact this.1
theorem YD:∀l:List Int,LX l l=0
 | []=>rfl
 | x :: l=>by simp[LX,YD l]
theorem Gx (a:List AE):Cz a a=0:=YD _
theorem Va (x:Int×Int) (s:List (Int×Int)):∀n,(∀j,Iu x s n≤j→j<n→x.1<(s.getD j (0,0)).1)∧(0<Iu x s n→(s.getD (Iu x s n-1) (0,0)).1≤x.1)
 | 0=>⟨fun j h1 b=>by omega,fun h=>by simp[Iu]at h⟩
 | n+1=>by
  obtain⟨h1,b⟩:=Va x s n;unfold Iu;split
  ·rename_i c;refine⟨fun j a d=>?_,b⟩;by_cases e:j=n
   ·subst e;exact c
   ·exact h1 j a (by omega)
  ·rename_i c;exact⟨fun j a d=>by omega,fun _=>by simp only[Nat.add_sub_cancel];omega⟩
theorem A6I {l:List (Int×Int)} (h:l.Pairwise (fun a b=>a.1≤b.1)) {i j:Nat} (d:i≤j) (c:j<l.length):(l.getD i (0,0)).1≤(l.getD j (0,0)).1:=by
 rcases Nat.eq_or_lt_of_le d with rfl|e
 ·exact ACd _
 ·rw[oR]at h;have:=h i j (by omega) c e;simpa[AS,c,show i<l.length by omega] using this
theorem jL {s:List (Int×Int)} (h:s.Pairwise (fun a b=>a.1≤b.1)) (x:Int×Int):(Om s x).Pairwise (fun a b=>a.1≤b.1):=by
 obtain⟨h1,g⟩:=Va x s s.length;have hp:=TD x s s.length;unfold Om;generalize Iu x s s.length=p at *;rw[ABs,ABs];have f:∀a∈s.take p,a.1≤x.1:=fun a ha=>by
  obtain⟨i,hi,rfl⟩:=AA6.1 ha;rw[OS]at hi;have k:=A6I h (i:=i) (j:=p-1) (by omega) (by omega);have l:=g (by omega);have e:(s.take p)[i].1=(s.getD i (0,0)).1:=by simp[AS,show i<s.length by omega]
  rw[e];omega
 have d:∀b∈s.drop p,x.1≤b.1:=fun b c=>by
  obtain⟨i,hi,rfl⟩:=AA6.1 c;rw[AAr]at hi;have k:=h1 (p+i) (by omega) (by omega);have e:(s.drop p)[i].1=(s.getD (p+i) (0,0)).1:=by simp[AS,show p+i<s.length by omega]
  rw[e];omega
 refine⟨⟨h.sublist (List.take_sublist _ _),by simp,fun a ha b c=>?_⟩,h.sublist (List.drop_sublist _ _),fun a ha b c=>?_⟩
 ·have:b=x:=by simpa using c
  rw[this];exact f a ha
 ·rcases Of.1 ha with ha|ha
  ·exact ABj (f a ha) (d b c)
  ·have:a=x:=by simpa using ha
   rw[this];exact d b c
theorem L3 (l:List (Int×Int)):(AU l).Pairwise (fun a b=>a.1≤b.1):=by
 induction l using Gw with
 | h0=>exact List.Pairwise.nil
 | h1 l a c=>rw[H0];exact jL c a
theorem SY {n:Int}:∀ {l seen:List (Int×Int)},HB n seen l=0→(l.map (·.1)).Nodup∧∀a∈l,∀b∈seen,b.1≠a.1
 | [],_,_=>⟨by simp,fun a ha=>by cases ha⟩
 | x :: l,seen,h=>by
  simp only[HB]at h;split at h
  ·cases h
  ·split at h
   ·cases h
   ·rename_i h1 d;obtain⟨g,f⟩:=SY h;have d:∀b∈seen,b.1≠x.1:=fun b c e=>d (gO.2 ⟨b,c,by simp[e]⟩);refine⟨?_,fun a ha b c=>?_⟩
    ·rw[AA4,AAt];refine⟨fun i=>?_,g⟩;obtain⟨a,ha,e⟩:=GO.1 i;exact f a ha x (by simp) e.symm
    ·rcases By.1 ha with rfl|ha
     ·exact d b c
     ·exact f a ha b (by simp[c])
theorem Vb {m:Int}:∀ {f:List AE},HC m f=0→∀x∈f,Ir x.2 m=0
 | [],_,x,a=>by cases a
 | y :: f,h,x,a=>by
  simp only[HC]at h;split at h
  ·cases h
  ·split at h
   ·rename_i h1 b;exact absurd h b
   ·rename_i h1 b;rcases By.1 a with rfl|a
    ·exact DO b
    ·exact Vb h x a
theorem wL {l:List (Int×Int)} (h:l.Pairwise (fun a b=>a.1≤b.1)) (hn:(l.map (·.1)).Nodup):l.Pairwise (fun a b=>a.1<b.1):=by
 rw[List.Nodup,AAR]at hn;refine(h.and hn).imp fun {a b} c=>?_;have h1:=c.1;have d:¬a.1=b.1:=c.2;omega
theorem Mq {f:List AE} (h:D8 f=true):Ae f∧Oq f∧0<f.length∧HV f=true:=by
 unfold D8 at h;simp only[As,AAq]at h;obtain⟨⟨e,_⟩,c,d⟩:=h;obtain⟨t,g⟩:=Mi e;have r:VD f:=fun x b=>TO (g x b) (by omega);have a:CH f=0:=by
  unfold A4 at c;split at c
  ·assumption
  ·exact c
 obtain⟨o,h0⟩:=Iw a r;have k:(A4 f).1=Fx f 0:=by unfold A4;rw[BY a]
 rw[k]at d;have l:=Jh d;refine⟨o,fun x b=>⟨?_,TO (g x b) (by omega)⟩,h0,e⟩;rw[←l]at b;obtain⟨n,_,rfl⟩:=GO.1 b;rw[I1];have j:((f.getD n.toNat (0,[])).2.map (·.1)).Nodup:=by
  by_cases p:n.toNat<f.length
  ·have q:f.getD n.toNat (0,[])∈f:=AD f (0,[]) p;have m:HC f.length f=0:=by
    unfold CH at a;split at a
    ·cases a
    ·split at a
     ·cases a
     ·exact a
   exact(SY (Vb m _ q)).1
  ·rw[AS,dO (by omega)];simp
 have s:=wL (L3 (f.getD n.toNat (0,[])).2) (((B5 _).map (·.1)).nodup_iff.2 j);unfold Lx;simp only;rw[AAR];exact s.imp fun i=>i
section
attribute [local go_sem] QX TK Nx Xy
theorem A6J (a b:List AE):(Cz a b==0)=(SX a b==0):=by
 rw[ABx,AAq,AAq,oJ];exact⟨Jh,fun e=>by rw[e];exact Gx b⟩
def TN:Ad:={ ins:=[GN,E9],pre:=fun(_,f,_)=>C0 f∧QW f,out:=fun(h,f,_)=>[.p WV (Cp h f)] }
attribute [local go_sem] TN
theorem wM:Ag Tryz.prog 38 TN:=by
 refine fK [0,1,2,3,4,5,6,8,10,17,20,21,22,23,31,33,34,35,36,44,50] Tryz.func38 Tryz.ntmps38 (AF X7 (AF wJ AG)) ?_;rintro w0 O0 ⟨⟨b,hf⟩,f,u⟩ d-⟨hs,n⟩;have hs:C0 f:=hs;have n:QW f:=n;simp only[TN,AM];repeat'(first|exact trivial|refine eS rfl ?_|refine AB ?_|refine rX d ?_ ?_|refine rC ?_ ?_<;>intro a<;>try(cases a;done))
 ·exact n
 ·have h1:Cp (b,hf) f=(A4 f).2:=by unfold Cp;rw[BY a]
  exact fI d [.tmp 4] (by rw[h1];exact eR)
 ·have t:(A4 f).2=0:=by simpa using a
  have x:=ST hs.2;have w:=hs.1;have g:Cp (b,hf) f=if f.all (TG (b,hf))=false then 2 else if (SX f (A4 f).1==0)=false then 3 else 0:=by unfold Cp;rw[At (by rw[t];simp),A6J f (A4 f).1]
  refine AH (ι:={i:Nat//i≤f.length∧(f.take i).all (TG (b,hf))=true}) (fun i=>⟨[(2,.bp 2 [] 0),(3,.bp 3 [] 0),(5,.bp 5 [] 0),(20,.p Em f),(21,.p (.int .i64) (f.length:Int)),(22,.p (.int .i64) (i.1:Int))],[(2,.box 31 true [.p So b,.p UZ hf]),(3,.box 25 true [.p Em f]),(5,.box 25 true [.p Em (A4 f).1])]⟩) (fun i=>f.length-i.1) ⟨0,by simp⟩ (eW [(2,.nm 2),(3,.nm 3),(5,.nm 5)]) (fun i=>?_)
  ·obtain⟨i,hi,l⟩:=i;have r:=fun h:i<f.length=>Gi f (0,[]) (TG (b,hf)) h;simp only;repeat'(first|exact trivial|refine eS rfl ?_|refine AB ?_|refine rX d ?_ ?_|refine rC ?_ ?_<;>intro a<;>try(cases a;done))
   ·exact a
   ·have c:i<f.length:=OR.1 (by assumption);have e:f.all (TG (b,hf))=false:=by
     rw[AAZ];refine⟨_,AD f (0,[]) c,?_⟩;unfold TG;rw[ABS (ABc.2 a)];simp
    rw[BY e]at g;exact fI d [.tmp 4] (by rw[g];exact eR)
   ·have c:i<f.length:=OR.1 (by assumption);have o:=AD f (0,[]) c;have q:TG (b,hf) (f.getD i (0,[]))=(f.getD i (0,[])).2.all (rU (b,hf)):=by
     unfold TG;rw[ABE (show (f.getD i (0,[])).1<(b.length:Int) from a)];rfl
    have v:(f.getD i (0,[])).2.length≤100000:=hs.2 _ o;refine AH (ι:={k:Nat//k≤(f.getD i (0,[])).2.length∧((f.getD i (0,[])).2.take k).all (rU (b,hf))=true}) (fun k=>⟨[(2,.bp 2 [] 0),(3,.bp 3 [] 0),(5,.bp 5 [] 0),(20,.p Em f),(21,.p (.int .i64) (f.length:Int)),(22,.p (.int .i64) (i:Int)),(33,.p Cl (f.getD i (0,[])).2),(34,.p (.int .i64) ((f.getD i (0,[])).2.length:Int)),(35,.p (.int .i64) (k.1:Int))],[(2,.box 31 true [.p So b,.p UZ hf]),(3,.box 25 true [.p Em f]),(5,.box 25 true [.p Em (A4 f).1])]⟩) (fun k=>(f.getD i (0,[])).2.length-k.1) ⟨0,by simp⟩ (eW [(2,.nm 2),(3,.nm 3),(5,.nm 5)]) (fun k=>?_)
    ·obtain⟨k,hk,m⟩:=k;have s:=fun h:k<(f.getD i (0,[])).2.length=>Gi (f.getD i (0,[])).2 (0,0) (rU (b,hf)) h;simp only;repeat'(first|exact trivial|refine eS rfl ?_|refine AB ?_|refine rX d ?_ ?_|refine rC ?_ ?_<;>intro a<;>try(cases a;done))
     ·exact a
     ·have j:k<(f.getD i (0,[])).2.length:=OR.1 (by assumption);have e:f.all (TG (b,hf))=false:=by
       rw[AAZ];refine⟨_,o,?_⟩;rw[q,AAZ.2 ⟨_,AD (f.getD i (0,[])).2 (0,0) j,by unfold rU;rw[ABS (ABc.2 a)];simp⟩];simp
      rw[BY e]at g;exact fI d [.tmp 4] (by rw[g];exact eR)
     ·exact eV
     ·have j:k<(f.getD i (0,[])).2.length:=OR.1 (by assumption);refine⟨⟨k+1,j,?_⟩,by simp only;omega,AC [(2,.nm 2),(3,.nm 3),(5,.nm 5)] rfl rfl ?_ ?_⟩
      ·rw[s j,m];unfold rU;exact ABE a
      ·exact eN
      ·exact eN
     ·exact eV
     ·have j:(f.getD i (0,[])).2.take k=(f.getD i (0,[])).2:=An (f8.1 a);rw[j]at m;refine⟨⟨i+1,c,?_⟩,by simp only;omega,AC [(2,.nm 2),(3,.nm 3),(5,.nm 5)] rfl rfl ?_ ?_⟩
      ·rw[r c,l,q,m];rfl
      ·exact eN
      ·exact eN
   ·exact hs
   ·have c:f.take i=f:=An (f8.1 (by assumption));rw[c]at l;rw[At (by rw[l];simp),BY (by simpa using a)]at g;exact fI d [.tmp 4] (by rw[g];exact eR)
   ·have c:f.take i=f:=An (f8.1 (by assumption));rw[c]at l;rw[At (by rw[l];simp),At (by rw[a];simp)]at g;exact fI d [.tmp 4] (by rw[g];exact eR)
end
section
attribute [local go_sem] TN Nx Xy
def KA (h:AJ) (f:List AE) (t:Int):List (Int×Int)→Int
 | []=>0
 | a :: l=>if (B8 h t a.1).2=false then 10 else if A6 h (B8 h t a.1).1 (f.getD a.2.toNat (0,[])).1=false then 11 else KA h f t l
def I2 (h:AJ) (f:List AE):List AE→Int
 | []=>0
 | x :: l=>if KA h f x.1 x.2=0 then I2 h f l else KA h f x.1 x.2
def H2 (h:AJ) (f:List AE):Int:=if Cp h f=0 then I2 h f f else Cp h f
structure Chk (h:AJ) (f:List AE):Prop where
 ty:∀x∈f,0≤x.1∧x.1<(h.1.length:Int)
 arc:∀x∈f,∀a∈x.2,FQ h f.length a
theorem A6K {h:AJ} {f:List AE} (e:Cp h f=0):Chk h f:=by
 have h1:(A4 f).2=0:=by
  refine DO fun hn=>?_;unfold Cp at e;rw[BY hn]at e;exact hn e
 have c:CH f=0:=by
  refine DO fun hn=>?_;unfold A4 at h1;rw[At hn]at h1;exact hn h1
 have d:f.all (TG h)=true:=by
  cases k:f.all (TG h) with
  | true=>rfl
  | false =>
   unfold Cp at e;rw[At (by rw[h1];simp),BY k]at e;cases e
 have j:HC f.length f=0:=by
  unfold CH at c;split at c
  ·cases c
  ·split at c
   ·cases c
   ·exact c
 have g:=Iv j;rw[IN]at d;have i:∀x∈f,x.1<(h.1.length:Int)∧∀a∈x.2,a.1<(h.2.length:Int):=fun x b=>by
  have:=d x b;unfold TG at this;rw[As,IS,IN]at this;exact⟨this.1,fun a ha=>by have:=this.2 a ha;unfold rU at this;simpa using this⟩
 exact⟨fun x b=>⟨(g x b).1,(i x b).1⟩,fun x b a ha=>by
  obtain⟨l,m,n⟩:=(g x b).2 a ha;exact⟨⟨l,(i x b).2 a ha⟩,m,n⟩⟩
theorem Wo (h:AJ) (f l:List AE) {k:Nat} (hk:k<l.length):I2 h f (l.drop k)=if KA h f (l.getD k (0,[])).1 (l.getD k (0,[])).2=0 then I2 h f (l.drop (k+1)) else KA h f (l.getD k (0,[])).1 (l.getD k (0,[])).2:=by
 rw[L2 (0,[]) hk];rfl
theorem jM (h:AJ) (f:List AE) (t:Int) (l:List (Int×Int)) {k:Nat} (hk:k<l.length):KA h f t (l.drop k)=if (B8 h t (l.getD k (0,0)).1).2=false then 10 else if A6 h (B8 h t (l.getD k (0,0)).1).1 (f.getD (l.getD k (0,0)).2.toNat (0,[])).1=false then 11 else KA h f t (l.drop (k+1)):=by
 rw[L2 (0,0) hk];rfl
def TP:Ad:={ ins:=[GN,E9],pre:=fun(h,f,_)=>Wn h∧C0 f∧QW f,out:=fun(h,f,_)=>[.p WV (H2 h f)] }
attribute [local go_sem] TP
theorem wN:Ag Tryz.prog 15 TP:=by
 refine fK [0,1,2,3,4,5,7,9,10,11,16,19,20,21,22,26,27,28,29,42,53] Tryz.func15 Tryz.ntmps15 (AF wM (AF sC (AF A4L AG))) ?_;rintro w0 O0 ⟨⟨a,hf⟩,f,u⟩ e-⟨o,hs,s⟩;have o:Wn (a,hf):=o;have hs:C0 f:=hs;have s:QW f:=s;have K:=hs.1;simp only[TP,AM];repeat'(first|exact trivial|refine eS rfl ?_|refine AB ?_|refine rX e ?_ ?_|refine rC ?_ ?_<;>intro b<;>try(cases b;done))
 ·exact⟨hs,s⟩
 ·have j:H2 (a,hf) f=Cp (a,hf) f:=At b;exact fI e [.tmp 4] (by rw[j];exact eR)
 ·have C:Cp (a,hf) f=0:=by simpa using b
  have j:H2 (a,hf) f=I2 (a,hf) f f:=BY C;obtain⟨A,E⟩:=A6K C;refine AH (ι:={i:Nat//i≤f.length∧I2 (a,hf) f f=I2 (a,hf) f (f.drop i)}) (fun i=>⟨[(2,.bp 2 [] 0),(3,.bp 3 [] 0),(19,.p Em f),(20,.p (.int .i64) (f.length:Int)),(21,.p (.int .i64) (i.1:Int))],[(2,.box 31 true [.p So a,.p UZ hf]),(3,.box 25 true [.p Em f])]⟩) (fun i=>f.length-i.1) ⟨0,NO _,rfl⟩ (eW [(2,.nm 2),(3,.nm 3)]) (fun i=>?_)
  ·obtain⟨i,hi,g⟩:=i;have I:=fun h:i<f.length=>Wo (a,hf) f f h;have H:=fun h:i<f.length=>AD f (0,[]) h;simp only;repeat'(first|exact trivial|refine eS rfl ?_|refine AB ?_|refine rX e ?_ ?_|refine rC ?_ ?_<;>intro b<;>try(cases b;done))
   ·exact b
   ·have q:i<f.length:=OR.1 b;have m:=I q;have r:=H q;obtain⟨y,z⟩:=A _ r;have B:=E _ r;have F:=hs.2 _ r;generalize M:f.getD i (0,[])=x at *;obtain⟨t,L⟩:=x;simp only at m y z B F ⊢;refine AH (ι:={k:Nat//k≤L.length∧KA (a,hf) f t L=KA (a,hf) f t (L.drop k)}) (fun k=>⟨[(2,.bp 2 [] 0),(3,.bp 3 [] 0),(7,.bp 7 [] 0),(19,.p Em f),(20,.p (.int .i64) (f.length:Int)),(21,.p (.int .i64) (i:Int)),(26,.p Cl L),(27,.p (.int .i64) (L.length:Int)),(28,.p (.int .i64) (k.1:Int))],[(7,.box 49 true [.p T3 t,.p Cl L]),(2,.box 31 true [.p So a,.p UZ hf]),(3,.box 25 true [.p Em f])]⟩) (fun k=>L.length-k.1) ⟨0,NO _,rfl⟩ (eW [(7,.nm 7),(2,.nm 2),(3,.nm 3)]) (fun k=>?_)
    ·obtain⟨k,hk,c⟩:=k;have v:=fun h:k<L.length=>jM (a,hf) f t L h;have G:=fun h:k<L.length=>B _ (AD L (0,0) h);simp only;have J:=E3 (f:=(L.getD k (0,0)).1) o y z;repeat'(first|exact trivial|refine eS rfl ?_|refine AB ?_|refine rX e ?_ ?_|refine rC ?_ ?_<;>intro b<;>try(cases b;done))
     ·exact b
     ·exact⟨y,z⟩
     ·have d:k<L.length:=by exact eV
      rw[v d,BY b]at c;have l:H2 (a,hf) f=10:=by rw[j,g,m,At (by rw[c];simp),c]
      exact fI e [.tmp 4] (by rw[l];exact eR)
     ·have d:k<L.length:=by exact eV
      obtain⟨-,D,b1⟩:=G d;exact⟨⟨D,b1⟩,J b,A _ (AD f (0,[]) (by omega))⟩
     ·have d:k<L.length:=by exact eV
      have w:(B8 (a,hf) t (List.getD L k (0,0)).1).2=true:=by assumption
      rw[v d,At (by rw[w];simp),BY b]at c;have l:H2 (a,hf) f=11:=by rw[j,g,m,At (by rw[c];simp),c]
      exact fI e [.tmp 4] (by rw[l];exact eR)
     ·omega
     ·have d:k<L.length:=by exact eV
      have w:(B8 (a,hf) t (List.getD L k (0,0)).1).2=true:=by assumption
      rw[v d,At (by rw[w];simp),At (by rw[b];simp)]at c;exact⟨⟨k+1,d,c⟩,by simp only;omega,eW [(7,.nm 7),(2,.nm 2),(3,.nm 3)]⟩
     ·omega
     ·have n:L.drop k=[]:=IF (f8.1 b);rw[n]at c;have c:KA (a,hf) f t L=0:=c;rw[m,BY c]at g;exact⟨⟨i+1,q,g⟩,by simp only;omega,eW [(2,.nm 2),(3,.nm 3)]⟩
   ·have n:f.drop i=[]:=IF (f8.1 b);rw[n]at g;have l:H2 (a,hf) f=0:=by rw[j,g];rfl
    exact fI e [.tmp 4] (by rw[l];exact eR)
theorem A2m:Ag Tryz.prog 41 Nx:=by
 refine fK [0,1,2,3,6,7,8,9,19,28] Tryz.func41 Tryz.ntmps41 AG ?_;rintro w0 O0 ⟨⟨c,hf⟩,t,f,u⟩ d q ⟨j,m⟩;simp only[Nx,AM];refine Ev.ent (σ':=⟨[(0,.p GN (c,hf)),(1,.p T3 t),(2,.p T3 f)],[]⟩) ?_ (AC [] rfl rfl ?_ ?_)
 ·repeat'(first|exact trivial|refine eS rfl ?_|refine AB ?_|refine rX d ?_ ?_|refine rC ?_ ?_<;>intro b<;>try(cases b;done))
  ·exact⟨j,m⟩
  ·have o:∀l,l=(List.getD c (Int.toNat t) (ByteArray.empty,[],[],[])).2.2.2→B8 (c,hf) t f=Dx f l:=fun l e=>by rw[e];rfl
   have r:List.length (List.getD c (Int.toNat t) (ByteArray.empty,[],[],[])).2.2.2≤140737488355328:=(q.1.1.2 _ (AD (c:List HA) RT ((ACk j).2 m))).2.2.2.1;generalize (List.getD c (Int.toNat t) (ByteArray.empty,[],[],[])).2.2.2=l at *;rw[o l rfl];refine AH (ι:={k:Nat//k≤List.length l∧Dx f l=Dx f (l.drop k)}) (fun k=>⟨[(2,.p T3 f),(8,.p b4 l),(9,.p (.int .i64) (k.1:Int))],[]⟩) (fun k=>List.length l-k.1) ⟨0,NO _,rfl⟩ (eW []) (fun k=>?_)
   ·obtain⟨k,hk,a⟩:=k;have i:=fun h:k<List.length l=>VQ f l h;simp only;repeat'(first|exact trivial|refine eS rfl ?_|refine AB ?_|refine rX d ?_ ?_|refine rC ?_ ?_<;>intro b<;>try(cases b;done))
    ·exact b
    ·exact OR.2 (by exact eV)
    ·have g:k<List.length l:=by exact eV
     rw[i g,BY b]at a;exact fI d [.tmp 6,.tmp 7] (by rw[a];exact eR)
    ·omega
    ·have g:k<List.length l:=by exact eV
     rw[i g,At b]at a;exact⟨⟨k+1,g,a⟩,by simp only;omega,eW []⟩
    ·have n:List.drop k (l:List (Int×Int))=[]:=IF (by exact eV);rw[n]at a;have a:Dx f l=(0,false):=a;exact fI d [.tmp 6,.tmp 7] (by rw[a];exact eR)
 ·exact eN
 ·exact eN
end
section
attribute [local go_sem] QO Nx Pr
end
section
attribute [local go_sem] Nx
theorem oM (h:AJ) (hk:HW h) (hi:HX h) (hf:Wn h) (W:h.2.length≤100000) (f:List AE) (O:Ae f) (ha:Lb h f) (s:ER) (hs:NP h f.length s) {n:Int} (n0:0≤n) (n1:n<(f.length:Int)) (S:NQ h s.1+s.2.length≤1000000000) :
  BA Tryz.prog 43 [.bp 1 [] 0,.p E9 f,.p T3 n] (EA h s) [1]
  (fun res z=>(Kg h f n s=none∧res=.p .bool false∧∃A,z=EA h A)∨∃A,Kg h f n s=some A∧res=.p .bool true∧z=EA h A):=by
 have G:=Mp ha n0 n1;have Y:(f.getD n.toNat (0,[])).2.length≤100000:=(O.2 _ (AD f (0,[]) (by omega))).1;have N:Kg h f n s=(Mo h n (f.getD n.toNat (0,[])).2 s).bind (Nc h n (f.getD n.toNat (0,[])).2):=rfl;rw[N];refine J1 [0,1,2,4,6,8,10,11,12,18,19,20,21,37,44,45,46,47,76] [] [] Tryz.func43 Tryz.ntmps43 (AF sC AG) ?_;intro w0 K O0 ρ0 a Z aa;simp only[EA,Ah];repeat'(first|exact trivial|refine eS rfl ?_|refine AB ?_|refine rX a ?_ ?_|refine rC ?_ ?_<;>intro b<;>try(cases b;done))
 ·exact⟨n0,n1⟩
 ·have X:f.getD n.toNat (0,[])=f.getD n.toNat (0,[]):=rfl;generalize J:(f.getD n.toNat (0,[])).2=L at *;refine AH (ι:={x:Nat×ER//x.1≤L.length∧NP h f.length x.2∧NQ h x.2.1+x.2.2.length≤1000000000∧Mo h n L s=Mo h n (L.drop x.1) x.2}) (fun x=>⟨[(0,.bp 1 [] 0),(2,.p T3 n),(4,.bp 4 [] 0),(18,.p Cl L),(19,.p (.int .i64) (L.length:Int)),(20,.p (.int .i64) (x.1.1:Int))],[(4,.box 25 true [.p Em f]),(1,.box 74 true [.p GN h,.sr 2 T3 0 x.1.2.1.length,.p GM x.1.2.2]),(2,.arr 3 T3 x.1.2.1)]⟩) (fun x=>L.length-x.1.1) ⟨(0,s),NO _,hs,S,rfl⟩ (eW [(4,.nm 4),(1,.nm 1),(2,.nm 2)]) (fun x=>?_)
  ·obtain⟨⟨k,s1⟩,Q,r,C,i⟩:=x;simp only at Q r C i ⊢;repeat'(first|exact trivial|refine eS rfl ?_|refine AB ?_|refine rX a ?_ ?_|refine rC ?_ ?_<;>intro b<;>try(cases b;done))
   ·exact b
   ·have l:k<L.length:=OR.1 b;have d:Mo h n (L.drop k) s1=(DN h s1 n (Ke h (L.getD k (0,0)).1)).bind (Mo h n (L.drop (k+1))):=by rw[L2 (0,0) l];rfl
    obtain⟨⟨a0,F⟩,u,b1⟩:=G _ (AD L (0,0) l);obtain⟨o,q⟩:=HH hf a0 F;obtain⟨w,y⟩:=r.get n0 n1;refine cD 12 a ?_ ?_
    ·exact⟨a0,F⟩
    ·refine rM a (iY h hk s1 n0 (by rw[r.len];exact n1) w y o q (by omega)) [(1,.nm 1),(2,.nm 2)] [2] ?_ ?_ ?_
     ·refine eM ?_;rfl
     ·simp only[EA];exact eN
     ·rintro res z (⟨c,rfl,rfl⟩|⟨s2,c,rfl,rfl⟩)
      ·refine⟨[(1,.nm 1),(2,.nm 2)],.p .bool false,EA h s1,rfl,rfl,?_,?_,rfl,rfl,?_⟩
       ·simp only[EA];exact eN
       ·exact eN
       ·simp only[EA];refine rL a ?_ ?_
        ·trivial
        ·repeat'(first|exact trivial|refine eS rfl ?_|refine AB ?_|refine rX a ?_ ?_|refine rC ?_ ?_<;>intro b<;>try(cases b;done))
         refine Ev.ent (σ':=⟨[(6,.p .bool false)],EA h s1⟩) ?_ (AC [(1,.nm 1),(2,.nm 2)] rfl rfl ?_ ?_)
         ·exact fM a [.tmp 6] (.p .bool false) eT (.inl ⟨by rw[i,d,c];rfl,rfl,s1,rfl⟩)
         ·unfold EA;exact eN
         ·exact eN
      ·refine⟨[(1,.nm 1),(2,.nm 2)],.p .bool true,EA h s2,rfl,rfl,?_,?_,rfl,rfl,?_⟩
       ·simp only[EA];exact eN
       ·exact eN
       ·simp only[EA];refine rL a ?_ ?_
        ·trivial
        ·obtain⟨D,E,T⟩:=FC hk hi r n0 n1 o q c;repeat'(first|exact trivial|refine eS rfl ?_|refine AB ?_|refine rX a ?_ ?_|refine rC ?_ ?_<;>intro b<;>try(cases b;done))
         ·omega
         ·exact⟨⟨(k+1,s2),l,D,TO E C,by rw[i,d,c];rfl⟩,by simp only;omega,eW [(4,.nm 4),(1,.nm 1),(2,.nm 2)]⟩
   ·exact⟨n0,n1⟩
   ·have B:L.drop k=[]:=IF (f8.1 b);rw[B]at i;have i:Mo h n L s=some s1:=i;rw[i];have M:(List.getD f n.toNat (0,[])).2=L:=J;rw[M];refine AH (ι:={x:Nat×ER//x.1≤L.length∧NP h f.length x.2∧NQ h x.2.1+x.2.2.length≤1000000000∧(some s1).bind (Nc h n L)=Nc h n (L.drop x.1) x.2}) (fun x=>⟨[(0,.bp 1 [] 0),(2,.p T3 n),(44,.p Cl L),(45,.p (.int .i64) (L.length:Int)),(46,.p (.int .i64) (x.1.1:Int))],[(1,.box 74 true [.p GN h,.sr 2 T3 0 x.1.2.1.length,.p GM x.1.2.2]),(2,.arr 3 T3 x.1.2.1)]⟩) (fun x=>L.length-x.1.1) ⟨(0,s1),NO _,r,C,rfl⟩ (eW [(1,.nm 1),(2,.nm 2)]) (fun x=>?_)
    ·obtain⟨⟨j,s2⟩,P,m,H,g⟩:=x;simp only at P m H g ⊢;obtain⟨w,y⟩:=m.get n0 n1;repeat'(first|exact trivial|refine eS rfl ?_|refine AB ?_|refine rX a ?_ ?_|refine rC ?_ ?_<;>intro b<;>try(cases b;done))
     ·exact b
     ·exact⟨⟨n0,by rw[m.len];exact n1⟩,w,y⟩
     ·have l:j<L.length:=OR.1 b;have d:Nc h n (L.drop j) s2=if (B8 h (s2.1.getD n.toNat 0) (L.getD j (0,0)).1).2=true then (DN h s2 (L.getD j (0,0)).2 (B8 h (s2.1.getD n.toNat 0) (L.getD j (0,0)).1).1).bind (Nc h n (L.drop (j+1))) else none:=by rw[L2 (0,0) l];rfl
      obtain⟨-,u,b1⟩:=G _ (AD L (0,0) l);have R:=fun e=>E3 (f:=(L.getD j (0,0)).1) hf w y e;generalize B8 h (s2.1.getD n.toNat 0) (L.getD j (0,0)).1=v at *;obtain⟨t,ok⟩:=v;refine evP a 3 ?_ ?_
      ·trivial
      ·cases ok with
       | false =>
        rw[At (by simp)]at d;refine rL a ?_ ?_
        ·trivial
        ·repeat'(first|exact trivial|refine eS rfl ?_|refine AB ?_|refine rX a ?_ ?_|refine rC ?_ ?_<;>intro b<;>try(cases b;done))
         refine Ev.ent (σ':=⟨[(6,.p .bool false)],EA h s2⟩) ?_ (AC [(1,.nm 1),(2,.nm 2)] rfl rfl ?_ ?_)
         ·exact fM a [.tmp 6] (.p .bool false) eT (.inl ⟨by rw[g,d],rfl,s2,rfl⟩)
         ·unfold EA;exact eN
         ·exact eN
       | true =>
        rw[BY rfl]at d;obtain⟨o,q⟩:=R rfl;simp only at o q d;obtain⟨U,V⟩:=m.get u b1;refine rN 4 a ?_ ?_
        ·trivial
        ·refine clG a (iY h hk s2 u (by rw[m.len];exact b1) U V o q (by omega)) [(1,.nm 1),(2,.nm 2)] [2] ?_ ?_ ?_
         ·exact eN
         ·simp only[EA];exact eN
         ·rintro res z (⟨c,rfl,rfl⟩|⟨I,c,rfl,rfl⟩)
          ·refine⟨[(1,.nm 1),(2,.nm 2)],.p .bool false,EA h s2,rfl,rfl,?_,?_,rfl,rfl,?_⟩
           ·simp only[EA];exact eN
           ·exact eN
           ·simp only[EA];refine rL a ?_ ?_
            ·trivial
            ·repeat'(first|exact trivial|refine eS rfl ?_|refine AB ?_|refine rX a ?_ ?_|refine rC ?_ ?_<;>intro b<;>try(cases b;done))
             refine Ev.ent (σ':=⟨[(6,.p .bool false)],EA h s2⟩) ?_ (AC [(1,.nm 1),(2,.nm 2)] rfl rfl ?_ ?_)
             ·exact fM a [.tmp 6] (.p .bool false) eT (.inl ⟨by rw[g,d,c];rfl,rfl,s2,rfl⟩)
             ·unfold EA;exact eN
             ·exact eN
          ·refine⟨[(1,.nm 1),(2,.nm 2)],.p .bool true,EA h I,rfl,rfl,?_,?_,rfl,rfl,?_⟩
           ·simp only[EA];exact eN
           ·exact eN
           ·simp only[EA];refine rL a ?_ ?_
            ·trivial
            ·obtain⟨D,E,T⟩:=FC hk hi m u b1 o q c;repeat'(first|exact trivial|refine eS rfl ?_|refine AB ?_|refine rX a ?_ ?_|refine rC ?_ ?_<;>intro b<;>try(cases b;done))
             ·omega
             ·exact⟨⟨(j+1,I),l,D,TO E H,by rw[g,d,c];rfl⟩,by simp only;omega,eW [(1,.nm 1),(2,.nm 2)]⟩
     ·have B:L.drop j=[]:=IF (f8.1 b);rw[B]at g;have g:(some s1).bind (Nc h n L)=some s2:=g;refine Ev.ent (σ':=⟨[(6,.p .bool true)],EA h s2⟩) ?_ (AC [(1,.nm 1),(2,.nm 2)] rfl rfl ?_ ?_)
      ·exact fM a [.tmp 6] (.p .bool true) eT (.inr ⟨s2,g,rfl,rfl⟩)
      ·unfold EA;exact eN
      ·exact eN
end
section
def Zk:Ad:={ ins:=[Em],pre:=fun(l,_)=>List.length l≤100000,out:=fun(l,_)=>[.own 49 JD l] }
attribute [local go_sem] Zk
theorem wO:Ag Tryz.prog 44 Zk:=by
 refine fK [0,2,4] Tryz.func44 Tryz.ntmps44 AG ?_;rintro w0 O0 ⟨l,u⟩ a-d;have d:List.length l≤100000:=d;simp only[Zk,AM];repeat'(first|exact trivial|refine eS rfl ?_|refine AB ?_|refine rX a ?_ ?_|refine rC ?_ ?_<;>intro c<;>try(cases c;done))
 refine cP 1 a ?_ ?_
 ·trivial
 ·refine XW a false rfl rfl ?_;intro b e;refine rL a ?_ ?_
  ·trivial
  ·repeat'(first|exact trivial|refine eS rfl ?_|refine AB ?_|refine rX a ?_ ?_|refine rC ?_ ?_<;>intro c<;>try(cases c;done))
   ·have f:l=[]:=e c;subst f;refine Ev.ent (σ':=⟨[(2,.sr 5 JD 0 0)],[(5,.arr 49 JD [])]⟩) ?_ (AC [(5,.nil)] rfl rfl ?_ ?_)
    ·exact Gd a (.inl rfl) (rv:=.tmp 2) rfl (by simp only[IT,Hv,GQ,go_sem,Nat.reduceEqDiff,reduceCtorEq,Nat.reduceAdd,Nat.reduceSub,Nat.reduceMul,Nat.reduceLeDiff,Nat.reduceLT,Int.reduceLE,Int.reduceToNat,Int.reduceNeg,↓reduceIte])
    ·exact eN
    ·exact eN
   ·simp only[AO];omega
   ·exact Gd a (.inl rfl) (rv:=.tmp 2) rfl (by simp only[IT,Hv,GQ,go_sem,Nat.reduceEqDiff,reduceCtorEq,Nat.reduceAdd,Nat.reduceSub,Nat.reduceMul,Nat.reduceLeDiff,Nat.reduceLT,Int.reduceLE,Int.reduceToNat,Int.reduceNeg,↓reduceIte])
structure oO (h:AJ) (f:List AE):Prop where
 ok:HW h
 inj:HX h
 ft:Wn h
 fl:h.2.length≤100000
 good:Ae f
 arcs:Lb h f
 ty:∀x∈f,0≤x.1∧x.1<(h.1.length:Int)
def Vc:Ad:={ ins:=[GN,E9],pre:=fun(h,f,_)=>oO h f,out:=fun(h,f,_)=>[.p E9 (Ba h f).1,.p .bool (Ba h f).2] }
theorem Fy (f:List AE) (ty:List Int):(Cg f ty).length=f.length:=by simp[Cg]
theorem Kj (f:List AE) (ty:List Int) {i:Nat} (h:i<f.length):(Cg f ty).getD i (0,[])=(ty.getD i 0,(f.getD i (0,[])).2):=by
 unfold Cg;simp[AS,h]
theorem wP {α:Type} (F f:List α) (d:α) (b:F.length=f.length) {j:Nat} (h:j<f.length):(F.take j++f.drop j).set j (F.getD j d)=F.take (j+1)++f.drop (j+1)∧(F.take j++f.drop j).getD j d=f.getD j d:=by
 have h1:(F.take j).length=j:=by rw[OS];omega
 have a:f.drop j=f.getD j d :: f.drop (j+1):=by
  rw[ON h,AS,AT h];rfl
 constructor
 ·rw[AX F d (by omega),AAO _ _ (by omega),h1,AAI,a];simp
 ·rw[AS,AA2 (by omega),h1,AAI,a];rfl
theorem Vd:Ag Tryz.prog 18 Vc:=by
 refine fK [0,1,2,3,4,5,6,7,8,9,10,11,16,17,18,19,51,64,72,73,74] Tryz.func18 Tryz.ntmps18 (AF wO AG) ?_;rintro w0 O0 ⟨⟨a,hf⟩,f,u⟩ c-hp;have hp:oO (a,hf) f:=hp;have D:=Zj (a,hf) f;have w:=hp.good.1;have S:I0 (a,hf) f≤30000000:=by
  have h1:a.length≤256:=hp.ok.2;have C:f.length*a.length≤100000*256:=Nat.mul_le_mul w h1;have R:f.length*(a,hf).1.length≤100000*256:=C;unfold I0;omega
 have J:=YB hp.ty;simp only[Vc,AM];repeat'(first|exact trivial|refine eS rfl ?_|refine AB ?_|refine rX c ?_ ?_|refine rC ?_ ?_<;>intro b<;>try(cases b;done))
 refine AH (ι:={i:Nat//i≤f.length}) (fun i=>⟨[(3,.bp 3 [] 0),(4,.bp 4 [] 0),(6,.bp 14 [] 0),(16,.p Em f),(17,.p (.int .i64) (f.length:Int)),(18,.p (.int .i64) (i.1:Int))],[(3,.box 25 true [.p Em f]),(4,.box 25 true [.raw (.slice none 0 0)]),(14,.box 74 true [.p GN (a,hf),.sr 31 T3 0 i.1,.sr 41 T3 0 i.1]),(31,.arr 3 T3 ((A5 f).take i.1)),(41,.arr 3 T3 ((Ei f).take i.1))]⟩) (fun i=>f.length-i.1) ⟨0,NO _⟩ (eW [(3,.nm 3),(4,.nm 4),(14,.nm 14),(31,.nil),(41,.nil)]) (fun i=>?_)
 ·obtain⟨i,hi⟩:=i;have tl:((A5 f).take i).length=i:=by rw[OS];simp[A5];omega
  have X:((Ei f).take i).length=i:=by rw[OS];simp[Ei];omega
  have ts:i<f.length→(A5 f).take i++[(f.getD i (0,[])).1]=(A5 f).take (i+1):=fun h=>by
   rw[AX (A5 f) 0 (by simpa[A5] using h)];simp[A5,AS,h]
  have P:i<f.length→(Ei f).take i++[(i:Int)]=(Ei f).take (i+1):=fun h=>by
   rw[AX (Ei f) 0 (by simpa[Ei] using h)];simp[Ei,AS,h]
  repeat'(first|exact trivial|refine eS rfl ?_|refine AB ?_|refine rX c ?_ ?_|refine rC ?_ ?_<;>intro b<;>try(cases b;done))
  ·exact b
  ·have g:i<f.length:=OR.1 b;have O:=ts g;have Q:=P g;refine B3 drawsAny c 9 [([1,2,3,4,5,6,7],8)] [0] (by kernel_rfl) (Ls ?_ ?_)
   ·trivial
   ·refine Ns c [31] ?_ ?_
    ·simp only[AO];omega
    ·refine Pp c ?_ ?_ ?_
     ·trivial
     ·trivial
     ·repeat'(first|exact trivial|refine eS rfl ?_|refine AB ?_|refine rX c ?_ ?_|refine rC ?_ ?_<;>intro b<;>try(cases b;done))
      ·simp only[AO];omega
      ·omega
      ·refine⟨⟨i+1,g⟩,by simp only;omega,AC [(3,.nm 3),(4,.nm 4),(14,.nm 14),(31,.nm 31),(41,.nm 41)] rfl rfl ?_ ?_⟩
       ·simp only[←O,←Q];refine eM ?_;simp only[ABO,ACR,and_self]
       ·exact eN
  ·have g:i=f.length:=by
    have:=f8.1 b;omega
   subst g;have et:(A5 f).take f.length=A5 f:=An (by simp[A5]);have v:(Ei f).take f.length=Ei f:=An (by simp[Ei]);have N:(A5 f).length=f.length:=by simp[A5]
   have Y:(Ei f).length=f.length:=by simp[Ei]
   rw[et,v];have B:(Ei f).take f.length=Ei f:=v;refine Gg [41] ?_;rw[B];refine AH (ι:={x:Nat×ER//NP (a,hf) f.length x.2∧NQ (a,hf) x.2.1+x.2.2.length+1≤I0 (a,hf) f∧x.1≤x.2.2.length∧∃k,NQ (a,hf) x.2.1+x.2.2.length+1≤k+x.1∧sI (a,hf) f k x.1 x.2=HZ (a,hf) f}) (fun x=>⟨[(3,.bp 3 [] 0),(4,.bp 4 [] 0),(6,.bp 14 [] 0),(9,.p (.int .i64) (x.1.1:Int))],[(3,.box 25 true [.p Em f]),(4,.box 25 true [.raw (.slice none 0 0)]),(14,.box 74 true [.p GN (a,hf),.sr 31 T3 0 x.1.2.1.length,.p GM x.1.2.2]),(31,.arr 3 T3 x.1.2.1)]⟩) (fun x=>NQ (a,hf) x.1.2.1+x.1.2.2.length-x.1.1) ⟨(0,A5 f,Ei f),J,D,NO _,I0 (a,hf) f,by simp only;omega,rfl⟩ (AC [(3,.nm 3),(4,.nm 4),(14,.nm 14),(31,.nm 31)] rfl rfl ?_ ?_) (fun x=>?_)
   ·simp only[N];exact eN
   ·exact eN
   ·obtain⟨⟨i,s⟩,hs,I,hi,k,hk,e⟩:=x;simp only at hs I hi hk e ⊢;repeat'(first|exact trivial|refine eS rfl ?_|refine AB ?_|refine rX c ?_ ?_|refine rC ?_ ?_<;>intro b<;>try(cases b;done))
    ·have m:i<s.2.length:=OR.1 b;obtain⟨z,A⟩:=hs.wt _ (AD s.2 (0:Int) m);obtain⟨k,rfl⟩:∃t,k=t+1:=⟨k-1,by omega⟩;have r:sI (a,hf) f (k+1) i s=(Kg (a,hf) f (s.2.getD i 0) s).bind (sI (a,hf) f k (i+1)):=BY m;rw[r]at e;refine cD 9 c ?_ ?_
     ·exact b
     ·refine rM c (oM (a,hf) hp.ok hp.inj hp.ft hp.fl f hp.good hp.arcs s hs z A (by omega)) [(1,.nm 14),(2,.nm 31)] [31] ?_ ?_ ?_
      ·exact eN
      ·simp only[EA];exact eN
      ·rintro res W (⟨l,rfl,d,rfl⟩|⟨d,l,rfl,rfl⟩)
       ·refine⟨[(14,.nm 1),(31,.nm 2)],.p .bool false,[(14,.box 74 true [.p GN (a,hf),.sr 31 T3 0 d.1.length,.p GM d.2]),(31,.arr 3 T3 d.1)],rfl,rfl,?_,?_,rfl,rfl,?_⟩
        ·simp only[EA];exact eN
        ·exact eN
        ·refine rL c ?_ ?_
         ·trivial
         ·repeat'(first|exact trivial|refine eS rfl ?_|refine AB ?_|refine rX c ?_ ?_|refine rC ?_ ?_<;>intro b<;>try(cases b;done))
          have o:Ba (a,hf) f=([],false):=by unfold Ba;rw[←e,l];rfl
          exact fI c [.cell 4 25,.tmp 5] (by rw[o];exact eR)
       ·obtain⟨M,U,V⟩:=QZ hp.ok hp.inj hp.ft hp.arcs z A hs l;rw[l]at e;refine⟨[(14,.nm 1),(31,.nm 2)],.p .bool true,[(14,.box 74 true [.p GN (a,hf),.sr 31 T3 0 d.1.length,.p GM d.2]),(31,.arr 3 T3 d.1)],rfl,rfl,?_,?_,rfl,rfl,?_⟩
        ·simp only[EA];exact eN
        ·exact eN
        ·refine rL c ?_ ?_
         ·trivial
         ·repeat'(first|exact trivial|refine eS rfl ?_|refine AB ?_|refine rX c ?_ ?_|refine rC ?_ ?_<;>intro b<;>try(cases b;done))
          ·omega
          ·exact⟨⟨(i+1,d),M,by simp only;omega,by simp only;omega,k,by simp only;omega,e⟩,by simp only;omega,eW [(3,.nm 3),(4,.nm 4),(14,.nm 14),(31,.nm 31)]⟩
    ·exact w
    ·have m:¬i<s.2.length:=fun h=>by
      have:=f8.1 b;omega
     obtain⟨k,rfl⟩:∃t,k=t+1:=⟨k-1,by omega⟩;have r:sI (a,hf) f (k+1) i s=some s.1:=At m;have o:Ba (a,hf) f=(Cg f s.1,true):=by unfold Ba;rw[←e,r]
     have q:=Fy f s.1;have K:=fun i h=>Kj f s.1 (i:=i) h;generalize hT:Cg f s.1=F at *;have L:=hs.len;refine AH (ι:={j:Nat//j≤f.length}) (fun j=>⟨[(4,.bp 4 [] 0),(6,.bp 14 [] 0),(10,.bp 10 [] 0),(72,.p (.int .i64) (f.length:Int)),(73,.p (.int .i64) (j.1:Int))],[(10,.box 25 true [.sr 68 JD 0 f.length]),(68,.arr 49 JD (F.take j.1++f.drop j.1)),(4,.box 25 true [.raw (.slice none 0 0)]),(14,.box 74 true [.p GN (a,hf),.sr 31 T3 0 s.1.length,.p GM s.2]),(31,.arr 3 T3 s.1)]⟩) (fun j=>f.length-j.1) ⟨0,NO _⟩ (eW [(10,.nm 10),(68,.nm 68),(4,.nm 4),(14,.nm 14),(31,.nm 31)]) (fun j=>?_)
     ·obtain⟨j,T⟩:=j;have H:=fun h:j<f.length=>wP F f (0,[]) q h;repeat'(first|exact trivial|refine eS rfl ?_|refine AB ?_|refine rX c ?_ ?_|refine rC ?_ ?_<;>intro b<;>try(cases b;done))
      ·exact⟨by rw[L];exact b,b⟩
      ·omega
      ·have n:j<f.length:=OR.1 b;obtain⟨y,G⟩:=H n;rw[K j n]at y;refine⟨⟨j+1,n⟩,by simp only;omega,AC [(10,.nm 10),(68,.nm 68),(4,.nm 4),(14,.nm 14),(31,.nm 31)] rfl rfl ?_ ?_⟩
       ·simp only[←y];refine eM ?_;rw[G]
       ·exact eN
      ·have hF:F.take j=F:=An (by rw[q];exact f8.1 b);have E:List.drop j f=[]:=IF (f8.1 b);rw[hF,E,AAh];exact fI c [.cell 4 25,.tmp 5] (by rw[o];first|exact eR|refine bW ?_;exact An (by rw[q];exact Is _))
end
def KB {α:Type} (p:α→Bool):Nat→List α→Int
 | _,[]=>-1
 | k,a :: l=>if p a=true then (k:Int) else KB p (k+1) l
theorem Ve {α:Type} (p:α→Bool):∀(k:Nat) (l:List α),decide (0≤KB p k l)=l.any p
 | _,[]=>rfl
 | k,a :: l=>by
  unfold KB;rw[List.any_cons];split
  ·rename_i h;rw[h,Bool.true_or];exact ABE (AA1 k)
  ·rename_i h;have h:p a=false:=by simpa using h
   rw[h,ACL];exact Ve p (k+1) l
theorem YE {α:Type} (p:α→Bool) (d:α) (l:List α) {k:Nat} (h:k<l.length):KB p k (l.drop k)=if p (l.getD k d)=true then (k:Int) else KB p (k+1) (l.drop (k+1)):=by
 rw[L2 d h];rfl
theorem wQ (m:List (Int×Bool)) (a:Int×Int):BA Tryz.prog 57 [.p T87 a,.bp 1 [] 0] [(1,.box 95 false [.mp 3]),(3,.mapo T3 .bool m)] [1,3] (fun res d=>res=.p .bool ((A8 T3 .bool a.2 m).getD false)∧d=[(1,.box 95 false [.mp 3]),(3,.mapo T3 .bool m)]):=by
 refine J1 [0,1,2,3] [] [] Tryz.func57 Tryz.ntmps57 AG ?_;intro w0 K O0 ρ0 b e f;simp only[Ah];repeat'(first|exact trivial|refine eS rfl ?_|refine AB ?_|refine rX b ?_ ?_|refine rC ?_ ?_<;>intro c<;>try(cases c;done))
 refine Ev.ent (σ':=⟨[(3,.p .bool ((A8 T3 .bool a.2 m).getD false))],[(1,.box 95 false [.mp 3]),(3,.mapo T3 .bool m)]⟩) ?_ (AC [(1,.nm 1),(3,.nm 3)] rfl rfl ?_ ?_)
 ·exact fM b [.tmp 3] (.p .bool ((A8 T3 .bool a.2 m).getD false)) eT ⟨rfl,rfl⟩
 ·first|exact eN|refine eM ?_
 ·first|exact eN|refine eM ?_
theorem A2n (v:Int×Int) (a:Int×Int):BA Tryz.prog 50 [.p BE a,.bp 1 [] 0] [(1,.box 87 true [.p T3 v.1,.p T3 v.2])] [1] (fun res d=>res=.p .bool (a.1==v.1)∧d=[(1,.box 87 true [.p T3 v.1,.p T3 v.2])]):=by
 refine J1 [0,1,2,3] [] [] Tryz.func50 Tryz.ntmps50 AG ?_;intro w0 K O0 ρ0 b e f;simp only[Ah];repeat'(first|exact trivial|refine eS rfl ?_|refine AB ?_|refine rX b ?_ ?_|refine rC ?_ ?_<;>intro c<;>try(cases c;done))
 refine Ev.ent (σ':=⟨[(3,.p .bool (a.1==v.1))],[(1,.box 87 true [.p T3 v.1,.p T3 v.2])]⟩) ?_ (AC [(1,.nm 1)] rfl rfl ?_ ?_)
 ·exact fM b [.tmp 3] (.p .bool (a.1==v.1)) eT ⟨rfl,rfl⟩
 ·first|exact eN|refine eM ?_
 ·first|exact eN|refine eM ?_
theorem wR (m:List (Int×Bool)) (l:List (Int×Int)) (o:l.length≤140737488355328):BA Tryz.prog 81 [.p b4 l,.clo 57 [1]] [(1,.box 95 false [.mp 3]),(3,.mapo T3 .bool m)] [1,3] (fun res n=>res=.p T3 (KB (fun a=>(A8 T3 .bool (Prod.snd a) m).getD false) 0 l)∧n=[(1,.box 95 false [.mp 3]),(3,.mapo T3 .bool m)]):=by
 refine J1 [0,1,4,5,7,8,9,16] [] [] Tryz.func81 Tryz.ntmps81 AG ?_;intro w0 K O0 ρ0 d q r;simp only[Ah];repeat'(first|exact trivial|refine eS rfl ?_|refine AB ?_|refine rX d ?_ ?_|refine rC ?_ ?_<;>intro c<;>try(cases c;done))
 refine AH (ι:={k:Nat//k≤l.length∧KB (fun a=>(A8 T3 .bool (Prod.snd a) m).getD false) k (l.drop k)=KB (fun a=>(A8 T3 .bool (Prod.snd a) m).getD false) 0 l}) (fun k=>⟨[(0,.p b4 l),(1,.clo 57 [1]),(7,.p (.int .i64) (l.length:Int)),(8,.p (.int .i64) (k.1:Int))],[(1,.box 95 false [.mp 3]),(3,.mapo T3 .bool m)]⟩) (fun k=>l.length-k.1) ⟨0,NO _,rfl⟩ (AC [(1,.nm 1),(3,.nm 3)] rfl rfl ?_ ?_) (fun k=>?_)
 ·first|exact eN|refine eM ?_
 ·first|exact eN|refine eM ?_
 ·obtain⟨k,hk,hf⟩:=k;have j:k<l.length→∀b,(fun a=>(A8 T3 .bool (Prod.snd a) m).getD false) (l.getD k (0,0))=b→KB (fun a=>(A8 T3 .bool (Prod.snd a) m).getD false) k (l.drop k)=if b=true then (k:Int) else KB (fun a=>(A8 T3 .bool (Prod.snd a) m).getD false) (k+1) (l.drop (k+1)):=fun h b e=>by rw[←e];exact YE (fun a=>(A8 T3 .bool (Prod.snd a) m).getD false) (0,0) l h
  simp only;repeat'(first|exact trivial|refine eS rfl ?_|refine AB ?_|refine rX d ?_ ?_|refine rC ?_ ?_<;>intro c<;>try(cases c;done))
  ·have f:k<l.length:=OR.1 c;refine cP 5 d ?_ ?_
   ·exact c
   ·have key:=wQ m (l.getD k (0,0));refine rM d (key) [(1,.nm 1),(3,.nm 3)] [] ?_ ?_ ?_
    ·first|exact eN|refine eM ?_
    ·first|exact eN|refine eM ?_
    ·rintro _ _ ⟨rfl,rfl⟩;refine⟨[(1,.nm 1),(3,.nm 3)],.p .bool ((fun a=>(A8 T3 .bool (Prod.snd a) m).getD false) (l.getD k (0,0))),[(1,.box 95 false [.mp 3]),(3,.mapo T3 .bool m)],rfl,rfl,?_,?_,rfl,rfl,CS ?_⟩
     ·first|exact eN|refine eM ?_
     ·first|exact eN|refine eM ?_
     ·generalize s:(fun a=>(A8 T3 .bool (Prod.snd a) m).getD false) (l.getD k (0,0))=i at *;have g:=j f i rfl;repeat'(first|exact trivial|refine eS rfl ?_|refine AB ?_|refine rX d ?_ ?_|refine rC ?_ ?_<;>intro c<;>try(cases c;done))
      ·have c:i=true:=c;rw[BY c,hf]at g;refine Ev.ent (σ':=⟨[(4,.p (.int .i64) (k:Int))],[(1,.box 95 false [.mp 3]),(3,.mapo T3 .bool m)]⟩) ?_ (AC [(1,.nm 1),(3,.nm 3)] rfl rfl ?_ ?_)
       ·exact fM d [.tmp 4] (.p T3 (k:Int)) eT ⟨by rw[g],rfl⟩
       ·first|exact eN|refine eM ?_
       ·first|exact eN|refine eM ?_
      ·omega
      ·have c:i=false:=c;rw[At (by rw[c];simp)]at g;refine⟨⟨k+1,f,g.symm.trans hf⟩,by simp only;omega,AC [(1,.nm 1),(3,.nm 3)] rfl rfl ?_ ?_⟩
       ·first|exact eN|refine eM ?_
       ·first|exact eN|refine eM ?_
  ·have f:l.drop k=[]:=IF (f8.1 c);rw[f]at hf;have hf:(-1:Int)=KB (fun a=>(A8 T3 .bool (Prod.snd a) m).getD false) 0 l:=hf;refine Ev.ent (σ':=⟨[(4,.p (.int .i64) (-1))],[(1,.box 95 false [.mp 3]),(3,.mapo T3 .bool m)]⟩) ?_ (AC [(1,.nm 1),(3,.nm 3)] rfl rfl ?_ ?_)
   ·exact fM d [.tmp 4] (.p T3 (-1)) eT ⟨by rw[hf],rfl⟩
   ·first|exact eN|refine eM ?_
   ·first|exact eN|refine eM ?_
theorem A2o (m:List (Int×Bool)) (l:List (Int×Int)) (e:l.length≤140737488355328):BA Tryz.prog 56 [.p b4 l,.clo 57 [1]] [(1,.box 95 false [.mp 3]),(3,.mapo T3 .bool m)] [1,3] (fun res f=>res=.p .bool (l.any (fun a=>(A8 T3 .bool (Prod.snd a) m).getD false))∧f=[(1,.box 95 false [.mp 3]),(3,.mapo T3 .bool m)]):=by
 refine J1 [0,1,4] [] [] Tryz.func56 Tryz.ntmps56 AG ?_;intro w0 K O0 ρ0 b g h;simp only[Ah];repeat'(first|exact trivial|refine eS rfl ?_|refine AB ?_|refine rX b ?_ ?_|refine rC ?_ ?_<;>intro c<;>try(cases c;done))
 refine cP 2 b ?_ ?_
 ·trivial
 ·have key:=wR m l e;refine rM b (key) [(1,.nm 1),(3,.nm 3)] [] ?_ ?_ ?_
  ·first|exact eN|refine eM ?_
  ·first|exact eN|refine eM ?_
  ·rintro _ _ ⟨rfl,rfl⟩;refine⟨[(1,.nm 1),(3,.nm 3)],.p T3 (KB (fun a=>(A8 T3 .bool (Prod.snd a) m).getD false) 0 l),[(1,.box 95 false [.mp 3]),(3,.mapo T3 .bool m)],rfl,rfl,?_,?_,rfl,rfl,?_⟩
   ·first|exact eN|refine eM ?_
   ·first|exact eN|refine eM ?_
   ·have ha:=Ve (fun a=>(A8 T3 .bool (Prod.snd a) m).getD false) 0 l;generalize KB (fun a=>(A8 T3 .bool (Prod.snd a) m).getD false) 0 l=d at *;refine rL b ?_ ?_
    ·trivial
    ·repeat'(first|exact trivial|refine eS rfl ?_|refine AB ?_|refine rX b ?_ ?_|refine rC ?_ ?_<;>intro c<;>try(cases c;done))
     refine Ev.ent (σ':=⟨[(4,.p .bool (decide (0≤d)))],[(1,.box 95 false [.mp 3]),(3,.mapo T3 .bool m)]⟩) ?_ (AC [(1,.nm 1),(3,.nm 3)] rfl rfl ?_ ?_)
     ·exact fM b [.tmp 4] (.p .bool (decide (0≤d))) eT ⟨by rw[ha],rfl⟩
     ·first|exact eN|refine eM ?_
     ·first|exact eN|refine eM ?_
theorem wS (v:Int×Int) (l:List (Int×Int)) (n:l.length≤140737488355328):BA Tryz.prog 75 [.p Cl l,.clo 50 [1]] [(1,.box 87 true [.p T3 v.1,.p T3 v.2])] [1] (fun res m=>res=.p T3 (KB (fun a=>(Prod.fst a==v.1)) 0 l)∧m=[(1,.box 87 true [.p T3 v.1,.p T3 v.2])]):=by
 refine J1 [0,1,4,5,7,8,9,16] [] [] Tryz.func75 Tryz.ntmps75 AG ?_;intro w0 K O0 ρ0 d o q;simp only[Ah];repeat'(first|exact trivial|refine eS rfl ?_|refine AB ?_|refine rX d ?_ ?_|refine rC ?_ ?_<;>intro c<;>try(cases c;done))
 refine AH (ι:={k:Nat//k≤l.length∧KB (fun a=>(Prod.fst a==v.1)) k (l.drop k)=KB (fun a=>(Prod.fst a==v.1)) 0 l}) (fun k=>⟨[(0,.p Cl l),(1,.clo 50 [1]),(7,.p (.int .i64) (l.length:Int)),(8,.p (.int .i64) (k.1:Int))],[(1,.box 87 true [.p T3 v.1,.p T3 v.2])]⟩) (fun k=>l.length-k.1) ⟨0,NO _,rfl⟩ (AC [(1,.nm 1)] rfl rfl ?_ ?_) (fun k=>?_)
 ·first|exact eN|refine eM ?_
 ·first|exact eN|refine eM ?_
 ·obtain⟨k,hk,hf⟩:=k;have j:k<l.length→∀b,(fun a=>(Prod.fst a==v.1)) (l.getD k (0,0))=b→KB (fun a=>(Prod.fst a==v.1)) k (l.drop k)=if b=true then (k:Int) else KB (fun a=>(Prod.fst a==v.1)) (k+1) (l.drop (k+1)):=fun h b e=>by rw[←e];exact YE (fun a=>(Prod.fst a==v.1)) (0,0) l h
  simp only;repeat'(first|exact trivial|refine eS rfl ?_|refine AB ?_|refine rX d ?_ ?_|refine rC ?_ ?_<;>intro c<;>try(cases c;done))
  ·have f:k<l.length:=OR.1 c;refine cP 5 d ?_ ?_
   ·exact c
   ·have key:=A2n v (l.getD k (0,0));refine rM d (key) [(1,.nm 1)] [] ?_ ?_ ?_
    ·first|exact eN|refine eM ?_
    ·first|exact eN|refine eM ?_
    ·rintro _ _ ⟨rfl,rfl⟩;refine⟨[(1,.nm 1)],.p .bool ((fun a=>(Prod.fst a==v.1)) (l.getD k (0,0))),[(1,.box 87 true [.p T3 v.1,.p T3 v.2])],rfl,rfl,?_,?_,rfl,rfl,CS ?_⟩
     ·first|exact eN|refine eM ?_
     ·first|exact eN|refine eM ?_
     ·generalize r:(fun a=>(Prod.fst a==v.1)) (l.getD k (0,0))=i at *;have g:=j f i rfl;repeat'(first|exact trivial|refine eS rfl ?_|refine AB ?_|refine rX d ?_ ?_|refine rC ?_ ?_<;>intro c<;>try(cases c;done))
      ·have c:i=true:=c;rw[BY c,hf]at g;refine Ev.ent (σ':=⟨[(4,.p (.int .i64) (k:Int))],[(1,.box 87 true [.p T3 v.1,.p T3 v.2])]⟩) ?_ (AC [(1,.nm 1)] rfl rfl ?_ ?_)
       ·exact fM d [.tmp 4] (.p T3 (k:Int)) eT ⟨by rw[g],rfl⟩
       ·first|exact eN|refine eM ?_
       ·first|exact eN|refine eM ?_
      ·omega
      ·have c:i=false:=c;rw[At (by rw[c];simp)]at g;refine⟨⟨k+1,f,g.symm.trans hf⟩,by simp only;omega,AC [(1,.nm 1)] rfl rfl ?_ ?_⟩
       ·first|exact eN|refine eM ?_
       ·first|exact eN|refine eM ?_
  ·have f:l.drop k=[]:=IF (f8.1 c);rw[f]at hf;have hf:(-1:Int)=KB (fun a=>(Prod.fst a==v.1)) 0 l:=hf;refine Ev.ent (σ':=⟨[(4,.p (.int .i64) (-1))],[(1,.box 87 true [.p T3 v.1,.p T3 v.2])]⟩) ?_ (AC [(1,.nm 1)] rfl rfl ?_ ?_)
   ·exact fM d [.tmp 4] (.p T3 (-1)) eT ⟨by rw[hf],rfl⟩
   ·first|exact eN|refine eM ?_
   ·first|exact eN|refine eM ?_
theorem A2p (v:Int×Int) (l:List (Int×Int)) (e:l.length≤140737488355328):BA Tryz.prog 49 [.p Cl l,.clo 50 [1]] [(1,.box 87 true [.p T3 v.1,.p T3 v.2])] [1] (fun res f=>res=.p .bool (l.any (fun a=>(Prod.fst a==v.1)))∧f=[(1,.box 87 true [.p T3 v.1,.p T3 v.2])]):=by
 refine J1 [0,1,4] [] [] Tryz.func49 Tryz.ntmps49 AG ?_;intro w0 K O0 ρ0 b g h;simp only[Ah];repeat'(first|exact trivial|refine eS rfl ?_|refine AB ?_|refine rX b ?_ ?_|refine rC ?_ ?_<;>intro c<;>try(cases c;done))
 refine cP 2 b ?_ ?_
 ·trivial
 ·have key:=wS v l e;refine rM b (key) [(1,.nm 1)] [] ?_ ?_ ?_
  ·first|exact eN|refine eM ?_
  ·first|exact eN|refine eM ?_
  ·rintro _ _ ⟨rfl,rfl⟩;refine⟨[(1,.nm 1)],.p T3 (KB (fun a=>(Prod.fst a==v.1)) 0 l),[(1,.box 87 true [.p T3 v.1,.p T3 v.2])],rfl,rfl,?_,?_,rfl,rfl,?_⟩
   ·first|exact eN|refine eM ?_
   ·first|exact eN|refine eM ?_
   ·have ha:=Ve (fun a=>(Prod.fst a==v.1)) 0 l;generalize KB (fun a=>(Prod.fst a==v.1)) 0 l=d at *;refine rL b ?_ ?_
    ·trivial
    ·repeat'(first|exact trivial|refine eS rfl ?_|refine AB ?_|refine rX b ?_ ?_|refine rC ?_ ?_<;>intro c<;>try(cases c;done))
     refine Ev.ent (σ':=⟨[(4,.p .bool (decide (0≤d)))],[(1,.box 87 true [.p T3 v.1,.p T3 v.2])]⟩) ?_ (AC [(1,.nm 1)] rfl rfl ?_ ?_)
     ·exact fM b [.tmp 4] (.p .bool (decide (0≤d))) eT ⟨by rw[ha],rfl⟩
     ·first|exact eN|refine eM ?_
     ·first|exact eN|refine eM ?_
abbrev Kk:=List (List (Int×Int))
def A56 (v:Kk) (s:List Bool×Bool) (i:Nat):List Bool×Bool:=if (s.1.getD i false&&!((v.getD i []).any fun a=>s.1.getD a.2.toNat false))=true then (s.1.set i false,true) else s
def rB (v:Kk) (l:List Bool) (i:Nat):List Bool×Bool:=(List.range i).foldl (A56 v) (l,false)
def Vf (v:Kk):Nat→List Bool→List Bool
 | 0,l=>l
 | k+1,l=>if (rB v l v.length).2=true then Vf v k (rB v l v.length).1 else (rB v l v.length).1
def sL (v:Kk):Bool:=(Vf v (v.length+1) (List.replicate v.length true)).all (!·)
def Qa (l:List Bool):Nat:=l.countP id
theorem jN:∀ {l:List Bool} {i:Nat},l.getD i false=true→Qa (l.set i false)+1=Qa l
 | [],i,h=>by simp at h
 | x :: l,0,h=>by
  have h:x=true:=by simpa using h
  subst h;simp[Qa]
 | x :: l,i+1,h=>by
  have:=jN (l:=l) (i:=i) (by simpa using h);unfold Qa at this ⊢;rw[AC2,ABi,ABi];omega
theorem A2q (n:Nat):Qa (List.replicate n true)=n:=by unfold Qa;rw[List.countP_eq_length.2 (fun a ha=>by rw[List.eq_of_mem_replicate ha];rfl),ABU]
theorem sM (v:Kk) (l:List Bool) (i:Nat):rB v l (i+1)=A56 v (rB v l i) i:=by
 unfold rB;rw[AAd,ABu];rfl
theorem A2r (v:Kk) (l:List Bool):∀i,(rB v l i).1.length=l.length∧((rB v l i).2=true→Qa (rB v l i).1<Qa l)∧((rB v l i).2=false→(rB v l i).1=l)∧Qa (rB v l i).1≤Qa l
 | 0=>⟨rfl,fun h=>(by cases h),fun _=>rfl,Is _⟩
 | i+1=>by
  obtain⟨h1,b,c,d⟩:=A2r v l i;rw[sM];generalize rB v l i=s at *;unfold A56;split
  ·rename_i h;rw[As]at h;have f:=jN h.1;have a:Qa (s.1.set i false)<Qa l:=by omega
   exact⟨by simpa using h1,fun _=>a,fun e=>(by cases e),ABT a⟩
  ·exact⟨h1,b,c,d⟩
structure MI (m:List (Int×Bool)) (l:List Bool):Prop where
 nd:(m.map (·.1)).Nodup
 get:∀k:Int,A8 T3 .bool k m=if 0≤k∧l.getD k.toNat false=true then some true else none
theorem sN (k:Int) (v:Bool):∀ {m:List (Int×Bool)},(m.map (·.1)).Nodup→((IC T3 .bool k v m).map (·.1)).Nodup∧∀x,x∈(IC T3 .bool k v m).map (·.1)→x=k∨x∈m.map (·.1)
 | [],_=>by simp[IC]
 | y :: m,h=>by
  rw[AA4,AAt]at h;unfold IC;split
  ·rename_i e;have e:k=y.1:=by simpa[Jk] using e
   refine⟨?_,fun x a=>?_⟩
   ·rw[AA4,AAt,e];exact h
   ·rcases By.1 a with a|a
    ·exact .inl a
    ·exact .inr (If _ a)
  ·rename_i e;have e:¬k=y.1:=by simpa[Jk] using e
   obtain⟨c,b⟩:=sN k v h.2;refine⟨?_,fun x a=>?_⟩
   ·rw[AA4,AAt];refine⟨fun d=>?_,c⟩;rcases b _ d with a|a
    ·exact e a.symm
    ·exact h.1 a
   ·rcases By.1 a with a|a
    ·exact .inr (by rw[a];simp)
    ·exact(b x a).imp id fun g=>If _ g
theorem jO (k:Int):∀m:List (Int×Bool),(Nb T3 .bool k m).Sublist m
 | []=>List.Sublist.refl _
 | y :: m=>by
  unfold Nb;split
  ·exact List.sublist_cons_self _ _
  ·exact(jO k m).cons_cons _
theorem YF {x:Int}:∀ {m:List (Int×Bool)},x∉m.map (·.1)→A8 T3 .bool x m=none
 | [],_=>rfl
 | y :: m,h=>by
  unfold A8;rw[At (by
   intro e;have e:x=y.1:=by simpa[Jk] using e
   exact h (by rw[e];simp))]
  exact YF fun a=>h (If _ a)
theorem YG (x k:Int):∀ {m:List (Int×Bool)},(m.map (·.1)).Nodup→A8 T3 .bool x (Nb T3 .bool k m)=if x=k then none else A8 T3 .bool x m
 | [],_=>by simp[Nb,A8]
 | y :: m,h=>by
  rw[AA4,AAt]at h;unfold Nb;split
  ·rename_i e;have e:k=y.1:=by simpa[Jk] using e
   by_cases a:x=k
   ·rw[BY a,a,e];exact YF h.1
   ·rw[At a];have c:¬x=y.1:=by rw[←e];exact a
    simp[A8,Jk,c]
  ·rename_i e;have e:¬k=y.1:=by simpa[Jk] using e
   have f:=YG x k h.2;by_cases b:x=y.1
   ·have d:¬x=k:=by rw[b];exact fun g=>e g.symm
    rw[At d];simp[A8,Jk,b]
   ·have hn:¬Jk T3 x y.1=true:=by simpa[Jk] using b
    simp only[A8];rw[At hn,At hn,f]
theorem MI.zero:MI [] (List.replicate 0 true):=⟨List.nodup_nil,fun k=>by simp[A8]⟩
theorem MI.put {m:List (Int×Bool)} {i:Nat} (h:MI m (List.replicate i true)):MI (IC T3 .bool (i:Int) true m) (List.replicate (i+1) true):=by
 refine⟨(sN _ _ h.nd).1,fun(k:Int)=>?_⟩;rw[VV,h.get];by_cases hk:k=(i:Int)
 ·rw[BY hk,BY];subst hk;refine⟨AA1 _,?_⟩;simp[AS,AAY]
 ·rw[At hk];have e:(0≤k∧(List.replicate i true).getD k.toNat false=true)↔(0≤k∧(List.replicate (i+1) true).getD k.toNat false=true):=by
   simp only[AS,AAY];constructor
   ·rintro⟨a,b⟩;refine⟨a,?_⟩;split at b
    ·rw[BY (by omega)];rfl
    ·simp at b
   ·rintro⟨a,b⟩;refine⟨a,?_⟩;split at b
    ·rw[BY (by omega)];rfl
    ·simp at b
  by_cases c:0≤k∧(List.replicate i true).getD k.toNat false=true
  ·rw[BY c,BY (e.1 c)]
  ·rw[At c,At fun g=>c (e.2 g)]
theorem MI.del {m:List (Int×Bool)} {l:List Bool} (h:MI m l) (i:Nat):MI (Nb T3 .bool (i:Int) m) (l.set i false):=by
 refine⟨h.nd.sublist ((jO _ m).map _),fun(k:Int)=>?_⟩;rw[YG _ _ h.nd,h.get];by_cases hk:k=(i:Int)
 ·subst hk;rw[BY rfl,At];rintro⟨-,b⟩;rw[iN]at b;simp only[AS,AAy]at b;rw[BY trivial]at b;split at b<;>simp at b
 ·rw[At hk];by_cases a:0≤k
  ·have c:¬i=k.toNat:=by omega
   simp only[AS,AAy];rw[At c]
  ·rw[At fun g=>a g.1,At fun g=>a g.1]
theorem oP (y:Int×Bool) (m:List (Int×Bool)):A8 T3 .bool y.1 (y :: m)=some y.2:=by
 unfold A8;rw[BY (by simp[Jk])]
theorem MI.len0 {m:List (Int×Bool)} {l:List Bool} (h:MI m l):m.length=0↔l.all (!·)=true:=by
 constructor
 ·intro e;have e:m=[]:=nO e;subst e;refine IN.2 fun b a=>?_;obtain⟨i,hi,rfl⟩:=AA6.1 a;have:=h.get (i:Int);cases a:l[i] with
  | false=>rfl
  | true =>
   rw[BY ⟨AA1 _,by rw[iN,AS,AT hi,a];rfl⟩]at this;cases this
 ·intro e;cases m with
  | nil=>rfl
  | cons y m =>
   have:=h.get y.1;rw[oP]at this;split at this
   ·rename_i f;have d:y.1.toNat<l.length:=by
     refine DO fun hn=>?_;have:=f.2;rw[AS,dO (by omega)]at this;cases this
    have c:=f.2;rw[AS,AT d]at c;have:=IN.1 e _ (AAs d);rw[show l[y.1.toNat]=true from c]at this;cases this
   ·cases this
theorem NR {x:Int}:∀ {m:List (Int×Bool)},x∈m.map (·.1)→A8 T3 .bool x m≠none
 | y :: m,h=>by
  unfold A8;split
  ·simp
  ·rename_i e;rcases By.1 h with h|h
   ·exact absurd (by simp[Jk,h]) e
   ·exact NR h
theorem MI.len {m:List (Int×Bool)} {l:List Bool} (h:MI m l):m.length≤l.length:=by
 have h1:((m.map (·.1)).map Int.toNat).Nodup:=by
  rw[List.Nodup,AAR];refine h.nd.imp_of_mem fun {a b:Int} ha d i e=>i ?_;have h1:=NR ha;have c:=NR d;rw[h.get]at h1 c;have a0:0≤a:=DO fun g=>h1 (At fun q=>g q.1);have n:0≤b:=DO fun g=>c (At fun q=>g q.1);omega
 have:=EX l.length _ h1 (fun j f=>by
  obtain⟨x,k,rfl⟩:=GO.1 f;have h1:=NR k;rw[h.get]at h1;refine DO fun hn=>h1 (At fun g=>?_);have:=g.2;rw[AS,dO (by omega)]at this;cases this)
 simpa using this
theorem MI.look {m:List (Int×Bool)} {l:List Bool} (h:MI m l) {k:Int} (a:0≤k):(A8 T3 .bool k m).getD false=l.getD k.toNat false:=by
 rw[h.get];cases b:l.getD k.toNat false with
 | true=>rw[BY ⟨a,rfl⟩];rfl
 | false=>rw[At fun g=>by cases g.2];rfl
section
def VOk (v:Kk):Prop:=∀r∈v,∀a∈r,0≤a.2∧a.2<(v.length:Int)
theorem A2s {m:List (Int×Bool)} {l:List Bool} (h:MI m l) {r:List (Int×Int)} (c:∀a∈r,0≤a.2):(r.any fun a=>(A8 T3 .bool (Prod.snd a) m).getD false)=r.any fun a=>l.getD a.2.toNat false:=by
 induction r with
 | nil=>rfl
 | cons a r e =>
  rw[List.any_cons,List.any_cons,e (fun b d=>c b (If _ d)),h.look (c a (by simp))]
def sO:Ad:={ ins:=[T45],pre:=fun(v,_)=>VOk v,out:=fun(v,_)=>[.p .bool (sL v)],lend:=true }
attribute [local go_sem] sO
theorem A57:Ag Tryz.prog 24 sO:=by
 refine fK [0,2,3,4,5,6,9,10,11,16,18,19,20,33] Tryz.func24 Tryz.ntmps24 AG ?_;rintro w0 O0 ⟨v,u⟩ c ⟨⟨S,Q⟩,-⟩ w;have w:VOk v:=w;simp only[AO]at S;have R:∀r∈(v:Kk),List.length r≤140737488355328:=fun r t=>(Q r t).1;simp only[sO,AM];repeat'(first|exact trivial|refine eS rfl ?_|refine AB ?_|refine rX c ?_ ?_|refine rC ?_ ?_<;>intro d<;>try(cases d;done))
 refine AH (ι:={x:Nat×List (Int×Bool)//x.1≤List.length v∧MI x.2 (List.replicate x.1 true)}) (fun x=>⟨[(0,.p T45 v),(3,.bp 3 [] 0),(9,.p (.int .i64) (List.length v:Int)),(10,.p (.int .i64) (x.1.1:Int))],[(3,.box 95 false [.mp 7]),(7,.mapo T3 .bool x.1.2)]⟩) (fun x=>List.length v-x.1.1) ⟨(0,[]),NO _,MI.zero⟩ (eW [(3,.nm 3),(7,.nm 7)]) (fun x=>?_)
 ·obtain⟨⟨i,m⟩,hi,s⟩:=x;simp only at hi s ⊢;repeat'(first|exact trivial|refine eS rfl ?_|refine AB ?_|refine rX c ?_ ?_|refine rC ?_ ?_<;>intro d<;>try(cases d;done))
  ·omega
  ·have g:i<List.length v:=by exact eV
   exact⟨⟨(i+1,IC T3 .bool (i:Int) true m),g,s.put⟩,by simp only;omega,eW [(3,.nm 3),(7,.nm 7)]⟩
  ·have g:i=List.length v:=by exact eV
   subst g;refine AH (ι:={x:Bool×List (Int×Bool)×List Bool//x.2.2.length=List.length v∧MI x.2.1 x.2.2∧(x.1=true→∃k,Qa x.2.2+1≤k∧Vf v k x.2.2=Vf v (List.length v+1) (List.replicate (List.length v) true))∧(x.1=false→x.2.2=Vf v (List.length v+1) (List.replicate (List.length v) true))}) (fun x=>⟨[(0,.p T45 v),(3,.bp 3 [] 0),(5,.p .bool x.1.1)],[(3,.box 95 false [.mp 7]),(7,.mapo T3 .bool x.1.2.1)]⟩) (fun x=>2*Qa x.1.2.2+(if x.1.1=true then 1 else 0)) ⟨(true,m,List.replicate (List.length v) true),by simp,s,fun _=>⟨_,by simp only[A2q];exact Is _,rfl⟩,fun e=>by cases e⟩ (eW [(3,.nm 3),(7,.nm 7)]) (fun x=>?_)
   ·obtain⟨⟨b,I,l⟩,q,n,B,C⟩:=x;simp only at q n B C ⊢;repeat'(first|exact trivial|refine eS rfl ?_|refine AB ?_|refine rX c ?_ ?_|refine rC ?_ ?_<;>intro d<;>try(cases d;done))
    ·have D:b=true:=d;obtain⟨k,hk,o⟩:=B D;obtain⟨k,rfl⟩:∃U,k=U+1:=⟨k-1,by omega⟩;refine AH (ι:={x:Nat×List (Int×Bool)//x.1≤List.length v∧MI x.2 (rB v l x.1).1}) (fun x=>⟨[(0,.p T45 v),(3,.bp 3 [] 0),(5,.p .bool (rB v l x.1.1).2),(18,.p (.int .i64) (List.length v:Int)),(19,.p (.int .i64) (x.1.1:Int))],[(3,.box 95 false [.mp 7]),(7,.mapo T3 .bool x.1.2)]⟩) (fun x=>List.length v-x.1.1) ⟨(0,I),NO _,n⟩ (AC [(3,.nm 3),(7,.nm 7)] rfl rfl ?_ ?_) (fun x=>?_)
     ·exact eN
     ·refine eM ?_;rfl
     ·obtain⟨⟨i,h⟩,hi,j⟩:=x;simp only at hi j ⊢;have f:=sM v l i;have M:=A2r v l i;repeat'(first|exact trivial|refine eS rfl ?_|refine AB ?_|refine rX c ?_ ?_|refine rC ?_ ?_<;>intro d<;>try(cases d;done))
      ·have g:i<List.length v:=by exact eV
       have E:=j.look (k:=(i:Int)) (AA1 _);rw[iN]at E;have F:List.getD v i []∈(v:Kk):=AD (v:Kk) [] g;have K:=A2s j (r:=List.getD v i []) fun a ha=>(w _ F a ha).1;have G:A56 v (rB v l i) i=if ((rB v l i).1.getD i false&&!((List.getD v i []).any fun a=>(rB v l i).1.getD a.2.toNat false))=true then ((rB v l i).1.set i false,true) else rB v l i:=rfl
       rw[←K,←E]at G;rw[G]at f;have L:=j.del i;refine evP c 4 ?_ ?_
       ·trivial
       ·cases A:(A8 T3 .bool (i:Int) h).getD false with
        | false =>
         rw[A,Bool.false_and,At (by simp)]at f;refine rL c ?_ ?_
         ·trivial
         ·repeat'(first|exact trivial|refine eS rfl ?_|refine AB ?_|refine rX c ?_ ?_|refine rC ?_ ?_<;>intro d<;>try(cases d;done))
          ·omega
          ·refine⟨⟨(i+1,h),g,by rw[f];exact j⟩,by simp only;omega,AC [(3,.nm 3),(7,.nm 7)] rfl rfl ?_ ?_⟩
           ·exact eN
           ·simp only[f];exact eN
        | true =>
         rw[A,AC6]at f;refine rN 5 c ?_ ?_
         ·exact d
         ·have key:=A2o h (List.getD v i []) (R _ F);generalize List.any (List.getD v i []) (fun a=>(A8 T3 .bool (Prod.snd a) h).getD false)=y at *;refine clG c (key) [(1,.nm 3),(3,.nm 7)] [] ?_ ?_ ?_
          ·exact eN
          ·exact eN
          ·rintro _ _ ⟨rfl,rfl⟩;refine⟨[(3,.nm 1),(7,.nm 3)],.p .bool y,[(3,.box 95 false [.mp 7]),(7,.mapo T3 .bool h)],rfl,rfl,?_,?_,rfl,rfl,?_⟩
           ·exact eN
           ·exact eN
           ·refine rL c ?_ ?_
            ·trivial
            ·cases z:y with
             | true =>
              subst z;rw[AC7,At (by simp)]at f;repeat'(first|exact trivial|refine eS rfl ?_|refine AB ?_|refine rX c ?_ ?_|refine rC ?_ ?_<;>intro d<;>try(cases d;done))
              ·omega
              ·refine⟨⟨(i+1,h),g,by rw[f];exact j⟩,by simp only;omega,AC [(3,.nm 3),(7,.nm 7)] rfl rfl ?_ ?_⟩
               ·exact eN
               ·simp only[f];exact eN
             | false =>
              subst z;rw[ACg,BY rfl]at f;repeat'(first|exact trivial|refine eS rfl ?_|refine AB ?_|refine rX c ?_ ?_|refine rC ?_ ?_<;>intro d<;>try(cases d;done))
              refine cP 2 c ?_ ?_
              ·trivial
              ·refine AA8 c Tryz.underlying95 Tryz.underlying3 ?_;refine rL c ?_ ?_
               ·trivial
               ·repeat'(first|exact trivial|refine eS rfl ?_|refine AB ?_|refine rX c ?_ ?_|refine rC ?_ ?_<;>intro d<;>try(cases d;done))
                ·omega
                ·refine⟨⟨(i+1,Nb T3 .bool (i:Int) h),g,by rw[f];exact L⟩,by simp only;omega,AC [(3,.nm 3),(7,.nm 7)] rfl rfl ?_ ?_⟩
                 ·exact eN
                 ·simp only[f];exact eN
      ·have g:i=List.length v:=by exact eV
       subst g;obtain⟨T,H,V,W⟩:=M;have J:Vf v (k+1) l=if (rB v l (List.length v)).2=true then Vf v k (rB v l (List.length v)).1 else (rB v l (List.length v)).1:=rfl
       rw[J]at o;refine⟨⟨((rB v l (List.length v)).2,h,(rB v l (List.length v)).1),T.trans q,j,fun e=>⟨k,?_,?_⟩,fun e=>?_⟩,?_,AC [(3,.nm 3),(7,.nm 7)] rfl rfl ?_ ?_⟩
       ·have:=H e;simp only;omega
       ·rw[←o,BY e]
       ·rw[←o,At (by rw[show (rB v l (List.length v)).2=false from e];simp)]
       ·simp only;rw[BY D];split
        ·rename_i e;have:=H e;omega
        ·omega
       ·exact eN
       ·exact eN
    ·have N:=C d;have O:=n.len0;have P:=n.len;rw[q]at P;have t:((I.length:Int)==0)=sL v:=by
      unfold sL;rw[←N,ABx,AAq,←O];omega
     refine cP 1 c ?_ ?_
     ·trivial
     ·refine AA9 c Tryz.underlying95 ?_ ?_
      ·simp only[AO];omega
      ·refine rL c ?_ ?_
       ·trivial
       ·repeat'(first|exact trivial|refine eS rfl ?_|refine AB ?_|refine rX c ?_ ?_|refine rC ?_ ?_<;>intro d<;>try(cases d;done))
        exact fI c [.tmp 2] (by rw[←t];exact eR)
end
def Zl:Ad:={ ins:=[Cl],pre:=fun(l,_)=>List.length l≤100000,out:=fun(l,_)=>[.own 53 BE l] }
theorem wT:Ag Tryz.prog 48 Zl:=by
 refine fK [0,2,4] Tryz.func48 Tryz.ntmps48 AG ?_;rintro w0 O0 ⟨l,u⟩ a-d;have d:List.length l≤100000:=d;simp only[Zl,AM];repeat'(first|exact trivial|refine eS rfl ?_|refine AB ?_|refine rX a ?_ ?_|refine rC ?_ ?_<;>intro c<;>try(cases c;done))
 refine cP 1 a ?_ ?_
 ·trivial
 ·refine XW a false rfl rfl ?_;intro b e;refine rL a ?_ ?_
  ·trivial
  ·repeat'(first|exact trivial|refine eS rfl ?_|refine AB ?_|refine rX a ?_ ?_|refine rC ?_ ?_<;>intro c<;>try(cases c;done))
   ·have f:l=[]:=e c;subst f;refine Ev.ent (σ':=⟨[(2,.sr 5 BE 0 0)],[(5,.arr 53 BE [])]⟩) ?_ (AC [(5,.nil)] rfl rfl ?_ ?_)
    ·exact Gd a (.inl rfl) (rv:=.tmp 2) rfl (by simp only[IT,Hv,GQ,go_sem,Nat.reduceEqDiff,reduceCtorEq,Nat.reduceAdd,Nat.reduceSub,Nat.reduceMul,Nat.reduceLeDiff,Nat.reduceLT,Int.reduceLE,Int.reduceToNat,Int.reduceNeg,↓reduceIte])
    ·exact eN
    ·exact eN
   ·simp only[AO];omega
   ·exact Gd a (.inl rfl) (rv:=.tmp 2) rfl (by simp only[IT,Hv,GQ,go_sem,Nat.reduceEqDiff,reduceCtorEq,Nat.reduceAdd,Nat.reduceSub,Nat.reduceMul,Nat.reduceLeDiff,Nat.reduceLT,Int.reduceLE,Int.reduceToNat,Int.reduceNeg,↓reduceIte])
def I3 (h:AJ):Kk:=h.1.map fun t=>t.2.2.2
def Vg (N:List AE) (i:Nat) (v:Int×Int):List AE:=N.set i ((N.getD i (0,[])).1,(N.getD i (0,[])).2++[(v.1,(N.length:Int))])++[(v.2,[])]
def Wp (i:Nat):List (Int×Int)→List AE→Option (List AE)
 | [],N=>some N
 | v :: r,N=>if ((N.getD i (0,[])).2.any fun a=>a.1==v.1)=true then Wp i r N else if 4096≤N.length then none else Wp i r (Vg N i v)
def jP (h:AJ):Nat→Nat→List AE→Option (List AE)
 | 0,_,_=>none
 | k+1,i,N=>if i<N.length then (Wp i (J9 h (N.getD i (0,[])).1) N).bind (jP h k (i+1)) else some N
def I4 (h:AJ) (f:List AE):List AE×Int :=
 if (Ba h f).2=false then ([],12) else if sL (I3 h)=false then ([],6)
 else match jP h ((Ba h f).1.length+4097) 0 (Ba h f).1 with
  | none=>([],7)
  | some N=>A4 N
theorem jQ (N:List AE) (i:Nat) (v:Int×Int):(Vg N i v).length=N.length+1:=by simp[Vg]
structure yA (h:AJ) (m i k:Nat) (N:List AE):Prop where
 len:N.length≤m
 ty:∀x∈N,0≤x.1∧x.1<(h.1.length:Int)
 lo:∀j,j<i→(N.getD j (0,[])).2.length≤200
 at':(N.getD i (0,[])).2.length≤100+k
 hi:∀j,i<j→(N.getD j (0,[])).2.length≤100
theorem A2t {α:Type} (l:List α) (x d:α) (j:Nat):(l++[x]).getD j d=if j<l.length then l.getD j d else if j=l.length then x else d:=by
 simp only[AS];by_cases h:j<l.length
 ·rw[BY h,AA5 h]
 ·rw[At h,AA2 (by omega)];by_cases e:j=l.length
  ·rw[BY e,e,AAI];rfl
  ·rw[At e,dO (by simp only[aS];omega)];rfl
theorem Gp {α:Type} (l:List α) (x d:α) {i:Nat} (h:i<l.length) (j:Nat):(l.set i x).getD j d=if j=i then x else l.getD j d:=by
 simp only[AS,AAy];by_cases e:i=j
 ·rw[BY e,BY h,BY e.symm];rfl
 ·rw[At e,At (show ¬j=i by omega)]
theorem A2u {N:List AE} {i:Nat} (h:i<N.length) (v:Int×Int) (j:Nat):(Vg N i v).getD j (0,[])=if j=i then ((N.getD i (0,[])).1,(N.getD i (0,[])).2++[(v.1,(N.length:Int))]) else if j=N.length then (v.2,[]) else N.getD j (0,[]):=by
 unfold Vg;rw[A2t,Gp _ _ _ h,AAm];by_cases a:j=i
 ·rw[BY a,BY (by omega),BY a]
 ·rw[At a,At a];by_cases c:j<N.length
  ·rw[BY c,At (by omega)]
  ·rw[At c];by_cases b:j=N.length
   ·rw[BY b,BY b]
   ·rw[At b,At b,AS,dO (by omega)];rfl
theorem yA.add {h:AJ} {m i k:Nat} {N:List AE} (b:yA h m i k N) (hi:i<N.length) (f:4096≤m) (e:N.length<4096) {v:Int×Int} (v0:0≤v.2) (v1:v.2<(h.1.length:Int)):yA h m i (k+1) (Vg N i v):=by
 have c:=fun j=>A2u hi v j;refine⟨by rw[jQ];omega,fun x a=>?_,fun j d=>?_,?_,fun j d=>?_⟩
 ·unfold Vg at a;rcases Of.1 a with a|a
  ·rcases ABn a with a|rfl
   ·exact b.ty x a
   ·exact(b.ty (N.getD i (0,[])) (AD N (0,[]) hi) :)
  ·rw[AB1.1 a];exact⟨v0,v1⟩
 ·rw[c,At (by omega),At (by omega)];exact b.lo j d
 ·rw[c,BY rfl];have:=b.at';simp only[Do,aS];omega
 ·rw[c,At (by omega)];split
  ·simp
  ·exact b.hi j d
theorem yA.skip {h:AJ} {m i k:Nat} {N:List AE} (a:yA h m i k N):yA h m i (k+1) N:=⟨a.len,a.ty,a.lo,by have:=a.at';omega,a.hi⟩
theorem yA.next {h:AJ} {m i k:Nat} {N:List AE} (a:yA h m i k N) (hk:k≤100):yA h m (i+1) 0 N:=⟨a.len,a.ty,fun j b=>by
 by_cases e:j=i
 ·have:=a.at';rw[e];omega
 ·exact a.lo j (by omega),a.hi (i+1) (by omega),fun j b=>a.hi j (by omega)⟩
structure A2v (h:AJ) (f:List AE):Prop where
 inf:oO h f
 fw:∀t∈h.1,t.2.2.2.length≤100
 vok:VOk (I3 h)
 rw':∀x∈f,x.2.length≤100
theorem A5Z {h:AJ} (hk:HW h) (hi:HX h) (hf:Wn h) {f:List AE} (ha:Lb h f):∀ {k i:Nat} {s:ER} {ty:List Int},NP h f.length s→sI h f k i s=some ty→ty.length=f.length∧∀t∈ty,0≤t∧t<(h.1.length:Int)
 | 0,_,_,_,_,e=>by cases e
 | k+1,i,s,ty,hs,e=>by
  unfold sI at e;split at e
  ·rename_i b;obtain⟨n0,n1⟩:=hs.wt _ (AD s.2 (0:Int) b);cases a:Kg h f (s.2.getD i 0) s with
   | none=>rw[a]at e;cases e
   | some s1 =>
    rw[a]at e;exact A5Z hk hi hf ha (QZ hk hi hf ha n0 n1 hs a).1 e
  ·injection e with e
   subst e;exact⟨hs.len,hs.ty⟩
theorem jR {h:AJ} {f:List AE} (hp:oO h f):∀x∈(Ba h f).1,(0≤x.1∧x.1<(h.1.length:Int))∧∃y∈f,x.2=y.2:=by
 unfold Ba;cases e:HZ h f with
 | none=>intro x a;cases a
 | some ty =>
  obtain⟨h1,b⟩:=A5Z hp.ok hp.inj hp.ft hp.arcs (YB hp.ty) e;intro x a;obtain⟨i,hi,rfl⟩:=GO.1 a;have hi:=oN.1 hi;exact⟨b _ (AD ty (0:Int) (by omega)),_,AD f (0,[]) hi,rfl⟩
theorem wU (h:AJ) (f:List AE):(Ba h f).1.length≤f.length:=by
 unfold Ba;split
 ·rw[Fy];exact Is _
 ·simp
theorem A2w {h:AJ} {f:List AE} (hp:A2v h f):yA h (max 4096 (Ba h f).1.length) 0 0 (Ba h f).1:=by
 have b:∀j,((Ba h f).1.getD j (0,[])).2.length≤100:=fun j=>by
  by_cases a:j<(Ba h f).1.length
  ·obtain⟨-,y,d,e⟩:=jR hp.inf _ (AD (Ba h f).1 (0,[]) a);rw[e];exact hp.rw' y d
  ·rw[AS,dO (by omega)];simp
 exact⟨Nat.le_max_right _ _,fun x c=>(jR hp.inf x c).1,fun j a=>by omega,b 0,fun j _=>b j⟩
section
attribute [local go_sem] Vc sO Zl QX
attribute [local go_sem] UX mG ne_eq not_false_eq_true
def Zm:Ad:={ ins:=[GN,E9],pre:=fun(h,f,_)=>A2v h f,out:=fun(h,f,_)=>[.p E9 (I4 h f).1,.p WV (I4 h f).2] }
attribute [local go_sem] Zm
theorem A2x:Ag Tryz.prog 21 Zm:=by
 refine fKP [0,1,2,3,4,5,6,7,8,10,11,13,14,16,24,27,28,29,30,41,44,45,46,47,63,75,76,77,78,87,90] [] [(57,53),(112,53)] Tryz.func21 Tryz.ntmps21 (AF Vd (AF A57 (AF wT (AF X7 AG)))) ?_;rintro w0 O0 ⟨⟨b,hf⟩,f,u⟩ d-hp;have hp:A2v (b,hf) f:=hp;have ak:b.length≤256:=hp.inf.ok.2;simp only[Zm,AM];repeat'(first|exact trivial|refine eS rfl ?_|refine AB ?_|refine rX d ?_ ?_|refine rC ?_ ?_<;>intro c<;>try(cases c;done))
 ·exact hp.inf
 ·have g:I4 (b,hf) f=([],12):=BY c;exact fI d [.cell 4 25,.tmp 5] (by rw[g];exact eR)
 ·have Q:¬(Ba (b,hf) f).2=false:=by rw[c];simp
  have F:(I3 (b,hf)).length=b.length:=by simp[I3]
  refine AH (ι:={i:Nat//i≤b.length}) (fun i=>⟨[(2,.bp 2 [] 0),(4,.bp 4 [] 0),(6,.bp 6 [] 0),(8,.sr 37 b4 0 i.1),(27,.p So b),(28,.p (.int .i64) (b.length:Int)),(29,.p (.int .i64) (i.1:Int))],[(6,.box 25 true [.p Em (Ba (b,hf) f).1]),(4,.box 25 true [.raw (.slice none 0 0)]),(2,.box 31 true [.p So b,.p UZ hf]),(37,.arr 82 b4 ((I3 (b,hf)).take i.1))]⟩) (fun i=>b.length-i.1) ⟨0,NO _⟩ (eW [(6,.nm 6),(4,.nm 4),(2,.nm 2),(37,.nil)]) (fun i=>?_)
  ·obtain⟨i,hi⟩:=i;have ab:i<b.length→(I3 (b,hf)).take i++[(List.getD b i (ByteArray.empty,[],[],[])).2.2.2]=(I3 (b,hf)).take (i+1):=fun h=>by
    rw[AX (I3 (b,hf)) [] (by rw[F];exact h)];simp[I3,AS,h]
   have al:((I3 (b,hf)).take i).length=i:=by rw[OS,F];omega
   have R:((I3 (b,hf)).take i).take i=(I3 (b,hf)).take i:=by rw[ABO,ACR]
   simp only;have E:i=b.length→List.take i (List.take i (I3 (b,hf)))=I3 (b,hf):=fun e=>by
    rw[R];exact An (by rw[F];omega)
   repeat'(first|exact trivial|refine eS rfl ?_|refine AB ?_|refine rX d ?_ ?_|refine rC ?_ ?_<;>intro c<;>try(cases c;done))
   ·exact c
   ·simp only[AO];omega
   ·omega
   ·have K:i<b.length:=OR.1 c;have aa:=ab K;refine⟨⟨i+1,K⟩,by simp only;omega,AC [(6,.nm 6),(4,.nm 4),(2,.nm 2),(37,.nm 37)] rfl rfl ?_ ?_⟩
    ·simp only[←aa];refine eM ?_;rw[R]
    ·exact eN
   ·rw[E (by exact eV)];exact hp.vok
   ·have m:=E (by exact eV);rw[m]at c;have g:I4 (b,hf) f=([],6):=by
     unfold I4;rw[At Q,BY c]
    exact fI d [.cell 4 25,.tmp 5] (by rw[g];exact eR)
   ·have m:=E (by exact eV);rw[m]at c;have D:=A2w hp;have an:=wU (b,hf) f;have aj:=hp.inf.good.1;have g:I4 (b,hf) f=match jP (b,hf) ((Ba (b,hf) f).1.length+4097) 0 (Ba (b,hf) f).1 with
      | none=>([],7)
      | some N=>A4 N:=by
     unfold I4;rw[At Q,At (by rw[c];simp)];all_goals rfl
    generalize (Ba (b,hf) f).1=x at *;refine AH (ι:={j:Nat//j≤x.length}) (fun j=>⟨[(2,.bp 2 [] 0),(4,.bp 4 [] 0),(11,.sr 58 JD 0 j.1),(44,.p Em x),(45,.p (.int .i64) (x.length:Int)),(46,.p (.int .i64) (j.1:Int))],[(4,.box 25 true [.raw (.slice none 0 0)]),(2,.box 31 true [.p So b,.p UZ hf]),(58,.nest 49 53 T3 BE (x.take j.1) none)]⟩) (fun j=>x.length-j.1) ⟨0,NO _⟩ (eW [(4,.nm 4),(2,.nm 2),(58,.nil)]) (fun j=>?_)
    ·obtain⟨j,O⟩:=j;have X:∀y∈x,y.2.length≤100:=fun y G=>by
      obtain⟨k,hk,rfl⟩:=AA6.1 G;have e:x.getD k (0,[])=x[k]:=by rw[AS,AT hk];rfl
      rw[←e];by_cases h0:k=0
      ·rw[h0];exact D.at'
      ·exact D.hi k (by omega)
     simp only;repeat'(first|exact trivial|refine eS rfl ?_|refine AB ?_|refine rX d ?_ ?_|refine rC ?_ ?_<;>intro c<;>try(cases c;done))
     ·exact c
     ·have z:j<x.length:=OR.1 c;have Y:=X _ (AD x (0,[]) z);refine B3 drawsAny d 9 [([1,2,3,4,5,6],7),([0],8)] [] (by kernel_rfl) (Ls ?_ ?_)
      ·dsimp only[Ty.den]at *;omega
      ·refine AAb d ?_ ?_
       ·rfl
       ·refine Ls ?_ ?_
        ·trivial
        ·refine Ns d [58,57] ?_ ?_
         ·have e:(List.take j x).length=j:=by rw[OS];omega
          rw[e];simp only[AO];exact⟨trivial,by omega⟩
         ·refine Pp d ?_ ?_ ?_
          ·trivial
          ·trivial
          ·repeat'(first|exact trivial|refine eS rfl ?_|refine AB ?_|refine rX d ?_ ?_|refine rC ?_ ?_<;>intro c<;>try(cases c;done))
           ·omega
           ·have e:=AX x (0,[]) z;refine⟨⟨j+1,z⟩,by simp only;omega,AC [(4,.nm 4),(2,.nm 2),(58,.nm 58)] rfl rfl ?_ ?_⟩
            ·simp only[e];exact eN
            ·refine eM ?_;rw[OS];omega
     ·have z:j=x.length:=by exact eV
      subst z;have ad:x.take x.length=x:=An (Is _);rw[ad];refine AH (ι:={s:Nat×List AE//s.1≤s.2.length∧yA (b,hf) (max 4096 x.length) s.1 0 s.2∧∃k,max 4096 x.length+1≤k+s.1∧jP (b,hf) (x.length+4097) 0 x=jP (b,hf) k s.1 s.2}) (fun s=>⟨[(2,.bp 2 [] 0),(4,.bp 4 [] 0),(11,.sr 58 JD 0 s.1.2.length),(14,.p (.int .i64) (s.1.1:Int))],[(4,.box 25 true [.raw (.slice none 0 0)]),(2,.box 31 true [.p So b,.p UZ hf]),(58,.nest 49 53 T3 BE s.1.2 none)]⟩) (fun s=>max 4096 x.length+1-s.1.1) ⟨(0,x),NO _,D,x.length+4097,by omega,rfl⟩ (eW [(4,.nm 4),(2,.nm 2),(58,.nm 58)]) (fun s=>?_)
      ·obtain⟨⟨i,N⟩,V,r,k,hk,m⟩:=s;simp only at V r m hk ⊢;have ai:=r.len;repeat'(first|exact trivial|refine eS rfl ?_|refine AB ?_|refine rX d ?_ ?_|refine rC ?_ ?_<;>intro c<;>try(cases c;done))
       ·have q:i<N.length:=OR.1 c;exact⟨c,r.ty _ (AD N (0,[]) q)⟩
       ·have q:i<N.length:=OR.1 c;obtain⟨ae,af⟩:=r.ty _ (AD N (0,[]) q);obtain⟨k,rfl⟩:∃H,k=H+1:=⟨k-1,by omega⟩;have C:jP (b,hf) (k+1) i N=(Wp i (J9 (b,hf) (N.getD i (0,[])).1) N).bind (jP (b,hf) k (i+1)):=BY q;rw[C]at m;have P:=YA (h:=(b,hf)) ae af;have ag:(J9 (b,hf) (N.getD i (0,[])).1).length≤100:=hp.fw _ P;have T:∀a∈J9 (b,hf) (N.getD i (0,[])).1,0≤a.2∧a.2<((b,hf):AJ).1.length:=hp.inf.ft.val _ P;have J:∀l,l=J9 (b,hf) (N.getD i (0,[])).1→(List.getD b (Int.toNat (N.getD i (0,[])).1) (ByteArray.empty,[],[],[])).2.2.2=l:=fun l e=>by rw[e];rfl
        generalize S:J9 (b,hf) (N.getD i (0,[])).1=L at *;rw[J L rfl];clear J S;refine AH (ι:={y:Nat×List AE//y.1≤L.length∧yA (b,hf) (max 4096 x.length) i y.1 y.2∧i<y.2.length∧Wp i L N=Wp i (L.drop y.1) y.2}) (fun y=>⟨[(2,.bp 2 [] 0),(4,.bp 4 [] 0),(11,.sr 58 JD 0 y.1.2.length),(14,.p (.int .i64) (i:Int)),(75,.p b4 L),(76,.p (.int .i64) (L.length:Int)),(77,.p (.int .i64) (y.1.1:Int))],[(4,.box 25 true [.raw (.slice none 0 0)]),(2,.box 31 true [.p So b,.p UZ hf]),(58,.nest 49 53 T3 BE y.1.2 none)]⟩) (fun y=>L.length-y.1.1) ⟨(0,N),NO _,r,q,rfl⟩ (eW [(4,.nm 4),(2,.nm 2),(58,.nm 58)]) (fun y=>?_)
        ·obtain⟨⟨j,M⟩,O,t,o,n⟩:=y;simp only at O t o n ⊢;have ah:=t.len;repeat'(first|exact trivial|refine eS rfl ?_|refine AB ?_|refine rX d ?_ ?_|refine rC ?_ ?_<;>intro c<;>try(cases c;done))
         ·exact c
         ·have B:j<L.length:=OR.1 c;have w:Wp i (L.drop j) M=if ((M.getD i (0,[])).2.any fun a=>a.1==(L.getD j (0,0)).1)=true then Wp i (L.drop (j+1)) M else if 4096≤M.length then none else Wp i (L.drop (j+1)) (Vg M i (L.getD j (0,0))):=by rw[L2 (0,0) B];rfl
          obtain⟨v0,v1⟩:=T _ (AD L (0,0) B);have Y:=t.at';generalize am:L.getD j (0,0)=v at *;refine cP 6 d ?_ ?_
          ·exact OR.2 o
          ·have key:=A2p v (M.getD i (0,[])).2 (by omega);generalize List.any (M.getD i (0,[])).2 (fun a=>(Prod.fst a==v.1))=I at *;refine AAc d key rfl ?_;refine rL d ?_ ?_
           ·trivial
           ·repeat'(first|exact trivial|refine eS rfl ?_|refine AB ?_|refine rX d ?_ ?_|refine rC ?_ ?_<;>intro c<;>try(cases c;done))
            ·omega
            ·rename_i A;rw[BY c]at w;exact⟨⟨(j+1,M),B,t.skip,o,n.trans w⟩,by simp only;omega,eW [(4,.nm 4),(2,.nm 2),(58,.nm 58)]⟩
            ·have A:I=false:=by assumption
             rw[At (by rw[A];simp),BY (f8.1 c)]at w;rw[m,n,w]at g;have g:I4 (b,hf) f=([],7):=g;exact fI d [.cell 4 25,.tmp 5] (by rw[g];exact eR)
            ·have W:M.length<4096:=OR.1 c;have A:I=false:=by assumption
             rw[At (by rw[A];simp),At (by omega)]at w;refine B3 drawsAny d 14 [([2,3,4,5,6,7,8,9,10,11,12],13)] [0,1] (by kernel_rfl) (Ls ?_ ?_)
             ·exact OR.2 o
             ·refine mxN d 58 ?_ ?_
              ·simp only[AO];dsimp only[Ty.den]at *;omega
              ·refine Pp d ?_ ?_ ?_
               ·trivial
               ·exact OR.2 o
               ·repeat'(first|exact trivial|refine eS rfl ?_|refine AB ?_|refine rX d ?_ ?_|refine rC ?_ ?_<;>intro c<;>try(cases c;done))
                ·rw[AAm];simp only[AO];exact⟨trivial,by omega⟩
                ·omega
                ·refine⟨⟨(j+1,Vg M i v),B,t.add o (by omega) W v0 v1,by rw[jQ];omega,n.trans w⟩,by simp only;omega,AC [(4,.nm 4),(2,.nm 2),(58,.nm 58)] rfl rfl ?_ ?_⟩
                 ·unfold Vg;exact eN
                 ·unfold Vg;exact eN
         ·omega
         ·have U:L.drop j=[]:=IF (f8.1 c);rw[U]at n;have n:Wp i L N=some M:=n;rw[n]at m;exact⟨⟨(i+1,M),o,t.next (by omega),k,by simp only;omega,m⟩,by simp only;omega,eW [(4,.nm 4),(2,.nm 2),(58,.nm 58)]⟩
       ·have q:¬i<N.length:=fun h=>by
         have:=f8.1 c;omega
        obtain⟨k,rfl⟩:∃H,k=H+1:=⟨k-1,by omega⟩;have C:jP (b,hf) (k+1) i N=some N:=At q;rw[m,C]at g;have g:I4 (b,hf) f=A4 N:=g;have Z:QW N:=fun y G=>by
         obtain⟨k,hk,rfl⟩:=AA6.1 G;have e:N.getD k (0,[])=N[k]:=by rw[AS,AT hk];rfl
         rw[←e];exact r.lo k (by omega)
        refine Gg [58] ?_;repeat'(first|exact trivial|refine eS rfl ?_|refine AB ?_|refine rX d ?_ ?_|refine rC ?_ ?_<;>intro c<;>try(cases c;done))
        ·exact Z
        ·exact fI d [.cell 4 25,.tmp 5] (by rw[g];exact eR)
end
section
attribute [local go_sem] QL QK Uu QO
def Qb:Ad:={ ins:=[FW],pre:=fun _=>True,out:=fun(d,_)=>[.p GN (B6 d)] }
attribute [local go_sem] Qb
theorem YH:Ag Tryz.prog 14 Qb:=by
 refine fK [0,2,3,4,5,9,16] Tryz.func14 Tryz.ntmps14 (AF nP (AF nM AG)) ?_;rintro w0 O0 ⟨d,u⟩ a - -;simp only[Qb,AM];repeat'(first|exact trivial|refine eS rfl ?_|refine AB ?_|refine rX a ?_ ?_|refine rC ?_ ?_<;>intro b<;>try(cases b;done))
 ·have h1:B6 d=(Ay d).1:=by unfold B6;rw[BY ⟨by exact eV,b⟩]
  exact fI a [.cell 2 31] (by rw[h1];exact eR)
 ·have h1:B6 d=(Ay Iq).1:=by unfold B6;rw[At (fun h=>b h.2)]
  exact fI a [.cell 2 31] (by rw[h1];exact eR)
 ·have h1:B6 d=(Ay Iq).1:=by
   unfold B6;rw[At];intro h;have:=h.1;exact eV
  exact fI a [.cell 2 31] (by rw[h1];exact eR)
def TQ:Ad:={ ins:=[GN,T58],pre:=fun _=>True,out:=fun(h,l,_)=>[.p .bool (Xx h l)],lend:=true }
attribute [local go_sem] TQ
theorem wV:Ag Tryz.prog 17 TQ:=by
 refine fK [0,1,2,4,6,7,8,9,10,21] Tryz.func17 Tryz.ntmps17 (AF A1T (AF vS AG)) ?_;rintro w0 O0 ⟨⟨c,hf⟩,l,u⟩ d ⟨-,⟨j,-⟩,-⟩ -;simp only[AO]at j;simp only[TQ,AM];repeat'(first|exact trivial|refine eS rfl ?_|refine AB ?_|refine rX d ?_ ?_|refine rC ?_ ?_<;>intro a<;>try(cases a;done))
 refine AH (ι:={k:Nat//k≤l.length∧(l.take k).all (J8 (c,hf))=true}) (fun k=>⟨[(2,.bp 2 [] 0),(7,.p T58 l),(8,.p (.int .i64) (l.length:Int)),(9,.p (.int .i64) (k.1:Int))],[(2,.box 31 true [.p So c,.p UZ hf])]⟩) (fun k=>l.length-k.1) ⟨0,by simp⟩ (eW [(2,.nm 2)]) (fun k=>?_)
 ·obtain⟨k,hk,g⟩:=k;repeat'(first|exact trivial|refine eS rfl ?_|refine AB ?_|refine rX d ?_ ?_|refine rC ?_ ?_<;>intro a<;>try(cases a;done))
  ·exact a
  ·intro h;obtain⟨h1,b⟩:=Mi (f:=l.getD k []) (by simpa using h);exact⟨TO h1 (by decide),fun x m=>TO (b x m) (by decide)⟩
  ·have e:k<l.length:=OR.1 (by assumption);have h1:Xx (c,hf) l=false:=by
    unfold Xx;rw[AAZ];refine⟨_,AD l [] e,?_⟩;unfold J8;rw[As,AAq];rintro⟨b,i⟩;rcases a with h|h
    ·rw[b]at h;cases h
    ·exact h i
   exact fI d [.tmp 4] (by rw[h1];exact eR)
  ·omega
  ·have e:k<l.length:=OR.1 (by assumption);refine⟨⟨k+1,e,?_⟩,by simp only;omega,AC [(2,.nm 2)] rfl rfl ?_ ?_⟩
   ·have h:J8 (c,hf) (l.getD k [])=true:=by
     have b:=a.2;unfold J8;rw[a.1,AC6,AAq];simpa using b
    rw[AX l [] e,ABK,g];simpa using h
   ·exact eN
   ·exact eN
  ·have hk:l.take k=l:=An (f8.1 a);rw[hk]at g;have h1:Xx (c,hf) l=true:=g;exact fI d [.tmp 4] (by rw[h1];exact eR)
def sP:Ad:={ ins:=[Em],pre:=fun _=>True,out:=fun(l,_)=>[.p E9 l] }
attribute [local go_sem] sP
theorem A58:Ag Tryz.prog 33 sP:=by
 refine fK [0,2] Tryz.func33 Tryz.ntmps33 AG ?_;rintro w0 O0 ⟨t,u⟩ a - -;simp only[sP,AM];repeat'(first|exact trivial|refine eS rfl ?_|refine AB ?_|refine rX a ?_ ?_|refine rC ?_ ?_<;>intro b<;>try(cases b;done))
 exact fI a [.cell 2 25]
def Gq (l:List Int) (n:Nat):List (Int×Int):=(List.range n).map fun i=>(l.getD (2*i) 0,l.getD (2*i+1) 0)
theorem jS (l:List Int) (n:Nat):Gq l (n+1)=Gq l n++[(l.getD (2*n) 0,l.getD (2*n+1) 0)]:=by simp[Gq,AAd]
theorem oQ (l:List Int) (n:Nat):(Gq l n).length=n:=by simp[Gq]
def TR:Ad:={ ins:=[T3,GM],pre:=fun(_,l,_)=>List.length l≤1000,out:=fun(t,l,_)=>[.p JD (t,Gq l (List.length l / 2))] }
attribute [local go_sem] TR
theorem wW:Ag Tryz.prog 34 TR:=by
 refine fK [0,1,4,5,6,13] Tryz.func34 Tryz.ntmps34 AG ?_;rintro w0 O0 ⟨t,l,u⟩ b-c;simp only[TR,AM];repeat'(first|exact trivial|refine eS rfl ?_|refine AB ?_|refine rX b ?_ ?_|refine rC ?_ ?_<;>intro a<;>try(cases a;done))
 have c:l.length≤1000:=c;refine AH (ι:={k:Nat//k≤l.length / 2}) (fun k=>⟨[(1,.p GM l),(4,.bp 4 [] 0),(5,.bp 5 [] 0),(6,.p (.int .i64) (2*(k.1:Int)))],[(4,.box 49 true [.p T3 (0:Int),.raw (.slice none 0 0)]),(5,.box 49 true [.p T3 t,.sr 29 BE 0 (Gq l k.1).length]),(29,.arr 53 BE (Gq l k.1))]⟩) (fun k=>l.length / 2-k.1) ⟨0,NO _⟩ (AC [(4,.nm 4),(5,.nm 5),(29,.nil)] rfl rfl ?_ ?_) (fun k=>?_)
 ·refine eM ?_;exact⟨rfl,rfl⟩
 ·refine eM ?_;rfl
 ·obtain⟨k,hk⟩:=k;have e:=oQ l k;have f:=jS l k;simp only;repeat'(first|exact trivial|refine eS rfl ?_|refine AB ?_|refine rX b ?_ ?_|refine rC ?_ ?_<;>intro a<;>try(cases a;done))
  ·omega
  ·rw[e];simp only[AO];exact eV
  ·omega
  ·refine⟨⟨k+1,by omega⟩,by simp only;omega,AC [(4,.nm 4),(5,.nm 5),(29,.nm 29)] rfl rfl ?_ ?_⟩
   ·simp only[f];refine eM ?_;rw[show (2*(k:Int)).toNat=2*k by omega,show (2*(k:Int)+1).toNat=2*k+1 by omega]
   ·refine eM ?_;show (2*(k:Int)+2)=2*((k:Int)+1);omega
  ·have d:k=l.length / 2:=by omega
   subst d;exact fI b [.cell 4 49]
end
section
open Go
end
theorem getD_set_ne {α:Type} (l:List α) (d v:α) {i j:Nat} (h:i≠j):(l.set i v).getD j d=l.getD j d:=by
 simp only[AS];rw[List.getElem?_set_ne h]
theorem Nz {α:Type} (l:List α) (d v:α) {i:Nat} (h:i<l.length):(l.set i v).getD i d=v:=by
 simp only[AS];rw[AC9 h];rfl
section
open Go
end
section
open Go
end
section
open Go
end
section
attribute [local go_sem] Ol rT
end
abbrev Ap (f:List AE) (n:Int):List (Int×Int):=(f.getD n.toNat (0,[])).2
theorem N0 {f:List AE} (h:D8 f=true):AQ f 0=f:=by
 obtain⟨d,hs,h0,_⟩:=Mq h;unfold D8 at h;simp only[As,AAq]at h;obtain⟨_,a,b⟩:=h;have c:(A4 f).1=Fx f 0:=by
  unfold A4 at a ⊢;split at a
  ·rename_i hh;rw[BY hh]
  ·rename_i hh;exact absurd a hh
 rw[c]at b;rw[←Iy d hs (by omega) (by omega)];exact Jh b
theorem oT {b:Int→Int×Int→Bool} {f:List AE} (h:∀i,i<f.length→∀a∈(f.getD i (0,[])).2,b (i:Int) a=true):GV b f f.length=f:=by
 apply AAE
 ·exact Kh _ _ _
 ·intro i h1 c;have e:f.getD i (0,[])=f[i]:=by simp[AS,c]
  have:=h i c;simp only[GV,ABZ,ABR,A2l];rw[List.filter_eq_self.2 this,e]
theorem oU {b:Int→Int×Int→Bool} {f:List AE} (c:D8 f=true) (h:∀i,i<f.length→∀a∈(f.getD i (0,[])).2,b (i:Int) a=true):VX b f=f:=by
 unfold VX;rw[oT h];exact N0 c
theorem jT {f:List AE} (hf:Ae f):∀(k:Nat) (o:List Int) (n:Int),La f o→0≤n→n<f.length→n∉o→f.length-o.length≤k→Eh f (k+1) o n=Eh f k o n
 | 0,o,n,h,h0,h1,d,hk=>by
  have:=(h.snoc h0 h1 d).len;simp only[Do,aS]at this;omega
 | k+1,o,n,h,h0,h1,d,hk=>by
  rw[DB,DB];have key:∀(l:List (Int×Int)) (t:List Int),(∀a∈l,0≤a.2∧a.2<(f.length:Int))→La f t→f.length-t.length≤k→l.foldl (Ac f (k+1)) t=l.foldl (Ac f k) t:=by
   intro l;induction l with
   | nil=>intros;rfl
   | cons a l p =>
    intro t i e m;have c:=i a (by simp);have hs:Ac f (k+1) t a=Ac f k t a:=by
     unfold Ac;split
     ·rfl
     ·rename_i hn;exact jT hf k t a.2 e c.1 c.2 hn m
    have g:La f (Ac f k t a)∧t <+: Ac f k t a:=by
     unfold Ac;split
     ·exact⟨e,AAH _⟩
     ·rename_i hn;exact EB hf k t a.2 e c.1 c.2 hn
    rw[O5,O5,hs];have:=g.2.length_le;exact p _ (fun b j=>i b (by simp[j])) g.1 (by omega)
  exact key _ _ (fun a ha=>B9 hf ha) (h.snoc h0 h1 d) (by simp only[Do,aS];omega)
theorem H3 (f:List AE):La f []:=⟨by simp,fun x a=>by cases a⟩
theorem Vh {f:List AE} (hf:Ae f) {n:Int} (h0:0≤n) (h1:n<f.length):∀m,Eh f (f.length+m) [] n=Eh f f.length [] n
 | 0=>rfl
 | m+1=>by
  rw[←ACJ,jT hf _ [] n (H3 f) h0 h1 (by simp) (by simp only[AAW];omega)];exact Vh hf h0 h1 m
structure Iso (Q R:List AE) (ψ:Int→Int) (C:Int→Prop):Prop where
 arc:∀i,C i→Ap R (ψ i)=(Ap Q i).map fun a=>(a.1,ψ a.2)
 cl:∀i,C i→∀a∈Ap Q i,C a.2
 inj:∀i j,C i→C j→ψ i=ψ j→i=j
theorem TS {Q R:List AE} {c:Int→Int} {f:Int→Prop} (h:Iso Q R c f):∀(k:Nat) (t:List Int) (i:Int),(∀x∈t,f x)→f i→Eh R k (t.map c) (c i)=(Eh Q k t i).map c∧∀x∈Eh Q k t i,f x
 | 0,t,i,d,hi=>⟨rfl,d⟩
 | k+1,t,i,d,hi=>by
  have key:∀(l:List (Int×Int)) (t:List Int),(∀a∈l,f a.2)→(∀x∈t,f x) →
    (l.map fun a=>(a.1,c a.2)).foldl (Ac R k) (t.map c)=(l.foldl (Ac Q k) t).map c∧∀x∈l.foldl (Ac Q k) t,f x:=by
   intro l;induction l with
   | nil=>intro t _ d;exact⟨rfl,d⟩
   | cons a l q =>
    intro t m d;have ha:=m a (by simp);have hs:Ac R k (t.map c) (a.1,c a.2)=(Ac Q k t a).map c∧∀x∈Ac Q k t a,f x:=by
     unfold Ac;by_cases j:a.2∈t
     ·rw[BY j,BY (GO.2 ⟨_,j,rfl⟩)];exact⟨rfl,d⟩
     ·have p:¬c a.2∈t.map c:=by
       intro hh;obtain⟨x,g,e⟩:=GO.1 hh;exact j (h.inj x a.2 (d x g) ha e▸g)
      rw[At j];simp only[At p];exact TS h k t a.2 d ha
    rw[AA4,O5,O5,hs.1];exact q _ (fun b o=>m b (by simp[o])) hs.2
  rw[DB,DB];have e:t.map c++[c i]=(t++[i]).map c:=by simp
  have n:(R.getD (c i).toNat (0,[])).2=(Ap Q i).map fun a=>(a.1,c a.2):=h.arc i hi;rw[n,e];refine key _ _ (h.cl i hi) fun x g=>?_;rcases Of.1 g with g|g
  ·exact d x g
  ·have:x=i:=by simpa using g
   rw[this];exact hi
theorem A2y {o:List Int} {a:Int→Int} {x:Int} (h:∀y∈o,a y=a x→y=x):CL (o.map a) (a x)=CL o x:=by
 have hi:(o.map a).idxOf (a x)=o.idxOf x:=by
  induction o with
  | nil=>rfl
  | cons y o g =>
   rw[AA4,List.idxOf_cons,List.idxOf_cons];have c:=h y (by simp);by_cases e:y=x
   ·subst e;simp
   ·have d:¬a y=a x:=fun hh=>e (c hh);have b1:(y==x)=false:=by simpa using e
    have b2:(a y==a x)=false:=by simpa using d
    rw[b1,b2,g (fun z f=>h z (by simp[f]))]
 unfold CL;by_cases b:x∈o
 ·rw[BY b,BY (GO.2 ⟨x,b,rfl⟩),hi]
 ·rw[At b,At];intro hh;obtain⟨y,c,e⟩:=GO.1 hh;exact b (h y c e▸c)
theorem Wq {Q R:List AE} {b:Int→Int} {c:Int→Prop} (h:Iso Q R b c) (l:Ae Q) (k:c 0) (h0:b 0=0) (r:0<Q.length) (s:Q.length≤R.length)
  (m:∀i,c i→(R.getD (b i).toNat (0,[])).1=(Q.getD i.toNat (0,[])).1):AQ R 0=AQ Q 0:=by
 have f:Eh R R.length [] 0=(Eh Q Q.length [] 0).map b∧∀x∈Eh Q Q.length [] 0,c x:=by
  have h1:=TS h R.length [] 0 (fun x p=>by cases p) k;rw[h0]at h1;have g:=Vh l (n:=0) (by omega) (by omega) (R.length-Q.length);rw[show Q.length+(R.length-Q.length)=R.length by omega]at g;rw[g]at h1;exact h1
 unfold AQ;rw[f.1];generalize Eh Q Q.length [] 0=o at *;rw[ABb];refine tO fun i hi=>?_;have d:=f.2 i hi;show E2 R (o.map b) (b i)=E2 Q o i;unfold E2;have j:(R.getD (b i).toNat (0,[])).2=(Ap Q i).map fun a=>(a.1,b a.2):=h.arc i d;rw[m i d,j,ABb];refine AB6 _ (tO fun a ha=>?_);show (a.1,CL (o.map b) (b a.2))=(a.1,CL o a.2);rw[A2y fun y q e=>h.inj y a.2 (f.2 y q) (h.cl i d a ha) e]
structure Ord (f:List AE) (o:List Int):Prop where
 ok:La f o
 zero:o.getD 0 0=0∧0<o.length
 cl:∀n∈o,∀a∈Ap f n,a.2∈o
theorem A2z {f:List AE} (hf:Ae f) (h0:0<f.length):[0] <+: Eh f f.length [] 0:=by
 obtain⟨k,hk⟩:∃k,f.length=k+1:=⟨f.length-1,by omega⟩;rw[hk,DB];exact(E1 (EB hf k) _ _ (fun a ha=>B9 hf ha) ((H3 f).snoc (by omega) (by omega) (by simp))).2
theorem A2A {f:List AE} (hf:Ae f) (h0:0<f.length):Ord f (Eh f f.length [] 0):=by
 have h1:=EB hf f.length [] 0 (H3 f) (by omega) (by omega) (by simp);have b:=Ix hf f.length [] 0 (H3 f) (by omega) (by omega) (by simp) (by simp);have c:=A2z hf h0;refine⟨h1.1,?_,fun n hn a ha=>?_⟩
 ·obtain⟨t,d⟩:=c;rw[←d];exact⟨rfl,by simp⟩
 ·rcases b.2 n hn with h|h
  ·cases h
  ·exact h a ha
theorem Kl {o:List Int} (hn:o.Nodup) {i:Nat} (hi:i<o.length):CL o (o.getD i 0)=(i:Int):=by
 have e:o.getD i 0=o[i]:=by rw[AS,AT hi];rfl
 rw[e];unfold CL;rw[BY (AAs hi),hn.idxOf_getElem i hi]
theorem HI {o:List Int} {x:Int} (h:x∈o):0≤CL o x∧CL o x<(o.length:Int)∧o.getD (CL o x).toNat 0=x:=by
 unfold CL;rw[BY h];have a:=List.idxOf_lt_length_of_mem h;refine⟨by omega,by omega,?_⟩;rw[iN,AS,AT a];show o[o.idxOf x]=x;exact List.getElem_idxOf a
theorem wX (f:List AE):(AQ f 0).length=(Eh f f.length [] 0).length:=by simp[AQ]
theorem wY {f:List AE} {i:Nat} (hi:i<(Eh f f.length [] 0).length):(AQ f 0).getD i (0,[])=E2 f (Eh f f.length [] 0) ((Eh f f.length [] 0).getD i 0):=by
 unfold AQ;simp[AS,hi]
theorem jU (a:Int→Int×Int→Bool) {f:List AE} {n:Int} (h0:0≤n) (h1:n<f.length):(GV a f f.length).getD n.toNat (0,[])=((f.getD n.toNat (0,[])).1,(Ap f n).filter (a n)):=by
 have hn:n.toNat<f.length:=by omega
 have e:((n.toNat:Nat):Int)=n:=by omega
 unfold GV;simp only[AS,AA0,AAF hn,ABd,AB7,A2l];rw[e];rfl
theorem A2B {f:List AE} (hs:Oq f) (n:Int):(Ap f n).Pairwise (fun a b=>a.1<b.1):=(I1 _).1 (n8 hs n).1
theorem wZ {f:List AE} (hf:Ae f) (hs:Oq f) (h0:0<f.length) (a:Int→Int×Int→Bool) {n:Int} (hn:n∈Eh (GV a f f.length) f.length [] 0) :
  Ap (VX a f) (CL (Eh (GV a f f.length) f.length [] 0) n)=((Ap f n).filter (a n)).map (Oo (Eh (GV a f f.length) f.length [] 0)):=by
 obtain⟨h,l⟩:=YC hf hs a;have c:=Kh a f f.length;have e:=A2A h (by omega);have d:=fun i=>wY (f:=GV a f f.length) (i:=i);rw[c]at e d;obtain⟨j,k,g⟩:=HI hn;have b:=e.ok.rng n hn;rw[c]at b;show ((VX a f).getD _ (0,[])).2=_;have:VX a f=AQ (GV a f f.length) 0:=rfl;rw[this,d _ (by omega),g];unfold E2;rw[jU a b.1 b.2]
section
open Go
end
section
attribute [local go_sem] Xy
def Qc (l:List (Int×Int)) (e:Int):Int:=match l with
 | []=>-1
 | a :: l=>if a.1=e then a.2 else Qc l e
end
section
attribute [local go_sem] Xy
structure A2C (a b:List AE) (m:List Int):Prop where
 len:m.length=a.length
 rng:∀x∈m,x<(b.length:Int)
theorem A2C.set {a b:List AE} {m:List Int} (h:A2C a b m) (k:Nat) {v:Int} (d:v<(b.length:Int)):A2C a b (m.set k v):=by
 refine⟨by simp[h.len],fun x c=>?_⟩;rcases ABn c with c|c
 ·exact h.rng x c
 ·rw[c];exact d
theorem A2C.get {a b:List AE} {m:List Int} (h:A2C a b m) (c:0<b.length) (k:Nat):m.getD k 0<(b.length:Int):=by
 rw[AS];cases hh:m[k]? with
 | none=>show (0:Int)<_;omega
 | some x=>exact h.rng x (AAB hh)
def I5 (h:AJ) (f:List AE):Prop:=∀x∈f,0≤x.1∧x.1<(h.1.length:Int)
theorem jV {f:List AE} (hf:Ae f) (k:Nat):∀x∈(f.getD k (0,[])).2,0≤x.2∧x.2<(f.length:Int):=by
 intro x a;by_cases h:k<f.length
 ·exact(hf.2 _ (AD f (0,[]) h)).2 x a
 ·rw[AS,dO (by omega)]at a;cases a
end
structure WW (h:AJ) (a b:List AE) (m:Int→Int):Prop where
 zero:m 0=0
 rng:∀i,0≤i→i<(a.length:Int)→0≤m i∧m i<(b.length:Int)
 ty:∀i,0≤i→i<(a.length:Int)→A6 h (a.getD i.toNat (0,[])).1 (b.getD (m i).toNat (0,[])).1=true
 arc:∀i,0≤i→i<(a.length:Int)→∀x∈Ap a i,Qc (Ap b (m i)) x.1=m x.2
theorem Vi {l:List (Int×Int)} (h:l.Pairwise (fun a b=>a.1<b.1)) {a:Int×Int} (ha:a∈l):Qc l a.1=a.2:=by
 induction l with
 | nil=>cases ha
 | cons b l d =>
  obtain⟨h1,c⟩:=AAx.1 h;simp only[Qc];rcases By.1 ha with rfl|ha
  ·rw[BY rfl]
  ·grind
theorem jW {l:List (Int×Int)} {e:Int} (h:0≤Qc l e):∃a∈l,a.1=e∧a.2=Qc l e:=by
 induction l with
 | nil=>simp only[Qc]at h;omega
 | cons b l c =>
  simp only[Qc]at h ⊢;split
  ·grind
  ·grind
theorem A6L {f:List AE} (hs:Oq f) {n:Int} {a:Int×Int} (ha:a∈Ap f n):Qc (Ap f n) a.1=a.2:=Vi (A2B hs n) ha
def RO (f:List AE):Prop:=∀i:Int,0<i→i<(f.length:Int)→∃j,0≤j∧j<i∧∃x∈Ap f j,x.2=i
theorem A59 {M:List Int} {k j:Nat} {v:Int} (hk:k<M.length):(M.set k v).getD j 0=if k=j then v else M.getD j 0:=by grind
theorem Vj {f:List AE} (hf:Ae f):∀(k:Nat) (t:List Int) (n:Int),La f t→0≤n→n<f.length→n∉t →
  ∀q,t.length<q→q<(Eh f k t n).length→∃j,j<q∧∃a∈Ap f ((Eh f k t n).getD j 0),a.2=(Eh f k t n).getD q 0
 | 0,t,n,h,h0,h1,x,q,A,d=>by simp only[Eh]at d;omega
 | k+1,t,n,h,h0,h1,x,q,A,d=>by
  have key:∀(l:List (Int×Int)) (u:List Int),(∀a∈l,a∈Ap f n)→La f u→t++[n] <+: u →
    (∀q,t.length<q→q<u.length→∃j,j<q∧∃a∈Ap f (u.getD j 0),a.2=u.getD q 0) →
    ∀q,t.length<q→q<(l.foldl (Ac f k) u).length→∃j,j<q∧∃a∈Ap f ((l.foldl (Ac f k) u).getD j 0),a.2=(l.foldl (Ac f k) u).getD q 0:=by
   intro l;induction l with
   | nil=>intro u _ _ _ hu q o c;exact hu q o c
   | cons a l G =>
    intro u y hu s E;have ha:=y a (by simp);have g:=B9 hf ha;rw[O5];by_cases p:a.2∈u
    ·grind [Ac]
    ·have hs:Ac f k u a=Eh f k u a.2:=by unfold Ac;rw[At p]
     rw[hs];obtain⟨C,w⟩:=EB hf k u a.2 hu g.1 g.2 p;have r:∀j,j<u.length→(Eh f k u a.2).getD j 0=u.getD j 0:=fun j D=>by
      obtain⟨v,m⟩:=w;rw[←m];simp only[AS];rw[AA5 D]
     have F:u.getD t.length 0=n:=by
      obtain⟨v,m⟩:=s;rw[←m];simp[AS]
     have B:t.length<u.length:=by
      have:=s.length_le;simp at this;omega
     refine G (Eh f k u a.2) (fun b i=>y b (by simp[i])) C (s.trans w) (fun q o c=>?_);by_cases z:q<u.length
     ·obtain⟨j,H,b,i,e⟩:=E q o z;refine⟨j,H,b,?_,?_⟩
      ·rw[r j (by omega)];exact i
      ·rw[r q z];exact e
     ·by_cases d:q=u.length
      ·subst d;refine⟨t.length,B,a,?_,?_⟩
       ·rw[r _ B,F];exact ha
       ·cases k with
        | zero=>simp only[Eh]at c;omega
        | succ k =>
         have hp:u++[a.2] <+: Eh f (k+1) u a.2:=by
          rw[DB];exact(E1 (EB hf k) _ _ (fun b i=>B9 hf i) (hu.snoc g.1 g.2 p)).2
         obtain⟨v,m⟩:=hp;rw[←m];simp[AS]
      ·exact Vj hf k u a.2 hu g.1 g.2 p q (by omega) c
  rw[DB]at d ⊢;exact key _ (t++[n]) (fun a ha=>ha) (h.snoc h0 h1 x) (AAH _) (fun q o c=>by simp only[Do,aS]at c;omega) q A d
theorem A5a {f:List AE} (hf:Ae f) (hs:Oq f) (h0:0<f.length) (b:Int→Int×Int→Bool):RO (VX b f):=by
 obtain⟨g,t⟩:=YC hf hs b;have h:=Kh b f f.length;have c:=A2A g (by omega);have k:=wX (GV b f f.length);have m:=Vj g (GV b f f.length).length [] 0 (H3 _) (by omega) (by omega) (by simp);have q:=fun n hn=>wZ hf hs h0 b (n:=n) hn;rw[h]at c k m;have r:(VX b f).length=(Eh (GV b f f.length) f.length [] 0).length:=k;intro i s p;rw[r]at p;generalize Eh (GV b f f.length) f.length [] 0=o at *;obtain⟨j,u,a,ha,e⟩:=m i.toNat (by simp only[AAW];omega) (by omega);have l:o.getD j 0∈o:=AD _ 0 (by omega);have d:=c.ok.rng _ l;rw[h]at d;rw[Ap,jU b d.1 d.2]at ha;refine⟨(j:Int),by omega,by omega,Oo o a,?_,?_⟩
 ·have:=q _ l;rw[Kl c.ok.nd (by omega)]at this;rw[this];exact GO.2 ⟨a,ha,rfl⟩
 ·show CL o a.2=i;rw[e,Kl c.ok.nd (by omega)];omega
theorem oV (x:List Int):Mj x x=true:=by grind [Mj,IB,SM]
theorem YI (h:AJ) (t:Int):A6 h t t=true:=oV _
abbrev Du (p:List Int) (n:Int):Int:=p.getD n.toNat 0
structure Fo (p:List Int) (rk:Int→Nat):Prop where
 rng:∀n,0≤n→n<(p.length:Int)→0≤Du p n∧Du p n<(p.length:Int)
 dec:∀n,0≤n→n<(p.length:Int)→Du p n≠n→rk (Du p n)<rk n
inductive Rt (p:List Int):Int→Int→Prop
 | base {n:Int} (h:Du p n=n):Rt p n n
 | step {n r:Int} (h:Du p n≠n) (h2:Rt p (Du p n) r):Rt p n r
theorem Rt.det {p:List Int} {n r s:Int} (h:Rt p n r) (g:Rt p n s):r=s:=by
 induction h with
 | base h =>
  cases g with
  | base g=>rfl
  | step g _=>exact absurd h g
 | step h _ b =>
  cases g with
  | base g=>exact absurd g h
  | step _ a=>exact b a
theorem Rt.root {p:List Int} {n r:Int} (h:Rt p n r):Du p r=r:=by
 induction h with
 | base h=>exact h
 | step _ _ a=>exact a
theorem Fo.ex {p:List Int} {b:Int→Nat} (h:Fo p b):∀(k:Nat) (n:Int),b n≤k→0≤n→n<(p.length:Int)→∃r,Rt p n r∧0≤r∧r<(p.length:Int)
 | 0,n,hk,h0,h1=>by
  by_cases e:Du p n=n
  ·exact⟨n,.base e,h0,h1⟩
  ·have:=h.dec n h0 h1 e;omega
 | k+1,n,hk,h0,h1=>by
  by_cases e:Du p n=n
  ·exact⟨n,.base e,h0,h1⟩
  ·have g:=h.dec n h0 h1 e;have a:=h.rng n h0 h1;obtain⟨r,c,d,f⟩:=h.ex k (Du p n) (by omega) a.1 a.2;exact⟨r,.step e c,d,f⟩
theorem Fo.root {p:List Int} {a:Int→Nat} (h:Fo p a) {n:Int} (h0:0≤n) (h1:n<(p.length:Int)):∃r,Rt p n r∧0≤r∧r<(p.length:Int):=h.ex (a n) n (Is _) h0 h1
theorem DH {p:List Int} {n v:Int} (h0:0≤n) (h1:n<(p.length:Int)) (x:Int) (a:0≤x):Du (p.set n.toNat v) x=if x=n then v else Du p x:=by
 unfold Du;rw[A59 (by omega)];by_cases e:x=n
 ·subst e;rw[BY rfl,BY rfl]
 ·rw[At (by omega),At e]
def GI (p:List Int) (n:Int):List Int:=p.set n.toNat (Du p (Du p n))
theorem Rc (p:List Int) (n:Int):(GI p n).length=p.length:=by simp[GI]
theorem A2D {p:List Int} {f:Int→Nat} (h:Fo p f) {n:Int} (h0:0≤n) (h1:n<(p.length:Int)) (hn:Du p n≠n):Fo (GI p n) f:=by
 have c:=h.rng n h0 h1;have g:=h.rng _ c.1 c.2;have i:=h.dec n h0 h1 hn;have j:f (Du p (Du p n))≤f (Du p n):=by
  by_cases e:Du p (Du p n)=Du p n
  ·rw[e];exact Is _
  ·exact ABT (h.dec _ c.1 c.2 e)
 refine⟨fun x a b=>?_,fun x a b d=>?_⟩
 ·rw[Rc]at b ⊢;unfold GI;rw[DH h0 h1 x a];split
  ·exact g
  ·exact h.rng x a b
 ·rw[Rc]at b;unfold GI at d ⊢;rw[DH h0 h1 x a]at d ⊢;split
  ·rename_i e;subst e;omega
  ·rename_i e;rw[At e]at d;exact h.dec x a b d
theorem jX {p:List Int} {o:Int→Nat} (h:Fo p o) {n:Int} (h0:0≤n) (h1:n<(p.length:Int)) (hn:Du p n≠n):∀(k:Nat) (x r:Int),o x≤k→0≤x→x<(p.length:Int)→Rt p x r→Rt (GI p n) x r:=by
 intro k;induction k with
 | zero =>
  intro x r hk a j i;have e:Du p x=x:=DO fun e=>by have:=h.dec x a j e;omega
  have d:x≠n:=fun b=>hn (b▸e);have:=i.det (.base e);rw[this];refine .base ?_;unfold GI;rw[DH h0 h1 x a,At d];exact e
 | succ k l =>
  intro x r hk a j i;by_cases e:Du p x=x
  ·have d:x≠n:=fun b=>hn (b▸e);have:=i.det (.base e);rw[this];refine .base ?_;unfold GI;rw[DH h0 h1 x a,At d];exact e
  ·have u:=h.dec x a j e;have c:=h.rng x a j;have f:Rt p (Du p x) r:=by
    cases i with
    | base g=>exact absurd g e
    | step _ g=>exact g
   by_cases d:x=n
   ·subst d;by_cases b:Du p (Du p x)=Du p x
    ·have:=f.det (.base b);rw[this]at f ⊢;refine .step (r:=Du p x) ?_ ?_
     ·unfold GI;rw[DH h0 h1 x a,BY rfl,b];exact e
     ·have hp:Du (GI p x) x=Du p x:=by
       unfold GI;rw[DH h0 h1 x a,BY rfl,b]
      rw[hp];exact l _ _ (by omega) c.1 c.2 f
    ·have s:=h.dec _ c.1 c.2 b;have m:=h.rng _ c.1 c.2;have t:Rt p (Du p (Du p x)) r:=by
      cases f with
      | base g=>exact absurd g b
      | step _ g=>exact g
     have hp:Du (GI p x) x=Du p (Du p x):=by
      unfold GI;rw[DH h0 h1 x a,BY rfl]
     refine .step ?_ ?_
     ·rw[hp];intro q;rw[q]at s;omega
     ·rw[hp];exact l _ _ (by omega) m.1 m.2 t
   ·have hp:Du (GI p n) x=Du p x:=by
     unfold GI;rw[DH h0 h1 x a,At d]
    refine .step ?_ ?_
    ·rw[hp];exact e
    ·rw[hp];exact l _ _ (by omega) c.1 c.2 f
def E4 (p q:List Int):Prop:=p.length=q.length∧∀x r,0≤x→x<(p.length:Int)→(Rt p x r↔Rt q x r)
theorem E4.refl (p:List Int):E4 p p:=⟨rfl,fun _ _ _ _=>Iff.rfl⟩
theorem E4.trans {p q s:List Int} (h:E4 p q) (g:E4 q s):E4 p s :=
 ⟨h.1.trans g.1,fun x r a b=>(h.2 x r a b).trans (g.2 x r a (by rw[←h.1];exact b))⟩
theorem oW {p:List Int} {d:Int→Nat} (h:Fo p d) {n:Int} (h0:0≤n) (h1:n<(p.length:Int)) (hn:Du p n≠n):E4 p (GI p n):=by
 refine⟨(Rc p n).symm,fun x r b c=>⟨fun a=>jX h h0 h1 hn _ x r (Is _) b c a,fun a=>?_⟩⟩;obtain⟨s,hs,-,-⟩:=h.root b c;have:=jX h h0 h1 hn _ x s (Is _) b c hs;have e:=this.det a;rw[←e];exact hs
def YJ (h:AJ) (p ty:List Int) (ar:List (List (Int×Int))):List (Nat×Obj):=[(1,.box 130 true [.p GN h,.sr 2 T3 0 p.length,.sr 3 T3 0 ty.length,.sr 4 Cl 0 ar.length]),(2,.arr 3 T3 p),(3,.arr 3 T3 ty),(4,.arr 47 Cl ar)]
theorem Zn (h:AJ) (ty:List Int) (ar:List (List (Int×Int))) (d:Int→Nat) {p:List Int} (hp:Fo p d) {n:Int} (h0:0≤n) (h1:n<(p.length:Int)):BA Tryz.prog 118 [.bp 1 [] 0,.p T3 n] (YJ h p ty ar) [1]
  (fun res A=>∃(t:List Int) (r:Int),res=.p T3 r∧A=YJ h t ty ar∧Fo t d∧E4 p t∧Rt p n r):=by
 refine J1 [0,1,4,13] [] [] Tryz.func118 Tryz.ntmps118 AG ?_;intro w0 K O0 ρ0 j C D;simp only[Ah,YJ];repeat'(first|exact trivial|refine eS rfl ?_|refine AB ?_|refine rX j ?_ ?_|refine rC ?_ ?_<;>intro f<;>try(cases f;done))
 refine AH (ι:={x:List Int×Int//Fo x.1 d∧E4 p x.1∧0≤x.2∧x.2<(p.length:Int)∧(∀r,Rt x.1 x.2 r→Rt p n r)}) (fun x=>⟨[(0,.bp 1 [] 0),(1,.p T3 x.1.2)],[(1,.box 130 true [.p GN h,.sr 2 T3 0 p.length,.sr 3 T3 0 ty.length,.sr 4 Cl 0 ar.length]),(2,.arr 3 T3 x.1.1),(3,.arr 3 T3 ty),(4,.arr 47 Cl ar)]⟩) (fun x=>d x.1.2) ⟨(p,n),hp,E4.refl p,h0,h1,fun _ g=>g⟩ (eW [(1,.nm 1),(2,.nm 2),(3,.nm 3),(4,.nm 4)]) (fun x=>?_)
 ·obtain⟨⟨q,m⟩,b,hs,a,i,s⟩:=x;simp only at b hs a i s;have o:q.length=p.length:=hs.1.symm;have c:=b.rng m a (by omega);simp only;repeat'(first|exact trivial|refine eS rfl ?_|refine AB ?_|refine rX j ?_ ?_|refine rC ?_ ?_<;>intro f<;>try(cases f;done))
  ·exact⟨a,i⟩
  ·exact⟨⟨a,i⟩,⟨c.1,by rw[←o];exact c.2⟩,a,i⟩
  ·exact⟨a,i⟩
  ·have k:Du q m≠m:=f;have B:=b.dec m a (by omega) k;have u:=b.rng _ c.1 c.2;have w:d (Du q (Du q m))≤d (Du q m):=by
    by_cases e:Du q (Du q m)=Du q m
    ·rw[e];exact Is _
    ·exact ABT (b.dec _ c.1 c.2 e)
   have v:=oW b a (by omega) k;have l:Du (GI q m) m=Du q (Du q m):=by
    unfold GI;rw[DH a (by omega) m a,BY rfl]
   refine⟨⟨(GI q m,Du q (Du q m)),A2D b a (by omega) k,hs.trans v,u.1,by rw[←o];exact u.2,fun r z=>s r ?_⟩,by simp only;omega,AC [(1,.nm 1),(2,.nm 2),(3,.nm 3),(4,.nm 4)] rfl rfl ?_ ?_⟩
   ·refine(v.2 m r a (by omega)).2 (.step ?_ ?_)
    ·rw[l];intro e;rw[e]at w;omega
    ·rw[l];exact z
   ·refine eM ?_;rfl
   ·refine eM ?_;exact l
  ·have y:Du q m=m:=by simpa using f
   refine Ev.ent (σ':=⟨[(4,.p T3 m)],YJ h q ty ar⟩) ?_ (AC [(1,.nm 1),(2,.nm 2),(3,.nm 3),(4,.nm 4)] rfl rfl ?_ ?_)
   ·exact fM j [.tmp 4] (.p T3 m) eT ⟨q,m,rfl,rfl,b,hs,s m (.base y)⟩
   ·unfold YJ;rw[o];exact eN
   ·exact eN
def DC (b n:Nat):List Int:=(List.range n).map fun i=>((b+i:Nat):Int)
def CM (b:Nat) (l:List (Int×Int)):List (Int×Int):=l.map fun a=>(a.1,a.2+(b:Int))
def DP (l:List AE) (n:Nat):List Int:=(l.take n).map fun x=>x.1
def Fz (b:Nat) (l:List AE) (n:Nat):List (List (Int×Int)):=(l.take n).map fun x=>CM b x.2
theorem oX (b n:Nat):DC b (n+1)=DC b n++[((b+n:Nat):Int)]:=by simp[DC,AAd]
theorem Km (b n:Nat):(DC b n).length=n:=by simp[DC]
theorem A2E (h:AJ) (p ty:List Int) (ar:List (List (Int×Int))) (l:List AE) (f:Ae l) (J:p.length≤100000) (L:ty.length=p.length) (E:ar.length=p.length) :
  BA Tryz.prog 82 [.bp 1 [] 0,.p Em l] (YJ h p ty ar) [1]
  (fun res D=>res=.raw (.tuple #[])∧D=YJ h (p++DC p.length l.length) (ty++DP l l.length) (ar++Fz p.length l l.length)):=by
 refine J1 [0,1,4,5,6,7,9,15,16,17,18,46,47,48,49] [] [] Tryz.func82 Tryz.ntmps82 AG ?_;intro w0 K O0 ρ0 c H I;have G:=f.1;simp only[Ah,YJ];repeat'(first|exact trivial|refine eS rfl ?_|refine AB ?_|refine rX c ?_ ?_|refine rC ?_ ?_<;>intro b<;>try(cases b;done))
 refine AH (ι:={i:Nat//i≤l.length}) (fun i=>⟨[(0,.bp 1 [] 0),(4,.p (.int .i64) (p.length:Int)),(15,.p Em l),(16,.p (.int .i64) (l.length:Int)),(17,.p (.int .i64) (i.1:Int))],[(1,.box 130 true [.p GN h,.sr 2 T3 0 (p++DC p.length i.1).length,.sr 3 T3 0 (ty++DP l i.1).length,.sr 4 Cl 0 (ar++Fz p.length l i.1).length]),(2,.arr 3 T3 (p++DC p.length i.1)),(3,.arr 3 T3 (ty++DP l i.1)),(4,.arr 47 Cl (ar++Fz p.length l i.1))]⟩) (fun i=>l.length-i.1) ⟨0,NO _⟩ (AC [(1,.nm 1),(2,.nm 2),(3,.nm 3),(4,.nm 4)] rfl rfl ?_ ?_) (fun i=>?_)
 ·refine eM ?_;simp[DC,DP,Fz]
 ·exact eN
 ·obtain⟨i,hi⟩:=i;have s:=Km p.length i;have t:=oX p.length i;have y:(DP l i).length=i:=by unfold DP;rw[To,OS];omega
  have n:(Fz p.length l i).length=i:=by unfold Fz;rw[To,OS];omega
  have z:=fun h:i<l.length=>FP (fun x:AE=>x.1) l (0,[]) h;have o:=fun h:i<l.length=>FP (fun x:AE=>CM p.length x.2) l (0,[]) h;simp only;repeat'(first|exact trivial|refine eS rfl ?_|refine AB ?_|refine rX c ?_ ?_|refine rC ?_ ?_<;>intro b<;>try(cases b;done))
  ·exact b
  ·refine⟨⟨by omega,by omega⟩,?_⟩;rw[s];simp only[AO];omega
  ·have d:i<l.length:=OR.1 b;refine B3 drawsAny c 9 [([1,2,3,4,5,6,7],8)] [0] (by kernel_rfl) (Ls ?_ ?_)
   ·trivial
   ·refine Ns c [3] ?_ ?_
    ·rw[y];simp only[AO];omega
    ·refine Pp c ?_ ?_ ?_
     ·trivial
     ·trivial
     ·have A:=z d;have q:=o d;have m:p++DC p.length i++[(p.length:Int)+(i:Int)]=p++DC p.length (i+1):=by
       rw[t,oF];rfl
      have eT:ty++DP l i++[(l.getD i (0,[])).1]=ty++DP l (i+1):=by
       unfold DP;rw[A,oF]
      have B:p.length+(DC p.length i).length+1=(p++DC p.length (i+1)).length:=by rw[Do,Km,Km];omega
      have C:ty.length+(DP l i).length+1=(ty++DP l (i+1)).length:=by rw[←eT,Do,Do,aS]
      have u:=jV f i;have N:(l.getD i (0,[])).2.length≤100000:=(f.2 _ (AD l (0,[]) d)).1;repeat'(first|exact trivial|refine eS rfl ?_|refine AB ?_|refine rX c ?_ ?_|refine rC ?_ ?_<;>intro b<;>try(cases b;done))
      rw[m,eT,B,C];generalize M:(l.getD i (0,[])).2=xs at *;refine AH (ι:={k:Nat//k≤xs.length}) (fun k=>⟨[(0,.bp 1 [] 0),(4,.p (.int .i64) (p.length:Int)),(7,.sr 61 BE 0 (CM p.length (xs.take k.1)).length),(15,.p Em l),(16,.p (.int .i64) (l.length:Int)),(17,.p (.int .i64) (i:Int)),(46,.p Cl xs),(47,.p (.int .i64) (xs.length:Int)),(48,.p (.int .i64) (k.1:Int))],[(1,.box 130 true [.p GN h,.sr 2 T3 0 (p++DC p.length (i+1)).length,.sr 3 T3 0 (ty++DP l (i+1)).length,.sr 4 Cl 0 (ar++Fz p.length l i).length]),(2,.arr 3 T3 (p++DC p.length (i+1))),(3,.arr 3 T3 (ty++DP l (i+1))),(4,.arr 47 Cl (ar++Fz p.length l i)),(61,.arr 53 BE (CM p.length (xs.take k.1)))]⟩) (fun k=>xs.length-k.1) ⟨0,NO _⟩ (AC [(1,.nm 1),(2,.nm 2),(3,.nm 3),(4,.nm 4),(61,.nil)] rfl rfl ?_ ?_) (fun k=>?_)
      ·refine eM ?_;rfl
      ·refine eM ?_;rfl
      ·obtain⟨k,hk⟩:=k;have v:(CM p.length (xs.take k)).length=k:=by unfold CM;rw[To,OS];omega
       have w:=fun h:k<xs.length=>FP (fun a:Int×Int=>(a.1,a.2+(p.length:Int))) xs (0,0) h;have r:=fun h:k<xs.length=>u _ (AD xs (0,0) h);simp only;repeat'(first|exact trivial|refine eS rfl ?_|refine AB ?_|refine rX c ?_ ?_|refine rC ?_ ?_<;>intro b<;>try(cases b;done))
       ·exact b
       ·have e:k<xs.length:=OR.1 b;have F:=r e;refine⟨⟨by omega,by omega⟩,?_⟩;rw[v];simp only[AO];omega
       ·omega
       ·have e:k<xs.length:=OR.1 b;have g:CM p.length (xs.take (k+1))=CM p.length (xs.take k)++[((xs.getD k (0,0)).1,(xs.getD k (0,0)).2+(p.length:Int))]:=w e;refine⟨⟨k+1,e⟩,by simp only;omega,AC [(1,.nm 1),(2,.nm 2),(3,.nm 3),(4,.nm 4),(61,.nm 61)] rfl rfl ?_ ?_⟩
        ·simp only[g];exact eN
        ·simp only[g];exact eN
       ·rw[n];simp only[AO];omega
       ·omega
       ·have e:xs.take k=xs:=An (f8.1 b);rw[e];have j:ar++Fz p.length l i++[CM p.length xs]=ar++Fz p.length l (i+1):=by
         unfold Fz;rw[q,oF]
        refine⟨⟨i+1,d⟩,by simp only;omega,AC [(1,.nm 1),(2,.nm 2),(3,.nm 3),(4,.nm 4)] rfl rfl ?_ ?_⟩
        ·simp only[←j];exact eN
        ·exact eN
  ·have d:i=l.length:=by omega
   subst d;refine Ev.ent (σ':=⟨[],YJ h (p++DC p.length l.length) (ty++DP l l.length) (ar++Fz p.length l l.length)⟩) ?_ (AC [(1,.nm 1),(2,.nm 2),(3,.nm 3),(4,.nm 4)] rfl rfl ?_ ?_)
   ·exact fM c [] (.raw (.tuple #[])) rfl ⟨rfl,rfl⟩
   ·unfold YJ;exact eN
   ·exact eN
end Go.Proofs.YtdapahgnpbehbaaGreat.Fw
