/- Contracts of the program's and the reference's functions, and the plain laws of what they compute: PG PH T1 G4 G5 G6 T2 T3 T5 P1 P9 T13 T14 T15 T6 T7 T8 T9 T10 T11 T12 T16 R08a P3 P4 P5 P2 P7 W1 W2 W3 W4 D2. -/
import Derived.Test.YtdapahgnpbehbaaGreatIYB
import Derived.Test.YtdapahgnpbehbaaGreatIZI
import Derived.Test.YtdapahgnpbehbaaGreatIZJ
set_option linter.unusedVariables false
set_option linter.unusedSimpArgs false
namespace Go.Proofs.YtdapahgnpbehbaaGreat.Fw
open Go
attribute [local irreducible] Ev
attribute [local go_sem] Wk AM List.toList_toArray Bp evG evK TW EX Jk Fg Ex F1 Ng J6 CC Co Kq Bz Ce frz Zk GS DD A5 FQ BU AV.frz AV.frzs AV.drp AV.drps AV.names AV.namess aq GT J5 Jb Qn H5 BP BV I5 EP Hg ER Hi Hh Hj Sd NY GU I6 FT Ds Se O5 v4 I7 H8 Kl E9 Dh H9 Jd D9 Qo CX EA Eh O6 IA O7 LW IB Je Cn Cc FF Di HH DL Ei DM EB FE Bz Cb Ov O2 Lt Fz H7 H6 Jc Lu Nb LX Kp Kn Jh O8 Ko Ji WG Nf Nc AV.trn AV.trns Dr CW Obj.trn JK Yi C0 DN Cz EC CQ Ej Ah lk Gm GJ HF wC Zj TT Zm O4 oJ oK pfs AV.cells CA I3 Nx Jg Na CP Lr Ty.cell1 Hf Eg Dg Fy Kk EO J4 LV Oz Ef Gu Lq Qm Sb Ln J3 WD YK O3 Ls Cm I4 RV.flat Ty.flat Ty.size St.add upd del Ba Value.oneCell' Ki Ty.dflt He Mx Gx M4 List.take_succ_cons List.take_zero List.length_cons Wr Ws M3 X1 KG GY Hz sM Ey Kz K0 K2 K3 OG OH JC Ho Qy Option.map_some Option.map_none Option.bind_some Option.getD_some Option.getD_none Option.isNone_none Option.isNone_some Bool.and_true Bool.true_and Bool.and_false Bool.false_and Bool.not_true Bool.not_false if_true if_false List.length_cons List.length_nil and_true true_and and_self List.all_cons List.all_nil List.append_nil List.nil_append List.cons_append List.getElem?_cons_zero List.getElem?_cons_succ List.getElem?_nil List.map_cons List.map_nil List.set_cons_zero List.set_cons_succ List.isEmpty_nil List.isEmpty_cons decide_true decide_false beq_self_eq_true bne_self_eq_false Nat.zero_add Nat.add_zero Nat.sub_zero Int.toNat_natCast Int.toNat_zero Int.toNat_one List.take_length List.length_append List.length_singleton true_or or_true or_self false_or or_false Ty.agg.injEq Ty.slice.injEq Ty.prod.injEq Ty.int.injEq Option.some.injEq beq_iff_eq K4 evMG evMQ v5 HL Lc Bv JE GI L5 JD HK Hq JF KF L6 L8 L7 Qz KE Mz M0 Hy AW Ai Op.operands Call.operands List.filterMap_cons List.filterMap_nil List.append_eq Bool.cond_false_right Bool.cond_true_left cond_true cond_false implies_true decide_eq_true_eq beq_true beq_false Bool.or_true Bool.or_false Bool.true_or Bool.false_or Option.isSome_some Array.empty_append List.append_toArray K1 Kr Ek HV WF NZ FD Fa FZ IC HG Jf Km TV Zl Ja inB Jj FN F0 ID Ak Wu List.drop_zero DZ HZ WK CE Jp BT AV.fgt AV.fgts Obj.fgt Af Ag AW Cp IP BH F5 List.any_cons List.any_nil jY Yf WL Yg Lo Pf qs List.flatMap_cons List.flatMap_nil List.cons_append tn WM Ha List.take_succ_cons List.drop_succ_cons WN HO Bj aQ KI B8 CS Ab FH Jo Bc Em Dj HI Hn F4 HJ
attribute [local go_sem] ty1 ty2 ty3 ty4 ty5 ty9 yG yH yI yJ yK yL yM yN yO yP yQ yR yS yT yU yV yW yX yY yZ y3 y4 y5 y6 y7 y8 y9 zA zB zC zD zE zF zG zH zI zJ zK zL zM zN zO zP zQ zR zS zT zU zV zW zX zY zZ z0 z1 z2 z3 z4 z5 z6 z7 z8 z9 A00 A01 A02 A03 A04 A05 A06 A07 A08 A09 A0a aY aZ a9 bA bB bC bD bE bF bG bH bI bJ bK bL bM bN bO bP bQ bR bS bT bU bV bW bX bZ b4 b5 b6 b7 b8 b9 cA cB cC cE cF cG cH cI cJ cK cL cM cN cO cQ cR cS cU cV cW cX cZ c6 c7 c8 c9 dA dB dC dD dE dF dG dH dI dJ dK dL dM dN dP dQ dR dS dT dU dV dW dX dY dZ d3 d4 d5 d6 d7 d8 d9 eB eC eD eE eF eG eH eI eJ eK eL eO eQ eU eW eX eY eZ e7 e9 fA fB fC fD fE fF fG
set_option maxRecDepth 100000
set_option maxHeartbeats 4000000
section
attribute [local go_sem] Cu
theorem A3C (l:List (Int×Int)) (J:l.length<256) (a b:Nat) (F:a+8≤b) (H:b≤l.length):BB Tryz.prog 168 [.sr 1000000 BI 0 l.length,.p T3 (a:Int),.p T3 (b:Int),.fn 116] [(1000000,.arr 53 BI l)] [1000000] (fun res E=>res=.raw (.tuple #[])∧∃r,E=[(1000000,.arr 53 BI r)]∧D8 (0,0) a b l r):=by
 refine KJ [0,1,2,8,9,10,11,12,17,35,45] [] [] Tryz.func168 Tryz.ntmps168 AG ?_;intro w0 K O0 ρ0 d L M;simp only[Ak];obtain⟨n,hn⟩:∃n,b=a+n:=⟨b-a,by omega⟩;subst hn;have en:((a+n:Nat):Int)-(a:Int)=(n:Int):=by omega
 obtain⟨t,D⟩:∃t,t=n / 4:=⟨_,rfl⟩;have et:(n:Int).tdiv 4=(t:Int):=by
  rw[AAu (by omega)];omega
 have N:4*t≤n:=by omega
 have O:2≤t:=by omega
 clear D
 (refine eS rfl ?_;refine rX d ?_ ?_;(next=>first|exact trivial|exact CV))
 rw[en];repeat'(first|exact trivial|refine eS rfl ?_|refine AB ?_|refine rX d ?_ ?_)
 refine rC (fun e=>?_) (fun e=>?_)
 ·repeat'(first|exact trivial|refine eS rfl ?_|refine AB ?_|refine rX d ?_ ?_)
  ·exact CV
  ·refine cP 1 d ?_ ?_
   ·trivial
   ·refine rM d (A3A (n:Int) (by omega) (by omega)) [] [] ?_ ?_ ?_
    ·first|exact eN|refine eM ?_
    ·first|exact eN|refine eM ?_
    ·rintro _ _ ⟨⟨m,rfl,A,B⟩,rfl⟩;rw[bY]at A B;refine⟨[],.p (.int .u64) (m:Int),[],rfl,rfl,?_,?_,rfl,rfl,?_⟩
     ·first|exact eN|refine eM ?_
     ·first|exact eN|refine eM ?_
     ·refine rL d ?_ ?_
      ·trivial
      ·repeat'(first|exact trivial|refine eS rfl ?_|refine AB ?_|refine rX d ?_ ?_)
       ·rw[et];refine⟨⟨by decide,?_⟩,?_,?_,?_⟩<;>omega
       ·rw[et,show (a:Int)+(t:Int)*2-1=((a+t*2-1:Nat):Int) by omega];refine AJ (ι:={s:Nat×Int×List (Int×Int)//(a≤s.1∧s.1≤a+t*2+2)∧(0≤s.2.1∧s.2.1≤18446744073709551615)∧D8 (0,0) a (a+n) l s.2.2}) (fun s=>⟨[(0,.sr 1000000 BI 0 l.length),(1,.p T3 (a:Int)),(8,.p (.int .i64) (n:Int)),(9,.bp 9 [] 0),(10,.p (.int .u64) (m:Int)),(11,.p (.int .i64) (s.1.1:Int))],[(1000000,.arr 53 BI s.1.2.2),(9,.box 213 false [.p (.int .u64) s.1.2.1])]⟩) (fun s=>a+t*2+2-s.1.1) ⟨(a+t*2-1,(n:Int),l),by simp only;omega,by simp only;omega,D8.refl _ _ l⟩ (AC [(1000000,.nm 1000000),(9,.nm 9)] rfl rfl ?_ ?_) (fun s=>?_)
        ·first|exact eN|refine eM ?_
        ·first|exact eN|refine eM ?_
        ·obtain⟨⟨i,x,c⟩,⟨y,z⟩,q,hp⟩:=s;simp only at y z q hp ⊢;have I:=hp.len;repeat'(first|exact trivial|refine eS rfl ?_|refine AB ?_|refine rX d ?_ ?_)
         ·rw[et];refine⟨⟨by decide,?_⟩,?_,?_,?_⟩<;>omega
         ·rw[et];refine rC (fun u=>?_) (fun u=>?_)
          ·refine eS rfl ?_;refine cP 0 d ?_ ?_
           ·trivial
           ·refine rM d (A3B x q) [(70,.nm 9)] [] ?_ ?_ ?_
            ·first|exact eN|refine eM ?_
            ·first|exact eN|refine eM ?_
            ·rintro _ _ ⟨v,k,rfl,rfl⟩;refine⟨[(9,.nm 70)],.p (.int .u64) v,[(9,.box 213 false [.p (.int .u64) v])],rfl,rfl,?_,?_,rfl,rfl,?_⟩
             ·first|exact eN|refine eM ?_
             ·first|exact eN|refine eM ?_
             ·have G:=A3z v ((m:Int)-1) (by omega) (by omega);refine rL d ?_ ?_
              ·exact⟨by omega,by omega⟩
              ·generalize B7 .and .u64 v ((m:Int)-1)=r at *;repeat'(first|exact trivial|refine eS rfl ?_|refine AB ?_|refine rX d ?_ ?_)
               refine rC (fun w=>?_) (fun w=>?_)
               ·obtain⟨o,g⟩:∃o:Nat,r-(n:Int)=(o:Int):=⟨(r-(n:Int)).toNat,by omega⟩;have C:o<n:=by omega
                refine rX d ?_ ?_
                ·exact CV
                ·rw[g];have h:D8 (0,0) a (a+n) c (CU (0,0) c i (a+o)):=D8.swap c (by omega) (by omega) (by omega) (by omega) (by omega);have j:CU (0,0) c i (a+o)=(c.set i (c.getD (a+o) (0,0))).set (a+o) (c.getD i (0,0)):=rfl;have f:((a:Int)+(o:Int)).toNat=a+o:=by omega
                 repeat'(first|exact trivial|refine eS rfl ?_|refine AB ?_|refine rP d ?_ ?_|fail)
                 (refine Bu drawsAny d 18 [([0,1,6,7,8,9,10,11,12,13,14,15,16],17)] [2,3,4,5] (by kernel_rfl) (Jr ?_ ?_);(next=>exact CV);refine Ld d [] ?_ ?_;(next=>exact CV);refine Ow d ?_ ?_ ?_;(next=>exact CV);(next=>exact CV))
                 rw[f,←j];repeat'(first|exact trivial|refine eS rfl ?_|refine AB ?_|refine rX d ?_ ?_)
                 ·exact CV
                 ·refine⟨⟨(i+1,v,CU (0,0) c i (a+o)),by simp only;omega,k,hp.trans h⟩,by simp only;omega,AC [(1000000,.nm 1000000),(9,.nm 9)] rfl rfl ?_ ?_⟩
                  ·first|exact eN|refine eM ?_
                  ·first|exact eN|refine eM ?_
               ·obtain⟨o,g⟩:∃o:Nat,r=(o:Int):=⟨r.toNat,by omega⟩;subst g;have C:o<n:=by omega
                have h:D8 (0,0) a (a+n) c (CU (0,0) c i (a+o)):=D8.swap c (by omega) (by omega) (by omega) (by omega) (by omega);have j:CU (0,0) c i (a+o)=(c.set i (c.getD (a+o) (0,0))).set (a+o) (c.getD i (0,0)):=rfl;have f:((a:Int)+(o:Int)).toNat=a+o:=by omega
                repeat'(first|exact trivial|refine eS rfl ?_|refine AB ?_|refine rP d ?_ ?_|fail)
                (refine Bu drawsAny d 18 [([0,1,6,7,8,9,10,11,12,13,14,15,16],17)] [2,3,4,5] (by kernel_rfl) (Jr ?_ ?_);(next=>exact CV);refine Ld d [] ?_ ?_;(next=>exact CV);refine Ow d ?_ ?_ ?_;(next=>exact CV);(next=>exact CV))
                rw[f,←j];repeat'(first|exact trivial|refine eS rfl ?_|refine AB ?_|refine rX d ?_ ?_)
                ·exact CV
                ·refine⟨⟨(i+1,v,CU (0,0) c i (a+o)),by simp only;omega,k,hp.trans h⟩,by simp only;omega,AC [(1000000,.nm 1000000),(9,.nm 9)] rfl rfl ?_ ?_⟩
                 ·first|exact eN|refine eM ?_
                 ·first|exact eN|refine eM ?_
          ·repeat'(first|exact trivial|refine eS rfl ?_|refine AB ?_|refine rX d ?_ ?_|refine rC ?_ ?_<;>intro e<;>try(cases e;done))
           refine Ev.ent (σ':=⟨[],[(1000000,.arr 53 BI c)]⟩) ?_ (AC [(1000000,.nm 1000000)] rfl rfl ?_ ?_)
           ·exact fM d [] (.raw (.tuple #[])) rfl ⟨rfl,c,rfl,hp⟩
           ·first|exact eN|refine eM ?_
           ·first|exact eN|refine eM ?_
 ·exfalso;omega
end
section
attribute [local go_sem] Cu
def iB (l:List (Int×Int)) (a b c:Nat):Prop:=BB Tryz.prog 163 [.sr 1000000 BI 0 l.length,.p T3 (a:Int),.p T3 (b:Int),.p T3 (c:Int),.fn 116] [(1000000,.arr 53 BI l)] [1000000] (fun res d=>res=.raw (.tuple #[])∧∃r,d=[(1000000,.arr 53 BI r)]∧D8 (0,0) a b l r∧RU CB (0,0) a b r)
theorem uL (l:List (Int×Int)) (az:l.length<256) (aa:j5 CB (0,0) l) (a b S:Nat) (ar:a≤b) (ay:b≤l.length) (av:S≤1000) (aq:Bf CB (0,0) a b l)
  (V:∀(l':List (Int×Int)),l'.length<256→j5 CB (0,0) l'→∀J b' an:Nat,b'-J<b-a→J≤b'→b'≤l'.length→an≤1000→Bf CB (0,0) J b' l'→iB l' J b' an):iB l a b S:=by
 unfold iB;refine KJ [0,1,2,3,4,10,11,12,13,14,15,16,17,18,19,20,25,32,39,56,75,80,97,125] [] [] Tryz.func163 Tryz.ntmps163 (AF E3 AG) ?_;intro w0 K O0 ρ0 c bb bc;simp only[Ak];repeat'(first|exact trivial|refine eS rfl ?_|refine AB ?_|refine rX c ?_ ?_)
 refine AJ (ι:={s:(Nat×Nat×Nat)×(Bool×Bool)×List (Int×Int)//uI CB (0,0) a b s.1.1 s.1.2.1 s.2.2∧D8 (0,0) a b l s.2.2∧Bf CB (0,0) s.1.1 s.1.2.1 s.2.2∧s.1.2.2≤1000}) (fun s=>⟨[(0,.sr 1000000 BI 0 l.length),(1,.p T3 (s.1.1.1:Int)),(2,.p T3 (s.1.1.2.1:Int)),(3,.p T3 (s.1.1.2.2:Int)),(4,.fn 116),(10,.p .bool s.1.2.1.1),(11,.p .bool s.1.2.1.2)],[(1000000,.arr 53 BI s.1.2.2)]⟩) (fun s=>s.1.1.2.1-s.1.1.1) ⟨((a,b,S),(true,true),l),uJ ar l,D8.refl a b l,aq,av⟩ (AC [(1000000,.nm 1000000)] rfl rfl ?_ ?_) (fun s=>?_)
 ·first|exact eN|refine eM ?_
 ·first|exact eN|refine eM ?_
 ·obtain⟨⟨⟨d,b1,H⟩,⟨T,U⟩,m⟩,t,o,Q,ag⟩:=s;simp only at t o Q ag ⊢;obtain⟨D,ax,E⟩:=t.ab;have N:=aa.perm CJ o.perm;have u:=o.len;repeat'(first|exact trivial|refine eS rfl ?_|refine AB ?_|refine rX c ?_ ?_)
  ·exact CV
  ·refine rC (fun k=>?_) (fun k=>?_)
   ·have key:=A3u m (by omega) N d b1 (by omega) (by omega);rw[u]at key;repeat'(first|exact trivial|refine eS rfl ?_|refine AB ?_|refine rX c ?_ ?_)
    refine cP 4 c ?_ ?_
    ·trivial
    ·refine rM c (key) [(1000000,.nm 1000000)] [] ?_ ?_ ?_
     ·first|exact eN|refine eM ?_
     ·first|exact eN|refine eM ?_
     ·rintro _ _ ⟨rfl,r,rfl,e,g⟩;refine⟨[(1000000,.nm 1000000)],.raw (.tuple #[]),[(1000000,.arr 53 BI r)],rfl,rfl,?_,?_,rfl,rfl,CM ?_⟩
      ·first|exact eN|refine eM ?_
      ·first|exact eN|refine eM ?_
      ·repeat'(first|exact trivial|refine eS rfl ?_|refine AB ?_|refine rX c ?_ ?_|refine rC ?_ ?_<;>intro k<;>try(cases k;done))
       exact fM c [] (.raw (.tuple #[])) rfl ⟨rfl,r,rfl,o.trans (e.mono D E),(t.pin e).done g⟩
   ·have ap:d+13≤b1:=by omega
    have el:(b1:Int)-(d:Int)=((b1-d:Nat):Int):=by omega
    rw[el];repeat'(first|exact trivial|refine eS rfl ?_|refine AB ?_|refine rX c ?_ ?_)
    refine rC (fun au=>?_) (fun au=>?_)
    ·have key:=A1c m (by omega) N d b1 ax (by omega);rw[u]at key;repeat'(first|exact trivial|refine eS rfl ?_|refine AB ?_|refine rX c ?_ ?_)
     refine cP 4 c ?_ ?_
     ·trivial
     ·refine rM c (key) [(1000000,.nm 1000000)] [] ?_ ?_ ?_
      ·first|exact eN|refine eM ?_
      ·first|exact eN|refine eM ?_
      ·rintro _ _ ⟨rfl,r,rfl,e,g⟩;refine⟨[(1000000,.nm 1000000)],.raw (.tuple #[]),[(1000000,.arr 53 BI r)],rfl,rfl,?_,?_,rfl,rfl,CM ?_⟩
       ·first|exact eN|refine eM ?_
       ·first|exact eN|refine eM ?_
       ·repeat'(first|exact trivial|refine eS rfl ?_|refine AB ?_|refine rX c ?_ ?_|refine rC ?_ ?_<;>intro k<;>try(cases k;done))
        exact fM c [] (.raw (.tuple #[])) rfl ⟨rfl,r,rfl,o.trans (e.mono D E),(t.pin e).done g⟩
    ·have ba:0<H:=by omega
     refine o4 ?_;refine IJ ?_;refine PZ (ι:={x:Nat×List (Int×Int)//x.1≤1000∧D8 (0,0) d b1 m x.2}) (fun x=>⟨[(0,.sr 1000000 BI 0 l.length),(1,.p T3 (d:Int)),(2,.p T3 (b1:Int)),(3,.p T3 (x.1.1:Int)),(4,.fn 116),(10,.p .bool T),(11,.p .bool U),(12,.p (.int .i64) ((b1-d:Nat):Int))],[(1000000,.arr 53 BI x.1.2)]⟩) ?_ (fun x=>?_)
     ·repeat'(first|exact trivial|refine eS rfl ?_|refine AB ?_|refine rX c ?_ ?_)
      refine rC (fun n=>?_) (fun n=>?_)
      ·have key:=A3C m (by omega) d b1 (by omega) (by omega);rw[u]at key;refine eS rfl ?_;refine cP 4 c ?_ ?_
       ·trivial
       ·refine rM c (key) [(1000000,.nm 1000000)] [] ?_ ?_ ?_
        ·first|exact eN|refine eM ?_
        ·first|exact eN|refine eM ?_
        ·rintro _ _ ⟨rfl,r,rfl,e⟩;refine⟨[(1000000,.nm 1000000)],.raw (.tuple #[]),[(1000000,.arr 53 BI r)],rfl,rfl,?_,?_,rfl,rfl,CM ?_⟩
         ·first|exact eN|refine eM ?_
         ·first|exact eN|refine eM ?_
         ·repeat'(first|exact trivial|refine eS rfl ?_|refine AB ?_|refine rX c ?_ ?_)
          ·exact CV
          ·refine⟨⟨(H-1,r),by simp only;omega,e⟩,AC [(1000000,.nm 1000000)] rfl rfl ?_ ?_⟩
           ·first|exact eN|refine eM ?_
           ·simp only;rw[show ((H-1:Nat):Int)=(H:Int)-1 by omega];first|exact eN|refine eM ?_
      ·repeat'(first|exact trivial|refine eS rfl ?_|refine AB ?_|refine rX c ?_ ?_)
       refine⟨⟨(H,m),ag,D8.refl _ _ m⟩,AC [(1000000,.nm 1000000)] rfl rfl ?_ ?_⟩
       ·first|exact eN|refine eM ?_
       ·first|exact eN|refine eM ?_
     ·obtain⟨⟨C,i⟩,G,f⟩:=x;simp only at G f ⊢;have v:i.length=l.length:=f.len.trans u;have key:=A3y i (by omega) d b1 ap (by omega);rw[v]at key;refine eS rfl ?_;refine cP 4 c ?_ ?_
      ·trivial
      ·refine rM c (key) [(1000000,.nm 1000000)] [] ?_ ?_ ?_
       ·first|exact eN|refine eM ?_
       ·first|exact eN|refine eM ?_
       ·rintro _ _ ⟨j,hint,rfl,rfl,z,A⟩;refine⟨[(1000000,.nm 1000000)],.tup [.p T3 (j:Int),.p T3 hint],[(1000000,.arr 53 BI i)],rfl,rfl,?_,?_,rfl,rfl,?_⟩
        ·first|exact eN|refine eM ?_
        ·first|exact eN|refine eM ?_
        ·refine rL c ?_ ?_
         ·trivial
         ·refine IJ ?_;refine PZ (ι:={x:Nat×Int×List (Int×Int)//(d≤x.1∧x.1<b1)∧D8 (0,0) d b1 m x.2.2}) (fun x=>⟨[(0,.sr 1000000 BI 0 l.length),(1,.p T3 (d:Int)),(2,.p T3 (b1:Int)),(3,.p T3 (C:Int)),(4,.fn 116),(10,.p .bool T),(11,.p .bool U),(12,.p (.int .i64) ((b1-d:Nat):Int)),(13,.p T3 (x.1.1:Int)),(14,.p T3 x.1.2.1)],[(1000000,.arr 53 BI x.1.2.2)]⟩) ?_ (fun x=>?_)
          ·repeat'(first|exact trivial|refine eS rfl ?_|refine AB ?_|refine rX c ?_ ?_)
           refine rC (fun n=>?_) (fun n=>?_)
           ·have key:=A3v i (by omega) d b1 (by omega) (by omega);rw[v]at key;refine eS rfl ?_;refine cP 4 c ?_ ?_
            ·trivial
            ·refine rM c (key) [(1000000,.nm 1000000)] [] ?_ ?_ ?_
             ·first|exact eN|refine eM ?_
             ·first|exact eN|refine eM ?_
             ·rintro _ _ ⟨rfl,r,rfl,e⟩;refine⟨[(1000000,.nm 1000000)],.raw (.tuple #[]),[(1000000,.arr 53 BI r)],rfl,rfl,?_,?_,rfl,rfl,CM ?_⟩
              ·first|exact eN|refine eM ?_
              ·first|exact eN|refine eM ?_
              ·repeat'(first|exact trivial|refine eS rfl ?_|refine AB ?_|refine rX c ?_ ?_)
               ·exact CV
               ·refine⟨⟨(b1-1-(j-d),1,r),by simp only;omega,f.trans e⟩,AC [(1000000,.nm 1000000)] rfl rfl ?_ ?_⟩
                ·first|exact eN|refine eM ?_
                ·simp only;rw[show ((b1-1-(j-d):Nat):Int)=(b1:Int)-1-((j:Int)-(d:Int)) by omega];first|exact eN|refine eM ?_
           ·repeat'(first|exact trivial|refine eS rfl ?_|refine AB ?_|refine rX c ?_ ?_)
            refine⟨⟨(j,hint,i),⟨z,A⟩,f⟩,AC [(1000000,.nm 1000000)] rfl rfl ?_ ?_⟩
            ·first|exact eN|refine eM ?_
            ·first|exact eN|refine eM ?_
          ·clear z A f v key;obtain⟨⟨j,hint,i⟩,⟨z,A⟩,f⟩:=x;simp only at z A f ⊢;have v:i.length=l.length:=f.len.trans u;have ah:=N.perm CJ f.perm;have Y:=Q.pin f;refine PZ (ι:={x:List (Int×Int)//D8 (0,0) d b1 m x}) (fun x=>⟨[(0,.sr 1000000 BI 0 l.length),(1,.p T3 (d:Int)),(2,.p T3 (b1:Int)),(3,.p T3 (C:Int)),(4,.fn 116),(10,.p .bool T),(11,.p .bool U),(12,.p (.int .i64) ((b1-d:Nat):Int)),(13,.p T3 (j:Int))],[(1000000,.arr 53 BI x.1)]⟩) ?_ (fun x=>?_)
           ·repeat'(first|exact trivial|refine eS rfl ?_|refine AB ?_|refine rX c ?_ ?_)
            refine rC (fun n=>?_) (fun n=>?_)
            ·have key:=A3x i (by omega) ah d b1 (by omega) (by omega) Y;rw[v]at key;refine eS rfl ?_;refine cP 4 c ?_ ?_
             ·trivial
             ·refine rM c (key) [(1000000,.nm 1000000)] [] ?_ ?_ ?_
              ·first|exact eN|refine eM ?_
              ·first|exact eN|refine eM ?_
              ·rintro _ _ ⟨w,r,rfl,rfl,e,g⟩;refine⟨[(1000000,.nm 1000000)],.p .bool w,[(1000000,.arr 53 BI r)],rfl,rfl,?_,?_,rfl,rfl,CM ?_⟩
               ·first|exact eN|refine eM ?_
               ·first|exact eN|refine eM ?_
               ·refine eS rfl ?_;refine rC (fun af=>?_) (fun af=>?_)
                ·repeat'(first|exact trivial|refine eS rfl ?_|refine AB ?_|refine rX c ?_ ?_|refine rC ?_ ?_<;>intro k<;>try(cases k;done))
                 have am:=f.trans e;exact fM c [] (.raw (.tuple #[])) rfl ⟨rfl,r,rfl,o.trans (am.mono D E),(t.pin am).done (g af)⟩
                ·repeat'(first|exact trivial|refine eS rfl ?_|refine AB ?_|refine rX c ?_ ?_)
                 refine⟨⟨r,f.trans e⟩,AC [(1000000,.nm 1000000)] rfl rfl ?_ ?_⟩
                 ·first|exact eN|refine eM ?_
                 ·first|exact eN|refine eM ?_
            ·repeat'(first|exact trivial|refine eS rfl ?_|refine AB ?_|refine rX c ?_ ?_)
             refine⟨⟨i,f⟩,AC [(1000000,.nm 1000000)] rfl rfl ?_ ?_⟩
             ·first|exact eN|refine eM ?_
             ·first|exact eN|refine eM ?_
           ·clear v ah Y f;obtain⟨ao,y⟩:=x;simp only;have ak:ao.length=l.length:=y.len.trans u;have ai:=N.perm CJ y.perm;have R:=Q.pin y;have ad:=t.pin y;repeat'(first|exact trivial|refine eS rfl ?_|refine AB ?_|refine rX c ?_ ?_)
            ·dsimp only[Ty.den];exact⟨fun _=>by omega,fun _=>by omega,fun _=>by omega⟩
            ·refine Dl (by simp only[go_sem,Nat.reduceEqDiff,reduceCtorEq,Nat.reduceAdd,Nat.reduceSub,Nat.reduceMul,Nat.reduceLeDiff,Nat.reduceLT,Int.reduceLE,Int.reduceToNat,Int.reduceNeg,↓reduceIte];rfl) ?_ ?_
             ·intro L;exfalso;simp only[AT,DO,OR,On]at L;obtain⟨h1,X⟩:=L;rw[show ((d:Int)-1).toNat=d-1 by omega]at X;rcases R with h|h
              ·omega
              ·exact X (h j z A)
             ·intro L;clear L;have key:=A3w ao (by omega) ai d b1 j z A (by omega);rw[ak]at key;repeat'(first|exact trivial|refine eS rfl ?_|refine AB ?_|refine rX c ?_ ?_)
              refine cP 5 c ?_ ?_
              ·trivial
              ·refine rM c (key) [(1000000,.nm 1000000)] [] ?_ ?_ ?_
               ·first|exact eN|refine eM ?_
               ·first|exact eN|refine eM ?_
               ·rintro _ _ ⟨q,w,I,rfl,rfl,P,F⟩;refine⟨[(1000000,.nm 1000000)],.tup [.p T3 (q:Int),.p .bool w],[(1000000,.arr 53 BI I)],rfl,rfl,?_,?_,rfl,rfl,?_⟩
                ·first|exact eN|refine eM ?_
                ·first|exact eN|refine eM ?_
                ·have aw:=F.l;have bd:=F.r;have O:=o.trans ((y.trans P).mono D E);have al:=O.len;have aj:=aa.perm CJ O.perm;have Z:=R.pin P;have ae:=ad.pin P;clear y ak ai R ad P key;have W:(((b1-d:Nat):Int)).tdiv 8=(((b1-d) / 8:Nat):Int):=by
                  rw[AAu (by omega)];omega
                 refine rL c ?_ ?_
                 ·trivial
                 ·repeat'(first|exact trivial|refine eS rfl ?_|refine AB ?_|refine rX c ?_ ?_)
                  ·exact CV
                  ·rw[W];exact⟨by decide,by omega,by omega⟩
                  ·rw[W];refine rC (fun n=>?_) (fun n=>?_)
                   ·have key:=V I (by omega) aj d q C (by omega) aw (by omega) G (Z.sub (by omega));unfold iB at key;rw[al]at key;repeat'(first|exact trivial|refine eS rfl ?_|refine AB ?_|refine rX c ?_ ?_)
                    refine cP 5 c ?_ ?_
                    ·trivial
                    ·refine rM c (key) [(1000000,.nm 1000000)] [] ?_ ?_ ?_
                     ·first|exact eN|refine eM ?_
                     ·first|exact eN|refine eM ?_
                     ·rintro _ _ ⟨rfl,r,rfl,e,g⟩;refine⟨[(1000000,.nm 1000000)],.raw (.tuple #[]),[(1000000,.arr 53 BI r)],rfl,rfl,?_,?_,rfl,rfl,CM ?_⟩
                      ·first|exact eN|refine eM ?_
                      ·first|exact eN|refine eM ?_
                      ·have M:=F.pinL e;have B:D8 (0,0) d b1 I r:=e.mono (No _) (by omega);repeat'(first|exact trivial|refine eS rfl ?_|refine AB ?_|refine rX c ?_ ?_)
                       ·exact CV
                       ·refine⟨⟨((q+1,b1,C),(decide ((((b1-d) / 8:Nat):Int)≤(q:Int)-(d:Int)),w),r),(ae.pin B).left CJ M g,O.trans (B.mono D E),M.bf,G⟩,by simp only;omega,AC [(1000000,.nm 1000000)] rfl rfl ?_ ?_⟩
                        ·first|exact eN|refine eM ?_
                        ·first|exact eN|refine eM ?_
                   ·have key:=V I (by omega) aj (q+1) b1 C (by omega) (by omega) (by omega) G F.bf;unfold iB at key;rw[al,show ((q+1:Nat):Int)=(q:Int)+1 by omega]at key;repeat'(first|exact trivial|refine eS rfl ?_|refine AB ?_|refine rX c ?_ ?_)
                    refine cP 6 c ?_ ?_
                    ·exact CV
                    ·refine rM c (key) [(1000000,.nm 1000000)] [] ?_ ?_ ?_
                     ·first|exact eN|refine eM ?_
                     ·first|exact eN|refine eM ?_
                     ·rintro _ _ ⟨rfl,r,rfl,e,g⟩;refine⟨[(1000000,.nm 1000000)],.raw (.tuple #[]),[(1000000,.arr 53 BI r)],rfl,rfl,?_,?_,rfl,rfl,CM ?_⟩
                      ·first|exact eN|refine eM ?_
                      ·first|exact eN|refine eM ?_
                      ·have M:=F.pinR e;have B:D8 (0,0) d b1 I r:=e.mono (by omega) (No _);repeat'(first|exact trivial|refine eS rfl ?_|refine AB ?_|refine rX c ?_ ?_)
                       refine⟨⟨((d,q,C),(decide ((((b1-d) / 8:Nat):Int)≤(b1:Int)-(q:Int)),w),r),(ae.pin B).right CJ M g,O.trans (B.mono D E),(Z.pin B).sub (b':=q) (by omega),G⟩,by simp only;omega,AC [(1000000,.nm 1000000)] rfl rfl ?_ ?_⟩
                       ·first|exact eN|refine eM ?_
                       ·first|exact eN|refine eM ?_
theorem A3D (l:List (Int×Int)) (i:l.length<256) (e:j5 CB (0,0) l) (a b c:Nat) (f:a≤b) (g:b≤l.length) (j:c≤1000) (d:Bf CB (0,0) a b l):iB l a b c:=by
 have key:∀(n:Nat) (l:List (Int×Int)),l.length<256→j5 CB (0,0) l→∀a b c:Nat,b-a<n→a≤b→b≤l.length→c≤1000→Bf CB (0,0) a b l→iB l a b c:=by
  intro n;induction n with
  | zero=>intro l _ _ a b c h;omega
  | succ n s =>
   intro l i e a b c hn f g j d;exact uL l i e a b c f g j d fun l' h1 m k b' t u o p q r=>s l' h1 m k b' t (by omega) o p q r
 exact key (b-a+1) l i e a b c (by omega) f g j d
end
def NdA (l:List (Int×Int)):Prop:=l.Pairwise fun a b=>a.1≠b.1
def LtA (l:List (Int×Int)):Prop:=l.Pairwise fun a b=>a.1<b.1
theorem Xl (x:Int×Int) (s:List (Int×Int)):∀n,(∀j,Im x s n≤j→j<n→x.1<(s.getD j (0,0)).1)∧(Im x s n=0∨¬x.1<(s.getD (Im x s n-1) (0,0)).1)
 | 0=>⟨fun j h1 a=>by omega,.inl rfl⟩
 | n+1=>by
  obtain⟨h1,a⟩:=Xl x s n;unfold Im;split
  ·rename_i h;refine⟨fun j b c=>?_,a⟩;by_cases e:j=n
   ·rw[e];exact h
   ·exact h1 j b (by omega)
  ·rename_i h;exact⟨fun j b c=>by omega,.inr (by simpa using h)⟩
theorem A3E {s:List (Int×Int)} (hs:LtA s) {x:Int×Int} (l:∀a∈s,a.1≠x.1):LtA (Oe s x):=by
 obtain⟨h1,c⟩:=Xl x s s.length;have m:=TA x s s.length;unfold Oe;generalize Im x s s.length=p at *;have hp:=hs;unfold LtA at hp;rw[←ABn p s,ABe]at hp;have g:∀i (h:i<s.length),s.getD i (0,0)=s[i]:=fun i h=>by rw[AS,An h];rfl
 have k:∀a∈s.take p,a.1<x.1:=by
  intro a ha;rcases c with c|c
  ·subst c;simp at ha
  ·obtain⟨i,hi,rfl⟩:=AAg.1 ha;rw[OS]at hi;rw[List.getElem_take];by_cases o:p=0
   ·omega
   have f:p-1<s.length:=by omega
   rw[g (p-1) f]at c;have n:=l s[p-1] (AAh f);by_cases e:i=p-1
   ·subst e;omega
   ·have:=(oF.1 hs) i (p-1) (by omega) f (by omega);omega
 have j:∀a∈s.drop p,x.1<a.1:=by
  intro a ha;obtain⟨i,hi,rfl⟩:=AAg.1 ha;rw[AA7]at hi;rw[List.getElem_drop,←g (p+i) (by omega)];exact h1 (p+i) (by omega) (by omega)
 unfold LtA;rw[oR,ABe];refine⟨hp.1,?_,fun a ha b d=>?_⟩
 ·rw[List.singleton_append,AAk];exact⟨j,hp.2.1⟩
 ·rcases By.1 (by simpa using d:b∈x :: s.drop p) with rfl|d
  ·exact k a ha
  ·exact hp.2.2 a ha b d
theorem Oi {l:List (Int×Int)} (h:NdA l):LtA (AZ l):=by
 induction l using Gr with
 | h0=>exact List.Pairwise.nil
 | h1 l a d =>
  unfold NdA at h;rw[ABe]at h;rw[Hs];exact A3E (d h.1) fun b c=>h.2.2 b ((E2 l).mem_iff.1 c) a (by simp)
theorem uM {l r:List (Int×Int)} (hp:r.Perm l) (h1:LtA r) (c:LtA l):r=l :=
 List.Perm.eq_of_pairwise (le:=fun a b:Int×Int=>a.1<b.1) (fun a b _ _ d e=>by omega) h1 c hp
theorem qF {l:List (Int×Int)} (h:LtA l):mS l:=by
 intro i hi;have a:∀i (h:i<l.length),l.getD i (0,0)=l[i]:=fun i h=>by rw[AS,An h];rfl
 rw[a i (by omega),a (i+1) hi];exact(oF.1 h) i (i+1) (by omega) hi (by omega)
theorem A55 {l:List (Int×Int)} (h:NdA l):j5 CB (0,0) l:=by
 rw[qC CJ];refine h.imp fun {a b} g e=>g ?_;unfold CB Fv at e;split at e
 ·omega
 ·split at e<;>omega
theorem mY {l r:List (Int×Int)} (h:NdA l) (hp:r.Perm l) (hs:RU CB (0,0) 0 l.length r):r=AZ l:=by
 refine uM (hp.trans (E2 l).symm) (oF.2 fun i j hi b c=>?_) (Oi h);have a:∀i (h:i<r.length),r.getD i (0,0)=r[i]:=fun i h=>by rw[AS,An h];rfl
 have:=hs i j (Is _) c (by rw[←hp.length_eq];exact b);rw[a i hi,a j b]at this;unfold CB Fv at this;split at this
 ·assumption
 ·split at this<;>omega
theorem Ma {l:List (Int×Int)} (h:NdA l):AZ (AZ l)=AZ l:=MZ (qF (Oi h))
def NdF (f:List AE):Prop:=∀x∈f,NdA x.2∧x.2.length≤200
def EI (f:List AE):List AE:=f.map fun x=>(x.1,AZ x.2)
theorem GB (f:List AE):(EI f).length=f.length:=f6 _
theorem QP (f:List AE) (n:Nat):(EI f).getD n (0,[])=((f.getD n (0,[])).1,AZ (f.getD n (0,[])).2):=by
 unfold EI;simp only[AS,AAl];cases f[n]?<;>rfl
theorem RW {f:List AE} (h:Ad f):Ad (EI f):=by
 refine⟨by rw[GB];exact h.1,fun x d=>?_⟩;obtain⟨y,e,rfl⟩:=IS.1 d;obtain⟨b,c⟩:=h.2 y e;refine⟨by simp only[Cj];exact b,fun a ha=>?_⟩;rw[GB];exact c a ((E2 _).mem_iff.1 ha)
theorem A1f {f:List AE} (h:NdF f):QO (EI f):=by
 intro x c;obtain⟨y,d,rfl⟩:=IS.1 c;obtain⟨a,b⟩:=h y d;exact⟨qF (Oi a),by simp only[Cj];exact b⟩
theorem qG {f:List AE} (hf:NdF f) (n:Int):NdA (f.getD n.toNat (0,[])).2∧(f.getD n.toNat (0,[])).2.length≤200:=by
 by_cases h:n.toNat<f.length
 ·have a:f.getD n.toNat (0,[])∈f:=by
   rw[AS,An h];exact AAh h
  exact hf _ a
 ·rw[AS,iN (by omega)];exact⟨List.Pairwise.nil,by simp⟩
theorem ST {f:List AE} (h:NdF f):∀(k:Nat) (s:List Int×List Int) (n:Int),Dx (EI f) k s n=Dx f k s n
 | 0,_,_=>rfl
 | k+1,s,n=>by
  rw[Fq,Fq,QP];simp only;rw[Ma (qG h n).1];refine AAP (fun g=>List.foldl g _ _) ?_;funext s a;unfold EZ;rw[ST h k s a.2]
theorem uN {f:List AE} (h:NdF f) (r:Int):JQ (EI f) r=JQ f r:=by
 have a:GP (EI f) r=GP f r:=by
  unfold GP;rw[GB,ST h]
 unfold JQ;rw[a];refine AA2 fun n _=>?_;unfold MT;rw[QP];simp only;rw[Ma (qG h n).1]
theorem iC {f:List AE} (hf:Ad f) (hn:NdF f) {root:Int} (h0:0≤root) (h1:root<f.length):JQ f root=AR (EI f) root:=by
 rw[←uN hn];exact Ir (RW hf) (A1f hn) h0 (by rw[GB];exact h1)
theorem A1g {L:Go.Loop} (h1:L.state=.ready) (a:L.pending=none):{ { L with state:=.busy } with state:=.ready,pending:=none }=L:=by
 cases L;simp_all
theorem Xm (l:List (Int×Int)):BB Tryz.prog 115 [.p DS l] [] [] (fun res c=>res=.clo 149 [1]∧c=[(1,.box 47 false [.p DS l])]):=by
 refine KJ [0,1,2] [] [] Tryz.func115 Tryz.ntmps115 AG ?_;intro w0 K O0 ρ0 a d e;simp only[Ak];repeat'(first|exact trivial|refine eS rfl ?_|refine AB ?_|refine rX a ?_ ?_|refine rC ?_ ?_<;>intro b<;>try(cases b;done))
 exact fM a [.tmp 2] (.clo 149 [1]) eT ⟨rfl,rfl⟩
def CO (l:List (Int×Int)) (L:Go.Loop) (a:Array Value) (i:Nat):List (Nat×Obj):=[(1,.box 47 false [.p DS l]),(101,.loop L),(102,.frame a [(2,.bp 2 [] 0),(6,.clo 149 [1])]),(2,.box 47 false [.sr 7 BI 0 i]),(7,.arr 53 BI (l.take i))]
theorem mZ (l:List (Int×Int)) (g:l.length≤100000) (L:Go.Loop) (b:Array Value) (f:∀i,i<l.length→aP Tryz.prog 101 [.p BI (l.getD i (0,0))] (CO l L b i) [1,101,102,2] (fun res e=>res=.p .bool true∧e=CO l L b (i+1))) :
  BB Tryz.prog 149 [.yl 101,.bp 1 [] 0] (CO l L b 0) [1,101,102,2] (fun res e=>res=.raw (.tuple #[])∧e=CO l L b l.length):=by
 refine KJ [0,1,4,5,6,7,8,14] [] [] Tryz.func149 Tryz.ntmps149 AG ?_;intro w0 K O0 ρ0 a h j;simp only[Ak,CO];repeat'(first|exact trivial|refine eS rfl ?_|refine AB ?_|refine rX a ?_ ?_|refine rC ?_ ?_<;>intro c<;>try(cases c;done))
 refine AJ (ι:={i:Nat//i≤l.length}) (fun i=>⟨[(0,.yl 101),(1,.bp 1 [] 0),(5,.p DS l),(6,.p (.int .i64) (l.length:Int)),(7,.p (.int .i64) (i.1:Int))],CO l L b i.1⟩) (fun i=>l.length-i.1) ⟨0,by omega⟩ (AC [(1,.nm 1),(101,.nm 101),(102,.nm 102),(2,.nm 2),(7,.nm 7)] rfl rfl ?_ ?_) (fun i=>?_)
 ·simp only[CO];first|exact eN|refine eM ?_
 ·first|exact eN|refine eM ?_
 ·obtain⟨i,hi⟩:=i;simp only[CO];repeat'(first|exact trivial|refine eS rfl ?_|refine AB ?_|refine rX a ?_ ?_|refine rC ?_ ?_<;>intro c<;>try(cases c;done))
  ·exact eV
  ·have d:i<l.length:=by exact eV
   refine cP 2 a ?_ ?_
   ·trivial
   ·refine rY 101 101 a (f i d) [(1,.nm 1),(101,.nm 101),(102,.nm 102),(2,.nm 2),(7,.nm 7)] [7] ?_ ?_ ?_
    ·first|exact eN|refine eM ?_
    ·simp only[CO];first|exact eN|refine eM ?_
    ·rintro _ _ ⟨rfl,rfl⟩;refine⟨[(1,.nm 1),(101,.nm 101),(102,.nm 102),(2,.nm 2),(7,.nm 7)],.p .bool true,CO l L b (i+1),rfl,rfl,?_,?_,rfl,rfl,?_⟩
     ·simp only[CO];first|exact eN|refine eM ?_
     ·first|exact eN|refine eM ?_
     ·simp only[CO];refine IR [0,1,5,6,7,14] a (by simp only[go_sem,Nat.reduceEqDiff,reduceCtorEq,Nat.reduceAdd,Nat.reduceSub,Nat.reduceMul,Nat.reduceLeDiff,Nat.reduceLT,Int.reduceLE,Int.reduceToNat,Int.reduceNeg,↓reduceIte];rfl) ?_ ?_
      ·trivial
      ·repeat'(first|exact trivial|refine eS rfl ?_|refine AB ?_|refine rX a ?_ ?_|refine rC ?_ ?_<;>intro c<;>try(cases c;done))
       ·exact eV
       ·refine⟨⟨i+1,by omega⟩,by simp only;omega,AC [(1,.nm 1),(101,.nm 101),(102,.nm 102),(2,.nm 2),(7,.nm 7)] rfl rfl ?_ ?_⟩
        ·simp only[CO];first|exact eN|refine eM ?_
        ·first|exact eN|refine eM ?_
  ·have d:i=l.length:=by exact eV
   subst d;refine fM a [] (.raw (.tuple #[])) rfl ⟨rfl,?_⟩;simp only[CO,f9]
theorem ZH (l:List (Int×Int)) (o:l.length≤100000):BB Tryz.prog 162 [.raw (.slice none 0 0),.clo 149 [1]] [(1,.box 47 false [.p DS l])] [] (fun res r=>res=.sr 7 BI 0 l.length∧r=[(7,.arr 53 BI l)]):=by
 refine fKR [0,1,2,4,5,6,7] [] [] Tryz.func162 Tryz.ntmps162 AG ?_;intro w0 K O0 ρ0 a u v;simp only[Ak];repeat'(first|exact trivial|refine eS rfl ?_|refine AB ?_|refine rX a ?_ ?_|refine rC ?_ ?_<;>intro c<;>try(cases c;done))
 refine xZ a rfl rfl (by simp only[go_sem,Nat.reduceEqDiff,reduceCtorEq,Nat.reduceAdd,Nat.reduceSub,Nat.reduceMul,Nat.reduceLeDiff,Nat.reduceLT,Int.reduceLE,Int.reduceToNat,Int.reduceNeg,↓reduceIte];rfl) 101 103 102 rfl rfl rfl rfl ?_;intro L d f g h j k m q;refine⟨_,CO l L d 0,[1,101,102,2],_,[(1,.nm 1),(101,.nm 101),(102,.nm 102),(2,.nm 2),(7,.nil)],[],mZ l o L d ?_,rfl,rfl,?_,?_,rfl,?_⟩
 ·intro i hi;refine xY (fr:=102) rfl rfl f j k m h q rfl (by kernel_rfl) (by simp) rfl rfl (by kernel_rfl) (by kernel_rfl) (tyTab_ok [] [0,1,2,4,5,6,7]) AG ?_;intro z s t A y a w x n;simp only[CO,HO];repeat'(first|exact trivial|refine eS rfl ?_|refine AB ?_|refine rX a ?_ ?_|refine rC ?_ ?_<;>intro c<;>try(cases c;done))
  refine⟨rfl,?_⟩;repeat'(first|exact trivial|refine eS rfl ?_|refine AB ?_|refine rX a ?_ ?_|refine rC ?_ ?_<;>intro c<;>try(cases c;done))
  ·simp only[AO];omega
  ·have e:List.take i (List.take i l)++[((l.getD i (0,0)).1,(l.getD i (0,0)).2)]=l.take (i+1):=by
    rw[Ax l (0,0) hi,BY (Nat.le_of_eq (by rw[OS];omega):(l.take i).length≤i)]
   refine Ev.ent (σ':=⟨[],[(1,.box 47 false [.p DS l]),(101,.loop { L with state:=.busy }),(102,.frame d [(2,.bp 2 [] 0),(6,.clo 149 [1])]),(2,.box 47 false [.sr 7 BI 0 (i+1)]),(7,.arr 53 BI (l.take (i+1)))]⟩) ?_ (AC [(1,.nm 1),(101,.nm 101),(102,.nm 102),(2,.nm 2),(7,.nm 7)] rfl rfl ?_ ?_)
   ·refine s7 a (yn:=101) rfl rfl (by simp) n ⟨rfl,?_⟩;simp only[CO,go_sem,Nat.reduceEqDiff,reduceCtorEq,Nat.reduceAdd,Nat.reduceSub,Nat.reduceMul,Nat.reduceLeDiff,Nat.reduceLT,Int.reduceLE,Int.reduceToNat,Int.reduceNeg,↓reduceIte,A1g f g]
   ·first|exact eN|refine eM ?_
    exact e
   ·first|exact eN|refine eM ?_
 ·simp only[Bj];first|exact eN|refine eM ?_
 ·simp only[Bj,CO];first|exact eN|refine eM ?_
 ·rintro _ _ ⟨rfl,rfl⟩;refine⟨[(1,.nm 1),(101,.nm 101),(102,.nm 102),(2,.nm 2),(7,.nm 7)],CO l L d l.length,L,rfl,rfl,?_,rfl,rfl,rfl,by rw[f];rfl,?_⟩
  ·simp only[CO];first|exact eN|refine eM ?_
  ·intro b;rw[g];simp only[EvJ,CO,Bj,go_sem,Nat.reduceEqDiff,reduceCtorEq,Nat.reduceAdd,Nat.reduceSub,Nat.reduceMul,Nat.reduceLeDiff,Nat.reduceLT,Int.reduceLE,Int.reduceToNat,Int.reduceNeg,↓reduceIte];replace a:=s8 (dn:=103) (b:=b) a;repeat'(first|exact trivial|refine eS rfl ?_|refine AB ?_|refine rX a ?_ ?_|refine rC ?_ ?_<;>intro c<;>try(cases c;done))
   refine Ev.ent (σ':=⟨[(4,.sr 7 BI 0 l.length)],[(7,.arr 53 BI l),(103,.dfr)]⟩) ?_ (AC [(7,.nm 7),(103,.nm 103)] rfl rfl ?_ ?_)
   ·exact x7 a [.tmp 4] rfl (.inl rfl) rfl rfl (.sr 7 BI 0 l.length) eT ⟨rfl,by simp only[go_sem,Nat.reduceEqDiff,reduceCtorEq,Nat.reduceAdd,Nat.reduceSub,Nat.reduceMul,Nat.reduceLeDiff,Nat.reduceLT,Int.reduceLE,Int.reduceToNat,Int.reduceNeg,↓reduceIte]⟩
   ·first|exact eN|refine eM ?_
   ·first|exact eN|refine eM ?_
theorem m5 (l:List (Int×Int)) (c:l.length≤100000):BB Tryz.prog 147 [.clo 149 [1]] [(1,.box 47 false [.p DS l])] [] (fun res d=>res=.sr 7 BI 0 l.length∧d=[(7,.arr 53 BI l)]):=by
 refine KJ [0,2] [] [] Tryz.func147 Tryz.ntmps147 AG ?_;intro w0 K O0 ρ0 a e f;simp only[Ak];repeat'(first|exact trivial|refine eS rfl ?_|refine AB ?_|refine rX a ?_ ?_|refine rC ?_ ?_<;>intro b<;>try(cases b;done))
 refine cP 1 a ?_ ?_
 ·trivial
 ·refine rM a (ZH l c) [(1,.nm 1)] [1] ?_ ?_ ?_
  ·first|exact eN|refine eM ?_
  ·first|exact eN|refine eM ?_
  ·rintro _ _ ⟨rfl,rfl⟩;refine⟨[(7,.nm 7)],.sr 7 BI 0 l.length,[(7,.arr 53 BI l)],rfl,rfl,?_,?_,rfl,rfl,?_⟩
   ·first|exact eN|refine eM ?_
   ·first|exact eN|refine eM ?_
   ·refine IR [2] a (by simp only[go_sem,Nat.reduceEqDiff,reduceCtorEq,Nat.reduceAdd,Nat.reduceSub,Nat.reduceMul,Nat.reduceLeDiff,Nat.reduceLT,Int.reduceLE,Int.reduceToNat,Int.reduceNeg,↓reduceIte];rfl) ?_ ?_
    ·trivial
    ·repeat'(first|exact trivial|refine eS rfl ?_|refine AB ?_|refine rX a ?_ ?_|refine rC ?_ ?_<;>intro b<;>try(cases b;done))
     exact fM a [.tmp 2] (.sr 7 BI 0 l.length) eT ⟨rfl,rfl⟩
theorem iD (l:List (Int×Int)) (h:l.length≤200) (hs:NdA l):BB Tryz.prog 148 [.sr 1000000 BI 0 l.length,.fn 116] [(1000000,.arr 53 BI l)] [1000000] (fun res f=>res=.raw (.tuple #[])∧f=[(1000000,.arr 53 BI (AZ l))]):=by
 have d:=A55 hs;refine KJ [0,1,4] [] [] Tryz.func148 Tryz.ntmps148 AG ?_;intro w0 K O0 ρ0 a i j;simp only[Ak];repeat'(first|exact trivial|refine eS rfl ?_|refine AB ?_|refine rX a ?_ ?_|refine rC ?_ ?_<;>intro b<;>try(cases b;done))
 refine cP 4 a ?_ ?_
 ·exact eV
 ·refine rM a (qE (l.length:Int) (by omega) (by omega)) [] [] ?_ ?_ ?_
  ·first|exact eN|refine eM ?_
  ·first|exact eN|refine eM ?_
  ·rintro _ _ ⟨⟨n,rfl,g,-⟩,rfl⟩;refine⟨[],.p T3 (n:Int),[],rfl,rfl,?_,?_,rfl,rfl,?_⟩
   ·first|exact eN|refine eM ?_
   ·first|exact eN|refine eM ?_
   ·have key:=A3D l (by omega) d 0 l.length n (Is _) (No _) (by omega) (.inl rfl);unfold iB at key;rw[show ((0:Nat):Int)=0 from rfl]at key;refine S1 a 1 (by simp only[go_sem,Nat.reduceEqDiff,reduceCtorEq,Nat.reduceAdd,Nat.reduceSub,Nat.reduceMul,Nat.reduceLeDiff,Nat.reduceLT,Int.reduceLE,Int.reduceToNat,Int.reduceNeg,↓reduceIte];rfl) ?_ ?_
    ·trivial
    ·refine rM a (key) [(1000000,.nm 1000000)] [] ?_ ?_ ?_
     ·first|exact eN|refine eM ?_
     ·first|exact eN|refine eM ?_
     ·rintro _ _ ⟨rfl,r,rfl,hp,e⟩;have c:=mY hs hp.perm e;subst c;have k:=Cj l;refine⟨[(1000000,.nm 1000000)],.raw (.tuple #[]),[(1000000,.arr 53 BI (AZ l))],rfl,rfl,?_,?_,rfl,rfl,CM ?_⟩
      ·first|exact eN|refine eM ?_
      ·first|exact eN|refine eM ?_
      ·repeat'(first|exact trivial|refine eS rfl ?_|refine AB ?_|refine rX a ?_ ?_|refine rC ?_ ?_<;>intro b<;>try(cases b;done))
       exact fM a [] (.raw (.tuple #[])) rfl ⟨rfl,rfl⟩
theorem Ns (l:List (Int×Int)) (c:l.length≤200) (hs:NdA l):BB Tryz.prog 114 [.clo 149 [1],.fn 116] [(1,.box 47 false [.p DS l])] [] (fun res d=>res=.sr 7 BI 0 l.length∧d=[(7,.arr 53 BI (AZ l))]):=by
 have g:=Cj l;refine KJ [0,1,4,5] [] [] Tryz.func114 Tryz.ntmps114 AG ?_;intro w0 K O0 ρ0 a e f;simp only[Ak];repeat'(first|exact trivial|refine eS rfl ?_|refine AB ?_|refine rX a ?_ ?_|refine rC ?_ ?_<;>intro b<;>try(cases b;done))
 refine cP 1 a ?_ ?_
 ·trivial
 ·refine rM a (m5 l (by omega)) [(1,.nm 1)] [1] ?_ ?_ ?_
  ·first|exact eN|refine eM ?_
  ·first|exact eN|refine eM ?_
  ·rintro _ _ ⟨rfl,rfl⟩;refine⟨[(1000000,.nm 7)],.sr 1000000 BI 0 l.length,[(1000000,.arr 53 BI l)],rfl,rfl,?_,?_,rfl,rfl,?_⟩
   ·first|exact eN|refine eM ?_
   ·first|exact eN|refine eM ?_
   ·refine IR [1,5] a (by simp only[go_sem,Nat.reduceEqDiff,reduceCtorEq,Nat.reduceAdd,Nat.reduceSub,Nat.reduceMul,Nat.reduceLeDiff,Nat.reduceLT,Int.reduceLE,Int.reduceToNat,Int.reduceNeg,↓reduceIte];rfl) ?_ ?_
    ·trivial
    ·repeat'(first|exact trivial|refine eS rfl ?_|refine AB ?_|refine rX a ?_ ?_|refine rC ?_ ?_<;>intro b<;>try(cases b;done))
     refine cP 2 a ?_ ?_
     ·trivial
     ·refine rM a (iD l c hs) [(1000000,.nm 1000000)] [] ?_ ?_ ?_
      ·first|exact eN|refine eM ?_
      ·first|exact eN|refine eM ?_
      ·rintro _ _ ⟨rfl,rfl⟩;refine⟨[(1000000,.nm 1000000)],.raw (.tuple #[]),[(1000000,.arr 53 BI (AZ l))],rfl,rfl,?_,?_,rfl,rfl,CM ?_⟩
       ·first|exact eN|refine eM ?_
       ·first|exact eN|refine eM ?_
       ·repeat'(first|exact trivial|refine eS rfl ?_|refine AB ?_|refine rX a ?_ ?_|refine rC ?_ ?_<;>intro b<;>try(cases b;done))
        refine Ev.ent (σ':=⟨[(4,.sr 7 BI 0 l.length)],[(7,.arr 53 BI (AZ l))]⟩) ?_ (AC [(7,.nm 1000000)] rfl rfl ?_ ?_)
        ·exact fM a [.tmp 4] (.sr 7 BI 0 l.length) eT ⟨rfl,rfl⟩
        ·first|exact eN|refine eM ?_
        ·first|exact eN|refine eM ?_
def Lk (f:List AE) (o:List Int):List (Nat×Obj):=[(1,.box 60 false [.sr 5 T3 0 o.length]),(2,.box 160 false [.mp 6]),(3,.box 25 true [.p F6 f]),(4,.box 124 false [.clo 113 [1,2,3,4]]),(5,.arr 3 T3 o),(6,.mapo T3 T3 (v9 o))]
theorem A82 {f:List AE} {o:List Int} (h:LO f o):LO (EI f) o:=⟨h.nd,fun x a=>by rw[GB];exact h.rng x a⟩
theorem A4o {f:List AE} {o:List Int} (h:LO (EI f) o):LO f o:=⟨h.nd,fun x a=>by have:=h.rng x a;rwa [GB]at this⟩
theorem uP (f:List AE) (hf:Ad f) (hs:NdF f):∀(k:Nat) (o:List Int) (n:Int),LO f o→0≤n→n<f.length→n∉o→f.length-o.length≤k →
  BB Tryz.prog 113 [.p T3 n,.bp 1 [] 0,.bp 2 [] 0,.bp 3 [] 0,.bp 4 [] 0] (Lk f o) [1,2,3,4,6] (fun res Q=>res=.raw (.tuple #[])∧Q=Lk f (Ea (EI f) k o n)):=by
 intro k;induction k with
 | zero =>
  intro o n h0 h1 A B R;have:=(h0.snoc h1 A B).len;simp only[IN,To]at this;omega
 | succ k P =>
  intro o n D u v w hk;have t:=D.snoc u v w;have I:=t.len;simp only[IN,To]at I;have S:=hf.1;refine KJ [0,1,2,3,4,7,9,25,26,27,28,39] [] [] Tryz.func113 Tryz.ntmps113 AG ?_;intro w0 K O0 ρ0 c T U;simp only[Lk,Ak];repeat'(first|exact trivial|refine eS rfl ?_|refine AB ?_|refine rX c ?_ ?_|refine rC ?_ ?_<;>intro b<;>try(cases b;done))
  ·simp only[AO];omega
  ·rw[A18 w];obtain⟨O,G⟩:=qG hs n;have s:=fun a (ha:a∈AZ (f.getD n.toNat (0,[])).2)=>Bt hf ((E2 _).mem_iff.1 ha);have F:Ea (EI f) (k+1) o n=(AZ (f.getD n.toNat (0,[])).2).foldl (Ac (EI f) k) (o++[n]):=by rw[Cv,QP]
   have E:=A82 (f:=f) t;refine cP 6 c ?_ ?_
   ·exact⟨u,v⟩
   ·generalize (f.getD n.toNat (0,[])).2=g at *;refine rM c (Xm g) [] [] ?_ ?_ ?_
    ·first|exact eN|refine eM ?_
    ·first|exact eN|refine eM ?_
    ·rintro _ _ ⟨rfl,rfl⟩;refine⟨[(50,.nm 1)],.clo 149 [50],[(50,.box 47 false [.p DS g])],rfl,rfl,?_,?_,rfl,rfl,?_⟩
     ·first|exact eN|refine eM ?_
     ·first|exact eN|refine eM ?_
     ·refine rM c (Ns g G O) [(1,.nm 50)] [50] ?_ ?_ ?_
      ·first|exact eN|refine eM ?_
      ·first|exact eN|refine eM ?_
      ·rintro _ _ ⟨rfl,rfl⟩;have C:=Cj g;rw[←C];generalize AZ g=L at *;refine⟨[(51,.nm 7)],.sr 51 BI 0 L.length,[(51,.arr 53 BI L)],rfl,rfl,?_,?_,rfl,rfl,?_⟩
       ·first|exact eN|refine eM ?_
       ·first|exact eN|refine eM ?_
       ·refine IR [0,1,2,3,4,25,26,27] c (by simp only[go_sem,Nat.reduceEqDiff,reduceCtorEq,Nat.reduceAdd,Nat.reduceSub,Nat.reduceMul,Nat.reduceLeDiff,Nat.reduceLT,Int.reduceLE,Int.reduceToNat,Int.reduceNeg,↓reduceIte];rfl) ?_ ?_
        ·trivial
        ·have N:∀i,LO (EI f) ((L.take i).foldl (Ac (EI f) k) (o++[n]))∧o++[n] <+: (L.take i).foldl (Ac (EI f) k) (o++[n]):=fun i=>Er (D5 (RW hf) k) _ _ (fun a ha=>by rw[GB];exact s a (AA9 ha)) E;generalize J:o++[n]=q at *;have M:q.length=o.length+1:=by rw[←J];simp
         rw[←M];repeat'(first|exact trivial|refine eS rfl ?_|refine AB ?_|refine rX c ?_ ?_|refine rC ?_ ?_<;>intro b<;>try(cases b;done))
         refine AJ (ι:={i:Nat//i≤L.length}) (fun i=>⟨[(0,.p T3 n),(1,.bp 1 [] 0),(2,.bp 2 [] 0),(3,.bp 3 [] 0),(4,.bp 4 [] 0),(25,.p DS L),(26,.p (.int .i64) (L.length:Int)),(27,.p (.int .i64) (i.1:Int))],Lk f ((L.take i.1).foldl (Ac (EI f) k) q)⟩) (fun i=>L.length-i.1) ⟨0,by omega⟩ (A69 [51] (AC [(1,.nm 1),(2,.nm 2),(3,.nm 3),(4,.nm 4),(5,.nm 5),(6,.nm 6)] rfl rfl ?_ ?_)) (fun i=>?_)
         ·simp only[Lk,AAO,List.foldl_nil];first|exact eN|refine eM ?_
         ·first|exact eN|refine eM ?_
         ·obtain⟨i,hi⟩:=i;obtain⟨j,y⟩:=N i;replace j:=A4o j;have r:=fun(h:i<L.length)=>NB (Ac (EI f) k) L (0,0) q h;have H:=y.length_le;generalize x:(L.take i).foldl (Ac (EI f) k) q=d at j y r H;simp only[Lk];repeat'(first|exact trivial|refine eS rfl ?_|refine AB ?_|refine rX c ?_ ?_|refine rC ?_ ?_<;>intro b<;>try(cases b;done))
          ·exact eV
          ·have l:i<L.length:=by exact eV
           have z:=s _ (AD L (0,0) l);have m:(L.getD i (0,0)).2∉d:=by rw[VH]at b;simpa using b
           refine cP 3 c ?_ ?_
           ·trivial
           ·refine rM c (P d (L.getD i (0,0)).2 j z.1 z.2 m (by omega)) [(1,.nm 1),(2,.nm 2),(3,.nm 3),(4,.nm 4),(5,.nm 5),(6,.nm 6)] [5] ?_ ?_ ?_
            ·first|exact eN|refine eM ?_
            ·simp only[Lk];first|exact eN|refine eM ?_
            ·rintro _ _ ⟨rfl,rfl⟩;refine⟨[(1,.nm 1),(2,.nm 2),(3,.nm 3),(4,.nm 4),(5,.nm 5),(6,.nm 6)],.raw (.tuple #[]),Lk f (Ea (EI f) k d (L.getD i (0,0)).2),rfl,rfl,?_,?_,rfl,rfl,CM ?_⟩
             ·simp only[Lk];first|exact eN|refine eM ?_
             ·first|exact eN|refine eM ?_
             ·simp only[Lk];repeat'(first|exact trivial|refine eS rfl ?_|refine AB ?_|refine rX c ?_ ?_|refine rC ?_ ?_<;>intro b<;>try(cases b;done))
              ·exact eV
              ·have e:Ac (EI f) k d (L.getD i (0,0))=Ea (EI f) k d (L.getD i (0,0)).2:=As m;refine⟨⟨i+1,by omega⟩,by simp only;omega,AC [(1,.nm 1),(2,.nm 2),(3,.nm 3),(4,.nm 4),(5,.nm 5),(6,.nm 6)] rfl rfl ?_ ?_⟩
               ·simp only[r l,e];first|exact eN|refine eM ?_
               ·first|exact eN|refine eM ?_
          ·exact eV
          ·have l:i<L.length:=by exact eV
           have m:(L.getD i (0,0)).2∈d:=by rw[VH]at b;simpa using b
           have e:Ac (EI f) k d (L.getD i (0,0))=d:=At m;refine⟨⟨i+1,by omega⟩,by simp only;omega,AC [(1,.nm 1),(2,.nm 2),(3,.nm 3),(4,.nm 4),(5,.nm 5),(6,.nm 6)] rfl rfl ?_ ?_⟩
           ·simp only[r l,e];first|exact eN|refine eM ?_
           ·first|exact eN|refine eM ?_
          ·have hk:L.take i=L:=BY (by exact eV);rw[hk]at x;rw[F,x];exact fM c [] (.raw (.tuple #[])) rfl ⟨rfl,rfl⟩
section
theorem uQ {α a:Type} (g:α→a) (o:List α) (d:α) (z:a) {i:Nat} (h:i<o.length):((o.take i).map g++List.replicate (o.length-i) z).set i (g (o.getD i d))=(o.take (i+1)).map g++List.replicate (o.length-(i+1)) z:=by
 obtain⟨m,c⟩:∃m,o.length-i=m+1:=⟨o.length-i-1,by omega⟩;have e:o.length-(i+1)=m:=by omega
 have b:((o.take i).map g).length=i:=by rw[f6,OS];omega
 rw[c,e,ABo _ _ (by omega),b,AB1,ACh,ABQ,Ax o d h,AAA];simp
def TE:Ae:={ ins:=[E0,T3],pre:=fun(f,n,_)=>Ad f∧NdF f∧0≤n∧n<(List.length f:Int),out:=fun(f,n,_)=>[.p E0 (AR (EI f) n)] }
attribute [local go_sem] TE
theorem uR:Ao Tryz.prog 77 TE:=by
 refine fK [0,1,2,4,5,6,7,8,9,10,11,12,22,23,24,25,38,39,40] Tryz.func77 Tryz.ntmps77 AG ?_;rintro w0 O0 ⟨f,root,u⟩ a-⟨hf,hs,r,s⟩;simp only[TE,AM];have z:=hf.1;have j:LO f []:=⟨by simp,fun x C=>by cases C⟩;obtain⟨g,H⟩:=D5 (RW hf) f.length [] root (A82 j) r (by rw[GB];exact s) (by simp);replace g:=A4o g;have w:AR (EI f) root=(Ea (EI f) f.length [] root).map (Es (EI f) (Ea (EI f) f.length [] root)):=by unfold AR;rw[GB]
 rw[w];repeat'(first|exact trivial|refine eS rfl ?_|refine AB ?_|refine rX a ?_ ?_|refine rC ?_ ?_<;>intro c<;>try(cases c;done))
 refine cP 2 a ?_ ?_
 ·trivial
 ·refine rM a (uP f hf hs (List.length f) [] root j r s (by simp) (by simp)) [(1,.nm 6),(2,.nm 5),(3,.nm 2),(4,.nm 7),(5,.nil),(6,.nm 13)] [] ?_ ?_ ?_
  ·first|exact eN|refine eM ?_
  ·simp only[Lk];first|exact eN|refine eM ?_
   rfl
  ·rintro _ _ ⟨rfl,rfl⟩;refine⟨[(6,.nm 1),(5,.nm 2),(2,.nm 3),(7,.nm 4),(101,.nm 5),(13,.nm 6)],.raw (.tuple #[]),[(6,.box 60 false [.sr 101 T3 0 (Ea (EI f) (List.length f) [] root).length]),(5,.box 160 false [.mp 13]),(2,.box 25 true [.p F6 f]),(7,.box 124 false [.clo 113 [6,5,2,7]]),(101,.arr 3 T3 (Ea (EI f) (List.length f) [] root)),(13,.mapo T3 T3 (v9 (Ea (EI f) (List.length f) [] root)))],rfl,rfl,?_,?_,rfl,rfl,CM ?_⟩
   ·simp only[Lk];first|exact eN|refine eM ?_
   ·first|exact eN|refine eM ?_
   ·generalize Ea (EI f) (List.length f) [] root=o at *;have G:=g.len;repeat'(first|exact trivial|refine eS rfl ?_|refine AB ?_|refine rX a ?_ ?_|refine rC ?_ ?_<;>intro c<;>try(cases c;done))
    ·simp only[AO];omega
    ·refine AJ (ι:={i:Nat//i≤o.length}) (fun i=>⟨[(2,.bp 2 [] 0),(4,.bp 4 [] 0),(5,.bp 5 [] 0),(8,.bp 8 [] 0),(22,.sr 101 T3 0 o.length),(23,.p (.int .i64) (o.length:Int)),(24,.p (.int .i64) (i.1:Int))],[(8,.box 25 true [.sr 20 Ox 0 o.length]),(20,.arr 49 Ox ((o.take i.1).map (Es (EI f) o)++List.replicate (o.length-i.1) (0,[]))),(5,.box 160 false [.mp 13]),(2,.box 25 true [.p F6 f]),(101,.arr 3 T3 o),(13,.mapo T3 T3 (v9 o)),(4,.box 25 true [.raw (.slice none 0 0)])]⟩) (fun i=>o.length-i.1) ⟨0,by omega⟩ (AC [(8,.nm 8),(20,.nm 20),(5,.nm 5),(2,.nm 2),(101,.nm 101),(13,.nm 13),(4,.nm 4)] rfl rfl ?_ ?_) (fun i=>?_)
     ·first|exact eN|refine eM ?_
     ·first|exact eN|refine eM ?_
     ·obtain⟨i,hi⟩:=i;repeat'(first|exact trivial|refine eS rfl ?_|refine AB ?_|refine rX a ?_ ?_|refine rC ?_ ?_<;>intro c<;>try(cases c;done))
      ·exact eV
      ·have l:i<o.length:=by exact eV
       have hn:=g.rng _ (AD o 0 l);have q:Es (EI f) o (o.getD i 0)=((f.getD (o.getD i 0).toNat (0,[])).1,(AZ (f.getD (o.getD i 0).toNat (0,[])).2).map (Oh o)):=by unfold Es;rw[QP]
       obtain⟨t,m⟩:=qG hs (o.getD i 0);refine cP 6 a ?_ ?_
       ·exact hn
       ·have F:List.length f≤100000:=z;generalize B:o.getD i 0=n at *;generalize A:f.getD n.toNat (0,[])=x at *;obtain⟨I,d⟩:=x;simp only at t m q;refine rM a (Xm d) [] [] ?_ ?_ ?_
        ·first|exact eN|refine eM ?_
        ·first|exact eN|refine eM ?_
        ·rintro _ _ ⟨rfl,rfl⟩;refine⟨[(50,.nm 1)],.clo 149 [50],[(50,.box 47 false [.p DS d])],rfl,rfl,?_,?_,rfl,rfl,?_⟩
         ·first|exact eN|refine eM ?_
         ·first|exact eN|refine eM ?_
         ·refine rM a (Ns d m t) [(1,.nm 50)] [50] ?_ ?_ ?_
          ·first|exact eN|refine eM ?_
          ·first|exact eN|refine eM ?_
          ·rintro _ _ ⟨rfl,rfl⟩;have v:=Cj d;rw[←v];generalize E:AZ d=L at *;refine⟨[(51,.nm 7)],.sr 51 BI 0 L.length,[(51,.arr 53 BI L)],rfl,rfl,?_,?_,rfl,rfl,?_⟩
           ·first|exact eN|refine eM ?_
           ·first|exact eN|refine eM ?_
           ·refine IR [2,4,5,8,9,10,11,22,23,24] a (by simp only[go_sem,Nat.reduceEqDiff,reduceCtorEq,Nat.reduceAdd,Nat.reduceSub,Nat.reduceMul,Nat.reduceLeDiff,Nat.reduceLT,Int.reduceLE,Int.reduceToNat,Int.reduceNeg,↓reduceIte];rfl) ?_ ?_
            ·trivial
            ·repeat'(first|exact trivial|refine eS rfl ?_|refine AB ?_|refine rX a ?_ ?_|refine rC ?_ ?_<;>intro c<;>try(cases c;done))
             refine AJ (ι:={k:Nat//k≤L.length}) (fun k=>⟨[(2,.bp 2 [] 0),(4,.bp 4 [] 0),(5,.bp 5 [] 0),(8,.bp 8 [] 0),(9,.p (.int .i64) (i:Int)),(10,.p T3 n),(11,.sr 51 BI 0 L.length),(22,.sr 101 T3 0 o.length),(23,.p (.int .i64) (o.length:Int)),(24,.p (.int .i64) (i:Int)),(38,.p (.int .i64) (L.length:Int)),(39,.p (.int .i64) (k.1:Int))],[(51,.arr 53 BI ((L.take k.1).map (Oh o)++L.drop k.1)),(8,.box 25 true [.sr 20 Ox 0 o.length]),(20,.arr 49 Ox ((o.take i).map (Es (EI f) o)++List.replicate (o.length-i) (0,[]))),(5,.box 160 false [.mp 13]),(2,.box 25 true [.p F6 f]),(101,.arr 3 T3 o),(13,.mapo T3 T3 (v9 o)),(4,.box 25 true [.raw (.slice none 0 0)])]⟩) (fun k=>L.length-k.1) ⟨0,by omega⟩ (AC [(51,.nm 51),(8,.nm 8),(20,.nm 20),(5,.nm 5),(2,.nm 2),(101,.nm 101),(13,.nm 13),(4,.nm 4)] rfl rfl ?_ ?_) (fun k=>?_)
             ·first|exact eN|refine eM ?_
             ·first|exact eN|refine eM ?_
             ·obtain⟨k,hk⟩:=k;repeat'(first|exact trivial|refine eS rfl ?_|refine AB ?_|refine rX a ?_ ?_|refine rC ?_ ?_<;>intro c<;>try(cases c;done))
              ·exact eV
              ·exact eV
              ·have h:k<L.length:=by exact eV
               have e:=Us (Oh o) (fun b=>b) L (0,0) h (Oh o);refine⟨⟨k+1,by omega⟩,by simp only;omega,AC [(51,.nm 51),(8,.nm 8),(20,.nm 20),(5,.nm 5),(2,.nm 2),(101,.nm 101),(13,.nm 13),(4,.nm 4)] rfl rfl ?_ ?_⟩
               ·first|exact eN|refine eM ?_
                rw[e.2];rw[←e.1];unfold Oh;rw[←A3t]
               ·first|exact eN|refine eM ?_
              ·exact⟨hn,by exact eV⟩
              ·exact eV
              ·have h:L.take k=L:=BY (by exact eV);have y:L.drop k=[]:=IF (by exact eV);refine⟨⟨i+1,by omega⟩,by simp only;omega,AC [(8,.nm 8),(20,.nm 20),(5,.nm 5),(2,.nm 2),(101,.nm 101),(13,.nm 13),(4,.nm 4)] rfl rfl ?_ ?_⟩
               ·first|exact eN|refine eM ?_
                rw[h,y,AAa];have e:=uQ (Es (EI f) o) o 0 (0,[]) l;rw[B,q]at e;rw[←e,A,BY (by simp:(L.map (Oh o)).length≤L.length)]
               ·first|exact eN|refine eM ?_
      ·have hk:o.take i=o:=BY (by exact eV);have D:o.length-i=0:=by exact eV
       rw[hk,D];exact fI a [.cell 4 25] (by simp only[List.replicate_zero,AAa];first|exact eR|refine Ym ?_;exact BY (by rw[f6];exact eV))
end
section
attribute [local go_sem] HC gN
theorem iE {a b:Int}:Fv a b=0↔a=b:=by
 unfold Fv;split
 ·constructor<;>intro h<;>omega
 ·split
  ·constructor<;>intro h<;>omega
  ·exact⟨fun _=>by omega,fun _=>rfl⟩
def WU:List Int→Int
 | []=>0
 | x :: l=>if x=0 then WU l else x
theorem iG {l:List Int} {k:Nat} (h:k<l.length):WU (l.drop k)=if l.getD k 0=0 then WU (l.drop (k+1)) else l.getD k 0:=by
 rw[aS h];have e:l.getD k 0=l[k]:=by simp[AS,h]
 rw[e];rfl
def m6:Ae:={ ins:=[Kh],pre:=fun _=>True,out:=fun(l,_)=>[.p T3 (WU l)],lend:=true }
attribute [local go_sem] m6
theorem iH:Ao Tryz.prog 158 m6:=by
 refine fK [0,2,3,5,6,7,8,9,14] Tryz.func158 Tryz.ntmps158 AG ?_;rintro w0 O0 ⟨l,u⟩ c ⟨⟨f,-⟩,-⟩ -;simp only[AO]at f;simp only[m6,AM];repeat'(first|exact trivial|refine eS rfl ?_|refine AB ?_|refine rX c ?_ ?_|refine rC ?_ ?_<;>intro b<;>try(cases b;done))
 refine AJ (ι:={k:Nat//k≤List.length l∧WU l=WU ((l:List Int).drop k)}) (fun k=>⟨[(3,.p T3 0),(6,.p Kh l),(7,.p (.int .i64) (List.length l:Int)),(8,.p (.int .i64) (k.1:Int))],[]⟩) (fun k=>List.length l-k.1) ⟨0,Is _,rfl⟩ (AC [] rfl rfl ?_ ?_) (fun k=>?_)
 ·first|exact eN|refine eM ?_
 ·first|exact eN|refine eM ?_
 ·obtain⟨k,hk,a⟩:=k;repeat'(first|exact trivial|refine eS rfl ?_|refine AB ?_|refine rX c ?_ ?_|refine rC ?_ ?_<;>intro b<;>try(cases b;done))
  ·exact b
  ·have d:k<List.length l:=by exact eV
   rw[iG d,As b]at a;exact fI c [.tmp 2] (by rw[a];exact eR)
  ·exact eV
  ·have d:k<List.length l:=by exact eV
   rw[iG d,At (by simpa using b)]at a;refine⟨⟨k+1,d,a⟩,by simp only;omega,AC [] rfl rfl ?_ ?_⟩
   ·first|exact eN|refine eM ?_
   ·first|exact eN|refine eM ?_
  ·have e:List.drop k (l:List Int)=[]:=IF (by exact eV);rw[e]at a;have a:WU l=0:=a;exact fI c [.tmp 2] (by rw[a];exact eR)
def HR {α:Type} (c:α→α→Int):List α→List α→Int
 | [],[]=>0
 | [],_ :: _=>-1
 | _ :: _,[]=>1
 | x :: p,y :: q=>if c x y=0 then HR c p q else c x y
theorem KS {α:Type} {c:α→α→Int} (d:∀a b,c a b=0↔a=b):∀ {p q:List α},HR c p q=0↔p=q
 | [],[]=>⟨fun _=>rfl,fun _=>rfl⟩
 | [],_ :: _=>⟨fun h=>by simp[HR]at h,fun h=>by cases h⟩
 | _ :: _,[]=>⟨fun h=>by simp[HR]at h,fun h=>by cases h⟩
 | x :: p,y :: q=>by
  unfold HR;split
  ·rename_i h;rw[KS d,(d x y).1 h];exact⟨fun e=>by rw[e],fun e=>(List.cons.inj e).2⟩
  ·rename_i h;exact⟨fun e=>absurd e h,fun e=>absurd ((d x y).2 (List.cons.inj e).1) h⟩
theorem Ll {α:Type} (d:α) {l:List α} {k:Nat} (h:k<l.length):l.drop k=l.getD k d :: l.drop (k+1):=by
 rw[aS h];have e:l.getD k d=l[k]:=by simp[AS,h]
 rw[e]
theorem ND {α:Type} {c:α→α→Int} (d:α) {p q:List α} {k:Nat} (h1:k<p.length) (a:k<q.length):HR c (p.drop k) (q.drop k)=if c (p.getD k d) (q.getD k d)=0 then HR c (p.drop (k+1)) (q.drop (k+1)) else c (p.getD k d) (q.getD k d):=by
 rw[Ll d h1,Ll d a];rfl
def FX (a b:Int×Int):Int:=WU [Fv a.1 b.1,Fv a.2 b.2]
theorem SU (a b:Int×Int):FX a b=0↔a=b:=by
 unfold FX WU WU WU;constructor
 ·intro h;by_cases h1:Fv a.1 b.1=0
  ·rw[At h1]at h;by_cases c:Fv a.2 b.2=0
   ·exact Prod.ext (iE.1 h1) (iE.1 c)
   ·rw[As c]at h;exact absurd h c
  ·rw[As h1]at h;exact absurd h h1
 ·rintro rfl;rw[At (iE.2 rfl),At (iE.2 rfl)]
def ZI:Ae:={ ins:=[BI,BI],pre:=fun _=>True,out:=fun(a,b,_)=>[.p T3 (FX a b)] }
attribute [local go_sem] ZI
theorem uS:Ao Tryz.prog 160 ZI:=by
 refine fKP [0,1,2,3,4] [15] [] Tryz.func160 Tryz.ntmps160 (AF Gq (AF iH AG)) ?_;rintro w0 O0 ⟨a,b,u⟩ c - -;simp only[ZI,AM];repeat'(first|exact trivial|refine eS rfl ?_|refine AB ?_|refine rX c ?_ ?_|refine rC ?_ ?_<;>intro d<;>try(cases d;done))
 exact fI c [.tmp 4] (by unfold FX;exact eR)
theorem uT (p q:List (Int×Int)) (hp:p.length≤100000):BB Tryz.prog 159 [.p DS p,.p DS q,.fn 160] [] [] (fun res i=>res=.p T3 (HR FX p q)∧i=[]):=by
 refine KJ [0,1,2,6,7,8,9,10,11,12,13,14,21,31,38] [] [] Tryz.func159 Tryz.ntmps159 (AF uS AG) ?_;intro w0 K O0 ρ0 c m n;simp only[Ak];repeat'(first|exact trivial|refine eS rfl ?_|refine AB ?_|refine rX c ?_ ?_|refine rC ?_ ?_<;>intro a<;>try(cases a;done))
 refine AJ (ι:={k:Nat//k≤p.length∧k≤q.length∧HR FX p q=HR FX (p.drop k) (q.drop k)}) (fun k=>⟨[(0,.p DS p),(1,.p DS q),(2,.fn 160),(11,.p DS p),(12,.p (.int .i64) (p.length:Int)),(13,.p (.int .i64) (k.1:Int))],[]⟩) (fun k=>p.length-k.1) ⟨0,Is _,Is _,rfl⟩ (AC [] rfl rfl ?_ ?_) (fun k=>?_)
 ·first|exact eN|refine eM ?_
 ·first|exact eN|refine eM ?_
 ·obtain⟨k,j,l,b⟩:=k;simp only;repeat'(first|exact trivial|refine eS rfl ?_|refine AB ?_|refine rX c ?_ ?_|refine rC ?_ ?_<;>intro a<;>try(cases a;done))
  ·exact a
  ·have d:k<p.length:=by exact eV
   have g:q.drop k=[]:=IF (by exact eV);have h1:HR FX p q=1:=by
    rw[b,g,Ll (0,0) d];rfl
   refine Ev.ent (σ':=⟨[(6,.p T3 1)],[]⟩) (fM c [.tmp 6] (.p T3 1) eT ⟨by rw[h1],rfl⟩) (AC [] rfl rfl ?_ ?_)
   ·first|exact eN|refine eM ?_
   ·first|exact eN|refine eM ?_
  ·exact a
  ·have d:k<p.length:=by exact eV
   have e:k<q.length:=by exact eV
   rw[ND (0,0) d e,As a]at b;refine Ev.ent (σ':=⟨[(6,.p T3 (FX (p.getD k (0,0)) (q.getD k (0,0))))],[]⟩) (fM c [.tmp 6] (.p T3 (FX (p.getD k (0,0)) (q.getD k (0,0)))) eT ⟨by rw[b],rfl⟩) (AC [] rfl rfl ?_ ?_)
   ·first|exact eN|refine eM ?_
   ·first|exact eN|refine eM ?_
  ·exact eV
  ·have d:k<p.length:=by exact eV
   have e:k<q.length:=by exact eV
   rw[ND (0,0) d e,At (by simpa using a)]at b;refine⟨⟨k+1,d,e,b⟩,by simp only;omega,AC [] rfl rfl ?_ ?_⟩
   ·first|exact eN|refine eM ?_
   ·first|exact eN|refine eM ?_
  ·have f:p.drop k=[]:=IF (by exact eV);have h1:HR FX p q=-1:=by
    rw[b,f,Ll (0,0) (show k<q.length by exact eV)];rfl
   exact fM c [.tmp 6] (.p T3 (-1)) eT ⟨by rw[h1],rfl⟩
  ·have f:p.drop k=[]:=IF (by exact eV);have h:q.drop k=[]:=IF (by exact eV);have h1:HR FX p q=0:=by
    rw[b,f,h];rfl
   exact fM c [.tmp 6] (.p T3 0) eT ⟨by rw[h1],rfl⟩
def Dk (a b:AE):Int:=if WU [Fv a.1 b.1,Fv (a.2.length:Int) (b.2.length:Int)]=0 then HR FX a.2 b.2 else WU [Fv a.1 b.1,Fv (a.2.length:Int) (b.2.length:Int)]
theorem QQ (a b:AE):Dk a b=0↔a=b:=by
 unfold Dk;constructor
 ·intro h;split at h
  ·rename_i h1;unfold WU WU WU at h1;by_cases c:Fv a.1 b.1=0
   ·exact Prod.ext (iE.1 c) ((KS SU).1 h)
   ·rw[As c]at h1;exact absurd h1 c
  ·rename_i h1;exact absurd h h1
 ·rintro rfl;have h1:WU [Fv a.1 a.1,Fv (a.2.length:Int) (a.2.length:Int)]=0:=by
   unfold WU WU WU;rw[At (iE.2 rfl),At (iE.2 rfl)]
  rw[At h1];exact(KS SU).2 rfl
def QR:Ae:={ ins:=[Ox,Ox],pre:=fun(a,_,_)=>List.length (Prod.snd (a:AE))≤100000,out:=fun(a,b,_)=>[.p T3 (Dk a b)] }
attribute [local go_sem] QR
theorem m7:Ao Tryz.prog 140 QR:=by
 refine fKP [0,1,2,3,4,5,21] [18] [] Tryz.func140 Tryz.ntmps140 (AF Gq (AF iH AG)) ?_;rintro w0 O0 ⟨⟨ta,la⟩,⟨tb,b⟩,u⟩ a-ha;have ha:List.length la≤100000:=ha;simp only[QR,AM];repeat'(first|exact trivial|refine eS rfl ?_|refine AB ?_|refine rX a ?_ ?_|refine rC ?_ ?_<;>intro c<;>try(cases c;done))
 ·have h1:Dk (ta,la) (tb,b)=WU [Fv ta tb,Fv (List.length la:Int) (List.length b:Int)]:=As c;exact fI a [.tmp 4] (by rw[h1];exact eR)
 ·have h1:Dk (ta,la) (tb,b)=HR FX la b:=At (by simpa using c);refine cP 4 a ?_ ?_
  ·trivial
  ·refine rM a (uT la b ha) [] [] ?_ ?_ ?_
   ·first|exact eN|refine eM ?_
   ·first|exact eN|refine eM ?_
   ·rintro _ _ ⟨rfl,rfl⟩;refine⟨[],.p T3 (HR FX la b),[],rfl,rfl,?_,?_,rfl,rfl,?_⟩
    ·first|exact eN|refine eM ?_
    ·first|exact eN|refine eM ?_
    ·refine rL a ?_ ?_
     ·trivial
     ·repeat'(first|exact trivial|refine eS rfl ?_|refine AB ?_|refine rX a ?_ ?_|refine rC ?_ ?_<;>intro c<;>try(cases c;done))
      exact fI a [.tmp 4] (by rw[h1];exact eR)
end
section
attribute [local go_sem] HC gN QR TE
theorem m8 (p q:List (AE)) (hp:p.length≤100000) (g:∀x∈p,x.2.length≤100000):BB Tryz.prog 139 [.p F6 p,.p F6 q,.fn 140] [] [] (fun res j=>res=.p T3 (HR Dk p q)∧j=[]):=by
 refine KJ [0,1,2,6,7,8,9,10,11,12,13,14,21,31,38] [] [] Tryz.func139 Tryz.ntmps139 (AF m7 AG) ?_;intro w0 K O0 ρ0 c n o;simp only[Ak];repeat'(first|exact trivial|refine eS rfl ?_|refine AB ?_|refine rX c ?_ ?_|refine rC ?_ ?_<;>intro a<;>try(cases a;done))
 refine AJ (ι:={k:Nat//k≤p.length∧k≤q.length∧HR Dk p q=HR Dk (p.drop k) (q.drop k)}) (fun k=>⟨[(0,.p F6 p),(1,.p F6 q),(2,.fn 140),(11,.p F6 p),(12,.p (.int .i64) (p.length:Int)),(13,.p (.int .i64) (k.1:Int))],[]⟩) (fun k=>p.length-k.1) ⟨0,Is _,Is _,rfl⟩ (AC [] rfl rfl ?_ ?_) (fun k=>?_)
 ·first|exact eN|refine eM ?_
 ·first|exact eN|refine eM ?_
 ·obtain⟨k,l,m,b⟩:=k;simp only;repeat'(first|exact trivial|refine eS rfl ?_|refine AB ?_|refine rX c ?_ ?_|refine rC ?_ ?_<;>intro a<;>try(cases a;done))
  ·exact a
  ·have d:k<p.length:=by exact eV
   have h:q.drop k=[]:=IF (by exact eV);have h1:HR Dk p q=1:=by
    rw[b,h,Ll (0,[]) d];rfl
   refine Ev.ent (σ':=⟨[(6,.p T3 1)],[]⟩) (fM c [.tmp 6] (.p T3 1) eT ⟨by rw[h1],rfl⟩) (AC [] rfl rfl ?_ ?_)
   ·first|exact eN|refine eM ?_
   ·first|exact eN|refine eM ?_
  ·exact a
  ·exact g _ (AD p (0,[]) (by exact eV))
  ·have d:k<p.length:=by exact eV
   have e:k<q.length:=by exact eV
   rw[ND (0,[]) d e,As a]at b;refine Ev.ent (σ':=⟨[(6,.p T3 (Dk (p.getD k (0,[])) (q.getD k (0,[]))))],[]⟩) (fM c [.tmp 6] (.p T3 (Dk (p.getD k (0,[])) (q.getD k (0,[])))) eT ⟨by rw[b],rfl⟩) (AC [] rfl rfl ?_ ?_)
   ·first|exact eN|refine eM ?_
   ·first|exact eN|refine eM ?_
  ·exact eV
  ·have d:k<p.length:=by exact eV
   have e:k<q.length:=by exact eV
   rw[ND (0,[]) d e,At (by simpa using a)]at b;refine⟨⟨k+1,d,e,b⟩,by simp only;omega,AC [] rfl rfl ?_ ?_⟩
   ·first|exact eN|refine eM ?_
   ·first|exact eN|refine eM ?_
  ·have f:p.drop k=[]:=IF (by exact eV);have h1:HR Dk p q=-1:=by
    rw[b,f,Ll (0,[]) (show k<q.length by exact eV)];rfl
   exact fM c [.tmp 6] (.p T3 (-1)) eT ⟨by rw[h1],rfl⟩
  ·have f:p.drop k=[]:=IF (by exact eV);have i:q.drop k=[]:=IF (by exact eV);have h1:HR Dk p q=0:=by
    rw[b,f,i];rfl
   exact fM c [.tmp 6] (.p T3 0) eT ⟨by rw[h1],rfl⟩
def SV (a b:List AE):Int:=if Fv (a.length:Int) (b.length:Int)=0 then HR Dk a b else Fv (a.length:Int) (b.length:Int)
theorem m9 (a b:List AE):SV a b=0↔a=b:=by
 unfold SV;constructor
 ·intro h;split at h
  ·exact(KS QQ).1 h
  ·rename_i h1;exact absurd h h1
 ·rintro rfl;rw[At (iE.2 rfl)];exact(KS QQ).2 rfl
def nA:Ae:={ ins:=[E0,E0],pre:=fun(a,_,_)=>B2 a,out:=fun(a,b,_)=>[.p T3 (SV a b)] }
attribute [local go_sem] nA
theorem A1h:Ao Tryz.prog 106 nA:=by
 refine fK [0,1,2,3,4,5,14] Tryz.func106 Tryz.ntmps106 (AF Gq AG) ?_;rintro w0 O0 ⟨a,b,u⟩ c-⟨e,f⟩;simp only[nA,AM];repeat'(first|exact trivial|refine eS rfl ?_|refine AB ?_|refine rX c ?_ ?_|refine rC ?_ ?_<;>intro d<;>try(cases d;done))
 ·have h1:SV a b=Fv (List.length a:Int) (List.length b:Int):=As d;exact fI c [.tmp 4] (by rw[h1];exact eR)
 ·have h1:SV a b=HR Dk a b:=At (by simpa using d);refine cP 4 c ?_ ?_
  ·trivial
  ·refine rM c (m8 a b e f) [] [] ?_ ?_ ?_
   ·first|exact eN|refine eM ?_
   ·first|exact eN|refine eM ?_
   ·rintro _ _ ⟨rfl,rfl⟩;refine⟨[],.p T3 (HR Dk a b),[],rfl,rfl,?_,?_,rfl,rfl,?_⟩
    ·first|exact eN|refine eM ?_
    ·first|exact eN|refine eM ?_
    ·refine rL c ?_ ?_
     ·trivial
     ·repeat'(first|exact trivial|refine eS rfl ?_|refine AB ?_|refine rX c ?_ ?_|refine rC ?_ ?_<;>intro d<;>try(cases d;done))
      exact fI c [.tmp 4] (by rw[h1];exact eR)
def TF:Ae:={ ins:=[E0,E0],pre:=fun(a,_,_)=>B2 a,out:=fun(a,b,_)=>[.p .bool (SV a b==0)] }
attribute [local go_sem] TF
theorem uU:Ao Tryz.prog 68 TF:=by
 refine fK [0,1,2,3,4] Tryz.func68 Tryz.ntmps68 (AF A1h AG) ?_;rintro w0 O0 ⟨a,b,u⟩ c-ha;simp only[TF,AM];repeat'(first|exact trivial|refine eS rfl ?_|refine AB ?_|refine rX c ?_ ?_|refine rC ?_ ?_<;>intro d<;>try(cases d;done))
 ·exact ha
 ·exact fI c [.tmp 4]
def iI (l:List (Int×Int)):List (Int×Bool):=l.foldl (fun m a=>H3 T3 .bool a.1 true m) []
theorem VK {b:Ty} (x k:Int) (v:b.den) (m:List (Int×b.den)):A6 T3 b x (H3 T3 b k v m)=if x=k then some v else A6 T3 b x m:=by
 induction m with
 | nil=>simp[H3,A6,Ja]
 | cons y m g =>
  simp only[H3];by_cases c:Ja T3 k y.1=true
  ·rw[At c];have d:k=y.1:=by simpa[Ja] using c
   simp only[A6,Ja,tO];by_cases a:x=k
   ·rw[At a,At a]
   ·rw[As a,As a,As (by rw[←d];exact a)]
  ·rw[As c];have d:¬k=y.1:=by simpa[Ja] using c
   simp only[A6];by_cases a:Ja T3 x y.1=true
   ·have f:x=y.1:=by simpa[Ja] using a
    rw[At a,At a,As (by rw[f];exact fun e=>d e.symm)]
   ·rw[As a,As a,g]
theorem uV (x:Int) (l:List (Int×Int)):(A6 T3 .bool x (iI l)).getD false=l.any fun y=>y.1==x:=by
 induction l using Gr with
 | h0=>rfl
 | h1 l a c =>
  have e:iI (l++[a])=H3 T3 .bool a.1 true (iI l):=by unfold iI;rw[ABx];rfl
  rw[e,VK,ABU,←c];by_cases h:x=a.1
  ·rw[At h,h];simp
  ·rw[As h];have b:¬a.1=x:=fun e=>h e.symm;simp[b]
def GC (x:AE) (n:Int):Int:=if x.1<0 then 2 else GN x.2 n
def VL:Ae:={ ins:=[Ox,T3],pre:=fun _=>True,out:=fun(x,n,_)=>[.p WA (GC x n)] }
attribute [local go_sem] VL
theorem nB:Ao Tryz.prog 76 VL:=by
 refine fK [0,1,2,4,5,7,10,13,14,15,16,32,36] Tryz.func76 Tryz.ntmps76 AG ?_;rintro w0 O0 ⟨⟨t,l⟩,n,u⟩ d ⟨⟨-,⟨o,-⟩⟩,-⟩ -;simp only[AO]at o;simp only[VL,AM];repeat'(first|exact trivial|refine eS rfl ?_|refine AB ?_|refine rX d ?_ ?_|refine rC ?_ ?_<;>intro b<;>try(cases b;done))
 ·have h1:GC (t,l) n=2:=At b;exact fI d [.tmp 4] (by rw[h1];exact eR)
 ·have h0:GC (t,l) n=F8 n [] l:=As (AAS.2 b);rw[h0];refine AJ (ι:={k:Nat//k≤List.length l∧F8 n [] l=F8 n ((l:List (Int×Int)).take k) ((l:List (Int×Int)).drop k)}) (fun k=>⟨[(1,.p T3 n),(5,.mp 11),(13,.p DS l),(14,.p (.int .i64) (List.length l:Int)),(15,.p (.int .i64) (k.1:Int))],[(11,.mapo T3 .bool (iI ((l:List (Int×Int)).take k.1)))]⟩) (fun k=>List.length l-k.1) ⟨0,Is _,rfl⟩ (AC [(11,.nm 11)] rfl rfl ?_ ?_) (fun k=>?_)
  ·first|exact eN|refine eM ?_
   rfl
  ·first|exact eN|refine eM ?_
  ·obtain⟨k,hk,f⟩:=k;have g:=fun h:k<l.length=>Od n l h;have q:=fun h:k<l.length=>NB (fun(m:List (Int×Bool)) (a:Int×Int)=>H3 T3 .bool a.1 true m) l (0,0) [] h;have i:=fun x=>uV x (List.take k (l:List (Int×Int)));simp only;repeat'(first|exact trivial|refine eS rfl ?_|refine AB ?_|refine rX d ?_ ?_|refine rC ?_ ?_<;>intro b<;>try(cases b;done))
   ·exact b
   ·have c:k<List.length l:=by exact eV
    have e:F8 n [] l=2:=by rw[f,g c,At (by omega)]
    exact fI d [.tmp 4] (by rw[e];exact eR)
   ·have c:k<List.length l:=by exact eV
    rw[i]at b;have e:F8 n [] l=4:=by rw[f,g c,As (by omega),At b]
    exact fI d [.tmp 4] (by rw[e];exact eR)
   ·exact eV
   ·have c:k<List.length l:=by exact eV
    rw[i]at b;refine⟨⟨k+1,c,by rw[f,g c,As (by omega),As (by rw[b];simp)]⟩,by simp only;omega,AC [(11,.nm 11)] rfl rfl ?_ ?_⟩
    ·first|exact eN|refine eM ?_
     exact(q c).symm
    ·first|exact eN|refine eM ?_
   ·have j:List.drop k (l:List (Int×Int))=[]:=IF (by exact eV);have e:F8 n [] l=0:=by rw[f,j];rfl
    exact fI d [.tmp 4] (by rw[e];exact eR)
theorem iJ {n:Int}:∀ {l seen:List (Int×Int)},F8 n seen l=0→(∀a∈l,∀b∈seen,b.1≠a.1)∧NdA l
 | [],_,_=>⟨fun a ha=>(by cases ha),List.Pairwise.nil⟩
 | x :: l,seen,h=>by
  simp only[F8]at h;split at h
  ·cases h
  ·split at h
   ·cases h
   ·rename_i h1 g;obtain⟨c,f⟩:=iJ h;refine⟨fun a ha b d=>?_,AAk.2 ⟨fun a ha e=>c a ha x (by simp) e,f⟩⟩;rcases By.1 ha with rfl|ha
    ·intro e;exact g (TO.2 ⟨b,d,by simp[e]⟩)
    ·exact c a ha b (by simp[d])
theorem iK {m:Int}:∀ {f:List AE},F9 m f=0→∀x∈f,NdA x.2
 | [],_,x,b=>by cases b
 | y :: f,h,x,b=>by
  simp only[F9]at h;split at h
  ·cases h
  ·split at h
   ·rename_i h1 a;exact absurd h a
   ·rename_i h1 a;have a:GN y.2 m=0:=Do a;rcases By.1 b with rfl|b
    ·exact(iJ a).2
    ·exact iK h x b
def KT (f:List AE):Prop:=∀x∈f,x.2.length≤200
theorem iL {f:List AE} (h:B3 f=0) (hs:KT f):NdF f:=by
 unfold B3 at h;split at h
 ·cases h
 ·split at h
  ·cases h
  ·exact fun x a=>⟨iK h x a,hs x a⟩
def QT:Ae:={ ins:=[E0],pre:=fun(f,_)=>KT f,out:=fun(f,_)=>[.p E0 (A2 f).1,.p WA (A2 f).2] }
attribute [local go_sem] QT
theorem Xn:Ao Tryz.prog 51 QT:=by
 refine fK [0,1,2,3,5,6,10,15,18,19,20,21,30] Tryz.func51 Tryz.ntmps51 (AF nB (AF uR AG)) ?_;rintro w0 O0 ⟨f,u⟩ c ⟨⟨n,-⟩,-⟩ hs;simp only[AO]at n;have hs:KT f:=hs;have l:Uu f:=fun x o=>aT (hs x o) (by omega);simp only[QT,AM];repeat'(first|exact trivial|refine eS rfl ?_|refine AB ?_|refine rX c ?_ ?_|refine rC ?_ ?_<;>intro a<;>try(cases a;done))
 ·have h1:B3 f=1:=by
   have h:f.length=0:=by exact eV
   unfold B3;rw[At h]
  have e:A2 f=([],1):=by unfold A2;rw[h1];rfl
  exact fI c [.cell 2 25,.tmp 3] (by rw[e];exact eR)
 ·have h1:B3 f=7:=by
   have h:¬f.length=0:=by exact eV
   have i:4096<f.length:=by exact eV
   unfold B3;rw[As h,At i]
  have e:A2 f=([],7):=by unfold A2;rw[h1];rfl
  exact fI c [.cell 2 25,.tmp 3] (by rw[e];exact eR)
 ·have h1:B3 f=F9 f.length f:=by
   have h:¬f.length=0:=by exact eV
   have i:¬4096<f.length:=by exact eV
   unfold B3;rw[As h,As i]
  have j:0<f.length:=by exact eV
  refine AJ (ι:={k:Nat//k≤f.length∧F9 f.length (f.drop k)=B3 f}) (fun k=>⟨[(1,.bp 1 [] 0),(2,.bp 2 [] 0),(18,.p F6 f),(19,.p (.int .i64) (f.length:Int)),(20,.p (.int .i64) (k.1:Int))],[(1,.box 25 true [.p F6 f]),(2,.box 25 true [.raw (.slice none 0 0)])]⟩) (fun k=>f.length-k.1) ⟨0,by simp[h1]⟩ (AC [(1,.nm 1),(2,.nm 2)] rfl rfl ?_ ?_) (fun k=>?_)
  ·first|exact eN|refine eM ?_
  ·first|exact eN|refine eM ?_
  ·obtain⟨k,hk,hf⟩:=k;simp only;repeat'(first|exact trivial|refine eS rfl ?_|refine AB ?_|refine rX c ?_ ?_|refine rC ?_ ?_<;>intro a<;>try(cases a;done))
   ·exact a
   ·have g:k<f.length:=by exact eV
    have a:¬GC (f.getD k (0,[])) f.length=0:=a;have m:B3 f=GC (f.getD k (0,[])) f.length:=by
     rw[←hf,Il _ _ g];unfold GC at a ⊢;by_cases b:(f.getD k (0,[])).1<0
     ·rw[At b,At b]
     ·rw[As b]at a;rw[As b,As b,At a]
    have e:A2 f=([],GC (f.getD k (0,[])) f.length):=by unfold A2;rw[m,As a]
    exact fI c [.cell 2 25,.tmp 3] (by rw[e];exact eR)
   ·exact eV
   ·have g:k<f.length:=by exact eV
    have a:GC (f.getD k (0,[])) f.length=0:=by simpa using a
    refine⟨⟨k+1,g,?_⟩,by simp only;omega,AC [(1,.nm 1),(2,.nm 2)] rfl rfl ?_ ?_⟩
    ·rw[←hf,Il _ _ g];unfold GC at a;by_cases b:(f.getD k (0,[])).1<0
     ·rw[At b]at a;cases a
     ·rw[As b]at a;rw[As b,As (by rw[a];simp)]
    ·first|exact eN|refine eM ?_
    ·first|exact eN|refine eM ?_
   ·have d:B3 f=0:=by rw[←hf,IF (by exact eV)];rfl
    exact⟨(Ip d l).1,iL d hs,If.2 j⟩
   ·have d:B3 f=0:=by rw[←hf,IF (by exact eV)];rfl
    have e:A2 f=(AR (EI f) 0,0):=by unfold A2;rw[At d,iC (Ip d l).1 (iL d hs) (ACi 0) (If.2 j)]
    exact fI c [.cell 2 25,.tmp 3] (by rw[e];exact eR)
end
def Lm (h:AI) (f:Int):Int:=(h.2.getD f.toNat (ByteArray.empty,0)).2
def Mb (h:AI) (n:Int):List (Int×Int)→EH→Option EH
 | [],s=>some s
 | a :: l,s=>(DH h s n (Lm h a.1)).bind (Mb h n l)
def NW (h:AI) (n:Int):List (Int×Int)→EH→Option EH
 | [],s=>some s
 | a :: l,s=>if (CH h (s.1.getD n.toNat 0) a.1).2=true then (DH h s a.2 (CH h (s.1.getD n.toNat 0) a.1).1).bind (NW h n l) else none
def KU (h:AI) (f:List AE) (n:Int) (s:EH):Option EH:=(Mb h n (f.getD n.toNat (0,[])).2 s).bind (NW h n (f.getD n.toNat (0,[])).2)
def qH (h:AI) (f:List AE):Nat→Nat→EH→Option (List Int)
 | 0,_,_=>none
 | k+1,i,s=>if i<s.2.length then (KU h f (s.2.getD i 0) s).bind (qH h f k (i+1)) else some s.1
def BD (f:List AE):List Int:=f.map fun x=>x.1
def Eb (f:List AE):List Int:=(List.range f.length).map fun i:Nat=>(i:Int)
def Ec (f:List AE) (ty:List Int):List AE:=(List.range f.length).map fun i=>(ty.getD i 0,(f.getD i (0,[])).2)
structure ZJ (h:AI):Prop where
 int:∀x∈h.2,0≤x.2∧x.2<(h.1.length:Int)
 val:∀t∈h.1,∀p∈t.2.2.2,0≤p.2∧p.2<(h.1.length:Int)
structure NE (h:AI) (m:Nat) (s:EH):Prop where
 len:s.1.length=m
 ty:∀t∈s.1,0≤t∧t<(h.1.length:Int)
 wt:∀n∈s.2,0≤n∧n<(m:Int)
theorem NE.get {h:AI} {m:Nat} {s:EH} (hs:NE h m s) {n:Int} (n0:0≤n) (n1:n<(m:Int)):0≤s.1.getD n.toNat 0∧s.1.getD n.toNat 0<(h.1.length:Int):=by
 have a:n.toNat<s.1.length:=by rw[hs.len];omega
 rw[AS,An a];exact hs.ty _ (AAh a)
def uW (h:AI) (t:Int):Nat:=((List.range h.1.length).filter fun i:Nat=>BG h t (i:Int)).length
def Xo (h:AI) (ty:List Int):Nat:=(ty.map (uW h)).sum
theorem Xp {α:Type} {p q:α→Bool}:∀ {l:List α},(∀x∈l,q x=true→p x=true)→(∃b∈l,p b=true∧q b=false)→(l.filter q).length<(l.filter p).length
 | [],_,⟨b,c,_⟩=>by cases c
 | x :: l,h1,⟨b,c,f,g⟩=>by
  have i:∀ {l:List α},(∀x∈l,q x=true→p x=true)→(l.filter q).length≤(l.filter p).length:=by
   intro l h;induction l with
   | nil=>exact No _
   | cons y l j =>
    have e:=j fun z d=>h z (ON _ d);rw[AAr,AAr];by_cases a:q y=true
    ·rw[At a,At (h y (by simp) a)];simp only[Of];omega
    ·rw[As a];split
     ·simp only[Of];omega
     ·exact e
  rw[AAr,AAr];rcases By.1 c with rfl|c
  ·rw[As (by rw[g];simp),At f];have:=i fun z d=>h1 z (ON _ d);simp only[Of];omega
  ·have e:=Xp (fun z d=>h1 z (ON _ d)) ⟨b,c,f,g⟩;by_cases a:q x=true
   ·rw[At a,At (h1 x (by simp) a)];simp only[Of];omega
   ·rw[As a];split
    ·simp only[Of];omega
    ·exact e
theorem TG {h:AI} (hk:Jw h) {a:Int} (a0:0≤a) (b:a<(h.1.length:Int)):BG h a a=true:=(B5 hk a0 b a0 b).2 fun _ h=>h
theorem Ht {h:AI} (hk:Jw h) {a b c:Int} (a0:0≤a) (d:a<(h.1.length:Int)) (e:0≤b) (b1:b<(h.1.length:Int)) (c0:0≤c) (c1:c<(h.1.length:Int)) (h1:BG h a b=true) (f:BG h b c=true):BG h a c=true :=
 (B5 hk a0 d c0 c1).2 fun i hi=>(B5 hk a0 d e b1).1 h1 i ((B5 hk e b1 c0 c1).1 f i hi)
theorem A3F {h:AI} (hk:Jw h) (hi:I2 h) {a m:Int} (a0:0≤a) (b:a<(h.1.length:Int)) (d:0≤m) (f:m<(h.1.length:Int)) (hs:BG h a m=true) (g:m≠a):uW h m<uW h a:=by
 refine Xp (fun x c e=>?_) ⟨a.toNat,nO.2 (by omega),?_,?_⟩
 ·have c:=nO.1 c;exact Ht hk a0 b d f (AA3 _) (by omega) hs e
 ·rw[AAG a0];exact TG hk a0 b
 ·rw[AAG a0];cases e:BG h m a with
  | false=>rfl
  | true=>exact absurd (hi m a d f a0 b e hs) g
theorem qI {α:Type} (g:α→Nat) (d:α):∀ {l:List α} {i:Nat} {v:α},i<l.length→((l.set i v).map g).sum+g (l.getD i d)=(l.map g).sum+g v
 | [],i,v,h=>by simp at h
 | x :: l,0,v,h=>by simp only[ABQ,AA1,List.sum_cons,List.getD_cons_zero];omega
 | x :: l,i+1,v,h=>by
  have:=qI g d (l:=l) (i:=i) (v:=v) (by simpa using h);simp only[ABR,AA1,List.sum_cons,List.getD_cons_succ];omega
theorem E4 {h:AI} (hk:Jw h) (hi:I2 h) {m:Nat} {s b:EH} (hs:NE h m s) {n t:Int} (n0:0≤n) (n1:n<(m:Int)) (o:0≤t) (p:t<(h.1.length:Int)) (e:DH h s n t=some b) :
  NE h m b∧Xo h b.1+b.2.length≤Xo h s.1+s.2.length∧s.2.length≤b.2.length:=by
 obtain⟨c,d⟩:=hs.get n0 n1;unfold DH at e;split at e
 ·rename_i j;obtain⟨f,g,l,r⟩:=(MW hk c d o p).1 j;generalize (B4 h (s.1.getD n.toNat 0) t).1=v at *;injection e with e
  split at e
  ·subst e;exact⟨hs,No _,No _⟩
  ·rename_i k;subst e;have q:=A3F hk hi c d f g l k;have i:n.toNat<s.1.length:=by rw[hs.len];omega
   have hp:=qI (uW h) 0 (v:=v) i;refine⟨⟨by simp only[AA5];exact hs.len,fun x a=>?_,fun x a=>?_⟩,?_,by simp⟩
   ·rcases AB6 a with a|rfl
    ·exact hs.ty x a
    ·exact⟨f,g⟩
   ·rcases OF.1 a with a|a
    ·exact hs.wt x a
    ·rw[AAz.1 a];exact⟨n0,n1⟩
   ·unfold Xo;simp only[IN,To];omega
 ·cases e
def KV (h:AI) (m:Nat) (a:Int×Int):Prop:=(0≤a.1∧a.1<(h.2.length:Int))∧0≤a.2∧a.2<(m:Int)
theorem Mc {h:AI} (hf:ZJ h) {f:Int} (b:0≤f) (c:f<(h.2.length:Int)):0≤Lm h f∧Lm h f<(h.1.length:Int):=by
 have a:f.toNat<h.2.length:=by omega
 unfold Lm;rw[AS,An a];exact hf.int _ (AAh a)
theorem Xq {f:Int}:∀ {l:List (Int×Int)},(E8 f l).2=true→(f,(E8 f l).1)∈l
 | [],h=>by cases h
 | x :: l,h=>by
  unfold E8 at h ⊢;split
  ·rename_i e;rw[←e];simp
  ·rename_i e;rw[As e]at h;exact ON _ (Xq h)
theorem Xr {h:AI} {t:Int} (a:0≤t) (b:t<(h.1.length:Int)):h.1.getD t.toNat WT∈h.1:=AD h.1 WT (by omega)
theorem Iu {h:AI} (hf:ZJ h) {t f:Int} (a:0≤t) (b:t<(h.1.length:Int)) (e:(CH h t f).2=true):0≤(CH h t f).1∧(CH h t f).1<(h.1.length:Int) :=
 hf.val _ (Xr a b) _ (Xq e)
theorem QU {h:AI} (hk:Jw h) (hi:I2 h) (hf:ZJ h) {m:Nat} {n:Int} (n0:0≤n) (n1:n<(m:Int)):∀ {l:List (Int×Int)} {s c:EH},(∀a∈l,KV h m a)→NE h m s→Mb h n l s=some c →
  NE h m c∧Xo h c.1+c.2.length≤Xo h s.1+s.2.length∧s.2.length≤c.2.length
 | [],s,c,_,hs,e=>by
  injection e with e
  subst e;exact⟨hs,No _,No _⟩
 | a :: l,s,c,f,hs,e=>by
  unfold Mb at e;cases d:DH h s n (Lm h a.1) with
  | none=>rw[d]at e;cases e
  | some s1 =>
   rw[d]at e;obtain⟨⟨a0,g⟩,-⟩:=f a (by simp);obtain⟨k,o⟩:=Mc hf a0 g;obtain⟨i,q,r⟩:=E4 hk hi hs n0 n1 k o d;obtain⟨p,t,u⟩:=QU hk hi hf n0 n1 (fun b j=>f b (by simp[j])) i e;exact⟨p,by omega,by omega⟩
theorem TH {h:AI} (hk:Jw h) (hi:I2 h) (hf:ZJ h) {m:Nat} {n:Int} (n0:0≤n) (n1:n<(m:Int)):∀ {l:List (Int×Int)} {s c:EH},(∀a∈l,KV h m a)→NE h m s→NW h n l s=some c →
  NE h m c∧Xo h c.1+c.2.length≤Xo h s.1+s.2.length∧s.2.length≤c.2.length
 | [],s,c,_,hs,e=>by
  injection e with e
  subst e;exact⟨hs,No _,No _⟩
 | a :: l,s,c,g,hs,e=>by
  unfold NW at e;split at e
  ·rename_i o;obtain⟨j,f⟩:=hs.get n0 n1;obtain⟨p,q⟩:=Iu hf j f o;cases d:DH h s a.2 (CH h (s.1.getD n.toNat 0) a.1).1 with
   | none=>rw[d]at e;cases e
   | some s1 =>
    rw[d]at e;obtain⟨-,i,b1⟩:=g a (by simp);obtain⟨f,t,u⟩:=E4 hk hi hs i b1 p q d;obtain⟨r,v,w⟩:=TH hk hi hf n0 n1 (fun b k=>g b (by simp[k])) f e;exact⟨r,by omega,by omega⟩
  ·cases e
def Md (h:AI) (f:List AE):Prop:=∀x∈f,∀a∈x.2,KV h f.length a
theorem Me {h:AI} {f:List AE} (ha:Md h f) {n:Int} (n0:0≤n) (n1:n<(f.length:Int)):∀a∈(f.getD n.toNat (0,[])).2,KV h f.length a:=ha _ (AD f (0,[]) (by omega))
theorem QV {h:AI} (hk:Jw h) (hi:I2 h) (hf:ZJ h) {f:List AE} (ha:Md h f) {n:Int} (n0:0≤n) (n1:n<(f.length:Int)) {s a:EH} (hs:NE h f.length s) (e:KU h f n s=some a) :
  NE h f.length a∧Xo h a.1+a.2.length≤Xo h s.1+s.2.length∧s.2.length≤a.2.length:=by
 unfold KU at e;cases b:Mb h n (f.getD n.toNat (0,[])).2 s with
 | none=>rw[b]at e;cases e
 | some s1 =>
  rw[b]at e;obtain⟨c,g,i⟩:=QU hk hi hf n0 n1 (Me ha n0 n1) hs b;obtain⟨d,j,k⟩:=TH hk hi hf n0 n1 (Me ha n0 n1) c e;exact⟨d,by omega,by omega⟩
theorem A3G (h:AI) (t:Int):uW h t≤h.1.length:=by
 unfold uW;exact aT (AAC _ _) (by simp)
theorem A1i (h:AI):∀ty:List Int,Xo h ty≤ty.length*h.1.length
 | []=>by simp[Xo]
 | t :: ty=>by
  have h1:=A1i h ty;have a:=A3G h t;unfold Xo at h1 ⊢;simp only[AA1,List.sum_cons,Of,ABA,Nat.one_mul];omega
def Nt (h:AI) (f:List AE):Nat:=f.length*h.1.length+f.length+1
def D6 (h:AI) (f:List AE):Option (List Int):=qH h f (Nt h f) 0 (BD f,Eb f)
def Al (h:AI) (f:List AE):List AE×Bool:=match D6 h f with
 | some ty=>(Ec f ty,true)
 | none=>([],false)
theorem qJ {h:AI} {f:List AE} (a:∀x∈f,0≤x.1∧x.1<(h.1.length:Int)):NE h f.length (BD f,Eb f):=by
 refine⟨by simp[BD],fun t h1=>?_,fun n hn=>?_⟩
 ·obtain⟨x,b,rfl⟩:=IS.1 h1;exact a x b
 ·obtain⟨i,hi,rfl⟩:=IS.1 hn;have:=nO.1 hi;omega
theorem A1j (h:AI) (f:List AE):Xo h (BD f)+(Eb f).length+1≤Nt h f:=by
 have:=A1i h (BD f);unfold Nt;rw[show (BD f).length=f.length by simp[BD]]at this;rw[show (Eb f).length=f.length by simp[Eb]];omega
def A1k (a:Int→Int×Int→Bool) (f:List AE) (i:Nat):AE:=((f.getD i (0,[])).1,(f.getD i (0,[])).2.filter (a (i:Int)))
def GQ (a:Int→Int×Int→Bool) (f:List AE) (i:Nat):List AE:=(List.range i).map (A1k a f)
def VM (a:Int→Int×Int→Bool) (f:List AE):List AE:=AR (GQ a f f.length) 0
theorem KW (a:Int→Int×Int→Bool) (f:List AE) (i:Nat):(GQ a f i).length=i:=by simp[GQ]
theorem Mf (l:List (Int×Int)):mS l↔l.Pairwise (fun a b=>a.1<b.1):=by
 constructor
 ·intro h;rw[oF];have key:∀d i,i+d+1<l.length→(l.getD i (0,0)).1<(l.getD (i+d+1) (0,0)).1:=by
   intro d;induction d with
   | zero=>intro i hi;exact h i hi
   | succ d e =>
    intro i hi;have h1:=e i (by omega);have f:=h (i+d+1) (by omega);have:i+(d+1)+1=i+d+1+1:=by omega
    rw[this];omega
  intro i j hi c g;have h1:=key (j-i-1) i (by omega);rw[show i+(j-i-1)+1=j by omega]at h1;simpa[AS,hi,c] using h1
 ·intro h i hi;rw[oF]at h;have:=h i (i+1) (by omega) hi (by omega);simpa[AS,hi,show i<l.length by omega] using this
theorem iM {l:List (Int×Int)} (h:mS l) (p:Int×Int→Bool):mS (l.filter p):=by
 rw[Mf]at h ⊢;exact h.sublist List.filter_sublist
theorem Xs {f:List AE} (hf:Ad f) (hs:QO f) (d:Int→Int×Int→Bool):Ad (GQ d f f.length)∧QO (GQ d f f.length):=by
 have e:∀i,i<f.length→f.getD i (0,[])∈f:=fun i hi=>AD f (0,[]) hi;refine⟨⟨by rw[KW];exact hf.1,fun x c=>?_⟩,fun x c=>?_⟩
 ·obtain⟨i,hi,rfl⟩:=IS.1 c;have hi:i<f.length:=nO.1 hi;obtain⟨h1,b⟩:=hf.2 _ (e i hi);rw[KW];exact⟨aT (AAC _ _) h1,fun a ha=>b a (AAj.1 ha).1⟩
 ·obtain⟨i,hi,rfl⟩:=IS.1 c;have hi:i<f.length:=nO.1 hi;obtain⟨h1,b⟩:=hs _ (e i hi);exact⟨iM h1 _,aT (AAC _ _) b⟩
theorem KX {x y:Int} {xs ys:List Int} (h:LM (x :: xs) (y :: ys)=0):x=y∧LM xs ys=0:=by
 simp only[LM]at h;split at h
 ·cases h
 ·split at h
  ·cases h
  ·exact⟨by omega,h⟩
theorem VN:∀ {l m:List (Int×Int)} {r s:List Int},l.length=m.length→LM (l.flatMap (fun a=>[a.1,a.2])++r) (m.flatMap (fun a=>[a.1,a.2])++s)=0→l=m∧LM r s=0
 | [],[],_,_,_,h=>⟨rfl,by simpa using h⟩
 | [],_ :: _,_,_,b,_=>by simp at b
 | _ :: _,[],_,_,b,_=>by simp at b
 | (c,d) :: l,(b1,b2) :: m,r,s,b,h=>by
  have h:LM (c :: d :: (l.flatMap (fun a=>[a.1,a.2])++r)) (b1 :: b2 :: (m.flatMap (fun a=>[a.1,a.2])++s))=0:=by simpa using h
  obtain⟨e,i⟩:=KX h;obtain⟨f,j⟩:=KX i;obtain⟨g,k⟩:=VN (l:=l) (m:=m) (by simpa using b) j;exact⟨by rw[e,f,g],k⟩
theorem VO:∀ {l m:List AE} {r s:List Int},l.length=m.length→LM (l.flatMap Ul++r) (m.flatMap Ul++s)=0→l=m∧LM r s=0
 | [],[],_,_,_,h=>⟨rfl,by simpa using h⟩
 | [],_ :: _,_,_,b,_=>by simp at b
 | _ :: _,[],_,_,b,_=>by simp at b
 | (d,c) :: l,(b1,b2) :: m,r,s,b,h=>by
  have h:LM (d :: (c.length:Int) :: (c.flatMap (fun a=>[a.1,a.2])++(l.flatMap Ul++r))) (b1 :: (b2.length:Int) :: (b2.flatMap (fun a=>[a.1,a.2])++(m.flatMap Ul++s)))=0:=by simpa[Ul] using h
  obtain⟨e,i⟩:=KX h;obtain⟨o,j⟩:=KX i;obtain⟨f,k⟩:=VN (l:=c) (m:=b2) (by omega) j;obtain⟨g,n⟩:=VO (l:=l) (m:=m) (by simpa using b) k;exact⟨by rw[e,f,g],n⟩
theorem JS {a b:List AE} (h:Ct a b=0):a=b:=by
 unfold Ct Br at h;obtain⟨h1,c⟩:=KX h;have:=VO (l:=a) (m:=b) (r:=[]) (s:=[]) (by omega) (by simpa using c);exact this.1
theorem Xt:∀l:List Int,LM l l=0
 | []=>rfl
 | x :: l=>by simp[LM,Xt l]
theorem Ck (a:List AE):Ct a a=0:=Xt _
theorem VP (x:Int×Int) (s:List (Int×Int)):∀n,(∀j,Im x s n≤j→j<n→x.1<(s.getD j (0,0)).1)∧(0<Im x s n→(s.getD (Im x s n-1) (0,0)).1≤x.1)
 | 0=>⟨fun j h1 b=>by omega,fun h=>by simp[Im]at h⟩
 | n+1=>by
  obtain⟨h1,b⟩:=VP x s n;unfold Im;split
  ·rename_i c;refine⟨fun j a d=>?_,b⟩;by_cases e:j=n
   ·subst e;exact c
   ·exact h1 j a (by omega)
  ·rename_i c;exact⟨fun j a d=>by omega,fun _=>by simp only[Nat.add_sub_cancel];omega⟩
theorem A56 {l:List (Int×Int)} (h:l.Pairwise (fun a b=>a.1≤b.1)) {i j:Nat} (d:i≤j) (c:j<l.length):(l.getD i (0,0)).1≤(l.getD j (0,0)).1:=by
 rcases Nat.eq_or_lt_of_le d with rfl|e
 ·exact ACi _
 ·rw[oF]at h;have:=h i j (by omega) c e;simpa[AS,c,show i<l.length by omega] using this
theorem iO {s:List (Int×Int)} (h:s.Pairwise (fun a b=>a.1≤b.1)) (x:Int×Int):(Oe s x).Pairwise (fun a b=>a.1≤b.1):=by
 obtain⟨h1,g⟩:=VP x s s.length;have hp:=TA x s s.length;unfold Oe;generalize Im x s s.length=p at *;rw[ABe,ABe];have f:∀a∈s.take p,a.1≤x.1:=fun a ha=>by
  obtain⟨i,hi,rfl⟩:=AAg.1 ha;rw[OS]at hi;have k:=A56 h (i:=i) (j:=p-1) (by omega) (by omega);have l:=g (by omega);have e:(s.take p)[i].1=(s.getD i (0,0)).1:=by simp[AS,show i<s.length by omega]
  rw[e];omega
 have d:∀b∈s.drop p,x.1≤b.1:=fun b c=>by
  obtain⟨i,hi,rfl⟩:=AAg.1 c;rw[AA7]at hi;have k:=h1 (p+i) (by omega) (by omega);have e:(s.drop p)[i].1=(s.getD (p+i) (0,0)).1:=by simp[AS,show p+i<s.length by omega]
  rw[e];omega
 refine⟨⟨h.sublist (List.take_sublist _ _),by simp,fun a ha b c=>?_⟩,h.sublist (List.drop_sublist _ _),fun a ha b c=>?_⟩
 ·have:b=x:=by simpa using c
  rw[this];exact f a ha
 ·rcases OF.1 ha with ha|ha
  ·exact AB8 (f a ha) (d b c)
  ·have:a=x:=by simpa using ha
   rw[this];exact d b c
theorem Sm (l:List (Int×Int)):(AZ l).Pairwise (fun a b=>a.1≤b.1):=by
 induction l using Gr with
 | h0=>exact List.Pairwise.nil
 | h1 l a c=>rw[Hs];exact iO c a
theorem SW {n:Int}:∀ {l seen:List (Int×Int)},F8 n seen l=0→(l.map (·.1)).Nodup∧∀a∈l,∀b∈seen,b.1≠a.1
 | [],_,_=>⟨by simp,fun a ha=>by cases ha⟩
 | x :: l,seen,h=>by
  simp only[F8]at h;split at h
  ·cases h
  ·split at h
   ·cases h
   ·rename_i h1 d;obtain⟨g,f⟩:=SW h;have d:∀b∈seen,b.1≠x.1:=fun b c e=>d (TO.2 ⟨b,c,by simp[e]⟩);refine⟨?_,fun a ha b c=>?_⟩
    ·rw[AA1,AAd];refine⟨fun i=>?_,g⟩;obtain⟨a,ha,e⟩:=IS.1 i;exact f a ha x (by simp) e.symm
    ·rcases By.1 ha with rfl|ha
     ·exact d b c
     ·exact f a ha b (by simp[c])
theorem VQ {m:Int}:∀ {f:List AE},F9 m f=0→∀x∈f,GN x.2 m=0
 | [],_,x,a=>by cases a
 | y :: f,h,x,a=>by
  simp only[F9]at h;split at h
  ·cases h
  ·split at h
   ·rename_i h1 b;exact absurd h b
   ·rename_i h1 b;rcases By.1 a with rfl|a
    ·exact Do b
    ·exact VQ h x a
theorem uX {l:List (Int×Int)} (h:l.Pairwise (fun a b=>a.1≤b.1)) (hn:(l.map (·.1)).Nodup):l.Pairwise (fun a b=>a.1<b.1):=by
 rw[List.Nodup,AAQ]at hn;refine(h.and hn).imp fun {a b} c=>?_;have h1:=c.1;have d:¬a.1=b.1:=c.2;omega
theorem Mg {f:List AE} (h:Dy f=true):Ad f∧QO f∧0<f.length∧HQ f=true:=by
 unfold Dy at h;simp only[AT,tO]at h;obtain⟨⟨e,_⟩,c,d⟩:=h;obtain⟨t,g⟩:=MU e;have r:Uu f:=fun x b=>aT (g x b) (by omega);have a:B3 f=0:=by
  unfold A2 at c;split at c
  ·assumption
  ·exact c
 obtain⟨o,h0⟩:=Ip a r;have k:(A2 f).1=JQ f 0:=by unfold A2;rw[At a]
 rw[k]at d;have l:=JS d;refine⟨o,fun x b=>⟨?_,aT (g x b) (by omega)⟩,h0,e⟩;rw[←l]at b;obtain⟨n,_,rfl⟩:=IS.1 b;rw[Mf];have j:((f.getD n.toNat (0,[])).2.map (·.1)).Nodup:=by
  by_cases p:n.toNat<f.length
  ·have q:f.getD n.toNat (0,[])∈f:=AD f (0,[]) p;have m:F9 f.length f=0:=by
    unfold B3 at a;split at a
    ·cases a
    ·split at a
     ·cases a
     ·exact a
   exact(SW (VQ m _ q)).1
  ·rw[AS,iN (by omega)];simp
 have s:=uX (Sm (f.getD n.toNat (0,[])).2) (((E2 _).map (·.1)).nodup_iff.2 j);unfold MT;simp only;rw[AAQ];exact s.imp fun i=>i
section
attribute [local go_sem] QT TF SS Xf
theorem A57 (a b:List AE):(Ct a b==0)=(SV a b==0):=by
 rw[ABi,tO,tO,m9];exact⟨JS,fun e=>by rw[e];exact Ck b⟩
def TJ:Ae:={ ins:=[Ga,E0],pre:=fun(_,f,_)=>B2 f∧KT f,out:=fun(h,f,_)=>[.p WA (CN h f)] }
attribute [local go_sem] TJ
theorem uY:Ao Tryz.prog 38 TJ:=by
 refine fK [0,1,2,3,4,5,6,8,10,17,20,21,22,23,31,33,34,35,36,44,50] Tryz.func38 Tryz.ntmps38 (AF Xn (AF uU AG)) ?_;rintro w0 O0 ⟨⟨b,hf⟩,f,u⟩ d-⟨hs,n⟩;have hs:B2 f:=hs;have n:KT f:=n;simp only[TJ,AM];repeat'(first|exact trivial|refine eS rfl ?_|refine AB ?_|refine rX d ?_ ?_|refine rC ?_ ?_<;>intro a<;>try(cases a;done))
 ·exact n
 ·have h1:CN (b,hf) f=(A2 f).2:=by unfold CN;rw[At a]
  exact fI d [.tmp 4] (by rw[h1];exact eR)
 ·have t:(A2 f).2=0:=by simpa using a
  have x:=SP hs.2;have w:=hs.1;have g:CN (b,hf) f=if f.all (SQ (b,hf))=false then 2 else if (SV f (A2 f).1==0)=false then 3 else 0:=by unfold CN;rw[As (by rw[t];simp),A57 f (A2 f).1]
  refine AJ (ι:={i:Nat//i≤f.length∧(f.take i).all (SQ (b,hf))=true}) (fun i=>⟨[(2,.bp 2 [] 0),(3,.bp 3 [] 0),(5,.bp 5 [] 0),(20,.p F6 f),(21,.p (.int .i64) (f.length:Int)),(22,.p (.int .i64) (i.1:Int))],[(2,.box 31 true [.p S5 b,.p WB hf]),(3,.box 25 true [.p F6 f]),(5,.box 25 true [.p F6 (A2 f).1])]⟩) (fun i=>f.length-i.1) ⟨0,by simp⟩ (AC [(2,.nm 2),(3,.nm 3),(5,.nm 5)] rfl rfl ?_ ?_) (fun i=>?_)
  ·first|exact eN|refine eM ?_
  ·first|exact eN|refine eM ?_
  ·obtain⟨i,hi,l⟩:=i;have r:=fun h:i<f.length=>Gc f (0,[]) (SQ (b,hf)) h;simp only;repeat'(first|exact trivial|refine eS rfl ?_|refine AB ?_|refine rX d ?_ ?_|refine rC ?_ ?_<;>intro a<;>try(cases a;done))
   ·exact a
   ·have c:i<f.length:=If.1 (by assumption);have e:f.all (SQ (b,hf))=false:=by
     rw[AAR];refine⟨_,AD f (0,[]) c,?_⟩;unfold SQ;rw[ABO (AAS.2 a)];simp
    rw[At e]at g;exact fI d [.tmp 4] (by rw[g];exact eR)
   ·have c:i<f.length:=If.1 (by assumption);have o:=AD f (0,[]) c;have q:SQ (b,hf) (f.getD i (0,[]))=(f.getD i (0,[])).2.all (mG (b,hf)):=by
     unfold SQ;rw[ABr (show (f.getD i (0,[])).1<(b.length:Int) from a)];rfl
    have v:(f.getD i (0,[])).2.length≤100000:=hs.2 _ o;refine AJ (ι:={k:Nat//k≤(f.getD i (0,[])).2.length∧((f.getD i (0,[])).2.take k).all (mG (b,hf))=true}) (fun k=>⟨[(2,.bp 2 [] 0),(3,.bp 3 [] 0),(5,.bp 5 [] 0),(20,.p F6 f),(21,.p (.int .i64) (f.length:Int)),(22,.p (.int .i64) (i:Int)),(33,.p DS (f.getD i (0,[])).2),(34,.p (.int .i64) ((f.getD i (0,[])).2.length:Int)),(35,.p (.int .i64) (k.1:Int))],[(2,.box 31 true [.p S5 b,.p WB hf]),(3,.box 25 true [.p F6 f]),(5,.box 25 true [.p F6 (A2 f).1])]⟩) (fun k=>(f.getD i (0,[])).2.length-k.1) ⟨0,by simp⟩ (AC [(2,.nm 2),(3,.nm 3),(5,.nm 5)] rfl rfl ?_ ?_) (fun k=>?_)
    ·first|exact eN|refine eM ?_
    ·first|exact eN|refine eM ?_
    ·obtain⟨k,hk,m⟩:=k;have s:=fun h:k<(f.getD i (0,[])).2.length=>Gc (f.getD i (0,[])).2 (0,0) (mG (b,hf)) h;simp only;repeat'(first|exact trivial|refine eS rfl ?_|refine AB ?_|refine rX d ?_ ?_|refine rC ?_ ?_<;>intro a<;>try(cases a;done))
     ·exact a
     ·have j:k<(f.getD i (0,[])).2.length:=If.1 (by assumption);have e:f.all (SQ (b,hf))=false:=by
       rw[AAR];refine⟨_,o,?_⟩;rw[q,AAR.2 ⟨_,AD (f.getD i (0,[])).2 (0,0) j,by unfold mG;rw[ABO (AAS.2 a)];simp⟩];simp
      rw[At e]at g;exact fI d [.tmp 4] (by rw[g];exact eR)
     ·exact eV
     ·have j:k<(f.getD i (0,[])).2.length:=If.1 (by assumption);refine⟨⟨k+1,j,?_⟩,by simp only;omega,AC [(2,.nm 2),(3,.nm 3),(5,.nm 5)] rfl rfl ?_ ?_⟩
      ·rw[s j,m];unfold mG;exact ABr a
      ·first|exact eN|refine eM ?_
      ·first|exact eN|refine eM ?_
     ·exact eV
     ·have j:(f.getD i (0,[])).2.take k=(f.getD i (0,[])).2:=BY (gO.1 a);rw[j]at m;refine⟨⟨i+1,c,?_⟩,by simp only;omega,AC [(2,.nm 2),(3,.nm 3),(5,.nm 5)] rfl rfl ?_ ?_⟩
      ·rw[r c,l,q,m];rfl
      ·first|exact eN|refine eM ?_
      ·first|exact eN|refine eM ?_
   ·exact hs
   ·have c:f.take i=f:=BY (gO.1 (by assumption));rw[c]at l;rw[As (by rw[l];simp),At (by simpa using a)]at g;exact fI d [.tmp 4] (by rw[g];exact eR)
   ·have c:f.take i=f:=BY (gO.1 (by assumption));rw[c]at l;rw[As (by rw[l];simp),As (by rw[a];simp)]at g;exact fI d [.tmp 4] (by rw[g];exact eR)
end
section
attribute [local go_sem] TJ SS Xf
def Gi (h:AI) (f:List AE) (t:Int):List (Int×Int)→Int
 | []=>0
 | a :: l=>if (CH h t a.1).2=false then 10 else if BG h (CH h t a.1).1 (f.getD a.2.toNat (0,[])).1=false then 11 else Gi h f t l
def FM (h:AI) (f:List AE):List AE→Int
 | []=>0
 | x :: l=>if Gi h f x.1 x.2=0 then FM h f l else Gi h f x.1 x.2
def CY (h:AI) (f:List AE):Int:=if CN h f=0 then FM h f f else CN h f
structure Chk (h:AI) (f:List AE):Prop where
 ty:∀x∈f,0≤x.1∧x.1<(h.1.length:Int)
 arc:∀x∈f,∀a∈x.2,KV h f.length a
theorem A58 {h:AI} {f:List AE} (e:CN h f=0):Chk h f:=by
 have h1:(A2 f).2=0:=by
  refine Do fun hn=>?_;unfold CN at e;rw[At hn]at e;exact hn e
 have c:B3 f=0:=by
  refine Do fun hn=>?_;unfold A2 at h1;rw[As hn]at h1;exact hn h1
 have d:f.all (SQ h)=true:=by
  cases k:f.all (SQ h) with
  | true=>rfl
  | false =>
   unfold CN at e;rw[As (by rw[h1];simp),At k]at e;cases e
 have j:F9 f.length f=0:=by
  unfold B3 at c;split at c
  ·cases c
  ·split at c
   ·cases c
   ·exact c
 have g:=Io j;rw[GO]at d;have i:∀x∈f,x.1<(h.1.length:Int)∧∀a∈x.2,a.1<(h.2.length:Int):=fun x b=>by
  have:=d x b;unfold SQ at this;rw[AT,DO,GO]at this;exact⟨this.1,fun a ha=>by have:=this.2 a ha;unfold mG at this;simpa using this⟩
 exact⟨fun x b=>⟨(g x b).1,(i x b).1⟩,fun x b a ha=>by
  obtain⟨l,m,n⟩:=(g x b).2 a ha;exact⟨⟨l,(i x b).2 a ha⟩,m,n⟩⟩
theorem WV (h:AI) (f l:List AE) {k:Nat} (hk:k<l.length):FM h f (l.drop k)=if Gi h f (l.getD k (0,[])).1 (l.getD k (0,[])).2=0 then FM h f (l.drop (k+1)) else Gi h f (l.getD k (0,[])).1 (l.getD k (0,[])).2:=by
 rw[Ll (0,[]) hk];rfl
theorem iP (h:AI) (f:List AE) (t:Int) (l:List (Int×Int)) {k:Nat} (hk:k<l.length):Gi h f t (l.drop k)=if (CH h t (l.getD k (0,0)).1).2=false then 10 else if BG h (CH h t (l.getD k (0,0)).1).1 (f.getD (l.getD k (0,0)).2.toNat (0,[])).1=false then 11 else Gi h f t (l.drop (k+1)):=by
 rw[Ll (0,0) hk];rfl
def NF:Ae:={ ins:=[Ga,E0],pre:=fun(h,f,_)=>ZJ h∧B2 f∧KT f,out:=fun(h,f,_)=>[.p WA (CY h f)] }
attribute [local go_sem] NF
theorem RY:Ao Tryz.prog 15 NF:=by
 refine fK [0,1,2,3,4,5,7,9,10,11,16,19,20,21,22,26,27,28,29,42,53] Tryz.func15 Tryz.ntmps15 (AF uY (AF qB (AF p3 AG))) ?_;rintro w0 O0 ⟨⟨a,hf⟩,f,u⟩ e-⟨o,hs,s⟩;have o:ZJ (a,hf):=o;have hs:B2 f:=hs;have s:KT f:=s;have K:=hs.1;simp only[NF,AM];repeat'(first|exact trivial|refine eS rfl ?_|refine AB ?_|refine rX e ?_ ?_|refine rC ?_ ?_<;>intro b<;>try(cases b;done))
 ·exact⟨hs,s⟩
 ·have j:CY (a,hf) f=CN (a,hf) f:=As b;exact fI e [.tmp 4] (by rw[j];exact eR)
 ·have C:CN (a,hf) f=0:=by simpa using b
  have j:CY (a,hf) f=FM (a,hf) f f:=At C;obtain⟨A,E⟩:=A58 C;refine AJ (ι:={i:Nat//i≤f.length∧FM (a,hf) f f=FM (a,hf) f (f.drop i)}) (fun i=>⟨[(2,.bp 2 [] 0),(3,.bp 3 [] 0),(19,.p F6 f),(20,.p (.int .i64) (f.length:Int)),(21,.p (.int .i64) (i.1:Int))],[(2,.box 31 true [.p S5 a,.p WB hf]),(3,.box 25 true [.p F6 f])]⟩) (fun i=>f.length-i.1) ⟨0,Is _,rfl⟩ (AC [(2,.nm 2),(3,.nm 3)] rfl rfl ?_ ?_) (fun i=>?_)
  ·first|exact eN|refine eM ?_
  ·first|exact eN|refine eM ?_
  ·obtain⟨i,hi,g⟩:=i;have I:=fun h:i<f.length=>WV (a,hf) f f h;have H:=fun h:i<f.length=>AD f (0,[]) h;simp only;repeat'(first|exact trivial|refine eS rfl ?_|refine AB ?_|refine rX e ?_ ?_|refine rC ?_ ?_<;>intro b<;>try(cases b;done))
   ·exact b
   ·have q:i<f.length:=If.1 b;have m:=I q;have r:=H q;obtain⟨y,z⟩:=A _ r;have B:=E _ r;have F:=hs.2 _ r;generalize M:f.getD i (0,[])=x at *;obtain⟨t,L⟩:=x;simp only at m y z B F ⊢;refine AJ (ι:={k:Nat//k≤L.length∧Gi (a,hf) f t L=Gi (a,hf) f t (L.drop k)}) (fun k=>⟨[(2,.bp 2 [] 0),(3,.bp 3 [] 0),(7,.bp 7 [] 0),(19,.p F6 f),(20,.p (.int .i64) (f.length:Int)),(21,.p (.int .i64) (i:Int)),(26,.p DS L),(27,.p (.int .i64) (L.length:Int)),(28,.p (.int .i64) (k.1:Int))],[(7,.box 49 true [.p T3 t,.p DS L]),(2,.box 31 true [.p S5 a,.p WB hf]),(3,.box 25 true [.p F6 f])]⟩) (fun k=>L.length-k.1) ⟨0,Is _,rfl⟩ (AC [(7,.nm 7),(2,.nm 2),(3,.nm 3)] rfl rfl ?_ ?_) (fun k=>?_)
    ·first|exact eN|refine eM ?_
    ·first|exact eN|refine eM ?_
    ·obtain⟨k,hk,c⟩:=k;have v:=fun h:k<L.length=>iP (a,hf) f t L h;have G:=fun h:k<L.length=>B _ (AD L (0,0) h);simp only;have J:=Iu (f:=(L.getD k (0,0)).1) o y z;repeat'(first|exact trivial|refine eS rfl ?_|refine AB ?_|refine rX e ?_ ?_|refine rC ?_ ?_<;>intro b<;>try(cases b;done))
     ·exact b
     ·exact⟨y,z⟩
     ·have d:k<L.length:=by exact eV
      rw[v d,At b]at c;have l:CY (a,hf) f=10:=by rw[j,g,m,As (by rw[c];simp),c]
      exact fI e [.tmp 4] (by rw[l];exact eR)
     ·have d:k<L.length:=by exact eV
      obtain⟨-,D,b1⟩:=G d;exact⟨⟨D,b1⟩,J b,A _ (AD f (0,[]) (by omega))⟩
     ·have d:k<L.length:=by exact eV
      have w:(CH (a,hf) t (List.getD L k (0,0)).1).2=true:=by assumption
      rw[v d,As (by rw[w];simp),At b]at c;have l:CY (a,hf) f=11:=by rw[j,g,m,As (by rw[c];simp),c]
      exact fI e [.tmp 4] (by rw[l];exact eR)
     ·omega
     ·have d:k<L.length:=by exact eV
      have w:(CH (a,hf) t (List.getD L k (0,0)).1).2=true:=by assumption
      rw[v d,As (by rw[w];simp),As (by rw[b];simp)]at c;refine⟨⟨k+1,d,c⟩,by simp only;omega,AC [(7,.nm 7),(2,.nm 2),(3,.nm 3)] rfl rfl ?_ ?_⟩
      ·first|exact eN|refine eM ?_
      ·first|exact eN|refine eM ?_
     ·omega
     ·have n:L.drop k=[]:=IF (gO.1 b);rw[n]at c;have c:Gi (a,hf) f t L=0:=c;rw[m,At c]at g;refine⟨⟨i+1,q,g⟩,by simp only;omega,AC [(2,.nm 2),(3,.nm 3)] rfl rfl ?_ ?_⟩
      ·first|exact eN|refine eM ?_
      ·first|exact eN|refine eM ?_
   ·have n:f.drop i=[]:=IF (gO.1 b);rw[n]at g;have l:CY (a,hf) f=0:=by rw[j,g];rfl
    exact fI e [.tmp 4] (by rw[l];exact eR)
end
section
attribute [local go_sem] QI SS Pl
end
section
attribute [local go_sem] SS
theorem nC (h:AI) (hk:Jw h) (hi:I2 h) (hf:ZJ h) (W:h.2.length≤100000) (f:List AE) (O:Ad f) (ha:Md h f) (s:EH) (hs:NE h f.length s) {n:Int} (n0:0≤n) (n1:n<(f.length:Int)) (S:Xo h s.1+s.2.length≤1000000000) :
  BB Tryz.prog 43 [.bp 1 [] 0,.p E0 f,.p T3 n] (D0 h s) [1]
  (fun res z=>(KU h f n s=none∧res=.p .bool false∧∃A,z=D0 h A)∨∃A,KU h f n s=some A∧res=.p .bool true∧z=D0 h A):=by
 have G:=Me ha n0 n1;have Y:(f.getD n.toNat (0,[])).2.length≤100000:=(O.2 _ (AD f (0,[]) (by omega))).1;have N:KU h f n s=(Mb h n (f.getD n.toNat (0,[])).2 s).bind (NW h n (f.getD n.toNat (0,[])).2):=rfl;rw[N];refine KJ [0,1,2,4,6,8,10,11,12,18,19,20,21,37,44,45,46,47,76] [] [] Tryz.func43 Tryz.ntmps43 (AF qB AG) ?_;intro w0 K O0 ρ0 a Z aa;simp only[D0,Ak];repeat'(first|exact trivial|refine eS rfl ?_|refine AB ?_|refine rX a ?_ ?_|refine rC ?_ ?_<;>intro b<;>try(cases b;done))
 ·exact⟨n0,n1⟩
 ·have X:f.getD n.toNat (0,[])=f.getD n.toNat (0,[]):=rfl;generalize J:(f.getD n.toNat (0,[])).2=L at *;refine AJ (ι:={x:Nat×EH//x.1≤L.length∧NE h f.length x.2∧Xo h x.2.1+x.2.2.length≤1000000000∧Mb h n L s=Mb h n (L.drop x.1) x.2}) (fun x=>⟨[(0,.bp 1 [] 0),(2,.p T3 n),(4,.bp 4 [] 0),(18,.p DS L),(19,.p (.int .i64) (L.length:Int)),(20,.p (.int .i64) (x.1.1:Int))],[(4,.box 25 true [.p F6 f]),(1,.box 74 true [.p Ga h,.sr 2 T3 0 x.1.2.1.length,.p Kh x.1.2.2]),(2,.arr 3 T3 x.1.2.1)]⟩) (fun x=>L.length-x.1.1) ⟨(0,s),Is _,hs,S,rfl⟩ (AC [(4,.nm 4),(1,.nm 1),(2,.nm 2)] rfl rfl ?_ ?_) (fun x=>?_)
  ·first|exact eN|refine eM ?_
  ·first|exact eN|refine eM ?_
  ·obtain⟨⟨k,s1⟩,Q,r,C,i⟩:=x;simp only at Q r C i ⊢;repeat'(first|exact trivial|refine eS rfl ?_|refine AB ?_|refine rX a ?_ ?_|refine rC ?_ ?_<;>intro b<;>try(cases b;done))
   ·exact b
   ·have l:k<L.length:=If.1 b;have d:Mb h n (L.drop k) s1=(DH h s1 n (Lm h (L.getD k (0,0)).1)).bind (Mb h n (L.drop (k+1))):=by rw[Ll (0,0) l];rfl
    obtain⟨⟨a0,F⟩,u,b1⟩:=G _ (AD L (0,0) l);obtain⟨o,q⟩:=Mc hf a0 F;obtain⟨w,y⟩:=r.get n0 n1;refine cD 12 a ?_ ?_
    ·exact⟨a0,F⟩
    ·refine rM a (gX h hk s1 n0 (by rw[r.len];exact n1) w y o q (by omega)) [(1,.nm 1),(2,.nm 2)] [2] ?_ ?_ ?_
     ·first|exact eN|refine eM ?_
      rfl
     ·simp only[D0];first|exact eN|refine eM ?_
     ·rintro res z (⟨c,rfl,rfl⟩|⟨s2,c,rfl,rfl⟩)
      ·refine⟨[(1,.nm 1),(2,.nm 2)],.p .bool false,D0 h s1,rfl,rfl,?_,?_,rfl,rfl,?_⟩
       ·simp only[D0];first|exact eN|refine eM ?_
       ·first|exact eN|refine eM ?_
       ·simp only[D0];refine rL a ?_ ?_
        ·trivial
        ·repeat'(first|exact trivial|refine eS rfl ?_|refine AB ?_|refine rX a ?_ ?_|refine rC ?_ ?_<;>intro b<;>try(cases b;done))
         refine Ev.ent (σ':=⟨[(6,.p .bool false)],D0 h s1⟩) ?_ (AC [(1,.nm 1),(2,.nm 2)] rfl rfl ?_ ?_)
         ·exact fM a [.tmp 6] (.p .bool false) eT (.inl ⟨by rw[i,d,c];rfl,rfl,s1,rfl⟩)
         ·unfold D0;first|exact eN|refine eM ?_
         ·first|exact eN|refine eM ?_
      ·refine⟨[(1,.nm 1),(2,.nm 2)],.p .bool true,D0 h s2,rfl,rfl,?_,?_,rfl,rfl,?_⟩
       ·simp only[D0];first|exact eN|refine eM ?_
       ·first|exact eN|refine eM ?_
       ·simp only[D0];refine rL a ?_ ?_
        ·trivial
        ·obtain⟨D,E,T⟩:=E4 hk hi r n0 n1 o q c;repeat'(first|exact trivial|refine eS rfl ?_|refine AB ?_|refine rX a ?_ ?_|refine rC ?_ ?_<;>intro b<;>try(cases b;done))
         ·omega
         ·refine⟨⟨(k+1,s2),l,D,aT E C,by rw[i,d,c];rfl⟩,by simp only;omega,AC [(4,.nm 4),(1,.nm 1),(2,.nm 2)] rfl rfl ?_ ?_⟩
          ·first|exact eN|refine eM ?_
          ·first|exact eN|refine eM ?_
   ·exact⟨n0,n1⟩
   ·have B:L.drop k=[]:=IF (gO.1 b);rw[B]at i;have i:Mb h n L s=some s1:=i;rw[i];have M:(List.getD f n.toNat (0,[])).2=L:=J;rw[M];refine AJ (ι:={x:Nat×EH//x.1≤L.length∧NE h f.length x.2∧Xo h x.2.1+x.2.2.length≤1000000000∧(some s1).bind (NW h n L)=NW h n (L.drop x.1) x.2}) (fun x=>⟨[(0,.bp 1 [] 0),(2,.p T3 n),(44,.p DS L),(45,.p (.int .i64) (L.length:Int)),(46,.p (.int .i64) (x.1.1:Int))],[(1,.box 74 true [.p Ga h,.sr 2 T3 0 x.1.2.1.length,.p Kh x.1.2.2]),(2,.arr 3 T3 x.1.2.1)]⟩) (fun x=>L.length-x.1.1) ⟨(0,s1),Is _,r,C,rfl⟩ (AC [(1,.nm 1),(2,.nm 2)] rfl rfl ?_ ?_) (fun x=>?_)
    ·first|exact eN|refine eM ?_
    ·first|exact eN|refine eM ?_
    ·obtain⟨⟨j,s2⟩,P,m,H,g⟩:=x;simp only at P m H g ⊢;obtain⟨w,y⟩:=m.get n0 n1;repeat'(first|exact trivial|refine eS rfl ?_|refine AB ?_|refine rX a ?_ ?_|refine rC ?_ ?_<;>intro b<;>try(cases b;done))
     ·exact b
     ·exact⟨⟨n0,by rw[m.len];exact n1⟩,w,y⟩
     ·have l:j<L.length:=If.1 b;have d:NW h n (L.drop j) s2=if (CH h (s2.1.getD n.toNat 0) (L.getD j (0,0)).1).2=true then (DH h s2 (L.getD j (0,0)).2 (CH h (s2.1.getD n.toNat 0) (L.getD j (0,0)).1).1).bind (NW h n (L.drop (j+1))) else none:=by rw[Ll (0,0) l];rfl
      obtain⟨-,u,b1⟩:=G _ (AD L (0,0) l);have R:=fun e=>Iu (f:=(L.getD j (0,0)).1) hf w y e;generalize CH h (s2.1.getD n.toNat 0) (L.getD j (0,0)).1=v at *;obtain⟨t,ok⟩:=v;refine evP a 3 ?_ ?_
      ·trivial
      ·cases ok with
       | false =>
        rw[As (by simp)]at d;refine rL a ?_ ?_
        ·trivial
        ·repeat'(first|exact trivial|refine eS rfl ?_|refine AB ?_|refine rX a ?_ ?_|refine rC ?_ ?_<;>intro b<;>try(cases b;done))
         refine Ev.ent (σ':=⟨[(6,.p .bool false)],D0 h s2⟩) ?_ (AC [(1,.nm 1),(2,.nm 2)] rfl rfl ?_ ?_)
         ·exact fM a [.tmp 6] (.p .bool false) eT (.inl ⟨by rw[g,d],rfl,s2,rfl⟩)
         ·unfold D0;first|exact eN|refine eM ?_
         ·first|exact eN|refine eM ?_
       | true =>
        rw[At rfl]at d;obtain⟨o,q⟩:=R rfl;simp only at o q d;obtain⟨U,V⟩:=m.get u b1;refine rN 4 a ?_ ?_
        ·trivial
        ·refine clG a (gX h hk s2 u (by rw[m.len];exact b1) U V o q (by omega)) [(1,.nm 1),(2,.nm 2)] [2] ?_ ?_ ?_
         ·first|exact eN|refine eM ?_
         ·simp only[D0];first|exact eN|refine eM ?_
         ·rintro res z (⟨c,rfl,rfl⟩|⟨I,c,rfl,rfl⟩)
          ·refine⟨[(1,.nm 1),(2,.nm 2)],.p .bool false,D0 h s2,rfl,rfl,?_,?_,rfl,rfl,?_⟩
           ·simp only[D0];first|exact eN|refine eM ?_
           ·first|exact eN|refine eM ?_
           ·simp only[D0];refine rL a ?_ ?_
            ·trivial
            ·repeat'(first|exact trivial|refine eS rfl ?_|refine AB ?_|refine rX a ?_ ?_|refine rC ?_ ?_<;>intro b<;>try(cases b;done))
             refine Ev.ent (σ':=⟨[(6,.p .bool false)],D0 h s2⟩) ?_ (AC [(1,.nm 1),(2,.nm 2)] rfl rfl ?_ ?_)
             ·exact fM a [.tmp 6] (.p .bool false) eT (.inl ⟨by rw[g,d,c];rfl,rfl,s2,rfl⟩)
             ·unfold D0;first|exact eN|refine eM ?_
             ·first|exact eN|refine eM ?_
          ·refine⟨[(1,.nm 1),(2,.nm 2)],.p .bool true,D0 h I,rfl,rfl,?_,?_,rfl,rfl,?_⟩
           ·simp only[D0];first|exact eN|refine eM ?_
           ·first|exact eN|refine eM ?_
           ·simp only[D0];refine rL a ?_ ?_
            ·trivial
            ·obtain⟨D,E,T⟩:=E4 hk hi m u b1 o q c;repeat'(first|exact trivial|refine eS rfl ?_|refine AB ?_|refine rX a ?_ ?_|refine rC ?_ ?_<;>intro b<;>try(cases b;done))
             ·omega
             ·refine⟨⟨(j+1,I),l,D,aT E H,by rw[g,d,c];rfl⟩,by simp only;omega,AC [(1,.nm 1),(2,.nm 2)] rfl rfl ?_ ?_⟩
              ·first|exact eN|refine eM ?_
              ·first|exact eN|refine eM ?_
     ·have B:L.drop j=[]:=IF (gO.1 b);rw[B]at g;have g:(some s1).bind (NW h n L)=some s2:=g;refine Ev.ent (σ':=⟨[(6,.p .bool true)],D0 h s2⟩) ?_ (AC [(1,.nm 1),(2,.nm 2)] rfl rfl ?_ ?_)
      ·exact fM a [.tmp 6] (.p .bool true) eT (.inr ⟨s2,g,rfl,rfl⟩)
      ·unfold D0;first|exact eN|refine eM ?_
      ·first|exact eN|refine eM ?_
end
section
def ZK:Ae:={ ins:=[F6],pre:=fun(l,_)=>List.length l≤100000,out:=fun(l,_)=>[.own 49 Ox l] }
attribute [local go_sem] ZK
theorem uZ:Ao Tryz.prog 44 ZK:=by
 refine fK [0,2,4] Tryz.func44 Tryz.ntmps44 AG ?_;rintro w0 O0 ⟨l,u⟩ a-d;have d:List.length l≤100000:=d;simp only[ZK,AM];repeat'(first|exact trivial|refine eS rfl ?_|refine AB ?_|refine rX a ?_ ?_|refine rC ?_ ?_<;>intro c<;>try(cases c;done))
 refine cP 1 a ?_ ?_
 ·trivial
 ·refine XE a false rfl rfl ?_;intro b e;refine rL a ?_ ?_
  ·trivial
  ·repeat'(first|exact trivial|refine eS rfl ?_|refine AB ?_|refine rX a ?_ ?_|refine rC ?_ ?_<;>intro c<;>try(cases c;done))
   ·have f:l=[]:=e c;subst f;refine Ev.ent (σ':=⟨[(2,.sr 5 Ox 0 0)],[(5,.arr 49 Ox [])]⟩) ?_ (AC [(5,.nil)] rfl rfl ?_ ?_)
    ·exact IM a (.inl rfl) (rv:=.tmp 2) rfl (by simp only[JB,IK,Gw,go_sem,Nat.reduceEqDiff,reduceCtorEq,Nat.reduceAdd,Nat.reduceSub,Nat.reduceMul,Nat.reduceLeDiff,Nat.reduceLT,Int.reduceLE,Int.reduceToNat,Int.reduceNeg,↓reduceIte])
    ·first|exact eN|refine eM ?_
    ·first|exact eN|refine eM ?_
   ·simp only[AO];omega
   ·exact IM a (.inl rfl) (rv:=.tmp 2) rfl (by simp only[JB,IK,Gw,go_sem,Nat.reduceEqDiff,reduceCtorEq,Nat.reduceAdd,Nat.reduceSub,Nat.reduceMul,Nat.reduceLeDiff,Nat.reduceLT,Int.reduceLE,Int.reduceToNat,Int.reduceNeg,↓reduceIte])
structure iQ (h:AI) (f:List AE):Prop where
 ok:Jw h
 inj:I2 h
 ft:ZJ h
 fl:h.2.length≤100000
 good:Ad f
 arcs:Md h f
 ty:∀x∈f,0≤x.1∧x.1<(h.1.length:Int)
def Oj:Ae:={ ins:=[Ga,E0],pre:=fun(h,f,_)=>iQ h f,out:=fun(h,f,_)=>[.p E0 (Al h f).1,.p .bool (Al h f).2] }
theorem CG (f:List AE) (ty:List Int):(Ec f ty).length=f.length:=by simp[Ec]
theorem Gj (f:List AE) (ty:List Int) {i:Nat} (h:i<f.length):(Ec f ty).getD i (0,[])=(ty.getD i 0,(f.getD i (0,[])).2):=by
 unfold Ec;simp[AS,h]
theorem u3 {α:Type} (F f:List α) (d:α) (b:F.length=f.length) {j:Nat} (h:j<f.length):(F.take j++f.drop j).set j (F.getD j d)=F.take (j+1)++f.drop (j+1)∧(F.take j++f.drop j).getD j d=f.getD j d:=by
 have h1:(F.take j).length=j:=by rw[OS];omega
 have a:f.drop j=f.getD j d :: f.drop (j+1):=by
  rw[aS h,AS,An h];rfl
 constructor
 ·rw[Ax F d (by omega),ABo _ _ (by omega),h1,AB1,a];simp
 ·rw[AS,AA4 (by omega),h1,AB1,a];rfl
theorem Mh:Ao Tryz.prog 18 Oj:=by
 refine fK [0,1,2,3,4,5,6,7,8,9,10,11,16,17,18,19,51,64,72,73,74] Tryz.func18 Tryz.ntmps18 (AF uZ AG) ?_;rintro w0 O0 ⟨⟨a,hf⟩,f,u⟩ c-hp;have hp:iQ (a,hf) f:=hp;have D:=A1j (a,hf) f;have w:=hp.good.1;have S:Nt (a,hf) f≤30000000:=by
  have h1:a.length≤256:=hp.ok.2;have C:f.length*a.length≤100000*256:=Nat.mul_le_mul w h1;have R:f.length*(a,hf).1.length≤100000*256:=C;unfold Nt;omega
 have J:=qJ hp.ty;simp only[Oj,AM];repeat'(first|exact trivial|refine eS rfl ?_|refine AB ?_|refine rX c ?_ ?_|refine rC ?_ ?_<;>intro b<;>try(cases b;done))
 refine AJ (ι:={i:Nat//i≤f.length}) (fun i=>⟨[(3,.bp 3 [] 0),(4,.bp 4 [] 0),(6,.bp 14 [] 0),(16,.p F6 f),(17,.p (.int .i64) (f.length:Int)),(18,.p (.int .i64) (i.1:Int))],[(3,.box 25 true [.p F6 f]),(4,.box 25 true [.raw (.slice none 0 0)]),(14,.box 74 true [.p Ga (a,hf),.sr 31 T3 0 i.1,.sr 41 T3 0 i.1]),(31,.arr 3 T3 ((BD f).take i.1)),(41,.arr 3 T3 ((Eb f).take i.1))]⟩) (fun i=>f.length-i.1) ⟨0,Is _⟩ (AC [(3,.nm 3),(4,.nm 4),(14,.nm 14),(31,.nil),(41,.nil)] rfl rfl ?_ ?_) (fun i=>?_)
 ·first|exact eN|refine eM ?_
 ·first|exact eN|refine eM ?_
 ·obtain⟨i,hi⟩:=i;have tl:((BD f).take i).length=i:=by rw[OS];simp[BD];omega
  have X:((Eb f).take i).length=i:=by rw[OS];simp[Eb];omega
  have ts:i<f.length→(BD f).take i++[(f.getD i (0,[])).1]=(BD f).take (i+1):=fun h=>by
   rw[Ax (BD f) 0 (by simpa[BD] using h)];simp[BD,AS,h]
  have P:i<f.length→(Eb f).take i++[(i:Int)]=(Eb f).take (i+1):=fun h=>by
   rw[Ax (Eb f) 0 (by simpa[Eb] using h)];simp[Eb,AS,h]
  repeat'(first|exact trivial|refine eS rfl ?_|refine AB ?_|refine rX c ?_ ?_|refine rC ?_ ?_<;>intro b<;>try(cases b;done))
  ·exact b
  ·have g:i<f.length:=If.1 b;have O:=ts g;have Q:=P g;refine Bu drawsAny c 9 [([1,2,3,4,5,6,7],8)] [0] (by kernel_rfl) (Jr ?_ ?_)
   ·trivial
   ·refine Ld c [31] ?_ ?_
    ·simp only[AO];omega
    ·refine Ow c ?_ ?_ ?_
     ·trivial
     ·trivial
     ·repeat'(first|exact trivial|refine eS rfl ?_|refine AB ?_|refine rX c ?_ ?_|refine rC ?_ ?_<;>intro b<;>try(cases b;done))
      ·simp only[AO];omega
      ·omega
      ·refine⟨⟨i+1,g⟩,by simp only;omega,AC [(3,.nm 3),(4,.nm 4),(14,.nm 14),(31,.nm 31),(41,.nm 41)] rfl rfl ?_ ?_⟩
       ·simp only[←O,←Q];first|exact eN|refine eM ?_
        simp only[AC4,Nat.min_self,and_self]
       ·first|exact eN|refine eM ?_
  ·have g:i=f.length:=by
    have:=gO.1 b;omega
   subst g;have et:(BD f).take f.length=BD f:=BY (by simp[BD]);have v:(Eb f).take f.length=Eb f:=BY (by simp[Eb]);have N:(BD f).length=f.length:=by simp[BD]
   have Y:(Eb f).length=f.length:=by simp[Eb]
   rw[et,v];have B:(Eb f).take f.length=Eb f:=v;refine Gy [41] ?_;rw[B];refine AJ (ι:={x:Nat×EH//NE (a,hf) f.length x.2∧Xo (a,hf) x.2.1+x.2.2.length+1≤Nt (a,hf) f∧x.1≤x.2.2.length∧∃k,Xo (a,hf) x.2.1+x.2.2.length+1≤k+x.1∧qH (a,hf) f k x.1 x.2=D6 (a,hf) f}) (fun x=>⟨[(3,.bp 3 [] 0),(4,.bp 4 [] 0),(6,.bp 14 [] 0),(9,.p (.int .i64) (x.1.1:Int))],[(3,.box 25 true [.p F6 f]),(4,.box 25 true [.raw (.slice none 0 0)]),(14,.box 74 true [.p Ga (a,hf),.sr 31 T3 0 x.1.2.1.length,.p Kh x.1.2.2]),(31,.arr 3 T3 x.1.2.1)]⟩) (fun x=>Xo (a,hf) x.1.2.1+x.1.2.2.length-x.1.1) ⟨(0,BD f,Eb f),J,D,Is _,Nt (a,hf) f,by simp only;omega,rfl⟩ (AC [(3,.nm 3),(4,.nm 4),(14,.nm 14),(31,.nm 31)] rfl rfl ?_ ?_) (fun x=>?_)
   ·simp only[N];first|exact eN|refine eM ?_
   ·first|exact eN|refine eM ?_
   ·obtain⟨⟨i,s⟩,hs,I,hi,k,hk,e⟩:=x;simp only at hs I hi hk e ⊢;repeat'(first|exact trivial|refine eS rfl ?_|refine AB ?_|refine rX c ?_ ?_|refine rC ?_ ?_<;>intro b<;>try(cases b;done))
    ·have m:i<s.2.length:=If.1 b;obtain⟨z,A⟩:=hs.wt _ (AD s.2 (0:Int) m);obtain⟨k,rfl⟩:∃t,k=t+1:=⟨k-1,by omega⟩;have r:qH (a,hf) f (k+1) i s=(KU (a,hf) f (s.2.getD i 0) s).bind (qH (a,hf) f k (i+1)):=At m;rw[r]at e;refine cD 9 c ?_ ?_
     ·exact b
     ·refine rM c (nC (a,hf) hp.ok hp.inj hp.ft hp.fl f hp.good hp.arcs s hs z A (by omega)) [(1,.nm 14),(2,.nm 31)] [31] ?_ ?_ ?_
      ·first|exact eN|refine eM ?_
      ·simp only[D0];first|exact eN|refine eM ?_
      ·rintro res W (⟨l,rfl,d,rfl⟩|⟨d,l,rfl,rfl⟩)
       ·refine⟨[(14,.nm 1),(31,.nm 2)],.p .bool false,[(14,.box 74 true [.p Ga (a,hf),.sr 31 T3 0 d.1.length,.p Kh d.2]),(31,.arr 3 T3 d.1)],rfl,rfl,?_,?_,rfl,rfl,?_⟩
        ·simp only[D0];first|exact eN|refine eM ?_
        ·first|exact eN|refine eM ?_
        ·refine rL c ?_ ?_
         ·trivial
         ·repeat'(first|exact trivial|refine eS rfl ?_|refine AB ?_|refine rX c ?_ ?_|refine rC ?_ ?_<;>intro b<;>try(cases b;done))
          have o:Al (a,hf) f=([],false):=by unfold Al;rw[←e,l];rfl
          exact fI c [.cell 4 25,.tmp 5] (by rw[o];exact eR)
       ·obtain⟨M,U,V⟩:=QV hp.ok hp.inj hp.ft hp.arcs z A hs l;rw[l]at e;refine⟨[(14,.nm 1),(31,.nm 2)],.p .bool true,[(14,.box 74 true [.p Ga (a,hf),.sr 31 T3 0 d.1.length,.p Kh d.2]),(31,.arr 3 T3 d.1)],rfl,rfl,?_,?_,rfl,rfl,?_⟩
        ·simp only[D0];first|exact eN|refine eM ?_
        ·first|exact eN|refine eM ?_
        ·refine rL c ?_ ?_
         ·trivial
         ·repeat'(first|exact trivial|refine eS rfl ?_|refine AB ?_|refine rX c ?_ ?_|refine rC ?_ ?_<;>intro b<;>try(cases b;done))
          ·omega
          ·refine⟨⟨(i+1,d),M,by simp only;omega,by simp only;omega,k,by simp only;omega,e⟩,by simp only;omega,AC [(3,.nm 3),(4,.nm 4),(14,.nm 14),(31,.nm 31)] rfl rfl ?_ ?_⟩
           ·first|exact eN|refine eM ?_
           ·first|exact eN|refine eM ?_
    ·exact w
    ·have m:¬i<s.2.length:=fun h=>by
      have:=gO.1 b;omega
     obtain⟨k,rfl⟩:∃t,k=t+1:=⟨k-1,by omega⟩;have r:qH (a,hf) f (k+1) i s=some s.1:=As m;have o:Al (a,hf) f=(Ec f s.1,true):=by unfold Al;rw[←e,r]
     have q:=CG f s.1;have K:=fun i h=>Gj f s.1 (i:=i) h;generalize hT:Ec f s.1=F at *;have L:=hs.len;refine AJ (ι:={j:Nat//j≤f.length}) (fun j=>⟨[(4,.bp 4 [] 0),(6,.bp 14 [] 0),(10,.bp 10 [] 0),(72,.p (.int .i64) (f.length:Int)),(73,.p (.int .i64) (j.1:Int))],[(10,.box 25 true [.sr 68 Ox 0 f.length]),(68,.arr 49 Ox (F.take j.1++f.drop j.1)),(4,.box 25 true [.raw (.slice none 0 0)]),(14,.box 74 true [.p Ga (a,hf),.sr 31 T3 0 s.1.length,.p Kh s.2]),(31,.arr 3 T3 s.1)]⟩) (fun j=>f.length-j.1) ⟨0,Is _⟩ (AC [(10,.nm 10),(68,.nm 68),(4,.nm 4),(14,.nm 14),(31,.nm 31)] rfl rfl ?_ ?_) (fun j=>?_)
     ·first|exact eN|refine eM ?_
     ·first|exact eN|refine eM ?_
     ·obtain⟨j,T⟩:=j;have H:=fun h:j<f.length=>u3 F f (0,[]) q h;repeat'(first|exact trivial|refine eS rfl ?_|refine AB ?_|refine rX c ?_ ?_|refine rC ?_ ?_<;>intro b<;>try(cases b;done))
      ·exact⟨by rw[L];exact b,b⟩
      ·omega
      ·have n:j<f.length:=If.1 b;obtain⟨y,G⟩:=H n;rw[K j n]at y;refine⟨⟨j+1,n⟩,by simp only;omega,AC [(10,.nm 10),(68,.nm 68),(4,.nm 4),(14,.nm 14),(31,.nm 31)] rfl rfl ?_ ?_⟩
       ·simp only[←y];first|exact eN|refine eM ?_
        rw[G]
       ·first|exact eN|refine eM ?_
      ·have hF:F.take j=F:=BY (by rw[q];exact gO.1 b);have E:List.drop j f=[]:=IF (gO.1 b);rw[hF,E,AAa];exact fI c [.cell 4 25,.tmp 5] (by rw[o];first|exact eR|refine Ym ?_;exact BY (by rw[q];exact No _))
end
def Jy {α:Type} (p:α→Bool):Nat→List α→Int
 | _,[]=>-1
 | k,a :: l=>if p a=true then (k:Int) else Jy p (k+1) l
theorem VR {α:Type} (p:α→Bool):∀(k:Nat) (l:List α),decide (0≤Jy p k l)=l.any p
 | _,[]=>rfl
 | k,a :: l=>by
  unfold Jy;rw[List.any_cons];split
  ·rename_i h;rw[h,Bool.true_or];exact ABr (AA3 k)
  ·rename_i h;have h:p a=false:=by simpa using h
   rw[h,ACA];exact VR p (k+1) l
theorem Xu {α:Type} (p:α→Bool) (d:α) (l:List α) {k:Nat} (h:k<l.length):Jy p k (l.drop k)=if p (l.getD k d)=true then (k:Int) else Jy p (k+1) (l.drop (k+1)):=by
 rw[Ll d h];rfl
theorem u4 (m:List (Int×Bool)) (a:Int×Int):BB Tryz.prog 57 [.p T87 a,.bp 1 [] 0] [(1,.box 95 false [.mp 3]),(3,.mapo T3 .bool m)] [1,3] (fun res d=>res=.p .bool ((A6 T3 .bool a.2 m).getD false)∧d=[(1,.box 95 false [.mp 3]),(3,.mapo T3 .bool m)]):=by
 refine KJ [0,1,2,3] [] [] Tryz.func57 Tryz.ntmps57 AG ?_;intro w0 K O0 ρ0 b e f;simp only[Ak];repeat'(first|exact trivial|refine eS rfl ?_|refine AB ?_|refine rX b ?_ ?_|refine rC ?_ ?_<;>intro c<;>try(cases c;done))
 refine Ev.ent (σ':=⟨[(3,.p .bool ((A6 T3 .bool a.2 m).getD false))],[(1,.box 95 false [.mp 3]),(3,.mapo T3 .bool m)]⟩) ?_ (AC [(1,.nm 1),(3,.nm 3)] rfl rfl ?_ ?_)
 ·exact fM b [.tmp 3] (.p .bool ((A6 T3 .bool a.2 m).getD false)) eT ⟨rfl,rfl⟩
 ·first|exact eN|refine eM ?_
 ·first|exact eN|refine eM ?_
theorem A1l (v:Int×Int) (a:Int×Int):BB Tryz.prog 50 [.p BI a,.bp 1 [] 0] [(1,.box 87 true [.p T3 v.1,.p T3 v.2])] [1] (fun res d=>res=.p .bool (a.1==v.1)∧d=[(1,.box 87 true [.p T3 v.1,.p T3 v.2])]):=by
 refine KJ [0,1,2,3] [] [] Tryz.func50 Tryz.ntmps50 AG ?_;intro w0 K O0 ρ0 b e f;simp only[Ak];repeat'(first|exact trivial|refine eS rfl ?_|refine AB ?_|refine rX b ?_ ?_|refine rC ?_ ?_<;>intro c<;>try(cases c;done))
 refine Ev.ent (σ':=⟨[(3,.p .bool (a.1==v.1))],[(1,.box 87 true [.p T3 v.1,.p T3 v.2])]⟩) ?_ (AC [(1,.nm 1)] rfl rfl ?_ ?_)
 ·exact fM b [.tmp 3] (.p .bool (a.1==v.1)) eT ⟨rfl,rfl⟩
 ·first|exact eN|refine eM ?_
 ·first|exact eN|refine eM ?_
theorem u5 (m:List (Int×Bool)) (l:List (Int×Int)) (o:l.length≤140737488355328):BB Tryz.prog 81 [.p jZ l,.clo 57 [1]] [(1,.box 95 false [.mp 3]),(3,.mapo T3 .bool m)] [1,3] (fun res n=>res=.p T3 (Jy (fun a=>(A6 T3 .bool (Prod.snd a) m).getD false) 0 l)∧n=[(1,.box 95 false [.mp 3]),(3,.mapo T3 .bool m)]):=by
 refine KJ [0,1,4,5,7,8,9,16] [] [] Tryz.func81 Tryz.ntmps81 AG ?_;intro w0 K O0 ρ0 d q r;simp only[Ak];repeat'(first|exact trivial|refine eS rfl ?_|refine AB ?_|refine rX d ?_ ?_|refine rC ?_ ?_<;>intro c<;>try(cases c;done))
 refine AJ (ι:={k:Nat//k≤l.length∧Jy (fun a=>(A6 T3 .bool (Prod.snd a) m).getD false) k (l.drop k)=Jy (fun a=>(A6 T3 .bool (Prod.snd a) m).getD false) 0 l}) (fun k=>⟨[(0,.p jZ l),(1,.clo 57 [1]),(7,.p (.int .i64) (l.length:Int)),(8,.p (.int .i64) (k.1:Int))],[(1,.box 95 false [.mp 3]),(3,.mapo T3 .bool m)]⟩) (fun k=>l.length-k.1) ⟨0,Is _,rfl⟩ (AC [(1,.nm 1),(3,.nm 3)] rfl rfl ?_ ?_) (fun k=>?_)
 ·first|exact eN|refine eM ?_
 ·first|exact eN|refine eM ?_
 ·obtain⟨k,hk,hf⟩:=k;have j:k<l.length→∀b,(fun a=>(A6 T3 .bool (Prod.snd a) m).getD false) (l.getD k (0,0))=b→Jy (fun a=>(A6 T3 .bool (Prod.snd a) m).getD false) k (l.drop k)=if b=true then (k:Int) else Jy (fun a=>(A6 T3 .bool (Prod.snd a) m).getD false) (k+1) (l.drop (k+1)):=fun h b e=>by rw[←e];exact Xu (fun a=>(A6 T3 .bool (Prod.snd a) m).getD false) (0,0) l h
  simp only;repeat'(first|exact trivial|refine eS rfl ?_|refine AB ?_|refine rX d ?_ ?_|refine rC ?_ ?_<;>intro c<;>try(cases c;done))
  ·have f:k<l.length:=If.1 c;refine cP 5 d ?_ ?_
   ·exact c
   ·have key:=u4 m (l.getD k (0,0));refine rM d (key) [(1,.nm 1),(3,.nm 3)] [] ?_ ?_ ?_
    ·first|exact eN|refine eM ?_
    ·first|exact eN|refine eM ?_
    ·rintro _ _ ⟨rfl,rfl⟩;refine⟨[(1,.nm 1),(3,.nm 3)],.p .bool ((fun a=>(A6 T3 .bool (Prod.snd a) m).getD false) (l.getD k (0,0))),[(1,.box 95 false [.mp 3]),(3,.mapo T3 .bool m)],rfl,rfl,?_,?_,rfl,rfl,CM ?_⟩
     ·first|exact eN|refine eM ?_
     ·first|exact eN|refine eM ?_
     ·generalize s:(fun a=>(A6 T3 .bool (Prod.snd a) m).getD false) (l.getD k (0,0))=i at *;have g:=j f i rfl;repeat'(first|exact trivial|refine eS rfl ?_|refine AB ?_|refine rX d ?_ ?_|refine rC ?_ ?_<;>intro c<;>try(cases c;done))
      ·have c:i=true:=c;rw[At c,hf]at g;refine Ev.ent (σ':=⟨[(4,.p (.int .i64) (k:Int))],[(1,.box 95 false [.mp 3]),(3,.mapo T3 .bool m)]⟩) ?_ (AC [(1,.nm 1),(3,.nm 3)] rfl rfl ?_ ?_)
       ·exact fM d [.tmp 4] (.p T3 (k:Int)) eT ⟨by rw[g],rfl⟩
       ·first|exact eN|refine eM ?_
       ·first|exact eN|refine eM ?_
      ·omega
      ·have c:i=false:=c;rw[As (by rw[c];simp)]at g;refine⟨⟨k+1,f,g.symm.trans hf⟩,by simp only;omega,AC [(1,.nm 1),(3,.nm 3)] rfl rfl ?_ ?_⟩
       ·first|exact eN|refine eM ?_
       ·first|exact eN|refine eM ?_
  ·have f:l.drop k=[]:=IF (gO.1 c);rw[f]at hf;have hf:(-1:Int)=Jy (fun a=>(A6 T3 .bool (Prod.snd a) m).getD false) 0 l:=hf;refine Ev.ent (σ':=⟨[(4,.p (.int .i64) (-1))],[(1,.box 95 false [.mp 3]),(3,.mapo T3 .bool m)]⟩) ?_ (AC [(1,.nm 1),(3,.nm 3)] rfl rfl ?_ ?_)
   ·exact fM d [.tmp 4] (.p T3 (-1)) eT ⟨by rw[hf],rfl⟩
   ·first|exact eN|refine eM ?_
   ·first|exact eN|refine eM ?_
theorem A1m (m:List (Int×Bool)) (l:List (Int×Int)) (e:l.length≤140737488355328):BB Tryz.prog 56 [.p jZ l,.clo 57 [1]] [(1,.box 95 false [.mp 3]),(3,.mapo T3 .bool m)] [1,3] (fun res f=>res=.p .bool (l.any (fun a=>(A6 T3 .bool (Prod.snd a) m).getD false))∧f=[(1,.box 95 false [.mp 3]),(3,.mapo T3 .bool m)]):=by
 refine KJ [0,1,4] [] [] Tryz.func56 Tryz.ntmps56 AG ?_;intro w0 K O0 ρ0 b g h;simp only[Ak];repeat'(first|exact trivial|refine eS rfl ?_|refine AB ?_|refine rX b ?_ ?_|refine rC ?_ ?_<;>intro c<;>try(cases c;done))
 refine cP 2 b ?_ ?_
 ·trivial
 ·have key:=u5 m l e;refine rM b (key) [(1,.nm 1),(3,.nm 3)] [] ?_ ?_ ?_
  ·first|exact eN|refine eM ?_
  ·first|exact eN|refine eM ?_
  ·rintro _ _ ⟨rfl,rfl⟩;refine⟨[(1,.nm 1),(3,.nm 3)],.p T3 (Jy (fun a=>(A6 T3 .bool (Prod.snd a) m).getD false) 0 l),[(1,.box 95 false [.mp 3]),(3,.mapo T3 .bool m)],rfl,rfl,?_,?_,rfl,rfl,?_⟩
   ·first|exact eN|refine eM ?_
   ·first|exact eN|refine eM ?_
   ·have ha:=VR (fun a=>(A6 T3 .bool (Prod.snd a) m).getD false) 0 l;generalize Jy (fun a=>(A6 T3 .bool (Prod.snd a) m).getD false) 0 l=d at *;refine rL b ?_ ?_
    ·trivial
    ·repeat'(first|exact trivial|refine eS rfl ?_|refine AB ?_|refine rX b ?_ ?_|refine rC ?_ ?_<;>intro c<;>try(cases c;done))
     refine Ev.ent (σ':=⟨[(4,.p .bool (decide (0≤d)))],[(1,.box 95 false [.mp 3]),(3,.mapo T3 .bool m)]⟩) ?_ (AC [(1,.nm 1),(3,.nm 3)] rfl rfl ?_ ?_)
     ·exact fM b [.tmp 4] (.p .bool (decide (0≤d))) eT ⟨by rw[ha],rfl⟩
     ·first|exact eN|refine eM ?_
     ·first|exact eN|refine eM ?_
theorem u6 (v:Int×Int) (l:List (Int×Int)) (n:l.length≤140737488355328):BB Tryz.prog 75 [.p DS l,.clo 50 [1]] [(1,.box 87 true [.p T3 v.1,.p T3 v.2])] [1] (fun res m=>res=.p T3 (Jy (fun a=>(Prod.fst a==v.1)) 0 l)∧m=[(1,.box 87 true [.p T3 v.1,.p T3 v.2])]):=by
 refine KJ [0,1,4,5,7,8,9,16] [] [] Tryz.func75 Tryz.ntmps75 AG ?_;intro w0 K O0 ρ0 d o q;simp only[Ak];repeat'(first|exact trivial|refine eS rfl ?_|refine AB ?_|refine rX d ?_ ?_|refine rC ?_ ?_<;>intro c<;>try(cases c;done))
 refine AJ (ι:={k:Nat//k≤l.length∧Jy (fun a=>(Prod.fst a==v.1)) k (l.drop k)=Jy (fun a=>(Prod.fst a==v.1)) 0 l}) (fun k=>⟨[(0,.p DS l),(1,.clo 50 [1]),(7,.p (.int .i64) (l.length:Int)),(8,.p (.int .i64) (k.1:Int))],[(1,.box 87 true [.p T3 v.1,.p T3 v.2])]⟩) (fun k=>l.length-k.1) ⟨0,Is _,rfl⟩ (AC [(1,.nm 1)] rfl rfl ?_ ?_) (fun k=>?_)
 ·first|exact eN|refine eM ?_
 ·first|exact eN|refine eM ?_
 ·obtain⟨k,hk,hf⟩:=k;have j:k<l.length→∀b,(fun a=>(Prod.fst a==v.1)) (l.getD k (0,0))=b→Jy (fun a=>(Prod.fst a==v.1)) k (l.drop k)=if b=true then (k:Int) else Jy (fun a=>(Prod.fst a==v.1)) (k+1) (l.drop (k+1)):=fun h b e=>by rw[←e];exact Xu (fun a=>(Prod.fst a==v.1)) (0,0) l h
  simp only;repeat'(first|exact trivial|refine eS rfl ?_|refine AB ?_|refine rX d ?_ ?_|refine rC ?_ ?_<;>intro c<;>try(cases c;done))
  ·have f:k<l.length:=If.1 c;refine cP 5 d ?_ ?_
   ·exact c
   ·have key:=A1l v (l.getD k (0,0));refine rM d (key) [(1,.nm 1)] [] ?_ ?_ ?_
    ·first|exact eN|refine eM ?_
    ·first|exact eN|refine eM ?_
    ·rintro _ _ ⟨rfl,rfl⟩;refine⟨[(1,.nm 1)],.p .bool ((fun a=>(Prod.fst a==v.1)) (l.getD k (0,0))),[(1,.box 87 true [.p T3 v.1,.p T3 v.2])],rfl,rfl,?_,?_,rfl,rfl,CM ?_⟩
     ·first|exact eN|refine eM ?_
     ·first|exact eN|refine eM ?_
     ·generalize r:(fun a=>(Prod.fst a==v.1)) (l.getD k (0,0))=i at *;have g:=j f i rfl;repeat'(first|exact trivial|refine eS rfl ?_|refine AB ?_|refine rX d ?_ ?_|refine rC ?_ ?_<;>intro c<;>try(cases c;done))
      ·have c:i=true:=c;rw[At c,hf]at g;refine Ev.ent (σ':=⟨[(4,.p (.int .i64) (k:Int))],[(1,.box 87 true [.p T3 v.1,.p T3 v.2])]⟩) ?_ (AC [(1,.nm 1)] rfl rfl ?_ ?_)
       ·exact fM d [.tmp 4] (.p T3 (k:Int)) eT ⟨by rw[g],rfl⟩
       ·first|exact eN|refine eM ?_
       ·first|exact eN|refine eM ?_
      ·omega
      ·have c:i=false:=c;rw[As (by rw[c];simp)]at g;refine⟨⟨k+1,f,g.symm.trans hf⟩,by simp only;omega,AC [(1,.nm 1)] rfl rfl ?_ ?_⟩
       ·first|exact eN|refine eM ?_
       ·first|exact eN|refine eM ?_
  ·have f:l.drop k=[]:=IF (gO.1 c);rw[f]at hf;have hf:(-1:Int)=Jy (fun a=>(Prod.fst a==v.1)) 0 l:=hf;refine Ev.ent (σ':=⟨[(4,.p (.int .i64) (-1))],[(1,.box 87 true [.p T3 v.1,.p T3 v.2])]⟩) ?_ (AC [(1,.nm 1)] rfl rfl ?_ ?_)
   ·exact fM d [.tmp 4] (.p T3 (-1)) eT ⟨by rw[hf],rfl⟩
   ·first|exact eN|refine eM ?_
   ·first|exact eN|refine eM ?_
theorem A1n (v:Int×Int) (l:List (Int×Int)) (e:l.length≤140737488355328):BB Tryz.prog 49 [.p DS l,.clo 50 [1]] [(1,.box 87 true [.p T3 v.1,.p T3 v.2])] [1] (fun res f=>res=.p .bool (l.any (fun a=>(Prod.fst a==v.1)))∧f=[(1,.box 87 true [.p T3 v.1,.p T3 v.2])]):=by
 refine KJ [0,1,4] [] [] Tryz.func49 Tryz.ntmps49 AG ?_;intro w0 K O0 ρ0 b g h;simp only[Ak];repeat'(first|exact trivial|refine eS rfl ?_|refine AB ?_|refine rX b ?_ ?_|refine rC ?_ ?_<;>intro c<;>try(cases c;done))
 refine cP 2 b ?_ ?_
 ·trivial
 ·have key:=u6 v l e;refine rM b (key) [(1,.nm 1)] [] ?_ ?_ ?_
  ·first|exact eN|refine eM ?_
  ·first|exact eN|refine eM ?_
  ·rintro _ _ ⟨rfl,rfl⟩;refine⟨[(1,.nm 1)],.p T3 (Jy (fun a=>(Prod.fst a==v.1)) 0 l),[(1,.box 87 true [.p T3 v.1,.p T3 v.2])],rfl,rfl,?_,?_,rfl,rfl,?_⟩
   ·first|exact eN|refine eM ?_
   ·first|exact eN|refine eM ?_
   ·have ha:=VR (fun a=>(Prod.fst a==v.1)) 0 l;generalize Jy (fun a=>(Prod.fst a==v.1)) 0 l=d at *;refine rL b ?_ ?_
    ·trivial
    ·repeat'(first|exact trivial|refine eS rfl ?_|refine AB ?_|refine rX b ?_ ?_|refine rC ?_ ?_<;>intro c<;>try(cases c;done))
     refine Ev.ent (σ':=⟨[(4,.p .bool (decide (0≤d)))],[(1,.box 87 true [.p T3 v.1,.p T3 v.2])]⟩) ?_ (AC [(1,.nm 1)] rfl rfl ?_ ?_)
     ·exact fM b [.tmp 4] (.p .bool (decide (0≤d))) eT ⟨by rw[ha],rfl⟩
     ·first|exact eN|refine eM ?_
     ·first|exact eN|refine eM ?_
abbrev KY:=List (List (Int×Int))
def A3H (v:KY) (s:List Bool×Bool) (i:Nat):List Bool×Bool:=if (s.1.getD i false&&!((v.getD i []).any fun a=>s.1.getD a.2.toNat false))=true then (s.1.set i false,true) else s
def rB (v:KY) (l:List Bool) (i:Nat):List Bool×Bool:=(List.range i).foldl (A3H v) (l,false)
def VS (v:KY):Nat→List Bool→List Bool
 | 0,l=>l
 | k+1,l=>if (rB v l v.length).2=true then VS v k (rB v l v.length).1 else (rB v l v.length).1
def qK (v:KY):Bool:=(VS v (v.length+1) (List.replicate v.length true)).all (!·)
def QW (l:List Bool):Nat:=l.countP id
theorem iR:∀ {l:List Bool} {i:Nat},l.getD i false=true→QW (l.set i false)+1=QW l
 | [],i,h=>by simp at h
 | x :: l,0,h=>by
  have h:x=true:=by simpa using h
  subst h;simp[QW]
 | x :: l,i+1,h=>by
  have:=iR (l:=l) (i:=i) (by simpa using h);unfold QW at this ⊢;rw[ABR,AB5,AB5];omega
theorem A1o (n:Nat):QW (List.replicate n true)=n:=by unfold QW;rw[List.countP_eq_length.2 (fun a ha=>by rw[List.eq_of_mem_replicate ha];rfl),ABH]
theorem qL (v:KY) (l:List Bool) (i:Nat):rB v l (i+1)=A3H v (rB v l i) i:=by
 unfold rB;rw[AAe,ABx];rfl
theorem A1p (v:KY) (l:List Bool):∀i,(rB v l i).1.length=l.length∧((rB v l i).2=true→QW (rB v l i).1<QW l)∧((rB v l i).2=false→(rB v l i).1=l)∧QW (rB v l i).1≤QW l
 | 0=>⟨rfl,fun h=>(by cases h),fun _=>rfl,No _⟩
 | i+1=>by
  obtain⟨h1,b,c,d⟩:=A1p v l i;rw[qL];generalize rB v l i=s at *;unfold A3H;split
  ·rename_i h;rw[AT]at h;have f:=iR h.1;have a:QW (s.1.set i false)<QW l:=by omega
   exact⟨by simpa using h1,fun _=>a,fun e=>(by cases e),AC6 a⟩
  ·exact⟨h1,b,c,d⟩
structure MI (m:List (Int×Bool)) (l:List Bool):Prop where
 nd:(m.map (·.1)).Nodup
 get:∀k:Int,A6 T3 .bool k m=if 0≤k∧l.getD k.toNat false=true then some true else none
theorem qM (k:Int) (v:Bool):∀ {m:List (Int×Bool)},(m.map (·.1)).Nodup→((H3 T3 .bool k v m).map (·.1)).Nodup∧∀x,x∈(H3 T3 .bool k v m).map (·.1)→x=k∨x∈m.map (·.1)
 | [],_=>by simp[H3]
 | y :: m,h=>by
  rw[AA1,AAd]at h;unfold H3;split
  ·rename_i e;have e:k=y.1:=by simpa[Ja] using e
   refine⟨?_,fun x a=>?_⟩
   ·rw[AA1,AAd,e];exact h
   ·rcases By.1 a with a|a
    ·exact .inl a
    ·exact .inr (ON _ a)
  ·rename_i e;have e:¬k=y.1:=by simpa[Ja] using e
   obtain⟨c,b⟩:=qM k v h.2;refine⟨?_,fun x a=>?_⟩
   ·rw[AA1,AAd];refine⟨fun d=>?_,c⟩;rcases b _ d with a|a
    ·exact e a.symm
    ·exact h.1 a
   ·rcases By.1 a with a|a
    ·exact .inr (by rw[a];simp)
    ·exact(b x a).imp id fun g=>ON _ g
theorem iT (k:Int):∀m:List (Int×Bool),(NV T3 .bool k m).Sublist m
 | []=>List.Sublist.refl _
 | y :: m=>by
  unfold NV;split
  ·exact List.sublist_cons_self _ _
  ·exact(iT k m).cons_cons _
theorem Xv {x:Int}:∀ {m:List (Int×Bool)},x∉m.map (·.1)→A6 T3 .bool x m=none
 | [],_=>rfl
 | y :: m,h=>by
  unfold A6;rw[As (by
   intro e;have e:x=y.1:=by simpa[Ja] using e
   exact h (by rw[e];simp))]
  exact Xv fun a=>h (ON _ a)
theorem Xw (x k:Int):∀ {m:List (Int×Bool)},(m.map (·.1)).Nodup→A6 T3 .bool x (NV T3 .bool k m)=if x=k then none else A6 T3 .bool x m
 | [],_=>by simp[NV,A6]
 | y :: m,h=>by
  rw[AA1,AAd]at h;unfold NV;split
  ·rename_i e;have e:k=y.1:=by simpa[Ja] using e
   by_cases a:x=k
   ·rw[At a,a,e];exact Xv h.1
   ·rw[As a];have c:¬x=y.1:=by rw[←e];exact a
    simp[A6,Ja,c]
  ·rename_i e;have e:¬k=y.1:=by simpa[Ja] using e
   have f:=Xw x k h.2;by_cases b:x=y.1
   ·have d:¬x=k:=by rw[b];exact fun g=>e g.symm
    rw[As d];simp[A6,Ja,b]
   ·have hn:¬Ja T3 x y.1=true:=by simpa[Ja] using b
    simp only[A6];rw[As hn,As hn,f]
theorem MI.zero:MI [] (List.replicate 0 true):=⟨List.nodup_nil,fun k=>by simp[A6]⟩
theorem MI.put {m:List (Int×Bool)} {i:Nat} (h:MI m (List.replicate i true)):MI (H3 T3 .bool (i:Int) true m) (List.replicate (i+1) true):=by
 refine⟨(qM _ _ h.nd).1,fun(k:Int)=>?_⟩;rw[VK,h.get];by_cases hk:k=(i:Int)
 ·rw[At hk,At];subst hk;refine⟨AA3 _,?_⟩;simp[AS,AAF]
 ·rw[As hk];have e:(0≤k∧(List.replicate i true).getD k.toNat false=true)↔(0≤k∧(List.replicate (i+1) true).getD k.toNat false=true):=by
   simp only[AS,AAF];constructor
   ·rintro⟨a,b⟩;refine⟨a,?_⟩;split at b
    ·rw[At (by omega)];rfl
    ·simp at b
   ·rintro⟨a,b⟩;refine⟨a,?_⟩;split at b
    ·rw[At (by omega)];rfl
    ·simp at b
  by_cases c:0≤k∧(List.replicate i true).getD k.toNat false=true
  ·rw[At c,At (e.1 c)]
  ·rw[As c,As fun g=>c (e.2 g)]
theorem MI.del {m:List (Int×Bool)} {l:List Bool} (h:MI m l) (i:Nat):MI (NV T3 .bool (i:Int) m) (l.set i false):=by
 refine⟨h.nd.sublist ((iT _ m).map _),fun(k:Int)=>?_⟩;rw[Xw _ _ h.nd,h.get];by_cases hk:k=(i:Int)
 ·subst hk;rw[At rfl,As];rintro⟨-,b⟩;rw[bY]at b;simp only[AS,AAx]at b;rw[At trivial]at b;split at b<;>simp at b
 ·rw[As hk];by_cases a:0≤k
  ·have c:¬i=k.toNat:=by omega
   simp only[AS,AAx];rw[As c]
  ·rw[As fun g=>a g.1,As fun g=>a g.1]
theorem nD (y:Int×Bool) (m:List (Int×Bool)):A6 T3 .bool y.1 (y :: m)=some y.2:=by
 unfold A6;rw[At (by simp[Ja])]
theorem MI.len0 {m:List (Int×Bool)} {l:List Bool} (h:MI m l):m.length=0↔l.all (!·)=true:=by
 constructor
 ·intro e;have e:m=[]:=So e;subst e;refine GO.2 fun b a=>?_;obtain⟨i,hi,rfl⟩:=AAg.1 a;have:=h.get (i:Int);cases a:l[i] with
  | false=>rfl
  | true =>
   rw[At ⟨AA3 _,by rw[bY,AS,An hi,a];rfl⟩]at this;cases this
 ·intro e;cases m with
  | nil=>rfl
  | cons y m =>
   have:=h.get y.1;rw[nD]at this;split at this
   ·rename_i f;have d:y.1.toNat<l.length:=by
     refine Do fun hn=>?_;have:=f.2;rw[AS,iN (by omega)]at this;cases this
    have c:=f.2;rw[AS,An d]at c;have:=GO.1 e _ (AAh d);rw[show l[y.1.toNat]=true from c]at this;cases this
   ·cases this
theorem NG {x:Int}:∀ {m:List (Int×Bool)},x∈m.map (·.1)→A6 T3 .bool x m≠none
 | y :: m,h=>by
  unfold A6;split
  ·simp
  ·rename_i e;rcases By.1 h with h|h
   ·exact absurd (by simp[Ja,h]) e
   ·exact NG h
theorem MI.len {m:List (Int×Bool)} {l:List Bool} (h:MI m l):m.length≤l.length:=by
 have h1:((m.map (·.1)).map Int.toNat).Nodup:=by
  rw[List.Nodup,AAQ];refine h.nd.imp_of_mem fun {a b:Int} ha d i e=>i ?_;have h1:=NG ha;have c:=NG d;rw[h.get]at h1 c;have a0:0≤a:=Do fun g=>h1 (As fun q=>g q.1);have n:0≤b:=Do fun g=>c (As fun q=>g q.1);omega
 have:=EL l.length _ h1 (fun j f=>by
  obtain⟨x,k,rfl⟩:=IS.1 f;have h1:=NG k;rw[h.get]at h1;refine Do fun hn=>h1 (As fun g=>?_);have:=g.2;rw[AS,iN (by omega)]at this;cases this)
 simpa using this
theorem MI.look {m:List (Int×Bool)} {l:List Bool} (h:MI m l) {k:Int} (a:0≤k):(A6 T3 .bool k m).getD false=l.getD k.toNat false:=by
 rw[h.get];cases b:l.getD k.toNat false with
 | true=>rw[At ⟨a,rfl⟩];rfl
 | false=>rw[As fun g=>by cases g.2];rfl
section
def VOk (v:KY):Prop:=∀r∈v,∀a∈r,0≤a.2∧a.2<(v.length:Int)
theorem A1q {m:List (Int×Bool)} {l:List Bool} (h:MI m l) {r:List (Int×Int)} (c:∀a∈r,0≤a.2):(r.any fun a=>(A6 T3 .bool (Prod.snd a) m).getD false)=r.any fun a=>l.getD a.2.toNat false:=by
 induction r with
 | nil=>rfl
 | cons a r e =>
  rw[List.any_cons,List.any_cons,e (fun b d=>c b (ON _ d)),h.look (c a (by simp))]
def qN:Ae:={ ins:=[T45],pre:=fun(v,_)=>VOk v,out:=fun(v,_)=>[.p .bool (qK v)],lend:=true }
attribute [local go_sem] qN
theorem A3I:Ao Tryz.prog 24 qN:=by
 refine fK [0,2,3,4,5,6,9,10,11,16,18,19,20,33] Tryz.func24 Tryz.ntmps24 AG ?_;rintro w0 O0 ⟨v,u⟩ c ⟨⟨S,Q⟩,-⟩ w;have w:VOk v:=w;simp only[AO]at S;have R:∀r∈(v:KY),List.length r≤140737488355328:=fun r t=>(Q r t).1;simp only[qN,AM];repeat'(first|exact trivial|refine eS rfl ?_|refine AB ?_|refine rX c ?_ ?_|refine rC ?_ ?_<;>intro d<;>try(cases d;done))
 refine AJ (ι:={x:Nat×List (Int×Bool)//x.1≤List.length v∧MI x.2 (List.replicate x.1 true)}) (fun x=>⟨[(0,.p T45 v),(3,.bp 3 [] 0),(9,.p (.int .i64) (List.length v:Int)),(10,.p (.int .i64) (x.1.1:Int))],[(3,.box 95 false [.mp 7]),(7,.mapo T3 .bool x.1.2)]⟩) (fun x=>List.length v-x.1.1) ⟨(0,[]),Is _,MI.zero⟩ (AC [(3,.nm 3),(7,.nm 7)] rfl rfl ?_ ?_) (fun x=>?_)
 ·first|exact eN|refine eM ?_
 ·first|exact eN|refine eM ?_
 ·obtain⟨⟨i,m⟩,hi,s⟩:=x;simp only at hi s ⊢;repeat'(first|exact trivial|refine eS rfl ?_|refine AB ?_|refine rX c ?_ ?_|refine rC ?_ ?_<;>intro d<;>try(cases d;done))
  ·omega
  ·have g:i<List.length v:=by exact eV
   refine⟨⟨(i+1,H3 T3 .bool (i:Int) true m),g,s.put⟩,by simp only;omega,AC [(3,.nm 3),(7,.nm 7)] rfl rfl ?_ ?_⟩
   ·first|exact eN|refine eM ?_
   ·first|exact eN|refine eM ?_
  ·have g:i=List.length v:=by exact eV
   subst g;refine AJ (ι:={x:Bool×List (Int×Bool)×List Bool//x.2.2.length=List.length v∧MI x.2.1 x.2.2∧(x.1=true→∃k,QW x.2.2+1≤k∧VS v k x.2.2=VS v (List.length v+1) (List.replicate (List.length v) true))∧(x.1=false→x.2.2=VS v (List.length v+1) (List.replicate (List.length v) true))}) (fun x=>⟨[(0,.p T45 v),(3,.bp 3 [] 0),(5,.p .bool x.1.1)],[(3,.box 95 false [.mp 7]),(7,.mapo T3 .bool x.1.2.1)]⟩) (fun x=>2*QW x.1.2.2+(if x.1.1=true then 1 else 0)) ⟨(true,m,List.replicate (List.length v) true),by simp,s,fun _=>⟨_,by simp only[A1o];exact No _,rfl⟩,fun e=>by cases e⟩ (AC [(3,.nm 3),(7,.nm 7)] rfl rfl ?_ ?_) (fun x=>?_)
   ·first|exact eN|refine eM ?_
   ·first|exact eN|refine eM ?_
   ·obtain⟨⟨b,I,l⟩,q,n,B,C⟩:=x;simp only at q n B C ⊢;repeat'(first|exact trivial|refine eS rfl ?_|refine AB ?_|refine rX c ?_ ?_|refine rC ?_ ?_<;>intro d<;>try(cases d;done))
    ·have D:b=true:=d;obtain⟨k,hk,o⟩:=B D;obtain⟨k,rfl⟩:∃U,k=U+1:=⟨k-1,by omega⟩;refine AJ (ι:={x:Nat×List (Int×Bool)//x.1≤List.length v∧MI x.2 (rB v l x.1).1}) (fun x=>⟨[(0,.p T45 v),(3,.bp 3 [] 0),(5,.p .bool (rB v l x.1.1).2),(18,.p (.int .i64) (List.length v:Int)),(19,.p (.int .i64) (x.1.1:Int))],[(3,.box 95 false [.mp 7]),(7,.mapo T3 .bool x.1.2)]⟩) (fun x=>List.length v-x.1.1) ⟨(0,I),Is _,n⟩ (AC [(3,.nm 3),(7,.nm 7)] rfl rfl ?_ ?_) (fun x=>?_)
     ·first|exact eN|refine eM ?_
     ·first|exact eN|refine eM ?_
      rfl
     ·obtain⟨⟨i,h⟩,hi,j⟩:=x;simp only at hi j ⊢;have f:=qL v l i;have M:=A1p v l i;repeat'(first|exact trivial|refine eS rfl ?_|refine AB ?_|refine rX c ?_ ?_|refine rC ?_ ?_<;>intro d<;>try(cases d;done))
      ·have g:i<List.length v:=by exact eV
       have E:=j.look (k:=(i:Int)) (AA3 _);rw[bY]at E;have F:List.getD v i []∈(v:KY):=AD (v:KY) [] g;have K:=A1q j (r:=List.getD v i []) fun a ha=>(w _ F a ha).1;have G:A3H v (rB v l i) i=if ((rB v l i).1.getD i false&&!((List.getD v i []).any fun a=>(rB v l i).1.getD a.2.toNat false))=true then ((rB v l i).1.set i false,true) else rB v l i:=rfl
       rw[←K,←E]at G;rw[G]at f;have L:=j.del i;refine evP c 4 ?_ ?_
       ·trivial
       ·cases A:(A6 T3 .bool (i:Int) h).getD false with
        | false =>
         rw[A,Bool.false_and,As (by simp)]at f;refine rL c ?_ ?_
         ·trivial
         ·repeat'(first|exact trivial|refine eS rfl ?_|refine AB ?_|refine rX c ?_ ?_|refine rC ?_ ?_<;>intro d<;>try(cases d;done))
          ·omega
          ·refine⟨⟨(i+1,h),g,by rw[f];exact j⟩,by simp only;omega,AC [(3,.nm 3),(7,.nm 7)] rfl rfl ?_ ?_⟩
           ·first|exact eN|refine eM ?_
           ·simp only[f];first|exact eN|refine eM ?_
        | true =>
         rw[A,ABV]at f;refine rN 5 c ?_ ?_
         ·exact d
         ·have key:=A1m h (List.getD v i []) (R _ F);generalize List.any (List.getD v i []) (fun a=>(A6 T3 .bool (Prod.snd a) h).getD false)=y at *;refine clG c (key) [(1,.nm 3),(3,.nm 7)] [] ?_ ?_ ?_
          ·first|exact eN|refine eM ?_
          ·first|exact eN|refine eM ?_
          ·rintro _ _ ⟨rfl,rfl⟩;refine⟨[(3,.nm 1),(7,.nm 3)],.p .bool y,[(3,.box 95 false [.mp 7]),(7,.mapo T3 .bool h)],rfl,rfl,?_,?_,rfl,rfl,?_⟩
           ·first|exact eN|refine eM ?_
           ·first|exact eN|refine eM ?_
           ·refine rL c ?_ ?_
            ·trivial
            ·cases z:y with
             | true =>
              subst z;rw[ACe,As (by simp)]at f;repeat'(first|exact trivial|refine eS rfl ?_|refine AB ?_|refine rX c ?_ ?_|refine rC ?_ ?_<;>intro d<;>try(cases d;done))
              ·omega
              ·refine⟨⟨(i+1,h),g,by rw[f];exact j⟩,by simp only;omega,AC [(3,.nm 3),(7,.nm 7)] rfl rfl ?_ ?_⟩
               ·first|exact eN|refine eM ?_
               ·simp only[f];first|exact eN|refine eM ?_
             | false =>
              subst z;rw[ACv,At rfl]at f;repeat'(first|exact trivial|refine eS rfl ?_|refine AB ?_|refine rX c ?_ ?_|refine rC ?_ ?_<;>intro d<;>try(cases d;done))
              refine cP 2 c ?_ ?_
              ·trivial
              ·refine A8G c Tryz.underlying95 Tryz.underlying3 ?_;refine rL c ?_ ?_
               ·trivial
               ·repeat'(first|exact trivial|refine eS rfl ?_|refine AB ?_|refine rX c ?_ ?_|refine rC ?_ ?_<;>intro d<;>try(cases d;done))
                ·omega
                ·refine⟨⟨(i+1,NV T3 .bool (i:Int) h),g,by rw[f];exact L⟩,by simp only;omega,AC [(3,.nm 3),(7,.nm 7)] rfl rfl ?_ ?_⟩
                 ·first|exact eN|refine eM ?_
                 ·simp only[f];first|exact eN|refine eM ?_
      ·have g:i=List.length v:=by exact eV
       subst g;obtain⟨T,H,V,W⟩:=M;have J:VS v (k+1) l=if (rB v l (List.length v)).2=true then VS v k (rB v l (List.length v)).1 else (rB v l (List.length v)).1:=rfl
       rw[J]at o;refine⟨⟨((rB v l (List.length v)).2,h,(rB v l (List.length v)).1),T.trans q,j,fun e=>⟨k,?_,?_⟩,fun e=>?_⟩,?_,AC [(3,.nm 3),(7,.nm 7)] rfl rfl ?_ ?_⟩
       ·have:=H e;simp only;omega
       ·rw[←o,At e]
       ·rw[←o,As (by rw[show (rB v l (List.length v)).2=false from e];simp)]
       ·simp only;rw[At D];split
        ·rename_i e;have:=H e;omega
        ·omega
       ·first|exact eN|refine eM ?_
       ·first|exact eN|refine eM ?_
    ·have N:=C d;have O:=n.len0;have P:=n.len;rw[q]at P;have t:((I.length:Int)==0)=qK v:=by
      unfold qK;rw[←N,ABi,tO,←O];omega
     refine cP 1 c ?_ ?_
     ·trivial
     ·refine A8H c Tryz.underlying95 ?_ ?_
      ·simp only[AO];omega
      ·refine rL c ?_ ?_
       ·trivial
       ·repeat'(first|exact trivial|refine eS rfl ?_|refine AB ?_|refine rX c ?_ ?_|refine rC ?_ ?_<;>intro d<;>try(cases d;done))
        exact fI c [.tmp 2] (by rw[←t];exact eR)
end
def ZL:Ae:={ ins:=[DS],pre:=fun(l,_)=>List.length l≤100000,out:=fun(l,_)=>[.own 53 BI l] }
theorem u7:Ao Tryz.prog 48 ZL:=by
 refine fK [0,2,4] Tryz.func48 Tryz.ntmps48 AG ?_;rintro w0 O0 ⟨l,u⟩ a-d;have d:List.length l≤100000:=d;simp only[ZL,AM];repeat'(first|exact trivial|refine eS rfl ?_|refine AB ?_|refine rX a ?_ ?_|refine rC ?_ ?_<;>intro c<;>try(cases c;done))
 refine cP 1 a ?_ ?_
 ·trivial
 ·refine XE a false rfl rfl ?_;intro b e;refine rL a ?_ ?_
  ·trivial
  ·repeat'(first|exact trivial|refine eS rfl ?_|refine AB ?_|refine rX a ?_ ?_|refine rC ?_ ?_<;>intro c<;>try(cases c;done))
   ·have f:l=[]:=e c;subst f;refine Ev.ent (σ':=⟨[(2,.sr 5 BI 0 0)],[(5,.arr 53 BI [])]⟩) ?_ (AC [(5,.nil)] rfl rfl ?_ ?_)
    ·exact IM a (.inl rfl) (rv:=.tmp 2) rfl (by simp only[JB,IK,Gw,go_sem,Nat.reduceEqDiff,reduceCtorEq,Nat.reduceAdd,Nat.reduceSub,Nat.reduceMul,Nat.reduceLeDiff,Nat.reduceLT,Int.reduceLE,Int.reduceToNat,Int.reduceNeg,↓reduceIte])
    ·first|exact eN|refine eM ?_
    ·first|exact eN|refine eM ?_
   ·simp only[AO];omega
   ·exact IM a (.inl rfl) (rv:=.tmp 2) rfl (by simp only[JB,IK,Gw,go_sem,Nat.reduceEqDiff,reduceCtorEq,Nat.reduceAdd,Nat.reduceSub,Nat.reduceMul,Nat.reduceLeDiff,Nat.reduceLT,Int.reduceLE,Int.reduceToNat,Int.reduceNeg,↓reduceIte])
def Iv (h:AI):KY:=h.1.map fun t=>t.2.2.2
def VT (N:List AE) (i:Nat) (v:Int×Int):List AE:=N.set i ((N.getD i (0,[])).1,(N.getD i (0,[])).2++[(v.1,(N.length:Int))])++[(v.2,[])]
def WW (i:Nat):List (Int×Int)→List AE→Option (List AE)
 | [],N=>some N
 | v :: r,N=>if ((N.getD i (0,[])).2.any fun a=>a.1==v.1)=true then WW i r N else if 4096≤N.length then none else WW i r (VT N i v)
def iU (h:AI):Nat→Nat→List AE→Option (List AE)
 | 0,_,_=>none
 | k+1,i,N=>if i<N.length then (WW i (Jx h (N.getD i (0,[])).1) N).bind (iU h k (i+1)) else some N
def Iw (h:AI) (f:List AE):List AE×Int :=
 if (Al h f).2=false then ([],12) else if qK (Iv h)=false then ([],6)
 else match iU h ((Al h f).1.length+4097) 0 (Al h f).1 with
  | none=>([],7)
  | some N=>A2 N
theorem iV (N:List AE) (i:Nat) (v:Int×Int):(VT N i v).length=N.length+1:=by simp[VT]
structure wB (h:AI) (m i k:Nat) (N:List AE):Prop where
 len:N.length≤m
 ty:∀x∈N,0≤x.1∧x.1<(h.1.length:Int)
 lo:∀j,j<i→(N.getD j (0,[])).2.length≤200
 at':(N.getD i (0,[])).2.length≤100+k
 hi:∀j,i<j→(N.getD j (0,[])).2.length≤100
theorem A1r {α:Type} (l:List α) (x d:α) (j:Nat):(l++[x]).getD j d=if j<l.length then l.getD j d else if j=l.length then x else d:=by
 simp only[AS];by_cases h:j<l.length
 ·rw[At h,oS h]
 ·rw[As h,AA4 (by omega)];by_cases e:j=l.length
  ·rw[At e,e,AB1];rfl
  ·rw[As e,iN (by simp only[To];omega)];rfl
theorem NH {α:Type} (l:List α) (x d:α) {i:Nat} (h:i<l.length) (j:Nat):(l.set i x).getD j d=if j=i then x else l.getD j d:=by
 simp only[AS,AAx];by_cases e:i=j
 ·rw[At e,At h,At e.symm];rfl
 ·rw[As e,As (show ¬j=i by omega)]
theorem A1s {N:List AE} {i:Nat} (h:i<N.length) (v:Int×Int) (j:Nat):(VT N i v).getD j (0,[])=if j=i then ((N.getD i (0,[])).1,(N.getD i (0,[])).2++[(v.1,(N.length:Int))]) else if j=N.length then (v.2,[]) else N.getD j (0,[]):=by
 unfold VT;rw[A1r,NH _ _ _ h,AA5];by_cases a:j=i
 ·rw[At a,At (by omega),At a]
 ·rw[As a,As a];by_cases c:j<N.length
  ·rw[At c,As (by omega)]
  ·rw[As c];by_cases b:j=N.length
   ·rw[At b,At b]
   ·rw[As b,As b,AS,iN (by omega)];rfl
theorem wB.add {h:AI} {m i k:Nat} {N:List AE} (b:wB h m i k N) (hi:i<N.length) (f:4096≤m) (e:N.length<4096) {v:Int×Int} (v0:0≤v.2) (v1:v.2<(h.1.length:Int)):wB h m i (k+1) (VT N i v):=by
 have c:=fun j=>A1s hi v j;refine⟨by rw[iV];omega,fun x a=>?_,fun j d=>?_,?_,fun j d=>?_⟩
 ·unfold VT at a;rcases OF.1 a with a|a
  ·rcases AB6 a with a|rfl
   ·exact b.ty x a
   ·exact(b.ty (N.getD i (0,[])) (AD N (0,[]) hi) :)
  ·rw[AAz.1 a];exact⟨v0,v1⟩
 ·rw[c,As (by omega),As (by omega)];exact b.lo j d
 ·rw[c,At rfl];have:=b.at';simp only[IN,To];omega
 ·rw[c,As (by omega)];split
  ·simp
  ·exact b.hi j d
theorem wB.skip {h:AI} {m i k:Nat} {N:List AE} (a:wB h m i k N):wB h m i (k+1) N:=⟨a.len,a.ty,a.lo,by have:=a.at';omega,a.hi⟩
theorem wB.next {h:AI} {m i k:Nat} {N:List AE} (a:wB h m i k N) (hk:k≤100):wB h m (i+1) 0 N:=⟨a.len,a.ty,fun j b=>by
 by_cases e:j=i
 ·have:=a.at';rw[e];omega
 ·exact a.lo j (by omega),a.hi (i+1) (by omega),fun j b=>a.hi j (by omega)⟩
structure A1t (h:AI) (f:List AE):Prop where
 inf:iQ h f
 fw:∀t∈h.1,t.2.2.2.length≤100
 vok:VOk (Iv h)
 rw':∀x∈f,x.2.length≤100
theorem A4p {h:AI} (hk:Jw h) (hi:I2 h) (hf:ZJ h) {f:List AE} (ha:Md h f):∀ {k i:Nat} {s:EH} {ty:List Int},NE h f.length s→qH h f k i s=some ty→ty.length=f.length∧∀t∈ty,0≤t∧t<(h.1.length:Int)
 | 0,_,_,_,_,e=>by cases e
 | k+1,i,s,ty,hs,e=>by
  unfold qH at e;split at e
  ·rename_i b;obtain⟨n0,n1⟩:=hs.wt _ (AD s.2 (0:Int) b);cases a:KU h f (s.2.getD i 0) s with
   | none=>rw[a]at e;cases e
   | some s1 =>
    rw[a]at e;exact A4p hk hi hf ha (QV hk hi hf ha n0 n1 hs a).1 e
  ·injection e with e
   subst e;exact⟨hs.len,hs.ty⟩
theorem iW {h:AI} {f:List AE} (hp:iQ h f):∀x∈(Al h f).1,(0≤x.1∧x.1<(h.1.length:Int))∧∃y∈f,x.2=y.2:=by
 unfold Al;cases e:D6 h f with
 | none=>intro x a;cases a
 | some ty =>
  obtain⟨h1,b⟩:=A4p hp.ok hp.inj hp.ft hp.arcs (qJ hp.ty) e;intro x a;obtain⟨i,hi,rfl⟩:=IS.1 a;have hi:=nO.1 hi;exact⟨b _ (AD ty (0:Int) (by omega)),_,AD f (0,[]) hi,rfl⟩
theorem RZ (h:AI) (f:List AE):(Al h f).1.length≤f.length:=by
 unfold Al;split
 ·rw[CG];exact No _
 ·simp
theorem A1u {h:AI} {f:List AE} (hp:A1t h f):wB h (max 4096 (Al h f).1.length) 0 0 (Al h f).1:=by
 have b:∀j,((Al h f).1.getD j (0,[])).2.length≤100:=fun j=>by
  by_cases a:j<(Al h f).1.length
  ·obtain⟨-,y,d,e⟩:=iW hp.inf _ (AD (Al h f).1 (0,[]) a);rw[e];exact hp.rw' y d
  ·rw[AS,iN (by omega)];simp
 exact⟨Nat.le_max_right _ _,fun x c=>(iW hp.inf x c).1,fun j a=>by omega,b 0,fun j _=>b j⟩
section
attribute [local go_sem] Oj qN ZL QT
attribute [local go_sem] UO k5 ne_eq not_false_eq_true
def ZM:Ae:={ ins:=[Ga,E0],pre:=fun(h,f,_)=>A1t h f,out:=fun(h,f,_)=>[.p E0 (Iw h f).1,.p WA (Iw h f).2] }
attribute [local go_sem] ZM
theorem A1v:Ao Tryz.prog 21 ZM:=by
 refine fKP [0,1,2,3,4,5,6,7,8,10,11,13,14,16,24,27,28,29,30,41,44,45,46,47,63,75,76,77,78,87,90] [] [(57,53),(112,53)] Tryz.func21 Tryz.ntmps21 (AF Mh (AF A3I (AF u7 (AF Xn AG)))) ?_;rintro w0 O0 ⟨⟨b,hf⟩,f,u⟩ d-hp;have hp:A1t (b,hf) f:=hp;have ak:b.length≤256:=hp.inf.ok.2;simp only[ZM,AM];repeat'(first|exact trivial|refine eS rfl ?_|refine AB ?_|refine rX d ?_ ?_|refine rC ?_ ?_<;>intro c<;>try(cases c;done))
 ·exact hp.inf
 ·have g:Iw (b,hf) f=([],12):=At c;exact fI d [.cell 4 25,.tmp 5] (by rw[g];exact eR)
 ·have Q:¬(Al (b,hf) f).2=false:=by rw[c];simp
  have F:(Iv (b,hf)).length=b.length:=by simp[Iv]
  refine AJ (ι:={i:Nat//i≤b.length}) (fun i=>⟨[(2,.bp 2 [] 0),(4,.bp 4 [] 0),(6,.bp 6 [] 0),(8,.sr 37 jZ 0 i.1),(27,.p S5 b),(28,.p (.int .i64) (b.length:Int)),(29,.p (.int .i64) (i.1:Int))],[(6,.box 25 true [.p F6 (Al (b,hf) f).1]),(4,.box 25 true [.raw (.slice none 0 0)]),(2,.box 31 true [.p S5 b,.p WB hf]),(37,.arr 82 jZ ((Iv (b,hf)).take i.1))]⟩) (fun i=>b.length-i.1) ⟨0,Is _⟩ (AC [(6,.nm 6),(4,.nm 4),(2,.nm 2),(37,.nil)] rfl rfl ?_ ?_) (fun i=>?_)
  ·first|exact eN|refine eM ?_
  ·first|exact eN|refine eM ?_
  ·obtain⟨i,hi⟩:=i;have ab:i<b.length→(Iv (b,hf)).take i++[(List.getD b i (ByteArray.empty,[],[],[])).2.2.2]=(Iv (b,hf)).take (i+1):=fun h=>by
    rw[Ax (Iv (b,hf)) [] (by rw[F];exact h)];simp[Iv,AS,h]
   have al:((Iv (b,hf)).take i).length=i:=by rw[OS,F];omega
   have R:((Iv (b,hf)).take i).take i=(Iv (b,hf)).take i:=by rw[AC4,Nat.min_self]
   simp only;have E:i=b.length→List.take i (List.take i (Iv (b,hf)))=Iv (b,hf):=fun e=>by
    rw[R];exact BY (by rw[F];omega)
   repeat'(first|exact trivial|refine eS rfl ?_|refine AB ?_|refine rX d ?_ ?_|refine rC ?_ ?_<;>intro c<;>try(cases c;done))
   ·exact c
   ·simp only[AO];omega
   ·omega
   ·have K:i<b.length:=If.1 c;have aa:=ab K;refine⟨⟨i+1,K⟩,by simp only;omega,AC [(6,.nm 6),(4,.nm 4),(2,.nm 2),(37,.nm 37)] rfl rfl ?_ ?_⟩
    ·simp only[←aa];first|exact eN|refine eM ?_
     rw[R]
    ·first|exact eN|refine eM ?_
   ·rw[E (by exact eV)];exact hp.vok
   ·have m:=E (by exact eV);rw[m]at c;have g:Iw (b,hf) f=([],6):=by
     unfold Iw;rw[As Q,At c]
    exact fI d [.cell 4 25,.tmp 5] (by rw[g];exact eR)
   ·have m:=E (by exact eV);rw[m]at c;have D:=A1u hp;have an:=RZ (b,hf) f;have aj:=hp.inf.good.1;have g:Iw (b,hf) f=match iU (b,hf) ((Al (b,hf) f).1.length+4097) 0 (Al (b,hf) f).1 with
      | none=>([],7)
      | some N=>A2 N:=by
     unfold Iw;rw[As Q,As (by rw[c];simp)];all_goals rfl
    generalize (Al (b,hf) f).1=x at *;refine AJ (ι:={j:Nat//j≤x.length}) (fun j=>⟨[(2,.bp 2 [] 0),(4,.bp 4 [] 0),(11,.sr 58 Ox 0 j.1),(44,.p F6 x),(45,.p (.int .i64) (x.length:Int)),(46,.p (.int .i64) (j.1:Int))],[(4,.box 25 true [.raw (.slice none 0 0)]),(2,.box 31 true [.p S5 b,.p WB hf]),(58,.nest 49 53 T3 BI (x.take j.1) none)]⟩) (fun j=>x.length-j.1) ⟨0,Is _⟩ (AC [(4,.nm 4),(2,.nm 2),(58,.nil)] rfl rfl ?_ ?_) (fun j=>?_)
    ·first|exact eN|refine eM ?_
    ·first|exact eN|refine eM ?_
    ·obtain⟨j,O⟩:=j;have X:∀y∈x,y.2.length≤100:=fun y G=>by
      obtain⟨k,hk,rfl⟩:=AAg.1 G;have e:x.getD k (0,[])=x[k]:=by rw[AS,An hk];rfl
      rw[←e];by_cases h0:k=0
      ·rw[h0];exact D.at'
      ·exact D.hi k (by omega)
     simp only;repeat'(first|exact trivial|refine eS rfl ?_|refine AB ?_|refine rX d ?_ ?_|refine rC ?_ ?_<;>intro c<;>try(cases c;done))
     ·exact c
     ·have z:j<x.length:=If.1 c;have Y:=X _ (AD x (0,[]) z);refine Bu drawsAny d 9 [([1,2,3,4,5,6],7),([0],8)] [] (by kernel_rfl) (Jr ?_ ?_)
      ·dsimp only[Ty.den]at *;omega
      ·refine A8J d ?_ ?_
       ·rfl
       ·refine Jr ?_ ?_
        ·trivial
        ·refine Ld d [58,57] ?_ ?_
         ·have e:(List.take j x).length=j:=by rw[OS];omega
          rw[e];simp only[AO];exact⟨trivial,by omega⟩
         ·refine Ow d ?_ ?_ ?_
          ·trivial
          ·trivial
          ·repeat'(first|exact trivial|refine eS rfl ?_|refine AB ?_|refine rX d ?_ ?_|refine rC ?_ ?_<;>intro c<;>try(cases c;done))
           ·omega
           ·have e:=Ax x (0,[]) z;refine⟨⟨j+1,z⟩,by simp only;omega,AC [(4,.nm 4),(2,.nm 2),(58,.nm 58)] rfl rfl ?_ ?_⟩
            ·simp only[e];first|exact eN|refine eM ?_
            ·first|exact eN|refine eM ?_
             rw[OS];omega
     ·have z:j=x.length:=by exact eV
      subst z;have ad:x.take x.length=x:=BY (No _);rw[ad];refine AJ (ι:={s:Nat×List AE//s.1≤s.2.length∧wB (b,hf) (max 4096 x.length) s.1 0 s.2∧∃k,max 4096 x.length+1≤k+s.1∧iU (b,hf) (x.length+4097) 0 x=iU (b,hf) k s.1 s.2}) (fun s=>⟨[(2,.bp 2 [] 0),(4,.bp 4 [] 0),(11,.sr 58 Ox 0 s.1.2.length),(14,.p (.int .i64) (s.1.1:Int))],[(4,.box 25 true [.raw (.slice none 0 0)]),(2,.box 31 true [.p S5 b,.p WB hf]),(58,.nest 49 53 T3 BI s.1.2 none)]⟩) (fun s=>max 4096 x.length+1-s.1.1) ⟨(0,x),Is _,D,x.length+4097,by omega,rfl⟩ (AC [(4,.nm 4),(2,.nm 2),(58,.nm 58)] rfl rfl ?_ ?_) (fun s=>?_)
      ·first|exact eN|refine eM ?_
      ·first|exact eN|refine eM ?_
      ·obtain⟨⟨i,N⟩,V,r,k,hk,m⟩:=s;simp only at V r m hk ⊢;have ai:=r.len;repeat'(first|exact trivial|refine eS rfl ?_|refine AB ?_|refine rX d ?_ ?_|refine rC ?_ ?_<;>intro c<;>try(cases c;done))
       ·have q:i<N.length:=If.1 c;exact⟨c,r.ty _ (AD N (0,[]) q)⟩
       ·have q:i<N.length:=If.1 c;obtain⟨ae,af⟩:=r.ty _ (AD N (0,[]) q);obtain⟨k,rfl⟩:∃H,k=H+1:=⟨k-1,by omega⟩;have C:iU (b,hf) (k+1) i N=(WW i (Jx (b,hf) (N.getD i (0,[])).1) N).bind (iU (b,hf) k (i+1)):=At q;rw[C]at m;have P:=Xr (h:=(b,hf)) ae af;have ag:(Jx (b,hf) (N.getD i (0,[])).1).length≤100:=hp.fw _ P;have T:∀a∈Jx (b,hf) (N.getD i (0,[])).1,0≤a.2∧a.2<((b,hf):AI).1.length:=hp.inf.ft.val _ P;have J:∀l,l=Jx (b,hf) (N.getD i (0,[])).1→(List.getD b (Int.toNat (N.getD i (0,[])).1) (ByteArray.empty,[],[],[])).2.2.2=l:=fun l e=>by rw[e];rfl
        generalize S:Jx (b,hf) (N.getD i (0,[])).1=L at *;rw[J L rfl];clear J S;refine AJ (ι:={y:Nat×List AE//y.1≤L.length∧wB (b,hf) (max 4096 x.length) i y.1 y.2∧i<y.2.length∧WW i L N=WW i (L.drop y.1) y.2}) (fun y=>⟨[(2,.bp 2 [] 0),(4,.bp 4 [] 0),(11,.sr 58 Ox 0 y.1.2.length),(14,.p (.int .i64) (i:Int)),(75,.p jZ L),(76,.p (.int .i64) (L.length:Int)),(77,.p (.int .i64) (y.1.1:Int))],[(4,.box 25 true [.raw (.slice none 0 0)]),(2,.box 31 true [.p S5 b,.p WB hf]),(58,.nest 49 53 T3 BI y.1.2 none)]⟩) (fun y=>L.length-y.1.1) ⟨(0,N),Is _,r,q,rfl⟩ (AC [(4,.nm 4),(2,.nm 2),(58,.nm 58)] rfl rfl ?_ ?_) (fun y=>?_)
        ·first|exact eN|refine eM ?_
        ·first|exact eN|refine eM ?_
        ·obtain⟨⟨j,M⟩,O,t,o,n⟩:=y;simp only at O t o n ⊢;have ah:=t.len;repeat'(first|exact trivial|refine eS rfl ?_|refine AB ?_|refine rX d ?_ ?_|refine rC ?_ ?_<;>intro c<;>try(cases c;done))
         ·exact c
         ·have B:j<L.length:=If.1 c;have w:WW i (L.drop j) M=if ((M.getD i (0,[])).2.any fun a=>a.1==(L.getD j (0,0)).1)=true then WW i (L.drop (j+1)) M else if 4096≤M.length then none else WW i (L.drop (j+1)) (VT M i (L.getD j (0,0))):=by rw[Ll (0,0) B];rfl
          obtain⟨v0,v1⟩:=T _ (AD L (0,0) B);have Y:=t.at';generalize am:L.getD j (0,0)=v at *;refine cP 6 d ?_ ?_
          ·exact If.2 o
          ·have key:=A1n v (M.getD i (0,[])).2 (by omega);generalize List.any (M.getD i (0,[])).2 (fun a=>(Prod.fst a==v.1))=I at *;refine A8K d key rfl ?_;refine rL d ?_ ?_
           ·trivial
           ·repeat'(first|exact trivial|refine eS rfl ?_|refine AB ?_|refine rX d ?_ ?_|refine rC ?_ ?_<;>intro c<;>try(cases c;done))
            ·omega
            ·rename_i A;rw[At c]at w;refine⟨⟨(j+1,M),B,t.skip,o,n.trans w⟩,by simp only;omega,AC [(4,.nm 4),(2,.nm 2),(58,.nm 58)] rfl rfl ?_ ?_⟩
             ·first|exact eN|refine eM ?_
             ·first|exact eN|refine eM ?_
            ·have A:I=false:=by assumption
             rw[As (by rw[A];simp),At (gO.1 c)]at w;rw[m,n,w]at g;have g:Iw (b,hf) f=([],7):=g;exact fI d [.cell 4 25,.tmp 5] (by rw[g];exact eR)
            ·have W:M.length<4096:=If.1 c;have A:I=false:=by assumption
             rw[As (by rw[A];simp),As (by omega)]at w;refine Bu drawsAny d 14 [([2,3,4,5,6,7,8,9,10,11,12],13)] [0,1] (by kernel_rfl) (Jr ?_ ?_)
             ·exact If.2 o
             ·refine mxN d 58 ?_ ?_
              ·simp only[AO];dsimp only[Ty.den]at *;omega
              ·refine Ow d ?_ ?_ ?_
               ·trivial
               ·exact If.2 o
               ·repeat'(first|exact trivial|refine eS rfl ?_|refine AB ?_|refine rX d ?_ ?_|refine rC ?_ ?_<;>intro c<;>try(cases c;done))
                ·rw[AA5];simp only[AO];exact⟨trivial,by omega⟩
                ·omega
                ·refine⟨⟨(j+1,VT M i v),B,t.add o (by omega) W v0 v1,by rw[iV];omega,n.trans w⟩,by simp only;omega,AC [(4,.nm 4),(2,.nm 2),(58,.nm 58)] rfl rfl ?_ ?_⟩
                 ·unfold VT;first|exact eN|refine eM ?_
                 ·unfold VT;first|exact eN|refine eM ?_
         ·omega
         ·have U:L.drop j=[]:=IF (gO.1 c);rw[U]at n;have n:WW i L N=some M:=n;rw[n]at m;refine⟨⟨(i+1,M),o,t.next (by omega),k,by simp only;omega,m⟩,by simp only;omega,AC [(4,.nm 4),(2,.nm 2),(58,.nm 58)] rfl rfl ?_ ?_⟩
          ·first|exact eN|refine eM ?_
          ·first|exact eN|refine eM ?_
       ·have q:¬i<N.length:=fun h=>by
         have:=gO.1 c;omega
        obtain⟨k,rfl⟩:∃H,k=H+1:=⟨k-1,by omega⟩;have C:iU (b,hf) (k+1) i N=some N:=As q;rw[m,C]at g;have g:Iw (b,hf) f=A2 N:=g;have Z:KT N:=fun y G=>by
         obtain⟨k,hk,rfl⟩:=AAg.1 G;have e:N.getD k (0,[])=N[k]:=by rw[AS,An hk];rfl
         rw[←e];exact r.lo k (by omega)
        refine Gy [58] ?_;repeat'(first|exact trivial|refine eS rfl ?_|refine AB ?_|refine rX d ?_ ?_|refine rC ?_ ?_<;>intro c<;>try(cases c;done))
        ·exact Z
        ·exact fI d [.cell 4 25,.tmp 5] (by rw[g];exact eR)
end
section
attribute [local go_sem] MQ QE Uk QI
def JT:Ae:={ ins:=[FC],pre:=fun _=>True,out:=fun(d,_)=>[.p Ga (AP d)] }
attribute [local go_sem] JT
theorem NI:Ao Tryz.prog 14 JT:=by
 refine fK [0,2,3,4,5,9,16] Tryz.func14 Tryz.ntmps14 (AF mB (AF l9 AG)) ?_;rintro w0 O0 ⟨d,u⟩ a - -;simp only[JT,AM];repeat'(first|exact trivial|refine eS rfl ?_|refine AB ?_|refine rX a ?_ ?_|refine rC ?_ ?_<;>intro b<;>try(cases b;done))
 ·have h1:AP d=(Az d).1:=by unfold AP;rw[At ⟨by exact eV,b⟩]
  exact fI a [.cell 2 31] (by rw[h1];exact eR)
 ·have h1:AP d=(Az Ik).1:=by unfold AP;rw[As (fun h=>b h.2)]
  exact fI a [.cell 2 31] (by rw[h1];exact eR)
 ·have h1:AP d=(Az Ik).1:=by
   unfold AP;rw[As];intro h;have:=h.1;exact eV
  exact fI a [.cell 2 31] (by rw[h1];exact eR)
def LP:Ae:={ ins:=[Ga,T58],pre:=fun _=>True,out:=fun(h,l,_)=>[.p .bool (Nr h l)],lend:=true }
attribute [local go_sem] LP
theorem Ra:Ao Tryz.prog 17 LP:=by
 refine fK [0,1,2,4,6,7,8,9,10,21] Tryz.func17 Tryz.ntmps17 (AF A0P (AF t6 AG)) ?_;rintro w0 O0 ⟨⟨c,hf⟩,l,u⟩ d ⟨-,⟨j,-⟩,-⟩ -;simp only[AO]at j;simp only[LP,AM];repeat'(first|exact trivial|refine eS rfl ?_|refine AB ?_|refine rX d ?_ ?_|refine rC ?_ ?_<;>intro a<;>try(cases a;done))
 refine AJ (ι:={k:Nat//k≤l.length∧(l.take k).all (Jv (c,hf))=true}) (fun k=>⟨[(2,.bp 2 [] 0),(7,.p T58 l),(8,.p (.int .i64) (l.length:Int)),(9,.p (.int .i64) (k.1:Int))],[(2,.box 31 true [.p S5 c,.p WB hf])]⟩) (fun k=>l.length-k.1) ⟨0,by simp⟩ (AC [(2,.nm 2)] rfl rfl ?_ ?_) (fun k=>?_)
 ·first|exact eN|refine eM ?_
 ·first|exact eN|refine eM ?_
 ·obtain⟨k,hk,g⟩:=k;repeat'(first|exact trivial|refine eS rfl ?_|refine AB ?_|refine rX d ?_ ?_|refine rC ?_ ?_<;>intro a<;>try(cases a;done))
  ·exact a
  ·intro h;obtain⟨h1,b⟩:=MU (f:=l.getD k []) (by simpa using h);exact⟨aT h1 (by decide),fun x m=>aT (b x m) (by decide)⟩
  ·have e:k<l.length:=If.1 (by assumption);have h1:Nr (c,hf) l=false:=by
    unfold Nr;rw[AAR];refine⟨_,AD l [] e,?_⟩;unfold Jv;rw[AT,tO];rintro⟨b,i⟩;rcases a with h|h
    ·rw[b]at h;cases h
    ·exact h i
   exact fI d [.tmp 4] (by rw[h1];exact eR)
  ·omega
  ·have e:k<l.length:=If.1 (by assumption);refine⟨⟨k+1,e,?_⟩,by simp only;omega,AC [(2,.nm 2)] rfl rfl ?_ ?_⟩
   ·have h:Jv (c,hf) (l.getD k [])=true:=by
     have b:=a.2;unfold Jv;rw[a.1,ABV,tO];simpa using b
    rw[Ax l [] e,ABy,g];simpa using h
   ·first|exact eN|refine eM ?_
   ·first|exact eN|refine eM ?_
  ·have hk:l.take k=l:=BY (gO.1 a);rw[hk]at g;have h1:Nr (c,hf) l=true:=g;exact fI d [.tmp 4] (by rw[h1];exact eR)
def qO:Ae:={ ins:=[F6],pre:=fun _=>True,out:=fun(l,_)=>[.p E0 l] }
attribute [local go_sem] qO
theorem A3J:Ao Tryz.prog 33 qO:=by
 refine fK [0,2] Tryz.func33 Tryz.ntmps33 AG ?_;rintro w0 O0 ⟨t,u⟩ a - -;simp only[qO,AM];repeat'(first|exact trivial|refine eS rfl ?_|refine AB ?_|refine rX a ?_ ?_|refine rC ?_ ?_<;>intro b<;>try(cases b;done))
 exact fI a [.cell 2 25]
def Gk (l:List Int) (n:Nat):List (Int×Int):=(List.range n).map fun i=>(l.getD (2*i) 0,l.getD (2*i+1) 0)
theorem iX (l:List Int) (n:Nat):Gk l (n+1)=Gk l n++[(l.getD (2*n) 0,l.getD (2*n+1) 0)]:=by simp[Gk,AAe]
theorem nE (l:List Int) (n:Nat):(Gk l n).length=n:=by simp[Gk]
def TK:Ae:={ ins:=[T3,Kh],pre:=fun(_,l,_)=>List.length l≤1000,out:=fun(t,l,_)=>[.p Ox (t,Gk l (List.length l / 2))] }
attribute [local go_sem] TK
theorem u9:Ao Tryz.prog 34 TK:=by
 refine fK [0,1,4,5,6,13] Tryz.func34 Tryz.ntmps34 AG ?_;rintro w0 O0 ⟨t,l,u⟩ b-c;simp only[TK,AM];repeat'(first|exact trivial|refine eS rfl ?_|refine AB ?_|refine rX b ?_ ?_|refine rC ?_ ?_<;>intro a<;>try(cases a;done))
 have c:l.length≤1000:=c;refine AJ (ι:={k:Nat//k≤l.length / 2}) (fun k=>⟨[(1,.p Kh l),(4,.bp 4 [] 0),(5,.bp 5 [] 0),(6,.p (.int .i64) (2*(k.1:Int)))],[(4,.box 49 true [.p T3 (0:Int),.raw (.slice none 0 0)]),(5,.box 49 true [.p T3 t,.sr 29 BI 0 (Gk l k.1).length]),(29,.arr 53 BI (Gk l k.1))]⟩) (fun k=>l.length / 2-k.1) ⟨0,Is _⟩ (AC [(4,.nm 4),(5,.nm 5),(29,.nil)] rfl rfl ?_ ?_) (fun k=>?_)
 ·first|exact eN|refine eM ?_
  exact⟨rfl,rfl⟩
 ·first|exact eN|refine eM ?_
  rfl
 ·obtain⟨k,hk⟩:=k;have e:=nE l k;have f:=iX l k;simp only;repeat'(first|exact trivial|refine eS rfl ?_|refine AB ?_|refine rX b ?_ ?_|refine rC ?_ ?_<;>intro a<;>try(cases a;done))
  ·omega
  ·rw[e];simp only[AO];exact eV
  ·omega
  ·refine⟨⟨k+1,by omega⟩,by simp only;omega,AC [(4,.nm 4),(5,.nm 5),(29,.nm 29)] rfl rfl ?_ ?_⟩
   ·simp only[f];first|exact eN|refine eM ?_
    rw[show (2*(k:Int)).toNat=2*k by omega,show (2*(k:Int)+1).toNat=2*k+1 by omega]
   ·first|exact eN|refine eM ?_
    show (2*(k:Int)+2)=2*((k:Int)+1);omega
  ·have d:k=l.length / 2:=by omega
   subst d;exact fI b [.cell 4 49]
end
section
open Go
end
theorem getD_set_ne {α:Type} (l:List α) (d v:α) {i j:Nat} (h:i≠j):(l.set i v).getD j d=l.getD j d:=by
 simp only[AS];rw[List.getElem?_set_ne h]
theorem Jz {α:Type} (l:List α) (d v:α) {i:Nat} (h:i<l.length):(l.set i v).getD i d=v:=by
 simp only[AS];rw[ABW h];rfl
section
open Go
end
section
open Go
end
section
open Go
end
section
attribute [local go_sem] LN gS
end
abbrev Am (f:List AE) (n:Int):List (Int×Int):=(f.getD n.toNat (0,[])).2
theorem Nu {f:List AE} (h:Dy f=true):AR f 0=f:=by
 obtain⟨d,hs,h0,_⟩:=Mg h;unfold Dy at h;simp only[AT,tO]at h;obtain⟨_,a,b⟩:=h;have c:(A2 f).1=JQ f 0:=by
  unfold A2 at a ⊢;split at a
  ·rename_i hh;rw[At hh]
  ·rename_i hh;exact absurd a hh
 rw[c]at b;rw[←Ir d hs (by omega) (by omega)];exact JS b
theorem nF {b:Int→Int×Int→Bool} {f:List AE} (h:∀i,i<f.length→∀a∈(f.getD i (0,[])).2,b (i:Int) a=true):GQ b f f.length=f:=by
 apply AA8
 ·exact KW _ _ _
 ·intro i h1 c;have e:f.getD i (0,[])=f[i]:=by simp[AS,c]
  have:=h i c;simp only[GQ,ABd,ABb,A1k];rw[List.filter_eq_self.2 this,e]
theorem nG {b:Int→Int×Int→Bool} {f:List AE} (c:Dy f=true) (h:∀i,i<f.length→∀a∈(f.getD i (0,[])).2,b (i:Int) a=true):VM b f=f:=by
 unfold VM;rw[nF h];exact Nu c
theorem iY {f:List AE} (hf:Ad f):∀(k:Nat) (o:List Int) (n:Int),LO f o→0≤n→n<f.length→n∉o→f.length-o.length≤k→Ea f (k+1) o n=Ea f k o n
 | 0,o,n,h,h0,h1,d,hk=>by
  have:=(h.snoc h0 h1 d).len;simp only[IN,To]at this;omega
 | k+1,o,n,h,h0,h1,d,hk=>by
  rw[Cv,Cv];have key:∀(l:List (Int×Int)) (t:List Int),(∀a∈l,0≤a.2∧a.2<(f.length:Int))→LO f t→f.length-t.length≤k→l.foldl (Ac f (k+1)) t=l.foldl (Ac f k) t:=by
   intro l;induction l with
   | nil=>intros;rfl
   | cons a l p =>
    intro t i e m;have c:=i a (by simp);have hs:Ac f (k+1) t a=Ac f k t a:=by
     unfold Ac;split
     ·rfl
     ·rename_i hn;exact iY hf k t a.2 e c.1 c.2 hn m
    have g:LO f (Ac f k t a)∧t <+: Ac f k t a:=by
     unfold Ac;split
     ·exact⟨e,AAw _⟩
     ·rename_i hn;exact D5 hf k t a.2 e c.1 c.2 hn
    rw[Rp,Rp,hs];have:=g.2.length_le;exact p _ (fun b j=>i b (by simp[j])) g.1 (by omega)
  exact key _ _ (fun a ha=>Bt hf ha) (h.snoc h0 h1 d) (by simp only[IN,To];omega)
theorem Hu (f:List AE):LO f []:=⟨by simp,fun x a=>by cases a⟩
theorem VU {f:List AE} (hf:Ad f) {n:Int} (h0:0≤n) (h1:n<f.length):∀m,Ea f (f.length+m) [] n=Ea f f.length [] n
 | 0=>rfl
 | m+1=>by
  rw[←ABI,iY hf _ [] n (Hu f) h0 h1 (by simp) (by simp only[AAN];omega)];exact VU hf h0 h1 m
structure Iso (Q R:List AE) (ψ:Int→Int) (C:Int→Prop):Prop where
 arc:∀i,C i→Am R (ψ i)=(Am Q i).map fun a=>(a.1,ψ a.2)
 cl:∀i,C i→∀a∈Am Q i,C a.2
 inj:∀i j,C i→C j→ψ i=ψ j→i=j
theorem TL {Q R:List AE} {c:Int→Int} {f:Int→Prop} (h:Iso Q R c f):∀(k:Nat) (t:List Int) (i:Int),(∀x∈t,f x)→f i→Ea R k (t.map c) (c i)=(Ea Q k t i).map c∧∀x∈Ea Q k t i,f x
 | 0,t,i,d,hi=>⟨rfl,d⟩
 | k+1,t,i,d,hi=>by
  have key:∀(l:List (Int×Int)) (t:List Int),(∀a∈l,f a.2)→(∀x∈t,f x) →
    (l.map fun a=>(a.1,c a.2)).foldl (Ac R k) (t.map c)=(l.foldl (Ac Q k) t).map c∧∀x∈l.foldl (Ac Q k) t,f x:=by
   intro l;induction l with
   | nil=>intro t _ d;exact⟨rfl,d⟩
   | cons a l q =>
    intro t m d;have ha:=m a (by simp);have hs:Ac R k (t.map c) (a.1,c a.2)=(Ac Q k t a).map c∧∀x∈Ac Q k t a,f x:=by
     unfold Ac;by_cases j:a.2∈t
     ·rw[At j,At (IS.2 ⟨_,j,rfl⟩)];exact⟨rfl,d⟩
     ·have p:¬c a.2∈t.map c:=by
       intro hh;obtain⟨x,g,e⟩:=IS.1 hh;exact j (h.inj x a.2 (d x g) ha e▸g)
      rw[As j];simp only[As p];exact TL h k t a.2 d ha
    rw[AA1,Rp,Rp,hs.1];exact q _ (fun b o=>m b (by simp[o])) hs.2
  rw[Cv,Cv];have e:t.map c++[c i]=(t++[i]).map c:=by simp
  have n:(R.getD (c i).toNat (0,[])).2=(Am Q i).map fun a=>(a.1,c a.2):=h.arc i hi;rw[n,e];refine key _ _ (h.cl i hi) fun x g=>?_;rcases OF.1 g with g|g
  ·exact d x g
  ·have:x=i:=by simpa using g
   rw[this];exact hi
theorem A1w {o:List Int} {a:Int→Int} {x:Int} (h:∀y∈o,a y=a x→y=x):CF (o.map a) (a x)=CF o x:=by
 have hi:(o.map a).idxOf (a x)=o.idxOf x:=by
  induction o with
  | nil=>rfl
  | cons y o g =>
   rw[AA1,List.idxOf_cons,List.idxOf_cons];have c:=h y (by simp);by_cases e:y=x
   ·subst e;simp
   ·have d:¬a y=a x:=fun hh=>e (c hh);have b1:(y==x)=false:=by simpa using e
    have b2:(a y==a x)=false:=by simpa using d
    rw[b1,b2,g (fun z f=>h z (by simp[f]))]
 unfold CF;by_cases b:x∈o
 ·rw[At b,At (IS.2 ⟨x,b,rfl⟩),hi]
 ·rw[As b,As];intro hh;obtain⟨y,c,e⟩:=IS.1 hh;exact b (h y c e▸c)
theorem WX {Q R:List AE} {b:Int→Int} {c:Int→Prop} (h:Iso Q R b c) (l:Ad Q) (k:c 0) (h0:b 0=0) (r:0<Q.length) (s:Q.length≤R.length)
  (m:∀i,c i→(R.getD (b i).toNat (0,[])).1=(Q.getD i.toNat (0,[])).1):AR R 0=AR Q 0:=by
 have f:Ea R R.length [] 0=(Ea Q Q.length [] 0).map b∧∀x∈Ea Q Q.length [] 0,c x:=by
  have h1:=TL h R.length [] 0 (fun x p=>by cases p) k;rw[h0]at h1;have g:=VU l (n:=0) (by omega) (by omega) (R.length-Q.length);rw[show Q.length+(R.length-Q.length)=R.length by omega]at g;rw[g]at h1;exact h1
 unfold AR;rw[f.1];generalize Ea Q Q.length [] 0=o at *;rw[AB2];refine AA2 fun i hi=>?_;have d:=f.2 i hi;show Es R (o.map b) (b i)=Es Q o i;unfold Es;have j:(R.getD (b i).toNat (0,[])).2=(Am Q i).map fun a=>(a.1,b a.2):=h.arc i d;rw[m i d,j,AB2];refine AAP _ (AA2 fun a ha=>?_);show (a.1,CF (o.map b) (b a.2))=(a.1,CF o a.2);rw[A1w fun y q e=>h.inj y a.2 (f.2 y q) (h.cl i d a ha) e]
structure Ord (f:List AE) (o:List Int):Prop where
 ok:LO f o
 zero:o.getD 0 0=0∧0<o.length
 cl:∀n∈o,∀a∈Am f n,a.2∈o
theorem A1x {f:List AE} (hf:Ad f) (h0:0<f.length):[0] <+: Ea f f.length [] 0:=by
 obtain⟨k,hk⟩:∃k,f.length=k+1:=⟨f.length-1,by omega⟩;rw[hk,Cv];exact(Er (D5 hf k) _ _ (fun a ha=>Bt hf ha) ((Hu f).snoc (by omega) (by omega) (by simp))).2
theorem A1y {f:List AE} (hf:Ad f) (h0:0<f.length):Ord f (Ea f f.length [] 0):=by
 have h1:=D5 hf f.length [] 0 (Hu f) (by omega) (by omega) (by simp);have b:=Iq hf f.length [] 0 (Hu f) (by omega) (by omega) (by simp) (by simp);have c:=A1x hf h0;refine⟨h1.1,?_,fun n hn a ha=>?_⟩
 ·obtain⟨t,d⟩:=c;rw[←d];exact⟨rfl,by simp⟩
 ·rcases b.2 n hn with h|h
  ·cases h
  ·exact h a ha
theorem KZ {o:List Int} (hn:o.Nodup) {i:Nat} (hi:i<o.length):CF o (o.getD i 0)=(i:Int):=by
 have e:o.getD i 0=o[i]:=by rw[AS,An hi];rfl
 rw[e];unfold CF;rw[At (AAh hi),hn.idxOf_getElem i hi]
theorem HD {o:List Int} {x:Int} (h:x∈o):0≤CF o x∧CF o x<(o.length:Int)∧o.getD (CF o x).toNat 0=x:=by
 unfold CF;rw[At h];have a:=List.idxOf_lt_length_of_mem h;refine⟨by omega,by omega,?_⟩;rw[bY,AS,An a];show o[o.idxOf x]=x;exact List.getElem_idxOf a
theorem vA (f:List AE):(AR f 0).length=(Ea f f.length [] 0).length:=by simp[AR]
theorem vB {f:List AE} {i:Nat} (hi:i<(Ea f f.length [] 0).length):(AR f 0).getD i (0,[])=Es f (Ea f f.length [] 0) ((Ea f f.length [] 0).getD i 0):=by
 unfold AR;simp[AS,hi]
theorem iZ (a:Int→Int×Int→Bool) {f:List AE} {n:Int} (h0:0≤n) (h1:n<f.length):(GQ a f f.length).getD n.toNat (0,[])=((f.getD n.toNat (0,[])).1,(Am f n).filter (a n)):=by
 have hn:n.toNat<f.length:=by omega
 have e:((n.toNat:Nat):Int)=n:=by omega
 unfold GQ;simp only[AS,AAl,AAZ hn,AAX,ABN,A1k];rw[e];rfl
theorem A1z {f:List AE} (hs:QO f) (n:Int):(Am f n).Pairwise (fun a b=>a.1<b.1):=(Mf _).1 (mT hs n).1
theorem vC {f:List AE} (hf:Ad f) (hs:QO f) (h0:0<f.length) (a:Int→Int×Int→Bool) {n:Int} (hn:n∈Ea (GQ a f f.length) f.length [] 0) :
  Am (VM a f) (CF (Ea (GQ a f f.length) f.length [] 0) n)=((Am f n).filter (a n)).map (Oh (Ea (GQ a f f.length) f.length [] 0)):=by
 obtain⟨h,l⟩:=Xs hf hs a;have c:=KW a f f.length;have e:=A1y h (by omega);have d:=fun i=>vB (f:=GQ a f f.length) (i:=i);rw[c]at e d;obtain⟨j,k,g⟩:=HD hn;have b:=e.ok.rng n hn;rw[c]at b;show ((VM a f).getD _ (0,[])).2=_;have:VM a f=AR (GQ a f f.length) 0:=rfl;rw[this,d _ (by omega),g];unfold Es;rw[iZ a b.1 b.2]
section
open Go
end
section
attribute [local go_sem] Xf
def EJ (l:List (Int×Int)) (e:Int):Int:=match l with
 | []=>-1
 | a :: l=>if a.1=e then a.2 else EJ l e
theorem vD (e:Int) (l:List (Int×Int)) {k:Nat} (h:k<l.length):EJ (l.drop k) e=if (l.getD k (0,0)).1=e then (l.getD k (0,0)).2 else EJ (l.drop (k+1)) e:=by
 rw[aS h];have e:l.getD k (0,0)=l[k]:=by simp[AS,h]
 rw[e];rfl
def TM:Ae:={ ins:=[Ox,T3],pre:=fun _=>True,out:=fun(x,e,_)=>[.p T3 (EJ x.2 e)],lend:=true }
attribute [local go_sem] TM
theorem vE:Ao Tryz.prog 80 TM:=by
 refine fK [0,1,2,4,6,8,9,10,11,17] Tryz.func80 Tryz.ntmps80 AG ?_;rintro w0 O0 ⟨⟨ty,l⟩,e,u⟩ c ⟨⟨-,f,-⟩,-⟩ -;simp only[AO]at f;simp only[TM,AM];repeat'(first|exact trivial|refine eS rfl ?_|refine AB ?_|refine rX c ?_ ?_|refine rC ?_ ?_<;>intro a<;>try(cases a;done))
 refine AJ (ι:={k:Nat//k≤l.length∧EJ (l.drop k) e=EJ l e}) (fun k=>⟨[(1,.p T3 e),(8,.p DS l),(9,.p (.int .i64) (l.length:Int)),(10,.p (.int .i64) (k.1:Int))],[]⟩) (fun k=>l.length-k.1) ⟨0,Is _,rfl⟩ (AC [] rfl rfl ?_ ?_) (fun k=>?_)
 ·first|exact eN|refine eM ?_
 ·first|exact eN|refine eM ?_
 ·obtain⟨k,hk,hf⟩:=k;have d:=fun h:k<l.length=>vD e l h;simp only;repeat'(first|exact trivial|refine eS rfl ?_|refine AB ?_|refine rX c ?_ ?_|refine rC ?_ ?_<;>intro a<;>try(cases a;done))
  ·exact a
  ·have b:k<l.length:=by exact eV
   rw[d b,At a]at hf;exact fI c [.tmp 4] (by rw[←hf];exact eR)
  ·exact eV
  ·have b:k<l.length:=by exact eV
   rw[d b,As (by simpa using a)]at hf;refine⟨⟨k+1,b,hf⟩,by simp only;omega,AC [] rfl rfl ?_ ?_⟩
   ·first|exact eN|refine eM ?_
   ·first|exact eN|refine eM ?_
  ·have b:l.drop k=[]:=IF (by exact eV);rw[b]at hf;exact fI c [.tmp 4] (by rw[←hf];first|exact eR|refine Ym ?_;rfl)
end
end Go.Proofs.YtdapahgnpbehbaaGreat.Fw
