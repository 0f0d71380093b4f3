/- Contracts of the program's and the reference's functions, and the plain laws of what they compute: U15 O13 U16 O14 C36 C38 O15 O21 O22 O23 O24 O25 O26 O16 O31. -/
import Derived.Test.YtapkhdkbkodbjaaGreatCYC
import Derived.Test.YtapkhdkbkodbjaaGreatCYB
import Derived.Test.YtapkhdkbkodbjaaGreatCYA
set_option linter.unusedVariables false
set_option linter.unusedSimpArgs false
namespace Go.Proofs.YtapkhdkbkodbjaaGreat.Fw
open Go
attribute [local irreducible] Ev
attribute [local go_sem] i5 AM List.toList_toArray Br evG evK Yy Et Kw G9 F5 IA Sv OI DK DS NE Cc Cr frz oC Gz DR A5 Fu Bb AV.frz AV.frzs AV.drp AV.drps AV.names AV.namess aq G2 Le Km Tw JW Bc Bh Jw EZ Iz Ea I8 I0 I9 VV P0 HO Ko Fy ET VW Re qUn Jx JA Ly FO Dn Ja Kp Eb Tx DZ Ec FD Rf JB OG FZ OE P6 Rg Lz Jb Kq Ed Dp HZ Dr H9 Da FE Db Ee F0 Cc Cp Py Rd Oj Gw JZ JY Kn QC Ss OH L4 L2 Kt Su L3 Ku cF QE QD AV.trn AV.trns E7 DJ Obj.trn KC jL Dq Eg EU Ef Cg FF Aq lk He G0 H6 bin oB Y4 oE Sq zf1 zfs pfs AV.cells CH Jv Pz Ks QB CZ OD Ty.cell1 Iy E8 Dm GQ ND E6 Kl Lx RZ FY HN Nu Tu VU Lw Kj cD g9 Sp H5 Cq HY RV.flat Ty.flat Ty.size St.add upd del Bd Value.oneCell' Ls Ty.dflt Ix QX IK Qj List.take_succ_cons List.take_zero List.length_cons jC jD Qi J9 ML Hw KA A3z F6 NQ NR NS NT Rq Rr NU JH Vl Option.map_some Option.map_none Option.bind_some Option.getD_some Option.getD_none Option.isNone_none Option.isNone_some Bool.and_true Bool.true_and Bool.and_false Bool.false_and Bool.not_true Bool.not_false if_true if_false List.length_cons List.length_nil and_true true_and and_self List.all_cons List.all_nil List.append_nil List.nil_append List.cons_append List.getElem?_cons_zero List.getElem?_cons_succ List.getElem?_nil List.map_cons List.map_nil List.set_cons_zero List.set_cons_succ List.isEmpty_nil List.isEmpty_cons decide_true decide_false beq_self_eq_true bne_self_eq_false Nat.zero_add Nat.add_zero Nat.sub_zero Int.toNat_natCast Int.toNat_zero Int.toNat_one List.take_length List.length_append List.length_singleton true_or or_true or_self false_or or_false Ty.agg.injEq Ty.slice.injEq Ty.prod.injEq Ty.int.injEq Option.some.injEq beq_iff_eq MJ evMG evMQ opM IM MF B5 J8 HP Qa J6 IL JJ K9 Lj Oz OO PI UB MG Qc Qd J7 Ab Ak Op.operands Call.operands List.filterMap_cons List.filterMap_nil List.append_eq Bool.cond_false_right Bool.cond_true_left cond_true cond_false implies_true decide_eq_true_eq beq_true beq_false Bool.or_true Bool.or_false Bool.true_or Bool.false_or Option.isSome_some Array.empty_append List.append_toArray Fv NF FG H7 cE QA Fz GZ GY JC H8 Kr L1 Y5 oD Ir inB Kv F1 Gx Jy Aj jE List.drop_zero Dg X1 dF CT LD CR AV.fgt AV.fgts Obj.fgt Aw Ah Ab DM Iv BM HA List.any_cons List.any_nil pB jF dG jG MO Rx qs List.flatMap_cons List.flatMap_nil List.cons_append tn dJ Hb List.take_succ_cons List.drop_succ_cons dP Gf BB t8 NZ B9 CS Ae FJ K8 Bj FI Dt II JG Gd IJ
attribute [local go_sem] ty1 ty2 ty3 ty4 ty5 ty9 A7p A7q A7r A7s A7t A7u A7v A7w A7x A7y A7z A7A A7B A7C A7D A7E A7F A7G A7H A7I A7J A7K A7L A7M A7N A7O A7P A7Q A7R A7S A7T A7U A7V A7W A7X A7Y A7Z A80 A81 A82 A83 A84 A85 A86 A87 A88 A89 A8a A8b A8c A8d A8e A8f A8g A8h A8i A8j A8k A8l A8m A8n A8o A8p A8q A8r A8s A8t A8u A8v A8w A8x uF uG uH uI uJ uK uL uM uN uP uQ uR uS uT uU uV uW uX uY uZ u3 u4 u5 u6 u7 u9 vC vE vF vG vH vI vJ vL vM vO vP vQ vS vU vV vW vX vY vZ v4 v5 v6 v7 v8 v9 wA wB wC wD wF wG wH wI wJ wK wL wM wN wP wQ wR wS wT wU wV wW wX wY wZ w5 w6 w9 xA xB xC xE xF xG xH xI xJ xL xM xN xO xP xQ xR xS xT xV xW xX xY xZ x5 x6 x7 x8 x9 yA yB yC yD yE yF yG yH yI yJ yK yL yM yN yO yP yQ yR yS yT yU yV yW yX yY yZ y3 y4 y5 y6 y7 y8 y9 zA zB zC zD zE zF zG zH zI zJ zK zL zM zN zO zP zQ zR zS zT zU zV zW zX zY zZ z0
set_option maxRecDepth 100000
set_option maxHeartbeats 4000000
section
attribute [local go_sem] fE f9
theorem nQ (N g:List AC):D6 N++CX g g.length=D6 (Al N g):=by
 unfold CX D6 Al;rw[UO,UZ,YU];rfl
theorem sT (N g:List AC):GJ N++EX N.length g g.length=GJ (Al N g):=by
 unfold EX GJ Al;rw[UO,UZ,YU];rfl
theorem YC (p:List Int):BR p [((0:Int),[])]=Cl p:=rfl
theorem A6e {h:AG} (k:Xo h) {f:List AC} {p q:List Int} (hf:VF h f) (hp:p.length<=1000) (i:q.length<=1000) (hl:f.length<=10000) {P:List (Int×Int)} (c:∀r∈P,r∈eqP f p q) (g:∀X v,CP h X->¬Rb h (eqN f p q) P X v):Sh h f p q=([],false):=by
 refine bR λX b l h1 n d e=>?_;obtain⟨v,a,-⟩:=f6 k hf hp i hl b h1 d e;exact g X v b.ty ⟨a.rng,a.ty,a.arc,λr j=>a.eq r (c r j)⟩
noncomputable def A9N:AZ:={ ins:=[Du,DC,Ft,Ft],pre:=λ(h,f,p,q,_)=>HU h/\Xo h/\VF h f/\FtP h p/\FtP h q/\List.length p<=1000/\List.length q<=1000/\List.length f<=1000,out:=λ(h,f,p,q,_)=>[.p DC (Sh h f p q).1,.p .bool (Sh h f p q).2] }
attribute [local go_sem] A9N
theorem ABH:Ad Tryz.prog 99 A9N:=by
  refine fK [0,1,2,3,4,5,8,9,10,11,12,13,14,69] Tryz.func99 Tryz.ntmps99 (AF A59 (AF A5Z AH)) ?_;rintro w0 O0 ⟨h,f,p,q,u⟩ c-⟨hu,X,vf,O,Q,hp,aw,ai⟩;simp only[A9N,AM];have R:AN ([((0:Int),[])]:List AC):=⟨by simp,by simp⟩;have D:p.length<=1000:=hp;have E:q.length<=1000:=aw;have bh:f.length<=1000:=ai;have S:=FX D;have T:=FX E;have Z:=CK p;have az:=CK q;have U:0<h.1.length:=by
    have:=vf.ty _ (AE f (0,[]) vf.pos);omega
  have pos:=vf.pos;have ag:=f5 f p q;have ay:=Cb f (Cl p);rw[Z]at ay;have af:=Gr vf.good S (by omega);have ae:=Gr af T (by omega);have bd:=M4 (M4 vf.ty (RQ U p)) (RQ U q);have aa:=KU (KU vf.str (Ns p)) (Ns q);have V:∀g:List AC,(∀x∈g,∀a∈x.2,0<=a.1/\a.1<(h.2.length:Int))->mJ g:=λg ak x hx a ha=>by
    have h1:=ak x hx a ha;have be:=hu.ft;omega
  have M:=M5 (M5 (vf.ft64 hu) (V _ (KW O))) (V _ (KW Q));have ao:=fX ae bd aa;have aj:=sD (N:=eqN f p q) λx hx=>sC (aa x hx) (M x hx);have W:=λP ty ar al z=>A5N X vf O Q D E (by omega) (P:=P) (ty:=ty) (ar:=ar) al z;have C:=λP ah=>A6e X vf D E (by omega) (P:=P) ah;have av:=YC p;have ax:=YC q;repeat'(first|exact trivial|apply eS rfl|apply AB|refine rX c ?_ ?_|refine rC ?_ ?_<;>intro d<;>try(cases d;done))
  . exact⟨⟨D,R⟩,E,R⟩
  rw[av,ax]
  unfold eqN at ag aj W C;generalize bf:Cl p=A at *;generalize bg:Cl q=B at *;have K:CX f f.length++CX A A.length=D6 (Al f A):=r9 f A;have I:EX 0 f f.length++EX f.length A A.length=GJ (Al f A):=A2A f A;have G:Bg 0 f.length++Bg f.length A.length=Bg 0 (Al f A).length:=by rw[bM,Cb]
  have L:=nQ (Al f A) B;have J:=sT (Al f A) B;have H:Bg 0 (Al f A).length++Bg (Al f A).length B.length=Bg 0 (Al (Al f A) B).length:=by rw[bM,<-Cb]
  refine cP 3 c ?_ ?_
  . trivial
  refine rM c (rW h [] [] [] f vf.good (by simp) rfl rfl) [(1,.nm 23),(2,.nil),(3,.nil),(4,.nil)] [] ?_ ?_ ?_
  . first|exact eN|refine eM ?_
  . simp only[Y2]
    first|exact eN|refine eM ?_
  rintro _ _ ⟨rfl,rfl⟩
  refine ⟨[(23, .nm 1), (102, .nm 2), (103, .nm 3), (104, .nm 4)], .raw (.tuple #[]),
          [(23,.box 111 true [.p Du h,.sr 102 T3 0 (Bg 0 f.length).length,.sr 103 T3 0 (CX f f.length).length,.sr 104 DF 0 (EX 0 f f.length).length]),(102,.arr 3 T3 (Bg 0 f.length)),(103,.arr 3 T3 (CX f f.length)),(104,.arr 91 DF (EX 0 f f.length))]
    ,rfl,rfl,?_,?_,rfl,rfl,Bk ?_⟩
  . simp only[Y2]
    first|exact eN|refine eM ?_
  . first|exact eN|refine eM ?_
  have la:(Bg 0 f.length).length=f.length:=H0 0 f.length
  have lt:(CX f f.length).length=f.length:=by unfold CX;rw[OF,UO]
  have ba:(EX 0 f f.length).length=f.length:=by unfold EX;rw[OF,UO]
  repeat'(first|exact trivial|apply eS rfl|apply AB|refine rX c ?_ ?_|refine rC ?_ ?_<;>intro d<;>try(cases d;done))
  refine cP 3 c ?_ ?_
  . trivial
  refine rM c (rW h (Bg 0 f.length) (CX f f.length) (EX 0 f f.length) A S (by omega) (by omega) (by omega)) [(1,.nm 23),(2,.nm 102),(3,.nm 103),(4,.nm 104)] [102,103,104] ?_ ?_ ?_
  . first|exact eN|refine eM ?_
  . simp only[Y2]
    first|exact eN|refine eM ?_
  rintro _ _ ⟨rfl,rfl⟩
  rw[la,G,K,I];have Y:(Bg 0 (Al f A).length).length=(Al f A).length:=H0 0 _;have bc:(D6 (Al f A)).length=(Al f A).length:=by unfold D6;rw[OF]
  have bb:(GJ (Al f A)).length=(Al f A).length:=by unfold GJ;rw[OF]
  refine⟨[(23,.nm 1),(102,.nm 2),(103,.nm 3),(104,.nm 4)],.raw (.tuple #[]),
    [(23,.box 111 true [.p Du h,.sr 102 T3 0 (Bg 0 (Al f A).length).length,.sr 103 T3 0 (D6 (Al f A)).length,.sr 104 DF 0 (GJ (Al f A)).length]),(102,.arr 3 T3 (Bg 0 (Al f A).length)),(103,.arr 3 T3 (D6 (Al f A))),(104,.arr 91 DF (GJ (Al f A)))]
    ,rfl,rfl,?_,?_,rfl,rfl,Bk ?_⟩
  . simp only[Y2]
    first|exact eN|refine eM ?_
  . first|exact eN|refine eM ?_
  repeat'(first|exact trivial|apply eS rfl|apply AB|refine rX c ?_ ?_|refine rC ?_ ?_<;>intro d<;>try(cases d;done))
  refine cP 3 c ?_ ?_
  . trivial
  . refine rM c (rW h (Bg 0 (Al f A).length) (D6 (Al f A)) (GJ (Al f A)) B T (by omega) (by omega) (by omega)) [(1,.nm 23),(2,.nm 102),(3,.nm 103),(4,.nm 104)] [102,103,104] ?_ ?_ ?_
    . first|exact eN|refine eM ?_
    . simp only[Y2]
      first|exact eN|refine eM ?_
    . rintro _ _ ⟨rfl,rfl⟩
      rw[Y,H,L,J];have ab:(((Al f A).length:Nat):Int)=((f.length+(p.length+1):Nat):Int):=by omega
      refine⟨[(23,.nm 1),(102,.nm 2),(103,.nm 3),(104,.nm 4)],.raw (.tuple #[]),
  [(23, .box 111 true [.p Du h, .sr 102 T3 0 (Bg 0 (Al (Al f A) B).length).length, .sr 103 T3 0 (D6 (Al (Al f A) B)).length, .sr 104 DF 0 (GJ (Al (Al f A) B)).length]), (102, .arr 3 T3 (Bg 0 (Al (Al f A) B).length)), (103, .arr 3 T3 (D6 (Al (Al f A) B))), (104, .arr 91 DF (GJ (Al (Al f A) B)))]
        ,rfl,rfl,?_,?_,rfl,rfl,Bk ?_⟩
      . simp only[Y2]
        first|exact eN|refine eM ?_
      . first|exact eN|refine eM ?_
      clear la lt ba Y bc bb K I G L J H
      rw[ab];have bi:A.length=p.length+1:=Z;have bj:B.length=q.length+1:=az;generalize Al (Al f A) B=y at *;generalize Bg 0 y.length=p0 at *;generalize D6 y=bm at *;generalize GJ y=bl at *;have bk:0<y.length:=by omega
      repeat'(first|exact trivial|apply eS rfl|apply AB|refine rX c ?_ ?_|refine rC ?_ ?_<;>intro d<;>try(cases d;done))
      refine evP c 2 ?_ ?_
      . trivial
      refine clG c (fR h hu.ok ao (a:=0) (b:=(f.length:Int)) (by omega) (by omega) (by omega) (by omega)) [(101,.nm 23),(102,.nm 102),(103,.nm 103),(104,.nm 104)] [102,103,104] ?_ ?_ ?_
      . first|exact eN|refine eM ?_
      . simp only[bJ]
        first|exact eN|refine eM ?_
      rintro res F (⟨rfl,n,v,s,rfl,am⟩|⟨rfl,⟨n,v,s,rfl⟩,ap⟩)
      . refine⟨[(23,.nm 101),(102,.nm 102),(103,.nm 103),(104,.nm 104)],.p .bool true,[(23, .box 111 true [.p Du h, .sr 102 T3 0 n.length, .sr 103 T3 0 v.length, .sr 104 DF 0 s.length]), (102, .arr 3 T3 n), (103, .arr 3 T3 v), (104, .arr 91 DF s)],rfl,rfl,?_,?_,rfl,rfl,?_⟩
        . simp only[bJ]
          first|exact eN|refine eM ?_
        . first|exact eN|refine eM ?_
        refine rN 5 c ?_ ?_
        . trivial
        refine clG c (fR h hu.ok am (a:=(f.length:Int)) (b:=((f.length+(p.length+1):Nat):Int)) (by omega) (by omega) (by omega) (by omega)) [(101,.nm 23),(102,.nm 102),(103,.nm 103),(104,.nm 104)] [102,103,104] ?_ ?_ ?_
        . first|exact eN|refine eM ?_
        . simp only[bJ]
          first|exact eN|refine eM ?_
        rintro res F (⟨rfl,o,w,t,rfl,an⟩|⟨rfl,⟨o,w,t,rfl⟩,aq⟩)
        . refine⟨[(23,.nm 101),(102,.nm 102),(103,.nm 103),(104,.nm 104)],.p .bool true,[(23, .box 111 true [.p Du h, .sr 102 T3 0 o.length, .sr 103 T3 0 w.length, .sr 104 DF 0 t.length]), (102, .arr 3 T3 o), (103, .arr 3 T3 w), (104, .arr 91 DF t)],rfl,rfl,?_,?_,rfl,rfl,?_⟩
          . simp only[bJ]
            first|exact eN|refine eM ?_
          . first|exact eN|refine eM ?_
          refine rN 12 c ?_ ?_
          . exact eV
          refine clG c (fR h hu.ok an (a:=(f.length:Int)+(p.length:Int)) (b:=((f.length+(p.length+1):Nat):Int)+(q.length:Int)) (by omega) (by omega) (by omega) (by omega)) [(101,.nm 23),(102,.nm 102),(103,.nm 103),(104,.nm 104)] [102,103,104] ?_ ?_ ?_
          . first|exact eN|refine eM ?_
          . simp only[bJ]
            first|exact eN|refine eM ?_
          have ad:[]++[(0,(f.length:Int))]++[((f.length:Int),((f.length+(p.length+1):Nat):Int))]++[((f.length:Int)+(p.length:Int),((f.length+(p.length+1):Nat):Int)+(q.length:Int))]=eqP f p q:=by
            rw[show (f.length:Int)+(p.length:Int)=((f.length+p.length:Nat):Int) by omega,show ((f.length+(p.length+1):Nat):Int)+(q.length:Int)=((f.length+(p.length+1)+q.length:Nat):Int) by omega];rfl
          rw[ad];rintro res F (⟨rfl,i,m,l,rfl,e⟩|⟨rfl,⟨i,m,l,rfl⟩,au⟩)
          . have z:=Xl e (by omega) M
            have j:=bQ hu (W i m l e z);refine⟨[(23,.nm 101),(102,.nm 102),(103,.nm 103),(104,.nm 104)],.p .bool true,[(23, .box 111 true [.p Du h, .sr 102 T3 0 i.length, .sr 103 T3 0 m.length, .sr 104 DF 0 l.length]), (102, .arr 3 T3 i), (103, .arr 3 T3 m), (104, .arr 91 DF l)],rfl,rfl,?_,?_,rfl,rfl,?_⟩
            . simp only[bJ]
              first|exact eN|refine eM ?_
            . first|exact eN|refine eM ?_
            refine rL c ?_ ?_
            . trivial
            repeat'(first|exact trivial|apply eS rfl|apply AB|refine rX c ?_ ?_|refine rC ?_ ?_<;>intro d<;>try(cases d;done))
            refine cP 1 c ?_ ?_
            . trivial
            refine rM c (A5A h e.fo z (by rw[e.lt,e.lp]) (by rw[e.la,e.lp]) (λk x hx=>by rw[e.lp];exact(e.arr k x hx).1) (r:=0) (by omega) (by rw[e.lp];omega)) [(101,.nm 23),(102,.nm 102),(103,.nm 103),(104,.nm 104)] [23,102,103,104] ?_ ?_ ?_
            . first|exact eN|refine eM ?_
            . simp only[bJ]
              first|exact eN|refine eM ?_
            rintro _ F rfl
            refine⟨[],.p DC (AI (quo i m l) (EH i 0)),[],rfl,rfl,?_,?_,rfl,rfl,?_⟩
            . first|exact eN|refine eM ?_
            . first|exact eN|refine eM ?_
            refine rL c ?_ ?_
            . trivial
            repeat'(first|exact trivial|apply eS rfl|apply AB|refine rX c ?_ ?_|refine rC ?_ ?_<;>intro d<;>try(cases d;done))
            exact fI c [.cell 8 25,.tmp 9] (by rw[j];exact eR)
          . have j:=C (eqP f p q) (λ_ h=>h) au
            refine⟨[(23,.nm 101),(102,.nm 102),(103,.nm 103),(104,.nm 104)],.p .bool false,[(23, .box 111 true [.p Du h, .sr 102 T3 0 i.length, .sr 103 T3 0 m.length, .sr 104 DF 0 l.length]), (102, .arr 3 T3 i), (103, .arr 3 T3 m), (104, .arr 91 DF l)],rfl,rfl,?_,?_,rfl,rfl,?_⟩
            . simp only[bJ]
              first|exact eN|refine eM ?_
            . first|exact eN|refine eM ?_
            refine rL c ?_ ?_
            . trivial
            repeat'(first|exact trivial|apply eS rfl|apply AB|refine rX c ?_ ?_|refine rC ?_ ?_<;>intro d<;>try(cases d;done))
            exact fI c [.cell 8 25,.tmp 9] (by rw[j];exact eR)
        . have j:=C [(0,(f.length:Int)),((f.length:Int),((f.length+(p.length+1):Nat):Int))] (by simp) aq
          refine⟨[(23,.nm 101),(102,.nm 102),(103,.nm 103),(104,.nm 104)],.p .bool false,[(23, .box 111 true [.p Du h, .sr 102 T3 0 o.length, .sr 103 T3 0 w.length, .sr 104 DF 0 t.length]), (102, .arr 3 T3 o), (103, .arr 3 T3 w), (104, .arr 91 DF t)],rfl,rfl,?_,?_,rfl,rfl,?_⟩
          . simp only[bJ]
            first|exact eN|refine eM ?_
          . first|exact eN|refine eM ?_
          refine rL c ?_ ?_
          . trivial
          repeat'(first|exact trivial|apply eS rfl|apply AB|refine rX c ?_ ?_|refine rC ?_ ?_<;>intro d<;>try(cases d;done))
          exact fI c [.cell 8 25,.tmp 9] (by rw[j];exact eR)
      . have j:=C [(0,(f.length:Int))] (by simp) ap
        refine⟨[(23,.nm 101),(102,.nm 102),(103,.nm 103),(104,.nm 104)],.p .bool false,[(23, .box 111 true [.p Du h, .sr 102 T3 0 n.length, .sr 103 T3 0 v.length, .sr 104 DF 0 s.length]), (102, .arr 3 T3 n), (103, .arr 3 T3 v), (104, .arr 91 DF s)],rfl,rfl,?_,?_,rfl,rfl,?_⟩
        . simp only[bJ]
          first|exact eN|refine eM ?_
        . first|exact eN|refine eM ?_
        refine rL c ?_ ?_
        . trivial
        repeat'(first|exact trivial|apply eS rfl|apply AB|refine rX c ?_ ?_|refine rC ?_ ?_<;>intro d<;>try(cases d;done))
        exact fI c [.cell 8 25,.tmp 9] (by rw[j];exact eR)
end
section
attribute [local go_sem] Jo Ka A9N atS sS
def YD (w:LW) (U:List AC):List AC:=U++[(w.dlist,[(w.last,(KX U 0 [w.rest,w.last]).1),(w.head,(KX U 0 [w.first,w.head]).1)])]
noncomputable def Pw (h:AG) (a b:List AC):List AC×Bool:=Sh h (BI 0 (AO h).first (AO h).rest a b) [(AO h).first,(AO h).last] [(AO h).rest,(AO h).head]
noncomputable def Es (h:AG) (a b:List AC):List AC×Int :=
 if EE h=true then
  if (Az h a 0).2≠0 then ([],(Az h a 0).2)
  else if (Az h b 0).2≠0 then ([],(Az h b 0).2)
  else if (Pw h a b).2=false then ([],12)
  else if 4096<(AI (YD (AO h) (Pw h a b).1) ((Pw h a b).1.length:Int)).length then ([],7)
  else (AI (YD (AO h) (Pw h a b).1) ((Pw h a b).1.length:Int),0)
 else ([],5)
theorem A6f {h:AG} {a:List AC} (c:VF h a) (p:List Int):0<=(KX a 0 p).1/\(KX a 0 p).1<(a.length:Int):=by
 have hp:=c.pos;cases b:(KX a 0 p).2 with
 | true=>exact A9K c p b
 | false =>
  have e:=Xw c.good c.str p 0;rw[e]at b ⊢;cases d:B2 a 0 p with
  | some m=>rw[d]at b;cases b
  | none =>
   simp only;omega
theorem A2S {h:AG} {b:List AC} (w:LW) (c:VF h b) (hl:b.length<=10000):AN (YD w b)/\(YD w b).length=b.length+1:=by
 have h1:=A6f c [w.rest,w.last];have e:=A6f c [w.first,w.head];have d:(YD w b).length=b.length+1:=by
  unfold YD;rw[BY];rfl
 refine⟨⟨by omega,λx hx=>?_⟩,d⟩;rw[d];unfold YD at hx;rcases IN.1 hx with q|q
 .refine⟨(c.good.2 x q).1,λa ha=>?_⟩;have:=(c.good.2 x q).2 a ha;omega
 rw[UM.1 q];refine⟨by show 2<=100000;omega,λa ha=>?_⟩;simp only[By,YX,ABN]at ha;rcases ha with rfl|rfl
 .simp only;omega
 simp only;omega
noncomputable def A6g:AZ:={ ins:=[Du,DC,DC],pre:=λ(h,a,b,_)=>(HU h/\Xo h/\(EE h=true->(AO h).first<(AO h).rest))/\VF h a/\VF h b/\List.length a+List.length b<=990,out:=λ(h,a,b,_)=>[.p DC (Es h a b).1,.p Fm (Es h a b).2] }
theorem A9O:Ad Tryz.prog 44 A6g:=by
 refine fKP [0,1,2,3,4,5,6,7,8,9,11,13,14,15,16,17,19,21,22,29,34,35,36,37,47,91,139] [34,61,81,86,99,109,123,130] [] Tryz.func44 Tryz.ntmps44 (AF KN (AF Ts (AF ABH (AF AEZ (AF A6d AH))))) ?_;rintro w0 O0 ⟨h,a,b,u⟩ d-⟨⟨hu,W,V⟩,va,r,hl⟩;have va:VF h a:=va;have r:VF h b:=r;have hl:List.length a+List.length b<=990:=hl;have l:(h.1,h.2)=h:=rfl;simp only[A6g,AM];repeat'(first|exact trivial|apply eS rfl|apply AB|refine rP d ?_ ?_|refine rA d ?_ ?_|refine rC ?_ ?_<;>intro c<;>try(cases c;done))
 all_goals have n:(h.1,h.2)=h:=rfl
 all_goals simp only[n]at *
 .have i:EE h=false:=by
   cases z:EE h with
   | true=>rw[z]at c;exact absurd rfl c
   | false=>rfl
  have f:Es h a b=([],5):=by unfold Es;rw[i,As (by simp)]
  simp only[i,Yg,iN,f];exact fI d [.cell 6 25,.tmp 7]
 have i:EE h=true:=by
  have q:((if EE h=true then (0:Int) else 5) != 0)=false:=by assumption
  cases z:EE h with
  | false=>rw[z]at q;exact absurd q (by decide)
  | true=>rfl
 simp only[Bq i,wdF]at *;refine AK (ι:={k:Nat//k<=2/\(1<=k->(Az h a 0).2=0)/\(2<=k->(Az h b 0).2=0)}) (λk=>⟨[(3,.bp 3 [] 0),(4,.bp 4 [] 0),(5,.bp 5 [] 0),(6,.bp 6 [] 0),(8,.bp 8 [] 0),(34,.p MT [a,b]),(35,.p (.int .i64) (2:Int)),(36,.p (.int .i64) (k.1:Int))],[(8,.box 115 true [.p Du h,.p T3 (AO h).list,.p T3 (AO h).cons,.p T3 (AO h).null,.p T3 (AO h).dlist,.p T3 (AO h).first,.p T3 (AO h).rest,.p T3 (AO h).head,.p T3 (AO h).last]),(6,.box 25 true [.raw (.slice none 0 0)]),(5,.box 25 true [.p Fq b]),(4,.box 25 true [.p Fq a]),(3,.box 31 true [.p ZB h.1,.p dQ h.2])]⟩) (λk=>2-k.1) ⟨0,by omega,λq=>by omega,λq=>by omega⟩ (AD [(3,.nm 3),(4,.nm 4),(5,.nm 5),(6,.nm 6),(8,.nm 8)] rfl rfl ?_ ?_) (λk=>?_)
 .first|exact eN|refine eM ?_
 .first|exact eN|refine eM ?_
  rfl
 obtain⟨k,hk,L,X⟩:=k;have hx:k<2->∃x,[a,b].getD k []=x/\VF h x/\((Az h x 0).2≠0->Es h a b=([],(Az h x 0).2))/\((Az h x 0).2=0->(1<=k+1->(Az h a 0).2=0)/\(2<=k+1->(Az h b 0).2=0)):=λo=>by
  have:k=0\/k=1:=by omega
  rcases this with rfl|rfl
  .exact⟨a,rfl,va,λq=>by unfold Es;rw[Bq i,Bq q],λq=>⟨λ_=>q,λM=>by omega⟩⟩
  have v:=L (NO _);exact⟨b,rfl,r,λq=>by unfold Es;rw[Bq i,As (λM=>M v),Bq q],λq=>⟨λ_=>v,λ_=>q⟩⟩
 simp only;repeat'(first|exact trivial|apply eS rfl|apply AB|refine rP d ?_ ?_|refine rA d ?_ ?_|refine rC ?_ ?_<;>intro c<;>try(cases c;done))
 all_goals have n:(h.1,h.2)=h:=rfl
 all_goals simp only[n]at *
 .exact c
 .obtain⟨x,e,s,-⟩:=hx (Do.1 c);rw[e];exact⟨s.good,s.ty,Do.2 s.pos⟩
 .obtain⟨x,e,s,f,-⟩:=hx (Do.1 (by assumption));have H:(Az h ([a,b].getD k []) 0).2≠0:=c;rw[e]at H;rw[f H,<-e];exact fI d [.cell 6 25,.tmp 7]
 .omega
 .have o:k<2:=Do.1 (by assumption);obtain⟨x,e,s,-,f⟩:=hx o;have B:(Az h ([a,b].getD k []) 0).2=0:=by simpa using c
  rw[e]at B;refine⟨⟨k+1,o,(f B).1,(f B).2⟩,by simp only;omega,AD [(3,.nm 3),(4,.nm 4),(5,.nm 5),(6,.nm 6),(8,.nm 8)] rfl rfl ?_ ?_⟩
  .first|exact eN|refine eM ?_
  first|exact eN|refine eM ?_
 .omega
 have o:2<=k:=US.1 c;have v:=L (by omega);have Y:=X o;clear hx;have N:=va.pos;have af:=va.good.1;have K:=GM 1 a (NO a.length);have I:=VL [((0:Int),[((AO h).first,(1:Int)),((AO h).rest,1+(a.length:Int))])] a va.good (by simp);have J:=VL ([((0:Int),[((AO h).first,(1:Int)),((AO h).rest,1+(a.length:Int))])]++Jt 1 a a.length) b r.good (by rw[BY,K,IS];omega);have F:([((0:Int),[((AO h).first,(1:Int)),((AO h).rest,1+(a.length:Int))])]++Jt 1 a a.length).length=1+a.length:=by rw[BY,K,IS]
 simp only[IS]at I;rw[F,show [((0:Int),[((AO h).first,(1:Int)),((AO h).rest,1+(a.length:Int))])]++Jt 1 a a.length++Jt (1+a.length) b b.length=BI 0 (AO h).first (AO h).rest a b from rfl]at J;refine CJ drawsAny d 8 [([0,1,2,3],4),([5,6],7)] [] (by kernel_rfl) (LF ?_ ?_)
 .trivial
 refine mxC d (I) [(50,.nm 63)] [63] ?_ ?_ ?_
 .exact eN
 .exact eN
 rintro _ _ ⟨rfl,rfl⟩;refine⟨[(63,.nm 50)],.sr 63 GR 0 (1+a.length),[(63,.arr 93 GR ([((0:Int),[((AO h).first,(1:Int)),((AO h).rest,1+(a.length:Int))])]++Jt 1 a a.length))],rfl,rfl,?_,?_,rfl,rfl,rfl,?_⟩
 .exact eN
 .simp only[F];exact eN
 refine LF ?_ ?_
 .trivial
 refine mxC d (J) [(50,.nm 63)] [63] ?_ ?_ ?_
 .exact eN
 .exact eN
 rintro _ _ ⟨rfl,rfl⟩;refine⟨[(63,.nm 50)],.sr 63 GR 0 (BI 0 (AO h).first (AO h).rest a b).length,[(63,.arr 93 GR (BI 0 (AO h).first (AO h).rest a b))],rfl,rfl,?_,?_,rfl,rfl,rfl,?_⟩
 .exact eN
 .exact eN
 refine R1 d ?_ ?_ ?_
 .trivial
 .trivial
 refine Fl [63] ?_;have m:=JS i;have w:=(GB h ⟨#[70,73,82,83,84]⟩).2;have y:=(GB h ⟨#[82,69,83,84]⟩).2;have C:=(GB h ⟨#[76,73,83,84]⟩).2;have D:=(GB h ⟨#[76,65,83,84]⟩).2;obtain⟨-,-,-,-,Z,aa,ab,ad⟩:=Mn h;rw[Z]at w;rw[aa]at y;rw[ab]at C;rw[ad]at D;have S:0<h.1.length:=by
  have:=va.ty _ (AE a (0,[]) N);omega
 have ae:=YB ⟨ZV 0,Do.2 S⟩ (V i) ⟨m.1.1,w⟩ ⟨m.1.2,y⟩ va r (by omega);have ag:=Co 0 (AO h).first (AO h).rest a b;have O:FtP h [(AO h).first,(AO h).last]:=λe l=>by
  simp only[By,YX,ABN]at l;rcases l with rfl|rfl
  .exact⟨m.1.1,w⟩
  exact⟨m.2.2.2.2.2.2,D⟩
 have Q:FtP h [(AO h).rest,(AO h).head]:=λe l=>by
  simp only[By,YX,ABN]at l;rcases l with rfl|rfl
  .exact⟨m.1.2,y⟩
  exact⟨m.2.2.2.2.2.1,C⟩
 have j:(Pw h a b).2=true->mW h (BI 0 (AO h).first (AO h).rest a b) [(AO h).first,(AO h).last] [(AO h).rest,(AO h).head] (Pw h a b).1:=A2C;have f:Es h a b=if (Pw h a b).2=false then ([],12) else if 4096<(AI (YD (AO h) (Pw h a b).1) ((Pw h a b).1.length:Int)).length then ([],7) else (AI (YD (AO h) (Pw h a b).1) ((Pw h a b).1.length:Int),0):=by
  unfold Es;rw[Bq i,As (λq=>q v),As (λq=>q Y)]
 rw[f];clear f;unfold Pw at j ⊢;generalize BI 0 (AO h).first (AO h).rest a b=P at *;repeat'(first|exact trivial|apply eS rfl|apply AB|refine rP d ?_ ?_|refine rA d ?_ ?_|refine rC ?_ ?_<;>intro c<;>try(cases c;done))
 all_goals have n:(h.1,h.2)=h:=rfl
 all_goals simp only[n]at *
 all_goals generalize Sh h P [(AO h).first,(AO h).last] [(AO h).rest,(AO h).head]=R at *
 .exact⟨hu,W,ae,O,Q,by omega⟩
 .rw[Bq c];exact fI d [.cell 6 25,.tmp 7]
 .exact⟨(j c).vf.good,(j c).vf.pos⟩
 .exact⟨(j c).vf.good,(j c).vf.pos⟩
 have E:=j c;have U:=E.len;simp only[No,Yo]at U;obtain⟨G,T⟩:=A2S (AO h) E.vf (by omega);rw[As (by rw[c];simp)];clear j;unfold YD at G T ⊢;generalize R.1=t at *;refine CJ drawsAny d 13 [([0,1,2],3),([4,5],6),([7,8,9],10),([11],12)] [] (by kernel_rfl) (LF ?_ ?_)
 .trivial
 refine Nx d [125] ?_ ?_
 .simp only[AQ];omega
 refine LF ?_ ?_
 .trivial
 refine mxF 125 d [125] ?_ ?_
 .simp only[AQ];omega
 refine LF ?_ ?_
 .trivial
 refine Nx d [] ?_ ?_
 .exact⟨G,Int.lt_add_one_of_le (ZV _)⟩
 refine LF ?_ ?_
 .trivial
 refine Nx d [] ?_ ?_
 .trivial
 refine R1 d ?_ ?_ ?_
 .trivial
 .trivial
 generalize AI (t++[((AO h).dlist,[((AO h).last,(KX t 0 [(AO h).rest,(AO h).last]).1),((AO h).head,(KX t 0 [(AO h).first,(AO h).head]).1)])]) (t.length:Int)=g at *;repeat'(first|exact trivial|apply eS rfl|apply AB|refine rX d ?_ ?_|refine rC ?_ ?_<;>intro c<;>try(cases c;done))
 .have A:4096<g.length:=Do.1 (show ((4096:Nat):Int)<(g.length:Int) from c);rw[Bq A];exact fI d [.cell 6 25,.tmp 7]
 have A:¬4096<g.length:=Nat.not_lt.2 (US.1 (show (g.length:Int)<=((4096:Nat):Int) from c));rw[As A];exact fI d [.cell 6 25,.tmp 7]
end
def Cm:Nat->List Int->Int->Int
 | 0,_,n=>n
 | k+1,p,n=>if EM p n=n then n else Cm k p (EM p n)
def YE (p:List Int) (n:Int):Bool:=EM p (Cm 100 p n)==Cm 100 p n
theorem nS {p:List Int}:∀ {k:Nat} {n:Int},EM p (Cm k p n)=Cm k p n->Rt p n (Cm k p n)
 | 0,n,h=>.base h
 | k+1,n,h=>by
  unfold Cm at h ⊢;split
  .rename_i e;exact .base e
  rename_i e;rw[As e]at h;exact .step e (nS h)
theorem YF {p:List Int} {n:Int} (h:YE p n=true):Rt p n (Cm 100 p n):=nS (by unfold YE at h;simpa using h)
abbrev ClD:=List Int×List Int×List (List (Int×Int))
def b5 (h:AG):Nat->ClD->List (Int×Int)->Option (Option ClD)
 | 0,_,_=>none
 | k+1,s,W=>match W.getLast? with
  | none=>some (some s)
  | some w =>
   if (YE s.1 w.1&&YE s.1 w.2)=true then
    if Cm 100 s.1 w.1=Cm 100 s.1 w.2 then b5 h k s W.dropLast
    else if (Bx h (s.2.1.getD (Cm 100 s.1 w.1).toNat 0) (s.2.1.getD (Cm 100 s.1 w.2).toNat 0)).2=false then some none
    else b5 h k (s.1.set (Cm 100 s.1 w.2).toNat (Cm 100 s.1 w.1),s.2.1.set (Cm 100 s.1 w.1).toNat (Bx h (s.2.1.getD (Cm 100 s.1 w.1).toNat 0) (s.2.1.getD (Cm 100 s.1 w.2).toNat 0)).1,s.2.2.set (Cm 100 s.1 w.1).toNat (Bz (s.2.2.getD (Cm 100 s.1 w.1).toNat []) (s.2.2.getD (Cm 100 s.1 w.2).toNat [])).1)
     (W.dropLast++(Bz (s.2.2.getD (Cm 100 s.1 w.1).toNat []) (s.2.2.getD (Cm 100 s.1 w.2).toNat [])).2)
   else none
theorem A9P {α:Type} {W:List α} {w:α} (h:W.getLast?=some w):W=W.dropLast++[w]:=by
 obtain⟨a,e⟩:=List.getLast?_eq_some_iff.1 h;rw[e];simp
theorem YG {h:AG} (hk:Hn h) {N:List AC} {P:List (Int×Int)}:∀(k:Nat) (s:ClD) (W:List (Int×Int)),JI h N P s.1 s.2.1 s.2.2 W ->
  (∀t,b5 h k s W=some (some t)->JI h N P t.1 t.2.1 t.2.2 [])/\(b5 h k s W=some none->∀X v,CP h X->¬Rb h N P X v)
 | 0,s,W,a=>⟨λt e=>(by cases e),λe=>(by cases e)⟩
 | k+1,s,W,a=>by
  unfold b5;cases g:W.getLast? with
  | none =>
   have:W=[]:=List.getLast?_eq_none_iff.1 g;subst this;refine⟨λt e=>?_,λe=>(by cases e)⟩;have e:s=t:=by simpa using e
   rw[<-e];exact a
  | some w =>
   simp only;have i:=A9P g;obtain⟨x,y⟩:=w;rw[i]at a;by_cases c:(YE s.1 x&&YE s.1 y)=true
   .rw[Bq c];rw[An]at c;have ha:=YF c.1;have d:=YF c.2;by_cases f:Cm 100 s.1 x=Cm 100 s.1 y
    .rw[Bq f];rw[<-f]at d;exact YG hk k s _ (fP a ha d)
    rw[As f];by_cases b:(Bx h (s.2.1.getD (Cm 100 s.1 x).toNat 0) (s.2.1.getD (Cm 100 s.1 y).toNat 0)).2=false
    .rw[Bq b];refine⟨λt e=>(by cases e),λ_ X v j l=>?_⟩;have:=(VI hk a ha d j l).2.1;rw[b]at this;cases this
    rw[As b];have b:(Bx h (s.2.1.getD (Cm 100 s.1 x).toNat 0) (s.2.1.getD (Cm 100 s.1 y).toNat 0)).2=true:=by simpa using b
    exact YG hk k _ _ (Xa hk a ha d f b)
   rw[As c];exact⟨λt e=>(by cases e),λe=>(by cases e)⟩
def So (h:AG):ClD->List (Int×Int)->Option (Option ClD)
 | s,[]=>some (some s)
 | s,q :: P=>match b5 h 1000 s [q] with
  | some (some t)=>So h t P
  | r=>r
theorem b6 {h:AG} (hk:Hn h) {N:List AC}:∀(R P:List (Int×Int)) (s:ClD),(∀q∈R,(0<=q.1/\q.1<(N.length:Int))/\(0<=q.2/\q.2<(N.length:Int)))->JI h N P s.1 s.2.1 s.2.2 [] ->
  (∀t,So h s R=some (some t)->JI h N (P++R) t.1 t.2.1 t.2.2 [])/\(So h s R=some none->∀X v,CP h X->¬Rb h N (P++R) X v)
 | [],P,s,g,f=>⟨λt e=>by
   have e:s=t:=by simpa[So] using e
   rw[<-e,Uh];exact f,λe=>(by cases e)⟩
 | q :: R,P,s,g,f=>by
  obtain⟨a,b⟩:=q;have c:=g (a,b) (by simp);obtain⟨m,n⟩:=YG hk 1000 s [(a,b)] (Xb f c.1 c.2);have i:P++(a,b) :: R=P++[(a,b)]++R:=by simp
  unfold So;rw[i];split
  .rename_i t l;exact b6 hk R (P++[(a,b)]) t (λq c=>g q (by simp[c])) (m t l)
  rename_i r k;refine⟨λt e=>absurd e (k t),λe X v j d=>n e X v j ⟨d.rng,d.ty,d.arc,λq c=>d.eq q (YW _ c)⟩⟩
def A9Q (s:ClD):List AC:=(List.range s.1.length).map λk=>(s.2.1.getD k 0,(s.2.2.getD k []).map λa=>(a.1,Cm 100 s.1 a.2))
def gK (s:ClD):Bool:=(List.range s.1.length).all λ(k:Nat)=>YE s.1 (k:Int)
theorem b7 {h:AG} {N:List AC} {P:List (Int×Int)} {s:ClD} (b:JI h N P s.1 s.2.1 s.2.2 []) (a:gK s=true) {x:Int} (c:0<=x) (d:x<(N.length:Int)):Cm 100 s.1 x=EH s.1 x:=by
 unfold gK at a;rw[OR]at a;have hl:=b.lp;have:=a x.toNat (Ue.2 (by omega));rw[bY c]at this;rw[fS (YF this)]
theorem A9R {h:AG} {N:List AC} {P:List (Int×Int)} {s:ClD} (b:JI h N P s.1 s.2.1 s.2.2 []) (c:gK s=true):A9Q s=quo s.1 s.2.1 s.2.2:=by
 unfold A9Q quo;refine Of λk _=>?_
 congr 1
 refine Of λa ha=>?_;have:=(b.arr k a ha).1;rw[b7 b c this.1 this.2]
def A6i (N:List AC):ClD:=(Bg 0 N.length,D6 N,GJ N)
def A9S (h:AG) (N:List AC) (P:List (Int×Int)):Option (List AC×Bool):=match So h (A6i N) P with
 | some (some s)=>if gK s=true then some (AI (A9Q s) (Cm 100 s.1 0),true) else none
 | some none=>some ([],false)
 | none=>none
theorem A9T {h:AG} (hk:Hn h) {N:List AC} (j:AN N) (k:CP h N) (hs:∀x∈N,Lv x.2) (h0:0<N.length) {P:List (Int×Int)} (i:∀q∈P,(0<=q.1/\q.1<(N.length:Int))/\(0<=q.2/\q.2<(N.length:Int))) :
  (∀a,A9S h N P=some (a,true)->∃p ty ar,JI h N P p ty ar []/\a=AI (quo p ty ar) (EH p 0))/\(∀a,A9S h N P=some (a,false)->a=[]/\∀X v,CP h X->¬Rb h N P X v):=by
 obtain⟨f,g⟩:=b6 hk P [] (A6i N) i (fX j k hs);rw[aT]at f g;unfold A9S;split
 .rename_i s c;have b:=f s c;split
  .rename_i d;refine⟨λa e=>⟨s.1,s.2.1,s.2.2,b,?_⟩,λa e=>(by cases e)⟩;have e:AI (A9Q s) (Cm 100 s.1 0)=a:=by simpa using e
   rw[<-e,A9R b d,b7 b d (by omega) (by omega)]
  exact⟨λa e=>(by cases e),λa e=>(by cases e)⟩
 .rename_i c;refine⟨λa e=>(by cases e),λa e=>⟨?_,g c⟩⟩;have e:[]=a:=by simpa using e
  exact e.symm
 exact⟨λa e=>(by cases e),λa e=>(by cases e)⟩
def AF0 (h:AG) (f:List AC) (p q:List Int):Option (List AC×Bool):=A9S h (eqN f p q) (eqP f p q)
theorem A9U {h:AG} (hu:HU h) (o:Xo h) {f:List AC} {p q:List Int} (vf:VF h f) (e:FtP h p) (i:FtP h q) (hp:p.length<=1000) (c:q.length<=1000) (hl:f.length<=1000) {r:List AC×Bool} (b:AF0 h f p q=some r):Sh h f p q=r:=by
 have I:=f5 f p q;have J:=vf.pos;obtain⟨d,z⟩:=r;have K:=Cb f (Cl p);have L:=CK p;have M:=CK q;have u:=Gr vf.good (FX hp) (by omega);have t:=Gr u (FX c) (by omega);have j:0<h.1.length:=by
  have:=vf.ty _ (AE f (0,[]) vf.pos);omega
 have G:=M4 (M4 vf.ty (RQ j p)) (RQ j q);have F:=KU (KU vf.str (Ns p)) (Ns q);have k:∀g:List AC,(∀x∈g,∀a∈x.2,0<=a.1/\a.1<(h.2.length:Int))->mJ g:=λg w x hx a ha=>by
  have h1:=w x hx a ha;have H:=hu.ft;omega
 have s:=M5 (M5 (vf.ft64 hu) (k _ (KW e))) (k _ (KW i));obtain⟨D,E⟩:=A9T hu.ok (N:=eqN f p q) t G F (by omega) (P:=eqP f p q) (λr b=>by
  simp only[By,YX,ABN]at b;rcases b with rfl|rfl|rfl<;>simp only<;>omega)
 cases z with
 | true =>
  obtain⟨Q,ty,ar,m,rfl⟩:=D d b;exact bQ hu (A5N o vf e i hp c (by omega) m (Xl m (by omega) s))
 | false =>
  obtain⟨rfl,B⟩:=E d b;refine bR λX l O h1 n y A=>?_;obtain⟨v,C,-⟩:=f6 o vf hp c (by omega) l h1 y A;exact B X v l.ty C
def roB (f:List AC):Bool:=(List.range f.length).all λ(i:Nat)=>i==0||(List.range i).any λj=>(f.getD j (0,[])).2.any λa=>a.2==(i:Int)
def A9V:List (Int×Int)->Bool
 | a :: b :: l=>decide (a.1<b.1)&&A9V (b :: l)
 | _=>true
theorem A0R:∀ {l:List (Int×Int)},A9V l=true->Lv l
 | [],_=>.nil
 | [a],_=>iS _ _
 | a :: b :: l,h=>by
  simp only[A9V,An,DO]at h;have e:=A0R h.2;refine Uf.2 ⟨λc d=>?_,e⟩;rcases By.1 d with rfl|d
  .exact h.1
  have:=(Uf.1 e).1 c d;omega
def vfB (h:AG) (f:List AC):Bool :=
 decide (0<f.length)&&decide (f.length<=100)&&roB f&&(AI f 0==f)&&f.all λx=>decide (0<=x.1)&&decide (x.1<(h.1.length:Int))&&decide (x.2.length<=100)&&A9V x.2&&x.2.all λa=>decide (0<=a.1)&&decide (a.1<(h.2.length:Int))&&decide (0<=a.2)&&decide (a.2<(f.length:Int))
theorem YH {h:AG} {f:List AC} (d:vfB h f=true):VF h f:=by
 unfold vfB at d;simp only[An,DO,OR,YV]at d;obtain⟨⟨⟨⟨h1,l⟩,c⟩,k⟩,b⟩:=d;refine⟨⟨by omega,λx hx=>⟨by have:=(b x hx).1.1.2;omega,λa ha=>?_⟩⟩,h1,λx hx=>?_,λx hx=>?_,λx hx a ha=>?_,k,λi m n=>?_⟩
 .have:=(b x hx).2 a ha;exact⟨this.1.2,this.2⟩
 .exact(b x hx).1.1.1
 .exact A0R (b x hx).1.2
 .exact((b x hx).2 a ha).1.1
 unfold roB at c;rw[OR]at c;have:=c i.toNat (Ue.2 (by omega));rw[Ub,YV]at this;rcases this with e|e
 .omega
 obtain⟨j,g,e⟩:=Ua.1 e;obtain⟨a,ha,e⟩:=Ua.1 e;have g:=Ue.1 g;refine⟨(j:Int),by omega,by omega,a,by rw[AP,UQ];exact ha,?_⟩;have e:a.2=(i.toNat:Int):=by simpa using e
 omega
theorem A6j:HE []=D8:=by
 rw[<-A9C];unfold HE VD;simp
theorem ABI (d:List AL):H11 (HE d):=by
 unfold HE;split
 .exact Tp _
 exact Tp _
theorem VQ:H11 D8:=by rw[<-A6j];exact ABI []
theorem nT:Xo D8:=VQ.top
theorem AFt:Bp D8 (AO D8).null [[(5,[])],[(6,[])]]=([(3,[(2,1),(10,2)]),(5,[]),(3,[(2,3),(10,4)]),(6,[]),(8,[])],0):=by decide +kernel
theorem AFu:Er D8 []=([(4,[(6,1),(7,1)]),(2,[])],0):=by decide +kernel
theorem AFv:Er D8 [[(5,[])]]=([(4,[(6,1),(7,2)]),(2,[]),(3,[(2,3),(10,1)]),(5,[])],0):=by decide +kernel
theorem AFw:CE D8 [(3,[(2,1),(10,2)]),(5,[]),(3,[(2,3),(10,4)]),(6,[]),(8,[])] 0=([1,3],true,0):=by decide +kernel
theorem AFx:CE D8 [(3,[(2,1),(10,0)]),(5,[])] 0=([],false,6):=by decide +kernel
def xD:List AC:=[(4,[(6,1),(7,2)]),(2,[]),(3,[(2,3),(10,1)]),(5,[])]
def xU:List AC:=[(0,[(2,1),(10,7)]),(4,[(6,2),(7,5)]),(3,[(2,3),(10,4)]),(5,[]),(2,[]),(3,[(2,6),(10,2)]),(5,[]),(4,[(6,4),(7,2)])]
def xK:List AC:=[(4,[(6,1),(7,2)]),(2,[]),(3,[(2,3),(10,4)]),(5,[]),(3,[(2,5),(10,1)]),(5,[])]
theorem ABJ:VF D8 xD:=YH (by decide +kernel)
theorem AFy:VF D8 xK:=YH (by decide +kernel)
theorem xlw:AO D8=⟨2,3,8,4,2,10,7,6⟩:=by
 have e1:(AO D8).list=2:=by decide +kernel
 have e2:(AO D8).cons=3:=by decide +kernel
 have a:(AO D8).null=8:=by decide +kernel
 have b:(AO D8).dlist=4:=by decide +kernel
 have c:(AO D8).first=2:=by decide +kernel
 have d:(AO D8).rest=10:=by decide +kernel
 have e:(AO D8).head=7:=by decide +kernel
 have f:(AO D8).last=6:=by decide +kernel
 generalize AO D8=w at *;obtain⟨g,h,i,j,k,l,m,n⟩:=w;simp only at e1 e2 a b c d e f;rw[e1,e2,a,b,c,d,e,f]
theorem AFz:AF0 D8 (BI 0 2 10 xD xD) [2,6] [10,7]=some (xU,true):=by decide +kernel
theorem xu:Pw D8 xD xD=(xU,true):=by
 unfold Pw;rw[xlw];have hf:D8.2.length=13:=by decide +kernel
 have h0:0<D8.1.length:=by decide +kernel
 refine A9U VQ.hu nT (YB ⟨ZV 0,Do.2 h0⟩ (by decide) (by rw[hf];decide) (by rw[hf];decide) ABJ ABJ (by decide)) (λe a=>?_) (λe a=>?_) (by decide) (by decide) (by decide) AFz
 .rw[hf];simp only[By,YX,ABN]at a;rcases a with rfl|rfl<;>decide
 rw[hf];simp only[By,YX,ABN]at a;rcases a with rfl|rfl<;>decide
theorem AFA:Es D8 xD xD=(xK,0):=by
 unfold Es;rw[xu];have e1:EE D8=true:=by decide +kernel
 have e2:(Az D8 xD 0).2=0:=by decide +kernel
 have a:AI (YD (AO D8) xU) (xU.length:Int)=xK:=by decide +kernel
 rw[Bq e1,As (λq=>q e2),As (λq=>q e2),As (by decide)];simp only[a];rfl
theorem AFB:Nt D8 xK=([[(5,[])],[(5,[])]],0):=by decide +kernel
section
attribute [local go_sem] KK Mi
def b8:AZ:={ ins:=[FA],pre:=λ_=>True,out:=λ(d,_)=>[.p Du (HE d)] }
theorem gL:Ad Tryz.prog 17 b8:=by
 refine fK [0,2,3,4,5,9,16] Tryz.func17 Tryz.ntmps17 (AF qL (AF qJ AH)) ?_;rintro w0 O0 ⟨d,u⟩ a - -;simp only[b8,AM];repeat'(first|exact trivial|apply eS rfl|apply AB|refine rX a ?_ ?_|refine rC ?_ ?_<;>intro b<;>try(cases b;done))
 .have h1:HE d=(BD d).1:=by unfold HE;rw[Bq ⟨by exact eV,b⟩]
  exact fI a [.cell 2 31] (by rw[h1];exact eR)
 .have h1:HE d=(BD KJ).1:=by unfold HE;rw[As (λh=>b h.2)]
  exact fI a [.cell 2 31] (by rw[h1];exact eR)
 have h1:HE d=(BD KJ).1:=by
  unfold HE;rw[As];intro h;have:=h.1;exact eV
 exact fI a [.cell 2 31] (by rw[h1];exact eR)
end
section
attribute [local go_sem] SM LR
def gM:AZ:={ ins:=[Du,DC],pre:=λ_=>True,out:=λ(h,f,_)=>[.p .bool (Jq h f)],lend:=true }
theorem A6k:Ad Tryz.prog 36 gM:=by
 refine fK [0,1,2,3,4] Tryz.func36 Tryz.ntmps36 (AF A54 (AF A2i AH)) ?_;rintro w0 O0 ⟨⟨d,hf⟩,f,u⟩ a - -;simp only[gM,AM];repeat'(first|exact trivial|apply eS rfl|apply AB|refine rX a ?_ ?_|refine rC ?_ ?_<;>intro b<;>try(cases b;done))
 .intro h;obtain⟨h1,c⟩:=Mq h;exact⟨UR h1 (by decide),λx hx=>UR (c x hx) (by decide)⟩
 exact fI a [.tmp 4] (by unfold Jq;exact eR)
end
section
attribute [local go_sem] b8 aR Sm Sn RT A6g Kb Jp A2N gM
def gP:AZ:={ ins:=[Ft,Ft],pre:=λ_=>True,out:=λ(a,b,_)=>[.p .bool (decide ((a:List Int)=b))],lend:=true }
attribute [local go_sem] gP
theorem A6l:Ad Tryz.prog 42 gP:=by
 refine fK [0,1,4,5,10,14,25] Tryz.func42 Tryz.ntmps42 AH ?_;rintro w0 O0 ⟨a,b,u⟩ d ⟨⟨j,-⟩,-⟩ -;simp only[AQ]at j;simp only[gP,AM];repeat'(first|exact trivial|apply eS rfl|apply AB|refine rX d ?_ ?_|refine rC ?_ ?_<;>intro c<;>try(cases c;done))
 .have h:(a:List Int)≠b:=λe=>c (by rw[e]);exact fI d [.tmp 4] (by rw[AFb h];exact eR)
 have i:List.length a=List.length b:=by
  have:=c;simp only[bne_eq_false_iff_eq]at this;omega
 refine AK (ι:={k:Nat//k<=List.length a/\(a:List Int).take k=(b:List Int).take k}) (λk=>⟨[(0,.p Ft a),(1,.p Ft b),(5,.p (.int .i64) (k.1:Int))],[]⟩) (λk=>List.length a-k.1) ⟨0,Is _,rfl⟩ (AD [] rfl rfl ?_ ?_) (λk=>?_)
 .first|exact eN|refine eM ?_
 .first|exact eN|refine eM ?_
 obtain⟨k,hk,g⟩:=k;repeat'(first|exact trivial|apply eS rfl|apply AB|refine rX d ?_ ?_|refine rC ?_ ?_<;>intro c<;>try(cases c;done))
 .exact⟨by assumption,by rw[<-i];assumption⟩
 .have f:k<List.length a:=by exact eV
  have h:(a:List Int)≠b:=λe=>c (by rw[e]);exact fI d [.tmp 4] (by rw[AFb h];exact eR)
 .exact eV
 .have f:k<List.length a:=by exact eV
  refine⟨⟨k+1,f,?_⟩,by simp only;omega,AD [] rfl rfl ?_ ?_⟩
  .have e:List.getD a k 0=List.getD b k 0:=by simpa using c
   rw[Av (a:List Int) 0 f,Av (b:List Int) 0 (by omega),g,e]
  .first|exact eN|refine eM ?_
  first|exact eN|refine eM ?_
 have f:k=List.length a:=by exact eV
 rw[f,UO,i,UO]at g;exact fI d [.tmp 4] (by rw[ABT g];exact eR)
def b9:AZ:={ ins:=[],pre:=λ_=>True,out:=λ_=>[.p .bool true] }
attribute [local go_sem] b9
theorem A0S:Ad Tryz.prog 37 b9:=by
 refine fKP [0,1,2,3,4,5,6,7,8,9,10,11,12,13,16,17,18,19,20,21,22] [28,33,37,41,44,48,51,57,83,125,148] [] Tryz.func37 Tryz.ntmps37 (AF gL (AF A97 (AF X6 (AF X7 (AF X2 (AF A9O (AF X3 (AF Q9 (AF A6l (AF A64 AH)))))))))) ?_;rintro w0 O0 u c - -;simp only[b9,AM];have k:((HE []).1,(HE []).2)=D8:=A6j;have e:=ABJ;have a:=AFy;have b:VF D8 [(3,[(2,1),(10,2)]),(5,[]),(3,[(2,3),(10,4)]),(6,[]),(8,[])]:=YH (by decide +kernel);have g:VF D8 [(3,[(2,1),(10,0)]),(5,[])]:=YH (by decide +kernel);have f:VF D8 [(4,[(6,1),(7,1)]),(2,[])]:=YH (by decide +kernel);have j:(AO D8).first<(AO D8).rest:=by rw[xlw];decide
 have hl:∀n:Int,AN [(n,[])]/\DY [(n,[])]:=λn=>⟨⟨by simp,by simp⟩,by simp[DY]⟩;have i:xD=[(4,[(6,1),(7,2)]),(2,[]),(3,[(2,3),(10,1)]),(5,[])]:=rfl;have t:xK=[(4,[(6,1),(7,2)]),(2,[]),(3,[(2,3),(10,4)]),(5,[]),(3,[(2,5),(10,1)]),(5,[])]:=rfl;have m:=AFt;have o:=AFu;have d:=AFv;have p:=AFw;have q:=AFx;have r:=AFA;have s:=AFB;rw[<-i]at d;repeat'(first|exact trivial|apply eS rfl|apply AB|refine rX c ?_ ?_|refine rC ?_ ?_<;>intro h<;>try(cases h;done))
 all_goals try simp only[k,m,o,d,p,q,r,s]
 .intro x hx;simp only[By,YX,ABN]at hx;rcases hx with rfl|rfl
  .exact hl 5
  exact hl 6
 .intro x hx;cases hx
 .exact⟨b.good,b.ty,by decide⟩
 .exact⟨g.good,g.ty,by decide⟩
 .intro x hx;rw[UM.1 hx];exact hl 5
 .exact⟨⟨VQ.hu,nT,λ_=>j⟩,e,e,by decide⟩
 .exact⟨a.good,a.srt VQ.hu,a.ty,a.pos⟩
 .have hs:∀x∈([[((5:Int),[])],[((5:Int),[])]]:List (List AC)),DX x:=λx hx=>by
   simp only[By,YX,ABN,or_self]at hx;rw[hx];exact Xp (hl 5).1
  exact⟨λ_=>⟨b.small,b.small⟩,λ_=>⟨f.small,f.small⟩,λ_=>⟨hs,hs⟩⟩
 have l:RU [[((5:Int),[])],[((5:Int),[])]] [[((5:Int),[])],[((5:Int),[])]]=true:=by decide +kernel
 simp only[Gy,l];exact fI c [.tmp 0]
def HK (h:AG) (l:List (List AC)):Bool:=decide (l.length<=5)&&l.all (Jq h)
def NB:AZ:={ ins:=[Du,MT],pre:=λ_=>True,out:=λ(h,l,_)=>[.p .bool (HK h l)],lend:=true }
attribute [local go_sem] NB
theorem YI:Ad Tryz.prog 46 NB:=by
 refine fK [0,1,2,4,5,8,12,21] Tryz.func46 Tryz.ntmps46 (AF A6k AH) ?_;rintro w0 O0 ⟨h,l,u⟩ c - -;simp only[NB,AM];have e:(h.1,h.2)=h:=rfl;repeat'(first|exact trivial|apply eS rfl|apply AB|refine rX c ?_ ?_|refine rC ?_ ?_<;>intro a<;>try(cases a;done))
 .have d:HK h l=false:=by
   unfold HK;rw[AFb (by have g:(5:Int)<(List.length l:Int):=a;omega)];rfl
  exact fI c [.tmp 4] (by rw[d];exact eR)
 have f:(List.length l:Int)<=5:=a;have d:HK h l=List.all (l:List (List AC)) (Jq h):=by
  unfold HK;rw[ABT (by omega),AFT]
 rw[d];refine AK (ι:={k:Nat//k<=List.length l/\List.all (List.take k (l:List (List AC))) (Jq h)=true}) (λk=>⟨[(1,.p MT l),(2,.bp 2 [] 0),(5,.p (.int .i64) (k.1:Int))],[(2,.box 31 true [.p ZB h.1,.p dQ h.2])]⟩) (λk=>List.length l-k.1) ⟨0,Is _,rfl⟩ (AD [(2,.nm 2)] rfl rfl ?_ ?_) (λk=>?_)
 .first|exact eN|refine eM ?_
 .first|exact eN|refine eM ?_
 obtain⟨k,hk,ha⟩:=k;simp only;repeat'(first|exact trivial|apply eS rfl|apply AB|refine rX c ?_ ?_|refine rC ?_ ?_<;>intro a<;>try(cases a;done))
 all_goals try simp only[e]at *
 .exact a
 .have b:k<List.length l:=Do.1 (by assumption);have hf:List.all (l:List (List AC)) (Jq h)=false:=by
   rw[AF2];refine⟨_,AE (l:List (List AC)) [] b,?_⟩;rw[show Jq h (List.getD l k [])=false from a];simp
  exact fI c [.tmp 4] (by rw[hf];exact eR)
 .omega
 .have b:k<List.length l:=Do.1 (by assumption);refine⟨⟨k+1,b,by rw[Av (l:List (List AC)) [] b,AF3,ha,AAk,a];rfl⟩,by simp only;omega,AD [(2,.nm 2)] rfl rfl ?_ ?_⟩
  .first|exact eN|refine eM ?_
  first|exact eN|refine eM ?_
 have b:List.take k (l:List (List AC))=l:=At (US.1 a);rw[b]at ha;exact fI c [.tmp 4] (by rw[ha];exact eR)
end
section
attribute [local go_sem] b8 NB b9 Sm nJ Sn A0P gI gJ Jp
theorem A6m (c a b:Int) (l:List (List AC)):VO 0 c a b l=OB c a b l:=by
 unfold VO OB;refine Yp (λf=>l.foldl f []) (funext λN=>funext λx=>?_);unfold GN Ba;rw[tO,show ((0:Nat):Int)+(N.length:Int)=(N.length:Int) from AG8 _]
def shG (x:AC):AC:=(x.1,AR 1 x.2)
theorem sU (b:Nat) (l:List (Int×Int)):AR 1 (AR b l)=AR (1+b) l:=by
 unfold AR;rw[YU];refine Of λa _=>?_;show (a.1,a.2+(b:Int)+((1:Nat):Int))=(a.1,a.2+((1+b:Nat):Int));rw[show a.2+(b:Int)+((1:Nat):Int)=a.2+((1+b:Nat):Int) by omega]
theorem A6n (c a b:Int) (N x:List AC):(Ba c a b N x).map shG=GN 1 c a b (N.map shG) x:=by
 unfold Ba GN;rw[UZ,UZ,OF,E3,E3,YU];have e1:[((c,[(a,(N.length:Int)+1),(b,(N.length:Int)+1+(x.length:Int))]):AC)].map shG=[(c,[(a,((1:Nat):Int)+(N.length:Int)+1),(b,((1:Nat):Int)+(N.length:Int)+1+(x.length:Int))])]:=by
  show [(c,[(a,(N.length:Int)+1+((1:Nat):Int)),(b,(N.length:Int)+1+(x.length:Int)+((1:Nat):Int))])]=_;rw[show (N.length:Int)+1+((1:Nat):Int)=((1:Nat):Int)+(N.length:Int)+1 by omega,show (N.length:Int)+1+(x.length:Int)+((1:Nat):Int)=((1:Nat):Int)+(N.length:Int)+1+(x.length:Int) by omega]
 have e2:x.map (shG∘λy:AC=>(y.1,AR (N.length+1) y.2))=x.map λy:AC=>(y.1,AR (1+N.length+1) y.2):=by
  refine Of λy _=>?_;show (y.1,AR 1 (AR (N.length+1) y.2))=_;rw[sU,show 1+(N.length+1)=1+N.length+1 by omega]
 rw[e1,e2]
theorem A9W (c a b:Int) (l:List (List AC)):(OB c a b l).map shG=VO 1 c a b l:=by
 unfold OB VO;have key:∀(l:List (List AC)) (N:List AC),(l.foldl (Ba c a b) N).map shG=l.foldl (GN 1 c a b) (N.map shG):=by
  intro l;induction l with
  | nil=>exact λ_=>rfl
  | cons x l d=>exact λN=>by rw[UN,UN,d,A6n]
 exact key l []
theorem A6o (w:LW) (l:List (List AC)):ER w.dlist w.head w.last (Cf w.cons w.first w.rest w.list l)=Pv w l:=by
 have h1:=A9W w.cons w.first w.rest l;have hl:(OB w.cons w.first w.rest l).length=(VO 1 w.cons w.first w.rest l).length:=by rw[<-h1,OF]
 unfold ER Pv;rw[E3,Lc,<-VM w.cons w.first w.rest,show (λx:AC=>(x.1,AR 1 x.2))=shG from rfl];unfold Cf;rw[UZ,h1,hl];rw[show (1:Int)+((((VO 1 w.cons w.first w.rest l).length+1:Nat):Int)-1)=1+((VO 1 w.cons w.first w.rest l).length:Int) by omega];rfl
theorem Kg:∀ {l:List (List AC)} {m:Int},(∀x∈l,x.length<=100)->m+101*(l.length:Int)<=4096->E5 l m=true
 | [],_,_,_=>rfl
 | x :: l,m,hl,h=>by
  have hx:=hl x (by simp);rw[No]at h;unfold E5;rw[As (by omega)];exact Kg (λy a=>hl y (GO _ a)) (by omega)
theorem YJ {l:List AC} (h:l.length<=4096):Oi l=Ax l:=As (by omega)
theorem A0T (h:AG) (t:Int) {l:List (List AC)} (hl:∀x∈l,x.length<=100) (b:l.length<=10):EY h t l=Bp h t l:=by
 have a:=X8 0 (AO h).cons (AO h).first (AO h).rest hl l.length;rw[UO]at a;unfold EY Bp;rw[Kg hl (by omega),Bq rfl,YJ (by rw[BY,IS];omega),A6m];rfl
theorem A9X (h:AG) {l:List (List AC)} (hl:∀x∈l,x.length<=100) (b:l.length<=10):NA h l=Er h l:=by
 have a:=X8 1 (AO h).cons (AO h).first (AO h).rest hl l.length;rw[UO]at a;unfold NA Er;rw[Kg hl (by omega),Bq rfl,YJ (by unfold Pv;rw[No,BY,IS];omega),A6o]
theorem cA {h:AG} (hh:H11 h) {l:List (List AC)} (e:HK h l=true):l.length<=5/\∀x∈l,VF h x/\x.length<=12:=by
 unfold HK at e;rw[An,DO,OR]at e;exact⟨e.1,λx hx=>A5O hh.b1 hh.hu.ft (e.2 x hx)⟩
theorem nU {h:AG} (hu:HU h) {x:List AC} (v:VF h x):DY x:=λy a=>(v.srt hu y a).2
theorem nV {f:List AC} (h:DY f):Gp f:=λx hx=>UR (h x hx) (by decide)
theorem YK {h:AG} {t:Int} {l:List (List AC)} (hl:∀x∈l,DY x):DX (Bp h t l).1:=by
 have h0:DX ([]:List AC):=⟨Is _,λx hx=>by cases hx⟩;unfold Bp;split
 .split
  .exact Mr (nV (Kd _ _ _ _ hl))
  exact h0
 exact h0
theorem sV {h:AG} {l:List (List AC)} (hl:∀x∈l,DY x):DX (Er h l).1:=by
 have h0:DX ([]:List AC):=⟨Is _,λx hx=>by cases hx⟩;unfold Er;split
 .split
  .exact Mr (nV (nK _ _ _ (Kd _ _ _ _ hl)))
  exact h0
 exact h0
def sW:AZ:={ ins:=[FA,MT],pre:=λ_=>True,out:=λ_=>[.p .bool true] }
attribute [local go_sem] sW
theorem A6p:Ad Tryz.prog 12 sW:=by
 refine fK [0,1,4,5,6,7,8,9,10,11,12,13,14,15,16,17,23] Tryz.func12 Tryz.ntmps12 (AF gL (AF YI (AF A0S (AF X6 (AF A0N (AF X7 (AF A9M (AF A6b (AF A6c (AF Q9 AH)))))))))) ?_;rintro w0 O0 ⟨d,l,u⟩ f - -;simp only[sW,AM];have hh:=ABI d;have i:=λq=>cA hh (l:=l) q;generalize m:HE d=h at *;have n:(h.1,h.2)=h:=rfl;repeat'(first|exact trivial|apply eS rfl|apply AB|refine rX f ?_ ?_|refine rC ?_ ?_<;>intro e<;>try(cases e;done))
 all_goals try simp only[m,n]at *
 .exact fI f [.tmp 4]
 all_goals
  have k:=(i e).1;have hx:=(i e).2;have a:∀x∈(l:List (List AC)),AN x/\DY x:=λx q=>⟨(hx x q).1.good,nU hh.hu (hx x q).1⟩;have b:∀x∈(l:List (List AC)),AN x/\List.length x<=100:=λx q=>⟨(hx x q).1.good,UR (hx x q).2 (by decide)⟩;have c:List.length l<=10:=UR k (by decide);have e1:=A0T h (AO h).null (λx q=>(b x q).2) c;have e2:=A0T h (AO h).list (λx q=>(b x q).2) c;have g:=A9X h (λx q=>(b x q).2) c;have s1:=YK (h:=h) (t:=(AO h).null) λx q=>(a x q).2;have s2:=YK (h:=h) (t:=(AO h).list) λx q=>(a x q).2;have j:=sV (h:=h) λx q=>(a x q).2
 .exact a
 .exact⟨hh.hu.ok,b,c⟩
 .exact a
 .exact⟨hh.hu.ok,b,c⟩
 .exact a
 .exact⟨hh.hu.ok,b,c⟩
 .rw[e1,e2,g];exact⟨λ_=>⟨s1,s1⟩,λ_=>⟨s2,s2⟩,λ_=>⟨j,j⟩⟩
 rw[e1,e2,g];simp only[Gy];exact fI f [.tmp 4] (by simp;exact eR)
end
theorem A9Y {T:List AC} (hT:AN T) {r:Int} (t:0<=r) (u:r<(T.length:Int)) :
  rS (AI T r) T (λi=>(CG T T.length [] r).getD i.toNat 0) (λi=>0<=i/\i<((AI T r).length:Int)) /\
  (∀i,0<=i->i<((AI T r).length:Int)->(0<=(CG T T.length [] r).getD i.toNat 0/\(CG T T.length [] r).getD i.toNat 0<(T.length:Int))/\(T.getD ((CG T T.length [] r).getD i.toNat 0).toNat (0,[])).1=((AI T r).getD i.toNat (0,[])).1) /\
  (CG T T.length [] r).getD 0 0=r/\(AI T r).length<=T.length:=by
 have c:=Ho hT t u;have p:=Ik T r;have h:=λi=>Ij (f:=T) (r:=r) (i:=i);generalize AI T r=m at *;generalize CG T T.length [] r=o at *;have v:=c.ok.len;have d:∀i:Int,0<=i->i<(o.length:Int)->o.getD i.toNat 0∈o/\BE o (o.getD i.toNat 0)=i:=λi g l=>by
  refine⟨AE o 0 (by omega),?_⟩;rw[FL c.ok.nd (by omega)];omega
 have k:∀i:Int,0<=i->i<(o.length:Int)->AP m i=(AP T (o.getD i.toNat 0)).map (Gm o):=λi g l=>by
  rw[AP,h i.toNat (by omega)];rfl
 refine⟨⟨λi hi=>?_,λi hi a ha=>?_,λi j hi s e=>?_⟩,λi g l=>⟨c.ok.rng _ (d i g (by omega)).1,?_⟩,c.zero.1,by omega⟩
 .rw[k i hi.1 (by omega),YU];have:∀a∈AP T (o.getD i.toNat 0),((λa:Int×Int=>(a.1,o.getD a.2.toNat 0))∘Gm o) a=a:=λa ha=>by
   show (a.1,o.getD (BE o a.2).toNat 0)=a;rw[(BX (c.cl _ (d i hi.1 (by omega)).1 a ha)).2.2]
  rw[Of this,AGr]
 .rw[k i hi.1 (by omega)]at ha;obtain⟨b,q,rfl⟩:=IF.1 ha;have:=BX (c.cl _ (d i hi.1 (by omega)).1 b q);rw[p];exact⟨this.1,this.2.1⟩
 .have h1:=(d i hi.1 (by omega)).2;have n:=(d j s.1 (by omega)).2;have e:o.getD i.toNat 0=o.getD j.toNat 0:=e;rw[<-h1,<-n,e]
 rw[h i.toNat (by omega)];rfl
theorem A6q {h:AG} {c e1 e2:Int} {a b X:List AC} (m:AN a) (n:AN b) (u:0<a.length) (v:0<b.length) {va g:Int->Int} (ha:Rb h a [] X va) (j:Rb h b [] X g) {x:Int} (t:0<=x/\x<(X.length:Int)) (s:A1 h c (X.getD x.toNat (0,[])).1=true) (h1:Ao (AP X x) e1=va 0) (o:Ao (AP X x) e2=g 0) :
  Rb h (BI c e1 e2 a b) [] X λi=>if i=0 then x else if i<=(a.length:Int) then va (i-1) else g (i-1-(a.length:Int)):=by
 have hl:=Co c e1 e2 a b;refine⟨λi k l=>?_,λi k l=>?_,λi k l y d=>?_,λq p=>by cases p⟩
 .try simp only
  split
  .exact t
  split
  .exact ha.rng _ (by omega) (by omega)
  exact j.rng _ (by omega) (by omega)
 .try simp only
  split
  .rename_i e;subst e;rw[VP];exact s
  split
  .have:=ha.ty (i-1) (by omega) (by omega);rw[show i.toNat=((1:Int)+(i-1)).toNat by omega,JV c e1 e2 b (by omega) (by omega)];exact this
  have:=j.ty (i-1-(a.length:Int)) (by omega) (by omega);rw[show i.toNat=(((1+a.length:Nat):Int)+(i-1-(a.length:Int))).toNat by omega,Hs c e1 e2 a (by omega) (by omega)];exact this
 try simp only
 split
 .rename_i e;subst e;rw[AP,VP]at d;have d:y∈[(e1,(1:Int)),(e2,1+(a.length:Int))]:=d;simp only[By,YX,ABN]at d;rcases d with rfl|rfl
  .try simp only
   rw[As (by omega),Bq (by omega),h1];rfl
  try simp only
  rw[As (by omega),As (by omega),o];exact Yp g (by omega)
 split
 .rw[AP,show i.toNat=((1:Int)+(i-1)).toNat by omega,JV c e1 e2 b (by omega) (by omega)]at d;obtain⟨z,f,rfl⟩:=DA.1 d;have r:=Au m f;have:=ha.arc (i-1) (by omega) (by omega) z f;try simp only
  rw[As (by omega),Bq (by omega),this];exact Yp va (by omega)
 rw[AP,show i.toNat=(((1+a.length:Nat):Int)+(i-1-(a.length:Int))).toNat by omega,Hs c e1 e2 a (by omega) (by omega)]at d;obtain⟨z,f,rfl⟩:=DA.1 d;have r:=Au n f;have:=j.arc (i-1-(a.length:Int)) (by omega) (by omega) z f;try simp only
 rw[As (by omega),As (by omega),this];exact Yp g (by omega)
theorem A2T {h:AG} {c e1 e2:Int} {a:List AC} (va:VF h a) (b:List AC) {n:Int} (n0:0<=n) (n1:n<(a.length:Int)):AI (BI c e1 e2 a b) (1+n)=AI a n:=by
 have hl:=Co c e1 e2 a b;refine GL (ψ:=λi=>1+i) (C:=λi=>0<=i/\i<(a.length:Int)) ⟨λi hi=>?_,λi hi x hx=>Au va.good hx,λi j hi d e=>by have e:(1:Int)+i=1+j:=e;omega⟩ va.good ⟨n0,n1⟩ n0 n1 (by omega) λi hi=>?_
 .rw[AP,JV c e1 e2 b hi.1 hi.2];refine Of λx _=>?_;show (x.1,x.2+((1:Nat):Int))=(x.1,1+x.2);rw[AF5];rfl
 show ((BI c e1 e2 a b).getD (1+i).toNat (0,[])).1=_;rw[JV c e1 e2 b hi.1 hi.2]
theorem cB {c e1 e2:Int} (a:List AC) {b:List AC} (d:AN b):rS b (BI c e1 e2 a b) (λi=>((1+a.length:Nat):Int)+i) λi=>0<=i/\i<(b.length:Int) :=
 ⟨λi hi=>by
  rw[AP,Hs c e1 e2 a hi.1 hi.2];refine Of λx _=>?_;show (x.1,x.2+((1+a.length:Nat):Int))=(x.1,((1+a.length:Nat):Int)+x.2);rw[AF5],λi hi x hx=>Au d hx,λi j hi f e=>by have e:((1+a.length:Nat):Int)+i=((1+a.length:Nat):Int)+j:=e;omega⟩
theorem nW {c e1 e2:Int} (a:List AC) {b:List AC} {i:Int} (hi:0<=i/\i<(b.length:Int)):((BI c e1 e2 a b).getD (((1+a.length:Nat):Int)+i).toNat (0,[])).1=(b.getD i.toNat (0,[])).1:=by
 rw[Hs c e1 e2 a hi.1 hi.2]
theorem sY {c e1 e2:Int} (a:List AC) {b:List AC} (d:AN b) {n:Int} (n0:0<=n/\n<(b.length:Int)):AI (BI c e1 e2 a b) (((1+a.length:Nat):Int)+n)=AI b n:=by
 have hl:=Co c e1 e2 a b;exact GL (cB a d) d n0 n0.1 n0.2 (by omega) λi hi=>nW a hi
def UJ (c e1 e2 t:Int):List (List AC)->List AC
 | []=>[(t,[])]
 | x :: l=>BI c e1 e2 x (UJ c e1 e2 t l)
theorem sZ (a b:Nat) (l:List (Int×Int)):AR a (AR b l)=AR (a+b) l:=by
 unfold AR;rw[YU];refine Of λx _=>?_;show (x.1,x.2+(b:Int)+(a:Int))=(x.1,x.2+((a+b:Nat):Int));rw[show x.2+(b:Int)+(a:Int)=x.2+((a+b:Nat):Int) by omega]
def OC (k:Nat) (N:List AC):List AC:=N.map λx=>(x.1,AR k x.2)
theorem A9Z (k:Nat) (N:List AC):(OC k N).length=N.length:=OF _
theorem A0U (a b:Nat) (N:List AC):OC a (OC b N)=OC (a+b) N:=by
 unfold OC;rw[YU];refine Of λx _=>?_;show (x.1,AR a (AR b x.2))=_;rw[sZ]
theorem gR (k:Nat) (M N:List AC):OC k (M++N)=OC k M++OC k N:=UZ
theorem A2U (c a b:Int) (N x:List AC):Ba c a b N x=N++OC N.length (Ba c a b [] x):=by
 unfold Ba;rw[E3,E3];have e:OC N.length (([]:List AC)++[(c,[(a,(([]:List AC).length:Int)+1),(b,(([]:List AC).length:Int)+1+(x.length:Int))])]++OC (([]:List AC).length+1) x)=[(c,[(a,(N.length:Int)+1),(b,(N.length:Int)+1+(x.length:Int))])]++OC (N.length+1) x:=by
  rw[aT,gR,A0U];refine Yp (·++_) ?_;show [(c,[(a,(0:Int)+1+(N.length:Int)),(b,(0:Int)+1+(x.length:Int)+(N.length:Int))])]=_;rw[show (0:Int)+1+(N.length:Int)=(N.length:Int)+1 by omega,show (0:Int)+1+(x.length:Int)+(N.length:Int)=(N.length:Int)+1+(x.length:Int) by omega]
 rw[UT];exact Yp (N++·) e.symm
theorem YL (c a b:Int):∀(l:List (List AC)) (N:List AC),l.foldl (Ba c a b) N=N++OC N.length (OB c a b l)
 | [],N=>(Uh N).symm
 | x :: l,N=>by
  have e:OB c a b (x :: l)=Ba c a b [] x++OC (Ba c a b [] x).length (OB c a b l):=YL c a b l _;rw[e,UN,YL c a b l,gR,A0U,A2U c a b N,BY,A9Z,UT]
theorem YM (c a b t:Int):∀l:List (List AC),Cf c a b t l=UJ c a b t l
 | []=>rfl
 | x :: l=>by
  have e:OB c a b (x :: l)=Ba c a b [] x++OC (Ba c a b [] x).length (OB c a b l):=YL c a b l _;have hl:(Ba c a b [] x).length=1+x.length:=by rw[Gu];simp
  show OB c a b (x :: l)++[(t,[])]=BI c a b x (UJ c a b t l);rw[e,<-YM c a b t l,hl];unfold BI Cf Ba;rw[E3 _ (OB c a b l++[(t,[])]),UT];have e2:([]:List AC)++[(c,[(a,(([]:List AC).length:Int)+1),(b,(([]:List AC).length:Int)+1+(x.length:Int))])]=[(c,[(a,1),(b,1+(x.length:Int))])]:=by
   show [(c,[(a,(0:Int)+1),(b,(0:Int)+1+(x.length:Int))])]=_;rw[AG8]
  rw[e2];refine Yp (HAppend.hAppend (α:=List AC) (β:=List AC) _) ?_;show _++[(t,[])]=OC (1+x.length) (OB c a b l++[(t,[])]);rw[gR];rfl
theorem AA0 {h:AG} {t:Int} (c:0<=t/\t<(h.1.length:Int)):VF h [(t,[])]:=by
 refine⟨⟨by simp,λx hx=>?_⟩,by simp,λx hx=>?_,λx hx=>?_,λx hx a ha=>?_,rfl,λi d b=>?_⟩
 .rw[UM.1 hx];exact⟨by simp,λa ha=>by cases ha⟩
 .rw[UM.1 hx];exact c
 .rw[UM.1 hx];exact List.Pairwise.nil
 .rw[UM.1 hx]at ha;cases ha
 simp only[IS]at b;omega
structure CW (h:AG) (c e1 e2:Int):Prop where
 c:0<=c/\c<(h.1.length:Int)
 lt:e1<e2
 e1:0<=e1/\e1<(h.2.length:Int)
 e2:0<=e2/\e2<(h.2.length:Int)
theorem s5 {h:AG} {c e1 e2 t:Int} (cw:CW h c e1 e2) (a:0<=t/\t<(h.1.length:Int)):∀ {l:List (List AC)},(∀x∈l,VF h x/\x.length<=100)->l.length<=40->VF h (UJ c e1 e2 t l)/\(UJ c e1 e2 t l).length<=101*l.length+1
 | [],_,_=>⟨AA0 a,NO _⟩
 | x :: l,hx,hl=>by
  rw[No]at hl ⊢;obtain⟨v1,e⟩:=s5 cw a (l:=l) (λy b=>hx y (GO _ b)) (by omega);obtain⟨d,f⟩:=hx x Ys;have hp:=Co c e1 e2 x (UJ c e1 e2 t l);refine⟨YB cw.c cw.lt cw.e1 cw.e2 d v1 (by omega),?_⟩;show (BI c e1 e2 x (UJ c e1 e2 t l)).length<=_;omega
theorem AA1 {h:AG} {a X:List AC} {v:Int->Int} (b:Rb h a [] X v) (h0:v 0=0):It h a X v:=⟨h0,b.rng,b.ty,b.arc⟩
theorem A6r (h:AG) (c e1 e2:Int) {A:List AC} (g:∀x∈A,Lv x.2) (B:List AC):Rb h A [] (BI c e1 e2 A B) λi=>1+i:=by
 have hl:=Co c e1 e2 A B;refine⟨λi b d=>by omega,λi b d=>?_,λi b d y f=>?_,λq e=>by cases e⟩
 .try simp only
  rw[JV c e1 e2 B b d];exact Fj h _
 try simp only
 rw[AP,JV c e1 e2 B b d,show 1+y.2=y.2+((1:Nat):Int) by omega];exact FM (a:=(y.1,y.2+((1:Nat):Int))) (Ep (Im g i)) (DA.2 ⟨y,f,rfl⟩)
theorem A6s (h:AG) (c e1 e2:Int) (A:List AC) {B:List AC} (g:∀x∈B,Lv x.2):Rb h B [] (BI c e1 e2 A B) λi=>((1+A.length:Nat):Int)+i:=by
 have hl:=Co c e1 e2 A B;refine⟨λi b d=>by omega,λi b d=>?_,λi b d y f=>?_,λq e=>by cases e⟩
 .try simp only
  rw[Hs c e1 e2 A b d];exact Fj h _
 try simp only
 rw[AP,Hs c e1 e2 A b d,show ((1+A.length:Nat):Int)+y.2=y.2+((1+A.length:Nat):Int) by omega];exact FM (a:=(y.1,y.2+((1+A.length:Nat):Int))) (Ep (Im g i)) (DA.2 ⟨y,f,rfl⟩)
theorem A6t {h:AG} (hk:Hn h) {c e1 e2:Int} {a b A B:List AC} (cw:CW h c e1 e2) (va:VF h a) (e:VF h b) (f:VF h A) (g:VF h B) {p q:Int->Int} (h1:It h a A p) (i:It h b B q):∃m,It h (BI c e1 e2 a b) (BI c e1 e2 A B) m:=by
 have hl:=Co c e1 e2 A B;have k:=A6r h c e1 e2 f.str B;have l:=A6s h c e1 e2 A g.str;have j:CP h (BI c e1 e2 A B):=λx hx=>by
  rcases Ke hx with rfl|⟨y,d,rfl⟩|⟨y,d,rfl⟩
  .exact cw.c
  .exact f.ty y d
  exact g.ty y d
 have n:=nA hk va.good va.ty f.ty j (Hq h1) k;have o:=nA hk e.good e.ty g.ty j (Hq i) l;have h0:AP (BI c e1 e2 A B) 0=[(e1,1),(e2,1+(A.length:Int))]:=rfl;have hs:Lv [(e1,(1:Int)),(e2,1+(A.length:Int))]:=Uf.2 ⟨λy d=>by rw[UM.1 d];exact cw.lt,iS _ _⟩;refine⟨_,AA1 (A6q va.good e.good va.pos e.pos n o (x:=0) ⟨ZV _,by omega⟩ (by rw[VP];exact Fj h c) ?_ ?_) (Bq rfl)⟩
 .rw[h0,h1.zero];exact FM (a:=(e1,1)) hs (by simp)
 rw[h0,i.zero];refine(FM (a:=(e2,1+(A.length:Int))) hs (by simp)).trans ?_;show 1+(A.length:Int)=((1+A.length:Nat):Int)+0;omega
theorem fV.of {h:AG} (hu:HU h) {a b c:List AC} {o:Bool} (e:Js h a b=(c,o)) (d:o=true):fV h a b c:=by
 have:=Tk (h:=h) (a:=a) (b:=b) (by rw[e];exact d);rw[e]at this;exact this
theorem A6u:∀(x y:List UInt8),Op.bytesLess x y=true↔x<y
 | _,[]=>by
  unfold Op.bytesLess;simp
 | [],b :: y=>by
  unfold Op.bytesLess;simp
 | a :: x,b :: y=>by
  unfold Op.bytesLess;rw[Ub,An,A6u x y,List.cons_lt_cons_iff];simp
theorem Gv {x y:ByteArray}:Cj x y=true↔x.toList<y.toList:=A6u _ _
theorem Tt {x y z:ByteArray} (h1:Cj x y=true) (a:Cj y z=true):Cj x z=true:=Gv.2 (List.lt_trans (Gv.1 h1) (Gv.1 a))
theorem A6v {x y:ByteArray} (h1:¬Cj x y=true) (c:¬Ac x y=true):Cj y x=true:=by
 refine Gv.2 ?_;have a:¬x.toList<y.toList:=λq=>h1 (Gv.2 q);have b:¬x.toList=y.toList:=λq=>c (by unfold Ac;rw[q];exact beq_self_eq_true _);exact If λq=>b (List.le_antisymm (List.not_lt.1 q) (List.not_lt.1 a))
def s6 (l:List ByteArray):Prop:=l.Pairwise λa b=>Cj a b=true
theorem A6w {l:List ByteArray} (hl:s6 l) (s:ByteArray):s6 (Dv l s):=by
 unfold Dv;split
 .exact hl
 rename_i hn;have h:l.take (Yz l s)=l.takeWhile λx=>Cj x s:=by
  unfold Yz;exact(List.prefix_iff_eq_take.1 (List.takeWhile_prefix _)).symm
 have h1:∀x∈l.take (Yz l s),Cj x s=true:=λx hx=>by
  rw[h]at hx;have:=List.all_takeWhile (p:=λx=>Cj x s) (l:=l);rw[OR]at this;exact this x hx
 have f:∀x∈l.drop (Yz l s),Cj s x=true:=by
  by_cases c:Yz l s<l.length
  .have g:=On c;have e:l.getD (Yz l s) ByteArray.empty=l[Yz l s]:=by simp[AS,c]
   have hh:Cj s l[Yz l s]=true:=by
    refine A6v (λq=>?_) λq=>hn ?_
    .have:=(pR (λx=>Cj x s) ByteArray.empty l (Yz l s) (NO _)).1 ⟨c,by rw[e];exact q⟩;exact absurd this (by unfold Yz;omega)
    rw[An,DO,e];exact⟨c,q⟩
   intro x hx;have hp:(l.drop (Yz l s)).Pairwise λa b=>Cj a b=true:=hl.drop;rw[g]at hx hp;rcases By.1 hx with rfl|hx
   .exact hh
   exact Tt hh ((Uf.1 hp).1 x hx)
  rw[TO (by omega)];exact λx hx=>by cases hx
 show List.Pairwise _ _;rw[UT,oN];refine⟨hl.take,Uf.2 ⟨f,hl.drop⟩,λa ha b d=>?_⟩;rcases By.1 d with rfl|d
 .exact h1 a ha
 exact Tt (h1 a ha) (f b d)
theorem A2V (d:List AL):s6 (DU d):=by
 have b:∀(l:List (ByteArray×ByteArray)) (o:List ByteArray),s6 o->s6 (l.foldl OX o):=by
  intro l;induction l with
  | nil=>exact λo h=>h
  | cons x l a=>exact λo h=>a _ (A6w h x.1)
 have c:∀(l:List AL) (o:List ByteArray),s6 o->s6 (l.foldl PX o):=by
  intro l;induction l with
  | nil=>exact λo h=>h
  | cons x l a=>exact λo h=>a _ (b x.2.2 o h)
 exact c d [] .nil
def AA2 (h:AG):Prop:=h.2.Pairwise λa b=>Cj a.1 b.1=true
theorem nX (d:List AL):AA2 (BD d).1:=by
 unfold BD;split
 .exact .nil
 show List.Pairwise _ (Di d).1;unfold Di;split
 .exact .nil
 show List.Pairwise _ ((DU d).map (Ta d));rw[Yh];exact A2V d
theorem A6x (d:List AL):AA2 (HE d):=by
 unfold HE;split<;>exact nX _
theorem YN (s:ByteArray):∀(l:List Wp) (k:Nat),0<=ftG s k l->∃i,i<l.length/\ftG s k l=((k+i:Nat):Int)/\∃x,l[i]?=some x/\Ac x.1 s=true
 | [],k,h=>absurd h (by unfold ftG;decide)
 | x :: l,k,h=>by
  unfold ftG at h ⊢;split
  .rename_i e;exact⟨0,by simp,by omega,x,rfl,e⟩
  rename_i e;rw[As e]at h;obtain⟨i,h1,a,y,b,c⟩:=YN s l (k+1) h;exact⟨i+1,by simp only[No];omega,by rw[a];omega,y,by rw[List.getElem?_cons_succ];exact b,c⟩
theorem AAw {h:AG} (hs:AA2 h) {s t:ByteArray} (e:Cj s t=true) (h1:0<=ZE h s) (m:0<=ZE h t):ZE h s<ZE h t:=by
 obtain⟨i,d,o,x,f,p⟩:=YN s h.2 0 h1;obtain⟨j,g,r,y,a,u⟩:=YN t h.2 0 m;have ex:x.1.toList=s.toList:=YV.1 p;have b:y.1.toList=t.toList:=YV.1 u;have c:=Gv.1 e;unfold ZE;rw[o,r];by_cases v:i<j
 .omega
 exfalso;by_cases n:i=j
 .subst n;rw[f]at a;injection a with a
  subst a;rw[ex]at b;rw[b]at c;exact List.lt_irrefl _ c
 have hp:=UX.1 hs j i g d (by omega);have k:h.2[i]=x:=by have:=AT d;rw[f]at this;injection this with q;exact q.symm
 have l:h.2[j]=y:=by have:=AT g;rw[a]at this;injection this with q;exact q.symm
 rw[k,l]at hp;have hp:=Gv.1 hp;rw[ex,b]at hp;exact List.lt_irrefl _ (List.lt_trans hp c)
theorem YO (s:ByteArray):∀(l:List Hd) (k:Nat),0<=gY s k l->∃i,i<l.length/\gY s k l=((k+i:Nat):Int)/\∃x,l[i]?=some x/\Ac x.1 s=true
 | [],k,h=>absurd h (by unfold gY;decide)
 | x :: l,k,h=>by
  unfold gY at h ⊢;split
  .rename_i e;exact⟨0,by simp,by omega,x,rfl,e⟩
  rename_i e;rw[As e]at h;obtain⟨i,h1,a,y,b,c⟩:=YO s l (k+1) h;exact⟨i+1,by simp only[No];omega,by rw[a];omega,y,by rw[List.getElem?_cons_succ];exact b,c⟩
theorem AF1 {h:AG} {s t:ByteArray} (e:Ac s t=false) (h1:0<=KM h s):KM h s≠KM h t:=λq=>by
 obtain⟨i,l,c,x,d,f⟩:=YO s h.1 0 h1;obtain⟨j,m,g,y,a,k⟩:=YO t h.1 0 (show 0<=KM h t by rw[<-q];exact h1);have e2:((0+i:Nat):Int)=((0+j:Nat):Int):=c.symm.trans (q.trans g);have:i=j:=by omega
 subst this;rw[d]at a;injection a with a
 subst a;have ex:x.1.toList=s.toList:=YV.1 f;have b:x.1.toList=t.toList:=YV.1 k;have:Ac s t=true:=by
  unfold Ac;rw[<-ex,<-b];exact beq_self_eq_true _
 rw[e]at this;cases this
structure UK (h:AG):Prop where
 lw:EE h=true
 srt:AA2 h
theorem UK.first_rest {h:AG} (l:UK h):(AO h).first<(AO h).rest:=AAw l.srt (by decide +kernel) (JS l.lw).1.1 (JS l.lw).1.2
theorem UK.last_head {h:AG} (l:UK h):(AO h).last<(AO h).head:=AAw l.srt (by decide +kernel) (JS l.lw).2.2.2.2.2.2 (JS l.lw).2.2.2.2.2.1
theorem UK.ne {h:AG} (l:UK h):(AO h).list≠(AO h).null:=AF1 (by decide +kernel) (JS l.lw).2.2.2.1
theorem UK.rng {h:AG} (l:UK h):((AO h).list<(h.1.length:Int)/\(AO h).cons<(h.1.length:Int)/\(AO h).null<(h.1.length:Int)/\(AO h).dlist<(h.1.length:Int))/\(AO h).first<(h.2.length:Int)/\(AO h).rest<(h.2.length:Int)/\(AO h).head<(h.2.length:Int)/\(AO h).last<(h.2.length:Int) :=
 ⟨⟨(ED h _).2,(ED h _).2,(ED h _).2,(ED h _).2⟩,(GB h _).2,(GB h _).2,(GB h _).2,(GB h _).2⟩
theorem UK.sub {h:AG} (l:UK h):A1 h (AO h).list (AO h).cons=true/\A1 h (AO h).list (AO h).null=true:=by
 have e:=l.lw;unfold EE at e;rw[An,An]at e;exact⟨e.1.2,e.2⟩
def gS (h:AG) (w:LW) (F:List AC):List (List AC)->Int->List Int->Int->Prop
 | [],n,ns,z=>ns=[]/\n=z
 | x :: l,n,ns,z=>∃a,ns=n :: a/\A2 h w (A3 F n)=2/\AI F (Ao (A3 F n).2 w.first)=x/\gS h w F l (Ao (A3 F n).2 w.rest) a z
theorem A0V {ψ:Int->Int} {e:Int}:∀ {l:List (Int×Int)},(∀a∈l,0<=a.2/\0<=ψ a.2)->(0<=Ao l e->Ao (l.map λa=>(a.1,ψ a.2)) e=ψ (Ao l e))/\(Ao (l.map λa=>(a.1,ψ a.2)) e<0↔Ao l e<0)
 | [],_=>⟨λh=>absurd h (by unfold Ao;decide),Iff.rfl⟩
 | a :: l,h=>by
  have b:=A0V (e:=e) (l:=l) λx hx=>h x (GO _ hx);have ha:=h a Ys;rw[UY];unfold Ao;simp only;split
  .exact⟨λ_=>rfl,by omega⟩
  exact b
section
variable {h:AG} {w:LW} {Q R:List AC} {ψ:Int->Int} {C:Int->Prop} (hi:rS Q R ψ C) (gQ:AN Q) (h0:∀i,C i->0<=ψ i) (hty:∀i,C i->(A3 R (ψ i)).1=(A3 Q i).1)
include hi gQ h0
omit hty in
theorem VR {n:Int} (hn:C n) (e:Int):(0<=Ao (A3 Q n).2 e->Ao (A3 R (ψ n)).2 e=ψ (Ao (A3 Q n).2 e)/\C (Ao (A3 Q n).2 e))/\(Ao (A3 R (ψ n)).2 e<0↔Ao (A3 Q n).2 e<0):=by
 have ha:(A3 R (ψ n)).2=(A3 Q n).2.map λa=>(a.1,ψ a.2):=hi.arc n hn
 have b:=A0V (ψ:=ψ) (e:=e) (l:=(A3 Q n).2) λa ha=>⟨(Au gQ ha).1,h0 _ (hi.cl n hn a ha)⟩
 rw[ha]
 refine⟨λq=>⟨b.1 q,?_⟩,b.2⟩
 obtain⟨a,ha,-,e2⟩:=KS q
 rw[<-e2]
 exact hi.cl n hn a ha
include hty
theorem YP {n:Int} (hn:C n):A2 h w (A3 R (ψ n))=A2 h w (A3 Q n):=by
 have s1:=(VR hi gQ h0 hn w.first).2;have s2:=(VR hi gQ h0 hn w.rest).2;have c:∀a b:Int,(a<0↔b<0)->decide (a<0)=decide (b<0)/\decide (0<=a)=decide (0<=b):=λa b q=>⟨AFO.2 q,AFO.2 (by omega)⟩;unfold A2 ZF Oc Tc Oa Ob;rw[hty n hn,(c _ _ s1).1,(c _ _ s1).2,(c _ _ s2).1,(c _ _ s2).2]
theorem gT (b:∀i,C i->AI R (ψ i)=AI Q i):∀(l:List (List AC)) (n:Int) (ns:List Int) (z:Int),C n->gS h w Q l n ns z->gS h w R l (ψ n) (ns.map ψ) (ψ z)/\C z/\∀m∈ns,C m
 | [],n,ns,z,hn,⟨e1,e2⟩=>by
  subst e1 e2;exact⟨⟨rfl,rfl⟩,hn,λm a=>by cases a⟩
 | x :: l,n,ns,z,hn,⟨c,e1,e2,f,g⟩=>by
  subst e1;have hk:=Nj e2;have d:=(VR hi gQ h0 hn w.first).1 hk.1;have e:=(VR hi gQ h0 hn w.rest).1 hk.2;obtain⟨j,k,o⟩:=gT b l _ c z e.2 g;refine⟨⟨c.map ψ,rfl,by rw[YP hi gQ h0 hty hn,e2],by rw[d.1,b _ d.2];exact f,by rw[e.1];exact j⟩,k,λm a=>?_⟩;rcases By.1 a with rfl|a
  .exact hn
  exact o m a
end
theorem YQ {h:AG} {w:LW} {F:List AC}:∀(l:List (List AC)) (n:Int) (ns:List Int) (z:Int),gS h w F l n ns z->KY F (ns.map λm=>Ao (A3 F m).2 w.first)=l/\ns.length=l.length
 | [],n,ns,z,⟨e1,_⟩=>by
  subst e1;exact⟨rfl,rfl⟩
 | x :: l,n,ns,z,⟨a,e1,_,b,c⟩=>by
  subst e1;obtain⟨d,e⟩:=YQ l _ a z c;refine⟨?_,by rw[No,No,e]⟩;show AI F _ :: KY F (a.map _)=x :: l;rw[d,b]
theorem A0W {h:AG} {w:LW} {F:List AC}:∀(l:List (List AC)) (n:Int) (ns:List Int) (z:Int) (k:Nat) (a out:List Int),gS h w F l n ns z->(ns++[z]).Nodup->(∀m∈ns++[z],m∉a)->l.length<k->A2 h w (A3 F z)=1\/A2 h w (A3 F z)=3 ->
  Lo h w F k a out n=(out++ns.map (λm=>Ao (A3 F m).2 w.first),decide (A2 h w (A3 F z)=1),0)
 | _,_,_,_,0,_,_,_,_,_,hk,_=>absurd hk (Nat.not_lt_zero _)
 | [],n,ns,z,k+1,a,out,⟨e1,e2⟩,b,c,hk,f=>by
  subst e1 e2;have hn:=c n (by simp);unfold Lo;rw[As hn];rcases f with q|q
  .rw[Bq (show A2 h w (F.getD n.toNat (0,[]))=1 from q),q];simp
  rw[As (λg=>by rw[show A2 h w (F.getD n.toNat (0,[]))=3 from q]at g;cases g),Bq (show A2 h w (F.getD n.toNat (0,[]))=3 from q),q];simp
 | x :: l,n,ns,z,k+1,a,out,⟨o,e1,e2,p,i⟩,b,c,hk,f=>by
  subst e1;have d:A2 h w (F.getD n.toNat (0,[]))=2:=e2;rw[ZP,YT]at b;have hn:=c n (by simp);rw[No]at hk;unfold Lo;rw[As hn,As (by rw[d];decide),As (by rw[d];decide),As (by rw[d];decide)];have j:=A0W l _ o z k (a++[n]) (out++[Ao (A3 F n).2 w.first]) i b.2 (λm e q=>by
   rcases IN.1 q with q|q
   .exact c m (GO _ e) q
   rw[UM.1 q]at e;exact b.1 e) (by omega) f
  refine j.trans ?_;rw[UT];rfl
theorem nY {h:AG} {w:LW} {F:List AC}:∀(l:List (List AC)) (n:Int) (ns:List Int) (z:Int) (k:Nat) (b out:List Int),gS h w F l n ns z->(ns++[z]).Nodup->(∀m∈ns++[z],m∉b)->l.length<k->A2 h w (A3 F z)=3 ->
  Eq h w F z k b out n=(out++ns.map (λm=>Ao (A3 F m).2 w.first),0)
 | _,_,_,_,0,_,_,_,_,_,hk,_=>absurd hk (Nat.not_lt_zero _)
 | [],n,ns,z,k+1,b,out,⟨e1,e2⟩,a,d,hk,e=>by
  subst e1 e2;unfold Eq ZN;rw[Bq rfl,Bq e];simp
 | x :: l,n,ns,z,k+1,b,out,⟨j,e1,e2,o,f⟩,a,d,hk,e=>by
  subst e1;rw[ZP,YT]at a;have hn:=d n (by simp);rw[No]at hk;have g:n≠z:=λq=>a.1 (by rw[q];simp);have i:=nY l _ j z k (b++[n]) (out++[Ao (A3 F n).2 w.first]) f a.2 (λm c q=>by
   rcases IN.1 q with q|q
   .exact d m (GO _ c) q
   rw[UM.1 q]at c;exact a.1 c) (by omega) e
  unfold Eq ZN;rw[As g,As hn,Bq e2];refine i.trans ?_;rw[UT];rfl
theorem A2W {h:AG} {w:LW} {x b:List AC} (e:w.first<w.rest):A2 h w (A3 (BI w.cons w.first w.rest x b) 0)=2/\Ao (A3 (BI w.cons w.first w.rest x b) 0).2 w.first=1/\Ao (A3 (BI w.cons w.first w.rest x b) 0).2 w.rest=((1+x.length:Nat):Int):=by
 have d:A3 (BI w.cons w.first w.rest x b) 0=(w.cons,[(w.first,1),(w.rest,1+(x.length:Int))]):=rfl;have a:Ao [(w.first,(1:Int)),(w.rest,1+(x.length:Int))] w.first=1:=by simp[Ao]
 have c:Ao [(w.first,(1:Int)),(w.rest,1+(x.length:Int))] w.rest=1+(x.length:Int):=by
  have:w.first≠w.rest:=by omega
  simp[Ao,this]
 rw[d];refine⟨?_,a,by rw[c];omega⟩;unfold A2 ZF Oc Oa Ob;simp only;rw[a,c,As (by simp),Bq];rw[An,An];exact⟨Fj h _,by decide,ABT (by omega)⟩
theorem s7 {h:AG} {w:LW} {t:Int} (cw:CW h w.cons w.first w.rest) (o:0<=t/\t<(h.1.length:Int)):∀ {l:List (List AC)},(∀x∈l,VF h x/\x.length<=100)->l.length<=40 ->
  ∃ns,gS h w (UJ w.cons w.first w.rest t l) l 0 ns ((UJ w.cons w.first w.rest t l).length-1:Nat)/\A3 (UJ w.cons w.first w.rest t l) ((UJ w.cons w.first w.rest t l).length-1:Nat)=(t,[]) /\
   (ns++[(((UJ w.cons w.first w.rest t l).length-1:Nat):Int)]).Nodup/\∀m∈ns++[(((UJ w.cons w.first w.rest t l).length-1:Nat):Int)],0<=m/\m<((UJ w.cons w.first w.rest t l).length:Int)
 | [],_,_=>⟨[],⟨rfl,rfl⟩,rfl,by simp,λm a=>by
  rw[UM.1 a];simp[UJ]⟩
 | x :: l,hx,hl=>by
  rw[No]at hl;have k:∀y∈l,VF h y/\y.length<=100:=λy u=>hx y (GO _ u);obtain⟨ns,c1,c2,p,g⟩:=s7 cw o k (by omega);obtain⟨v1,D⟩:=s5 cw o k (by omega);obtain⟨f,E⟩:=hx x Ys;show ∃ns,gS h w (BI w.cons w.first w.rest x (UJ w.cons w.first w.rest t l)) (x :: l) 0 ns ((BI w.cons w.first w.rest x (UJ w.cons w.first w.rest t l)).length-1:Nat)/\A3 (BI w.cons w.first w.rest x (UJ w.cons w.first w.rest t l)) ((BI w.cons w.first w.rest x (UJ w.cons w.first w.rest t l)).length-1:Nat)=(t,[])/\(ns++[(((BI w.cons w.first w.rest x (UJ w.cons w.first w.rest t l)).length-1:Nat):Int)]).Nodup/\∀m∈ns++[(((BI w.cons w.first w.rest x (UJ w.cons w.first w.rest t l)).length-1:Nat):Int)],0<=m/\m<((BI w.cons w.first w.rest x (UJ w.cons w.first w.rest t l)).length:Int);rw[Co];generalize UJ w.cons w.first w.rest t l=B at *;have bp:=v1.pos;have d:((1+x.length+B.length-1:Nat):Int)=((1+x.length:Nat):Int)+((B.length-1:Nat):Int):=by omega
  obtain⟨v,z,A⟩:=A2W (h:=h) (w:=w) (x:=x) (b:=B) cw.lt;have j:=gT (h:=h) (w:=w) (cB (c:=w.cons) (e1:=w.first) (e2:=w.rest) x v1.good) v1.good (λi hi=>by omega) (λi hi=>nW x hi) (λi hi=>sY x v1.good hi) l 0 ns _ ⟨ZV _,by omega⟩ c1;rw[ABR]at j;refine⟨0 :: ns.map λi=>((1+x.length:Nat):Int)+i,⟨_,rfl,v,?_,?_⟩,?_,?_,?_⟩
  .rw[z];have:=A2T (c:=w.cons) (e1:=w.first) (e2:=w.rest) f B (n:=0) (ZV _) (by have:=f.pos;omega);rw[ABR,f.can]at this;exact this
  .rw[A,d];exact j.1
  .rw[d];unfold A3;rw[Hs w.cons w.first w.rest x (by omega) (by omega)];have c2:B.getD (((B.length-1:Nat):Int)).toNat (0,[])=(t,[]):=c2;rw[c2];rfl
  .rw[d,ZP,YT];have e:(ns.map λi=>((1+x.length:Nat):Int)+i)++[((1+x.length:Nat):Int)+((B.length-1:Nat):Int)]=(ns++[((B.length-1:Nat):Int)]).map λi=>((1+x.length:Nat):Int)+i:=by
    rw[UZ];rfl
   rw[e];refine⟨λa=>?_,?_⟩
   .obtain⟨m,a,e⟩:=IF.1 a;have:=g m a;have e:((1+x.length:Nat):Int)+m=0:=e;omega
   unfold List.Nodup;rw[Yh];exact p.imp λr q=>r (by omega)
  intro m a;rw[d]at a;rcases By.1 a with rfl|a
  .omega
  have e:(ns.map λi=>((1+x.length:Nat):Int)+i)++[((1+x.length:Nat):Int)+((B.length-1:Nat):Int)]=(ns++[((B.length-1:Nat):Int)]).map λi=>((1+x.length:Nat):Int)+i:=by
   rw[UZ];rfl
  have a:m∈(ns.map λi=>((1+x.length:Nat):Int)+i)++[((1+x.length:Nat):Int)+((B.length-1:Nat):Int)]:=a;rw[e]at a;obtain⟨C,s,rfl⟩:=IF.1 a;have:=g C s;omega
abbrev cC (h:AG) (t:Int) (l:List (List AC)):List AC:=UJ (AO h).cons (AO h).first (AO h).rest t l
theorem UK.cw {h:AG} (lo:UK h):CW h (AO h).cons (AO h).first (AO h).rest:=by
 have a:=JS lo.lw;have b:=lo.rng;exact⟨⟨a.2.1,b.1.2.1⟩,lo.first_rest,⟨a.1.1,b.2.1⟩,⟨a.1.2,b.2.2.1⟩⟩
theorem UK.nul {h:AG} (lo:UK h):0<=(AO h).null/\(AO h).null<(h.1.length:Int):=⟨(JS lo.lw).2.2.1,lo.rng.1.2.2.1⟩
theorem UK.lis {h:AG} (lo:UK h):0<=(AO h).list/\(AO h).list<(h.1.length:Int):=⟨(JS lo.lw).2.2.2.1,lo.rng.1.1⟩
theorem UK.dli {h:AG} (lo:UK h):0<=(AO h).dlist/\(AO h).dlist<(h.1.length:Int):=⟨(JS lo.lw).2.2.2.2.1,lo.rng.1.2.2.2⟩
theorem Ld {h:AG} (lo:UK h) {t:Int} (a:0<=t/\t<(h.1.length:Int)) {l:List (List AC)} (hx:∀x∈l,VF h x/\x.length<=100) (hl:l.length<=40):VF h (cC h t l)/\(cC h t l).length<=101*l.length+1:=s5 lo.cw a hx hl
theorem nZ (h:AG) (t:Int) (l:List (List AC)):Cf (AO h).cons (AO h).first (AO h).rest t l=cC h t l:=YM _ _ _ _ l
theorem n4 {h:AG} (lo:UK h) (hu:HU h):A2 h (AO h) ((AO h).null,[])=1/\A2 h (AO h) ((AO h).list,[])=3:=by
 have d:A1 h (AO h).null (AO h).list=false:=by
  cases a:A1 h (AO h).null (AO h).list with
  | false=>rfl
  | true=>exact absurd (hu.inj _ _ lo.lis.1 lo.lis.2 lo.nul.1 lo.nul.2 lo.sub.2 a) lo.ne
 have b:Oa (AO h) []=true:=by
  unfold Oa Ao;rfl
 have c:Ob (AO h) []=false:=by
  unfold Ob Ao;rfl
 unfold A2 ZF Oc Tc;simp only[b,c,d,Fj,lo.sub.1,AGm,Bool.and_false,Yg,iN,ZU,true_and]
section
variable {h:AG} (lo:UK h) (hu:HU h) {l:List (List AC)} (hx:∀x∈l,VF h x/\x.length<=100) (hl:l.length<=30)
include lo hu hx hl
theorem gU {t:Int} (a:0<=t/\t<(h.1.length:Int)):Bp h t l=(cC h t l,0):=by
 have v:=Ld lo a hx (by omega);unfold Bp;rw[Bq lo.lw,Kg (λx q=>(hx x q).2) (by omega),Bq rfl,nZ];exact A5R hu v.1 (by omega)
omit hu in
theorem n5 {t:Int} (c:0<=t/\t<(h.1.length:Int)) (hk:A2 h (AO h) (t,[])=1\/A2 h (AO h) (t,[])=3):Sk h (cC h t l)=(l,decide (A2 h (AO h) (t,[])=1),0):=by
 obtain⟨ns,c1,c2,a,e⟩:=s7 (w:=AO h) lo.cw c hx (by omega)
 have v:=Ld lo c hx (by omega)
 have b:=YQ _ _ _ _ c1
 have hn:ns.length<(cC h t l).length:=by
  have:=Iw.len (f:=cC h t l) (o:=ns++[(((cC h t l).length-1:Nat):Int)]) ⟨a,e⟩
  rw[BY,IS]at this
  omega
 have d:=A0W l 0 ns _ ((cC h t l).length+1) [] [] c1 a (λm _ q=>by cases q) (by rw[<-b.2];omega) (by rw[c2];exact hk)
 rw[c2,aT]at d
 unfold Sk CE
 rw[Bq lo.lw,d]
 try simp only
 rw[b.1]
def Px (w:LW) (B:List AC):List AC:=(w.dlist,[(w.last,(B.length:Int)),(w.head,1)]) :: B.map λx=>(x.1,AR 1 x.2)
omit lo hu hx hl
theorem VS (w:LW) (B:List AC):(Px w B).length=B.length+1:=by simp[Px]
theorem AAx (w:LW) {B:List AC} {i:Int} (a:0<=i) (b:i<(B.length:Int)):(Px w B).getD ((1:Int)+i).toNat (0,[])=((B.getD i.toNat (0,[])).1,AR 1 (B.getD i.toNat (0,[])).2):=by
 unfold Px;rw[show ((1:Int)+i).toNat=i.toNat+1 by omega,List.getD_cons_succ,AS,Yc,AT (by omega),AS,AT (by omega)];rfl
theorem VT {w:LW} {B:List AC} {x:AC} (hx:x∈Px w B):x=(w.dlist,[(w.last,(B.length:Int)),(w.head,1)])\/∃y∈B,x=(y.1,AR 1 y.2):=by
 rcases By.1 hx with e|q
 .exact .inl e
 obtain⟨y,a,rfl⟩:=IF.1 q;exact .inr ⟨y,a,rfl⟩
theorem s8 (lo:UK h) {B:List AC} (e:VF h B) (l:B.length<=10000):PF h (Px (AO h) B):=by
 have bp:=e.pos;have hl:=VS (AO h) B;refine⟨⟨by omega,λx hx=>?_⟩,by omega,λx hx=>?_,λx hx=>?_,λx hx a ha=>?_⟩
 .rw[hl];rcases VT hx with rfl|⟨y,d,rfl⟩
  .refine⟨by show 2<=100000;omega,λa ha=>?_⟩;simp only[By,YX,ABN]at ha;rcases ha with rfl|rfl
   .try simp only
    omega
   try simp only
   omega
  have j:=e.good.2 y d;refine⟨by show (AR 1 y.2).length<=_;unfold AR;rw[OF];exact j.1,λa ha=>?_⟩;obtain⟨b,f,rfl⟩:=DA.1 ha;have:=j.2 b f;try simp only
  omega
 .rcases VT hx with rfl|⟨y,d,rfl⟩
  .exact lo.dli
  exact e.ty y d
 .rcases VT hx with rfl|⟨y,d,rfl⟩
  .exact Uf.2 ⟨λc k=>by rw[UM.1 k];exact lo.last_head,iS _ _⟩
  exact Ep (e.str y d)
 have g:=JS lo.lw;have i:=lo.rng;rcases VT hx with rfl|⟨y,d,rfl⟩
 .simp only[By,YX,ABN]at ha;rcases ha with rfl|rfl
  .exact⟨g.2.2.2.2.2.2,i.2.2.2.2⟩
  exact⟨g.2.2.2.2.2.1,i.2.2.2.1⟩
 obtain⟨b,f,rfl⟩:=DA.1 ha;exact e.ft y d b f
theorem AA3 (w:LW) {B:List AC} (a:AN B):rS B (Px w B) (λi=>1+i) λi=>0<=i/\i<(B.length:Int) :=
 ⟨λi hi=>by
  rw[AP,AAx w hi.1 hi.2];refine Of λx _=>?_;show (x.1,x.2+((1:Nat):Int))=(x.1,1+x.2);rw[AF5];rfl,λi hi x hx=>Au a hx,λi j hi b e=>by have e:(1:Int)+i=1+j:=e;omega⟩
abbrev dfR (h:AG) (l:List (List AC)):List AC:=AI (Px (AO h) (cC h (AO h).list l)) 0
include lo hu hx hl
omit hu in
theorem ABK:VF h (dfR h l)/\PF h (Px (AO h) (cC h (AO h).list l)):=by
 have v:=Ld lo lo.lis hx (by omega)
 have pf:=s8 lo v.1 (by omega)
 exact⟨A5Y pf (ZV _) (by rw[VS];omega),pf⟩
theorem AA4:Er h l=(dfR h l,0):=by
 have v:=Ld lo lo.lis hx (by omega);have pf:=s8 lo v.1 (by omega);have s:=VS (AO h) (cC h (AO h).list l);unfold Er;rw[Bq lo.lw,Kg (λx q=>(hx x q).2) (by omega),Bq rfl,nZ];have bp:=v.1.pos;have p:=v.2;have j:(dfR h l)=AI (Px (AO h) (cC h (AO h).list l)) 0:=rfl;rw[j];have b:HS (cC h (AO h).list l):=v.1.srt hu;generalize cC h (AO h).list l=B at *;have hT:ER (AO h).dlist (AO h).head (AO h).last B=((AO h).dlist,[((AO h).head,1),((AO h).last,(B.length:Int))]) :: B.map λx=>(x.1,AR 1 x.2):=by
  unfold ER;rw[E3,show (1:Int)+((B.length:Int)-1)=(B.length:Int) by omega];rfl
 have m:=lo.last_head;have d:AN (ER (AO h).dlist (AO h).head (AO h).last B):=by
  rw[hT];refine⟨by rw[No,OF];omega,λx hx=>?_⟩;rcases By.1 hx with rfl|hx
  .have:=pf.good.2 ((AO h).dlist,[((AO h).last,(B.length:Int)),((AO h).head,1)]) Ys;refine⟨this.1,λa ha=>this.2 a ?_⟩;simp only[By,YX,ABN]at ha ⊢;exact ha.symm
  exact pf.good.2 x (GO _ hx)
 have n:DW (ER (AO h).dlist (AO h).head (AO h).last B)=Px (AO h) B:=by
  rw[hT];unfold DW Px;rw[UY];refine congr (Yp List.cons ?_) ?_
  .have:Aa [((AO h).head,(1:Int)),((AO h).last,(B.length:Int))]=[((AO h).last,(B.length:Int)),((AO h).head,1)]:=by
    simp[Aa,Ny,Hj,m]
   simp only[this]
  rw[YU];refine Of λx hx=>?_;show (x.1,Aa (AR 1 x.2))=_;rw[HG];exact(HH _).2 (Ep ((HH _).1 (b x hx).1))
 have nd:NdF (ER (AO h).dlist (AO h).head (AO h).last B):=by
  rw[hT];intro x hx;rcases By.1 hx with rfl|hx
  .exact⟨Uf.2 ⟨λc i=>by rw[UM.1 i];simp only;omega,iS _ _⟩,by show 2<=200;omega⟩
  obtain⟨y,g,rfl⟩:=IF.1 hx;refine⟨(Ep ((HH _).1 (b y g).1)).imp λq e=>by omega,?_⟩;show (AR 1 y.2).length<=200;unfold AR;rw[OF];exact(b y g).2
 have o:B6 (ER (AO h).dlist (AO h).head (AO h).last B)=0:=by
  have r:(ER (AO h).dlist (AO h).head (AO h).last B).length=B.length+1:=by rw[hT,No,OF]
  unfold B6;rw[As (by omega),As (by omega)];refine Xr λx hx=>?_;have k:=d.2 x hx;have hn:=(nd x hx).1;have f:(0<=x.1)/\∀a∈x.2,0<=a.1:=by
   rw[hT]at hx;rcases By.1 hx with rfl|hx
   .refine⟨lo.dli.1,λa ha=>?_⟩;have:=pf.ft ((AO h).dlist,[((AO h).last,(B.length:Int)),((AO h).head,1)]) Ys a (by simp only[By,YX,ABN]at ha ⊢;exact ha.symm);exact this.1
   exact⟨(pf.ty x (GO _ hx)).1,λa ha=>(pf.ft x (GO _ hx) a ha).1⟩
  exact⟨f.1,mZ (by rw[List.Nodup,Yh];exact hn) λa ha=>⟨f.2 a ha,k.2 a ha⟩⟩
 unfold Ax;rw[Bq o,Te d nd (ZV _) (by rw[hT,No];omega),n]
theorem ABL:∃ns d z,Ao (A3 (dfR h l) 0).2 (AO h).head=d/\Ao (A3 (dfR h l) 0).2 (AO h).last=z/\0<=d/\0<=z/\gS h (AO h) (dfR h l) l d ns z/\A2 h (AO h) (A3 (dfR h l) z)=3/\(ns++[z]).Nodup/\ns.length<(dfR h l).length:=by
 obtain⟨ns,c1,c2,H,O⟩:=s7 (w:=AO h) lo.cw lo.lis hx (by omega);have v:=Ld lo lo.lis hx (by omega);have pf:=s8 lo v.1 (by omega);have ai:=VS (AO h) (cC h (AO h).list l);have X:=(n4 lo hu).2;have bp:=v.1.pos;have d:(dfR h l)=AI (Px (AO h) (cC h (AO h).list l)) 0:=rfl;rw[d];generalize Q:cC h (AO h).list l=B at *;have R:UJ (AO h).cons (AO h).first (AO h).rest (AO h).list l=B:=Q;simp only[R]at c1 c2 H O v;have G:(0:Int)<((Px (AO h) B).length:Int):=by omega
 have A:=AA3 (AO h) v.1.good;have ty1:∀i,0<=i/\i<(B.length:Int)->(A3 (Px (AO h) B) (1+i)).1=(A3 B i).1:=λi hi=>by
  unfold A3;rw[AAx (AO h) hi.1 hi.2]
 have M:=gT (h:=h) (w:=AO h) A v.1.good (λi hi=>by omega) ty1 (λi hi=>GL A v.1.good hi hi.1 hi.2 (by omega) ty1) l 0 ns _ ⟨ZV _,by omega⟩ c1;have F:=YP (h:=h) (w:=AO h) A v.1.good (λi hi=>by omega) ty1 (n:=((B.length-1:Nat):Int)) ⟨by omega,by omega⟩;rw[c2]at F;have c:=Ho pf.good (r:=0) (ZV _) G;have u:=Ik (Px (AO h) B) 0;obtain⟨ci,P,ag,cl⟩:=A9Y pf.good (r:=0) (ZV _) G;have W:=λi=>Ij (f:=Px (AO h) B) (r:=0) (i:=i);have U:∀i,i∈CG (Px (AO h) B) (Px (AO h) B).length [] 0->AI (AI (Px (AO h) B) 0) (BE (CG (Px (AO h) B) (Px (AO h) B).length [] 0) i)=AI (Px (AO h) B) i:=λi hi=>by
  have q:=BX hi;have vc:=A5Y pf (ZV _) G;have:=GL ci vc.good (r:=BE (CG (Px (AO h) B) (Px (AO h) B).length [] 0) i) ⟨q.1,by rw[u];exact q.2.1⟩ q.1 (by rw[u];exact q.2.1) cl λj k=>(P j k.1 k.2).2;simp only[q.2.2]at this;exact this.symm
 generalize ah:AI (Px (AO h) B) 0=D at *;generalize CG (Px (AO h) B) (Px (AO h) B).length [] 0=o at *;have x:(0:Int)∈o:=by
  have:=AE o 0 c.zero.2;rw[c.zero.1]at this;exact this
 have t:∀i,i∈o->A3 D (BE o i)=CL (Px (AO h) B) o i:=λi hi=>by
  have q:=BX hi;unfold A3;rw[W (BE o i).toNat (by omega),q.2.2]
 have C:rS (Px (AO h) B) D (BE o) (·∈o):=by
  refine⟨λi hi=>?_,c.cl,λi j hi k e=>?_⟩
  .have:=t i hi;unfold A3 at this;rw[AP,this];rfl
  have ae:=BX hi;have af:=BX k;rw[<-ae.2.2,<-af.2.2,e]
 have ty2:∀i,i∈o->(A3 D (BE o i)).1=(A3 (Px (AO h) B) i).1:=λi hi=>by
  rw[t i hi];rfl
 have N:(1:Int)∈o:=c.cl 0 x ((AO h).head,1) (by show _∈[((AO h).last,(B.length:Int)),((AO h).head,1)];simp);have p:(B.length:Int)∈o:=c.cl 0 x ((AO h).last,(B.length:Int)) (by show _∈[((AO h).last,(B.length:Int)),((AO h).head,1)];simp);have s:(1:Int)+((B.length-1:Nat):Int)=(B.length:Int):=by omega
 rw[s]at M F;have E:=gT (h:=h) (w:=AO h) C pf.good (λi hi=>(BX hi).1) ty2 U l _ _ _ N M.1;have ad:=YP (h:=h) (w:=AO h) C pf.good (λi hi=>(BX hi).1) ty2 p;have ab:BE o 0=0:=by
  have:=FL c.ok.nd c.zero.2;rw[c.zero.1]at this;exact this
 have aj:=lo.last_head;have K:=t 0 x;rw[ab]at K;have Y:(AO h).last≠(AO h).head:=by omega
 have L:A3 D 0=((AO h).dlist,[((AO h).last,BE o (B.length:Int)),((AO h).head,BE o 1)]):=K;have J:((ns.map λi=>1+i).map (BE o)++[BE o (B.length:Int)]).Nodup:=by
  have e:(ns.map λi=>1+i).map (BE o)++[BE o (B.length:Int)]=(ns++[((B.length-1:Nat):Int)]).map λi=>BE o (1+i):=by
   rw[UZ,YU,List.map_singleton,s];rfl
  rw[e];unfold List.Nodup;rw[Yh];refine List.Pairwise.imp_of_mem (λ{a b} ha T S q=>S ?_) H;have I:∀a∈ns++[((B.length-1:Nat):Int)],1+a∈o:=λa ha=>by
   rcases IN.1 ha with ha|ha
   .exact E.2.2 _ (IF.2 ⟨a,ha,rfl⟩)
   rw[UM.1 ha,s];exact p
  have:=C.inj _ _ (I a ha) (I b T) q;omega
 have Z:∀m∈(ns.map λi=>1+i).map (BE o)++[BE o (B.length:Int)],0<=m/\m<(D.length:Int):=λm g=>by
  rw[u];rcases IN.1 g with g|g
  .obtain⟨y,aa,rfl⟩:=IF.1 g;have:=BX (E.2.2 y aa);exact⟨this.1,this.2.1⟩
  rw[UM.1 g];have:=BX p;exact⟨this.1,this.2.1⟩
 have V:=Iw.len (f:=D) ⟨J,Z⟩;rw[BY,IS]at V;refine⟨_,BE o 1,BE o (B.length:Int),?_,?_,(BX N).1,(BX p).1,E.1,?_,J,by omega⟩
 .rw[L];simp[Ao,Y]
 .rw[L];simp[Ao]
 rw[ad,F];exact X
theorem A2X:Nt h (dfR h l)=(l,0):=by
 obtain⟨ns,d,z,e1,e2,f,g,c1,c2,c,e⟩:=ABL lo hu hx hl;have a:=YQ _ _ _ _ c1;have b:=nY l d ns z ((dfR h l).length+1) [] [] c1 c (λm _ q=>by cases q) (by rw[<-a.2];omega) c2;rw[aT]at b;unfold Nt Az;rw[Bq lo.lw,e1,e2,As (by omega),b];try simp only
 rw[a.1]
end
section
attribute [local go_sem] b8 gM RT RW Ka Kb gP A2N b9
theorem n6:∀l:List (List AC),RU l l=true
 | []=>rfl
 | x :: l=>by
  unfold RU;rw[Gy,n6 l];rfl
end
section
attribute [local go_sem] b8 NB b9 Sm nJ Sn RW Kb A2N A4T
theorem n7 {h:AG} (lo:UK h) (hu:HU h):∀ {l:List (List AC)},(∀x∈l,VF h x/\x.length<=100)->l.length<=30->∃m,It h (cC h (AO h).list l) (cC h (AO h).null l) m
 | [],_,_=>⟨λ_=>0,rfl,λi e a=>⟨ZV _,Int.zero_lt_one⟩,λi e a=>by
   have a:i<((1:Nat):Int):=a;rw[show i=0 by omega];exact lo.sub.2,λi e a y d=>by
   have a:i<((1:Nat):Int):=a;rw[show i=0 by omega]at d;cases d⟩
 | x :: l,hx,hl=>by
  rw[No]at hl;have b:∀y∈l,VF h y/\y.length<=100:=λy q=>hx y (GO _ q);obtain⟨m,f⟩:=n7 lo hu b (by omega);have c:=(hx x Ys).1;exact A6t hu.ok lo.cw c (Ld lo lo.lis b (by omega)).1 c (Ld lo lo.nul b (by omega)).1 (Xj c.str) f
theorem gV {h:AG} (a:¬EE h=true) (t:Int) (l:List (List AC)):Bp h t l=([],5)/\Er h l=([],5):=⟨As a,As a⟩
def s9:AZ:={ ins:=[FA,MT],pre:=λ_=>True,out:=λ_=>[.p .bool true] }
attribute [local go_sem] s9
theorem A6z:Ad Tryz.prog 16 s9:=by
 refine fK [0,1,4,5,6,7,8,9,10,11,12,13,14,15,16,17,18,19,25,46] Tryz.func16 Tryz.ntmps16 (AF gL (AF YI (AF A0S (AF X6 (AF A0N (AF X7 (AF A2O (AF X3 (AF A64 (AF A8Q AH)))))))))) ?_;rintro w0 O0 ⟨d,l,u⟩ g - -;simp only[s9,AM];have hh:=ABI d;have hs:=A6x d;have r:=λq=>cA hh (l:=l) q;generalize v:HE d=h at *;have y:(h.1,h.2)=h:=rfl;repeat'(first|exact trivial|apply eS rfl|apply AB|refine rX g ?_ ?_|refine rC ?_ ?_<;>intro k<;>try(cases k;done))
 all_goals try simp only[v,y]at *
 .exact fI g [.tmp 4]
 all_goals
  have p:HK h l=true:=by assumption
  have b:List.length l<=30:=UR (r p).1 (by decide);have hx:=(r p).2;have o:∀x∈(l:List (List AC)),AN x/\DY x:=λx q=>⟨(hx x q).1.good,nU hh.hu (hx x q).1⟩;have a:∀x∈(l:List (List AC)),VF h x/\List.length x<=100:=λx q=>⟨(hx x q).1,UR (hx x q).2 (by decide)⟩
 .exact o
 .exact o
 .exact o
 .have e:¬EE h=true:=λe=>by
   have e1:=gU ⟨e,hs⟩ hh.hu a b (UK.nul ⟨e,hs⟩);rw[e1]at k;exact k rfl
  obtain⟨e1,n⟩:=gV e (AO h).null l;obtain⟨e2,-⟩:=gV e (AO h).list l;rw[e1,e2,n];exact fI g [.tmp 4]
 all_goals
  have e:EE h=true:=by
   cases w:EE h with
   | true=>rfl
   | false =>
    have q:((Bp h (AO h).null l).2 != 0)=false:=by assumption
    rw[(gV (by rw[w];simp) (AO h).null l).1]at q;exact absurd q (by decide)
  have lo:UK h:=⟨e,hs⟩;have e1:=gU lo hh.hu a b lo.nul;have e2:=gU lo hh.hu a b lo.lis;have n:=AA4 lo hh.hu a b;have v1:=(Ld lo lo.nul a (by omega)).1;have c:=(Ld lo lo.lis a (by omega)).1;have j:=(ABK lo a b).1;have i:=n4 lo hh.hu;have s:=n5 lo a b lo.nul (.inl i.1);have t:=n5 lo a b lo.lis (.inr i.2);have C:=A2X lo hh.hu a b;rw[i.1]at s;rw[i.2]at t;simp only[e1,e2,n]at *
 .exact⟨v1.good,v1.srt hh.hu,v1.ty,v1.pos⟩
 .exact⟨c.good,c.srt hh.hu,c.ty,c.pos⟩
 .exact⟨j.good,j.srt hh.hu,j.ty,j.pos⟩
 all_goals
  have f:∀x∈(l:List (List AC)),DX x:=λx q=>(hx x q).1.small;obtain⟨m,A⟩:=n7 lo hh.hu a b;have z:=(A5P c v1).2 ⟨m,A⟩;have B:=n6 l;simp only[s,t,C]
 .exact⟨λ_=>⟨f,f⟩,λ_=>⟨f,f⟩,λ_=>⟨f,f⟩,λ_=>⟨c.good,c.pos,v1.good,v1.pos,c.ty,v1.ty⟩⟩
 simp only[B,z];exact fI g [.tmp 4] (by simp;exact eR)
end
end Go.Proofs.YtapkhdkbkodbjaaGreat.Fw
