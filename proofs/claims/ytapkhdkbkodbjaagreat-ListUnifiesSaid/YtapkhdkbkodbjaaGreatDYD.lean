/- Contracts of the program's and the reference's functions, and the plain laws of what they compute: U15 O13 U16 O14 C38 O15 O21 O25 O26 O33 O16 O35. -/
import Derived.Test.YtapkhdkbkodbjaaGreatDYC
import Derived.Test.YtapkhdkbkodbjaaGreatDYB
import Derived.Test.YtapkhdkbkodbjaaGreatDYA
set_option linter.unusedVariables false
set_option linter.unusedSimpArgs false
namespace Go.Proofs.YtapkhdkbkodbjaaGreat.Fw
open Go
attribute [local irreducible] Ev
attribute [local go_sem] eZ AM List.toList_toArray Bn evG evK YA Er Ko Gx Fy Hw TB Ns DJ DS My CY DG frz lK Gr DR A4 Fj Bb AV.frz AV.frzs AV.drp AV.drps AV.names AV.namess aq Gu LS Kd UK JR Bc Bg Jr Eb Ir Ec Iu It Iv VJ Ph HJ Kg Fm EW VK Ri qUn Js Iw Ll FJ Dr JU Kh Ed UL DX Ee E9 Rj Ix Nq FW Np Pi Rk Lm JV Ki Ef Ds HT Du Hv DY FA DZ Eg Fs CY Co Pf Rh OO Gp JT JS Ke Pl S9 Nr Lq Lo Kl TA Lp Km Z7 Pn Pm AV.trn AV.trns E3 DI Obj.trn J7 fS Dt Ei EX Eh Ce FB Ap lk HY Gt Hs bin lJ YD lM S7 zP zQ pfs AV.cells CF Jq Pg Kk Pk CT Nn Ty.cell1 Iq E4 Dq GK Mx E2 Kb Lk Rc FU HI Nf UI VI Lj KZ Z5 dY S6 Hr Cp HS RV.flat Ty.flat Ty.size St.add upd del Bd Value.oneCell' Lg Ty.dflt Ip QD H9 QO List.take_succ_cons List.take_zero List.length_cons fF fG QN J4 L6 Hm J5 A2h Fz M9 NA NB NC Rv Rw ND JA Vb Option.map_some Option.map_none Option.bind_some Option.getD_some Option.getD_none Option.isNone_none Option.isNone_some Bool.and_true Bool.true_and Bool.and_false Bool.false_and Bool.not_true Bool.not_false if_true if_false List.length_cons List.length_nil and_true true_and and_self List.all_cons List.all_nil List.append_nil List.nil_append List.cons_append List.getElem?_cons_zero List.getElem?_cons_succ List.getElem?_nil List.map_cons List.map_nil List.set_cons_zero List.set_cons_succ List.isEmpty_nil List.isEmpty_cons decide_true decide_false beq_self_eq_true bne_self_eq_false Nat.zero_add Nat.add_zero Nat.sub_zero Int.toNat_natCast Int.toNat_zero Int.toNat_one List.take_length List.length_append List.length_singleton true_or or_true or_self false_or or_false Ty.agg.injEq Ty.slice.injEq Ty.prod.injEq Ty.int.injEq Option.some.injEq beq_iff_eq L4 evMG evMQ opM IB L2 B4 J0 HK QG Jy IA JB Kx LY Ob Nx Oc UO L3 QI QJ Jz Aa Al Op.operands Call.operands List.filterMap_cons List.filterMap_nil List.append_eq Bool.cond_false_right Bool.cond_true_left cond_true cond_false implies_true decide_eq_true_eq beq_true beq_false Bool.or_true Bool.or_false Bool.true_or Bool.false_or Option.isSome_some Array.empty_append List.append_toArray Fk Mz FC Ht Z6 Pj Fq GU GT Iy Hu Kj Ln YE lL Ik inB Kn Ft Gq Jt Ak fH List.drop_zero Df IC aX CP K5 CN AV.fgt AV.fgts Obj.fgt Ar Aj Aa DL Im BJ Gy List.any_cons List.any_nil mM fJ aY fL L9 R1 qs List.flatMap_cons List.flatMap_nil List.cons_append tn bA HV List.take_succ_cons List.drop_succ_cons bE Ga BA qW NI B8 CO Ad FF Kw Bi FE Dw H7 I9 GY H8
attribute [local go_sem] ty1 ty2 ty3 ty4 ty5 ty9 A62 A63 A64 A65 A66 A67 A68 A69 A6a A6b A6c A6d A6e A6f A6g A6h A6i A6j A6k A6l A6m A6n A6o A6p A6q A6r A6s A6t A6u A6v A6w A6x A6y A6z A6A A6B A6C A6D A6E A6F A6G A6H A6I A6J A6K A6L A6M A6N A6O A6P A6Q A6R A6S A6T A6U A6V A6W A6X A6Y A6Z A70 A71 A72 A73 A74 A75 A76 A77 A78 A79 A7a rF rG rH rI rJ rK rO rQ rR rS rT rU rV rW rZ r7 r8 r9 sC sD sE sF sG sH sI sJ sK sL sM sO sP sQ sR sS sT sU sV sW sY sZ s5 s6 s7 s8 s9 tA tB tC tD tE tF tG tH tI tJ tK tL tM tQ tR tS tT tU tV tW tY tZ t4 t5 t6 t7 t8 t9 uA uB uC uD uE uF uG uH uI uJ uK uL uM uN uP uQ uR uS uT uU uV uW uX uY uZ u3 u4 u5 u6 u7 u9 vC vE vF vG vH vI vJ vL vO vP vQ vS vU vV vW vY vZ v5 v6 v7 v8 v9 wA wB wC wD wF wG wH wI wJ wK wL wM wN wP wQ wR wS wT wU wV wW wX wY wZ w5 w6 w9 xA xB xC xE xF xG xH xI xJ xL xM xN xO
set_option maxRecDepth 100000
set_option maxHeartbeats 4000000
section
attribute [local go_sem] c7 dG
theorem k9 (N g:List AD):Dj N++Bm g g.length=Dj (Ag N g):=by
 unfold Bm Dj Ag;rw[RD,Sw,nO];rfl
theorem pV (N g:List AD):Ff N++DP N.length g g.length=Ff (Ag N g):=by
 unfold DP Ff Ag;rw[RD,Sw,nO];rfl
theorem X2 (p:List Int):BP p [((0:Int),[])]=Ck p:=rfl
theorem A53 {h:AG} (k:XY h) {f:List AD} {p q:List Int} (hf:VF h f) (hp:p.length<=1000) (i:q.length<=1000) (hl:f.length<=10000) {P:List (Int×Int)} (c:∀r∈P,r∈eqP f p q) (g:∀X v,Cc h X->¬LI h (eqN f p q) P X v):Sh h f p q=([],false):=by
 refine Zf λX b l h1 n d e=>?_;obtain⟨v,a,-⟩:=cX k hf hp i hl b h1 d e;exact g X v b.ty ⟨a.rng,a.ty,a.arc,λr j=>a.eq r (c r j)⟩
noncomputable def A8u:AZ:={ ins:=[Dn,DE,F1,F1],pre:=λ(h,f,p,q,_)=>HU h/\XY h/\VF h f/\FtP h p/\FtP h q/\List.length p<=1000/\List.length q<=1000/\List.length f<=1000,out:=λ(h,f,p,q,_)=>[.p DE (Sh h f p q).1,.p .bool (Sh h f p q).2] }
attribute [local go_sem] A8u
theorem AAa:Af Tryz.prog 99 A8u:=by
  refine fK [0,1,2,3,4,5,8,9,10,11,12,13,14,69] Tryz.func99 Tryz.ntmps99 (AF A4j (AF A4J AH)) ?_;rintro w0 O0 ⟨h,f,p,q,u⟩ c-⟨hu,X,vf,O,Q,hp,aw,ai⟩;simp only[A8u,AM];have R:AN ([((0:Int),[])]:List AD):=⟨by simp,by simp⟩;have D:p.length<=1000:=hp;have E:q.length<=1000:=aw;have bh:f.length<=1000:=ai;have S:=FQ D;have T:=FQ E;have Z:=CV p;have az:=CV q;have U:0<h.1.length:=by
    have:=vf.ty _ (AE f (0,[]) vf.pos);omega
  have pos:=vf.pos;have ag:=cW f p q;have ay:=CG f (Ck p);rw[Z]at ay;have af:=FP vf.good S (by omega);have ae:=FP af T (by omega);have bd:=KK (KK vf.ty (Qv U p)) (Qv U q);have aa:=Gj (Gj vf.str (NY p)) (NY q);have V:∀g:List AD,(∀x∈g,∀a∈x.2,0<=a.1/\a.1<(h.2.length:Int))->jM g:=λg ak x hx a ha=>by
    have h1:=ak x hx a ha;have be:=hu.ft;omega
  have M:=KL (KL (vf.ft64 hu) (V _ (KM O))) (V _ (KM Q));have ao:=Ux ae bd aa;have aj:=XV (N:=eqN f p q) λx hx=>cU (aa x hx) (M x hx);have W:=λP ty ar al z=>A4g X vf O Q D E (by omega) (P:=P) (ty:=ty) (ar:=ar) al z;have C:=λP ah=>A53 X vf D E (by omega) (P:=P) ah;have av:=X2 p;have ax:=X2 q;repeat'(first|exact trivial|apply eS rfl|apply AB|refine rX c ?_ ?_|refine rC ?_ ?_<;>intro d<;>try(cases d;done))
  . exact⟨⟨D,R⟩,E,R⟩
  rw[av,ax]
  unfold eqN at ag aj W C;generalize bf:Ck p=A at *;generalize bg:Ck q=B at *;have K:Bm f f.length++Bm A A.length=Dj (Ag f A):=XU f A;have I:DP 0 f f.length++DP f.length A A.length=Ff (Ag f A):=Zb f A;have G:BN 0 f.length++BN f.length A.length=BN 0 (Ag f A).length:=by rw[Sf,CG]
  have L:=k9 (Ag f A) B;have J:=pV (Ag f A) B;have H:BN 0 (Ag f A).length++BN (Ag f A).length B.length=BN 0 (Ag (Ag f A) B).length:=by rw[Sf,<-CG]
  refine cP 3 c ?_ ?_
  . trivial
  refine rM c (XI h [] [] [] f vf.good (by simp) rfl rfl) [(1,.nm 23),(2,.nil),(3,.nil),(4,.nil)] [] ?_ ?_ ?_
  . first|exact eN|refine eM ?_
  . simp only[Tu]
    first|exact eN|refine eM ?_
  rintro _ _ ⟨rfl,rfl⟩
  refine ⟨[(23, .nm 1), (102, .nm 2), (103, .nm 3), (104, .nm 4)], .raw (.tuple #[]),
          [(23,.box 111 true [.p Dn h,.sr 102 T3 0 (BN 0 f.length).length,.sr 103 T3 0 (Bm f f.length).length,.sr 104 Cm 0 (DP 0 f f.length).length]),(102,.arr 3 T3 (BN 0 f.length)),(103,.arr 3 T3 (Bm f f.length)),(104,.arr 91 Cm (DP 0 f f.length))]
    ,rfl,rfl,?_,?_,rfl,rfl,BV ?_⟩
  . simp only[Tu]
    first|exact eN|refine eM ?_
  . first|exact eN|refine eM ?_
  have la:(BN 0 f.length).length=f.length:=Gh 0 f.length
  have lt:(Bm f f.length).length=f.length:=by unfold Bm;rw[OR,RD]
  have ba:(DP 0 f f.length).length=f.length:=by unfold DP;rw[OR,RD]
  repeat'(first|exact trivial|apply eS rfl|apply AB|refine rX c ?_ ?_|refine rC ?_ ?_<;>intro d<;>try(cases d;done))
  refine cP 3 c ?_ ?_
  . trivial
  refine rM c (XI h (BN 0 f.length) (Bm f f.length) (DP 0 f f.length) A S (by omega) (by omega) (by omega)) [(1,.nm 23),(2,.nm 102),(3,.nm 103),(4,.nm 104)] [102,103,104] ?_ ?_ ?_
  . first|exact eN|refine eM ?_
  . simp only[Tu]
    first|exact eN|refine eM ?_
  rintro _ _ ⟨rfl,rfl⟩
  rw[la,G,K,I];have Y:(BN 0 (Ag f A).length).length=(Ag f A).length:=Gh 0 _;have bc:(Dj (Ag f A)).length=(Ag f A).length:=by unfold Dj;rw[OR]
  have bb:(Ff (Ag f A)).length=(Ag f A).length:=by unfold Ff;rw[OR]
  refine⟨[(23,.nm 1),(102,.nm 2),(103,.nm 3),(104,.nm 4)],.raw (.tuple #[]),
    [(23,.box 111 true [.p Dn h,.sr 102 T3 0 (BN 0 (Ag f A).length).length,.sr 103 T3 0 (Dj (Ag f A)).length,.sr 104 Cm 0 (Ff (Ag f A)).length]),(102,.arr 3 T3 (BN 0 (Ag f A).length)),(103,.arr 3 T3 (Dj (Ag f A))),(104,.arr 91 Cm (Ff (Ag f A)))]
    ,rfl,rfl,?_,?_,rfl,rfl,BV ?_⟩
  . simp only[Tu]
    first|exact eN|refine eM ?_
  . first|exact eN|refine eM ?_
  repeat'(first|exact trivial|apply eS rfl|apply AB|refine rX c ?_ ?_|refine rC ?_ ?_<;>intro d<;>try(cases d;done))
  refine cP 3 c ?_ ?_
  . trivial
  . refine rM c (XI h (BN 0 (Ag f A).length) (Dj (Ag f A)) (Ff (Ag f A)) B T (by omega) (by omega) (by omega)) [(1,.nm 23),(2,.nm 102),(3,.nm 103),(4,.nm 104)] [102,103,104] ?_ ?_ ?_
    . first|exact eN|refine eM ?_
    . simp only[Tu]
      first|exact eN|refine eM ?_
    . rintro _ _ ⟨rfl,rfl⟩
      rw[Y,H,L,J];have ab:(((Ag f A).length:Nat):Int)=((f.length+(p.length+1):Nat):Int):=by omega
      refine⟨[(23,.nm 1),(102,.nm 2),(103,.nm 3),(104,.nm 4)],.raw (.tuple #[]),
  [(23, .box 111 true [.p Dn h, .sr 102 T3 0 (BN 0 (Ag (Ag f A) B).length).length, .sr 103 T3 0 (Dj (Ag (Ag f A) B)).length, .sr 104 Cm 0 (Ff (Ag (Ag f A) B)).length]), (102, .arr 3 T3 (BN 0 (Ag (Ag f A) B).length)), (103, .arr 3 T3 (Dj (Ag (Ag f A) B))), (104, .arr 91 Cm (Ff (Ag (Ag f A) B)))]
        ,rfl,rfl,?_,?_,rfl,rfl,BV ?_⟩
      . simp only[Tu]
        first|exact eN|refine eM ?_
      . first|exact eN|refine eM ?_
      clear la lt ba Y bc bb K I G L J H
      rw[ab];have bi:A.length=p.length+1:=Z;have bj:B.length=q.length+1:=az;generalize Ag (Ag f A) B=y at *;generalize BN 0 y.length=p0 at *;generalize Dj y=bm at *;generalize Ff y=bl at *;have bk:0<y.length:=by omega
      repeat'(first|exact trivial|apply eS rfl|apply AB|refine rX c ?_ ?_|refine rC ?_ ?_<;>intro d<;>try(cases d;done))
      refine evP c 2 ?_ ?_
      . trivial
      refine clG c (Uw h hu.ok ao (a:=0) (b:=(f.length:Int)) (by omega) (by omega) (by omega) (by omega)) [(101,.nm 23),(102,.nm 102),(103,.nm 103),(104,.nm 104)] [102,103,104] ?_ ?_ ?_
      . first|exact eN|refine eM ?_
      . simp only[Uv]
        first|exact eN|refine eM ?_
      rintro res F (⟨rfl,n,v,s,rfl,am⟩|⟨rfl,⟨n,v,s,rfl⟩,ap⟩)
      . refine⟨[(23,.nm 101),(102,.nm 102),(103,.nm 103),(104,.nm 104)],.p .bool true,[(23, .box 111 true [.p Dn h, .sr 102 T3 0 n.length, .sr 103 T3 0 v.length, .sr 104 Cm 0 s.length]), (102, .arr 3 T3 n), (103, .arr 3 T3 v), (104, .arr 91 Cm s)],rfl,rfl,?_,?_,rfl,rfl,?_⟩
        . simp only[Uv]
          first|exact eN|refine eM ?_
        . first|exact eN|refine eM ?_
        refine rN 5 c ?_ ?_
        . trivial
        refine clG c (Uw h hu.ok am (a:=(f.length:Int)) (b:=((f.length+(p.length+1):Nat):Int)) (by omega) (by omega) (by omega) (by omega)) [(101,.nm 23),(102,.nm 102),(103,.nm 103),(104,.nm 104)] [102,103,104] ?_ ?_ ?_
        . first|exact eN|refine eM ?_
        . simp only[Uv]
          first|exact eN|refine eM ?_
        rintro res F (⟨rfl,o,w,t,rfl,an⟩|⟨rfl,⟨o,w,t,rfl⟩,aq⟩)
        . refine⟨[(23,.nm 101),(102,.nm 102),(103,.nm 103),(104,.nm 104)],.p .bool true,[(23, .box 111 true [.p Dn h, .sr 102 T3 0 o.length, .sr 103 T3 0 w.length, .sr 104 Cm 0 t.length]), (102, .arr 3 T3 o), (103, .arr 3 T3 w), (104, .arr 91 Cm t)],rfl,rfl,?_,?_,rfl,rfl,?_⟩
          . simp only[Uv]
            first|exact eN|refine eM ?_
          . first|exact eN|refine eM ?_
          refine rN 12 c ?_ ?_
          . exact eV
          refine clG c (Uw h hu.ok an (a:=(f.length:Int)+(p.length:Int)) (b:=((f.length+(p.length+1):Nat):Int)+(q.length:Int)) (by omega) (by omega) (by omega) (by omega)) [(101,.nm 23),(102,.nm 102),(103,.nm 103),(104,.nm 104)] [102,103,104] ?_ ?_ ?_
          . first|exact eN|refine eM ?_
          . simp only[Uv]
            first|exact eN|refine eM ?_
          have ad:[]++[(0,(f.length:Int))]++[((f.length:Int),((f.length+(p.length+1):Nat):Int))]++[((f.length:Int)+(p.length:Int),((f.length+(p.length+1):Nat):Int)+(q.length:Int))]=eqP f p q:=by
            rw[show (f.length:Int)+(p.length:Int)=((f.length+p.length:Nat):Int) by omega,show ((f.length+(p.length+1):Nat):Int)+(q.length:Int)=((f.length+(p.length+1)+q.length:Nat):Int) by omega];rfl
          rw[ad];rintro res F (⟨rfl,i,m,l,rfl,e⟩|⟨rfl,⟨i,m,l,rfl⟩,au⟩)
          . have z:=Qu e (by omega) M
            have j:=Ze hu (W i m l e z);refine⟨[(23,.nm 101),(102,.nm 102),(103,.nm 103),(104,.nm 104)],.p .bool true,[(23, .box 111 true [.p Dn h, .sr 102 T3 0 i.length, .sr 103 T3 0 m.length, .sr 104 Cm 0 l.length]), (102, .arr 3 T3 i), (103, .arr 3 T3 m), (104, .arr 91 Cm l)],rfl,rfl,?_,?_,rfl,rfl,?_⟩
            . simp only[Uv]
              first|exact eN|refine eM ?_
            . first|exact eN|refine eM ?_
            refine rL c ?_ ?_
            . trivial
            repeat'(first|exact trivial|apply eS rfl|apply AB|refine rX c ?_ ?_|refine rC ?_ ?_<;>intro d<;>try(cases d;done))
            refine cP 1 c ?_ ?_
            . trivial
            refine rM c (jG h e.fo z (by rw[e.lt,e.lp]) (by rw[e.la,e.lp]) (λk x hx=>by rw[e.lp];exact(e.arr k x hx).1) (r:=0) (by omega) (by rw[e.lp];omega)) [(101,.nm 23),(102,.nm 102),(103,.nm 103),(104,.nm 104)] [23,102,103,104] ?_ ?_ ?_
            . first|exact eN|refine eM ?_
            . simp only[Uv]
              first|exact eN|refine eM ?_
            rintro _ F rfl
            refine⟨[],.p DE (AL (quo i m l) (ED i 0)),[],rfl,rfl,?_,?_,rfl,rfl,?_⟩
            . first|exact eN|refine eM ?_
            . first|exact eN|refine eM ?_
            refine rL c ?_ ?_
            . trivial
            repeat'(first|exact trivial|apply eS rfl|apply AB|refine rX c ?_ ?_|refine rC ?_ ?_<;>intro d<;>try(cases d;done))
            exact fI c [.cell 8 25,.tmp 9] (by rw[j];exact eR)
          . have j:=C (eqP f p q) (λ_ h=>h) au
            refine⟨[(23,.nm 101),(102,.nm 102),(103,.nm 103),(104,.nm 104)],.p .bool false,[(23, .box 111 true [.p Dn h, .sr 102 T3 0 i.length, .sr 103 T3 0 m.length, .sr 104 Cm 0 l.length]), (102, .arr 3 T3 i), (103, .arr 3 T3 m), (104, .arr 91 Cm l)],rfl,rfl,?_,?_,rfl,rfl,?_⟩
            . simp only[Uv]
              first|exact eN|refine eM ?_
            . first|exact eN|refine eM ?_
            refine rL c ?_ ?_
            . trivial
            repeat'(first|exact trivial|apply eS rfl|apply AB|refine rX c ?_ ?_|refine rC ?_ ?_<;>intro d<;>try(cases d;done))
            exact fI c [.cell 8 25,.tmp 9] (by rw[j];exact eR)
        . have j:=C [(0,(f.length:Int)),((f.length:Int),((f.length+(p.length+1):Nat):Int))] (by simp) aq
          refine⟨[(23,.nm 101),(102,.nm 102),(103,.nm 103),(104,.nm 104)],.p .bool false,[(23, .box 111 true [.p Dn h, .sr 102 T3 0 o.length, .sr 103 T3 0 w.length, .sr 104 Cm 0 t.length]), (102, .arr 3 T3 o), (103, .arr 3 T3 w), (104, .arr 91 Cm t)],rfl,rfl,?_,?_,rfl,rfl,?_⟩
          . simp only[Uv]
            first|exact eN|refine eM ?_
          . first|exact eN|refine eM ?_
          refine rL c ?_ ?_
          . trivial
          repeat'(first|exact trivial|apply eS rfl|apply AB|refine rX c ?_ ?_|refine rC ?_ ?_<;>intro d<;>try(cases d;done))
          exact fI c [.cell 8 25,.tmp 9] (by rw[j];exact eR)
      . have j:=C [(0,(f.length:Int))] (by simp) ap
        refine⟨[(23,.nm 101),(102,.nm 102),(103,.nm 103),(104,.nm 104)],.p .bool false,[(23, .box 111 true [.p Dn h, .sr 102 T3 0 n.length, .sr 103 T3 0 v.length, .sr 104 Cm 0 s.length]), (102, .arr 3 T3 n), (103, .arr 3 T3 v), (104, .arr 91 Cm s)],rfl,rfl,?_,?_,rfl,rfl,?_⟩
        . simp only[Uv]
          first|exact eN|refine eM ?_
        . first|exact eN|refine eM ?_
        refine rL c ?_ ?_
        . trivial
        repeat'(first|exact trivial|apply eS rfl|apply AB|refine rX c ?_ ?_|refine rC ?_ ?_<;>intro d<;>try(cases d;done))
        exact fI c [.cell 8 25,.tmp 9] (by rw[j];exact eR)
end
section
attribute [local go_sem] Jl KT A8u atS pU
def X3 (w:LW) (U:List AD):List AD:=U++[(w.dlist,[(w.last,(KR U 0 [w.rest,w.last]).1),(w.head,(KR U 0 [w.first,w.head]).1)])]
noncomputable def Pe (h:AG) (a b:List AD):List AD×Bool:=Sh h (BI 0 (AR h).first (AR h).rest a b) [(AR h).first,(AR h).last] [(AR h).rest,(AR h).head]
noncomputable def Eq (h:AG) (a b:List AD):List AD×Int :=
 if Ea h=true then
  if (Az h a 0).2≠0 then ([],(Az h a 0).2)
  else if (Az h b 0).2≠0 then ([],(Az h b 0).2)
  else if (Pe h a b).2=false then ([],12)
  else if 4096<(AL (X3 (AR h) (Pe h a b).1) ((Pe h a b).1.length:Int)).length then ([],7)
  else (AL (X3 (AR h) (Pe h a b).1) ((Pe h a b).1.length:Int),0)
 else ([],5)
theorem A54 {h:AG} {a:List AD} (c:VF h a) (p:List Int):0<=(KR a 0 p).1/\(KR a 0 p).1<(a.length:Int):=by
 have hp:=c.pos;cases b:(KR a 0 p).2 with
 | true=>exact A8m c p b
 | false =>
  have e:=Xm c.good c.str p 0;rw[e]at b ⊢;cases d:B2 a 0 p with
  | some m=>rw[d]at b;cases b
  | none =>
   simp only;omega
theorem A1D {h:AG} {b:List AD} (w:LW) (c:VF h b) (hl:b.length<=10000):AN (X3 w b)/\(X3 w b).length=b.length+1:=by
 have h1:=A54 c [w.rest,w.last];have e:=A54 c [w.first,w.head];have d:(X3 w b).length=b.length+1:=by
  unfold X3;rw[By];rfl
 refine⟨⟨by omega,λx hx=>?_⟩,d⟩;rw[d];unfold X3 at hx;rcases Is.1 hx with q|q
 .refine⟨(c.good.2 x q).1,λa ha=>?_⟩;have:=(c.good.2 x q).2 a ha;omega
 rw[RM.1 q];refine⟨by show 2<=100000;omega,λa ha=>?_⟩;simp only[DO,oS,AEI]at ha;rcases ha with rfl|rfl
 .simp only;omega
 simp only;omega
noncomputable def A55:AZ:={ ins:=[Dn,DE,DE],pre:=λ(h,a,b,_)=>(HU h/\XY h/\(Ea h=true->(AR h).first<(AR h).rest))/\VF h a/\VF h b/\List.length a+List.length b<=990,out:=λ(h,a,b,_)=>[.p DE (Eq h a b).1,.p GI (Eq h a b).2] }
theorem A8v:Af Tryz.prog 44 A55:=by
 refine fKP [0,1,2,3,4,5,6,7,8,9,11,13,14,15,16,17,19,21,22,29,34,35,36,37,47,91,139] [34,61,81,86,99,109,123,130] [] Tryz.func44 Tryz.ntmps44 (AF KO (AF UG (AF AAa (AF ADo (AF A52 AH))))) ?_;rintro w0 O0 ⟨h,a,b,u⟩ d-⟨⟨hu,W,V⟩,va,r,hl⟩;have va:VF h a:=va;have r:VF h b:=r;have hl:List.length a+List.length b<=990:=hl;have l:(h.1,h.2)=h:=rfl;simp only[A55,AM];repeat'(first|exact trivial|apply eS rfl|apply AB|refine rP d ?_ ?_|refine rA d ?_ ?_|refine rC ?_ ?_<;>intro c<;>try(cases c;done))
 all_goals have n:(h.1,h.2)=h:=rfl
 all_goals simp only[n]at *
 .have i:Ea h=false:=by
   cases z:Ea h with
   | true=>rw[z]at c;exact absurd rfl c
   | false=>rfl
  have f:Eq h a b=([],5):=by unfold Eq;rw[i,As (by simp)]
  simp only[i,iN,ADz,f];exact fI d [.cell 6 25,.tmp 7]
 have i:Ea h=true:=by
  have q:((if Ea h=true then (0:Int) else 5) != 0)=false:=by assumption
  cases z:Ea h with
  | false=>rw[z]at q;exact absurd q (by decide)
  | true=>rfl
 simp only[BY i,wdF]at *;refine AK (ι:={k:Nat//k<=2/\(1<=k->(Az h a 0).2=0)/\(2<=k->(Az h b 0).2=0)}) (λk=>⟨[(3,.bp 3 [] 0),(4,.bp 4 [] 0),(5,.bp 5 [] 0),(6,.bp 6 [] 0),(8,.bp 8 [] 0),(34,.p Ni [a,b]),(35,.p (.int .i64) (2:Int)),(36,.p (.int .i64) (k.1:Int))],[(8,.box 115 true [.p Dn h,.p T3 (AR h).list,.p T3 (AR h).cons,.p T3 (AR h).null,.p T3 (AR h).dlist,.p T3 (AR h).first,.p T3 (AR h).rest,.p T3 (AR h).head,.p T3 (AR h).last]),(6,.box 25 true [.raw (.slice none 0 0)]),(5,.box 25 true [.p G2 b]),(4,.box 25 true [.p G2 a]),(3,.box 31 true [.p lF h.1,.p rE h.2])]⟩) (λk=>2-k.1) ⟨0,by omega,λq=>by omega,λq=>by omega⟩ (AC [(3,.nm 3),(4,.nm 4),(5,.nm 5),(6,.nm 6),(8,.nm 8)] rfl rfl ?_ ?_) (λk=>?_)
 .first|exact eN|refine eM ?_
 .first|exact eN|refine eM ?_
  rfl
 obtain⟨k,hk,L,X⟩:=k;have hx:k<2->∃x,[a,b].getD k []=x/\VF h x/\((Az h x 0).2≠0->Eq h a b=([],(Az h x 0).2))/\((Az h x 0).2=0->(1<=k+1->(Az h a 0).2=0)/\(2<=k+1->(Az h b 0).2=0)):=λo=>by
  have:k=0\/k=1:=by omega
  rcases this with rfl|rfl
  .exact⟨a,rfl,va,λq=>by unfold Eq;rw[BY i,BY q],λq=>⟨λ_=>q,λM=>by omega⟩⟩
  have v:=L (If _);exact⟨b,rfl,r,λq=>by unfold Eq;rw[BY i,As (λM=>M v),BY q],λq=>⟨λ_=>v,λ_=>q⟩⟩
 simp only;repeat'(first|exact trivial|apply eS rfl|apply AB|refine rP d ?_ ?_|refine rA d ?_ ?_|refine rC ?_ ?_<;>intro c<;>try(cases c;done))
 all_goals have n:(h.1,h.2)=h:=rfl
 all_goals simp only[n]at *
 .exact c
 .obtain⟨x,e,s,-⟩:=hx (IN.1 c);rw[e];exact⟨s.good,s.ty,IN.2 s.pos⟩
 .obtain⟨x,e,s,f,-⟩:=hx (IN.1 (by assumption));have H:(Az h ([a,b].getD k []) 0).2≠0:=c;rw[e]at H;rw[f H,<-e];exact fI d [.cell 6 25,.tmp 7]
 .omega
 .have o:k<2:=IN.1 (by assumption);obtain⟨x,e,s,-,f⟩:=hx o;have B:(Az h ([a,b].getD k []) 0).2=0:=by simpa using c
  rw[e]at B;refine⟨⟨k+1,o,(f B).1,(f B).2⟩,by simp only;omega,AC [(3,.nm 3),(4,.nm 4),(5,.nm 5),(6,.nm 6),(8,.nm 8)] rfl rfl ?_ ?_⟩
  .first|exact eN|refine eM ?_
  first|exact eN|refine eM ?_
 .omega
 have o:2<=k:=RJ.1 c;have v:=L (by omega);have Y:=X o;clear hx;have N:=va.pos;have af:=va.good.1;have K:=Hi 1 a (If a.length);have I:=VD [((0:Int),[((AR h).first,(1:Int)),((AR h).rest,1+(a.length:Int))])] a va.good (by simp);have J:=VD ([((0:Int),[((AR h).first,(1:Int)),((AR h).rest,1+(a.length:Int))])]++Nb 1 a a.length) b r.good (by rw[By,K,IS];omega);have F:([((0:Int),[((AR h).first,(1:Int)),((AR h).rest,1+(a.length:Int))])]++Nb 1 a a.length).length=1+a.length:=by rw[By,K,IS]
 simp only[IS]at I;rw[F,show [((0:Int),[((AR h).first,(1:Int)),((AR h).rest,1+(a.length:Int))])]++Nb 1 a a.length++Nb (1+a.length) b b.length=BI 0 (AR h).first (AR h).rest a b from rfl]at J;refine CA drawsAny d 8 [([0,1,2,3],4),([5,6],7)] [] (by kernel_rfl) (KX ?_ ?_)
 .trivial
 refine mxC d (I) [(50,.nm 63)] [63] ?_ ?_ ?_
 .exact eN
 .exact eN
 rintro _ _ ⟨rfl,rfl⟩;refine⟨[(63,.nm 50)],.sr 63 Hd 0 (1+a.length),[(63,.arr 93 Hd ([((0:Int),[((AR h).first,(1:Int)),((AR h).rest,1+(a.length:Int))])]++Nb 1 a a.length))],rfl,rfl,?_,?_,rfl,rfl,rfl,?_⟩
 .exact eN
 .simp only[F];exact eN
 refine KX ?_ ?_
 .trivial
 refine mxC d (J) [(50,.nm 63)] [63] ?_ ?_ ?_
 .exact eN
 .exact eN
 rintro _ _ ⟨rfl,rfl⟩;refine⟨[(63,.nm 50)],.sr 63 Hd 0 (BI 0 (AR h).first (AR h).rest a b).length,[(63,.arr 93 Hd (BI 0 (AR h).first (AR h).rest a b))],rfl,rfl,?_,?_,rfl,rfl,rfl,?_⟩
 .exact eN
 .exact eN
 refine Re d ?_ ?_ ?_
 .trivial
 .trivial
 refine F0 [63] ?_;have m:=OJ i;have w:=(GD h ⟨#[70,73,82,83,84]⟩).2;have y:=(GD h ⟨#[82,69,83,84]⟩).2;have C:=(GD h ⟨#[76,73,83,84]⟩).2;have D:=(GD h ⟨#[76,65,83,84]⟩).2;obtain⟨-,-,-,-,Z,aa,ab,ad⟩:=cZ h;rw[Z]at w;rw[aa]at y;rw[ab]at C;rw[ad]at D;have S:0<h.1.length:=by
  have:=va.ty _ (AE a (0,[]) N);omega
 have ae:=KV ⟨ADC 0,IN.2 S⟩ (V i) ⟨m.1.1,w⟩ ⟨m.1.2,y⟩ va r (by omega);have ag:=CX 0 (AR h).first (AR h).rest a b;have O:FtP h [(AR h).first,(AR h).last]:=λe l=>by
  simp only[DO,oS,AEI]at l;rcases l with rfl|rfl
  .exact⟨m.1.1,w⟩
  exact⟨m.2.2.2.2.2.2,D⟩
 have Q:FtP h [(AR h).rest,(AR h).head]:=λe l=>by
  simp only[DO,oS,AEI]at l;rcases l with rfl|rfl
  .exact⟨m.1.2,y⟩
  exact⟨m.2.2.2.2.2.1,C⟩
 have j:(Pe h a b).2=true->jX h (BI 0 (AR h).first (AR h).rest a b) [(AR h).first,(AR h).last] [(AR h).rest,(AR h).head] (Pe h a b).1:=A1c;have f:Eq h a b=if (Pe h a b).2=false then ([],12) else if 4096<(AL (X3 (AR h) (Pe h a b).1) ((Pe h a b).1.length:Int)).length then ([],7) else (AL (X3 (AR h) (Pe h a b).1) ((Pe h a b).1.length:Int),0):=by
  unfold Eq;rw[BY i,As (λq=>q v),As (λq=>q Y)]
 rw[f];clear f;unfold Pe at j ⊢;generalize BI 0 (AR h).first (AR h).rest a b=P at *;repeat'(first|exact trivial|apply eS rfl|apply AB|refine rP d ?_ ?_|refine rA d ?_ ?_|refine rC ?_ ?_<;>intro c<;>try(cases c;done))
 all_goals have n:(h.1,h.2)=h:=rfl
 all_goals simp only[n]at *
 all_goals generalize Sh h P [(AR h).first,(AR h).last] [(AR h).rest,(AR h).head]=R at *
 .exact⟨hu,W,ae,O,Q,by omega⟩
 .rw[BY c];exact fI d [.cell 6 25,.tmp 7]
 .exact⟨(j c).vf.good,(j c).vf.pos⟩
 .exact⟨(j c).vf.good,(j c).vf.pos⟩
 have E:=j c;have U:=E.len;simp only[No,AAg]at U;obtain⟨G,T⟩:=A1D (AR h) E.vf (by omega);rw[As (by rw[c];simp)];clear j;unfold X3 at G T ⊢;generalize R.1=t at *;refine CA drawsAny d 13 [([0,1,2],3),([4,5],6),([7,8,9],10),([11],12)] [] (by kernel_rfl) (KX ?_ ?_)
 .trivial
 refine NJ d [125] ?_ ?_
 .simp only[AO];omega
 refine KX ?_ ?_
 .trivial
 refine mxF 125 d [125] ?_ ?_
 .simp only[AO];omega
 refine KX ?_ ?_
 .trivial
 refine NJ d [] ?_ ?_
 .exact⟨G,Int.lt_add_one_of_le (ADC _)⟩
 refine KX ?_ ?_
 .trivial
 refine NJ d [] ?_ ?_
 .trivial
 refine Re d ?_ ?_ ?_
 .trivial
 .trivial
 generalize AL (t++[((AR h).dlist,[((AR h).last,(KR t 0 [(AR h).rest,(AR h).last]).1),((AR h).head,(KR t 0 [(AR h).first,(AR h).head]).1)])]) (t.length:Int)=g at *;repeat'(first|exact trivial|apply eS rfl|apply AB|refine rX d ?_ ?_|refine rC ?_ ?_<;>intro c<;>try(cases c;done))
 .have A:4096<g.length:=IN.1 (show ((4096:Nat):Int)<(g.length:Int) from c);rw[BY A];exact fI d [.cell 6 25,.tmp 7]
 have A:¬4096<g.length:=Nat.not_lt.2 (RJ.1 (show (g.length:Int)<=((4096:Nat):Int) from c));rw[As A];exact fI d [.cell 6 25,.tmp 7]
end
def Cl:Nat->List Int->Int->Int
 | 0,_,n=>n
 | k+1,p,n=>if EP p n=n then n else Cl k p (EP p n)
def X4 (p:List Int) (n:Int):Bool:=EP p (Cl 100 p n)==Cl 100 p n
theorem lC {p:List Int}:∀ {k:Nat} {n:Int},EP p (Cl k p n)=Cl k p n->Rt p n (Cl k p n)
 | 0,n,h=>.base h
 | k+1,n,h=>by
  unfold Cl at h ⊢;split
  .rename_i e;exact .base e
  rename_i e;rw[As e]at h;exact .step e (lC h)
theorem X5 {p:List Int} {n:Int} (h:X4 p n=true):Rt p n (Cl 100 p n):=lC (by unfold X4 at h;simpa using h)
abbrev ClD:=List Int×List Int×List (List (Int×Int))
def Zy (h:AG):Nat->ClD->List (Int×Int)->Option (Option ClD)
 | 0,_,_=>none
 | k+1,s,W=>match W.getLast? with
  | none=>some (some s)
  | some w =>
   if (X4 s.1 w.1&&X4 s.1 w.2)=true then
    if Cl 100 s.1 w.1=Cl 100 s.1 w.2 then Zy h k s W.dropLast
    else if (Ba h (s.2.1.getD (Cl 100 s.1 w.1).toNat 0) (s.2.1.getD (Cl 100 s.1 w.2).toNat 0)).2=false then some none
    else Zy h k (s.1.set (Cl 100 s.1 w.2).toNat (Cl 100 s.1 w.1),s.2.1.set (Cl 100 s.1 w.1).toNat (Ba h (s.2.1.getD (Cl 100 s.1 w.1).toNat 0) (s.2.1.getD (Cl 100 s.1 w.2).toNat 0)).1,s.2.2.set (Cl 100 s.1 w.1).toNat (Bx (s.2.2.getD (Cl 100 s.1 w.1).toNat []) (s.2.2.getD (Cl 100 s.1 w.2).toNat [])).1)
     (W.dropLast++(Bx (s.2.2.getD (Cl 100 s.1 w.1).toNat []) (s.2.2.getD (Cl 100 s.1 w.2).toNat [])).2)
   else none
theorem A8w {α:Type} {W:List α} {w:α} (h:W.getLast?=some w):W=W.dropLast++[w]:=by
 obtain⟨a,e⟩:=List.getLast?_eq_some_iff.1 h;rw[e];simp
theorem X6 {h:AG} (hk:HX h) {N:List AD} {P:List (Int×Int)}:∀(k:Nat) (s:ClD) (W:List (Int×Int)),JI h N P s.1 s.2.1 s.2.2 W ->
  (∀t,Zy h k s W=some (some t)->JI h N P t.1 t.2.1 t.2.2 [])/\(Zy h k s W=some none->∀X v,Cc h X->¬LI h N P X v)
 | 0,s,W,a=>⟨λt e=>(by cases e),λe=>(by cases e)⟩
 | k+1,s,W,a=>by
  unfold Zy;cases g:W.getLast? with
  | none =>
   have:W=[]:=List.getLast?_eq_none_iff.1 g;subst this;refine⟨λt e=>?_,λe=>(by cases e)⟩;have e:s=t:=by simpa using e
   rw[<-e];exact a
  | some w =>
   simp only;have i:=A8w g;obtain⟨x,y⟩:=w;rw[i]at a;by_cases c:(X4 s.1 x&&X4 s.1 y)=true
   .rw[BY c];rw[An]at c;have ha:=X5 c.1;have d:=X5 c.2;by_cases f:Cl 100 s.1 x=Cl 100 s.1 y
    .rw[BY f];rw[<-f]at d;exact X6 hk k s _ (cK a ha d)
    rw[As f];by_cases b:(Ba h (s.2.1.getD (Cl 100 s.1 x).toNat 0) (s.2.1.getD (Cl 100 s.1 y).toNat 0)).2=false
    .rw[BY b];refine⟨λt e=>(by cases e),λ_ X v j l=>?_⟩;have:=(Uu hk a ha d j l).2.1;rw[b]at this;cases this
    rw[As b];have b:(Ba h (s.2.1.getD (Cl 100 s.1 x).toNat 0) (s.2.1.getD (Cl 100 s.1 y).toNat 0)).2=true:=by simpa using b
    exact X6 hk k _ _ (XJ hk a ha d f b)
   rw[As c];exact⟨λt e=>(by cases e),λe=>(by cases e)⟩
def Sv (h:AG):ClD->List (Int×Int)->Option (Option ClD)
 | s,[]=>some (some s)
 | s,q :: P=>match Zy h 1000 s [q] with
  | some (some t)=>Sv h t P
  | r=>r
theorem Zz {h:AG} (hk:HX h) {N:List AD}:∀(R P:List (Int×Int)) (s:ClD),(∀q∈R,(0<=q.1/\q.1<(N.length:Int))/\(0<=q.2/\q.2<(N.length:Int)))->JI h N P s.1 s.2.1 s.2.2 [] ->
  (∀t,Sv h s R=some (some t)->JI h N (P++R) t.1 t.2.1 t.2.2 [])/\(Sv h s R=some none->∀X v,Cc h X->¬LI h N (P++R) X v)
 | [],P,s,g,f=>⟨λt e=>by
   have e:s=t:=by simpa[Sv] using e
   rw[<-e,Ra];exact f,λe=>(by cases e)⟩
 | q :: R,P,s,g,f=>by
  obtain⟨a,b⟩:=q;have c:=g (a,b) (by simp);obtain⟨m,n⟩:=X6 hk 1000 s [(a,b)] (XK f c.1 c.2);have i:P++(a,b) :: R=P++[(a,b)]++R:=by simp
  unfold Sv;rw[i];split
  .rename_i t l;exact Zz hk R (P++[(a,b)]) t (λq c=>g q (by simp[c])) (m t l)
  rename_i r k;refine⟨λt e=>absurd e (k t),λe X v j d=>n e X v j ⟨d.rng,d.ty,d.arc,λq c=>d.eq q (S2 _ c)⟩⟩
def A8x (s:ClD):List AD:=(List.range s.1.length).map λk=>(s.2.1.getD k 0,(s.2.2.getD k []).map λa=>(a.1,Cl 100 s.1 a.2))
def dQ (s:ClD):Bool:=(List.range s.1.length).all λ(k:Nat)=>X4 s.1 (k:Int)
theorem Z0 {h:AG} {N:List AD} {P:List (Int×Int)} {s:ClD} (b:JI h N P s.1 s.2.1 s.2.2 []) (a:dQ s=true) {x:Int} (c:0<=x) (d:x<(N.length:Int)):Cl 100 s.1 x=ED s.1 x:=by
 unfold dQ at a;rw[ON]at a;have hl:=b.lp;have:=a x.toNat (RY.2 (by omega));rw[AEa c]at this;rw[cM (X5 this)]
theorem A8y {h:AG} {N:List AD} {P:List (Int×Int)} {s:ClD} (b:JI h N P s.1 s.2.1 s.2.2 []) (c:dQ s=true):A8x s=quo s.1 s.2.1 s.2.2:=by
 unfold A8x quo;refine RI λk _=>?_
 congr 1
 refine RI λa ha=>?_;have:=(b.arr k a ha).1;rw[Z0 b c this.1 this.2]
def A57 (N:List AD):ClD:=(BN 0 N.length,Dj N,Ff N)
def A8z (h:AG) (N:List AD) (P:List (Int×Int)):Option (List AD×Bool):=match Sv h (A57 N) P with
 | some (some s)=>if dQ s=true then some (AL (A8x s) (Cl 100 s.1 0),true) else none
 | some none=>some ([],false)
 | none=>none
theorem A8A {h:AG} (hk:HX h) {N:List AD} (j:AN N) (k:Cc h N) (hs:∀x∈N,Li x.2) (h0:0<N.length) {P:List (Int×Int)} (i:∀q∈P,(0<=q.1/\q.1<(N.length:Int))/\(0<=q.2/\q.2<(N.length:Int))) :
  (∀a,A8z h N P=some (a,true)->∃p ty ar,JI h N P p ty ar []/\a=AL (quo p ty ar) (ED p 0))/\(∀a,A8z h N P=some (a,false)->a=[]/\∀X v,Cc h X->¬LI h N P X v):=by
 obtain⟨f,g⟩:=Zz hk P [] (A57 N) i (Ux j k hs);rw[ADP]at f g;unfold A8z;split
 .rename_i s c;have b:=f s c;split
  .rename_i d;refine⟨λa e=>⟨s.1,s.2.1,s.2.2,b,?_⟩,λa e=>(by cases e)⟩;have e:AL (A8x s) (Cl 100 s.1 0)=a:=by simpa using e
   rw[<-e,A8y b d,Z0 b d (by omega) (by omega)]
  exact⟨λa e=>(by cases e),λa e=>(by cases e)⟩
 .rename_i c;refine⟨λa e=>(by cases e),λa e=>⟨?_,g c⟩⟩;have e:[]=a:=by simpa using e
  exact e.symm
 exact⟨λa e=>(by cases e),λa e=>(by cases e)⟩
def ADr (h:AG) (f:List AD) (p q:List Int):Option (List AD×Bool):=A8z h (eqN f p q) (eqP f p q)
theorem A8B {h:AG} (hu:HU h) (o:XY h) {f:List AD} {p q:List Int} (vf:VF h f) (e:FtP h p) (i:FtP h q) (hp:p.length<=1000) (c:q.length<=1000) (hl:f.length<=1000) {r:List AD×Bool} (b:ADr h f p q=some r):Sh h f p q=r:=by
 have I:=cW f p q;have J:=vf.pos;obtain⟨d,z⟩:=r;have K:=CG f (Ck p);have L:=CV p;have M:=CV q;have u:=FP vf.good (FQ hp) (by omega);have t:=FP u (FQ c) (by omega);have j:0<h.1.length:=by
  have:=vf.ty _ (AE f (0,[]) vf.pos);omega
 have G:=KK (KK vf.ty (Qv j p)) (Qv j q);have F:=Gj (Gj vf.str (NY p)) (NY q);have k:∀g:List AD,(∀x∈g,∀a∈x.2,0<=a.1/\a.1<(h.2.length:Int))->jM g:=λg w x hx a ha=>by
  have h1:=w x hx a ha;have H:=hu.ft;omega
 have s:=KL (KL (vf.ft64 hu) (k _ (KM e))) (k _ (KM i));obtain⟨D,E⟩:=A8A hu.ok (N:=eqN f p q) t G F (by omega) (P:=eqP f p q) (λr b=>by
  simp only[DO,oS,AEI]at b;rcases b with rfl|rfl|rfl<;>simp only<;>omega)
 cases z with
 | true =>
  obtain⟨Q,ty,ar,m,rfl⟩:=D d b;exact Ze hu (A4g o vf e i hp c (by omega) m (Qu m (by omega) s))
 | false =>
  obtain⟨rfl,B⟩:=E d b;refine Zf λX l O h1 n y A=>?_;obtain⟨v,C,-⟩:=cX o vf hp c (by omega) l h1 y A;exact B X v l.ty C
def roB (f:List AD):Bool:=(List.range f.length).all λ(i:Nat)=>i==0||(List.range i).any λj=>(f.getD j (0,[])).2.any λa=>a.2==(i:Int)
def A8C:List (Int×Int)->Bool
 | a :: b :: l=>decide (a.1<b.1)&&A8C (b :: l)
 | _=>true
theorem zM:∀ {l:List (Int×Int)},A8C l=true->Li l
 | [],_=>.nil
 | [a],_=>AEj _ _
 | a :: b :: l,h=>by
  simp only[A8C,An,Do]at h;have e:=zM h.2;refine Rb.2 ⟨λc d=>?_,e⟩;rcases DO.1 d with rfl|d
  .exact h.1
  have:=(Rb.1 e).1 c d;omega
def vfB (h:AG) (f:List AD):Bool :=
 decide (0<f.length)&&decide (f.length<=100)&&roB f&&(AL f 0==f)&&f.all λx=>decide (0<=x.1)&&decide (x.1<(h.1.length:Int))&&decide (x.2.length<=100)&&A8C x.2&&x.2.all λa=>decide (0<=a.1)&&decide (a.1<(h.2.length:Int))&&decide (0<=a.2)&&decide (a.2<(f.length:Int))
theorem X7 {h:AG} {f:List AD} (d:vfB h f=true):VF h f:=by
 unfold vfB at d;simp only[An,Do,ON,S1]at d;obtain⟨⟨⟨⟨h1,l⟩,c⟩,k⟩,b⟩:=d;refine⟨⟨by omega,λx hx=>⟨by have:=(b x hx).1.1.2;omega,λa ha=>?_⟩⟩,h1,λx hx=>?_,λx hx=>?_,λx hx a ha=>?_,k,λi m n=>?_⟩
 .have:=(b x hx).2 a ha;exact⟨this.1.2,this.2⟩
 .exact(b x hx).1.1.1
 .exact zM (b x hx).1.2
 .exact((b x hx).2 a ha).1.1
 unfold roB at c;rw[ON]at c;have:=c i.toNat (RY.2 (by omega));rw[Sx,S1]at this;rcases this with e|e
 .omega
 obtain⟨j,g,e⟩:=RT.1 e;obtain⟨a,ha,e⟩:=RT.1 e;have g:=RY.1 g;refine⟨(j:Int),by omega,by omega,a,by rw[AP,RK];exact ha,?_⟩;have e:a.2=(i.toNat:Int):=by simpa using e
 omega
theorem A58:GN []=EB:=by
 rw[<-A8f];unfold GN Uz;simp
theorem ADs (d:List AJ):H11 (GN d):=by
 unfold GN;split
 .exact UF _
 exact UF _
theorem VG:H11 EB:=by rw[<-A58];exact ADs []
theorem lD:XY EB:=VG.top
theorem ADU:Cd EB (AR EB).null [[(5,[])],[(6,[])]]=([(3,[(2,1),(10,2)]),(5,[]),(3,[(2,3),(10,4)]),(6,[]),(8,[])],0):=by decide +kernel
theorem ADV:Jo EB []=([(4,[(6,1),(7,1)]),(2,[])],0):=by decide +kernel
theorem ADW:Jo EB [[(5,[])]]=([(4,[(6,1),(7,2)]),(2,[]),(3,[(2,3),(10,1)]),(5,[])],0):=by decide +kernel
theorem ADX:D9 EB [(3,[(2,1),(10,2)]),(5,[]),(3,[(2,3),(10,4)]),(6,[]),(8,[])] 0=([1,3],true,0):=by decide +kernel
theorem ADY:D9 EB [(3,[(2,1),(10,0)]),(5,[])] 0=([],false,6):=by decide +kernel
def xD:List AD:=[(4,[(6,1),(7,2)]),(2,[]),(3,[(2,3),(10,1)]),(5,[])]
def xU:List AD:=[(0,[(2,1),(10,7)]),(4,[(6,2),(7,5)]),(3,[(2,3),(10,4)]),(5,[]),(2,[]),(3,[(2,6),(10,2)]),(5,[]),(4,[(6,4),(7,2)])]
def xK:List AD:=[(4,[(6,1),(7,2)]),(2,[]),(3,[(2,3),(10,4)]),(5,[]),(3,[(2,5),(10,1)]),(5,[])]
theorem AAb:VF EB xD:=X7 (by decide +kernel)
theorem ADZ:VF EB xK:=X7 (by decide +kernel)
theorem xlw:AR EB=⟨2,3,8,4,2,10,7,6⟩:=by
 have e1:(AR EB).list=2:=by decide +kernel
 have e2:(AR EB).cons=3:=by decide +kernel
 have a:(AR EB).null=8:=by decide +kernel
 have b:(AR EB).dlist=4:=by decide +kernel
 have c:(AR EB).first=2:=by decide +kernel
 have d:(AR EB).rest=10:=by decide +kernel
 have e:(AR EB).head=7:=by decide +kernel
 have f:(AR EB).last=6:=by decide +kernel
 generalize AR EB=w at *;obtain⟨g,h,i,j,k,l,m,n⟩:=w;simp only at e1 e2 a b c d e f;rw[e1,e2,a,b,c,d,e,f]
theorem AE0:ADr EB (BI 0 2 10 xD xD) [2,6] [10,7]=some (xU,true):=by decide +kernel
theorem xu:Pe EB xD xD=(xU,true):=by
 unfold Pe;rw[xlw];have hf:EB.2.length=13:=by decide +kernel
 have h0:0<EB.1.length:=by decide +kernel
 refine A8B VG.hu lD (KV ⟨ADC 0,IN.2 h0⟩ (by decide) (by rw[hf];decide) (by rw[hf];decide) AAb AAb (by decide)) (λe a=>?_) (λe a=>?_) (by decide) (by decide) (by decide) AE0
 .rw[hf];simp only[DO,oS,AEI]at a;rcases a with rfl|rfl<;>decide
 rw[hf];simp only[DO,oS,AEI]at a;rcases a with rfl|rfl<;>decide
theorem AE1:Eq EB xD xD=(xK,0):=by
 unfold Eq;rw[xu];have e1:Ea EB=true:=by decide +kernel
 have e2:(Az EB xD 0).2=0:=by decide +kernel
 have a:AL (X3 (AR EB) xU) (xU.length:Int)=xK:=by decide +kernel
 rw[BY e1,As (λq=>q e2),As (λq=>q e2),As (by decide)];simp only[a];rfl
theorem AE2:VC EB xK=([[(5,[])],[(5,[])]],0):=by decide +kernel
section
attribute [local go_sem] SM LN
def dR:AZ:={ ins:=[Dn,DE],pre:=λ_=>True,out:=λ(h,f,_)=>[.p .bool (Jm h f)],lend:=true }
theorem A59:Af Tryz.prog 36 dR:=by
 refine fK [0,1,2,3,4] Tryz.func36 Tryz.ntmps36 (AF A3B (AF A1k AH)) ?_;rintro w0 O0 ⟨⟨d,hf⟩,f,u⟩ a - -;simp only[dR,AM];repeat'(first|exact trivial|apply eS rfl|apply AB|refine rX a ?_ ?_|refine rC ?_ ?_<;>intro b<;>try(cases b;done))
 .intro h;obtain⟨h1,c⟩:=MZ h;exact⟨RG h1 (by decide),λx hx=>RG (c x hx) (by decide)⟩
 exact fI a [.tmp 4] (by unfold Jm;exact eR)
end
section
attribute [local go_sem] Zx ZQ Su Xt Q8 A55 Mt IV A4P dR
def dS:AZ:={ ins:=[F1,F1],pre:=λ_=>True,out:=λ(a,b,_)=>[.p .bool (decide ((a:List Int)=b))],lend:=true }
attribute [local go_sem] dS
theorem A5a:Af Tryz.prog 42 dS:=by
 refine fK [0,1,4,5,10,14,25] Tryz.func42 Tryz.ntmps42 AH ?_;rintro w0 O0 ⟨a,b,u⟩ d ⟨⟨j,-⟩,-⟩ -;simp only[AO]at j;simp only[dS,AM];repeat'(first|exact trivial|apply eS rfl|apply AB|refine rX d ?_ ?_|refine rC ?_ ?_<;>intro c<;>try(cases c;done))
 .have h:(a:List Int)≠b:=λe=>c (by rw[e]);exact fI d [.tmp 4] (by rw[AEK h];exact eR)
 have i:List.length a=List.length b:=by
  have:=c;simp only[bne_eq_false_iff_eq]at this;omega
 refine AK (ι:={k:Nat//k<=List.length a/\(a:List Int).take k=(b:List Int).take k}) (λk=>⟨[(0,.p F1 a),(1,.p F1 b),(5,.p (.int .i64) (k.1:Int))],[]⟩) (λk=>List.length a-k.1) ⟨0,NO _,rfl⟩ (AC [] rfl rfl ?_ ?_) (λk=>?_)
 .first|exact eN|refine eM ?_
 .first|exact eN|refine eM ?_
 obtain⟨k,hk,g⟩:=k;repeat'(first|exact trivial|apply eS rfl|apply AB|refine rX d ?_ ?_|refine rC ?_ ?_<;>intro c<;>try(cases c;done))
 .exact⟨by assumption,by rw[<-i];assumption⟩
 .have f:k<List.length a:=by exact eV
  have h:(a:List Int)≠b:=λe=>c (by rw[e]);exact fI d [.tmp 4] (by rw[AEK h];exact eR)
 .exact eV
 .have f:k<List.length a:=by exact eV
  refine⟨⟨k+1,f,?_⟩,by simp only;omega,AC [] rfl rfl ?_ ?_⟩
  .have e:List.getD a k 0=List.getD b k 0:=by simpa using c
   rw[Au (a:List Int) 0 f,Au (b:List Int) 0 (by omega),g,e]
  .first|exact eN|refine eM ?_
  first|exact eN|refine eM ?_
 have f:k=List.length a:=by exact eV
 rw[f,RD,i,RD]at g;exact fI d [.tmp 4] (by rw[AEF g];exact eR)
def Z1:AZ:={ ins:=[],pre:=λ_=>True,out:=λ_=>[.p .bool true] }
attribute [local go_sem] Z1
theorem A8D:Af Tryz.prog 37 Z1:=by
 refine fKP [0,1,2,3,4,5,6,7,8,9,10,11,12,13,16,17,18,19,20,21,22] [28,33,37,41,44,48,51,57,83,125,148] [] Tryz.func37 Tryz.ntmps37 (AF zL (AF A7B (AF kU (AF A4V (AF pO (AF A8v (AF pQ (AF Qk (AF A5a (AF AA3 AH)))))))))) ?_;rintro w0 O0 u c - -;simp only[Z1,AM];have k:((GN []).1,(GN []).2)=EB:=A58;have e:=AAb;have a:=ADZ;have b:VF EB [(3,[(2,1),(10,2)]),(5,[]),(3,[(2,3),(10,4)]),(6,[]),(8,[])]:=X7 (by decide +kernel);have g:VF EB [(3,[(2,1),(10,0)]),(5,[])]:=X7 (by decide +kernel);have f:VF EB [(4,[(6,1),(7,1)]),(2,[])]:=X7 (by decide +kernel);have j:(AR EB).first<(AR EB).rest:=by rw[xlw];decide
 have hl:∀n:Int,AN [(n,[])]/\EK [(n,[])]:=λn=>⟨⟨by simp,by simp⟩,by simp[EK]⟩;have i:xD=[(4,[(6,1),(7,2)]),(2,[]),(3,[(2,3),(10,1)]),(5,[])]:=rfl;have t:xK=[(4,[(6,1),(7,2)]),(2,[]),(3,[(2,3),(10,4)]),(5,[]),(3,[(2,5),(10,1)]),(5,[])]:=rfl;have m:=ADU;have o:=ADV;have d:=ADW;have p:=ADX;have q:=ADY;have r:=AE1;have s:=AE2;rw[<-i]at d;repeat'(first|exact trivial|apply eS rfl|apply AB|refine rX c ?_ ?_|refine rC ?_ ?_<;>intro h<;>try(cases h;done))
 all_goals try simp only[k,m,o,d,p,q,r,s]
 .intro x hx;simp only[DO,oS,AEI]at hx;rcases hx with rfl|rfl
  .exact hl 5
  exact hl 6
 .intro x hx;cases hx
 .exact⟨b.good,b.ty,by decide⟩
 .exact⟨g.good,g.ty,by decide⟩
 .intro x hx;rw[RM.1 hx];exact hl 5
 .exact⟨⟨VG.hu,lD,λ_=>j⟩,e,e,by decide⟩
 .exact⟨a.good,a.srt VG.hu,a.ty,a.pos⟩
 .have hs:∀x∈([[((5:Int),[])],[((5:Int),[])]]:List (List AD)),EV x:=λx hx=>by
   simp only[DO,oS,AEI,or_self]at hx;rw[hx];exact Xi (hl 5).1
  exact⟨λ_=>⟨b.small,b.small⟩,λ_=>⟨f.small,f.small⟩,λ_=>⟨hs,hs⟩⟩
 have l:UW [[((5:Int),[])],[((5:Int),[])]] [[((5:Int),[])],[((5:Int),[])]]=true:=by decide +kernel
 simp only[Jj,l];exact fI c [.tmp 0]
def GG (h:AG) (l:List (List AD)):Bool:=decide (l.length<=5)&&l.all (Jm h)
def Mv:AZ:={ ins:=[Dn,Ni],pre:=λ_=>True,out:=λ(h,l,_)=>[.p .bool (GG h l)],lend:=true }
attribute [local go_sem] Mv
theorem pW:Af Tryz.prog 46 Mv:=by
 refine fK [0,1,2,4,5,8,12,21] Tryz.func46 Tryz.ntmps46 (AF A59 AH) ?_;rintro w0 O0 ⟨h,l,u⟩ c - -;simp only[Mv,AM];have e:(h.1,h.2)=h:=rfl;repeat'(first|exact trivial|apply eS rfl|apply AB|refine rX c ?_ ?_|refine rC ?_ ?_<;>intro a<;>try(cases a;done))
 .have d:GG h l=false:=by
   unfold GG;rw[AEK (by have g:(5:Int)<(List.length l:Int):=a;omega)];rfl
  exact fI c [.tmp 4] (by rw[d];exact eR)
 have f:(List.length l:Int)<=5:=a;have d:GG h l=List.all (l:List (List AD)) (Jm h):=by
  unfold GG;rw[AEF (by omega),AF8]
 rw[d];refine AK (ι:={k:Nat//k<=List.length l/\List.all (List.take k (l:List (List AD))) (Jm h)=true}) (λk=>⟨[(1,.p Ni l),(2,.bp 2 [] 0),(5,.p (.int .i64) (k.1:Int))],[(2,.box 31 true [.p lF h.1,.p rE h.2])]⟩) (λk=>List.length l-k.1) ⟨0,NO _,rfl⟩ (AC [(2,.nm 2)] rfl rfl ?_ ?_) (λk=>?_)
 .first|exact eN|refine eM ?_
 .first|exact eN|refine eM ?_
 obtain⟨k,hk,ha⟩:=k;simp only;repeat'(first|exact trivial|apply eS rfl|apply AB|refine rX c ?_ ?_|refine rC ?_ ?_<;>intro a<;>try(cases a;done))
 all_goals try simp only[e]at *
 .exact a
 .have b:k<List.length l:=IN.1 (by assumption);have hf:List.all (l:List (List AD)) (Jm h)=false:=by
   rw[AEA];refine⟨_,AE (l:List (List AD)) [] b,?_⟩;rw[show Jm h (List.getD l k [])=false from a];simp
  exact fI c [.tmp 4] (by rw[hf];exact eR)
 .omega
 .have b:k<List.length l:=IN.1 (by assumption);refine⟨⟨k+1,b,by rw[Au (l:List (List AD)) [] b,AEB,ha,ADS,a];rfl⟩,by simp only;omega,AC [(2,.nm 2)] rfl rfl ?_ ?_⟩
  .first|exact eN|refine eM ?_
  first|exact eN|refine eM ?_
 have b:List.take k (l:List (List AD))=l:=At (RJ.1 a);rw[b]at ha;exact fI c [.tmp 4] (by rw[ha];exact eR)
end
section
attribute [local go_sem] Zx Mv Z1 Su kV Xt IV
theorem Z2:∀ {l:List (List AD)} {m:Int},(∀x∈l,x.length<=100)->m+101*(l.length:Int)<=4096->E1 l m=true
 | [],_,_,_=>rfl
 | x :: l,m,hl,h=>by
  have hx:=hl x (by simp);rw[No]at h;unfold E1;rw[As (by omega)];exact Z2 (λy a=>hl y (IF _ a)) (by omega)
theorem Z3 {h:AG} (hh:H11 h) {l:List (List AD)} (e:GG h l=true):l.length<=5/\∀x∈l,VF h x/\x.length<=12:=by
 unfold GG at e;rw[An,Do,ON]at e;exact⟨e.1,λx hx=>A4y hh.b1 hh.hu.ft (e.2 x hx)⟩
theorem X8 {h:AG} (hu:HU h) {x:List AD} (v:VF h x):EK x:=λy a=>(v.srt hu y a).2
end
section
variable {h:AG} {w:LW} {Q R:List AD} {ψ:Int->Int} {C:Int->Prop} (hi:Iso Q R ψ C) (gQ:AN Q) (h0:∀i,C i->0<=ψ i) (hty:∀i,C i->(Cz R (ψ i)).1=(Cz Q i).1)
include hi gQ h0
include hty
end
abbrev mkR (h:AG) (t:Int) (l:List (List AD)):List AD:=dN (AR h).cons (AR h).first (AR h).rest t l
theorem k8.cw {h:AG} (lo:k8 h):CW h (AR h).cons (AR h).first (AR h).rest:=by
 have a:=OJ lo.lw;have b:=lo.rng;exact⟨⟨a.2.1,b.1.2.1⟩,lo.first_rest,⟨a.1.1,b.2.1⟩,⟨a.1.2,b.2.2.1⟩⟩
theorem k8.nul {h:AG} (lo:k8 h):0<=(AR h).null/\(AR h).null<(h.1.length:Int):=⟨(OJ lo.lw).2.2.1,lo.rng.1.2.2.1⟩
theorem k8.lis {h:AG} (lo:k8 h):0<=(AR h).list/\(AR h).list<(h.1.length:Int):=⟨(OJ lo.lw).2.2.2.1,lo.rng.1.1⟩
theorem X9 {h:AG} (lo:k8 h) {t:Int} (a:0<=t/\t<(h.1.length:Int)) {l:List (List AD)} (hx:∀x∈l,VF h x/\x.length<=100) (hl:l.length<=40):VF h (mkR h t l)/\(mkR h t l).length<=101*l.length+1:=Xx lo.cw a hx hl
theorem A5b (h:AG) (t:Int) (l:List (List AD)):C0 (AR h).cons (AR h).first (AR h).rest t l=mkR h t l:=Xw _ _ _ _ l
section
variable {h:AG} (lo:k8 h) (hu:HU h) {l:List (List AD)} (hx:∀x∈l,VF h x/\x.length<=100) (hl:l.length<=30)
include lo hu hx hl
theorem VH {t:Int} (a:0<=t/\t<(h.1.length:Int)):Cd h t l=(mkR h t l,0):=by
 have v:=X9 lo a hx (by omega);unfold Cd;rw[BY lo.lw,Z2 (λx q=>(hx x q).2) (by omega),BY rfl,A5b];exact A4C hu v.1 (by omega)
omit lo hu hx hl
include lo hu hx hl
end
section
attribute [local go_sem] Mq
theorem lE {h:AG}:∀ {l k:List (List AD)},k.length<l.length->DA h l k=([],false)
 | [],_,q=>absurd q (Nat.not_lt_zero _)
 | _ :: _,[],_=>rfl
 | x :: l,y :: k,q=>by
  have a:=lE (h:=h) (l:=l) (k:=k) (by simpa using q);unfold DA;rw[a,As (by simp)]
theorem Z4 {h:AG}:∀ {l k:List (List AD)},(DA h l k).2=true->(DA h l k).1.length=k.length
 | [],[],_=>rfl
 | [],_ :: _,_=>rfl
 | _ :: _,[],q=>by cases q
 | x :: l,y :: k,q=>by
  unfold DA at q ⊢;split at q
  .rename_i g;rw[BY g];have a:=Z4 g.2;simp only[No,a]
  cases q
theorem zN {h:AG} {l k:List (List AD)} (q:¬(DA h l k).2=true):DA h l k=([],false):=by
 cases l with
 | nil=>cases k<;>exact absurd rfl q
 | cons x l =>
  cases k with
  | nil=>rfl
  | cons y k =>
   unfold DA at q ⊢;split
   .rename_i g;rw[BY g]at q;exact absurd rfl q
   rfl
theorem A1E {h:AG} (l k:List (List AD)):DA h l k=if (DA h l k).2=true then ([]++(DA h l k).1,true) else ([],false):=by
 by_cases q:(DA h l k).2=true
 .rw[BY q];exact Prod.ext rfl q
 rw[As q];exact zN q
theorem A1F {h:AG} {l k:List (List AD)} {i:Nat} (hl:i<l.length) (hk:i<k.length):DA h (l.drop i) (k.drop i)=if (BK h (l.getD i []) (k.getD i [])).2=true/\(DA h (l.drop (i+1)) (k.drop (i+1))).2=true then ((BK h (l.getD i []) (k.getD i [])).1 :: (DA h (l.drop (i+1)) (k.drop (i+1))).1,true) else ([],false):=by
 rw[A4k [] hl,A4k [] hk];rfl
noncomputable def dT:AZ:={ ins:=[Dn,Ni,Ni],pre:=λ(h,l,k,_)=>HU h/\(∀x∈(l:List (List AD)),VF h x/\x.length<=30)/\(∀x∈(k:List (List AD)),VF h x/\x.length<=30)/\List.length l<=100/\List.length k<=100,out:=λ(h,l,k,_)=>[.p Ni (DA h l k).1,.p .bool (DA h l k).2] }
attribute [local go_sem] dT
theorem A5c:Af Tryz.prog 61 dT:=by
 refine fK [0,1,2,3,6,7,8,9,10,11,16,23,40] Tryz.func61 Tryz.ntmps61 (AF kJ AH) ?_;rintro w0 O0 ⟨h,l,k,u⟩ a-⟨hu,hx,n,v,lk⟩;have hx:∀x∈(l:List (List AD)),VF h x/\x.length<=30:=hx;have n:∀x∈(k:List (List AD)),VF h x/\x.length<=30:=n;have v:List.length l<=100:=v;have lk:List.length k<=100:=lk;have o:(h.1,h.2)=h:=rfl;simp only[dT,AM];repeat'(first|exact trivial|apply eS rfl|apply AB|refine rX a ?_ ?_|refine rC ?_ ?_<;>intro b<;>try(cases b;done))
 .have m:DA h l k=([],false):=lE (IN.1 b);exact fI a [.tmp 6,.tmp 7] (by rw[m];exact eR)
 .simp only[AO];omega
 have f:List.length l<=List.length k:=RJ.1 b;refine AK (ι:={s:Nat×List (List AD)//s.1<=List.length l/\s.2.length=s.1/\DA h l k=if (DA h (l.drop s.1) (k.drop s.1)).2=true then (s.2++(DA h (l.drop s.1) (k.drop s.1)).1,true) else ([],false)}) (λs=>⟨[(1,.p Ni l),(2,.p Ni k),(3,.bp 3 [] 0),(8,.sr 17 DE 0 (List.length k)),(9,.p (.int .i64) (s.1.1:Int))],[(3,.box 31 true [.p lF h.1,.p rE h.2]),(17,.arr 25 DE (s.1.2++k.drop s.1.1))]⟩) (λs=>List.length l-s.1.1) ⟨(0,[]),NO _,rfl,A1E l k⟩ (AC [(3,.nm 3),(17,.nm 17)] rfl rfl ?_ ?_) (λs=>?_)
 .first|exact eN|refine eM ?_
 .first|exact eN|refine eM ?_
 obtain⟨⟨i,D⟩,hi,j,e⟩:=s;simp only at hi j e ⊢;repeat'(first|exact trivial|apply eS rfl|apply AB|refine rP a ?_ ?_|fail)
 refine rC (λb=>?_) λb=>?_
 .have c:i<List.length l:=IN.1 b;have A:=hx _ (AE l [] c);have B:=n _ (AE k [] (bY c f));repeat'(first|exact trivial|apply eS rfl|apply AB|refine rP a ?_ ?_|fail)
  refine CA drawsAny a 15 [([0,1,2,3,4,5,6,7,8,9,10,11,13],14)] [12] (by kernel_rfl) (KX ?_ ?_)
  .exact⟨b,IN.2 (bY c f),hu,A.1,B.1,by omega⟩
  refine NJ a [] ?_ ?_
  .trivial
  refine Re a ?_ ?_ ?_
  .trivial
  .trivial
  have t:=A1F (h:=h) c (bY c f);have o:(h.1,h.2)=h:=rfl;simp only[o];generalize BK h (List.getD l i []) (List.getD k i [])=d at *;rw[t]at e;clear t;repeat'(first|exact trivial|apply eS rfl|apply AB|refine rP a ?_ ?_|fail)
  refine rC (λg=>?_) λg=>?_
  .have g:d.2=false:=by simpa using g
   rw[As (by rw[As (λq=>by rw[g]at q;cases q.1)];simp)]at e;repeat'(first|exact trivial|apply eS rfl|apply AB|refine rX a ?_ ?_|refine rC ?_ ?_<;>intro b<;>try(cases b;done))
   exact fI a [.tmp 6,.tmp 7] (by rw[e];exact eR)
  have g:d.2=true:=by simpa using g
  have r:i<List.length k:=bY c f;have y:(D++List.drop i k).set i d.1=(D++[d.1])++List.drop (i+1) k:=by
   rw[A4k [] r,AEs (h:=by omega),j,AE5];simp
  have w:DA h l k=if (DA h (List.drop (i+1) l) (List.drop (i+1) k)).2=true then ((D++[d.1])++(DA h (List.drop (i+1) l) (List.drop (i+1) k)).1,true) else ([],false):=by
   rw[e];by_cases q:(DA h (List.drop (i+1) l) (List.drop (i+1) k)).2=true
   .simp[g,q]
   simp[q]
  repeat'(first|exact trivial|apply eS rfl|apply AB|refine rX a ?_ ?_|refine rC ?_ ?_<;>intro b<;>try(cases b;done))
  .exact IN.2 r
  .omega
  refine⟨⟨(i+1,D++[d.1]),c,by simp[j],w⟩,by simp only;omega,AC [(3,.nm 3),(17,.nm 17)] rfl rfl ?_ ?_⟩
  .first|exact eN|refine eM ?_
   exact y
  first|exact eN|refine eM ?_
 have c:i=List.length l:=ADO hi (RJ.1 b);have m:DA h l k=(D++List.drop i k,true):=by
  rw[e,c,AEh];have:DA h [] (List.drop (List.length l) k)=(List.drop (List.length l) k,true):=by cases List.drop (List.length l) k<;>rfl
  rw[this,BY rfl]
 repeat'(first|exact trivial|apply eS rfl|apply AB|refine rP a ?_ ?_|fail)
 refine F0 [17] ?_;have z:List.take (List.length k) (D++List.drop i k)=D++List.drop i k:=At (by rw[By,S0];omega);exact fI a [.tmp 6,.tmp 7] (by rw[m,z];exact eR)
end
section
attribute [local go_sem] Zx dR Q8 KT Mt dS A4P Z1
end
section
attribute [local go_sem] Zx Mv HF Tz Sm Su kV dT Mq IV Z1 cs4
theorem A1G {h:AG} {l:List (List AD)} (hx:∀x∈l,VF h x/\x.length<=30):∀x∈l,VF h x/\x.length<=100:=λx q=>⟨(hx x q).1,RG (hx x q).2 (by decide)⟩
theorem zO {h:AG}:∀ {l k:List (List AD)},(∀x∈l,VF h x/\x.length<=12)->(∀x∈k,VF h x/\x.length<=12)->∀x∈(DA h l k).1,VF h x/\x.length<=24
 | [],k,_,hk,x,hx=>by
  have e:DA h [] k=(k,true):=by cases k<;>rfl
  rw[e]at hx;exact⟨(hk x hx).1,RG (hk x hx).2 (by decide)⟩
 | _ :: _,[],_,_,x,hx=>by cases hx
 | y :: l,z :: k,hl,hk,x,hx=>by
  unfold DA at hx;split at hx
  .rename_i g;rcases DO.1 hx with rfl|hx
   .have a:=HE g.1;have:=a.len;have b:=(hl y AAj).2;have c:=(hk z AAj).2;exact⟨a.vf,by omega⟩
   exact zO (λw q=>hl w (IF _ q)) (λw q=>hk w (IF _ q)) x hx
  cases hx
def pY:AZ:={ ins:=[E8,Ni,Ni],pre:=λ_=>True,out:=λ_=>[.p .bool true] }
attribute [local go_sem] pY
theorem A5d:Af Tryz.prog 15 pY:=by
 refine fK [0,1,2,6,7,9,10,12,14,16,17,18,20,21,22,23,40,51,112] Tryz.func15 Tryz.ntmps15 (AF zL (AF pW (AF A8D (AF pL (AF yZ (AF A4s (AF kU (AF A8n (AF A5c (AF kJ (AF Qk AH))))))))))) ?_;rintro w0 O0 ⟨d,l,k,u⟩ f - -;simp only[pY,AM];have hh:=ADs d;have hs:=A51 d;have hn:pD (GN d):=by
  have key:∀d:List AJ,pD (A1 d).1:=λd t N=>(pB d).nrm _ (GO.2 ⟨t,N,rfl⟩);unfold GN;split<;>exact key _
 have r:=λq=>Z3 hh (l:=l) q;have s:=λq=>Z3 hh (l:=k) q;generalize H:GN d=h at *;obtain⟨U,Q,R,V,-⟩:=cZ h;repeat'(first|exact trivial|apply eS rfl|apply AB|refine rX f ?_ ?_|refine rC ?_ ?_<;>intro n<;>try(cases n;done))
 all_goals have K:(h.1,h.2)=h:=rfl
 all_goals try simp only[H,K,Q,R]at *
 .exact λ_=>hh.hu.ok
 .exact fI f [.tmp 6]
 all_goals
  have G:(GG h l=true/\GG h k=true)/\Ea h=true:=by assumption
  obtain⟨⟨w,y⟩,O⟩:=G;have lo:k8 h:=⟨O,hs⟩
 .exact⟨⟨lo.cw.c.1,lo.cw.c.2⟩,⟨lo.nul.1,lo.nul.2⟩,λx hx=>RG (hh.hu.ok.1.wid x.2.1 (GO.2 ⟨x,hx,rfl⟩)) (by have:=hh.b1;omega)⟩
 .exact fI f [.tmp 6]
 all_goals
  have L:(Dl h (AR h).cons (AR h).null).2=false:=by assumption
  have o:(Ba h (AR h).cons (AR h).null).2=false:=by
   cases J:(Ba h (AR h).cons (AR h).null).2 with
   | false=>rfl
   | true =>
    obtain⟨A,B,C,D⟩:=(IU hh.hu.ok lo.cw.c.1 lo.cw.c.2 lo.nul.1 lo.nul.2).1 J;have:=((A1q hh.hu.ok hn lo.cw.c.1 lo.cw.c.2 lo.nul.1 lo.nul.2).2 _ A B C D).1;rw[L]at this;cases this
  have hx:=(r w).2;have b:=(s y).2;have W:List.length l<=5:=(r w).1;have T:List.length k<=5:=(s y).1;have v:∀x∈(l:List (List AD)),AN x/\EK x:=λx q=>⟨(hx x q).1.good,X8 hh.hu (hx x q).1⟩;have P:∀x∈(k:List (List AD)),AN x/\EK x:=λx q=>⟨(b x q).1.good,X8 hh.hu (b x q).1⟩;have a:∀x∈(l:List (List AD)),VF h x/\List.length x<=30:=λx q=>⟨(hx x q).1,RG (hx x q).2 (by decide)⟩;have e:∀x∈(k:List (List AD)),VF h x/\List.length x<=30:=λx q=>⟨(b x q).1,RG (b x q).2 (by decide)⟩
 .exact v
 .exact P
 .exact v
 .exact⟨hh.hu,a,e,by omega,by omega⟩
 all_goals
  have g:=zO (h:=h) (l:=l) (k:=k) hx b
 .exact λx q=>⟨(g x q).1.good,X8 hh.hu (g x q).1⟩
 all_goals
  have e1:=VH lo hh.hu (A1G a) (by omega:List.length l<=30) lo.nul;have e2:=VH lo hh.hu (A1G e) (by omega:List.length k<=30) lo.nul;have E:=VH lo hh.hu (A1G a) (by omega:List.length l<=30) lo.lis;have v1:=X9 lo lo.nul (A1G a) (by omega:List.length l<=40);have z:=X9 lo lo.nul (A1G e) (by omega:List.length k<=40);have S:=X9 lo lo.lis (A1G a) (by omega:List.length l<=40);have I:(DA h l k).1.length<=30:=by
   by_cases q:(DA h l k).2=true
   .rw[Z4 q];omega
   rw[zN q];exact NO _
  have p:∀x∈(DA h l k).1,VF h x/\x.length<=100:=λx q=>⟨(g x q).1,RG (g x q).2 (by decide)⟩;have F:=VH lo hh.hu p I lo.nul;have v4:=X9 lo lo.nul p (by omega:(DA h l k).1.length<=40);have c1:BK h (mkR h (AR h).null l) (mkR h (AR h).null k)=_:=Mu hh.hu lo.cw lo.nul lo.nul o (Fe h _) (.inl rfl) l k a e (by omega) (by omega);have c2:BK h (mkR h (AR h).list l) (mkR h (AR h).null k)=_:=Mu hh.hu lo.cw lo.lis lo.nul o lo.sub.2 (.inr lo.sub.1) l k a e (by omega) (by omega);have M:=lo.ne;simp only[e1,e2,E,F]at *
 .exact⟨hh.hu,v1.1,z.1,by omega⟩
 .exact⟨hh.hu,S.1,z.1,by omega⟩
 all_goals
  simp only[c1,c2,M,false_imp_iff,true_imp_iff,and_true]at *
 all_goals
  have m:EV (mkR h (AR h).null (DA h l k).1):=v4.1.small;have h0:EV ([]:List AD):=⟨NO _,λx hx=>by cases hx⟩
 .exfalso;by_cases i:(DA h l k).2=true<;>by_cases j:List.length l=List.length k<;>simp[i,j]at n;all_goals omega
 .refine⟨λ_=>⟨?_,m⟩,λ_=>⟨?_,m⟩⟩<;>split<;>first|exact m|exact h0
 by_cases i:(DA h l k).2=true<;>by_cases j:List.length l=List.length k<;>simp only[i,j,and_true,and_false,true_and,ADv,ADz,Jj]<;>exact fI f [.tmp 6] (by simp;exact eR)
end
end Go.Proofs.YtapkhdkbkodbjaaGreat.Fw
