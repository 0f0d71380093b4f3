/- Contracts of the program's and the reference's functions, and the plain laws of what they compute: U15 O13 U16 O14 C36 C38 O15 O16 O17. -/
import Derived.Test.YtapkhdkbkodbjaaGreatBYC
import Derived.Test.YtapkhdkbkodbjaaGreatBYA
import Derived.Test.YtapkhdkbkodbjaaGreatBYB
set_option linter.unusedVariables false
set_option linter.unusedSimpArgs false
namespace Go.Proofs.YtapkhdkbkodbjaaGreat.Fw
open Go
attribute [local irreducible] Ev
attribute [local go_sem] gZ AM List.toList_toArray Bn evG evK Y3 Ee KQ Gf Fi Hj SY Ni C0 DH Mn CV Cv frz mV Ga DG A2 FY BX AV.frz AV.frzs AV.drp AV.drps AV.names AV.namess aq Gc LB KG TT JA BZ Bd JY EI Ib EJ Id Ic Ie Vk Pa Gu KI Fb EB Vl RI qUn JZ Ig LU FB Db JD KJ EK TV DL EL Ey RJ Ih Ng FL Nf Pb RK LV JE KK EM Dc HA De Hi DM Ez DN EO Fd CV Ce PY RH OC GW JC JB KH Pe SW Nh La LY KN SX LZ KO b7 Pg Pf AV.trn AV.trns Er Cz Obj.trn Jl iO Dd ER EC EP CY E0 Ar lk HG Gb Hf bin mU Y7 mX SU zf1 zfs pfs AV.cells CA JW PZ KM Pd CS Nc Ty.cell1 Ia Es Da F5 Mm Eq KF LT RE FK Gt NU TR Vj LS KD b5 f8 ST Hd Cf G9 RV.flat Ty.flat Ty.size St.add upd del Ba Value.oneCell' LP Ty.dflt IZ Py Ht QH List.take_succ_cons List.take_zero List.length_cons iD iE QG Ji Lp HX Jj A2s Fj Mx My Mz M0 RW RY M2 Io WC Option.map_some Option.map_none Option.bind_some Option.getD_some Option.getD_none Option.isNone_none Option.isNone_some Bool.and_true Bool.true_and Bool.and_false Bool.false_and Bool.not_true Bool.not_false if_true if_false List.length_cons List.length_nil and_true true_and and_self List.all_cons List.all_nil List.append_nil List.nil_append List.cons_append List.getElem?_cons_zero List.getElem?_cons_succ List.getElem?_nil List.map_cons List.map_nil List.set_cons_zero List.set_cons_succ List.isEmpty_nil List.isEmpty_cons decide_true decide_false beq_self_eq_true bne_self_eq_false Nat.zero_add Nat.add_zero Nat.sub_zero Int.toNat_natCast Int.toNat_zero Int.toNat_one List.take_length List.length_append List.length_singleton true_or or_true or_self false_or or_false Ty.agg.injEq Ty.slice.injEq Ty.prod.injEq Ty.int.injEq Option.some.injEq beq_iff_eq Ln evMG evMQ opM Hv Ll B0 Jh Gv P6 Jf Hu Ip KZ LG OP Nn OQ TY Lm QB QC Jg Aa Am Op.operands Call.operands List.filterMap_cons List.filterMap_nil List.append_eq Bool.cond_false_right Bool.cond_true_left cond_true cond_false implies_true decide_eq_true_eq beq_true beq_false Bool.or_true Bool.or_false Bool.true_or Bool.false_or Option.isSome_some Array.empty_append List.append_toArray FZ Mo E1 Hg b6 Pc Fc GD GC Ii Hh KL LX Y8 mW He inB KP Fe GX Ja Aq iG List.drop_zero DT Hw cZ CK Ke CH AV.fgt AV.fgts Obj.fgt Av Aj Aa DB IY BL Gg List.any_cons List.any_nil nX iH c5 iI Ls Rd qs List.flatMap_cons List.flatMap_nil List.cons_append tn c8 HB List.take_succ_cons List.drop_succ_cons dC GJ A7 sE M7 B4 CJ Ae E4 KY Bg E3 Dg Hr Im GH Hs
attribute [local go_sem] ty1 ty2 ty3 ty4 ty5 ty9 A5Y A5Z A60 A61 A62 A63 A64 A65 A66 A67 A68 A69 A6a A6b A6c A6d A6e A6f A6g A6h A6i A6j A6k A6l A6m A6n A6o A6p A6q A6r A6s A6t A6u A6v A6w A6x A6y A6z A6A A6B A6C A6D A6E A6F A6G A6H A6I A6J A6K A6L A6M A6N A6O A6P A6Q A6R A6S A6T A6U A6V A6W A6X A6Y A6Z A70 A71 A72 A73 A74 A75 A76 sM sO sP sQ sR sS sT sU sV sW sY sZ s5 s6 s7 s8 s9 tA tB tC tD tE tF tG tH tI tJ tK tL tM tP tQ tR tS tT tU tV tW tY tZ t4 t5 t6 t7 t8 t9 uA uB uC uD uE uF uG uH uI uJ uK uL uM uN uP uQ uR uS uT uU uV uW uX uY uZ u3 u4 u5 u6 u7 u9 vA vB vC vE vF vG vH vI vJ vL vM vO vP vQ vS vU vV vW vX vY vZ v4 v5 v6 v7 v8 v9 wA wB wC wD wF wG wH wI wJ wK wL wM wN wP wQ wR wS wT wU wV wW wX wY wZ w5 w6 w9 xA xB xC xE xF xG xH xI xJ xL xM xN xO xP xQ xR xS xT xV xW xX xY xZ x5 x6 x7 x8 x9 yA yB yC yD yE yF yG
set_option maxRecDepth 100000
set_option maxHeartbeats 4000000
section
attribute [local go_sem] fF fP
theorem mK (N g:List AD):Dp N++CQ g g.length=Dp (Ao N g):=by
 unfold CQ Dp Ao;rw[Tl,UH,Uf];rfl
theorem qU (N g:List AD):Fy N++EF N.length g g.length=Fy (Ao N g):=by
 unfold EF Fy Ao;rw[Tl,UH,Uf];rfl
theorem YO (p:List Int):BQ p [((0:Int),[])]=Cb p:=rfl
theorem A51 {h:AG} (l:X0 h) {f:List AD} {p q:List Int} (hf:VF h f) (hp:p.length<=1000) (j:q.length<=1000) (d:f.length<=10000) {P:List (Int×Int)} (c:∀r∈P,r∈eqP f p q) (i:∀X v,CP h X->¬eL h (eqN f p q) P X v):SG h f p q=([],false):=by
 refine bA λX b m h1 n e g=>?_;obtain⟨v,a,-⟩:=fE l hf hp j d b h1 e g;exact i X v b.ty ⟨a.rng,a.ty,a.arc,λr k=>a.eq r (c r k)⟩
noncomputable def A8l:AZ:={ ins:=[ED,Cy,FA,FA],pre:=λ(h,f,p,q,_)=>HU h/\X0 h/\VF h f/\FtP h p/\FtP h q/\List.length p<=1000/\List.length q<=1000/\List.length f<=1000,out:=λ(h,f,p,q,_)=>[.p Cy (SG h f p q).1,.p .bool (SG h f p q).2] }
attribute [local go_sem] A8l
theorem A9X:Ab Tryz.prog 99 A8l:=by
  refine fK [0,1,2,3,4,5,8,9,10,11,12,13,14,69] Tryz.func99 Tryz.ntmps99 (AE A4y (AE A4Q AH)) ?_;rintro w0 O0 ⟨h,f,p,q,u⟩ c-⟨hu,Y,vf,Q,R,hp,ax,aj⟩;simp only[A8l,AM];have S:AN ([((0:Int),[])]:List AD):=⟨by simp,by simp⟩;have E:p.length<=1000:=hp;have F:q.length<=1000:=ax;have bi:f.length<=1000:=aj;have T:=FH E;have U:=FH F;have aa:=CB p;have ba:=CB q;have V:0<h.1.length:=by
    have:=vf.ty _ (AF f (0,[]) vf.pos);omega
  have pos:=vf.pos;have ah:=fD f p q;have az:=CU f (Cb p);rw[aa]at az;have ag:=GT vf.good T (by omega);have af:=GT ag U (by omega);have be:=MV (MV vf.ty (Qs V p)) (Qs V q);have ab:=Jz (Jz vf.str (NK p)) (NK q);have W:∀g:List AD,(∀x∈g,∀a∈x.2,0<=a.1/\a.1<(h.2.length:Int))->kZ g:=λg al x n a ha=>by
    have h1:=al x n a ha;have bf:=hu.ft;omega
  have O:=MW (MW (vf.ft64 hu) (W _ (J0 Q))) (W _ (J0 R));have ap:=fB af be ab;have ak:=qG (N:=eqN f p q) λx n=>qF (ab x n) (O x n);have X:=λP ty ar am C=>A4u Y vf Q R E F (by omega) (P:=P) (ty:=ty) (ar:=ar) am C;have D:=λP ai=>A51 Y vf E F (by omega) (P:=P) ai;have aw:=YO p;have ay:=YO q;repeat'(first|exact trivial|apply eS rfl|apply AB|refine rX c ?_ ?_|refine rC ?_ ?_<;>intro d<;>try(cases d;done))
  . exact⟨⟨E,S⟩,F,S⟩
  rw[aw,ay]
  unfold eqN at ah ak X D;generalize bg:Cb p=A at *;generalize bh:Cb q=B at *;have L:CQ f f.length++CQ A A.length=Dp (Ao f A):=qE f A;have J:EF 0 f f.length++EF f.length A A.length=Fy (Ao f A):=A1v f A;have H:Bc 0 f.length++Bc f.length A.length=Bc 0 (Ao f A).length:=by rw[aX,CU]
  have M:=mK (Ao f A) B;have K:=qU (Ao f A) B;have I:Bc 0 (Ao f A).length++Bc (Ao f A).length B.length=Bc 0 (Ao (Ao f A) B).length:=by rw[aX,<-CU]
  refine cP 3 c ?_ ?_
  . trivial
  refine rM c (p8 h [] [] [] f vf.good (by simp) rfl rfl) [(1,.nm 23),(2,.nil),(3,.nil),(4,.nil)] [] ?_ ?_ ?_
  . first|exact eN|refine eM ?_
  . simp only[Y5]
    first|exact eN|refine eM ?_
  rintro _ _ ⟨rfl,rfl⟩
  refine ⟨[(23, .nm 1), (102, .nm 2), (103, .nm 3), (104, .nm 4)], .raw (.tuple #[]),
          [(23,.box 111 true [.p ED h,.sr 102 T3 0 (Bc 0 f.length).length,.sr 103 T3 0 (CQ f f.length).length,.sr 104 DC 0 (EF 0 f f.length).length]),(102,.arr 3 T3 (Bc 0 f.length)),(103,.arr 3 T3 (CQ f f.length)),(104,.arr 91 DC (EF 0 f f.length))]
    ,rfl,rfl,?_,?_,rfl,rfl,Bh ?_⟩
  . simp only[Y5]
    first|exact eN|refine eM ?_
  . first|exact eN|refine eM ?_
  have la:(Bc 0 f.length).length=f.length:=Hb 0 f.length
  have lt:(CQ f f.length).length=f.length:=by unfold CQ;rw[OF,Tl]
  have bb:(EF 0 f f.length).length=f.length:=by unfold EF;rw[OF,Tl]
  repeat'(first|exact trivial|apply eS rfl|apply AB|refine rX c ?_ ?_|refine rC ?_ ?_<;>intro d<;>try(cases d;done))
  refine cP 3 c ?_ ?_
  . trivial
  refine rM c (p8 h (Bc 0 f.length) (CQ f f.length) (EF 0 f f.length) A T (by omega) (by omega) (by omega)) [(1,.nm 23),(2,.nm 102),(3,.nm 103),(4,.nm 104)] [102,103,104] ?_ ?_ ?_
  . first|exact eN|refine eM ?_
  . simp only[Y5]
    first|exact eN|refine eM ?_
  rintro _ _ ⟨rfl,rfl⟩
  rw[la,H,L,J];have Z:(Bc 0 (Ao f A).length).length=(Ao f A).length:=Hb 0 _;have bd:(Dp (Ao f A)).length=(Ao f A).length:=by unfold Dp;rw[OF]
  have bc:(Fy (Ao f A)).length=(Ao f A).length:=by unfold Fy;rw[OF]
  refine⟨[(23,.nm 1),(102,.nm 2),(103,.nm 3),(104,.nm 4)],.raw (.tuple #[]),
    [(23,.box 111 true [.p ED h,.sr 102 T3 0 (Bc 0 (Ao f A).length).length,.sr 103 T3 0 (Dp (Ao f A)).length,.sr 104 DC 0 (Fy (Ao f A)).length]),(102,.arr 3 T3 (Bc 0 (Ao f A).length)),(103,.arr 3 T3 (Dp (Ao f A))),(104,.arr 91 DC (Fy (Ao f A)))]
    ,rfl,rfl,?_,?_,rfl,rfl,Bh ?_⟩
  . simp only[Y5]
    first|exact eN|refine eM ?_
  . first|exact eN|refine eM ?_
  repeat'(first|exact trivial|apply eS rfl|apply AB|refine rX c ?_ ?_|refine rC ?_ ?_<;>intro d<;>try(cases d;done))
  refine cP 3 c ?_ ?_
  . trivial
  . refine rM c (p8 h (Bc 0 (Ao f A).length) (Dp (Ao f A)) (Fy (Ao f A)) B U (by omega) (by omega) (by omega)) [(1,.nm 23),(2,.nm 102),(3,.nm 103),(4,.nm 104)] [102,103,104] ?_ ?_ ?_
    . first|exact eN|refine eM ?_
    . simp only[Y5]
      first|exact eN|refine eM ?_
    . rintro _ _ ⟨rfl,rfl⟩
      rw[Z,I,M,K];have ad:(((Ao f A).length:Nat):Int)=((f.length+(p.length+1):Nat):Int):=by omega
      refine⟨[(23,.nm 1),(102,.nm 2),(103,.nm 3),(104,.nm 4)],.raw (.tuple #[]),
  [(23, .box 111 true [.p ED h, .sr 102 T3 0 (Bc 0 (Ao (Ao f A) B).length).length, .sr 103 T3 0 (Dp (Ao (Ao f A) B)).length, .sr 104 DC 0 (Fy (Ao (Ao f A) B)).length]), (102, .arr 3 T3 (Bc 0 (Ao (Ao f A) B).length)), (103, .arr 3 T3 (Dp (Ao (Ao f A) B))), (104, .arr 91 DC (Fy (Ao (Ao f A) B)))]
        ,rfl,rfl,?_,?_,rfl,rfl,Bh ?_⟩
      . simp only[Y5]
        first|exact eN|refine eM ?_
      . first|exact eN|refine eM ?_
      clear la lt bb Z bd bc L J H M K I
      rw[ad];have bj:A.length=p.length+1:=aa;have bk:B.length=q.length+1:=ba;generalize Ao (Ao f A) B=z at *;generalize Bc 0 z.length=p0 at *;generalize Dp z=bn at *;generalize Fy z=bm at *;have bl:0<z.length:=by omega
      repeat'(first|exact trivial|apply eS rfl|apply AB|refine rX c ?_ ?_|refine rC ?_ ?_<;>intro d<;>try(cases d;done))
      refine evP c 2 ?_ ?_
      . trivial
      refine clG c (eU h hu.ok ap (a:=0) (b:=(f.length:Int)) (by omega) (by omega) (by omega) (by omega)) [(101,.nm 23),(102,.nm 102),(103,.nm 103),(104,.nm 104)] [102,103,104] ?_ ?_ ?_
      . first|exact eN|refine eM ?_
      . simp only[aU]
        first|exact eN|refine eM ?_
      rintro res G (⟨rfl,o,w,t,rfl,an⟩|⟨rfl,⟨o,w,t,rfl⟩,aq⟩)
      . refine⟨[(23,.nm 101),(102,.nm 102),(103,.nm 103),(104,.nm 104)],.p .bool true,[(23, .box 111 true [.p ED h, .sr 102 T3 0 o.length, .sr 103 T3 0 w.length, .sr 104 DC 0 t.length]), (102, .arr 3 T3 o), (103, .arr 3 T3 w), (104, .arr 91 DC t)],rfl,rfl,?_,?_,rfl,rfl,?_⟩
        . simp only[aU]
          first|exact eN|refine eM ?_
        . first|exact eN|refine eM ?_
        refine rN 5 c ?_ ?_
        . trivial
        refine clG c (eU h hu.ok an (a:=(f.length:Int)) (b:=((f.length+(p.length+1):Nat):Int)) (by omega) (by omega) (by omega) (by omega)) [(101,.nm 23),(102,.nm 102),(103,.nm 103),(104,.nm 104)] [102,103,104] ?_ ?_ ?_
        . first|exact eN|refine eM ?_
        . simp only[aU]
          first|exact eN|refine eM ?_
        rintro res G (⟨rfl,s,y,v,rfl,ao⟩|⟨rfl,⟨s,y,v,rfl⟩,au⟩)
        . refine⟨[(23,.nm 101),(102,.nm 102),(103,.nm 103),(104,.nm 104)],.p .bool true,[(23, .box 111 true [.p ED h, .sr 102 T3 0 s.length, .sr 103 T3 0 y.length, .sr 104 DC 0 v.length]), (102, .arr 3 T3 s), (103, .arr 3 T3 y), (104, .arr 91 DC v)],rfl,rfl,?_,?_,rfl,rfl,?_⟩
          . simp only[aU]
            first|exact eN|refine eM ?_
          . first|exact eN|refine eM ?_
          refine rN 12 c ?_ ?_
          . exact eV
          refine clG c (eU h hu.ok ao (a:=(f.length:Int)+(p.length:Int)) (b:=((f.length+(p.length+1):Nat):Int)+(q.length:Int)) (by omega) (by omega) (by omega) (by omega)) [(101,.nm 23),(102,.nm 102),(103,.nm 103),(104,.nm 104)] [102,103,104] ?_ ?_ ?_
          . first|exact eN|refine eM ?_
          . simp only[aU]
            first|exact eN|refine eM ?_
          have ae:[]++[(0,(f.length:Int))]++[((f.length:Int),((f.length+(p.length+1):Nat):Int))]++[((f.length:Int)+(p.length:Int),((f.length+(p.length+1):Nat):Int)+(q.length:Int))]=eqP f p q:=by
            rw[show (f.length:Int)+(p.length:Int)=((f.length+p.length:Nat):Int) by omega,show ((f.length+(p.length+1):Nat):Int)+(q.length:Int)=((f.length+(p.length+1)+q.length:Nat):Int) by omega];rfl
          rw[ae];rintro res G (⟨rfl,i,m,l,rfl,e⟩|⟨rfl,⟨i,m,l,rfl⟩,av⟩)
          . have C:=Xx e (by omega) O
            have j:=a9 hu (X i m l e C);refine⟨[(23,.nm 101),(102,.nm 102),(103,.nm 103),(104,.nm 104)],.p .bool true,[(23, .box 111 true [.p ED h, .sr 102 T3 0 i.length, .sr 103 T3 0 m.length, .sr 104 DC 0 l.length]), (102, .arr 3 T3 i), (103, .arr 3 T3 m), (104, .arr 91 DC l)],rfl,rfl,?_,?_,rfl,rfl,?_⟩
            . simp only[aU]
              first|exact eN|refine eM ?_
            . first|exact eN|refine eM ?_
            refine rL c ?_ ?_
            . trivial
            repeat'(first|exact trivial|apply eS rfl|apply AB|refine rX c ?_ ?_|refine rC ?_ ?_<;>intro d<;>try(cases d;done))
            refine cP 1 c ?_ ?_
            . trivial
            refine rM c (A4l h e.fo C (by rw[e.lt,e.lp]) (by rw[e.la,e.lp]) (λk x n=>by rw[e.lp];exact(e.arr k x n).1) (r:=0) (by omega) (by rw[e.lp];omega)) [(101,.nm 23),(102,.nm 102),(103,.nm 103),(104,.nm 104)] [23,102,103,104] ?_ ?_ ?_
            . first|exact eN|refine eM ?_
            . simp only[aU]
              first|exact eN|refine eM ?_
            rintro _ G rfl
            refine⟨[],.p Cy (AL (quo i m l) (Dx i 0)),[],rfl,rfl,?_,?_,rfl,rfl,?_⟩
            . first|exact eN|refine eM ?_
            . first|exact eN|refine eM ?_
            refine rL c ?_ ?_
            . trivial
            repeat'(first|exact trivial|apply eS rfl|apply AB|refine rX c ?_ ?_|refine rC ?_ ?_<;>intro d<;>try(cases d;done))
            exact fI c [.cell 8 25,.tmp 9] (by rw[j];exact eR)
          . have j:=D (eqP f p q) (λ_ h=>h) av
            refine⟨[(23,.nm 101),(102,.nm 102),(103,.nm 103),(104,.nm 104)],.p .bool false,[(23, .box 111 true [.p ED h, .sr 102 T3 0 i.length, .sr 103 T3 0 m.length, .sr 104 DC 0 l.length]), (102, .arr 3 T3 i), (103, .arr 3 T3 m), (104, .arr 91 DC l)],rfl,rfl,?_,?_,rfl,rfl,?_⟩
            . simp only[aU]
              first|exact eN|refine eM ?_
            . first|exact eN|refine eM ?_
            refine rL c ?_ ?_
            . trivial
            repeat'(first|exact trivial|apply eS rfl|apply AB|refine rX c ?_ ?_|refine rC ?_ ?_<;>intro d<;>try(cases d;done))
            exact fI c [.cell 8 25,.tmp 9] (by rw[j];exact eR)
        . have j:=D [(0,(f.length:Int)),((f.length:Int),((f.length+(p.length+1):Nat):Int))] (by simp) au
          refine⟨[(23,.nm 101),(102,.nm 102),(103,.nm 103),(104,.nm 104)],.p .bool false,[(23, .box 111 true [.p ED h, .sr 102 T3 0 s.length, .sr 103 T3 0 y.length, .sr 104 DC 0 v.length]), (102, .arr 3 T3 s), (103, .arr 3 T3 y), (104, .arr 91 DC v)],rfl,rfl,?_,?_,rfl,rfl,?_⟩
          . simp only[aU]
            first|exact eN|refine eM ?_
          . first|exact eN|refine eM ?_
          refine rL c ?_ ?_
          . trivial
          repeat'(first|exact trivial|apply eS rfl|apply AB|refine rX c ?_ ?_|refine rC ?_ ?_<;>intro d<;>try(cases d;done))
          exact fI c [.cell 8 25,.tmp 9] (by rw[j];exact eR)
      . have j:=D [(0,(f.length:Int))] (by simp) aq
        refine⟨[(23,.nm 101),(102,.nm 102),(103,.nm 103),(104,.nm 104)],.p .bool false,[(23, .box 111 true [.p ED h, .sr 102 T3 0 o.length, .sr 103 T3 0 w.length, .sr 104 DC 0 t.length]), (102, .arr 3 T3 o), (103, .arr 3 T3 w), (104, .arr 91 DC t)],rfl,rfl,?_,?_,rfl,rfl,?_⟩
        . simp only[aU]
          first|exact eN|refine eM ?_
        . first|exact eN|refine eM ?_
        refine rL c ?_ ?_
        . trivial
        repeat'(first|exact trivial|apply eS rfl|apply AB|refine rX c ?_ ?_|refine rC ?_ ?_<;>intro d<;>try(cases d;done))
        exact fI c [.cell 8 25,.tmp 9] (by rw[j];exact eR)
end
section
attribute [local go_sem] JS J9 A8l atS qT
def YP (w:LW) (U:List AD):List AD:=U++[(w.dlist,[(w.last,(J6 U 0 [w.rest,w.last]).1),(w.head,(J6 U 0 [w.first,w.head]).1)])]
noncomputable def PW (h:AG) (a b:List AD):List AD×Bool:=SG h (DZ 0 (AP h).first (AP h).rest a b) [(AP h).first,(AP h).last] [(AP h).rest,(AP h).head]
noncomputable def Ed (h:AG) (a b:List AD):List AD×Int :=
 if Ex h=true then
  if (Af h a 0).2≠0 then ([],(Af h a 0).2)
  else if (Af h b 0).2≠0 then ([],(Af h b 0).2)
  else if (PW h a b).2=false then ([],12)
  else if 4096<(AL (YP (AP h) (PW h a b).1) ((PW h a b).1.length:Int)).length then ([],7)
  else (AL (YP (AP h) (PW h a b).1) ((PW h a b).1.length:Int),0)
 else ([],5)
theorem A52 {h:AG} {a:List AD} (c:VF h a) (p:List Int):0<=(J6 a 0 p).1/\(J6 a 0 p).1<(a.length:Int):=by
 have hp:=c.pos;cases b:(J6 a 0 p).2 with
 | true=>exact A8j c p b
 | false =>
  have e:=YD c.good c.str p 0;rw[e]at b ⊢;cases d:Bx a 0 p with
  | some m=>rw[d]at b;cases b
  | none =>
   simp only;omega
theorem A1Q {h:AG} {b:List AD} (w:LW) (c:VF h b) (g:b.length<=10000):AN (YP w b)/\(YP w b).length=b.length+1:=by
 have h1:=A52 c [w.rest,w.last];have f:=A52 c [w.first,w.head];have d:(YP w b).length=b.length+1:=by
  unfold YP;rw[A0];rfl
 refine⟨⟨by omega,λx e=>?_⟩,d⟩;rw[d];unfold YP at e;rcases IF.1 e with q|q
 .refine⟨(c.good.2 x q).1,λa ha=>?_⟩;have:=(c.good.2 x q).2 a ha;omega
 rw[Tu.1 q];refine⟨by show 2<=100000;omega,λa ha=>?_⟩;simp only[By,Ud,ADe]at ha;rcases ha with rfl|rfl
 .simp only;omega
 simp only;omega
noncomputable def A53:AZ:={ ins:=[ED,Cy,Cy],pre:=λ(h,a,b,_)=>(HU h/\X0 h/\(Ex h=true->(AP h).first<(AP h).rest))/\VF h a/\VF h b/\List.length a+List.length b<=990,out:=λ(h,a,b,_)=>[.p Cy (Ed h a b).1,.p GK (Ed h a b).2] }
theorem A8m:Ab Tryz.prog 44 A53:=by
 refine fKP [0,1,2,3,4,5,6,7,8,9,11,13,14,15,16,17,19,21,22,29,34,35,36,37,47,91,139] [34,61,81,86,99,109,123,130] [] Tryz.func44 Tryz.ntmps44 (AE MZ (AE Mi (AE A9X (AE ADa (AE A50 AH))))) ?_;rintro w0 O0 ⟨h,a,b,u⟩ d-⟨⟨hu,Y,X⟩,va,r,J⟩;have va:VF h a:=va;have r:VF h b:=r;have J:List.length a+List.length b<=990:=J;have l:(h.1,h.2)=h:=rfl;simp only[A53,AM];repeat'(first|exact trivial|apply eS rfl|apply AB|refine rP d ?_ ?_|refine rA d ?_ ?_|refine rC ?_ ?_<;>intro c<;>try(cases c;done))
 all_goals have n:(h.1,h.2)=h:=rfl
 all_goals simp only[n]at *
 .have i:Ex h=false:=by
   cases A:Ex h with
   | true=>rw[A]at c;exact absurd rfl c
   | false=>rfl
  have f:Ed h a b=([],5):=by unfold Ed;rw[i,As (by simp)]
  simp only[i,Ua,YZ,f];exact fI d [.cell 6 25,.tmp 7]
 have i:Ex h=true:=by
  have q:((if Ex h=true then (0:Int) else 5) != 0)=false:=by assumption
  cases A:Ex h with
  | false=>rw[A]at q;exact absurd q (by decide)
  | true=>rfl
 simp only[BY i,wdF]at *;refine AJ (ι:={k:Nat//k<=2/\(1<=k->(Af h a 0).2=0)/\(2<=k->(Af h b 0).2=0)}) (λk=>⟨[(3,.bp 3 [] 0),(4,.bp 4 [] 0),(5,.bp 5 [] 0),(6,.bp 6 [] 0),(8,.bp 8 [] 0),(34,.p Tc [a,b]),(35,.p (.int .i64) (2:Int)),(36,.p (.int .i64) (k.1:Int))],[(8,.box 115 true [.p ED h,.p T3 (AP h).list,.p T3 (AP h).cons,.p T3 (AP h).null,.p T3 (AP h).dlist,.p T3 (AP h).first,.p T3 (AP h).rest,.p T3 (AP h).head,.p T3 (AP h).last]),(6,.box 25 true [.raw (.slice none 0 0)]),(5,.box 25 true [.p F6 b]),(4,.box 25 true [.p F6 a]),(3,.box 31 true [.p mQ h.1,.p sL h.2])]⟩) (λk=>2-k.1) ⟨0,by omega,λq=>by omega,λq=>by omega⟩ (AC [(3,.nm 3),(4,.nm 4),(5,.nm 5),(6,.nm 6),(8,.nm 8)] rfl rfl ?_ ?_) (λk=>?_)
 .first|exact eN|refine eM ?_
 .first|exact eN|refine eM ?_
  rfl
 obtain⟨k,hk,N,Z⟩:=k;have v:k<2->∃x,[a,b].getD k []=x/\VF h x/\((Af h x 0).2≠0->Ed h a b=([],(Af h x 0).2))/\((Af h x 0).2=0->(1<=k+1->(Af h a 0).2=0)/\(2<=k+1->(Af h b 0).2=0)):=λo=>by
  have:k=0\/k=1:=by omega
  rcases this with rfl|rfl
  .exact⟨a,rfl,va,λq=>by unfold Ed;rw[BY i,BY q],λq=>⟨λ_=>q,λO=>by omega⟩⟩
  have w:=N (Is _);exact⟨b,rfl,r,λq=>by unfold Ed;rw[BY i,As (λO=>O w),BY q],λq=>⟨λ_=>w,λ_=>q⟩⟩
 simp only;repeat'(first|exact trivial|apply eS rfl|apply AB|refine rP d ?_ ?_|refine rA d ?_ ?_|refine rC ?_ ?_<;>intro c<;>try(cases c;done))
 all_goals have n:(h.1,h.2)=h:=rfl
 all_goals simp only[n]at *
 .exact c
 .obtain⟨x,e,s,-⟩:=v (Do.1 c);rw[e];exact⟨s.good,s.ty,Do.2 s.pos⟩
 .obtain⟨x,e,s,f,-⟩:=v (Do.1 (by assumption));have I:(Af h ([a,b].getD k []) 0).2≠0:=c;rw[e]at I;rw[f I,<-e];exact fI d [.cell 6 25,.tmp 7]
 .omega
 .have o:k<2:=Do.1 (by assumption);obtain⟨x,e,s,-,f⟩:=v o;have C:(Af h ([a,b].getD k []) 0).2=0:=by simpa using c
  rw[e]at C;refine⟨⟨k+1,o,(f C).1,(f C).2⟩,by simp only;omega,AC [(3,.nm 3),(4,.nm 4),(5,.nm 5),(6,.nm 6),(8,.nm 8)] rfl rfl ?_ ?_⟩
  .first|exact eN|refine eM ?_
  first|exact eN|refine eM ?_
 .omega
 have o:2<=k:=Tn.1 c;have w:=N (by omega);have aa:=Z o;clear v;have Q:=va.pos;have ah:=va.good.1;have M:=HR 1 a (Is a.length);have K:=Vg [((0:Int),[((AP h).first,(1:Int)),((AP h).rest,1+(a.length:Int))])] a va.good (by simp);have L:=Vg ([((0:Int),[((AP h).first,(1:Int)),((AP h).rest,1+(a.length:Int))])]++Nb 1 a a.length) b r.good (by rw[A0,M,GO];omega);have G:([((0:Int),[((AP h).first,(1:Int)),((AP h).rest,1+(a.length:Int))])]++Nb 1 a a.length).length=1+a.length:=by rw[A0,M,GO]
 simp only[GO]at K;rw[G,show [((0:Int),[((AP h).first,(1:Int)),((AP h).rest,1+(a.length:Int))])]++Nb 1 a a.length++Nb (1+a.length) b b.length=DZ 0 (AP h).first (AP h).rest a b from rfl]at L;refine CL drawsAny d 8 [([0,1,2,3],4),([5,6],7)] [] (by kernel_rfl) (LH ?_ ?_)
 .trivial
 refine mxC d (K) [(50,.nm 63)] [63] ?_ ?_ ?_
 .exact eN
 .exact eN
 rintro _ _ ⟨rfl,rfl⟩;refine⟨[(63,.nm 50)],.sr 63 HL 0 (1+a.length),[(63,.arr 93 HL ([((0:Int),[((AP h).first,(1:Int)),((AP h).rest,1+(a.length:Int))])]++Nb 1 a a.length))],rfl,rfl,?_,?_,rfl,rfl,rfl,?_⟩
 .exact eN
 .simp only[G];exact eN
 refine LH ?_ ?_
 .trivial
 refine mxC d (L) [(50,.nm 63)] [63] ?_ ?_ ?_
 .exact eN
 .exact eN
 rintro _ _ ⟨rfl,rfl⟩;refine⟨[(63,.nm 50)],.sr 63 HL 0 (DZ 0 (AP h).first (AP h).rest a b).length,[(63,.arr 93 HL (DZ 0 (AP h).first (AP h).rest a b))],rfl,rfl,?_,?_,rfl,rfl,rfl,?_⟩
 .exact eN
 .exact eN
 refine Sv d ?_ ?_ ?_
 .trivial
 .trivial
 refine E6 [63] ?_;have m:=X4 i;have y:=(Ky h ⟨#[70,73,82,83,84]⟩).2;have z:=(Ky h ⟨#[82,69,83,84]⟩).2;have D:=(Ky h ⟨#[76,73,83,84]⟩).2;have E:=(Ky h ⟨#[76,65,83,84]⟩).2;obtain⟨-,-,-,-,ab,ad,ae,af⟩:=Kz h;rw[ab]at y;rw[ad]at z;rw[ae]at D;rw[af]at E;have U:0<h.1.length:=by
  have:=va.ty _ (AF a (0,[]) Q);omega
 have ag:=mJ ⟨AA2 0,Do.2 U⟩ (X i) ⟨m.1.1,y⟩ ⟨m.1.2,z⟩ va r (by omega);have ai:=KB 0 (AP h).first (AP h).rest a b;have S:FtP h [(AP h).first,(AP h).last]:=λe l=>by
  simp only[By,Ud,ADe]at l;rcases l with rfl|rfl
  .exact⟨m.1.1,y⟩
  exact⟨m.2.2.2.2.2.2,E⟩
 have T:FtP h [(AP h).rest,(AP h).head]:=λe l=>by
  simp only[By,Ud,ADe]at l;rcases l with rfl|rfl
  .exact⟨m.1.2,z⟩
  exact⟨m.2.2.2.2.2.1,D⟩
 have j:(PW h a b).2=true->lF h (DZ 0 (AP h).first (AP h).rest a b) [(AP h).first,(AP h).last] [(AP h).rest,(AP h).head] (PW h a b).1:=A1x;have f:Ed h a b=if (PW h a b).2=false then ([],12) else if 4096<(AL (YP (AP h) (PW h a b).1) ((PW h a b).1.length:Int)).length then ([],7) else (AL (YP (AP h) (PW h a b).1) ((PW h a b).1.length:Int),0):=by
  unfold Ed;rw[BY i,As (λq=>q w),As (λq=>q aa)]
 rw[f];clear f;unfold PW at j ⊢;generalize DZ 0 (AP h).first (AP h).rest a b=P at *;repeat'(first|exact trivial|apply eS rfl|apply AB|refine rP d ?_ ?_|refine rA d ?_ ?_|refine rC ?_ ?_<;>intro c<;>try(cases c;done))
 all_goals have n:(h.1,h.2)=h:=rfl
 all_goals simp only[n]at *
 all_goals generalize SG h P [(AP h).first,(AP h).last] [(AP h).rest,(AP h).head]=R at *
 .exact⟨hu,Y,ag,S,T,by omega⟩
 .rw[BY c];exact fI d [.cell 6 25,.tmp 7]
 .exact⟨(j c).vf.good,(j c).vf.pos⟩
 .exact⟨(j c).vf.good,(j c).vf.pos⟩
 have F:=j c;have W:=F.len;simp only[OS,Ug]at W;obtain⟨H,V⟩:=A1Q (AP h) F.vf (by omega);rw[As (by rw[c];simp)];clear j;unfold YP at H V ⊢;generalize R.1=t at *;refine CL drawsAny d 13 [([0,1,2],3),([4,5],6),([7,8,9],10),([11],12)] [] (by kernel_rfl) (LH ?_ ?_)
 .trivial
 refine Nr d [125] ?_ ?_
 .simp only[AO];omega
 refine LH ?_ ?_
 .trivial
 refine mxF 125 d [125] ?_ ?_
 .simp only[AO];omega
 refine LH ?_ ?_
 .trivial
 refine Nr d [] ?_ ?_
 .exact⟨H,Int.lt_add_one_of_le (AA2 _)⟩
 refine LH ?_ ?_
 .trivial
 refine Nr d [] ?_ ?_
 .trivial
 refine Sv d ?_ ?_ ?_
 .trivial
 .trivial
 generalize AL (t++[((AP h).dlist,[((AP h).last,(J6 t 0 [(AP h).rest,(AP h).last]).1),((AP h).head,(J6 t 0 [(AP h).first,(AP h).head]).1)])]) (t.length:Int)=g at *;repeat'(first|exact trivial|apply eS rfl|apply AB|refine rX d ?_ ?_|refine rC ?_ ?_<;>intro c<;>try(cases c;done))
 .have B:4096<g.length:=Do.1 (show ((4096:Nat):Int)<(g.length:Int) from c);rw[BY B];exact fI d [.cell 6 25,.tmp 7]
 have B:¬4096<g.length:=Nat.not_lt.2 (Tn.1 (show (g.length:Int)<=((4096:Nat):Int) from c));rw[As B];exact fI d [.cell 6 25,.tmp 7]
end
def Cc:Nat->List Int->Int->Int
 | 0,_,n=>n
 | k+1,p,n=>if D5 p n=n then n else Cc k p (D5 p n)
def YQ (p:List Int) (n:Int):Bool:=D5 p (Cc 100 p n)==Cc 100 p n
theorem mL {p:List Int}:∀ {k:Nat} {n:Int},D5 p (Cc k p n)=Cc k p n->Rt p n (Cc k p n)
 | 0,n,h=>.base h
 | k+1,n,h=>by
  unfold Cc at h ⊢;split
  .rename_i e;exact .base e
  rename_i e;rw[As e]at h;exact .step e (mL h)
theorem YR {p:List Int} {n:Int} (h:YQ p n=true):Rt p n (Cc 100 p n):=mL (by unfold YQ at h;simpa using h)
abbrev ClD:=List Int×List Int×List (List (Int×Int))
def bX (h:AG):Nat->ClD->List (Int×Int)->Option (Option ClD)
 | 0,_,_=>none
 | k+1,s,W=>match W.getLast? with
  | none=>some (some s)
  | some w =>
   if (YQ s.1 w.1&&YQ s.1 w.2)=true then
    if Cc 100 s.1 w.1=Cc 100 s.1 w.2 then bX h k s W.dropLast
    else if (Bq h (s.2.1.getD (Cc 100 s.1 w.1).toNat 0) (s.2.1.getD (Cc 100 s.1 w.2).toNat 0)).2=false then some none
    else bX h k (s.1.set (Cc 100 s.1 w.2).toNat (Cc 100 s.1 w.1),s.2.1.set (Cc 100 s.1 w.1).toNat (Bq h (s.2.1.getD (Cc 100 s.1 w.1).toNat 0) (s.2.1.getD (Cc 100 s.1 w.2).toNat 0)).1,s.2.2.set (Cc 100 s.1 w.1).toNat (Bu (s.2.2.getD (Cc 100 s.1 w.1).toNat []) (s.2.2.getD (Cc 100 s.1 w.2).toNat [])).1)
     (W.dropLast++(Bu (s.2.2.getD (Cc 100 s.1 w.1).toNat []) (s.2.2.getD (Cc 100 s.1 w.2).toNat [])).2)
   else none
theorem A8n {α:Type} {W:List α} {w:α} (h:W.getLast?=some w):W=W.dropLast++[w]:=by
 obtain⟨a,e⟩:=List.getLast?_eq_some_iff.1 h;rw[e];simp
theorem YS {h:AG} (hk:Gm h) {N:List AD} {P:List (Int×Int)}:∀(k:Nat) (s:ClD) (W:List (Int×Int)),JI h N P s.1 s.2.1 s.2.2 W ->
  (∀t,bX h k s W=some (some t)->JI h N P t.1 t.2.1 t.2.2 [])/\(bX h k s W=some none->∀X v,CP h X->¬eL h N P X v)
 | 0,s,W,a=>⟨λt e=>(by cases e),λe=>(by cases e)⟩
 | k+1,s,W,a=>by
  unfold bX;cases g:W.getLast? with
  | none =>
   have:W=[]:=List.getLast?_eq_none_iff.1 g;subst this;refine⟨λt e=>?_,λe=>(by cases e)⟩;have e:s=t:=by simpa using e
   rw[<-e];exact a
  | some w =>
   simp only;have i:=A8n g;obtain⟨x,y⟩:=w;rw[i]at a;by_cases c:(YQ s.1 x&&YQ s.1 y)=true
   .rw[BY c];rw[An]at c;have ha:=YR c.1;have d:=YR c.2;by_cases f:Cc 100 s.1 x=Cc 100 s.1 y
    .rw[BY f];rw[<-f]at d;exact YS hk k s _ (eO a ha d)
    rw[As f];by_cases b:(Bq h (s.2.1.getD (Cc 100 s.1 x).toNat 0) (s.2.1.getD (Cc 100 s.1 y).toNat 0)).2=false
    .rw[BY b];refine⟨λt e=>(by cases e),λ_ X v j l=>?_⟩;have:=(VX hk a ha d j l).2.1;rw[b]at this;cases this
    rw[As b];have b:(Bq h (s.2.1.getD (Cc 100 s.1 x).toNat 0) (s.2.1.getD (Cc 100 s.1 y).toNat 0)).2=true:=by simpa using b
    exact YS hk k _ _ (Xm hk a ha d f b)
   rw[As c];exact⟨λt e=>(by cases e),λe=>(by cases e)⟩
def SS (h:AG):ClD->List (Int×Int)->Option (Option ClD)
 | s,[]=>some (some s)
 | s,q :: P=>match bX h 1000 s [q] with
  | some (some t)=>SS h t P
  | r=>r
theorem bZ {h:AG} (hk:Gm h) {N:List AD}:∀(R P:List (Int×Int)) (s:ClD),(∀q∈R,(0<=q.1/\q.1<(N.length:Int))/\(0<=q.2/\q.2<(N.length:Int)))->JI h N P s.1 s.2.1 s.2.2 [] ->
  (∀t,SS h s R=some (some t)->JI h N (P++R) t.1 t.2.1 t.2.2 [])/\(SS h s R=some none->∀X v,CP h X->¬eL h N (P++R) X v)
 | [],P,s,g,f=>⟨λt e=>by
   have e:s=t:=by simpa[SS] using e
   rw[<-e,UF];exact f,λe=>(by cases e)⟩
 | q :: R,P,s,g,f=>by
  obtain⟨a,b⟩:=q;have c:=g (a,b) (by simp);obtain⟨m,n⟩:=YS hk 1000 s [(a,b)] (Xn f c.1 c.2);have i:P++(a,b) :: R=P++[(a,b)]++R:=by simp
  unfold SS;rw[i];split
  .rename_i t l;exact bZ hk R (P++[(a,b)]) t (λq c=>g q (by simp[c])) (m t l)
  rename_i r k;refine⟨λt e=>absurd e (k t),λe X v j d=>n e X v j ⟨d.rng,d.ty,d.arc,λq c=>d.eq q (UK _ c)⟩⟩
def A8o (s:ClD):List AD:=(List.range s.1.length).map λk=>(s.2.1.getD k 0,(s.2.2.getD k []).map λa=>(a.1,Cc 100 s.1 a.2))
def fW (s:ClD):Bool:=(List.range s.1.length).all λ(k:Nat)=>YQ s.1 (k:Int)
theorem b4 {h:AG} {N:List AD} {P:List (Int×Int)} {s:ClD} (b:JI h N P s.1 s.2.1 s.2.2 []) (a:fW s=true) {x:Int} (c:0<=x) (e:x<(N.length:Int)):Cc 100 s.1 x=Dx s.1 x:=by
 unfold fW at a;rw[ON]at a;have d:=b.lp;have:=a x.toNat (Tx.2 (by omega));rw[Yb c]at this;rw[eX (YR this)]
theorem A8p {h:AG} {N:List AD} {P:List (Int×Int)} {s:ClD} (b:JI h N P s.1 s.2.1 s.2.2 []) (c:fW s=true):A8o s=quo s.1 s.2.1 s.2.2:=by
 unfold A8o quo;refine Tq λk _=>?_
 congr 1
 refine Tq λa ha=>?_;have:=(b.arr k a ha).1;rw[b4 b c this.1 this.2]
def A55 (N:List AD):ClD:=(Bc 0 N.length,Dp N,Fy N)
def A8q (h:AG) (N:List AD) (P:List (Int×Int)):Option (List AD×Bool):=match SS h (A55 N) P with
 | some (some s)=>if fW s=true then some (AL (A8o s) (Cc 100 s.1 0),true) else none
 | some none=>some ([],false)
 | none=>none
theorem A8r {h:AG} (hk:Gm h) {N:List AD} (j:AN N) (k:CP h N) (hs:∀x∈N,N0 x.2) (h0:0<N.length) {P:List (Int×Int)} (i:∀q∈P,(0<=q.1/\q.1<(N.length:Int))/\(0<=q.2/\q.2<(N.length:Int))) :
  (∀a,A8q h N P=some (a,true)->∃p ty ar,JI h N P p ty ar []/\a=AL (quo p ty ar) (Dx p 0))/\(∀a,A8q h N P=some (a,false)->a=[]/\∀X v,CP h X->¬eL h N P X v):=by
 obtain⟨f,g⟩:=bZ hk P [] (A55 N) i (fB j k hs);rw[Yt]at f g;unfold A8q;split
 .rename_i s c;have b:=f s c;split
  .rename_i d;refine⟨λa e=>⟨s.1,s.2.1,s.2.2,b,?_⟩,λa e=>(by cases e)⟩;have e:AL (A8o s) (Cc 100 s.1 0)=a:=by simpa using e
   rw[<-e,A8p b d,b4 b d (by omega) (by omega)]
  exact⟨λa e=>(by cases e),λa e=>(by cases e)⟩
 .rename_i c;refine⟨λa e=>(by cases e),λa e=>⟨?_,g c⟩⟩;have e:[]=a:=by simpa using e
  exact e.symm
 exact⟨λa e=>(by cases e),λa e=>(by cases e)⟩
def ADb (h:AG) (f:List AD) (p q:List Int):Option (List AD×Bool):=A8q h (eqN f p q) (eqP f p q)
theorem A8s {h:AG} (hu:HU h) (o:X0 h) {f:List AD} {p q:List Int} (vf:VF h f) (e:FtP h p) (i:FtP h q) (hp:p.length<=1000) (c:q.length<=1000) (L:f.length<=1000) {r:List AD×Bool} (b:ADb h f p q=some r):SG h f p q=r:=by
 have J:=fD f p q;have K:=vf.pos;obtain⟨d,z⟩:=r;have M:=CU f (Cb p);have O:=CB p;have Q:=CB q;have u:=GT vf.good (FH hp) (by omega);have t:=GT u (FH c) (by omega);have j:0<h.1.length:=by
  have:=vf.ty _ (AF f (0,[]) vf.pos);omega
 have H:=MV (MV vf.ty (Qs j p)) (Qs j q);have G:=Jz (Jz vf.str (NK p)) (NK q);have k:∀g:List AD,(∀x∈g,∀a∈x.2,0<=a.1/\a.1<(h.2.length:Int))->kZ g:=λg w x D a ha=>by
  have h1:=w x D a ha;have I:=hu.ft;omega
 have s:=MW (MW (vf.ft64 hu) (k _ (J0 e))) (k _ (J0 i));obtain⟨E,F⟩:=A8r hu.ok (N:=eqN f p q) t H G (by omega) (P:=eqP f p q) (λr b=>by
  simp only[By,Ud,ADe]at b;rcases b with rfl|rfl|rfl<;>simp only<;>omega)
 cases z with
 | true =>
  obtain⟨S,ty,ar,m,rfl⟩:=E d b;exact a9 hu (A4u o vf e i hp c (by omega) m (Xx m (by omega) s))
 | false =>
  obtain⟨rfl,B⟩:=F d b;refine bA λX l R h1 n y A=>?_;obtain⟨v,C,-⟩:=fE o vf hp c (by omega) l h1 y A;exact B X v l.ty C
def roB (f:List AD):Bool:=(List.range f.length).all λ(i:Nat)=>i==0||(List.range i).any λj=>(f.getD j (0,[])).2.any λa=>a.2==(i:Int)
def A8t:List (Int×Int)->Bool
 | a :: b :: l=>decide (a.1<b.1)&&A8t (b :: l)
 | _=>true
theorem A04:∀ {l:List (Int×Int)},A8t l=true->N0 l
 | [],_=>.nil
 | [a],_=>AA0 _ _
 | a :: b :: l,h=>by
  simp only[A8t,An,DO]at h;have e:=A04 h.2;refine UM.2 ⟨λc d=>?_,e⟩;rcases By.1 d with rfl|d
  .exact h.1
  have:=(UM.1 e).1 c d;omega
def vfB (h:AG) (f:List AD):Bool :=
 decide (0<f.length)&&decide (f.length<=100)&&roB f&&(AL f 0==f)&&f.all λx=>decide (0<=x.1)&&decide (x.1<(h.1.length:Int))&&decide (x.2.length<=100)&&A8t x.2&&x.2.all λa=>decide (0<=a.1)&&decide (a.1<(h.2.length:Int))&&decide (0<=a.2)&&decide (a.2<(f.length:Int))
theorem YT {h:AG} {f:List AD} (g:vfB h f=true):VF h f:=by
 unfold vfB at g;simp only[An,DO,ON,UP]at g;obtain⟨⟨⟨⟨h1,m⟩,d⟩,l⟩,c⟩:=g;refine⟨⟨by omega,λx b=>⟨by have:=(c x b).1.1.2;omega,λa ha=>?_⟩⟩,h1,λx b=>?_,λx b=>?_,λx b a ha=>?_,l,λi n o=>?_⟩
 .have:=(c x b).2 a ha;exact⟨this.1.2,this.2⟩
 .exact(c x b).1.1.1
 .exact A04 (c x b).1.2
 .exact((c x b).2 a ha).1.1
 unfold roB at d;rw[ON]at d;have:=d i.toNat (Tx.2 (by omega));rw[UI,UP]at this;rcases this with e|e
 .omega
 obtain⟨j,k,e⟩:=UA.1 e;obtain⟨a,ha,e⟩:=UA.1 e;have k:=Tx.1 k;refine⟨(j:Int),by omega,by omega,a,by rw[AU,To];exact ha,?_⟩;have e:a.2=(i.toNat:Int):=by simpa using e
 omega
theorem A56:HD []=Dr:=by
 rw[<-A8d];unfold HD Vb;simp
theorem A8u (d:List AK):H11 (HD d):=by
 unfold HD;split
 .exact TN _
 exact TN _
theorem Vh:H11 Dr:=by rw[<-A56];exact A8u []
theorem mM:X0 Dr:=Vh.top
theorem ADD:G2 Dr (AP Dr).null [[(5,[])],[(6,[])]]=([(3,[(2,1),(10,2)]),(5,[]),(3,[(2,3),(10,4)]),(6,[]),(8,[])],0):=by decide +kernel
theorem ADE:JU Dr []=([(4,[(6,1),(7,1)]),(2,[])],0):=by decide +kernel
theorem ADF:JU Dr [[(5,[])]]=([(4,[(6,1),(7,2)]),(2,[]),(3,[(2,3),(10,1)]),(5,[])],0):=by decide +kernel
theorem ADG:Al Dr [(3,[(2,1),(10,2)]),(5,[]),(3,[(2,3),(10,4)]),(6,[]),(8,[])] 0=([1,3],true,0):=by decide +kernel
theorem ADH:Al Dr [(3,[(2,1),(10,0)]),(5,[])] 0=([],false,6):=by decide +kernel
def xD:List AD:=[(4,[(6,1),(7,2)]),(2,[]),(3,[(2,3),(10,1)]),(5,[])]
def xU:List AD:=[(0,[(2,1),(10,7)]),(4,[(6,2),(7,5)]),(3,[(2,3),(10,4)]),(5,[]),(2,[]),(3,[(2,6),(10,2)]),(5,[]),(4,[(6,4),(7,2)])]
def xK:List AD:=[(4,[(6,1),(7,2)]),(2,[]),(3,[(2,3),(10,4)]),(5,[]),(3,[(2,5),(10,1)]),(5,[])]
theorem A9Y:VF Dr xD:=YT (by decide +kernel)
theorem ADI:VF Dr xK:=YT (by decide +kernel)
theorem xlw:AP Dr=⟨2,3,8,4,2,10,7,6⟩:=by
 have a:(AP Dr).list=2:=by decide +kernel
 have b:(AP Dr).cons=3:=by decide +kernel
 have c:(AP Dr).null=8:=by decide +kernel
 have d:(AP Dr).dlist=4:=by decide +kernel
 have e:(AP Dr).first=2:=by decide +kernel
 have f:(AP Dr).rest=10:=by decide +kernel
 have g:(AP Dr).head=7:=by decide +kernel
 have h:(AP Dr).last=6:=by decide +kernel
 generalize AP Dr=w at *;obtain⟨i,j,k,l,m,n,o,p⟩:=w;simp only at a b c d e f g h;rw[a,b,c,d,e,f,g,h]
theorem ADJ:ADb Dr (DZ 0 2 10 xD xD) [2,6] [10,7]=some (xU,true):=by decide +kernel
theorem xu:PW Dr xD xD=(xU,true):=by
 unfold PW;rw[xlw];have hf:Dr.2.length=13:=by decide +kernel
 have h0:0<Dr.1.length:=by decide +kernel
 refine A8s Vh.hu mM (mJ ⟨AA2 0,Do.2 h0⟩ (by decide) (by rw[hf];decide) (by rw[hf];decide) A9Y A9Y (by decide)) (λe a=>?_) (λe a=>?_) (by decide) (by decide) (by decide) ADJ
 .rw[hf];simp only[By,Ud,ADe]at a;rcases a with rfl|rfl<;>decide
 rw[hf];simp only[By,Ud,ADe]at a;rcases a with rfl|rfl<;>decide
theorem ADK:Ed Dr xD xD=(xK,0):=by
 unfold Ed;rw[xu];have b:Ex Dr=true:=by decide +kernel
 have a:(Af Dr xD 0).2=0:=by decide +kernel
 have c:AL (YP (AP Dr) xU) (xU.length:Int)=xK:=by decide +kernel
 rw[BY b,As (λq=>q a),As (λq=>q a),As (by decide)];simp only[c];rfl
theorem ADL:GZ Dr xK=([[(5,[])],[(5,[])]],0):=by decide +kernel
section
attribute [local go_sem] Jt MC
def mN:AZ:={ ins:=[Eo],pre:=λ_=>True,out:=λ(d,_)=>[.p ED (HD d)] }
theorem Vi:Ab Tryz.prog 17 mN:=by
 refine fK [0,2,3,4,5,9,16] Tryz.func17 Tryz.ntmps17 (AE pE (AE pC AH)) ?_;rintro w0 O0 ⟨d,u⟩ a - -;simp only[mN,AM];repeat'(first|exact trivial|apply eS rfl|apply AB|refine rX a ?_ ?_|refine rC ?_ ?_<;>intro b<;>try(cases b;done))
 .have h1:HD d=(BJ d).1:=by unfold HD;rw[BY ⟨by exact eV,b⟩]
  exact fI a [.cell 2 31] (by rw[h1];exact eR)
 .have h1:HD d=(BJ Js).1:=by unfold HD;rw[As (λh=>b h.2)]
  exact fI a [.cell 2 31] (by rw[h1];exact eR)
 have h1:HD d=(BJ Js).1:=by
  unfold HD;rw[As];intro h;have:=h.1;exact eV
 exact fI a [.cell 2 31] (by rw[h1];exact eR)
end
section
attribute [local go_sem] Rz K0
def YU:AZ:={ ins:=[ED,Cy],pre:=λ_=>True,out:=λ(h,f,_)=>[.p .bool (PT h f)],lend:=true }
theorem YV:Ab Tryz.prog 36 YU:=by
 refine fK [0,1,2,3,4] Tryz.func36 Tryz.ntmps36 (AE A3P (AE A1D AH)) ?_;rintro w0 O0 ⟨⟨e,hf⟩,f,u⟩ a - -;simp only[YU,AM];repeat'(first|exact trivial|apply eS rfl|apply AB|refine rX a ?_ ?_|refine rC ?_ ?_<;>intro b<;>try(cases b;done))
 .intro h;obtain⟨h1,c⟩:=MK h;exact⟨Tp h1 (by decide),λx d=>Tp (c x d) (by decide)⟩
 exact fI a [.tmp 4] (by unfold PT;exact eR)
end
section
attribute [local go_sem] mN aH fU fV NQ A53 Mk JR A4S YU
def fX:AZ:={ ins:=[FA,FA],pre:=λ_=>True,out:=λ(a,b,_)=>[.p .bool (decide ((a:List Int)=b))],lend:=true }
attribute [local go_sem] fX
theorem YW:Ab Tryz.prog 42 fX:=by
 refine fK [0,1,4,5,10,14,25] Tryz.func42 Tryz.ntmps42 AH ?_;rintro w0 O0 ⟨a,b,u⟩ d ⟨⟨j,-⟩,-⟩ -;simp only[AO]at j;simp only[fX,AM];repeat'(first|exact trivial|apply eS rfl|apply AB|refine rX d ?_ ?_|refine rC ?_ ?_<;>intro c<;>try(cases c;done))
 .have h:(a:List Int)≠b:=λe=>c (by rw[e]);exact fI d [.tmp 4] (by rw[Uv h];exact eR)
 have i:List.length a=List.length b:=by
  have:=c;simp only[bne_eq_false_iff_eq]at this;omega
 refine AJ (ι:={k:Nat//k<=List.length a/\(a:List Int).take k=(b:List Int).take k}) (λk=>⟨[(0,.p FA a),(1,.p FA b),(5,.p (.int .i64) (k.1:Int))],[]⟩) (λk=>List.length a-k.1) ⟨0,IS _,rfl⟩ (AC [] rfl rfl ?_ ?_) (λk=>?_)
 .first|exact eN|refine eM ?_
 .first|exact eN|refine eM ?_
 obtain⟨k,hk,g⟩:=k;repeat'(first|exact trivial|apply eS rfl|apply AB|refine rX d ?_ ?_|refine rC ?_ ?_<;>intro c<;>try(cases c;done))
 .exact⟨by assumption,by rw[<-i];assumption⟩
 .have f:k<List.length a:=by exact eV
  have h:(a:List Int)≠b:=λe=>c (by rw[e]);exact fI d [.tmp 4] (by rw[Uv h];exact eR)
 .exact eV
 .have f:k<List.length a:=by exact eV
  refine⟨⟨k+1,f,?_⟩,by simp only;omega,AC [] rfl rfl ?_ ?_⟩
  .have e:List.getD a k 0=List.getD b k 0:=by simpa using c
   rw[Ax (a:List Int) 0 f,Ax (b:List Int) 0 (by omega),g,e]
  .first|exact eN|refine eM ?_
  first|exact eN|refine eM ?_
 have f:k=List.length a:=by exact eV
 rw[f,Tl,i,Tl]at g;exact fI d [.tmp 4] (by rw[Yn g];exact eR)
def mO:AZ:={ ins:=[],pre:=λ_=>True,out:=λ_=>[.p .bool true] }
attribute [local go_sem] mO
theorem fY:Ab Tryz.prog 37 mO:=by
 refine fKP [0,1,2,3,4,5,6,7,8,9,10,11,12,13,16,17,18,19,20,21,22] [28,33,37,41,44,48,51,57,83,125,148] [] Tryz.func37 Tryz.ntmps37 (AE Vi (AE A7y (AE A4W (AE A4Z (AE K8 (AE A8m (AE YL (AE Qd (AE YW (AE qQ AH)))))))))) ?_;rintro w0 O0 u e - -;simp only[mO,AM];have m:((HD []).1,(HD []).2)=Dr:=A56;have g:=A9Y;have c:=ADI;have d:VF Dr [(3,[(2,1),(10,2)]),(5,[]),(3,[(2,3),(10,4)]),(6,[]),(8,[])]:=YT (by decide +kernel);have i:VF Dr [(3,[(2,1),(10,0)]),(5,[])]:=YT (by decide +kernel);have h:VF Dr [(4,[(6,1),(7,1)]),(2,[])]:=YT (by decide +kernel);have l:(AP Dr).first<(AP Dr).rest:=by rw[xlw];decide
 have b:∀n:Int,AN [(n,[])]/\F2 [(n,[])]:=λn=>⟨⟨by simp,by simp⟩,by simp[F2]⟩;have k:xD=[(4,[(6,1),(7,2)]),(2,[]),(3,[(2,3),(10,1)]),(5,[])]:=rfl;have w:xK=[(4,[(6,1),(7,2)]),(2,[]),(3,[(2,3),(10,4)]),(5,[]),(3,[(2,5),(10,1)]),(5,[])]:=rfl;have p:=ADD;have q:=ADE;have f:=ADF;have r:=ADG;have s:=ADH;have t:=ADK;have v:=ADL;rw[<-k]at f;repeat'(first|exact trivial|apply eS rfl|apply AB|refine rX e ?_ ?_|refine rC ?_ ?_<;>intro j<;>try(cases j;done))
 all_goals try simp only[m,p,q,f,r,s,t,v]
 .intro x a;simp only[By,Ud,ADe]at a;rcases a with rfl|rfl
  .exact b 5
  exact b 6
 .intro x a;cases a
 .exact⟨d.good,d.ty,by decide⟩
 .exact⟨i.good,i.ty,by decide⟩
 .intro x a;rw[Tu.1 a];exact b 5
 .exact⟨⟨Vh.hu,mM,λ_=>l⟩,g,g,by decide⟩
 .exact⟨c.good,c.srt Vh.hu,c.ty,c.pos⟩
 .have hs:∀x∈([[((5:Int),[])],[((5:Int),[])]]:List (List AD)),EA x:=λx a=>by
   simp only[By,Ud,ADe,or_self]at a;rw[a];exact K7 (b 5).1
  exact⟨λ_=>⟨d.small,d.small⟩,λ_=>⟨h.small,h.small⟩,λ_=>⟨hs,hs⟩⟩
 have o:Q9 [[((5:Int),[])],[((5:Int),[])]] [[((5:Int),[])],[((5:Int),[])]]=true:=by decide +kernel
 simp only[GY,o];exact fI e [.tmp 0]
end
section
attribute [local go_sem] mN YU NQ J7 RB RC J9 KA Mk NS fX A4S mO
theorem YX:∀l:List (List AD),Q9 l l=true
 | []=>rfl
 | x :: l=>by
  unfold Q9;rw[GY,YX l];rfl
theorem PX {f:List AD} (hf:AN f) {l:List Int} (a:∀n∈l,0<=n/\n<(f.length:Int)):∀x∈Eb f l,EA x:=λx b=>by
 obtain⟨n,hn,rfl⟩:=If.1 b;exact K7 (bC hf (a n hn).1 (a n hn).2).1
def qV:AZ:={ ins:=[Eo,Cy,T3],pre:=λ_=>True,out:=λ_=>[.p .bool true] }
attribute [local go_sem] qV
theorem A57:Ab Tryz.prog 13 qV:=by
 refine fK [0,1,2,4,6,7,8,9,10,11,12,13,14,15,16,17,18,19,36] Tryz.func13 Tryz.ntmps13 (AE Vi (AE YV (AE fY (AE K8 (AE YK (AE bS (AE qR (AE YW (AE qQ AH))))))))) ?_;rintro w0 O0 ⟨d,f,n,u⟩ c - -;simp only[qV,AM];have hh:=A8u d;have b:=λq=>(YA hh.b1 hh.hu.ft q (f:=f)).1;generalize e:HD d=h at *;have g:(h.1,h.2)=h:=rfl;repeat'(first|exact trivial|apply eS rfl|apply AB|refine rX c ?_ ?_|refine rC ?_ ?_<;>intro a<;>try(cases a;done))
 all_goals try simp only[e,g]at *
 .exact fI c [.tmp 6]
 .have vf:=b a.1.1;exact⟨vf.good,vf.ty,a.1.2,a.2⟩
 .have vf:=b a.1.1;exact⟨hh.hu.ok,vf.good,vf.ty,a.1.2,a.2⟩
 .have vf:=b a.1.1;exact⟨vf.good,vf.srt hh.hu,vf.ty,vf.pos⟩
 .have vf:=b a.1.1;exact⟨hh.hu.ok,vf.good,vf.srt hh.hu,vf.ty,vf.pos⟩
 .have vf:=b a.1.1;exact λ_=>PX vf.good (K9 vf.good 0).1
 exact fI c [.tmp 6] (by rw[YX];exact eR)
def qW:AZ:={ ins:=[Eo,Cy,T3],pre:=λ_=>True,out:=λ_=>[.p .bool true] }
attribute [local go_sem] qW
theorem A58:Ab Tryz.prog 9 qW:=by
 refine fK [0,1,2,4,6,7,8,9,10,11,12,13,14,15,32] Tryz.func9 Tryz.ntmps9 (AE Vi (AE YV (AE fY (AE Mi (AE TQ (AE YL (AE mE (AE YW (AE qQ AH))))))))) ?_;rintro w0 O0 ⟨d,f,n,u⟩ c - -;simp only[qW,AM];have hh:=A8u d;have b:=λq=>(YA hh.b1 hh.hu.ft q (f:=f)).1;generalize e:HD d=h at *;have g:(h.1,h.2)=h:=rfl;repeat'(first|exact trivial|apply eS rfl|apply AB|refine rX c ?_ ?_|refine rC ?_ ?_<;>intro a<;>try(cases a;done))
 all_goals try simp only[e,g]at *
 .exact fI c [.tmp 6]
 .have vf:=b a.1.1;exact⟨vf.good,vf.ty,a.1.2,a.2⟩
 .have vf:=b a.1.1;exact⟨hh.hu.ok,vf.good,vf.ty,a.1.2,a.2⟩
 .have vf:=b a.1.1;exact⟨vf.good,vf.srt hh.hu,vf.ty,vf.pos⟩
 .have vf:=b a.1.1;exact⟨hh.hu.ok,vf.good,vf.srt hh.hu,vf.ty,vf.pos⟩
 .have vf:=b a.1.1;have i:=PX vf.good (Mj vf.good 0 (h:=h)).1.1;exact λ_=>i
 exact fI c [.tmp 6] (by rw[YX];exact eR)
end
section
attribute [local go_sem] mN YU NQ RB JR Qg mO
theorem mP {h:AG} {w:LW} {f:List AD} (hf:AN f):∀(k:Nat) (a out:List Int) (n:Int),Iy f a->0<=n->n<(f.length:Int)->out.length=a.length->(IR h w f k a out n).1.length<=f.length
 | 0,_,_,_,_,_,_,_=>IS _
 | k+1,a,out,n,b,n0,n1,i=>by
  have l:=b.len;unfold IR;split
  .exact IS _
  rename_i g;split
  .simp only;omega
  split
  .simp only;omega
  split
  .exact IS _
  rename_i c d e;have hk:Az h w (f.getD n.toNat (0,[]))=2:=by
   rcases SQ h w (f.getD n.toNat (0,[])) with q|q|q|q
   .exact absurd q e
   .exact absurd q c
   .exact q
   exact absurd q d
  exact mP hf k _ _ _ (b.snoc n0 n1 g) (NL hk).2 (I0 (by omega) _ λx j=>(E8 hf n.toNat x j).2) (by rw[A0,A0,i];rfl)
theorem qX {h:AG} {f:List AD} (hf:AN f) {n:Int} (n0:0<=n) (n1:n<(f.length:Int)):(Al h f n).1.length<=f.length:=by
 unfold Al;split
 .exact mP hf _ [] [] n (Fu f) n0 n1 rfl
 exact IS _
def qY:AZ:={ ins:=[Eo,Cy],pre:=λ_=>True,out:=λ_=>[.p .bool true] }
attribute [local go_sem] qY
theorem A59:Ab Tryz.prog 14 qY:=by
 refine fK [0,1,3,4,5,6,7,8,9,10,11,12,18,56,60,91] Tryz.func14 Tryz.ntmps14 (AE Vi (AE YV (AE fY (AE K8 (AE bS (AE Qd (AE z9 AH))))))) ?_;rintro w0 O0 ⟨d,f,u⟩ e - -;simp only[qY,AM];have hh:=A8u d;have i:=λq=>(YA hh.b1 hh.hu.ft q (f:=f)).1;generalize v:HD d=h at *;have w:(h.1,h.2)=h:=rfl;repeat'(first|exact trivial|apply eS rfl|apply AB|refine rX e ?_ ?_|refine rC ?_ ?_<;>intro a<;>try(cases a;done))
 all_goals try simp only[v,w]at *
 .exact fI e [.tmp 4]
 .have vf:=i a;exact⟨vf.good,vf.ty,Do.2 vf.pos⟩
 .have vf:=i a;exact⟨vf.good,vf.srt hh.hu,vf.ty,vf.pos⟩
 .have j:PT h f=true:=by assumption
  have vf:=i j;have r:=qX (h:=h) vf.good (n:=0) (AA2 _) (Do.2 vf.pos);exfalso;rcases a with ((q|q)|q)|q
  .exact q rfl
  .exact q rfl
  .exact q (by unfold F3 Eb;rw[OF])
  exact absurd (Tn.2 r) (ADm.2 q)
 have j:PT h f=true:=by assumption
 have vf:=i j;have g:=K9 (h:=h) vf.good 0;have hs:=vf.srt hh.hu;clear a;have x:(F3 h f).1=Eb f (Al h f 0).1:=rfl;rw[x];generalize (F3 h f).2=z at *;generalize A:(Al h f 0).1=l at *;have C:=PX vf.good g.1;refine AJ (ι:={k:Nat//k<=l.length}) (λk=>⟨[(3,.bp 3 [] 0),(5,.bp 5 [] 0),(6,.p FA l),(9,.p Tc (Eb f l)),(12,.p (.int .i64) (k.1:Int))],[(5,.box 31 true [.p mQ h.1,.p sL h.2]),(3,.box 25 true [.p F6 f])]⟩) (λk=>l.length-k.1) ⟨0,IS _⟩ (AC [(3,.nm 3),(5,.nm 5)] rfl rfl ?_ ?_) (λk=>?_)
 .first|exact eN|refine eM ?_
 .first|exact eN|refine eM ?_
 obtain⟨k,hk⟩:=k;have s:k<l.length->l.getD k 0∈l/\List.getD (Eb f l) k []=AL f (l.getD k 0):=λb=>by
  refine⟨AF l 0 b,?_⟩;unfold Eb;rw[AS,UO,AT b,AS,AT b];rfl
 have y:(Eb f l).length=l.length:=by unfold Eb;rw[OF]
 simp only;repeat'(first|exact trivial|apply eS rfl|apply AB|refine rX e ?_ ?_|refine rC ?_ ?_<;>intro a<;>try(cases a;done))
 .have b:k<l.length:=Do.1 a;obtain⟨m,o⟩:=s b;have c:=g.1 _ m;have t:EA (AL f (l.getD k 0)):=K7 (bC vf.good c.1 c.2).1;rw[EY vf.good hs c.1 c.2,o];exact⟨a,λ_=>a,λ_=>by rw[y];exact a,λ_=>a,λ_=>⟨vf.good,c⟩,λ_=>⟨t,t⟩⟩
 .have b:k<l.length:=Do.1 (by assumption);obtain⟨m,o⟩:=s b;have c:=g.1 _ m;rw[EY vf.good hs c.1 c.2,o]at a;exfalso;rcases a with (q|q)|q
  .exact absurd c.1 (ADm.2 q)
  .exact absurd c.2 (Yd.2 q)
  exact q (GY _)
 .have b:k<l.length:=Do.1 (by assumption);have B:=vf.good.1;have r:=g.2;omega
 .have b:k<l.length:=Do.1 (by assumption);refine⟨⟨k+1,b⟩,by simp only;omega,AC [(3,.nm 3),(5,.nm 5)] rfl rfl ?_ ?_⟩
  .first|exact eN|refine eM ?_
  first|exact eN|refine eM ?_
 exact fI e [.tmp 4]
end
end Go.Proofs.YtapkhdkbkodbjaaGreat.Fw
