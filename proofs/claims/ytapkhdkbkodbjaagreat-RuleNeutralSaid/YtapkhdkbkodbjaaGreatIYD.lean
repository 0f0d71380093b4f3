/- Contracts of the program's and the reference's functions, and the plain laws of what they compute: I6 I7 K3 K4 C38 K7 U16 K8 C36 K9 K5 K6 M1 M2 M4. -/
import Derived.Test.YtapkhdkbkodbjaaGreatIYC
import Derived.Test.YtapkhdkbkodbjaaGreatIYB
import Derived.Test.YtapkhdkbkodbjaaGreatIYA
set_option linter.unusedVariables false
set_option linter.unusedSimpArgs false
namespace Go.Proofs.YtapkhdkbkodbjaaGreat.Fw
open Go
attribute [local irreducible] Ev
attribute [local go_sem] fV AM List.toList_toArray Bu evG evK YM Ey Ke Gt F7 Ir TP Nr DK DU Mv Cc DC frz lE Gl DT BA Fz Bg AV.frz AV.frzs AV.drp AV.drps AV.names AV.namess aq Gn LO KT US JQ Bh Bn Jm Ee Ij Ef Il Ik Im VS Pd HH KV F1 EX VT Ry qUn Jn Io Lr FW Du JT KW Eg UT Df Eh FI Rz Ip Np Fh Nn Pe R0 Ls JU KX Ei Dv HR Dx Hq Dg FJ Dh Ej F3 Cc Cq Pb Rx OO Gh JS JR KU Ph TM Nq Lw Lu Ka TN Lv Kb aV Pj Pi AV.trn AV.trns FB DJ Obj.trn J4 gH Dw El EY Ek Cg FK Am lk HV Gm Hm bin lD YQ lG TK yZ y3 pfs AV.cells CK Jk Pc KZ Pg CZ Nl Ty.cell1 Ii FC Dt GK LN FA KS Lq Ru Fg HG Ng UQ VR Lp KQ aR eU TJ Nm DB Jl RV.flat Ty.flat Ty.size St.add upd del Bi Value.oneCell' Lj Ty.dflt Ih Pz Hz QH List.take_succ_cons List.take_zero List.length_cons f6 f7 QG Jy MB Hh Jz A23 F8 M9 NA NB NC SA SB ND Ix Vl Option.map_some Option.map_none Option.bind_some Option.getD_some Option.getD_none Option.isNone_none Option.isNone_some Bool.and_true Bool.true_and Bool.and_false Bool.false_and Bool.not_true Bool.not_false if_true if_false List.length_cons List.length_nil and_true true_and and_self List.all_cons List.all_nil List.append_nil List.nil_append List.cons_append List.getElem?_cons_zero List.getElem?_cons_succ List.getElem?_nil List.map_cons List.map_nil List.set_cons_zero List.set_cons_succ List.isEmpty_nil List.isEmpty_cons decide_true decide_false beq_self_eq_true bne_self_eq_false Nat.zero_add Nat.add_zero Nat.sub_zero Int.toNat_natCast Int.toNat_zero Int.toNat_one List.take_length List.length_append List.length_singleton true_or or_true or_self false_or or_false Ty.agg.injEq Ty.slice.injEq Ty.prod.injEq Ty.int.injEq Option.some.injEq beq_iff_eq Lk evMG evMQ opM H5 L8 B4 Jw HI QA Ju H0 Iy Kn LU Oc Nv Od UW L9 QB QC Jv Ac Aj Op.operands Call.operands List.filterMap_cons List.filterMap_nil List.append_eq Bool.cond_false_right Bool.cond_true_left cond_true cond_false implies_true decide_eq_true_eq beq_true beq_false Bool.or_true Bool.or_false Bool.true_or Bool.false_or Option.isSome_some Array.empty_append List.append_toArray F0 Mw FL Hn aU Pf F2 GS GR Iq Ho KY Lt YR lF Hl inB Kd F4 Gi Jo Ao f8 List.drop_zero Dm H6 bT CU Kr CS AV.fgt AV.fgts Obj.fgt Az Ai Ac DM Ig BS Gu List.any_cons List.any_nil mB gB bU gC ME SG qs List.flatMap_cons List.flatMap_nil List.cons_append tn bX J5 List.take_succ_cons List.drop_succ_cons b6 HJ BV qK NH CB CT Af FO Km Bp FN Dz Hx Iw GW Hy
attribute [local go_sem] ty1 ty2 ty3 ty4 ty5 ty9 A5L A5M A5N A5O A5P A5Q A5R A5S A5T A5U A5V A5W A5X A5Y A5Z A60 A61 A62 A63 A64 A65 A66 A67 A68 A69 A6a A6b A6c A6d A6e A6f A6g A6h A6i A6j A6k A6l A6m A6n A6o A6p A6q A6r A6s A6t A6u A6v A6w A6x A6y A6z A6A A6B A6C A6D A6E A6F A6G A6H A6I A6J A6K A6L A6M A6N A6O A6P A6Q A6R A6S A6T qR qS qT qU qV qW qX qY qZ q9 rA rB rD rE rF rG rH rI rJ rK rO rQ rR rS rU rV rW rZ r7 r8 r9 sA sB sC sD sE sF sG sH sI sJ sK sL sM sN sO sP sQ sR sS sT sU sV sW sY sZ s5 s6 s7 s8 s9 tA tB tC tD tE tF tG tH tI tJ tK tL tM tN tP tQ tR tS tT tU tV tW tY tZ t8 t9 uA uB uC uD uE uF uG uH uI uJ uK uL uM uN uP uQ uR uS uT uU uV uW uX uY uZ u3 u4 u5 u6 u7 u9 vA vB vC vD vE vF vG vH vI vJ vK vL vM vN vO vP vQ vS vT vU vV vW vY vZ v4 v5 v6 v7 v8 v9 wA wB wC wD wF wG wH wI wJ wK wL wM wN wP wQ wR wS wT
set_option maxRecDepth 100000
set_option maxHeartbeats 4000000
section
attribute [local go_sem] YI YH kY
theorem A1l (h:AG) (f:List AD) (n:Int) (k:AU f) (G:De h f) (n0:0<=n) (n1:n<(f.length:Int)):BJ Tryz.prog 54 [.p ER h,.p DR f,.p T3 n] [] [] (λres ai=>res=.tup [.p Fv (Ak h f n).1,.p .bool (Ak h f n).2.1,.p Lo (Ak h f n).2.2]):=by
 refine fKR [0,1,2,3,4,6,7,8,9,10,11,12,13,14,15,22,28,29,34,38,41] [50] [] Tryz.func54 Tryz.ntmps54 (AF A4I (AF kZ (AF eJ AH))) ?_;intro w0 K O0 ρ0 a ad ae;simp only[Ao];have R:(h.1,h.2)=h:=rfl;repeat'(first|exact trivial|refine eS rfl ?_|refine AB ?_|refine rX a ?_ ?_|refine rC ?_ ?_<;>intro c<;>try(cases c;done))
 all_goals simp only[R]at *
 ·have l:PR h=false:=by
   cases d:PR h with
   | true=>rw[d]at c;exact absurd rfl c
   | false=>rfl
  have j:Ak h f n=([],false,5):=by unfold Ak;rw[l,An (by simp)]
  simp only[l,ADC,AE3,j];exact z3 a [.cell 6 61,.cell 7 4,.cell 8 35] rfl (.inl rfl) (.tup [.p Fv [],.p .bool false,.p Lo 5]) eT rfl
 ·have l:PR h=true:=by
   cases d:PR h with
   | false=>rw[d]at c;exact absurd c (by decide)
   | true=>rfl
  simp only[l,AAv,wdF];have C:=kQ l;have B:=S2 h;have H:WOk h (BH h):=⟨⟨C.2.1,B.1.2.1⟩,C.2.2.1,B.1.2.2.1⟩;have v:=λ(i:Nat) (hi:WGo h (BH h) f n i)=>k6 k l n0 n1 hi;have Q:=λ(i:Nat) (hi:WGo h (BH h) f n i)=>RN k n0 n1 i hi;generalize aa:BH h=w at *;refine Ev.ent (σ':=⟨[(2,.p T3 n),(4,.bp 4 [] 0),(6,.bp 6 [] 0),(7,.bp 7 [] 0),(8,.bp 8 [] 0),(9,.bp 9 [] 0),(11,.bp 11 [] 0),(12,.bp 12 [] 0),(13,.bp 13 [] 0)],[(6,.box 61 false [.raw (.slice none 0 0)]),(7,.box 4 false [.p .bool false]),(8,.box 35 false [.p Lo 0]),(9,Dr h w),(4,.box 25 true [.p FY f]),(11,.box 61 false [.raw (.slice none 0 0)]),(12,.box 4 false [.p .bool false]),(13,.box 119 false [.mp 24]),(24,.mapo T3 .bool [])]⟩) ?_ (AC [(6,.nm 6),(7,.nm 7),(8,.nm 8),(9,.nm 9),(4,.nm 4),(11,.nm 11),(12,.nm 12),(13,.nm 13),(24,.nm 24)] rfl rfl ?_ ?_)
  ·simp only[Dr];refine cP 3 a ?_ ?_
   ·trivial
   ·refine rM a (A4J h w f n) [] [] ?_ ?_ ?_
    ·simp only[wdF];first|exact eN|refine eM ?_
    ·first|exact eN|refine eM ?_
    ·rintro _ _ ⟨rfl,rfl⟩;refine⟨[(50,.nm 5),(52,.nm 4),(51,.nm 3)],.clo 139 [50,51,52],[(50,.box 3 false [.p T3 n]),(52,.box 25 true [.p FY f]),(51,Dr h w)],rfl,rfl,?_,?_,rfl,rfl,CP ?_⟩
     ·simp only[Dr];first|exact eN|refine eM ?_
     ·first|exact eN|refine eM ?_
     ·simp only[Dr];repeat'(first|exact trivial|refine eS rfl ?_|refine AB ?_|refine rX a ?_ ?_|refine rC ?_ ?_<;>intro c<;>try(cases c;done))
      refine gM a rfl rfl (by simp only[go_sem,Nat.reduceEqDiff,reduceCtorEq,Nat.reduceAdd,Nat.reduceSub,Nat.reduceMul,Nat.reduceLeDiff,Nat.reduceLT,Int.reduceLE,Int.reduceToNat,Int.reduceNeg,↓reduceIte];rfl) 101 103 102 rfl rfl rfl rfl ?_;intro L e r u J M N O V;refine⟨_,wO h w f L e (A1 h w f n 0) n 0,[50,51,52,101,102,6,7,8,9,4,11,12,13,24],_,[(50,.nm 50),(51,.nm 51),(52,.nm 52),(101,.nm 101),(102,.nm 102),(6,.nm 6),(7,.nm 7),(8,.nm 8),(9,.nm 9),(4,.nm 4),(11,.nm 11),(60,.nil),(12,.nm 12),(13,.nm 13),(24,.nm 24)],[60],A1k h w f n H k G n0 n1 L e ?_,rfl,rfl,?_,?_,rfl,?_⟩
      ·intro i hi;obtain⟨I,Y,A,Z⟩:=Q i hi;have ab:=I.len;have t:=A7z (A1 h w f n i).1 (A1 h w f n i).2.2.2;have U:lwO (h,w.list,w.cons,w.null,w.dlist,w.first,w.rest,w.head,w.last)=w:=rfl;have D:Lg (A1 h w f n (i+1)).1=GI T3 .bool (A1 h w f n i).2.2.2 true (Lg (A1 h w f n i).1):=by
        show Lg ((A1 h w f n i).1++[(A1 h w f n i).2.2.2])=_;simp[Lg]
       have E:(A1 h w f n (i+1)).2.2.1=(BQ h w (f.getD (A1 h w f n i).2.2.2.toNat (0,[]))==1):=by
        show decide (BQ h w (GJ f (A1 h w f n i).2.2.2)=1)=_;rw[AE9];simp[GJ]
       have hT:=a.T;have hF:=a.F;refine gK (fr:=102) rfl rfl r M N O J V rfl (by kernel_rfl) (by simp) rfl rfl (by kernel_rfl) (by kernel_rfl) hT hF ?_;intro aj W X ak ah a af ag d;simp only[wO,Dr,wE,HJ];repeat'(first|exact trivial|refine eS rfl ?_|refine AB ?_|refine rX a ?_ ?_|refine rC ?_ ?_<;>intro c<;>try(cases c;done))
       refine⟨rfl,?_⟩;repeat'(first|exact trivial|refine eS rfl ?_|refine AB ?_|refine rX a ?_ ?_|refine rC ?_ ?_<;>intro c<;>try(cases c;done))
       all_goals try simp only[U]at *
       ·exact⟨H,k,G,A⟩
       ·rw[t]at c;have S:(A1 h w f n i).2.2.2∈(A1 h w f n i).1:=by simpa[xC] using c
        refine Ev.ent (σ':=⟨[],wO h w f { L with state:=.busy } e (A1 h w f n i) (A1 h w f n i).2.2.2 6⟩) ?_ (AC [(50,.nm 50),(51,.nm 51),(52,.nm 52),(101,.nm 101),(102,.nm 102),(6,.nm 6),(7,.nm 7),(8,.nm 8),(9,.nm 9),(4,.nm 4),(11,.nm 11),(60,.nm 60),(12,.nm 12),(13,.nm 13),(24,.nm 24)] rfl rfl ?_ ?_)
        ·refine Y7 a (yn:=101) rfl rfl (by simp) d ⟨false,rfl,.inl ⟨S,rfl,?_⟩⟩;simp only[wO,Dr,wE,JN,go_sem,Nat.reduceEqDiff,reduceCtorEq,Nat.reduceAdd,Nat.reduceSub,Nat.reduceMul,Nat.reduceLeDiff,Nat.reduceLT,Int.reduceLE,Int.reduceToNat,Int.reduceNeg,↓reduceIte]
        ·simp only[wO,Dr,wE];first|exact eN|refine eM ?_
        ·first|exact eN|refine eM ?_
       ·have o:(A1 h w f n i).2.2.2∉(A1 h w f n i).1:=by
         have g:(Be T3 .bool (A1 h w f n i).2.2.2 (Lg (A1 h w f n i).1)).getD false=false:=by assumption
         rw[t]at g;intro m;have:=AEd.1 g _ m;simp at this
        refine Ev.ent (σ':=⟨[],wO h w f { L with state:=.busy } e (A1 h w f n i) (A1 h w f n i).2.2.2 13⟩) ?_ (AC [(50,.nm 50),(51,.nm 51),(52,.nm 52),(101,.nm 101),(102,.nm 102),(6,.nm 6),(7,.nm 7),(8,.nm 8),(9,.nm 9),(4,.nm 4),(11,.nm 11),(60,.nm 60),(12,.nm 12),(13,.nm 13),(24,.nm 24)] rfl rfl ?_ ?_)
        ·refine Y7 a (yn:=101) rfl rfl (by simp) d ⟨false,rfl,.inr (.inl ⟨o,c,rfl,?_⟩)⟩;simp only[wO,Dr,wE,JN,go_sem,Nat.reduceEqDiff,reduceCtorEq,Nat.reduceAdd,Nat.reduceSub,Nat.reduceMul,Nat.reduceLeDiff,Nat.reduceLT,Int.reduceLE,Int.reduceToNat,Int.reduceNeg,↓reduceIte]
        ·simp only[wO,Dr,wE];first|exact eN|refine eM ?_
        ·first|exact eN|refine eM ?_
       ·refine⟨⟨k,A⟩,?_⟩;have:=k.1;simp only[AP];omega
       ·have x:BQ h w (GJ f (A1 h w f n i).2.2.2)≠0:=by assumption
        have o:(A1 h w f n i).2.2.2∉(A1 h w f n i).1:=by
         have g:(Be T3 .bool (A1 h w f n i).2.2.2 (Lg (A1 h w f n i).1)).getD false=false:=by assumption
         rw[t]at g;intro m;have:=AEd.1 g _ m;simp at this
        have y:(A1 h w f n (i+1)).2.1=(A1 h w f n i).2.1++[DH (f.getD (A1 h w f n i).2.2.2.toNat (0,[])).2 w.first]:=BY c;refine Ev.ent (σ':=⟨[],wO h w f { L with state:=.busy } e (A1 h w f n (i+1)) (A1 h w f n i).2.2.2 0⟩) ?_ (AC [(50,.nm 50),(51,.nm 51),(52,.nm 52),(101,.nm 101),(102,.nm 102),(6,.nm 6),(7,.nm 7),(8,.nm 8),(9,.nm 9),(4,.nm 4),(11,.nm 11),(60,.nm 60),(12,.nm 12),(13,.nm 13),(24,.nm 24)] rfl rfl ?_ ?_)
        ·refine SK a (yn:=101) rfl rfl (by simp) d ⟨true,rfl,.inr (.inr ⟨o,x,rfl,?_⟩)⟩;simp only[wO,Dr,wE,go_sem,Nat.reduceEqDiff,reduceCtorEq,Nat.reduceAdd,Nat.reduceSub,Nat.reduceMul,Nat.reduceLeDiff,Nat.reduceLT,Int.reduceLE,Int.reduceToNat,Int.reduceNeg,↓reduceIte,XK r u]
        ·simp only[wO,Dr,wE,D,E,y];first|exact eN|refine eM ?_
        ·first|exact eN|refine eM ?_
       ·have x:BQ h w (GJ f (A1 h w f n i).2.2.2)≠0:=by assumption
        have o:(A1 h w f n i).2.2.2∉(A1 h w f n i).1:=by
         have g:(Be T3 .bool (A1 h w f n i).2.2.2 (Lg (A1 h w f n i).1)).getD false=false:=by assumption
         rw[t]at g;intro m;have:=AEd.1 g _ m;simp at this
        have y:(A1 h w f n (i+1)).2.1=(A1 h w f n i).2.1:=An c;refine Ev.ent (σ':=⟨[],wO h w f { L with state:=.busy } e (A1 h w f n (i+1)) (A1 h w f n i).2.2.2 0⟩) ?_ (AC [(50,.nm 50),(51,.nm 51),(52,.nm 52),(101,.nm 101),(102,.nm 102),(6,.nm 6),(7,.nm 7),(8,.nm 8),(9,.nm 9),(4,.nm 4),(11,.nm 11),(60,.nm 60),(12,.nm 12),(13,.nm 13),(24,.nm 24)] rfl rfl ?_ ?_)
        ·refine SK a (yn:=101) rfl rfl (by simp) d ⟨true,rfl,.inr (.inr ⟨o,x,rfl,?_⟩)⟩;simp only[wO,Dr,wE,go_sem,Nat.reduceEqDiff,reduceCtorEq,Nat.reduceAdd,Nat.reduceSub,Nat.reduceMul,Nat.reduceLeDiff,Nat.reduceLT,Int.reduceLE,Int.reduceToNat,Int.reduceNeg,↓reduceIte,XK r u]
        ·simp only[wO,Dr,wE,D,E,y];first|exact eN|refine eM ?_
        ·first|exact eN|refine eM ?_
      ·simp only[BV,wO,Dr,wE,A1];first|exact eN|refine eM ?_
      ·simp only[BV,wO,Dr,wE,A1];first|exact eN|refine eM ?_
       rfl
      ·rintro _ _ ⟨rfl,i,b,hi,P,d⟩;rcases P with ⟨q,rfl,rfl⟩|⟨q,z,rfl,rfl⟩|⟨q,z,rfl,rfl⟩
       ·have j:=(v i hi).1 q;refine⟨[(50,.nm 50),(51,.nm 51),(52,.nm 52),(101,.nm 101),(102,.nm 102),(6,.nm 6),(7,.nm 7),(8,.nm 8),(9,.nm 9),(4,.nm 4),(11,.nm 11),(60,.nm 60),(12,.nm 12),(13,.nm 13),(24,.nm 24)],wO h w f (JN L) e (A1 h w f n i) (A1 h w f n i).2.2.2 6,JN L,rfl,rfl,?_,rfl,rfl,rfl,rfl,?_⟩
        ·simp only[wO,Dr,wE];first|exact eN|refine eM ?_
        ·intro b;simp only[JN,EvJ,wO,Dr,wE,BV,go_sem,Nat.reduceEqDiff,reduceCtorEq,Nat.reduceAdd,Nat.reduceSub,Nat.reduceMul,Nat.reduceLeDiff,Nat.reduceLT,Int.reduceLE,Int.reduceToNat,Int.reduceNeg,↓reduceIte];replace a:=NI (dn:=103) (b:=b) a;repeat'(first|exact trivial|refine eS rfl ?_|refine AB ?_|refine rX a ?_ ?_|refine rC ?_ ?_<;>intro c<;>try(cases c;done))
         refine Ev.ent (σ':=⟨[(6,.bp 6 [] 0),(7,.bp 7 [] 0),(8,.bp 8 [] 0)],[(6,.box 61 false [.p Fv []]),(7,.box 4 false [.p .bool false]),(8,.box 35 false [.p Lo 6]),(103,.dfr)]⟩) ?_ (AC [(6,.nm 6),(7,.nm 7),(8,.nm 8),(103,.nm 103)] rfl rfl ?_ ?_)
         ·rw[j];exact QM a [.cell 6 61,.cell 7 4,.cell 8 35] rfl (.inl rfl) rfl rfl (.tup [.p Fv [],.p .bool false,.p Lo 6]) eT rfl
         ·first|exact eN|refine eM ?_
         ·first|exact eN|refine eM ?_
       ·have j:=(v i hi).2.1 q z;refine⟨[(50,.nm 50),(51,.nm 51),(52,.nm 52),(101,.nm 101),(102,.nm 102),(6,.nm 6),(7,.nm 7),(8,.nm 8),(9,.nm 9),(4,.nm 4),(11,.nm 11),(60,.nm 60),(12,.nm 12),(13,.nm 13),(24,.nm 24)],wO h w f (JN L) e (A1 h w f n i) (A1 h w f n i).2.2.2 13,JN L,rfl,rfl,?_,rfl,rfl,rfl,rfl,?_⟩
        ·simp only[wO,Dr,wE];first|exact eN|refine eM ?_
        ·intro b;simp only[JN,EvJ,wO,Dr,wE,BV,go_sem,Nat.reduceEqDiff,reduceCtorEq,Nat.reduceAdd,Nat.reduceSub,Nat.reduceMul,Nat.reduceLeDiff,Nat.reduceLT,Int.reduceLE,Int.reduceToNat,Int.reduceNeg,↓reduceIte];replace a:=NI (dn:=103) (b:=b) a;repeat'(first|exact trivial|refine eS rfl ?_|refine AB ?_|refine rX a ?_ ?_|refine rC ?_ ?_<;>intro c<;>try(cases c;done))
         refine Ev.ent (σ':=⟨[(6,.bp 6 [] 0),(7,.bp 7 [] 0),(8,.bp 8 [] 0)],[(6,.box 61 false [.p Fv []]),(7,.box 4 false [.p .bool false]),(8,.box 35 false [.p Lo 13]),(103,.dfr)]⟩) ?_ (AC [(6,.nm 6),(7,.nm 7),(8,.nm 8),(103,.nm 103)] rfl rfl ?_ ?_)
         ·rw[j];exact QM a [.cell 6 61,.cell 7 4,.cell 8 35] rfl (.inl rfl) rfl rfl (.tup [.p Fv [],.p .bool false,.p Lo 13]) eT rfl
         ·first|exact eN|refine eM ?_
         ·first|exact eN|refine eM ?_
       ·have j:=(v i hi).2.2 q z (d rfl);refine⟨[(50,.nm 50),(51,.nm 51),(52,.nm 52),(101,.nm 101),(102,.nm 102),(6,.nm 6),(7,.nm 7),(8,.nm 8),(9,.nm 9),(4,.nm 4),(11,.nm 11),(60,.nm 60),(12,.nm 12),(13,.nm 13),(24,.nm 24)],wO h w f L e (A1 h w f n (i+1)) (A1 h w f n i).2.2.2 0,L,rfl,rfl,?_,rfl,rfl,rfl,by rw[r];rfl,?_⟩
        ·simp only[wO,Dr,wE];first|exact eN|refine eM ?_
        ·intro b;rw[u];generalize A1 h w f n (i+1)=s at *;simp only[EvJ,wO,Dr,wE,BV,go_sem,Nat.reduceEqDiff,reduceCtorEq,Nat.reduceAdd,Nat.reduceSub,Nat.reduceMul,Nat.reduceLeDiff,Nat.reduceLT,Int.reduceLE,Int.reduceToNat,Int.reduceNeg,↓reduceIte];replace a:=NI (dn:=103) (b:=b) a;refine FQ [60] ?_;repeat'(first|exact trivial|refine eS rfl ?_|refine AB ?_|refine rP a ?_ ?_|fail)
         refine Cf drawsAny a 3 [([0],2)] [1] (by kernel_rfl) (Ni ?_ ?_)
         ·trivial
         ·refine Pa a [] ?_ ?_
          ·trivial
          ·refine UY a ?_ ?_ ?_
           ·trivial
           ·trivial
           ·repeat'(first|exact trivial|refine eS rfl ?_|refine AB ?_|refine rX a ?_ ?_|refine rC ?_ ?_<;>intro c<;>try(cases c;done))
            refine Ev.ent (σ':=⟨[(6,.bp 6 [] 0),(7,.bp 7 [] 0),(8,.bp 8 [] 0)],[(6,.box 61 false [.p Fv s.2.1]),(7,.box 4 false [.p .bool s.2.2.1]),(8,.box 35 false [.p Lo 0]),(103,.dfr)]⟩) ?_ (AC [(6,.nm 6),(7,.nm 7),(8,.nm 8),(103,.nm 103)] rfl rfl ?_ ?_)
            ·rw[j];exact QM a [.cell 6 61,.cell 7 4,.cell 8 35] rfl (.inl rfl) rfl rfl (.tup [.p Fv s.2.1,.p .bool s.2.2.1,.p Lo 0]) eT rfl
            ·first|exact eN|refine eM ?_
            ·first|exact eN|refine eM ?_
  ·simp only[Dr];first|exact eN|refine eM ?_
  ·first|exact eN|refine eM ?_
end
section
attribute [local go_sem] RL eF VM VN RM yU cs4 cs5
theorem A8g (h:AG) (w:LW) (x:AD):(Uf h w x=true->BQ h w x=1)/\(Uf h w x=false->OK h w x=true->BQ h w x=3)/\(Uf h w x=false->OK h w x=false->Lh h w x=false->BQ h w x=0)/\(Uf h w x=false->Lh h w x=true->BQ h w x=2):=by
 unfold BQ;refine⟨λh1=>BY h1,λh1 a=>?_,λh1 a b=>?_,λh1 a=>?_⟩
 ·have b:Lh h w x=false:=by
   unfold OK RH at a;unfold Lh UP;simp only[AT,Ff]at a;have:decide (0<=DH x.2 w.first)=false:=AE0 (by omega);rw[this];simp
  rw[h1,a,b];rfl
 ·rw[h1,a,b];rfl
 ·rw[h1,a];rfl
def RP:Aa:={ ins:=[ER,DR,T3],pre:=λ(h,f,n,_)=>GH h/\AU f/\De h f/\(0:Int)<=n/\n<(List.length f:Int),out:=λ(h,f,n,_)=>[.p Fv (Ak h f n).1,.p .bool (Ak h f n).2.1,.p Lo (Ak h f n).2.2] }
attribute [local go_sem] RP
theorem pI:Ad Tryz.prog 55 RP:=by
 refine z2 [0,1,2,3,4,6,7,8,9,10,13,14,18,24,30] [38,45] [] Tryz.func55 Tryz.ntmps55 (AF pG (AF YG (AF aG (AF A1g (AF pH (AF A8c AH)))))) ?_;rintro w0 O0 ⟨h,f,n,u⟩ g-⟨hk,c,q,hn⟩;have hk:GH h:=hk;have c:AU f:=c;have q:De h f:=q;have hn:0<=n/\n<(f.length:Int):=hn;have F:(h.1,h.2)=h:=rfl;simp only[RP,AM];repeat'(first|exact trivial|refine eS rfl ?_|refine AB ?_|refine rX g ?_ ?_|refine rC ?_ ?_<;>intro b<;>try(cases b;done))
 all_goals try simp only[F]at *
 ·exact hk
 ·have m:Ak h f n=([],false,5):=by unfold Ak;rw[b,An (by simp)]
  exact fI g [.tmp 6,.tmp 7,.tmp 8] (by rw[m];exact eR)
 ·have t:PR h=true:=b;have D:=λ(i:Nat) (hi:WGo h (BH h) f n i)=>k6 c t hn.1 hn.2 hi;have E:=λ(i:Nat) (hi:WGo h (BH h) f n i)=>RN c hn.1 hn.2 i hi;obtain⟨-,-,-,-,P,Q,-,-⟩:=Ms h;refine AK (ι:={i:Nat//WGo h (BH h) f n i}) (λi=>⟨[(2,.p T3 (A1 h (BH h) f n i.1).2.2.2),(3,.bp 3 [] 0),(4,.bp 4 [] 0),(9,.sr 46 T3 0 (A1 h (BH h) f n i.1).2.1.length),(10,.sr 39 T3 0 (A1 h (BH h) f n i.1).1.length)],[(3,.box 31 true [.p WN h.1,.p YV h.2]),(4,.box 25 true [.p FY f]),(46,.arr 3 T3 (A1 h (BH h) f n i.1).2.1),(39,.arr 3 T3 (A1 h (BH h) f n i.1).1)]⟩) (λi=>f.length+1-i.1) ⟨0,λj w=>by omega⟩ (AC [(3,.nm 3),(4,.nm 4),(46,.nil),(39,.nil)] rfl rfl ?_ ?_) (λi=>?_)
  ·first|exact eN|refine eM ?_
   try exact⟨rfl,rfl⟩
  ·first|exact eN|refine eM ?_
   exact⟨rfl,rfl,rfl⟩
  ·obtain⟨i,hi⟩:=i;obtain⟨A,B,d⟩:=D i hi;obtain⟨C,L,o,M⟩:=E i hi;have N:=C.len;have O:=c.1;obtain⟨H,I,J,K⟩:=A8g h (BH h) (GJ f (A1 h (BH h) f n i).2.2.2);simp only;repeat'(first|exact trivial|refine eS rfl ?_|refine AB ?_|refine rX g ?_ ?_|refine rC ?_ ?_<;>intro b<;>try(cases b;done))
   ·have G:(A1 h (BH h) f n i).2.2.2∈(A1 h (BH h) f n i).1:=by simpa[xC] using b
    exact fI g [.tmp 6,.tmp 7,.tmp 8] (by rw[A G];exact eR)
   ·exact⟨⟨t,hk⟩,c,q,o⟩
   ·have a:(A1 h (BH h) f n i).2.2.2∉(A1 h (BH h) f n i).1:=by
     have k:xC (A1 h (BH h) f n i).1 (A1 h (BH h) f n i).2.2.2=false:=by assumption
     intro l;have:=AEd.1 k _ l;simp at this
    have b1:BQ h (BH h) (GJ f (A1 h (BH h) f n i).2.2.2)=1->Ak h f n=((A1 h (BH h) f n i).2.1,true,0):=λe=>by
     rw[d a (by rw[e];decide) (by rw[e];decide),show (A1 h (BH h) f n (i+1)).2.1=(A1 h (BH h) f n i).2.1 from An (by rw[e];decide),show (A1 h (BH h) f n (i+1)).2.2.1=true from ADZ e]
    have r:BQ h (BH h) (GJ f (A1 h (BH h) f n i).2.2.2)=3->Ak h f n=((A1 h (BH h) f n i).2.1,false,0):=λe=>by
     rw[d a (by rw[e];decide) (by rw[e];decide),show (A1 h (BH h) f n (i+1)).2.1=(A1 h (BH h) f n i).2.1 from An (by rw[e];decide),show (A1 h (BH h) f n (i+1)).2.2.1=false from AE0 (by rw[e];decide)]
    have m:=b1 (H b);refine FQ [46] ?_;exact fI g [.tmp 6,.tmp 7,.tmp 8] (by rw[m];exact eR)
   ·exact⟨⟨t,hk⟩,c,q,o⟩
   ·have a:(A1 h (BH h) f n i).2.2.2∉(A1 h (BH h) f n i).1:=by
     have k:xC (A1 h (BH h) f n i).1 (A1 h (BH h) f n i).2.2.2=false:=by assumption
     intro l;have:=AEd.1 k _ l;simp at this
    have b1:BQ h (BH h) (GJ f (A1 h (BH h) f n i).2.2.2)=1->Ak h f n=((A1 h (BH h) f n i).2.1,true,0):=λe=>by
     rw[d a (by rw[e];decide) (by rw[e];decide),show (A1 h (BH h) f n (i+1)).2.1=(A1 h (BH h) f n i).2.1 from An (by rw[e];decide),show (A1 h (BH h) f n (i+1)).2.2.1=true from ADZ e]
    have r:BQ h (BH h) (GJ f (A1 h (BH h) f n i).2.2.2)=3->Ak h f n=((A1 h (BH h) f n i).2.1,false,0):=λe=>by
     rw[d a (by rw[e];decide) (by rw[e];decide),show (A1 h (BH h) f n (i+1)).2.1=(A1 h (BH h) f n i).2.1 from An (by rw[e];decide),show (A1 h (BH h) f n (i+1)).2.2.1=false from AE0 (by rw[e];decide)]
    have m:=r (I b.1 b.2);refine FQ [46] ?_;exact fI g [.tmp 6,.tmp 7,.tmp 8] (by rw[m];exact eR)
   ·exact⟨⟨t,hk⟩,c,q,o⟩
   ·have a:(A1 h (BH h) f n i).2.2.2∉(A1 h (BH h) f n i).1:=by
     have k:xC (A1 h (BH h) f n i).1 (A1 h (BH h) f n i).2.2.2=false:=by assumption
     intro l;have:=AEd.1 k _ l;simp at this
    have b1:BQ h (BH h) (GJ f (A1 h (BH h) f n i).2.2.2)=1->Ak h f n=((A1 h (BH h) f n i).2.1,true,0):=λe=>by
     rw[d a (by rw[e];decide) (by rw[e];decide),show (A1 h (BH h) f n (i+1)).2.1=(A1 h (BH h) f n i).2.1 from An (by rw[e];decide),show (A1 h (BH h) f n (i+1)).2.2.1=true from ADZ e]
    have r:BQ h (BH h) (GJ f (A1 h (BH h) f n i).2.2.2)=3->Ak h f n=((A1 h (BH h) f n i).2.1,false,0):=λe=>by
     rw[d a (by rw[e];decide) (by rw[e];decide),show (A1 h (BH h) f n (i+1)).2.1=(A1 h (BH h) f n i).2.1 from An (by rw[e];decide),show (A1 h (BH h) f n (i+1)).2.2.1=false from AE0 (by rw[e];decide)]
    rename_i s z;have m:=B a (J s (z s) b);exact fI g [.tmp 6,.tmp 7,.tmp 8] (by rw[m];exact eR)
   ·simp only[AP];omega
   ·refine⟨⟨c,o⟩,?_⟩;simp only[AP];omega
   ·exact⟨c,o⟩
   ·have a:(A1 h (BH h) f n i).2.2.2∉(A1 h (BH h) f n i).1:=by
     have k:xC (A1 h (BH h) f n i).1 (A1 h (BH h) f n i).2.2.2=false:=by assumption
     intro l;have:=AEd.1 k _ l;simp at this
    have b1:BQ h (BH h) (GJ f (A1 h (BH h) f n i).2.2.2)=1->Ak h f n=((A1 h (BH h) f n i).2.1,true,0):=λe=>by
     rw[d a (by rw[e];decide) (by rw[e];decide),show (A1 h (BH h) f n (i+1)).2.1=(A1 h (BH h) f n i).2.1 from An (by rw[e];decide),show (A1 h (BH h) f n (i+1)).2.2.1=true from ADZ e]
    have r:BQ h (BH h) (GJ f (A1 h (BH h) f n i).2.2.2)=3->Ak h f n=((A1 h (BH h) f n i).2.1,false,0):=λe=>by
     rw[d a (by rw[e];decide) (by rw[e];decide),show (A1 h (BH h) f n (i+1)).2.1=(A1 h (BH h) f n i).2.1 from An (by rw[e];decide),show (A1 h (BH h) f n (i+1)).2.2.1=false from AE0 (by rw[e];decide)]
    rename_i s z;have v:=K s b;have y:(A1 h (BH h) f n (i+1)).2.1=(A1 h (BH h) f n i).2.1++[DH (List.getD f (A1 h (BH h) f n i).2.2.2.toNat (0,[])).2 (BH h).first]:=BY v;have x:(A1 h (BH h) f n (i+1)).1=(A1 h (BH h) f n i).1++[(A1 h (BH h) f n i).2.2.2]:=rfl;refine⟨⟨i+1,λj w=>(Nat.lt_succ_iff_lt_or_eq.1 w).elim (hi j) λe=>by rw[e];exact⟨v,a⟩⟩,by simp only;omega,AC [(3,.nm 3),(4,.nm 4),(46,.nm 46),(39,.nm 39)] rfl rfl ?_ ?_⟩
    ·simp only[y,x];first|exact eN|refine eM ?_
     rfl
    ·simp only[y,x];first|exact eN|refine eM ?_
     rfl
end
section
attribute [local go_sem] A4C PW Qy Qz atS cs4 cs5
theorem VP {h:AG} {f:List AD} (e:BP h f≠0):Ag h f=BP h f:=by
 unfold Ag;rw[An e]
theorem JO {h:AG} {f:List AD} (e:Ag h f=0):BP h f=0:=by
 unfold Ag at e;split at e
 ·assumption
 ·exact e
def A8h (h:AG) (f:List AD):Prop:=(eO h/\GH h)/\DF f/\UD f/\(BP h f=0->VF h f)
def OL:Aa:={ ins:=[ER,T27],pre:=λ(h,r,_)=>A8h h r.2.2,out:=λ(h,r,_)=>[.p Lo (CF h r.2.1 r.2.2)] }
attribute [local go_sem] OL
theorem A8i:Ad Tryz.prog 20 OL:=by
 refine z2 [0,1,2,3,4,5,6,7,8,9,10,11,12,20,26,33,38,48,70] [43] [] Tryz.func20 Tryz.ntmps20 (AF Zn (AF A0L (AF YF (AF A8N AH)))) ?_;rintro w0 O0 ⟨h,⟨nm,ar,f⟩,u⟩ g-hp;have hp:A8h h f:=hp;obtain⟨⟨w,hk⟩,hs,r,s⟩:=hp;have z:(h.1,h.2)=h:=rfl;have A:=Mt h;have i:CF h ar f=if ar<1\/2<ar then 2 else if Ag h f≠0 then Ag h f else if A8 h<0 then 13 else if (CR f 0 [A8 h]).2=false then 13
 else if (Ak h f (CR f 0 [A8 h]).1).2.2≠0\/(Ak h f (CR f 0 [A8 h]).1).2.1=false\/((Ak h f (CR f 0 [A8 h]).1).1.length:Int)≠ar then 13 else 0:=rfl
 simp only[OL,AM];repeat'(first|exact trivial|refine eS rfl ?_|refine AB ?_|refine rX g ?_ ?_|refine rC ?_ ?_<;>intro c<;>try(cases c;done))
 ·have d:CF h ar f=2:=i.trans (BY c);exact fI g [.tmp 4] (by rw[d];exact eR)
 ·exact⟨hs,r⟩
 ·have ha:¬((ar:Int)<1\/2<(ar:Int)):=by
   have a:(1:Int)<=(ar:Int)/\(ar:Int)<=2:=by assumption
   exact λq=>q.elim (λq=>absurd a.1 (oS.2 q)) λq=>absurd a.2 (oS.2 q)
  have c:BP h f≠0:=c;have d:CF h ar f=BP h f:=by rw[i,An ha,BY (by rw[VP c];exact c),VP c]
  exact fI g [.tmp 4] (by rw[d];exact eR)
 ·exact⟨w,hs,r⟩
 ·have ha:¬((ar:Int)<1\/2<(ar:Int)):=by
   have a:(1:Int)<=(ar:Int)/\(ar:Int)<=2:=by assumption
   exact λq=>q.elim (λq=>absurd a.1 (oS.2 q)) λq=>absurd a.2 (oS.2 q)
  have d:CF h ar f=Ag h f:=by rw[i,An ha,BY c]
  exact fI g [.tmp 4] (by rw[d];exact eR)
 ·have ha:¬((ar:Int)<1\/2<(ar:Int)):=by
   have a:(1:Int)<=(ar:Int)/\(ar:Int)<=2:=by assumption
   exact λq=>q.elim (λq=>absurd a.1 (oS.2 q)) λq=>absurd a.2 (oS.2 q)
  have j:Ag h f=0:=by
   have a:(Ag h f != 0)=false:=by assumption
   simpa using a
  have d:CF h ar f=13:=by rw[i,An ha,An (λq=>q j),BY (show A8 h<0 from c)]
  exact fI g [.tmp 4] (by rw[d];exact eR)
 ·have j:Ag h f=0:=by
   have a:(Ag h f != 0)=false:=by assumption
   simpa using a
  have vf:=s (JO j);exact⟨vf.good,vf.pos⟩
 ·have ha:¬((ar:Int)<1\/2<(ar:Int)):=by
   have a:(1:Int)<=(ar:Int)/\(ar:Int)<=2:=by assumption
   exact λq=>q.elim (λq=>absurd a.1 (oS.2 q)) λq=>absurd a.2 (oS.2 q)
  have j:Ag h f=0:=by
   have a:(Ag h f != 0)=false:=by assumption
   simpa using a
  have k:¬A8 h<0:=AAh.2 (by assumption);have d:CF h ar f=13:=by rw[i,An ha,An (λq=>q j),An k,BY (show (CR f 0 [A8 h]).2=false from c)]
  exact fI g [.tmp 4] (by rw[d];exact eR)
 ·have ha:¬((ar:Int)<1\/2<(ar:Int)):=by
   have a:(1:Int)<=(ar:Int)/\(ar:Int)<=2:=by assumption
   exact λq=>q.elim (λq=>absurd a.1 (oS.2 q)) λq=>absurd a.2 (oS.2 q)
  have j:Ag h f=0:=by
   have a:(Ag h f != 0)=false:=by assumption
   simpa using a
  have k:¬A8 h<0:=AAh.2 (by assumption);have vf:=s (JO j);have c:(CR f 0 [A8 h]).2=true:=c;have o:=eI vf _ c;rw[An ha,An (λq=>q j),An k,An (by rw[c];simp)]at i;have hn:=A1l h f _ vf.good vf.ty o.1 o.2;have v:YO (h.1,h.2) ⟨#[65,82,71,83]⟩=A8 h:=rfl;simp only[v]at *;generalize (CR f 0 [A8 h]).1=n at *;generalize y:Ak h f n=N at *;obtain⟨l,b,e⟩:=N;refine cP 4 g ?_ ?_
  ·trivial
  ·refine rM g (hn) [] [] ?_ ?_ ?_
   ·first|exact eN|refine eM ?_
   ·first|exact eN|refine eM ?_
   ·rintro _ B rfl;refine⟨[],.tup [.p Fv l,.p .bool b,.p Lo e],[],rfl,rfl,?_,?_,rfl,rfl,?_⟩
    ·first|exact eN|refine eM ?_
    ·first|exact eN|refine eM ?_
    ·refine rL g ?_ ?_
     ·trivial
     ·repeat'(first|exact trivial|refine eS rfl ?_|refine AB ?_|refine rX g ?_ ?_|refine rC ?_ ?_<;>intro c<;>try(cases c;done))
      ·have d:CF h ar f=13:=i.trans (BY (by
        rcases c with (q|q)|q
        ·exact .inl q
        ·exact .inr (.inl q)
        ·exact .inr (.inr q)))
       exact fI g [.tmp 4] (by rw[d];exact eR)
      ·have d:CF h ar f=0:=i.trans (An (by
        obtain⟨⟨x,t⟩,m⟩:=c;have m:((l.length:Int) != (ar:Int))=false:=m;rintro (q|q|q)
        ·exact q (by simpa using x)
        ·have q:b=false:=q;rw[q]at t;cases t
        ·exact q (by simpa using m)))
       exact fI g [.tmp 4] (by rw[d];exact eR)
end
section
attribute [local go_sem] PW LF Mj Xs ZZ RP cs4 cs5
theorem aK (e:Int):∀l:List (Int×Int),Yd l e=Ex l e
 | []=>rfl
 | a :: l=>by unfold Yd Ex;rw[aK e l]
def AA5:Aa:={ ins:=[DR,Fv],pre:=λ(f,_,_)=>AU f/\0<List.length f,out:=λ(f,p,_)=>[.p T3 (CR f 0 p).1,.p .bool (CR f 0 p).2] }
attribute [local go_sem] AA5
theorem AA6:Ad Tryz.prog 71 AA5:=by
 refine fK [0,1,2,4,5,6,7,8,9,13,27] Tryz.func71 Tryz.ntmps71 (AF A4a AH) ?_;rintro w0 O0 ⟨f,p,u⟩ g ⟨-,⟨l,-⟩,-⟩ ⟨hf,h0⟩;simp only[AP]at l;simp only[AA5,AM];repeat'(first|exact trivial|refine eS rfl ?_|refine AB ?_|refine rX g ?_ ?_|refine rC ?_ ?_<;>intro b<;>try(cases b;done))
 refine AK (ι:={s:Nat×Int//s.1<=p.length/\(0<=s.2/\s.2<(f.length:Int))/\CR f 0 p=CR f s.2 (p.drop s.1)}) (λs=>⟨[(1,.p Fv p),(2,.bp 2 [] 0),(6,.p (.int .i64) s.1.2),(7,.p (.int .i64) (s.1.1:Int))],[(2,.box 25 true [.p FY f])]⟩) (λs=>p.length-s.1.1) ⟨(0,0),IN _,⟨AEj 0,by show (0:Int)<_;omega⟩,rfl⟩ (AC [(2,.nm 2)] rfl rfl ?_ ?_) (λs=>?_)
 ·first|exact eN|refine eM ?_
 ·first|exact eN|refine eM ?_
 ·obtain⟨⟨k,n⟩,hk,hn,d⟩:=s;simp only at hk hn d ⊢;have h:=λe=>aK e (f.getD n.toNat (0,[])).2;repeat'(first|exact trivial|refine eS rfl ?_|refine AB ?_|refine rX g ?_ ?_|refine rC ?_ ?_<;>intro b<;>try(cases b;done))
  ·exact⟨b,hn⟩
  ·have c:k<p.length:=by exact eV
   rw[h]at b;have h1:CR f 0 p=(0,false):=by
    rw[d,KN c];simp only[CR];rw[An (by rw[AQ,b];simp)]
   exact fI g [.tmp 4,.tmp 5] (by rw[h1];exact eR)
  ·exact eV
  ·have c:k<p.length:=by exact eV
   rw[h]at b;have h1:=d;rw[KN c]at h1;simp only[CR]at h1;rw[BY b]at h1;obtain⟨a,ha,-,j⟩:=YB b;have i:=A6 hf ha;rw[j]at i;refine⟨⟨(k+1,(Ex (f.getD n.toNat (0,[])).2 (p.getD k 0)).1),c,i,h1⟩,by simp only;omega,AC [(2,.nm 2)] rfl rfl ?_ ?_⟩
   ·first|exact eN|refine eM ?_
   ·simp only;rw[<-h];first|exact eN|refine eM ?_
  ·have c:p.drop k=[]:=By (RY.1 b);rw[c]at d;exact fI g [.tmp 4,.tmp 5] (by rw[d];first|exact eR|refine WL ?_;exact⟨rfl,rfl⟩)
theorem A4L:Ad Tryz.prog 21 OL:=by
 refine z2 [0,1,2,3,4,5,6,7,8,9,10,18,24,30,35,45,67] [40] [] Tryz.func21 Tryz.ntmps21 (AF Za (AF oJ (AF eE (AF AA6 (AF pI AH))))) ?_;rintro w0 O0 ⟨h,⟨nm,ar,f⟩,u⟩ g-hp;have hp:A8h h f:=hp;obtain⟨⟨o,hk⟩,hs,s,j⟩:=hp;have r:(h.1,h.2)=h:=rfl;have t:=Mt h;have e:CF h ar f=if ar<1\/2<ar then 2 else if Ag h f≠0 then Ag h f else if A8 h<0 then 13 else if (CR f 0 [A8 h]).2=false then 13
 else if (Ak h f (CR f 0 [A8 h]).1).2.2≠0\/(Ak h f (CR f 0 [A8 h]).1).2.1=false\/((Ak h f (CR f 0 [A8 h]).1).1.length:Int)≠ar then 13 else 0:=rfl
 simp only[OL,AM];repeat'(first|exact trivial|refine eS rfl ?_|refine AB ?_|refine rX g ?_ ?_|refine rC ?_ ?_<;>intro b<;>try(cases b;done))
 ·have c:CF h ar f=2:=e.trans (BY b);exact fI g [.tmp 4] (by rw[c];exact eR)
 ·exact hs
 ·exact⟨o,hs,hk⟩
 ·have ha:¬((ar:Int)<1\/2<(ar:Int)):=by
   have a:(1:Int)<=(ar:Int)/\(ar:Int)<=2:=by assumption
   exact λq=>q.elim (λq=>absurd a.1 (oS.2 q)) λq=>absurd a.2 (oS.2 q)
  have c:CF h ar f=Ag h f:=by rw[e,An ha,BY b]
  exact fI g [.tmp 4] (by rw[c];exact eR)
 ·have ha:¬((ar:Int)<1\/2<(ar:Int)):=by
   have a:(1:Int)<=(ar:Int)/\(ar:Int)<=2:=by assumption
   exact λq=>q.elim (λq=>absurd a.1 (oS.2 q)) λq=>absurd a.2 (oS.2 q)
  have d:Ag h f=0:=by
   have a:(Ag h f != 0)=false:=by assumption
   simpa using a
  have c:CF h ar f=13:=by rw[e,An ha,An (λq=>q d),BY (show A8 h<0 from b)]
  exact fI g [.tmp 4] (by rw[c];exact eR)
 ·have d:Ag h f=0:=by
   have a:(Ag h f != 0)=false:=by assumption
   simpa using a
  have vf:=j (JO d);exact⟨vf.good,vf.pos⟩
 ·have ha:¬((ar:Int)<1\/2<(ar:Int)):=by
   have a:(1:Int)<=(ar:Int)/\(ar:Int)<=2:=by assumption
   exact λq=>q.elim (λq=>absurd a.1 (oS.2 q)) λq=>absurd a.2 (oS.2 q)
  have d:Ag h f=0:=by
   have a:(Ag h f != 0)=false:=by assumption
   simpa using a
  have i:¬A8 h<0:=AAh.2 (by assumption);have c:CF h ar f=13:=by rw[e,An ha,An (λq=>q d),An i,BY (show (CR f 0 [A8 h]).2=false from b)]
  exact fI g [.tmp 4] (by rw[c];exact eR)
 ·have d:Ag h f=0:=by
   have a:(Ag h f != 0)=false:=by assumption
   simpa using a
  have vf:=j (JO d);exact⟨hk,vf.good,vf.ty,eI vf _ b⟩
 ·have ha:¬((ar:Int)<1\/2<(ar:Int)):=by
   have a:(1:Int)<=(ar:Int)/\(ar:Int)<=2:=by assumption
   exact λq=>q.elim (λq=>absurd a.1 (oS.2 q)) λq=>absurd a.2 (oS.2 q)
  have d:Ag h f=0:=by
   have a:(Ag h f != 0)=false:=by assumption
   simpa using a
  have i:¬A8 h<0:=AAh.2 (by assumption);have vf:=j (JO d);have k:(CR f 0 [A8 h]).2=true:=by assumption
  rw[An ha,An (λq=>q d),An i,An (by rw[k];simp)]at e;have c:CF h ar f=13:=e.trans (BY (by
   rcases b with (q|q)|q
   ·exact .inl q
   ·exact .inr (.inl q)
   ·exact .inr (.inr q)))
  exact fI g [.tmp 4] (by rw[c];exact eR)
 ·have ha:¬((ar:Int)<1\/2<(ar:Int)):=by
   have a:(1:Int)<=(ar:Int)/\(ar:Int)<=2:=by assumption
   exact λq=>q.elim (λq=>absurd a.1 (oS.2 q)) λq=>absurd a.2 (oS.2 q)
  have d:Ag h f=0:=by
   have a:(Ag h f != 0)=false:=by assumption
   simpa using a
  have i:¬A8 h<0:=AAh.2 (by assumption);have vf:=j (JO d);have k:(CR f 0 [A8 h]).2=true:=by assumption
  rw[An ha,An (λq=>q d),An i,An (by rw[k];simp)]at e;have c:CF h ar f=0:=e.trans (An (by
   obtain⟨⟨l,p⟩,m⟩:=b;rintro (q|q|q)
   ·have l:((Ak h f (CR f 0 [A8 h]).1).2.2 != 0)=false:=l;exact q (by simpa using l)
   ·rw[show (Ak h f (CR f 0 [A8 h]).1).2.1=true from p]at q;cases q
   ·have m:(((Ak h f (CR f 0 [A8 h]).1).1.length:Int) != (ar:Int))=false:=m;exact q (by simpa using m)))
  exact fI g [.tmp 4] (by rw[c];exact eR)
 ·have ha:¬((ar:Int)<1\/2<(ar:Int)):=by
   have a:(1:Int)<=(ar:Int)/\(ar:Int)<=2:=by assumption
   exact λq=>q.elim (λq=>absurd a.1 (oS.2 q)) λq=>absurd a.2 (oS.2 q)
  have b:BP h f≠0:=b;have c:CF h ar f=BP h f:=by rw[e,An ha,BY (by rw[VP b];exact b),VP b]
  exact fI g [.tmp 4] (by rw[c];exact eR)
 all_goals
  exfalso;have n:¬BP h f=0:=by assumption
  have a:(BP h f != 0)=false:=by assumption
  exact n (by simpa using a)
end
section
attribute [local go_sem] Jh LF
end
section
attribute [local go_sem] KC aE PW Jh Mj OL cs1 cs2 cs3 cs4 cs5
def RQ:List AI:=Cu++[(⟨#[97,103,114]⟩,[⟨#[116,111,112]⟩],[]),(⟨#[115,103]⟩,[⟨#[97,103,114]⟩],[]),(⟨#[112,108]⟩,[⟨#[97,103,114]⟩],[])]++[(⟨#[99,97,116]⟩,[⟨#[115,105,103,110]⟩],[(⟨#[65,71,82]⟩,⟨#[97,103,114]⟩)])]++[(⟨#[100,101,116]⟩,[⟨#[99,97,116]⟩],[]),(⟨#[110]⟩,[⟨#[99,97,116]⟩],[]),(⟨#[110,112]⟩,[⟨#[99,97,116]⟩],[])]
def RR:Aa:={ ins:=[],pre:=λ_=>True,out:=λ_=>[.p FF RQ] }
attribute [local go_sem] RR
theorem pJ:Ad Tryz.prog 64 RR:=by
 refine z2 [0,1] [6,8,10,12,15,17,19,22,24,26,28] [] Tryz.func64 Tryz.ntmps64 (AF Wi AH) ?_;rintro w0 O0 u b - -;simp only[RR,AM];have a:Cu.length=13:=rfl;repeat'(first|exact trivial|refine eS rfl ?_|refine AB ?_|refine rX b ?_ ?_|refine rC ?_ ?_<;>intro c<;>try(cases c;done))
 ·rw[a];decide
 ·rw[a];decide
 ·rw[a];decide
 ·rw[a];decide
 ·refine FQ [2] ?_;exact fI b [.tmp 0] (by rw[show RQ=List.take (Cu.length+3+1+3) (List.take (Cu.length+3+1) (List.take (Cu.length+3) (Cu++[(⟨#[97,103,114]⟩,[⟨#[116,111,112]⟩],[]),(⟨#[115,103]⟩,[⟨#[97,103,114]⟩],[]),(⟨#[112,108]⟩,[⟨#[97,103,114]⟩],[])])++[(⟨#[99,97,116]⟩,[⟨#[115,105,103,110]⟩],[(⟨#[65,71,82]⟩,⟨#[97,103,114]⟩)])])++[(⟨#[100,101,116]⟩,[⟨#[99,97,116]⟩],[]),(⟨#[110]⟩,[⟨#[99,97,116]⟩],[]),(⟨#[110,112]⟩,[⟨#[99,97,116]⟩],[])]) from rfl];exact eR)
def Gg (h:AG) (fs:List ByteArray) (a:List Int) (n:Nat):List (Int×Int):=(List.range n).map λi=>(YO h (fs.getD i ByteArray.empty),a.getD i 0)
theorem k7 (h:AG) (fs:List ByteArray) (a:List Int) (n:Nat):Gg h fs a (n+1)=Gg h fs a n++[(YO h (fs.getD n ByteArray.empty),a.getD n 0)]:=by simp[Gg,TD]
theorem pK (h:AG) (fs:List ByteArray) (a:List Int) (n:Nat):(Gg h fs a n).length=n:=by simp[Gg]
def VQ:Aa:={ ins:=[ER,T9,Fy,Fv],pre:=λ(_,_,fs,a,_)=>List.length fs<=1000/\List.length fs<=List.length a,out:=λ(h,s,fs,a,_)=>[.p NJ (He h s,Gg h fs a (List.length fs))] }
attribute [local go_sem] VQ
theorem A1m:Ad Tryz.prog 65 VQ:=by
 refine z2 [0,1,2,3,4,8,9,10,18] [34] [] Tryz.func65 Tryz.ntmps65 (AF Nf (AF eE AH)) ?_;rintro w0 O0 ⟨h,s,fs,b,u⟩ c-⟨f,e⟩;have f:fs.length<=1000:=f;have e:fs.length<=b.length:=e;simp only[VQ,AM];have l:(h.1,h.2)=h:=rfl;repeat'(first|exact trivial|refine eS rfl ?_|refine AB ?_|refine rX c ?_ ?_|refine rC ?_ ?_<;>intro a<;>try(cases a;done))
 refine AK (ι:={k:Nat//k<=fs.length}) (λk=>⟨[(2,.p Fy fs),(3,.p Fv b),(4,.bp 4 [] 0),(8,.bp 8 [] 0),(9,.bp 9 [] 0),(10,.p (.int .i64) (k.1:Int))],[(4,.box 31 true [.p WN h.1,.p YV h.2]),(8,.box 93 true [.p T3 (0:Int),.raw (.slice none 0 0)]),(9,.box 93 true [.p T3 (He h s),.sr 35 AW 0 (Gg h fs b k.1).length]),(35,.arr 106 AW (Gg h fs b k.1))]⟩) (λk=>fs.length-k.1) ⟨0,IN _⟩ (AC [(4,.nm 4),(8,.nm 8),(9,.nm 9),(35,.nil)] rfl rfl ?_ ?_) (λk=>?_)
 ·first|exact eN|refine eM ?_
  exact⟨rfl,rfl⟩
 ·first|exact eN|refine eM ?_
 ·obtain⟨k,hk⟩:=k;have i:=pK h fs b k;have j:=k7 h fs b k;simp only;repeat'(first|exact trivial|refine eS rfl ?_|refine AB ?_|refine rX c ?_ ?_|refine rC ?_ ?_<;>intro a<;>try(cases a;done))
  ·have d:k<fs.length:=IS.1 a;refine⟨a,IS.2 (AAi d e),?_⟩;rw[i];simp only[AP];omega
  ·omega
  ·have d:k<fs.length:=IS.1 a;refine⟨⟨k+1,d⟩,by simp only;omega,AC [(4,.nm 4),(8,.nm 8),(9,.nm 9),(35,.nm 35)] rfl rfl ?_ ?_⟩
   ·simp only[j];first|exact eN|refine eM ?_
    try rfl
   ·first|exact eN|refine eM ?_
  ·have g:k=fs.length:=AEi hk (RY.1 a);subst g;exact fI c [.cell 8 93]
theorem ADl (d:List AI):d7 (IP d):=by
 unfold IP;split
 ·exact RF d
 ·exact RF Cu
theorem k8 (d:List AI):Xq (IP d):=by
 unfold IP;split
 ·exact Mo d
 ·exact Mo Cu
theorem S5 {h:AG} (hh:d7 h) {f:List AD} (c:Fb f=true):A8h h f:=by
 obtain⟨h1,b⟩:=JG c;refine⟨⟨hh.ft,hh.ok⟩,⟨Rc h1 (by decide),λx a=>Rc (b x a) (by decide)⟩,λx a=>Rc (b x a) (by decide),λd=>?_⟩;refine(A4p hh.b1 hh.b2 ?_).1;unfold cZ;rw[c,d];rfl
end
def Cp:Nat->List Int->Int->Int
 | 0,_,n=>n
 | k+1,p,n=>if EO p n=n then n else Cp k p (EO p n)
def YJ (p:List Int) (n:Int):Bool:=EO p (Cp 100 p n)==Cp 100 p n
theorem k9 {p:List Int}:∀ {k:Nat} {n:Int},EO p (Cp k p n)=Cp k p n->Rt p n (Cp k p n)
 | 0,n,h=>.base h
 | k+1,n,h=>by
  unfold Cp at h ⊢;split
  ·rename_i e;exact .base e
  ·rename_i e;rw[An e]at h;exact .step e (k9 h)
theorem YK {p:List Int} {n:Int} (h:YJ p n=true):Rt p n (Cp 100 p n):=k9 (by unfold YJ at h;simpa using h)
abbrev ClD:=List Int×List Int×List (List (Int×Int))
def aL (h:AG):Nat->ClD->List (Int×Int)->Option (Option ClD)
 | 0,_,_=>none
 | k+1,s,W=>match W.getLast? with
  | none=>some (some s)
  | some w =>
   if (YJ s.1 w.1&&YJ s.1 w.2)=true then
    if Cp 100 s.1 w.1=Cp 100 s.1 w.2 then aL h k s W.dropLast
    else if (Bm h (s.2.1.getD (Cp 100 s.1 w.1).toNat 0) (s.2.1.getD (Cp 100 s.1 w.2).toNat 0)).2=false then some none
    else aL h k (s.1.set (Cp 100 s.1 w.2).toNat (Cp 100 s.1 w.1),s.2.1.set (Cp 100 s.1 w.1).toNat (Bm h (s.2.1.getD (Cp 100 s.1 w.1).toNat 0) (s.2.1.getD (Cp 100 s.1 w.2).toNat 0)).1,s.2.2.set (Cp 100 s.1 w.1).toNat (Bz (s.2.2.getD (Cp 100 s.1 w.1).toNat []) (s.2.2.getD (Cp 100 s.1 w.2).toNat [])).1)
     (W.dropLast++(Bz (s.2.2.getD (Cp 100 s.1 w.1).toNat []) (s.2.2.getD (Cp 100 s.1 w.2).toNat [])).2)
   else none
theorem A8j {α:Type} {W:List α} {w:α} (h:W.getLast?=some w):W=W.dropLast++[w]:=by
 obtain⟨a,e⟩:=List.getLast?_eq_some_iff.1 h;rw[e];simp
theorem YL {h:AG} (hk:GH h) {N:List AD} {P:List (Int×Int)}:∀(k:Nat) (s:ClD) (W:List (Int×Int)),JI h N P s.1 s.2.1 s.2.2 W ->
  (∀t,aL h k s W=some (some t)->JI h N P t.1 t.2.1 t.2.2 [])/\(aL h k s W=some none->∀X v,De h X->¬Zt h N P X v)
 | 0,s,W,a=>⟨λt e=>(by cases e),λe=>(by cases e)⟩
 | k+1,s,W,a=>by
  unfold aL;cases g:W.getLast? with
  | none =>
   have:W=[]:=List.getLast?_eq_none_iff.1 g;subst this;refine⟨λt e=>?_,λe=>(by cases e)⟩;have e:s=t:=by simpa using e
   rw[<-e];exact a
  | some w =>
   simp only;have i:=A8j g;obtain⟨x,y⟩:=w;rw[i]at a;by_cases c:(YJ s.1 x&&YJ s.1 y)=true
   ·rw[BY c];rw[AT]at c;have ha:=YK c.1;have d:=YK c.2;by_cases f:Cp 100 s.1 x=Cp 100 s.1 y
    ·rw[BY f];rw[<-f]at d;exact YL hk k s _ (dK a ha d)
    ·rw[An f];by_cases b:(Bm h (s.2.1.getD (Cp 100 s.1 x).toNat 0) (s.2.1.getD (Cp 100 s.1 y).toNat 0)).2=false
     ·rw[BY b];refine⟨λt e=>(by cases e),λ_ X v j l=>?_⟩;have:=(VG hk a ha d j l).2.1;rw[b]at this;cases this
     ·rw[An b];have b:(Bm h (s.2.1.getD (Cp 100 s.1 x).toNat 0) (s.2.1.getD (Cp 100 s.1 y).toNat 0)).2=true:=by simpa using b
      exact YL hk k _ _ (XV hk a ha d f b)
   ·rw[An c];exact⟨λt e=>(by cases e),λe=>(by cases e)⟩
def S6 (h:AG):ClD->List (Int×Int)->Option (Option ClD)
 | s,[]=>some (some s)
 | s,q :: P=>match aL h 1000 s [q] with
  | some (some t)=>S6 h t P
  | r=>r
theorem aM {h:AG} (hk:GH h) {N:List AD}:∀(R P:List (Int×Int)) (s:ClD),(∀q∈R,(0<=q.1/\q.1<(N.length:Int))/\(0<=q.2/\q.2<(N.length:Int)))->JI h N P s.1 s.2.1 s.2.2 [] ->
  (∀t,S6 h s R=some (some t)->JI h N (P++R) t.1 t.2.1 t.2.2 [])/\(S6 h s R=some none->∀X v,De h X->¬Zt h N (P++R) X v)
 | [],P,s,g,f=>⟨λt e=>by
   have e:s=t:=by simpa[S6] using e
   rw[<-e,Rq];exact f,λe=>(by cases e)⟩
 | q :: R,P,s,g,f=>by
  obtain⟨a,b⟩:=q;have c:=g (a,b) (by simp);obtain⟨m,n⟩:=YL hk 1000 s [(a,b)] (XW f c.1 c.2);have i:P++(a,b) :: R=P++[(a,b)]++R:=by simp
  unfold S6;rw[i];split
  ·rename_i t l;exact aM hk R (P++[(a,b)]) t (λq c=>g q (by simp[c])) (m t l)
  ·rename_i r k;refine⟨λt e=>absurd e (k t),λe X v j d=>n e X v j ⟨d.rng,d.ty,d.arc,λq c=>d.eq q (TB _ c)⟩⟩
def A8k (s:ClD):List AD:=(List.range s.1.length).map λk=>(s.2.1.getD k 0,(s.2.2.getD k []).map λa=>(a.1,Cp 100 s.1 a.2))
def eK (s:ClD):Bool:=(List.range s.1.length).all λ(k:Nat)=>YJ s.1 (k:Int)
theorem aN {h:AG} {N:List AD} {P:List (Int×Int)} {s:ClD} (b:JI h N P s.1 s.2.1 s.2.2 []) (a:eK s=true) {x:Int} (c:0<=x) (e:x<(N.length:Int)):Cp 100 s.1 x=Ed s.1 x:=by
 unfold eK at a;rw[If]at a;have d:=b.lp;have:=a x.toNat (Ri.2 (by omega));rw[AA7 c]at this;rw[dP (YK this)]
theorem A8l {h:AG} {N:List AD} {P:List (Int×Int)} {s:ClD} (b:JI h N P s.1 s.2.1 s.2.2 []) (c:eK s=true):A8k s=quo s.1 s.2.1 s.2.2:=by
 unfold A8k quo;refine Rf λk _=>?_
 congr 1
 refine Rf λa ha=>?_;have:=(b.arr k a ha).1;rw[aN b c this.1 this.2]
def A4N (N:List AD):ClD:=(Co 0 N.length,Mn N,UI N)
def A8m (h:AG) (N:List AD) (P:List (Int×Int)):Option (List AD×Bool):=match S6 h (A4N N) P with
 | some (some s)=>if eK s=true then some (AN (A8k s) (Cp 100 s.1 0),true) else none
 | some none=>some ([],false)
 | none=>none
theorem A8n {h:AG} (hk:GH h) {N:List AD} (j:AU N) (k:De h N) (hs:∀x∈N,NX x.2) (h0:0<N.length) {P:List (Int×Int)} (i:∀q∈P,(0<=q.1/\q.1<(N.length:Int))/\(0<=q.2/\q.2<(N.length:Int))) :
  (∀a,A8m h N P=some (a,true)->∃p ty ar,JI h N P p ty ar []/\a=AN (quo p ty ar) (Ed p 0))/\(∀a,A8m h N P=some (a,false)->a=[]/\∀X v,De h X->¬Zt h N P X v):=by
 obtain⟨f,g⟩:=aM hk P [] (A4N N) i (dU j k hs);rw[AE7]at f g;unfold A8m;split
 ·rename_i s c;have b:=f s c;split
  ·rename_i d;refine⟨λa e=>⟨s.1,s.2.1,s.2.2,b,?_⟩,λa e=>(by cases e)⟩;have e:AN (A8k s) (Cp 100 s.1 0)=a:=by simpa using e
   rw[<-e,A8l b d,aN b d (by omega) (by omega)]
  ·exact⟨λa e=>(by cases e),λa e=>(by cases e)⟩
 ·rename_i c;refine⟨λa e=>(by cases e),λa e=>⟨?_,g c⟩⟩;have e:[]=a:=by simpa using e
  exact e.symm
 ·exact⟨λa e=>(by cases e),λa e=>(by cases e)⟩
def pL (h:AG) (a b:List AD):Option (List AD×Bool):=A8m h (Cb a b) [(0,(a.length:Int))]
theorem aO {h:AG} (hu:HU h) {a b:List AD} (va:VF h a) (c:VF h b) (s:a.length+b.length<=10000) {r:List AD×Bool} (g:pL h a b=some r):EV h a b=r:=by
 have n:=E7 a b;have hap:=va.pos;have o:=c.pos;obtain⟨d,z⟩:=r;have i:=PO va.good c.good (by omega);obtain⟨l,m⟩:=A8n hu.ok (N:=Cb a b) i (Xk va.ty c.ty) (Nb va.str c.str) (by omega) (P:=[(0,(a.length:Int))]) (λq k=>by
  have e:q=(0,(a.length:Int)):=by simpa using k
  subst e;simp only;omega)
 cases z with
 | true =>
  obtain⟨p,ty,ar,f,rfl⟩:=l d g;exact UG hu (dS va c f (Xm f (by omega) (Xl (va.ft64 hu) (c.ft64 hu))))
 | false =>
  obtain⟨rfl,j⟩:=m d g;exact Zz va c j
def roB (f:List AD):Bool:=(List.range f.length).all λ(i:Nat)=>i==0||(List.range i).any λj=>(f.getD j (0,[])).2.any λa=>a.2==(i:Int)
def A8o:List (Int×Int)->Bool
 | a :: b :: l=>decide (a.1<b.1)&&A8o (b :: l)
 | _=>true
theorem yV:∀ {l:List (Int×Int)},A8o l=true->NX l
 | [],_=>.nil
 | [a],_=>List.pairwise_singleton _ _
 | a :: b :: l,h=>by
  simp only[A8o,AT,Ff]at h;have e:=yV h.2;refine TA.2 ⟨λc d=>?_,e⟩;rcases DO.1 d with rfl|d
  ·exact h.1
  ·have:=(TA.1 e).1 c d;omega
def vfB (h:AG) (f:List AD):Bool :=
 decide (0<f.length)&&decide (f.length<=100)&&roB f&&(AN f 0==f)&&f.all λx=>decide (0<=x.1)&&decide (x.1<(h.1.length:Int))&&decide (x.2.length<=100)&&A8o x.2&&x.2.all λa=>decide (0<=a.1)&&decide (a.1<(h.2.length:Int))&&decide (0<=a.2)&&decide (a.2<(f.length:Int))
theorem PZ {h:AG} {f:List AD} (g:vfB h f=true):VF h f:=by
 unfold vfB at g;simp only[AT,Ff,If,TC]at g;obtain⟨⟨⟨⟨h1,m⟩,d⟩,l⟩,c⟩:=g;refine⟨⟨by omega,λx b=>⟨by have:=(c x b).1.1.2;omega,λa ha=>?_⟩⟩,h1,λx b=>?_,λx b=>?_,λx b a ha=>?_,l,λi n o=>?_⟩
 ·have:=(c x b).2 a ha;exact⟨this.1.2,this.2⟩
 ·exact(c x b).1.1.1
 ·exact yV (c x b).1.2
 ·exact((c x b).2 a ha).1.1
 ·unfold roB at d;rw[If]at d;have:=d i.toNat (Ri.2 (by omega));rw[S8,TC]at this;rcases this with e|e
  ·omega
  ·obtain⟨j,k,e⟩:=Rd.1 e;obtain⟨a,ha,e⟩:=Rd.1 e;have k:=Ri.1 k;refine⟨(j:Int),by omega,by omega,a,by rw[AQ,Rb];exact ha,?_⟩;have e:a.2=(i.toNat:Int):=by simpa using e
   omega
def JP:AG:=([(⟨#[116,111,112]⟩,[1048575],[],[]),(⟨#[115,105,103,110]⟩,[265226],[0],[(1,5),(12,18)]),(⟨#[99,97,116]⟩,[3082],[1],[(0,4),(1,5),(12,18)]),(⟨#[105,110,100,101,120]⟩,[480],[0],[]),(⟨#[97,103,114]⟩,[139265],[0],[]),(⟨#[108,105,115,116]⟩,[4612],[0],[]),(⟨#[99,111,110,115]⟩,[4],[5],[(3,0),(11,5)]),(⟨#[100,101,116]⟩,[8],[2],[(0,4),(1,5),(12,18)]),(⟨#[100,108,105,115,116]⟩,[16],[0],[(7,5),(8,5)]),(⟨#[101,110,116,105,116,121]⟩,[32],[3],[]),(⟨#[101,118,101,110,116]⟩,[64],[3],[]),(⟨#[104,97,110,100,108,101]⟩,[128],[3],[]),(⟨#[110]⟩,[1024],[2],[(0,4),(1,5),(12,18)]),(⟨#[110,112]⟩,[2048],[2],[(0,4),(1,5),(12,18)]),(⟨#[110,117,108,108]⟩,[4096],[5],[]),(⟨#[112,108]⟩,[8192],[4],[]),(⟨#[113,101,113]⟩,[16384],[0],[(4,11),(9,11)]),(⟨#[114,101,108]⟩,[32768],[0],[(6,11)]),(⟨#[115,101,109]⟩,[65536],[0],[(2,8),(5,3),(10,8),(13,11)]),(⟨#[115,103]⟩,[131072],[4],[])],[(⟨#[65,71,82]⟩,2),(⟨#[65,82,71,83]⟩,1),(⟨#[67,79,78,83]⟩,18),(⟨#[70,73,82,83,84]⟩,6),(⟨#[72,73,71,72]⟩,16),(⟨#[73,78,68,69,88]⟩,18),(⟨#[76,65,66,69,76]⟩,17),(⟨#[76,65,83,84]⟩,8),(⟨#[76,73,83,84]⟩,8),(⟨#[76,79,87]⟩,16),(⟨#[82,69,76,83]⟩,18),(⟨#[82,69,83,84]⟩,6),(⟨#[83,69,77]⟩,1),(⟨#[84,79,80]⟩,18)])
def pM:List AD:=[(13,[(0,1),(1,2)]),(4,[]),(6,[(3,3),(11,4)]),(7,[(0,1)]),(6,[(3,5),(11,6)]),(12,[(0,1)]),(14,[])]
def lC:List AD:=[(7,[(0,1)]),(19,[])]
def exN:List AD:=[(12,[])]
def exM:List AD:=[(13,[(0,1)]),(4,[])]
def exW:List AD:=[(13,[(0,1)]),(19,[])]
def exF:List AD:=[(13,[(0,1),(1,2)]),(19,[]),(6,[(3,3),(11,4)]),(7,[(0,1)]),(6,[(3,5),(11,6)]),(12,[(0,1)]),(14,[])]
instance baDecK:DecidableEq ByteArray:=λa b =>
 if h:a.data.toList=b.data.toList then isTrue (by
  cases a
  cases b
  exact ADB ByteArray.mk (Array.toList_inj.1 h))
 else isFalse λe=>h (by rw[e])
theorem A8q:((IP RQ).1:List (ByteArray×List Int×List Int×List (Int×Int)))=JP.1:=by decide +kernel
theorem A8r:((IP RQ).2:List (ByteArray×Int))=JP.2:=by decide +kernel
theorem pN:IP RQ=JP:=AFC A8q A8r
theorem S7:d7 JP:=by rw[<-pN];exact ADl _
theorem yW:Xq JP:=by rw[<-pN];exact k8 _
theorem lA:VF JP pM:=PZ (by decide +kernel)
theorem A4O:VF JP lC:=PZ (by decide +kernel)
theorem ADm:VF JP exN:=PZ (by decide +kernel)
theorem A8P:VF JP exF:=PZ (by decide +kernel)
theorem A8Q:CF JP 2 pM=0:=by decide +kernel
theorem ADn:CF JP 1 pM=13:=by decide +kernel
theorem ADo {h:AG} (hh:d7 h) {a b u:List AD} {r:List AD×Bool} (va:VF h a) (e:VF h b) (d:a.length+b.length<=10000) (h1:pL h a b=some (u,true)) (c:Ge h u=r):HO h a b=r:=by
 unfold HO;rw[aO hh.hu va e d h1,BY rfl];exact c
theorem ADp {h:AG} (hh:d7 h) {a b:List AD} (va:VF h a) (d:VF h b) (c:a.length+b.length<=10000) (h1:pL h a b=some ([],false)):HO h a b=([],false):=by
 unfold HO;rw[aO hh.hu va d c h1,An (by simp)]
theorem A8R:Gf JP 0=[1,3]:=by decide +kernel
theorem A8S:Gf JP 1=[1,11,3]:=by decide +kernel
theorem AA8:VF JP (Aq [1,3] lC):=PZ (by decide +kernel)
theorem AA9:VF JP (Aq [1,11,3] exN):=PZ (by decide +kernel)
theorem AAa:VF JP (Aq [1,11,3] lC):=PZ (by decide +kernel)
theorem A8T:HO JP pM (Aq [1,3] lC)=(exF,true):=ADo S7 (u:=exF) lA AA8 (by decide) (by decide +kernel) (by decide +kernel)
theorem ADq:HO JP exF (Aq [1,11,3] exN)=(exF,true):=ADo S7 (u:=exF) A8P AA9 (by decide) (by decide +kernel) (by decide +kernel)
theorem ADr:HO JP exF (Aq [1,11,3] lC)=([],false):=ADp S7 A8P AAa (by decide) (by decide +kernel)
theorem ADs:Ie exF (A8 JP)=exW:=by decide +kernel
theorem ADt:Ie pM (A8 JP)=exM:=by decide +kernel
theorem A4P:PU JP 2 pM:=yS (λ_=>lA) A8Q
theorem ADu:EW JP 2 pM [lC,exN]=(exW,true):=by
 have h1:CX JP (Gf JP) 0 pM [lC,exN]=(exF,true):=by
  unfold CX;rw[A8R,A8T,BY rfl];unfold CX;rw[A8S,ADq,BY rfl];rfl
 unfold EW;rw[An (by decide),h1,BY rfl,ADs]
theorem ADv:EW JP 2 pM [lC,lC]=([],false):=by
 have h1:CX JP (Gf JP) 0 pM [lC,lC]=([],false):=by
  unfold CX;rw[A8R,A8T,BY rfl];unfold CX;rw[A8S,ADr,An (by simp)]
 unfold EW;rw[An (by decide),h1,An (by simp)]
theorem ADw:EW JP 2 pM [lC]=([],false):=BY (by decide)
theorem AAb:RA JP 2 pM [lC,exN]:=⟨S7,yW,lA,by decide,A4P,λx a=>by
 rcases DO.1 a with rfl|a
 ·exact⟨A4O,by decide⟩
 ·rw[Rm.1 a];exact⟨ADm,by decide⟩,by decide⟩
theorem AAc:RA JP 2 pM [lC,lC]:=⟨S7,yW,lA,by decide,A4P,λx a=>by
 rcases DO.1 a with rfl|a
 ·exact⟨A4O,by decide⟩
 ·rw[Rm.1 a];exact⟨A4O,by decide⟩,by decide⟩
section
attribute [local go_sem] KE KC
def aP:Aa:={ ins:=[FF],pre:=λ_=>True,out:=λ(d,_)=>[.p ER (IP d)] }
theorem yX:Ad Tryz.prog 17 aP:=by
 refine fK [0,2,3,4,5,9,16] Tryz.func17 Tryz.ntmps17 (AF nK (AF Wi AH)) ?_;rintro w0 O0 ⟨d,u⟩ a - -;simp only[aP,AM];repeat'(first|exact trivial|refine eS rfl ?_|refine AB ?_|refine rX a ?_ ?_|refine rC ?_ ?_<;>intro b<;>try(cases b;done))
 ·have h1:IP d=(Au d).1:=by unfold IP;rw[BY ⟨by exact eV,b⟩]
  exact fI a [.cell 2 31] (by rw[h1];exact eR)
 ·have h1:IP d=(Au Cu).1:=by unfold IP;rw[An (λh=>b h.2)]
  exact fI a [.cell 2 31] (by rw[h1];exact eR)
 ·have h1:IP d=(Au Cu).1:=by
   unfold IP;rw[An];intro h;have:=h.1;exact eV
  exact fI a [.cell 2 31] (by rw[h1];exact eR)
end
section
attribute [local go_sem] RR aP VQ aE Wu PY OL LM IR cs1 cs2 cs3 cs4 cs5
def aQ:Aa:={ ins:=[],pre:=λ_=>True,out:=λ_=>[.p .bool true] }
attribute [local go_sem] aQ
theorem A8s:Ad Tryz.prog 19 aQ:=by
 refine z2 [0,1,2,3,4,5,6,7,9,11] [15,16,21,22,25,26,29,30,33,34,38,42,43,47,50,51,55,58,59,63,72,80,89] [] Tryz.func19 Tryz.ntmps19 (AF pJ (AF yX (AF A1m (AF Nf (AF xD (AF kX (AF A8i (AF aI (AF Wo AH))))))))) ?_;rintro w0 O0 u a - -;simp only[aQ,AM];have c:=pN;have h14:=S7;have s:=ADu;have t:=ADv;have v:=ADw;have w:=AAb;have x:=AAc;have c1:=ADn;have c2:=A8Q;have p:=ADt;have y:=lA;have i:He JP ⟨#[110,112]⟩=13:=by decide +kernel
 have j:He JP ⟨#[97,103,114]⟩=4:=by decide +kernel
 have k:He JP ⟨#[99,111,110,115]⟩=6:=by decide +kernel
 have l:He JP ⟨#[100,101,116]⟩=7:=by decide +kernel
 have m:He JP ⟨#[110]⟩=12:=by decide +kernel
 have n:He JP ⟨#[110,117,108,108]⟩=14:=by decide +kernel
 have o:He JP ⟨#[115,103]⟩=19:=by decide +kernel
 have d:Gg JP [⟨#[65,71,82]⟩,⟨#[65,82,71,83]⟩] [1,2] 2=[(0,1),(1,2)]:=by decide +kernel
 have e:Gg JP [⟨#[70,73,82,83,84]⟩,⟨#[82,69,83,84]⟩] [3,4] 2=[(3,3),(11,4)]:=by decide +kernel
 have f:Gg JP [⟨#[65,71,82]⟩] [1] 1=[(0,1)]:=by decide +kernel
 have g:Gg JP [⟨#[70,73,82,83,84]⟩,⟨#[82,69,83,84]⟩] [5,6] 2=[(3,5),(11,6)]:=by decide +kernel
 have p0:Gg JP [] [] 0=[]:=rfl;have D:pM=[(13,[(0,1),(1,2)]),(4,[]),(6,[(3,3),(11,4)]),(7,[(0,1)]),(6,[(3,5),(11,6)]),(12,[(0,1)]),(14,[])]:=rfl;have A:lC=[(7,[(0,1)]),(19,[])]:=rfl;have C:exN=[(12,[])]:=rfl;have B:exM=[(13,[(0,1)]),(4,[])]:=rfl;have E:exW=[(13,[(0,1)]),(19,[])]:=rfl;have F:Fb pM=true:=by decide +kernel
 have r:=S5 h14 F;simp only[D,A,C,B,E]at s t v w x c1 c2 p y r;generalize JP=h at *;have b:(h.1,h.2)=h:=rfl;repeat'(first|exact trivial|refine eS rfl ?_|refine AB ?_|refine rP a ?_ ?_|fail)
 simp only[c];refine rT 1 a ?_ ?_
 ·first|trivial|exact⟨by decide,by decide⟩|trace_state
 ·simp only[c,b,i,j,k,l,m,n,o,p0,d,e,f,g];refine eS rfl ?_;refine rT 1 a ?_ ?_
  ·first|trivial|exact⟨by decide,by decide⟩|trace_state
  ·simp only[c,b,i,j,k,l,m,n,o,p0,d,e,f,g];refine eS rfl ?_;refine rT 1 a ?_ ?_
   ·first|trivial|exact⟨by decide,by decide⟩|trace_state
   ·simp only[c,b,i,j,k,l,m,n,o,p0,d,e,f,g];refine eS rfl ?_;refine rT 1 a ?_ ?_
    ·first|trivial|exact⟨by decide,by decide⟩|trace_state
    ·simp only[c,b,i,j,k,l,m,n,o,p0,d,e,f,g];repeat'(first|exact trivial|refine eS rfl ?_|refine AB ?_|refine rP a ?_ ?_|fail)
     refine Cf drawsAny a 13 [([0,1,2,3,4,5,6,7,8,9,11],12)] [10] (by kernel_rfl) (Ni ?_ ?_)
     ·simp only[c,b,i,j,k,l,m,n,o,p0,d,e,f,g];exact λ_=>w
     ·simp only[c,b,i,j,k,l,m,n,o,p0,d,e,f,g];refine Pa a [] ?_ ?_
      ·trivial
      ·refine UY a ?_ ?_ ?_
       ·trivial
       ·simp only[c,b,i,j,k,l,m,n,o,p0,d,e,f,g]
       ·simp only[s];refine eS rfl ?_;refine rP a ?_ ?_
        ·simp only[c,b,i,j,k,l,m,n,o,p0,d,e,f,g];exact λq=>absurd q (by decide)
        ·simp only[c,b,i,j,k,l,m,n,o,p0,d,e,f,g];simp only[v];refine eS rfl ?_;refine rP a ?_ ?_
         ·simp only[c,b,i,j,k,l,m,n,o,p0,d,e,f,g];exact λ_=>x
         ·simp only[c,b,i,j,k,l,m,n,o,p0,d,e,f,g];simp only[t];repeat'(first|exact trivial|refine eS rfl ?_|refine AB ?_|refine rX a ?_ ?_|refine rC ?_ ?_<;>intro z<;>try(cases z;done))
          ·simp only[b,c2,p];exact⟨r,λ_=>⟨by decide,by decide⟩,λ_=>⟨h14.hu,y⟩,λ_=>⟨⟨by decide,by decide⟩,by decide,by decide⟩,λ_=>r⟩
          ·simp only[b,c1,c2,p,Gk];exact fI a [.tmp 0]
end
section
attribute [local go_sem] PW A1i ZZ cs4 cs5 qP A9o ne_eq not_false_eq_true
end
section
attribute [local go_sem] PW A1i LM S4 A4D PY cs4 cs5
end
section
attribute [local go_sem] aP Jh aQ OL PY IR
theorem A4Q {h:AG} (hh:d7 h) {ar:Int} {f:List AD} (a:Fb f=true) (c:CF h ar f=0):VF h f/\f.length<=12/\PU h ar f:=by
 obtain⟨-,-,-,b⟩:=S5 hh a;have ok:=yS (λe=>b (JO e)) c;exact⟨b (JO ok.chk),(JG a).1,ok⟩
end
section
attribute [local go_sem] aP Jh aQ OL S4 LM IR
end
section
attribute [local go_sem] aP Jh aQ OL S4 LM PY Wu IR
noncomputable def Li (h:AG) (f:List AD) (n:Nat):List (List AD):=(List.range n).map λi=>RK f (Gf h i)
def OM (n:Nat):List (List AD):=List.replicate n [((0:Int),[])]
theorem A1n (h:AG) (f:List AD) (n:Nat):Li h f (n+1)=Li h f n++[RK f (Gf h n)]:=by simp[Li,TD]
theorem RS (h:AG) (f:List AD) (n:Nat):(Li h f n).length=n:=by simp[Li]
theorem A1o (n:Nat):OM (n+1)=OM n++[[((0:Int),[])]]:=AEH
theorem RT (n:Nat):(OM n).length=n:=AEB
theorem A4R (h:AG) (f:List AD) {n i:Nat} (hi:i<n):(Li h f n).getD i []=RK f (Gf h i):=by simp[Li,AS,hi]
theorem A4S {n i:Nat} (hi:i<n):(OM n).getD i []=[((0:Int),[])]:=by simp[OM,AS,hi]
theorem yY {h:AG} {ar:Int} {f:List AD} (hh:d7 h) (a:Xq h) (vf:VF h f) (lf:f.length<=12) (ok:PU h ar f):RA h ar f (Li h f ar.toNat)/\RA h ar f (OM ar.toNat):=by
 have e:=ok.arb;refine⟨⟨hh,a,vf,lf,ok,λx b=>?_,by rw[RS];omega⟩,⟨hh,a,vf,lf,ok,λx b=>?_,by rw[RT];omega⟩⟩
 ·obtain⟨i,hi,rfl⟩:=GO.1 b;have hi:=Ri.1 hi;obtain⟨-,⟨c,d⟩,-⟩:=VL hh a vf ok (i:=i) (by omega);exact⟨c,Rc d lf⟩
 ·rw[(AFg.1 b).2];exact⟨A89 vf.h0,by decide⟩
theorem pO {h:AG} {ar:Int} {f:List AD} (hh:d7 h) (a:Xq h) (vf:VF h f) (lf:f.length<=12) (ok:PU h ar f):EW h ar f (Li h f ar.toNat)=(Ie f (A8 h),true)/\EW h ar f (OM ar.toNat)=(Ie f (A8 h),true):=by
 have d:=ok.arb;obtain⟨b,c⟩:=yY hh a vf lf ok;refine⟨(kU b (by rw[RS];omega) λi hi=>?_).2,(kU c (by rw[RT];omega) λi hi=>?_).2⟩
 ·rw[RS]at hi;rw[A4R h f hi];exact(VL hh a vf ok (i:=i) (by omega)).2.2.1
 ·rw[RT]at hi;rw[A4S hi];exact(VL hh a vf ok (i:=i) (by omega)).2.2.2
def pP:Aa:={ ins:=[FF,T27],pre:=λ_=>True,out:=λ_=>[.p .bool true] }
attribute [local go_sem] pP
theorem A4T:Ad Tryz.prog 5 pP:=by
 refine z2 [0,1,3,4,5,6,7,8,9,10,11,12,13,14,15,17,29,34,45] [48,52] [] Tryz.func5 Tryz.ntmps5 (AF yX (AF A3f (AF A8s (AF A4L (AF A4H (AF aI (AF kX (AF xD (AF Wo AH))))))))) ?_;rintro w0 O0 ⟨d,⟨nm,ar,f⟩,u⟩ b - -;simp only[pP,AM];have hh:=ADl d;have i:=k8 d;have E:=λC b=>A4Q (ar:=ar) (f:=f) hh C b;generalize z:IP d=h at *;have o:(h.1,h.2)=h:=rfl;repeat'(first|exact trivial|refine eS rfl ?_|refine AB ?_|refine rX b ?_ ?_|refine rC ?_ ?_<;>intro a<;>try(cases a;done))
 all_goals try simp only[z]at *
 ·exact λq=>S5 hh (by simpa using q)
 ·exact fI b [.tmp 4]
 ·obtain⟨c1,c2⟩:=a;obtain⟨vf,lf,ok⟩:=E c1 (by simpa using c2);have g:=ok.arb;obtain⟨x,y⟩:=yY hh i vf lf ok;obtain⟨l,m⟩:=pO hh i vf lf ok;have r:f.length<=10000:=Rc lf (by decide);have e:=(A84 vf.pf r (A8 h)).small;obtain⟨n,rfl⟩:∃n:Nat,ar=(n:Int):=⟨Int.toNat ar,(AA7 (ADJ (by decide) g.1)).symm⟩;simp only[Rb]at x y l m;refine AK (ι:={k:Nat//k<=n}) (λk=>⟨[(3,.bp 3 [] 0),(5,.bp 5 [] 0),(6,.sr 49 DR 0 k.1),(7,.sr 53 DR 0 k.1),(8,.p (.int .i64) (k.1:Int))],[(5,.box 31 true [.p WN h.1,.p YV h.2]),(3,.box 27 true [.p T9 nm,.p T3 (n:Int),.p DR f]),(49,.arr 25 DR (Li h f k.1)),(53,.arr 25 DR (OM k.1))]⟩) (λk=>n-k.1) ⟨0,IN _⟩ (AC [(3,.nm 3),(5,.nm 5),(49,.nil),(53,.nil)] rfl rfl ?_ ?_) (λk=>?_)
  ·first|exact eN|refine eM ?_
   exact⟨rfl,rfl⟩
  ·first|exact eN|refine eM ?_
  ·obtain⟨k,hk⟩:=k;have B:=A1n h f k;have D:=A1o k;have t:=RS h f k;have v:=RT k;have H:n<=2:=RY.1 g.2;have s:=λc:k<n=>show (CR f 0 (Gf h k)).2=true/\PX h n f (k:Int)=(RK f (Gf h k),(CR f 0 (Gf h k)).2) from ⟨(VL hh i vf ok (IS.2 c)).1,BY ⟨bY _,IS.2 c⟩⟩
   simp only;repeat'(first|exact trivial|refine eS rfl ?_|refine AB ?_|refine rX b ?_ ?_|refine rC ?_ ?_<;>intro a<;>try(cases a;done))
   all_goals try simp only[o]at *
   ·exact λ_ _=>⟨hh.hu,vf,g.2⟩
   ·obtain⟨w,j⟩:=s (IS.1 (by assumption));rw[show (PX h n f (k:Int)).2=true by rw[j];exact w]at a;cases a
   ·simp only[AP];omega
   ·simp only[AP];omega
   ·omega
   ·have c:k<n:=IS.1 (by assumption);obtain⟨w,j⟩:=s c;refine⟨⟨k+1,c⟩,by simp only;omega,AC [(3,.nm 3),(5,.nm 5),(49,.nm 49),(53,.nm 53)] rfl rfl ?_ ?_⟩
    ·simp only[B,D,j];first|exact eN|refine eM ?_
     rw[As (AEX t),As (AEX v)];exact⟨rfl,rfl⟩
    ·first|exact eN|refine eM ?_
   ·exact⟨hh.hu,vf,r⟩
   ·have c:k=n:=AEi hk (RY.1 a);subst c;refine FQ [49] ?_;refine FQ [53] ?_;have F:(Li h f k).take k=Li h f k:=As (AEX t);have G:(OM k).take k=OM k:=As (AEX v);rw[F,G];have A:PX h (k:Int) f (k:Int)=([],false):=An λq=>absurd q.2 (Int.lt_irrefl _);repeat'(first|exact trivial|refine eS rfl ?_|refine AB ?_|refine rX b ?_ ?_|refine rC ?_ ?_<;>intro a<;>try(cases a;done))
    all_goals try simp only[o,l,m,A]at *
    ·exact λ_=>x
    ·exact λ_=>y
    ·exact λ_ q=>absurd q (Int.lt_irrefl _)
    ·exact⟨λ_=>⟨e,e⟩,λ_=>⟨e,e⟩⟩
    ·exact fI b [.tmp 4] (by
      rw[show Cj (Ie f (A8 h)) (Ie f (A8 (h.1,h.2)))=0 from Gk _];first|exact eR|refine WL ?_)
end
end Go.Proofs.YtapkhdkbkodbjaaGreat.Fw
