/- Contracts of the program's and the reference's functions, and the plain laws of what they compute: PF PL PG PH T1 G4 G5 G6 T2 T3 T5 P1 P9 T13 T14 T15 T6 T7 T8 T9 T10 T11. -/
/- The sort of arcs: the choice of a pivot. -/
import Derived.Test.YtdapahgnpbehbaaGreatJYB
import Derived.Test.YtdapahgnpbehbaaGreatJZJ
import Derived.Test.YtdapahgnpbehbaaGreatJZI
set_option linter.unusedVariables false
set_option linter.unusedSimpArgs false
namespace Go.Proofs.YtdapahgnpbehbaaGreat.Fw
open Go
attribute [local irreducible] Ev
attribute [local go_sem] PO AM List.toList_toArray BX evG evK Pw DK Gn Da Cz Eh KA Hb Bm B0 HG BD CA frz Sq FL CU Aq EI BE AV.frz AV.frzs AV.drp AV.drps AV.names AV.namess aq FO HV Ge L7 F4 A2 A5 G2 DM FP DN QQX FQ FT Mn J4 Et GM EK Cs Mo Lj Zq G7 GT HW D9 Ci F7 Gg Ct L8 Bw Cu DP Lk GU Ll IE F8 Gh B9 B5 EL Cj FW CV DQ CW Cv Ds BD B8 Lq Li Id EU F6 F5 Gf I2 J7 IG Ha HY Gk KY HZ Gl Pv J9 J8 AV.trn AV.trns DE Bv Obj.trn HC RR CL CQ CK Cw Bo DR Ae lk Eq E2 FN gG Sp Nt Ss KX YH YI kL AV.cells Bn Gz KV Gj J6 Bx I0 Ty.cell1 FM Dd Cg Eg Iz Dc H9 ID L6 Cr Fx JT L5 Mm Iy H8 Ps Qm KW I1 CM G0 RV.flat Ty.flat Ty.size St.add upd del BJ Value.oneCell' Ic Ty.dflt FK QQQ Ej IU List.take_succ_cons List.take_zero List.length_cons PQ PR IT Fi GZ EX FB WM C0 HL HN HO HP Jb Jc GQ Fc Ki Option.map_some Option.map_none Option.bind_some Option.getD_some Option.getD_none Option.isNone_none Option.isNone_some Bool.and_true Bool.true_and Bool.and_false Bool.false_and Bool.not_true Bool.not_false if_true if_false List.length_cons List.length_nil and_true true_and and_self List.all_cons List.all_nil List.append_nil List.nil_append List.cons_append List.getElem?_cons_zero List.getElem?_cons_succ List.getElem?_nil List.map_cons List.map_nil List.set_cons_zero List.set_cons_succ List.isEmpty_nil List.isEmpty_cons decide_true decide_false beq_self_eq_true bne_self_eq_false Nat.zero_add Nat.add_zero Nat.sub_zero Int.toNat_natCast Int.toNat_zero Int.toNat_one List.take_length List.length_append List.length_singleton true_or or_true or_self false_or or_false Ty.agg.injEq Ty.slice.injEq Ty.prod.injEq Ty.int.injEq Option.some.injEq beq_iff_eq JB evMG evMQ Z7 Fh IP Bd HA Fe KE G9 Fg Ff GR Hi Ii JA Ij MJ GY IQ IR E8 AX Ac Op.operands Call.operands List.filterMap_cons List.filterMap_nil List.append_eq Bool.cond_false_right Bool.cond_true_left cond_true cond_false implies_true decide_eq_true_eq beq_true beq_false Bool.or_true Bool.or_false Bool.true_or Bool.false_or Option.isSome_some EJ HH DS Fz Pu J5 Dr D5 D0 GV FU Gi HX Nu Sr IA pX Gm EF EV FX Al PT List.drop_zero Cc F0 Pz CO Hj BP AV.fgt AV.fgts Obj.fgt Ab Ak AX Cb JC BI Fj List.any_cons List.any_nil Vo RE P0 RF JD Ln qs List.flatMap_cons List.flatMap_nil List.cons_append tn QA HD List.take_succ_cons List.drop_succ_cons QB Fk BQ RS GE B2 CR Ag Du Gp BV DW Cl Fa Fb Eu GC
attribute [local go_sem] xH ty2 ty3 ty4 ty5 ty9 rK rO rQ rR rS rT rU rV rW rZ r8 r9 sA sB sC sD sE sF sG sH sI sJ sK sL sM sN sO sP sQ sR sS sT sU sV sW sX sY sZ s0 s5 s6 s7 s8 s9 tA tB tC tD tE tF tG tH tI tJ tK tL tM tN tP tQ tR tS tT tU tV tW tX tY tZ t5 t6 t7 t8 t9 aN aO aP aQ aR aU aV aW aX aY aZ a9 bA bB bC bD bE bF bG bH bI bJ bK bL bM bN bO bP bQ bR bS bT bU bV bW bX bZ b4 b5 b6 b7 b8 b9 cA cB cC cE cF cG cH cI cJ cK cL cM cN cO cQ cR cS cU cV cW cX cZ c6 c7 c8 c9 dA dB dC dD dE dF dG dH dI dJ dK dL dM dN dP dQ dR dS dT dU dV dW dX dY dZ d3 d4 d5 d6 d7 d8 d9 eA eB eC eD eE eF eG eH eI eJ eK eL eO eP eQ eU eW eX
attribute [local go_sem] PO AM List.toList_toArray BX evG evK Pw DK Gn Da Cz Eh KA Hb Bm B0 HG BD CA frz Sq FL CU Aq EI BE AV.frz AV.frzs AV.drp AV.drps AV.names AV.namess aq FO HV Ge L7 F4 A2 A5 G2 DM FP DN QQX FQ FT Mn J4 Et GM EK Cs Mo Lj Zq G7 GT HW D9 Ci F7 Gg Ct L8 Bw Cu DP Lk GU Ll IE F8 Gh B9 B5 EL Cj FW CV DQ CW Cv Ds BD B8 Lq Li Id EU F6 F5 Gf I2 J7 IG Ha HY Gk KY HZ Gl Pv J9 J8 AV.trn AV.trns DE Bv Obj.trn HC RR CL CQ CK Cw Bo DR Ae lk Eq E2 FN gG Sp Nt Ss KX YH YI kL AV.cells Bn Gz KV Gj J6 Bx I0 Ty.cell1 FM Dd Cg Eg Iz Dc H9 ID L6 Cr Fx JT L5 Mm Iy H8 Ps Qm KW I1 CM G0 RV.flat Ty.flat Ty.size St.add upd del BJ Value.oneCell' Ic Ty.dflt FK QQQ Ej IU List.take_succ_cons List.take_zero List.length_cons PQ PR IT Fi GZ EX FB WM C0 HL HN HO HP Jb Jc GQ Fc Ki Option.map_some Option.map_none Option.bind_some Option.getD_some Option.getD_none Option.isNone_none Option.isNone_some Bool.and_true Bool.true_and Bool.and_false Bool.false_and Bool.not_true Bool.not_false if_true if_false List.length_cons List.length_nil and_true true_and and_self List.all_cons List.all_nil List.append_nil List.nil_append List.cons_append List.getElem?_cons_zero List.getElem?_cons_succ List.getElem?_nil List.map_cons List.map_nil List.set_cons_zero List.set_cons_succ List.isEmpty_nil List.isEmpty_cons decide_true decide_false beq_self_eq_true bne_self_eq_false Nat.zero_add Nat.add_zero Nat.sub_zero Int.toNat_natCast Int.toNat_zero Int.toNat_one List.take_length List.length_append List.length_singleton true_or or_true or_self false_or or_false Ty.agg.injEq Ty.slice.injEq Ty.prod.injEq Ty.int.injEq Option.some.injEq beq_iff_eq JB evMG evMQ Z7 Fh IP Bd HA Fe KE G9 Fg Ff GR Hi Ii JA Ij MJ GY IQ IR E8 AX Ac Op.operands Call.operands List.filterMap_cons List.filterMap_nil List.append_eq Bool.cond_false_right Bool.cond_true_left cond_true cond_false implies_true decide_eq_true_eq beq_true beq_false Bool.or_true Bool.or_false Bool.true_or Bool.false_or Option.isSome_some Array.empty_append List.append_toArray EJ HH DS Fz Pu J5 Dr D5 D0 GV FU Gi HX Nu Sr IA pX Gm EF EV FX Al PT List.drop_zero Cc F0 Pz CO Hj BP AV.fgt AV.fgts Obj.fgt Ab Ak AX Cb JC BI Fj List.any_cons List.any_nil Vo RE P0 RF JD Ln qs List.flatMap_cons List.flatMap_nil List.cons_append tn QA HD List.take_succ_cons List.drop_succ_cons QB Fk BQ RS GE B2 CR Ag Du Gp BV DW Cl Fa Fb Eu GC
set_option maxRecDepth 100000
set_option maxHeartbeats 4000000
section
attribute [local go_sem] BN
def GJ (l:List (Int×Int)) (s:Nat):List (Nat×Obj):=[(1000000,.arr 53 BC l),(70,.box 3 false [.p T3 (s:Int)])]
theorem SU (l:List (Int×Int)) (a b s:Nat) (al:a<l.length) (bl:b<l.length) (hs:s≤1000):BO Tryz.prog 185 [.sr 1000000 BC 0 l.length,.p T3 (a:Int),.p T3 (b:Int),.bp 70 [] 0,.fn 116] (GJ l s) [1000000,70] (fun res objs'=>∃x y t:Nat,res=.tup [.p T3 (x:Int),.p T3 (y:Int)]∧objs'=GJ l t∧((x=a∧y=b)∨(x=b∧y=a))∧t≤s+1):=by
 refine BL Tryz.func185 (by kernel_rfl) rfl Tryz.ntmps185 (by simp only[List.length_cons,List.length_nil];omega) (by kernel_rfl) rfl rfl (AF [(116,BN)]) (AD Eb AI) ?_
 intro w0 K O0 ρ0 hc hok1 hok2
 simp only[Al,GJ]
 repeat'(first|exact trivial|refine eS rfl ?_|refine AB ?_|refine rX [0,1,2,3,4,10,11,22] hc ?_ ?_|refine rC ?_ ?_<;>intro AA<;>try(cases AA;done))
 ·exact CJ
 ·exact CJ
 ·refine AU hc [.tmp 10,.tmp 11] rfl (.inl rfl) (.tup [.p T3 (b:Int),.p T3 (a:Int)]) eT ⟨b,a,s+1,rfl,?_,.inr ⟨rfl,rfl⟩,Nat.le_refl _⟩
  rw[show ((s+1:Nat):Int)=(s:Int)+1 by omega]
 ·exact AU hc [.tmp 10,.tmp 11] rfl (.inl rfl) (.tup [.p T3 (a:Int),.p T3 (b:Int)]) eT ⟨a,b,s,rfl,rfl,.inl ⟨rfl,rfl⟩,by omega⟩
theorem Vd (l:List (Int×Int)) (a b c s:Nat) (al:a<l.length) (bl:b<l.length) (cl:c<l.length) (hs:s≤900):BO Tryz.prog 182 [.sr 1000000 BC 0 l.length,.p T3 (a:Int),.p T3 (b:Int),.p T3 (c:Int),.bp 70 [] 0,.fn 116] (GJ l s) [1000000,70] (fun res objs'=>∃x t:Nat,res=.p T3 (x:Int)∧objs'=GJ l t∧(x=a∨x=b∨x=c)∧t≤s+3):=by
 refine BL Tryz.func182 (by kernel_rfl) rfl Tryz.ntmps182 (by simp only[List.length_cons,List.length_nil];omega) (by kernel_rfl) rfl rfl (AF []) AI ?_
 intro w0 K O0 ρ0 hc hok1 hok2
 simp only[Al,GJ]
 repeat'(first|exact trivial|refine eS rfl ?_|refine AB ?_|refine rX [0,1,2,3,4,5,12] hc ?_ ?_|refine rC ?_ ?_<;>intro AA<;>try(cases AA;done))
 refine cP 5 hc ?_ ?_
 ·trivial
 ·refine rM hc (SU l a b s al bl (by omega)) [(1000000,.nm 1000000),(70,.nm 70)] [] ?_ ?_ ?_
  ·first|exact eN|refine eM ?_
  ·simp only[GJ]
   first|exact eN|refine eM ?_
  ·rintro _ _ ⟨a1,b1,s1,rfl,rfl,h1,hs1⟩
   refine⟨[(1000000,.nm 1000000),(70,.nm 70)],.tup [.p T3 (a1:Int),.p T3 (b1:Int)],[(1000000,.arr 53 BC l),(70,.box 3 false [.p T3 (s1:Int)])],rfl,rfl,?_,?_,rfl,rfl,?_⟩
   ·simp only[GJ]
    first|exact eN|refine eM ?_
   ·first|exact eN|refine eM ?_
   ·refine rL [0,1,2,3,4,5,12] hc ?_ ?_
    ·trivial
    ·repeat'(first|exact trivial|refine eS rfl ?_|refine AB ?_|refine rX [0,1,2,3,4,5,12] hc ?_ ?_|refine rC ?_ ?_<;>intro AA<;>try(cases AA;done))
     refine cP 5 hc ?_ ?_
     ·trivial
     ·refine rM hc (SU l b1 c s1 (by omega) cl (by omega)) [(1000000,.nm 1000000),(70,.nm 70)] [] ?_ ?_ ?_
      ·first|exact eN|refine eM ?_
      ·simp only[GJ]
       first|exact eN|refine eM ?_
      ·rintro _ _ ⟨b2,c2,s2,rfl,rfl,h2,hs2⟩
       refine⟨[(1000000,.nm 1000000),(70,.nm 70)],.tup [.p T3 (b2:Int),.p T3 (c2:Int)],[(1000000,.arr 53 BC l),(70,.box 3 false [.p T3 (s2:Int)])],rfl,rfl,?_,?_,rfl,rfl,?_⟩
       ·simp only[GJ]
        first|exact eN|refine eM ?_
       ·first|exact eN|refine eM ?_
       ·refine rL [0,1,2,3,4,5,12] hc ?_ ?_
        ·trivial
        ·repeat'(first|exact trivial|refine eS rfl ?_|refine AB ?_|refine rX [0,1,2,3,4,5,12] hc ?_ ?_|refine rC ?_ ?_<;>intro AA<;>try(cases AA;done))
         refine cP 5 hc ?_ ?_
         ·trivial
         ·refine rM hc (SU l a1 b2 s2 (by omega) (by omega) (by omega)) [(1000000,.nm 1000000),(70,.nm 70)] [] ?_ ?_ ?_
          ·first|exact eN|refine eM ?_
          ·simp only[GJ]
           first|exact eN|refine eM ?_
          ·rintro _ _ ⟨a3,b3,s3,rfl,rfl,h3,hs3⟩
           refine⟨[(1000000,.nm 1000000),(70,.nm 70)],.tup [.p T3 (a3:Int),.p T3 (b3:Int)],[(1000000,.arr 53 BC l),(70,.box 3 false [.p T3 (s3:Int)])],rfl,rfl,?_,?_,rfl,rfl,?_⟩
           ·simp only[GJ]
            first|exact eN|refine eM ?_
           ·first|exact eN|refine eM ?_
           ·refine rL [0,1,2,3,4,5,12] hc ?_ ?_
            ·trivial
            ·repeat'(first|exact trivial|refine eS rfl ?_|refine AB ?_|refine rX [0,1,2,3,4,5,12] hc ?_ ?_|refine rC ?_ ?_<;>intro AA<;>try(cases AA;done))
             exact AU hc [.tmp 12] rfl (.inl rfl) (.p T3 (b3:Int)) eT ⟨b3,s3,rfl,rfl,by omega,by omega⟩
theorem Ve (l:List (Int×Int)) (b s:Nat) (b0:1≤b) (bl:b+1<l.length) (hl:l.length≤100000) (hs:s≤900):BO Tryz.prog 181 [.sr 1000000 BC 0 l.length,.p T3 (b:Int),.bp 70 [] 0,.fn 116] (GJ l s) [1000000,70] (fun res objs'=>∃x t:Nat,res=.p T3 (x:Int)∧objs'=GJ l t∧(b-1≤x∧x≤b+1)∧t≤s+3):=by
 refine BL Tryz.func181 (by kernel_rfl) rfl Tryz.ntmps181 (by simp only[List.length_cons,List.length_nil];omega) (by kernel_rfl) rfl rfl (AF []) AI ?_
 intro w0 K O0 ρ0 hc hok1 hok2
 simp only[Al,GJ]
 have key:=Vd l (b-1) b (b+1) s (by omega) (by omega) bl hs
 rw[show ((b-1:Nat):Int)=(b:Int)-1 by omega,show ((b+1:Nat):Int)=(b:Int)+1 by omega]at key
 repeat'(first|exact trivial|refine eS rfl ?_|refine AB ?_|refine rX [0,1,2,3,8] hc ?_ ?_|refine rC ?_ ?_<;>intro AA<;>try(cases AA;done))
 refine cP 8 hc ?_ ?_
 ·exact CJ
 ·refine rM hc (key) [(1000000,.nm 1000000),(70,.nm 70)] [] ?_ ?_ ?_
  ·first|exact eN|refine eM ?_
  ·simp only[GJ]
   first|exact eN|refine eM ?_
  ·rintro _ _ ⟨x,t,rfl,rfl,hx,ht⟩
   refine⟨[(1000000,.nm 1000000),(70,.nm 70)],.p T3 (x:Int),[(1000000,.arr 53 BC l),(70,.box 3 false [.p T3 (t:Int)])],rfl,rfl,?_,?_,rfl,rfl,?_⟩
   ·simp only[GJ]
    first|exact eN|refine eM ?_
   ·first|exact eN|refine eM ?_
   ·refine rL [0,1,2,3,8] hc ?_ ?_
    ·trivial
    ·repeat'(first|exact trivial|refine eS rfl ?_|refine AB ?_|refine rX [0,1,2,3,8] hc ?_ ?_|refine rC ?_ ?_<;>intro AA<;>try(cases AA;done))
     exact AU hc [.tmp 8] rfl (.inl rfl) (.p T3 (x:Int)) eT ⟨x,t,rfl,rfl,by omega,ht⟩
theorem vH (l:List (Int×Int)) (hl:l.length≤100000) (a b:Nat) (hab:a+13≤b) (hb:b≤l.length):BO Tryz.prog 169 [.sr 1000000 BC 0 l.length,.p T3 (a:Int),.p T3 (b:Int),.fn 116] [(1000000,.arr 53 BC l)] [1000000] (fun res objs'=>∃(j:Nat) (h:Int),res=.tup [.p T3 (j:Int),.p T3 h]∧objs'=[(1000000,.arr 53 BC l)]∧a≤j∧j<b):=by
 refine BL Tryz.func169 (by kernel_rfl) rfl Tryz.ntmps169 (by simp only[List.length_cons,List.length_nil];omega) (by kernel_rfl) rfl rfl (AF []) AI ?_
 intro w0 K O0 ρ0 hc hok1 hok2
 simp only[Al]
 obtain⟨t,ht⟩:∃t,t=(b-a) / 4:=⟨_,rfl⟩
 have et:((b:Int)-(a:Int)).tdiv 4=(t:Int):=by
  rw[Int.tdiv_eq_ediv_of_nonneg (by omega)]
  omega
 have ht1:4*t≤b-a:=by omega
 have ht3:3≤t:=by omega
 clear ht
 (refine eS rfl ?_;refine rX [0,1,2,3,8,9,10,11,12,13,14,34,36,55,57,60] hc ?_ ?_;(next=>first|exact trivial|exact CJ))
 (refine eS rfl ?_;refine rX [0,1,2,3,8,9,10,11,12,13,14,34,36,55,57,60] hc ?_ ?_;(next=>first|exact trivial|exact CJ))
 (refine eS rfl ?_;refine rX [0,1,2,3,8,9,10,11,12,13,14,34,36,55,57,60] hc ?_ ?_;(next=>first|exact trivial|exact CJ))
 (refine eS rfl ?_;refine rX [0,1,2,3,8,9,10,11,12,13,14,34,36,55,57,60] hc ?_ ?_;(next=>first|exact trivial|exact CJ|(rw[et];refine⟨⟨by decide,?_⟩,?_,?_⟩<;>omega)))
 (refine eS rfl ?_;refine rX [0,1,2,3,8,9,10,11,12,13,14,34,36,55,57,60] hc ?_ ?_;(next=>first|exact trivial|exact CJ|(rw[et];refine⟨⟨by decide,?_⟩,?_,?_⟩<;>omega)))
 (refine eS rfl ?_;refine rX [0,1,2,3,8,9,10,11,12,13,14,34,36,55,57,60] hc ?_ ?_;(next=>first|exact trivial|exact CJ|(rw[et];refine⟨⟨by decide,?_⟩,?_,?_⟩<;>omega)))
 rw[et,show (a:Int)+(t:Int)*1=((a+t:Nat):Int) by omega,show (a:Int)+(t:Int)*2=((a+t*2:Nat):Int) by omega,show (a:Int)+(t:Int)*3=((a+t*3:Nat):Int) by omega]
 refine He ?_
 refine M5 (ι:={x:Nat×Nat//a≤x.1∧x.1<b}) (fun x=>⟨[(11,.bp 11 [] 0),(13,.p T3 (x.1.1:Int))],[(1000000,.arr 53 BC l),(11,.box 3 false [.p T3 (x.1.2:Int)])]⟩) ?_ (fun x=>?_)
 ·repeat'(first|exact trivial|refine eS rfl ?_|refine AB ?_|refine rX [0,1,2,3,8,9,10,11,12,13,14,34,36,55,57,60] hc ?_ ?_)
  refine rC (fun AA=>?_) (fun AA=>?_)
  ·repeat'(first|exact trivial|refine eS rfl ?_|refine AB ?_|refine rX [0,1,2,3,8,9,10,11,12,13,14,34,36,55,57,60] hc ?_ ?_)
   refine rC (fun hcond2=>?_) (fun hcond2=>?_)
   ·repeat'(first|exact trivial|refine eS rfl ?_|refine AB ?_|refine rP [0,1,2,3,8,9,10,11,12,13,14,34,36,55,57,60] hc ?_ ?_|fail)
    refine cP 3 hc ?_ ?_
    ·trivial
    ·refine rM hc (Ve l (a+t) 0 (by omega) (by omega) hl (by omega)) [(1000000,.nm 1000000),(70,.nm 11)] [] ?_ ?_ ?_
     ·first|exact eN|refine eM ?_
     ·simp only[GJ]
      first|exact eN|refine eM ?_
     ·rintro _ _ ⟨x1,s1,rfl,rfl,hx1,hs1⟩
      refine⟨[(1000000,.nm 1000000),(11,.nm 70)],.p T3 (x1:Int),[(1000000,.arr 53 BC l),(11,.box 3 false [.p T3 (s1:Int)])],rfl,rfl,?_,?_,rfl,rfl,?_⟩
      ·simp only[GJ]
       first|exact eN|refine eM ?_
      ·first|exact eN|refine eM ?_
      ·refine rL [0,1,2,3,8,9,10,11,12,13,14,34,36,55,57,60] hc ?_ ?_
       ·trivial
       ·repeat'(first|exact trivial|refine eS rfl ?_|refine AB ?_|refine rX [0,1,2,3,8,9,10,11,12,13,14,34,36,55,57,60] hc ?_ ?_)
        refine cP 3 hc ?_ ?_
        ·trivial
        ·refine rM hc (Ve l (a+t*2) s1 (by omega) (by omega) hl (by omega)) [(1000000,.nm 1000000),(70,.nm 11)] [] ?_ ?_ ?_
         ·first|exact eN|refine eM ?_
         ·simp only[GJ]
          first|exact eN|refine eM ?_
         ·rintro _ _ ⟨x2,s2,rfl,rfl,hx2,hs2⟩
          refine⟨[(1000000,.nm 1000000),(11,.nm 70)],.p T3 (x2:Int),[(1000000,.arr 53 BC l),(11,.box 3 false [.p T3 (s2:Int)])],rfl,rfl,?_,?_,rfl,rfl,?_⟩
          ·simp only[GJ]
           first|exact eN|refine eM ?_
          ·first|exact eN|refine eM ?_
          ·refine rL [0,1,2,3,8,9,10,11,12,13,14,34,36,55,57,60] hc ?_ ?_
           ·trivial
           ·repeat'(first|exact trivial|refine eS rfl ?_|refine AB ?_|refine rX [0,1,2,3,8,9,10,11,12,13,14,34,36,55,57,60] hc ?_ ?_)
            refine cP 3 hc ?_ ?_
            ·trivial
            ·refine rM hc (Ve l (a+t*3) s2 (by omega) (by omega) hl (by omega)) [(1000000,.nm 1000000),(70,.nm 11)] [] ?_ ?_ ?_
             ·first|exact eN|refine eM ?_
             ·simp only[GJ]
              first|exact eN|refine eM ?_
             ·rintro _ _ ⟨x3,s3,rfl,rfl,hx3,hs3⟩
              refine⟨[(1000000,.nm 1000000),(11,.nm 70)],.p T3 (x3:Int),[(1000000,.arr 53 BC l),(11,.box 3 false [.p T3 (s3:Int)])],rfl,rfl,?_,?_,rfl,rfl,?_⟩
              ·simp only[GJ]
               first|exact eN|refine eM ?_
              ·first|exact eN|refine eM ?_
              ·refine rL [0,1,2,3,8,9,10,11,12,13,14,34,36,55,57,60] hc ?_ ?_
               ·trivial
               ·repeat'(first|exact trivial|refine eS rfl ?_|refine AB ?_|refine rX [0,1,2,3,8,9,10,11,12,13,14,34,36,55,57,60] hc ?_ ?_)
                refine cP 5 hc ?_ ?_
                ·trivial
                ·refine rM hc (Vd l (x1) (x2) (x3) s3 (by omega) (by omega) (by omega) (by omega)) [(1000000,.nm 1000000),(70,.nm 11)] [] ?_ ?_ ?_
                 ·first|exact eN|refine eM ?_
                 ·simp only[GJ]
                  first|exact eN|refine eM ?_
                 ·rintro _ _ ⟨x4,s4,rfl,rfl,hx4,hs4⟩
                  refine⟨[(1000000,.nm 1000000),(11,.nm 70)],.p T3 (x4:Int),[(1000000,.arr 53 BC l),(11,.box 3 false [.p T3 (s4:Int)])],rfl,rfl,?_,?_,rfl,rfl,?_⟩
                  ·simp only[GJ]
                   first|exact eN|refine eM ?_
                  ·first|exact eN|refine eM ?_
                  ·refine rL [0,1,2,3,8,9,10,11,12,13,14,34,36,55,57,60] hc ?_ ?_
                   ·trivial
                   ·repeat'(first|exact trivial|refine eS rfl ?_|refine AB ?_|refine rX [0,1,2,3,8,9,10,11,12,13,14,34,36,55,57,60] hc ?_ ?_)
                    refine⟨⟨(x4,s4),by simp only;omega,by simp only;omega⟩,AC [(1000000,.nm 1000000),(11,.nm 11)] rfl rfl ?_ ?_⟩
                    ·first|exact eN|refine eM ?_
                    ·first|exact eN|refine eM ?_
   ·repeat'(first|exact trivial|refine eS rfl ?_|refine AB ?_|refine rP [0,1,2,3,8,9,10,11,12,13,14,34,36,55,57,60] hc ?_ ?_|fail)
    refine cP 5 hc ?_ ?_
    ·trivial
    ·refine rM hc (Vd l (a+t) (a+t*2) (a+t*3) 0 (by omega) (by omega) (by omega) (by omega)) [(1000000,.nm 1000000),(70,.nm 11)] [] ?_ ?_ ?_
     ·first|exact eN|refine eM ?_
     ·simp only[GJ]
      first|exact eN|refine eM ?_
     ·rintro _ _ ⟨x4,s4,rfl,rfl,hx4,hs4⟩
      refine⟨[(1000000,.nm 1000000),(11,.nm 70)],.p T3 (x4:Int),[(1000000,.arr 53 BC l),(11,.box 3 false [.p T3 (s4:Int)])],rfl,rfl,?_,?_,rfl,rfl,?_⟩
      ·simp only[GJ]
       first|exact eN|refine eM ?_
      ·first|exact eN|refine eM ?_
      ·refine rL [0,1,2,3,8,9,10,11,12,13,14,34,36,55,57,60] hc ?_ ?_
       ·trivial
       ·repeat'(first|exact trivial|refine eS rfl ?_|refine AB ?_|refine rX [0,1,2,3,8,9,10,11,12,13,14,34,36,55,57,60] hc ?_ ?_)
        refine⟨⟨(x4,s4),by simp only;omega,by simp only;omega⟩,AC [(1000000,.nm 1000000),(11,.nm 11)] rfl rfl ?_ ?_⟩
        ·first|exact eN|refine eM ?_
        ·first|exact eN|refine eM ?_
  ·exfalso
   omega
 ·obtain⟨⟨j,s⟩,hj1,hj2⟩:=x
  simp only at hj1 hj2 ⊢
  repeat'(first|exact trivial|refine eS rfl ?_|refine AB ?_|refine rX [0,1,2,3,8,9,10,11,12,13,14,34,36,55,57,60] hc ?_ ?_|refine rC ?_ ?_<;>intro AA<;>try(cases AA;done))
  ·refine Ev.ent (σ':=⟨[(8,.p T3 (j:Int)),(9,.p T3 (1:Int))],[(1000000,.arr 53 BC l)]⟩) ?_ (AC [(1000000,.nm 1000000)] rfl rfl ?_ ?_)
   ·exact AU hc [.tmp 8,.tmp 9] rfl (.inl rfl) (.tup [.p T3 (j:Int),.p T3 (1:Int)]) eT ⟨j,1,rfl,rfl,hj1,hj2⟩
   ·first|exact eN|refine eM ?_
   ·first|exact eN|refine eM ?_
  ·refine Ev.ent (σ':=⟨[(8,.p T3 (j:Int)),(9,.p T3 (2:Int))],[(1000000,.arr 53 BC l)]⟩) ?_ (AC [(1000000,.nm 1000000)] rfl rfl ?_ ?_)
   ·exact AU hc [.tmp 8,.tmp 9] rfl (.inl rfl) (.tup [.p T3 (j:Int),.p T3 (2:Int)]) eT ⟨j,2,rfl,rfl,hj1,hj2⟩
   ·first|exact eN|refine eM ?_
   ·first|exact eN|refine eM ?_
  ·refine Ev.ent (σ':=⟨[(8,.p T3 (j:Int)),(9,.p T3 (0:Int))],[(1000000,.arr 53 BC l)]⟩) ?_ (AC [(1000000,.nm 1000000)] rfl rfl ?_ ?_)
   ·exact AU hc [.tmp 8,.tmp 9] rfl (.inl rfl) (.tup [.p T3 (j:Int),.p T3 (0:Int)]) eT ⟨j,0,rfl,rfl,hj1,hj2⟩
   ·first|exact eN|refine eM ?_
   ·first|exact eN|refine eM ?_
end
/- Functions of Go's library under sorting: the length of a number, a power of two, random numbers. -/
section
theorem vI (x y:Int) (h0:0≤y) (h1:y<4611686018427387904):0≤Bt .and .u64 x y∧Bt .and .u64 x y≤y:=by
 have hb:(IntKind.u64).bits=64:=rfl
 have e2:(BitVec.ofInt 64 y).toNat=y.toNat:=by
  rw[BitVec.toNat_ofInt]
  omega
 have h2:(BitVec.ofInt 64 x &&& BitVec.ofInt 64 y).toNat≤y.toNat:=by
  rw[BitVec.toNat_and,e2]
  exact Nat.and_le_right
 have e3:Bt .and .u64 x y=IntKind.u64.wrap (((BitVec.ofInt 64 x &&& BitVec.ofInt 64 y).toNat:Nat):Int):=rfl
 rw[e3]
 generalize (BitVec.ofInt 64 x &&& BitVec.ofInt 64 y).toNat=z at *
 have hw:IntKind.u64.wrap (z:Int)=(z:Int):=by
  have hm:(z:Int)<18446744073709551616:=by omega
  have:IntKind.u64.wrap (z:Int)=(z:Int) % 18446744073709551616:=by
   first|rfl|(simp[IntKind.wrap];done)
  rw[this]
  omega
 rw[hw]
 omega
theorem A16 (z:Int):0≤IntKind.u64.wrap z∧IntKind.u64.wrap z≤18446744073709551615:=by
 have:IntKind.u64.wrap z=z % 18446744073709551616:=by
  first|rfl|(simp[IntKind.wrap];done)
 omega
theorem Xj (x y:Int):0≤Bt .xor .u64 x y∧Bt .xor .u64 x y≤18446744073709551615:=A16 _
theorem oP {x:Int} (h0:0≤x) (h1:x≤18446744073709551615):0≤So .u64 x 7∧So .u64 x 7≤18446744073709551615:=by
 show 0≤x.fdiv 128∧x.fdiv 128≤18446744073709551615
 rw[Int.fdiv_eq_ediv_of_nonneg _ (by decide)]
 omega
theorem jT (x:Int) (h0:0≤x) (h1:x<256):BO Tryz.prog 175 [.p (.int .u64) x] [] [] (fun res objs'=>(∃n:Nat,res=.p T3 (n:Int)∧n≤8∧(1≤x.toNat→x.toNat<2 ^ n∧2 ^ n≤2*x.toNat))∧objs'=[]):=by
 refine BL Tryz.func175 (by kernel_rfl) rfl Tryz.ntmps175 (by simp only[List.length_cons,List.length_nil];omega) (by kernel_rfl) rfl rfl (AF []) AI ?_
 intro w0 K O0 ρ0 hc hok1 hok2
 simp only[Al]
 repeat'(first|exact trivial|refine eS rfl ?_|refine AB ?_|refine rX [0,2,4,8,14] hc ?_ ?_|refine rC ?_ ?_<;>intro AA<;>try(cases AA;done))
 all_goals first|(exfalso;omega)|skip
 refine Kl [0,2] hc rfl (by simp only[go_sem,Nat.reduceEqDiff,reduceCtorEq,Nat.reduceAdd,Nat.reduceSub,Nat.reduceMul,Nat.reduceLeDiff,Nat.reduceLT,Int.reduceLE,Int.reduceToNat,Int.reduceNeg,↓reduceIte,ByteArray.size,List.size_toArray,AO];rfl) ?_ ?_
 ·have hu:∀u:UInt8,((u.toNat:Nat):Int)≤255:=fun u=>by have:=u.toNat_lt;omega
  have h00:0≤x:=by omega
  refine⟨⟨h00,by omega⟩,⟨h00,?_⟩,⟨?_,?_⟩,?_,?_⟩
  ·have h2:x<((256:Nat):Int):=h1
   exact h2
  ·exact Int.le_trans (by decide) (Int.natCast_nonneg _)
  ·exact Int.le_trans (hu _) (by decide)
  ·rw[Int.zero_add];exact Int.le_trans (by decide) (Int.natCast_nonneg _)
  ·rw[Int.zero_add];exact Int.le_trans (hu _) (by decide)
 ·repeat'(first|exact trivial|refine eS rfl ?_|refine AB ?_|refine rX [0,2,4,8,14] hc ?_ ?_|refine rC ?_ ?_<;>intro AA<;>try(cases AA;done))
  refine AU hc [.tmp 2] rfl (.inl rfl) (.p T3 _) (by simp only[TS,g8,OH,TR,Hf,Ja,Ih,go_sem,Nat.reduceEqDiff,reduceCtorEq,Nat.reduceAdd,Nat.reduceSub,Nat.reduceMul,Nat.reduceLeDiff,Nat.reduceLT,Int.reduceLE,Int.reduceToNat,Int.reduceNeg,↓reduceIte];rfl) ⟨⟨_,by rw[Int.zero_add],?_⟩,rfl⟩
  have hk2:x.toNat<256:=by omega
  generalize x.toNat=k at *
  clear AA
  revert hk2
  revert k
  decide
theorem fX (x:Int) (h0:0≤x) (h1:x<256):BO Tryz.prog 164 [.p (.int .u64) x] [] [] (fun res objs'=>(∃n:Nat,res=.p T3 (n:Int)∧n≤8∧(1≤x.toNat→x.toNat<2 ^ n∧2 ^ n≤2*x.toNat))∧objs'=[]):=by
 refine BL Tryz.func164 (by kernel_rfl) rfl Tryz.ntmps164 (by simp only[List.length_cons,List.length_nil];omega) (by kernel_rfl) rfl rfl (AF []) AI ?_
 intro w0 K O0 ρ0 hc hok1 hok2
 simp only[Al]
 repeat'(first|exact trivial|refine eS rfl ?_|refine AB ?_|refine rX [0,2] hc ?_ ?_|refine rC ?_ ?_<;>intro AA<;>try(cases AA;done))
 refine cP 1 hc ?_ ?_
 ·trivial
 ·refine rM hc (jT x h0 h1) [] [] ?_ ?_ ?_
  ·first|exact eN|refine eM ?_
  ·first|exact eN|refine eM ?_
  ·rintro _ _ ⟨⟨n,rfl,hnz⟩,rfl⟩
   refine⟨[],.p T3 (n:Int),[],rfl,rfl,?_,?_,rfl,rfl,?_⟩
   ·first|exact eN|refine eM ?_
   ·first|exact eN|refine eM ?_
   ·refine rL [0,2] hc ?_ ?_
    ·trivial
    ·repeat'(first|exact trivial|refine eS rfl ?_|refine AB ?_|refine rX [0,2] hc ?_ ?_|refine rC ?_ ?_<;>intro AA<;>try(cases AA;done))
     exact AU hc [.tmp 2] rfl (.inl rfl) (.p T3 (n:Int)) eT ⟨⟨n,rfl,hnz⟩,rfl⟩
theorem vJ (x:Int) (h0:1≤x) (h1:x<256):BO Tryz.prog 179 [.p T3 x] [] [] (fun res objs'=>(∃m:Nat,res=.p (.int .u64) (m:Int)∧x.toNat<m∧m≤2*x.toNat)∧objs'=[]):=by
 refine BL Tryz.func179 (by kernel_rfl) rfl Tryz.ntmps179 (by simp only[List.length_cons,List.length_nil];omega) (by kernel_rfl) rfl rfl (AF []) AI ?_
 intro w0 K O0 ρ0 hc hok1 hok2
 simp only[Al]
 repeat'(first|exact trivial|refine eS rfl ?_|refine AB ?_|refine rX [0,2] hc ?_ ?_|refine rC ?_ ?_<;>intro AA<;>try(cases AA;done))
 refine cP 2 hc ?_ ?_
 ·exact CJ
 ·refine rM hc (fX x (by omega) h1) [] [] ?_ ?_ ?_
  ·first|exact eN|refine eM ?_
  ·first|exact eN|refine eM ?_
  ·rintro _ _ ⟨⟨n,rfl,h8,hn12⟩,rfl⟩
   obtain⟨hn1,hn2⟩:=hn12 (by omega)
   refine⟨[],.p T3 (n:Int),[],rfl,rfl,?_,?_,rfl,rfl,?_⟩
   ·first|exact eN|refine eM ?_
   ·first|exact eN|refine eM ?_
   ·refine rL [0,2] hc ?_ ?_
    ·trivial
    ·have e:Pt .u64 1 (n:Int)=((2 ^ n:Nat):Int):=by
      clear hn1 hn2
      have:∀n:Fin 9,Pt .u64 1 ((n.val:Nat):Int)=((2 ^ n.val:Nat):Int):=by decide
      exact this ⟨n,by omega⟩
     rw[e]
     repeat'(first|exact trivial|refine eS rfl ?_|refine AB ?_|refine rX [0,2] hc ?_ ?_|refine rC ?_ ?_<;>intro AA<;>try(cases AA;done))
     exact AU hc [.tmp 2] rfl (.inl rfl) (.p (.int .u64) ((2 ^ n:Nat):Int)) eT ⟨⟨_,rfl,hn1,hn2⟩,rfl⟩
theorem vK (s:Int) (hs:0≤s∧s≤18446744073709551615):BO Tryz.prog 180 [.bp 70 [] 0] [(70,.box 213 false [.p (.int .u64) s])] [70] (fun res objs'=>∃v:Int,(0≤v∧v≤18446744073709551615)∧res=.p (.int .u64) v∧objs'=[(70,.box 213 false [.p (.int .u64) v])]):=by
 refine BL Tryz.func180 (by kernel_rfl) rfl Tryz.ntmps180 (by simp only[List.length_cons,List.length_nil];omega) (by kernel_rfl) rfl rfl (AF []) AI ?_
 intro w0 K O0 ρ0 hc hok1 hok2
 simp only[Al]
 repeat'(first|exact trivial|refine eS rfl ?_|refine AB ?_|refine rX [0,2] hc ?_ ?_|refine rC ?_ ?_<;>intro AA<;>try(cases AA;done))
 ·have:=Xj s (Pt .u64 s 13)
  exact oP this.1 this.2
 ·exact AU hc [.tmp 2] rfl (.inl rfl) (.p (.int .u64) _) eT ⟨_,Xj _ _,rfl,rfl⟩
end
/- The sort of arcs: patterns broken. -/
section
attribute [local go_sem] BN
theorem vL (l:List (Int×Int)) (hl:l.length<256) (a b:Nat) (hab:a+8≤b) (hb:b≤l.length):BO Tryz.prog 168 [.sr 1000000 BC 0 l.length,.p T3 (a:Int),.p T3 (b:Int),.fn 116] [(1000000,.arr 53 BC l)] [1000000] (fun res objs'=>res=.raw (.tuple #[])∧∃r,objs'=[(1000000,.arr 53 BC r)]∧Dq (0,0) a b l r):=by
 refine BL Tryz.func168 (by kernel_rfl) rfl Tryz.ntmps168 (by simp only[List.length_cons,List.length_nil];omega) (by kernel_rfl) rfl rfl (AF []) AI ?_
 intro w0 K O0 ρ0 hc hok1 hok2
 simp only[Al]
 obtain⟨n,hn⟩:∃n,b=a+n:=⟨b-a,by omega⟩
 subst hn
 have en:((a+n:Nat):Int)-(a:Int)=(n:Int):=by omega
 obtain⟨t,ht⟩:∃t,t=n / 4:=⟨_,rfl⟩
 have et:(n:Int).tdiv 4=(t:Int):=by
  rw[Int.tdiv_eq_ediv_of_nonneg (by omega)]
  omega
 have ht1:4*t≤n:=by omega
 have ht3:2≤t:=by omega
 clear ht
 (refine eS rfl ?_;refine rX [0,1,2,8,9,10,11,12,17,35,45] hc ?_ ?_;(next=>first|exact trivial|exact CJ))
 rw[en]
 repeat'(first|exact trivial|refine eS rfl ?_|refine AB ?_|refine rX [0,1,2,8,9,10,11,12,17,35,45] hc ?_ ?_)
 refine rC (fun AA=>?_) (fun AA=>?_)
 ·repeat'(first|exact trivial|refine eS rfl ?_|refine AB ?_|refine rX [0,1,2,8,9,10,11,12,17,35,45] hc ?_ ?_)
  ·exact CJ
  ·refine cP 1 hc ?_ ?_
   ·trivial
   ·refine rM hc (vJ (n:Int) (by omega) (by omega)) [] [] ?_ ?_ ?_
    ·first|exact eN|refine eM ?_
    ·first|exact eN|refine eM ?_
    ·rintro _ _ ⟨⟨m,rfl,hm1,hm2⟩,rfl⟩
     rw[Int.toNat_natCast]at hm1 hm2
     refine⟨[],.p (.int .u64) (m:Int),[],rfl,rfl,?_,?_,rfl,rfl,?_⟩
     ·first|exact eN|refine eM ?_
     ·first|exact eN|refine eM ?_
     ·refine rL [0,1,2,8,9,10,11,12,17,35,45] hc ?_ ?_
      ·trivial
      ·repeat'(first|exact trivial|refine eS rfl ?_|refine AB ?_|refine rX [0,1,2,8,9,10,11,12,17,35,45] hc ?_ ?_)
       ·rw[et]
        refine⟨⟨by decide,?_⟩,?_,?_,?_⟩<;>omega
       ·rw[et,show (a:Int)+(t:Int)*2-1=((a+t*2-1:Nat):Int) by omega]
        refine AJ (ι:={s:Nat×Int×List (Int×Int)//(a≤s.1∧s.1≤a+t*2+2)∧(0≤s.2.1∧s.2.1≤18446744073709551615)∧Dq (0,0) a (a+n) l s.2.2}) (fun s=>⟨[(0,.sr 1000000 BC 0 l.length),(1,.p T3 (a:Int)),(8,.p (.int .i64) (n:Int)),(9,.bp 9 [] 0),(10,.p (.int .u64) (m:Int)),(11,.p (.int .i64) (s.1.1:Int))],[(1000000,.arr 53 BC s.1.2.2),(9,.box 213 false [.p (.int .u64) s.1.2.1])]⟩) (fun s=>a+t*2+2-s.1.1) ⟨(a+t*2-1,(n:Int),l),by simp only;omega,by simp only;omega,Dq.refl _ _ l⟩ (AC [(1000000,.nm 1000000),(9,.nm 9)] rfl rfl ?_ ?_) (fun s=>?_)
        ·first|exact eN|refine eM ?_
        ·first|exact eN|refine eM ?_
        ·obtain⟨⟨i,x,c⟩,⟨hi1,hi2⟩,hx,hp⟩:=s
         simp only at hi1 hi2 hx hp ⊢
         have hcl:=hp.len
         repeat'(first|exact trivial|refine eS rfl ?_|refine AB ?_|refine rX [0,1,2,8,9,10,11,12,17,35,45] hc ?_ ?_)
         ·rw[et]
          refine⟨⟨by decide,?_⟩,?_,?_,?_⟩<;>omega
         ·rw[et]
          refine rC (fun hcond2=>?_) (fun hcond2=>?_)
          ·refine eS rfl ?_
           refine cP 0 hc ?_ ?_
           ·trivial
           ·refine rM hc (vK x hx) [(70,.nm 9)] [] ?_ ?_ ?_
            ·first|exact eN|refine eM ?_
            ·first|exact eN|refine eM ?_
            ·rintro _ _ ⟨v,hv,rfl,rfl⟩
             refine⟨[(9,.nm 70)],.p (.int .u64) v,[(9,.box 213 false [.p (.int .u64) v])],rfl,rfl,?_,?_,rfl,rfl,?_⟩
             ·first|exact eN|refine eM ?_
             ·first|exact eN|refine eM ?_
             ·have hav:=vI v ((m:Int)-1) (by omega) (by omega)
              refine rL [0,1,2,8,9,10,11,12,17,35,45] hc ?_ ?_
              ·exact⟨by omega,by omega⟩
              ·generalize Bt .and .u64 v ((m:Int)-1)=r at *
               repeat'(first|exact trivial|refine eS rfl ?_|refine AB ?_|refine rX [0,1,2,8,9,10,11,12,17,35,45] hc ?_ ?_)
               refine rC (fun hcond3=>?_) (fun hcond3=>?_)
               ·obtain⟨o,ho⟩:∃o:Nat,r-(n:Int)=(o:Int):=⟨(r-(n:Int)).toNat,by omega⟩
                have ho2:o<n:=by omega
                refine rX [0,1,2,8,9,10,11,12,17,35,45] hc ?_ ?_
                ·exact CJ
                ·rw[ho]
                 have hps:Dq (0,0) a (a+n) c (CH (0,0) c i (a+o)):=Dq.swap c (by omega) (by omega) (by omega) (by omega) (by omega)
                 have hsw:CH (0,0) c i (a+o)=(c.set i (c.getD (a+o) (0,0))).set (a+o) (c.getD i (0,0)):=rfl
                 have eo:((a:Int)+(o:Int)).toNat=a+o:=by omega
                 repeat'(first|exact trivial|refine eS rfl ?_|refine AB ?_|refine rP [0,1,2,8,9,10,11,12,17,35,45] hc ?_ ?_|fail)
                 (refine Cp drawsAny hc 18 [([0,1,6,7,8,9,10,11,12,13,14,15,16],17)] [2,3,4,5] (by kernel_rfl) (RW ?_ ?_);(next=>exact CJ);refine Sx hc [] ?_ ?_;(next=>exact CJ);refine Sm [0,1,2,8,9,10,11,12,17,35,45] hc ?_ ?_ ?_;(next=>exact CJ);(next=>exact CJ))
                 rw[eo,←hsw]
                 repeat'(first|exact trivial|refine eS rfl ?_|refine AB ?_|refine rX [0,1,2,8,9,10,11,12,17,35,45] hc ?_ ?_)
                 ·exact CJ
                 ·refine⟨⟨(i+1,v,CH (0,0) c i (a+o)),by simp only;omega,hv,hp.trans hps⟩,by simp only;omega,AC [(1000000,.nm 1000000),(9,.nm 9)] rfl rfl ?_ ?_⟩
                  ·first|exact eN|refine eM ?_
                  ·first|exact eN|refine eM ?_
               ·obtain⟨o,ho⟩:∃o:Nat,r=(o:Int):=⟨r.toNat,by omega⟩
                subst ho
                have ho2:o<n:=by omega
                have hps:Dq (0,0) a (a+n) c (CH (0,0) c i (a+o)):=Dq.swap c (by omega) (by omega) (by omega) (by omega) (by omega)
                have hsw:CH (0,0) c i (a+o)=(c.set i (c.getD (a+o) (0,0))).set (a+o) (c.getD i (0,0)):=rfl
                have eo:((a:Int)+(o:Int)).toNat=a+o:=by omega
                repeat'(first|exact trivial|refine eS rfl ?_|refine AB ?_|refine rP [0,1,2,8,9,10,11,12,17,35,45] hc ?_ ?_|fail)
                (refine Cp drawsAny hc 18 [([0,1,6,7,8,9,10,11,12,13,14,15,16],17)] [2,3,4,5] (by kernel_rfl) (RW ?_ ?_);(next=>exact CJ);refine Sx hc [] ?_ ?_;(next=>exact CJ);refine Sm [0,1,2,8,9,10,11,12,17,35,45] hc ?_ ?_ ?_;(next=>exact CJ);(next=>exact CJ))
                rw[eo,←hsw]
                repeat'(first|exact trivial|refine eS rfl ?_|refine AB ?_|refine rX [0,1,2,8,9,10,11,12,17,35,45] hc ?_ ?_)
                ·exact CJ
                ·refine⟨⟨(i+1,v,CH (0,0) c i (a+o)),by simp only;omega,hv,hp.trans hps⟩,by simp only;omega,AC [(1000000,.nm 1000000),(9,.nm 9)] rfl rfl ?_ ?_⟩
                 ·first|exact eN|refine eM ?_
                 ·first|exact eN|refine eM ?_
          ·repeat'(first|exact trivial|refine eS rfl ?_|refine AB ?_|refine rX [0,1,2,8,9,10,11,12,17,35,45] hc ?_ ?_|refine rC ?_ ?_<;>intro AA<;>try(cases AA;done))
           refine Ev.ent (σ':=⟨[],[(1000000,.arr 53 BC c)]⟩) ?_ (AC [(1000000,.nm 1000000)] rfl rfl ?_ ?_)
           ·exact AU hc [] rfl (.inr rfl) (.raw (.tuple #[])) rfl ⟨rfl,c,rfl,hp⟩
           ·first|exact eN|refine eM ?_
           ·first|exact eN|refine eM ?_
 ·exfalso
  omega
end
/- The sort of arcs: the whole. -/
section
attribute [local go_sem] BN
def Xk (l:List (Int×Int)) (a b lim:Nat):Prop:=BO Tryz.prog 163 [.sr 1000000 BC 0 l.length,.p T3 (a:Int),.p T3 (b:Int),.p T3 (lim:Int),.fn 116] [(1000000,.arr 53 BC l)] [1000000] (fun res objs'=>res=.raw (.tuple #[])∧∃r,objs'=[(1000000,.arr 53 BC r)]∧Dq (0,0) a b l r∧Oo Bu (0,0) a b r)
theorem jU (l:List (Int×Int)) (hl:l.length<256) (hD:YK Bu (0,0) l) (a b lim:Nat) (hab:a≤b) (hb:b≤l.length) (hlim:lim≤1000) (hB:Bf Bu (0,0) a b l)
  (IH:∀(l':List (Int×Int)),l'.length<256→YK Bu (0,0) l'→∀a' b' lim':Nat,b'-a'<b-a→a'≤b'→b'≤l'.length→lim'≤1000→Bf Bu (0,0) a' b' l'→Xk l' a' b' lim'):Xk l a b lim:=by
 unfold Xk
 refine BL Tryz.func163 (by kernel_rfl) rfl Tryz.ntmps163 (by simp only[List.length_cons,List.length_nil];omega) (by kernel_rfl) rfl rfl (AF [(116,BN)]) (AD Eb AI) ?_
 intro w0 K O0 ρ0 hc hok1 hok2
 simp only[Al]
 repeat'(first|exact trivial|refine eS rfl ?_|refine AB ?_|refine rX [0,1,2,3,4,10,11,12,13,14,15,16,17,18,19,20,25,32,39,56,75,80,97,125] hc ?_ ?_)
 refine AJ (ι:={s:(Nat×Nat×Nat)×(Bool×Bool)×List (Int×Int)//jR Bu (0,0) a b s.1.1 s.1.2.1 s.2.2∧Dq (0,0) a b l s.2.2∧Bf Bu (0,0) s.1.1 s.1.2.1 s.2.2∧s.1.2.2≤1000}) (fun s=>⟨[(0,.sr 1000000 BC 0 l.length),(1,.p T3 (s.1.1.1:Int)),(2,.p T3 (s.1.1.2.1:Int)),(3,.p T3 (s.1.1.2.2:Int)),(4,.fn 116),(10,.p .bool s.1.2.1.1),(11,.p .bool s.1.2.1.2)],[(1000000,.arr 53 BC s.1.2.2)]⟩) (fun s=>s.1.1.2.1-s.1.1.1) ⟨((a,b,lim),(true,true),l),jS hab l,Dq.refl a b l,hB,hlim⟩ (AC [(1000000,.nm 1000000)] rfl rfl ?_ ?_) (fun s=>?_)
 ·first|exact eN|refine eM ?_
 ·first|exact eN|refine eM ?_
 ·obtain⟨⟨⟨a1,b1,lim1⟩,⟨wb,wp⟩,m⟩,hcut,hp0,hB1,hl1⟩:=s
  simp only at hcut hp0 hB1 hl1 ⊢
  obtain⟨q1,q2,q3⟩:=hcut.ab
  have hmD:=hD.perm B3 hp0.perm
  have hml:=hp0.len
  repeat'(first|exact trivial|refine eS rfl ?_|refine AB ?_|refine rX [0,1,2,3,4,10,11,12,13,14,15,16,17,18,19,20,25,32,39,56,75,80,97,125] hc ?_ ?_)
  ·exact CJ
  ·refine rC (fun AA=>?_) (fun AA=>?_)
   ·have key:=vD m (by omega) hmD a1 b1 (by omega) (by omega)
    rw[hml]at key
    repeat'(first|exact trivial|refine eS rfl ?_|refine AB ?_|refine rX [0,1,2,3,4,10,11,12,13,14,15,16,17,18,19,20,25,32,39,56,75,80,97,125] hc ?_ ?_)
    refine cP 4 hc ?_ ?_
    ·trivial
    ·refine rM hc (key) [(1000000,.nm 1000000)] [] ?_ ?_ ?_
     ·first|exact eN|refine eM ?_
     ·first|exact eN|refine eM ?_
     ·rintro _ _ ⟨rfl,r,rfl,hpr,hsr⟩
      refine⟨[(1000000,.nm 1000000)],.raw (.tuple #[]),[(1000000,.arr 53 BC r)],rfl,rfl,?_,?_,rfl,rfl,Cm ?_⟩
      ·first|exact eN|refine eM ?_
      ·first|exact eN|refine eM ?_
      ·repeat'(first|exact trivial|refine eS rfl ?_|refine AB ?_|refine rX [0,1,2,3,4,10,11,12,13,14,15,16,17,18,19,20,25,32,39,56,75,80,97,125] hc ?_ ?_|refine rC ?_ ?_<;>intro AA<;>try(cases AA;done))
       exact AU hc [] rfl (.inl rfl) (.raw (.tuple #[])) rfl ⟨rfl,r,rfl,hp0.trans (hpr.mono q1 q3),(hcut.pin hpr).done hsr⟩
   ·have h13:a1+13≤b1:=by omega
    have el:(b1:Int)-(a1:Int)=((b1-a1:Nat):Int):=by omega
    rw[el]
    repeat'(first|exact trivial|refine eS rfl ?_|refine AB ?_|refine rX [0,1,2,3,4,10,11,12,13,14,15,16,17,18,19,20,25,32,39,56,75,80,97,125] hc ?_ ?_)
    refine rC (fun hcond2=>?_) (fun hcond2=>?_)
    ·have key:=oO m (by omega) hmD a1 b1 q2 (by omega)
     rw[hml]at key
     repeat'(first|exact trivial|refine eS rfl ?_|refine AB ?_|refine rX [0,1,2,3,4,10,11,12,13,14,15,16,17,18,19,20,25,32,39,56,75,80,97,125] hc ?_ ?_)
     refine cP 4 hc ?_ ?_
     ·trivial
     ·refine rM hc (key) [(1000000,.nm 1000000)] [] ?_ ?_ ?_
      ·first|exact eN|refine eM ?_
      ·first|exact eN|refine eM ?_
      ·rintro _ _ ⟨rfl,r,rfl,hpr,hsr⟩
       refine⟨[(1000000,.nm 1000000)],.raw (.tuple #[]),[(1000000,.arr 53 BC r)],rfl,rfl,?_,?_,rfl,rfl,Cm ?_⟩
       ·first|exact eN|refine eM ?_
       ·first|exact eN|refine eM ?_
       ·repeat'(first|exact trivial|refine eS rfl ?_|refine AB ?_|refine rX [0,1,2,3,4,10,11,12,13,14,15,16,17,18,19,20,25,32,39,56,75,80,97,125] hc ?_ ?_|refine rC ?_ ?_<;>intro AA<;>try(cases AA;done))
        exact AU hc [] rfl (.inl rfl) (.raw (.tuple #[])) rfl ⟨rfl,r,rfl,hp0.trans (hpr.mono q1 q3),(hcut.pin hpr).done hsr⟩
    ·have hl0:0<lim1:=by omega
     refine Z4 ?_
     refine He ?_
     refine M5 (ι:={x:Nat×List (Int×Int)//x.1≤1000∧Dq (0,0) a1 b1 m x.2}) (fun x=>⟨[(0,.sr 1000000 BC 0 l.length),(1,.p T3 (a1:Int)),(2,.p T3 (b1:Int)),(3,.p T3 (x.1.1:Int)),(4,.fn 116),(10,.p .bool wb),(11,.p .bool wp),(12,.p (.int .i64) ((b1-a1:Nat):Int))],[(1000000,.arr 53 BC x.1.2)]⟩) ?_ (fun x=>?_)
     ·repeat'(first|exact trivial|refine eS rfl ?_|refine AB ?_|refine rX [0,1,2,3,4,10,11,12,13,14,15,16,17,18,19,20,25,32,39,56,75,80,97,125] hc ?_ ?_)
      refine rC (fun hcond3=>?_) (fun hcond3=>?_)
      ·have key:=vL m (by omega) a1 b1 (by omega) (by omega)
       rw[hml]at key
       refine eS rfl ?_
       refine cP 4 hc ?_ ?_
       ·trivial
       ·refine rM hc (key) [(1000000,.nm 1000000)] [] ?_ ?_ ?_
        ·first|exact eN|refine eM ?_
        ·first|exact eN|refine eM ?_
        ·rintro _ _ ⟨rfl,r,rfl,hpr⟩
         refine⟨[(1000000,.nm 1000000)],.raw (.tuple #[]),[(1000000,.arr 53 BC r)],rfl,rfl,?_,?_,rfl,rfl,Cm ?_⟩
         ·first|exact eN|refine eM ?_
         ·first|exact eN|refine eM ?_
         ·repeat'(first|exact trivial|refine eS rfl ?_|refine AB ?_|refine rX [0,1,2,3,4,10,11,12,13,14,15,16,17,18,19,20,25,32,39,56,75,80,97,125] hc ?_ ?_)
          ·exact CJ
          ·refine⟨⟨(lim1-1,r),by simp only;omega,hpr⟩,AC [(1000000,.nm 1000000)] rfl rfl ?_ ?_⟩
           ·first|exact eN|refine eM ?_
           ·simp only
            rw[show ((lim1-1:Nat):Int)=(lim1:Int)-1 by omega]
            first|exact eN|refine eM ?_
      ·repeat'(first|exact trivial|refine eS rfl ?_|refine AB ?_|refine rX [0,1,2,3,4,10,11,12,13,14,15,16,17,18,19,20,25,32,39,56,75,80,97,125] hc ?_ ?_)
       refine⟨⟨(lim1,m),hl1,Dq.refl _ _ m⟩,AC [(1000000,.nm 1000000)] rfl rfl ?_ ?_⟩
       ·first|exact eN|refine eM ?_
       ·first|exact eN|refine eM ?_
     ·obtain⟨⟨lim2,m2⟩,hl2,hp2⟩:=x
      simp only at hl2 hp2 ⊢
      have hml2:m2.length=l.length:=hp2.len.trans hml
      have key:=vH m2 (by omega) a1 b1 h13 (by omega)
      rw[hml2]at key
      refine eS rfl ?_
      refine cP 4 hc ?_ ?_
      ·trivial
      ·refine rM hc (key) [(1000000,.nm 1000000)] [] ?_ ?_ ?_
       ·first|exact eN|refine eM ?_
       ·first|exact eN|refine eM ?_
       ·rintro _ _ ⟨p2,hint,rfl,rfl,hpa,hpb⟩
        refine⟨[(1000000,.nm 1000000)],.tup [.p T3 (p2:Int),.p T3 hint],[(1000000,.arr 53 BC m2)],rfl,rfl,?_,?_,rfl,rfl,?_⟩
        ·first|exact eN|refine eM ?_
        ·first|exact eN|refine eM ?_
        ·refine rL [0,1,2,3,4,10,11,12,13,14,15,16,17,18,19,20,25,32,39,56,75,80,97,125] hc ?_ ?_
         ·trivial
         ·refine He ?_
          refine M5 (ι:={x:Nat×Int×List (Int×Int)//(a1≤x.1∧x.1<b1)∧Dq (0,0) a1 b1 m x.2.2}) (fun x=>⟨[(0,.sr 1000000 BC 0 l.length),(1,.p T3 (a1:Int)),(2,.p T3 (b1:Int)),(3,.p T3 (lim2:Int)),(4,.fn 116),(10,.p .bool wb),(11,.p .bool wp),(12,.p (.int .i64) ((b1-a1:Nat):Int)),(13,.p T3 (x.1.1:Int)),(14,.p T3 x.1.2.1)],[(1000000,.arr 53 BC x.1.2.2)]⟩) ?_ (fun x=>?_)
          ·repeat'(first|exact trivial|refine eS rfl ?_|refine AB ?_|refine rX [0,1,2,3,4,10,11,12,13,14,15,16,17,18,19,20,25,32,39,56,75,80,97,125] hc ?_ ?_)
           refine rC (fun hcond3=>?_) (fun hcond3=>?_)
           ·have key:=vE m2 (by omega) a1 b1 (by omega) (by omega)
            rw[hml2]at key
            refine eS rfl ?_
            refine cP 4 hc ?_ ?_
            ·trivial
            ·refine rM hc (key) [(1000000,.nm 1000000)] [] ?_ ?_ ?_
             ·first|exact eN|refine eM ?_
             ·first|exact eN|refine eM ?_
             ·rintro _ _ ⟨rfl,r,rfl,hpr⟩
              refine⟨[(1000000,.nm 1000000)],.raw (.tuple #[]),[(1000000,.arr 53 BC r)],rfl,rfl,?_,?_,rfl,rfl,Cm ?_⟩
              ·first|exact eN|refine eM ?_
              ·first|exact eN|refine eM ?_
              ·repeat'(first|exact trivial|refine eS rfl ?_|refine AB ?_|refine rX [0,1,2,3,4,10,11,12,13,14,15,16,17,18,19,20,25,32,39,56,75,80,97,125] hc ?_ ?_)
               ·exact CJ
               ·refine⟨⟨(b1-1-(p2-a1),1,r),by simp only;omega,hp2.trans hpr⟩,AC [(1000000,.nm 1000000)] rfl rfl ?_ ?_⟩
                ·first|exact eN|refine eM ?_
                ·simp only
                 rw[show ((b1-1-(p2-a1):Nat):Int)=(b1:Int)-1-((p2:Int)-(a1:Int)) by omega]
                 first|exact eN|refine eM ?_
           ·repeat'(first|exact trivial|refine eS rfl ?_|refine AB ?_|refine rX [0,1,2,3,4,10,11,12,13,14,15,16,17,18,19,20,25,32,39,56,75,80,97,125] hc ?_ ?_)
            refine⟨⟨(p2,hint,m2),⟨hpa,hpb⟩,hp2⟩,AC [(1000000,.nm 1000000)] rfl rfl ?_ ?_⟩
            ·first|exact eN|refine eM ?_
            ·first|exact eN|refine eM ?_
          ·clear hpa hpb hp2 hml2 key
           obtain⟨⟨p2,hint,m2⟩,⟨hpa,hpb⟩,hp2⟩:=x
           simp only at hpa hpb hp2 ⊢
           have hml2:m2.length=l.length:=hp2.len.trans hml
           have hmD2:=hmD.perm B3 hp2.perm
           have hB2:=hB1.pin hp2
           refine M5 (ι:={x:List (Int×Int)//Dq (0,0) a1 b1 m x}) (fun x=>⟨[(0,.sr 1000000 BC 0 l.length),(1,.p T3 (a1:Int)),(2,.p T3 (b1:Int)),(3,.p T3 (lim2:Int)),(4,.fn 116),(10,.p .bool wb),(11,.p .bool wp),(12,.p (.int .i64) ((b1-a1:Nat):Int)),(13,.p T3 (p2:Int))],[(1000000,.arr 53 BC x.1)]⟩) ?_ (fun x=>?_)
           ·repeat'(first|exact trivial|refine eS rfl ?_|refine AB ?_|refine rX [0,1,2,3,4,10,11,12,13,14,15,16,17,18,19,20,25,32,39,56,75,80,97,125] hc ?_ ?_)
            refine rC (fun hcond3=>?_) (fun hcond3=>?_)
            ·have key:=vG m2 (by omega) hmD2 a1 b1 (by omega) (by omega) hB2
             rw[hml2]at key
             refine eS rfl ?_
             refine cP 4 hc ?_ ?_
             ·trivial
             ·refine rM hc (key) [(1000000,.nm 1000000)] [] ?_ ?_ ?_
              ·first|exact eN|refine eM ?_
              ·first|exact eN|refine eM ?_
              ·rintro _ _ ⟨w,r,rfl,rfl,hpr,hsr⟩
               refine⟨[(1000000,.nm 1000000)],.p .bool w,[(1000000,.arr 53 BC r)],rfl,rfl,?_,?_,rfl,rfl,Cm ?_⟩
               ·first|exact eN|refine eM ?_
               ·first|exact eN|refine eM ?_
               ·refine eS rfl ?_
                refine rC (fun hcond4=>?_) (fun hcond4=>?_)
                ·repeat'(first|exact trivial|refine eS rfl ?_|refine AB ?_|refine rX [0,1,2,3,4,10,11,12,13,14,15,16,17,18,19,20,25,32,39,56,75,80,97,125] hc ?_ ?_|refine rC ?_ ?_<;>intro AA<;>try(cases AA;done))
                 have hpr2:=hp2.trans hpr
                 exact AU hc [] rfl (.inl rfl) (.raw (.tuple #[])) rfl ⟨rfl,r,rfl,hp0.trans (hpr2.mono q1 q3),(hcut.pin hpr2).done (hsr hcond4)⟩
                ·repeat'(first|exact trivial|refine eS rfl ?_|refine AB ?_|refine rX [0,1,2,3,4,10,11,12,13,14,15,16,17,18,19,20,25,32,39,56,75,80,97,125] hc ?_ ?_)
                 refine⟨⟨r,hp2.trans hpr⟩,AC [(1000000,.nm 1000000)] rfl rfl ?_ ?_⟩
                 ·first|exact eN|refine eM ?_
                 ·first|exact eN|refine eM ?_
            ·repeat'(first|exact trivial|refine eS rfl ?_|refine AB ?_|refine rX [0,1,2,3,4,10,11,12,13,14,15,16,17,18,19,20,25,32,39,56,75,80,97,125] hc ?_ ?_)
             refine⟨⟨m2,hp2⟩,AC [(1000000,.nm 1000000)] rfl rfl ?_ ?_⟩
             ·first|exact eN|refine eM ?_
             ·first|exact eN|refine eM ?_
           ·clear hml2 hmD2 hB2 hp2
            obtain⟨m3,hp3⟩:=x
            simp only
            have hml3:m3.length=l.length:=hp3.len.trans hml
            have hmD3:=hmD.perm B3 hp3.perm
            have hB3:=hB1.pin hp3
            have hc3:=hcut.pin hp3
            repeat'(first|exact trivial|refine eS rfl ?_|refine AB ?_|refine rX [0,1,2,3,4,10,11,12,13,14,15,16,17,18,19,20,25,32,39,56,75,80,97,125] hc ?_ ?_)
            ·dsimp only[Ty.den]
             exact⟨fun _=>by omega,fun _=>by omega,fun _=>by omega⟩
            ·refine DV (by simp only[go_sem,Nat.reduceEqDiff,reduceCtorEq,Nat.reduceAdd,Nat.reduceSub,Nat.reduceMul,Nat.reduceLeDiff,Nat.reduceLT,Int.reduceLE,Int.reduceToNat,Int.reduceNeg,↓reduceIte];rfl) ?_ ?_
             ·intro hc2
              exfalso
              simp only[Bool.and_eq_true,decide_eq_true_eq,Bool.not_eq_true',decide_eq_false_iff_not]at hc2
              obtain⟨h1,h2⟩:=hc2
              rw[show ((a1:Int)-1).toNat=a1-1 by omega]at h2
              rcases hB3 with h|h
              ·omega
              ·exact h2 (h p2 hpa hpb)
             ·intro hc2
              clear hc2
              have key:=vF m3 (by omega) hmD3 a1 b1 p2 hpa hpb (by omega)
              rw[hml3]at key
              repeat'(first|exact trivial|refine eS rfl ?_|refine AB ?_|refine rX [0,1,2,3,4,10,11,12,13,14,15,16,17,18,19,20,25,32,39,56,75,80,97,125] hc ?_ ?_)
              refine cP 5 hc ?_ ?_
              ·trivial
              ·refine rM hc (key) [(1000000,.nm 1000000)] [] ?_ ?_ ?_
               ·first|exact eN|refine eM ?_
               ·first|exact eN|refine eM ?_
               ·rintro _ _ ⟨q,w,m4,rfl,rfl,hp4,he4⟩
                refine⟨[(1000000,.nm 1000000)],.tup [.p T3 (q:Int),.p .bool w],[(1000000,.arr 53 BC m4)],rfl,rfl,?_,?_,rfl,rfl,?_⟩
                ·first|exact eN|refine eM ?_
                ·first|exact eN|refine eM ?_
                ·have hqa:=he4.l
                 have hqb:=he4.r
                 have hp04:=hp0.trans ((hp3.trans hp4).mono q1 q3)
                 have hml4:=hp04.len
                 have hmD4:=hD.perm B3 hp04.perm
                 have hB4:=hB3.pin hp4
                 have hc4:=hc3.pin hp4
                 clear hp3 hml3 hmD3 hB3 hc3 hp4 key
                 have e8:(((b1-a1:Nat):Int)).tdiv 8=(((b1-a1) / 8:Nat):Int):=by
                  rw[Int.tdiv_eq_ediv_of_nonneg (by omega)]
                  omega
                 refine rL [0,1,2,3,4,10,11,12,13,14,15,16,17,18,19,20,25,32,39,56,75,80,97,125] hc ?_ ?_
                 ·trivial
                 ·repeat'(first|exact trivial|refine eS rfl ?_|refine AB ?_|refine rX [0,1,2,3,4,10,11,12,13,14,15,16,17,18,19,20,25,32,39,56,75,80,97,125] hc ?_ ?_)
                  ·exact CJ
                  ·rw[e8]
                   exact⟨by decide,by omega,by omega⟩
                  ·rw[e8]
                   refine rC (fun hcond3=>?_) (fun hcond3=>?_)
                   ·have key:=IH m4 (by omega) hmD4 a1 q lim2 (by omega) hqa (by omega) hl2 (hB4.sub (by omega))
                    unfold Xk at key
                    rw[hml4]at key
                    repeat'(first|exact trivial|refine eS rfl ?_|refine AB ?_|refine rX [0,1,2,3,4,10,11,12,13,14,15,16,17,18,19,20,25,32,39,56,75,80,97,125] hc ?_ ?_)
                    refine cP 5 hc ?_ ?_
                    ·trivial
                    ·refine rM hc (key) [(1000000,.nm 1000000)] [] ?_ ?_ ?_
                     ·first|exact eN|refine eM ?_
                     ·first|exact eN|refine eM ?_
                     ·rintro _ _ ⟨rfl,r,rfl,hpr,hsr⟩
                      refine⟨[(1000000,.nm 1000000)],.raw (.tuple #[]),[(1000000,.arr 53 BC r)],rfl,rfl,?_,?_,rfl,rfl,Cm ?_⟩
                      ·first|exact eN|refine eM ?_
                      ·first|exact eN|refine eM ?_
                      ·have her:=he4.pinL hpr
                       have hpr1:Dq (0,0) a1 b1 m4 r:=hpr.mono (Nat.le_refl _) (by omega)
                       repeat'(first|exact trivial|refine eS rfl ?_|refine AB ?_|refine rX [0,1,2,3,4,10,11,12,13,14,15,16,17,18,19,20,25,32,39,56,75,80,97,125] hc ?_ ?_)
                       ·exact CJ
                       ·refine⟨⟨((q+1,b1,lim2),(decide ((((b1-a1) / 8:Nat):Int)≤(q:Int)-(a1:Int)),w),r),(hc4.pin hpr1).left B3 her hsr,hp04.trans (hpr1.mono q1 q3),her.bf,hl2⟩,by simp only;omega,AC [(1000000,.nm 1000000)] rfl rfl ?_ ?_⟩
                        ·first|exact eN|refine eM ?_
                        ·first|exact eN|refine eM ?_
                   ·have key:=IH m4 (by omega) hmD4 (q+1) b1 lim2 (by omega) (by omega) (by omega) hl2 he4.bf
                    unfold Xk at key
                    rw[hml4,show ((q+1:Nat):Int)=(q:Int)+1 by omega]at key
                    repeat'(first|exact trivial|refine eS rfl ?_|refine AB ?_|refine rX [0,1,2,3,4,10,11,12,13,14,15,16,17,18,19,20,25,32,39,56,75,80,97,125] hc ?_ ?_)
                    refine cP 6 hc ?_ ?_
                    ·exact CJ
                    ·refine rM hc (key) [(1000000,.nm 1000000)] [] ?_ ?_ ?_
                     ·first|exact eN|refine eM ?_
                     ·first|exact eN|refine eM ?_
                     ·rintro _ _ ⟨rfl,r,rfl,hpr,hsr⟩
                      refine⟨[(1000000,.nm 1000000)],.raw (.tuple #[]),[(1000000,.arr 53 BC r)],rfl,rfl,?_,?_,rfl,rfl,Cm ?_⟩
                      ·first|exact eN|refine eM ?_
                      ·first|exact eN|refine eM ?_
                      ·have her:=he4.pinR hpr
                       have hpr1:Dq (0,0) a1 b1 m4 r:=hpr.mono (by omega) (Nat.le_refl _)
                       repeat'(first|exact trivial|refine eS rfl ?_|refine AB ?_|refine rX [0,1,2,3,4,10,11,12,13,14,15,16,17,18,19,20,25,32,39,56,75,80,97,125] hc ?_ ?_)
                       refine⟨⟨((a1,q,lim2),(decide ((((b1-a1) / 8:Nat):Int)≤(b1:Int)-(q:Int)),w),r),(hc4.pin hpr1).right B3 her hsr,hp04.trans (hpr1.mono q1 q3),(hB4.pin hpr1).sub (b':=q) (by omega),hl2⟩,by simp only;omega,AC [(1000000,.nm 1000000)] rfl rfl ?_ ?_⟩
                       ·first|exact eN|refine eM ?_
                       ·first|exact eN|refine eM ?_
theorem vM (l:List (Int×Int)) (hl:l.length<256) (hD:YK Bu (0,0) l) (a b lim:Nat) (hab:a≤b) (hb:b≤l.length) (hlim:lim≤1000) (hB:Bf Bu (0,0) a b l):Xk l a b lim:=by
 have key:∀(n:Nat) (l:List (Int×Int)),l.length<256→YK Bu (0,0) l→∀a b lim:Nat,b-a<n→a≤b→b≤l.length→lim≤1000→Bf Bu (0,0) a b l→Xk l a b lim:=by
  intro n
  induction n with
  | zero=>intro l _ _ a b lim h;omega
  | succ n ih =>
   intro l hl hD a b lim hn hab hb hlim hB
   exact jU l hl hD a b lim hab hb hlim hB fun l' h1 h2 a' b' lim' h3 h4 h5 h6 h7=>ih l' h1 h2 a' b' lim' (by omega) h4 h5 h6 h7
 exact key (b-a+1) l hl hD a b lim (by omega) hab hb hlim hB
end
/- Plain: the reference's sort of arcs of different features. -/
section
def oQ (l:List (Int×Int)):Prop:=l.Pairwise fun a b=>a.1≠b.1
def wF (l:List (Int×Int)):Prop:=l.Pairwise fun a b=>a.1<b.1
theorem US (x:Int×Int) (s:List (Int×Int)):∀n,(∀j,K5 x s n≤j→j<n→x.1<(s.getD j (0,0)).1)∧(K5 x s n=0∨¬x.1<(s.getD (K5 x s n-1) (0,0)).1)
 | 0=>⟨fun j h1 h2=>by omega,.inl rfl⟩
 | n+1=>by
  obtain⟨h1,h2⟩:=US x s n
  unfold K5
  split
  ·rename_i h
   refine⟨fun j hj1 hj2=>?_,h2⟩
   by_cases e:j=n
   ·rw[e];exact h
   ·exact h1 j hj1 (by omega)
  ·rename_i h
   exact⟨fun j hj1 hj2=>by omega,.inr (by simpa using h)⟩
theorem vN {s:List (Int×Int)} (hs:wF s) {x:Int×Int} (hx:∀a∈s,a.1≠x.1):wF (Og s x):=by
 obtain⟨h1,h2⟩:=US x s s.length
 have hle:=VV x s s.length
 unfold Og
 generalize K5 x s s.length=p at *
 have hp:=hs
 unfold wF at hp
 rw[←List.take_append_drop p s,List.pairwise_append]at hp
 have hg:∀i (h:i<s.length),s.getD i (0,0)=s[i]:=fun i h=>by rw[List.getD_eq_getElem?_getD,List.getElem?_eq_getElem h];rfl
 have hlow:∀a∈s.take p,a.1<x.1:=by
  intro a ha
  rcases h2 with h2|h2
  ·subst h2;simp at ha
  ·obtain⟨i,hi,rfl⟩:=List.mem_iff_getElem.1 ha
   rw[List.length_take]at hi
   rw[List.getElem_take]
   by_cases hp0:p=0
   ·omega
   have hps:p-1<s.length:=by omega
   rw[hg (p-1) hps]at h2
   have hne:=hx s[p-1] (List.getElem_mem hps)
   by_cases e:i=p-1
   ·subst e;omega
   ·have:=(List.pairwise_iff_getElem.1 hs) i (p-1) (by omega) hps (by omega)
    omega
 have hhigh:∀a∈s.drop p,x.1<a.1:=by
  intro a ha
  obtain⟨i,hi,rfl⟩:=List.mem_iff_getElem.1 ha
  rw[List.length_drop]at hi
  rw[List.getElem_drop,←hg (p+i) (by omega)]
  exact h1 (p+i) (by omega) (by omega)
 unfold wF
 rw[List.append_assoc,List.pairwise_append]
 refine⟨hp.1,?_,fun a ha b hb=>?_⟩
 ·rw[List.singleton_append,List.pairwise_cons]
  exact⟨hhigh,hp.2.1⟩
 ·rcases List.mem_cons.1 (by simpa using hb:b∈x :: s.drop p) with rfl|hb
  ·exact hlow a ha
  ·exact hp.2.2 a ha b hb
theorem Mj {l:List (Int×Int)} (h:oQ l):wF (AZ l):=by
 induction l using Iu with
 | h0=>exact List.Pairwise.nil
 | h1 l a ih =>
  unfold oQ at h
  rw[List.pairwise_append]at h
  rw[Jw]
  exact vN (ih h.1) fun b hb=>h.2.2 b ((Fs l).mem_iff.1 hb) a (by simp)
theorem jV {l r:List (Int×Int)} (hp:r.Perm l) (h1:wF r) (h2:wF l):r=l :=
 List.Perm.eq_of_pairwise (le:=fun a b:Int×Int=>a.1<b.1) (fun a b _ _ g1 g2=>by omega) h1 h2 hp
theorem fY {l:List (Int×Int)} (h:wF l):u9 l:=by
 intro i hi
 have hg:∀i (h:i<l.length),l.getD i (0,0)=l[i]:=fun i h=>by rw[List.getD_eq_getElem?_getD,List.getElem?_eq_getElem h];rfl
 rw[hg i (by omega),hg (i+1) hi]
 exact(List.pairwise_iff_getElem.1 h) i (i+1) (by omega) hi (by omega)
theorem xN {l:List (Int×Int)} (h:oQ l):YK Bu (0,0) l:=by
 rw[fV B3]
 refine h.imp fun {a b} g e=>g ?_
 unfold Bu FJ at e
 split at e
 ·omega
 ·split at e<;>omega
theorem ZZ {l r:List (Int×Int)} (h:oQ l) (hp:r.Perm l) (hs:Oo Bu (0,0) 0 l.length r):r=AZ l:=by
 refine jV (hp.trans (Fs l).symm) (List.pairwise_iff_getElem.2 fun i j hi hj hij=>?_) (Mj h)
 have hg:∀i (h:i<r.length),r.getD i (0,0)=r[i]:=fun i h=>by rw[List.getD_eq_getElem?_getD,List.getElem?_eq_getElem h];rfl
 have:=hs i j (Nat.zero_le _) hij (by rw[←hp.length_eq];exact hj)
 rw[hg i hi,hg j hj]at this
 unfold Bu FJ at this
 split at this
 ·assumption
 ·split at this<;>omega
theorem LC {l:List (Int×Int)} (h:oQ l):AZ (AZ l)=AZ l:=LB (fY (Mj h))
/-! Graphs whose nodes have different features -/
def wG (f:List AN):Prop:=∀x∈f,oQ x.2∧x.2.length≤200
def Dz (f:List AN):List AN:=f.map fun x=>(x.1,AZ x.2)
theorem Fu (f:List AN):(Dz f).length=f.length:=List.length_map _
theorem Ng (f:List AN) (n:Nat):(Dz f).getD n (0,[])=((f.getD n (0,[])).1,AZ (f.getD n (0,[])).2):=by
 unfold Dz
 simp only[List.getD_eq_getElem?_getD,List.getElem?_map]
 cases f[n]?<;>rfl
theorem Oq {f:List AN} (h:El f):El (Dz f):=by
 refine⟨by rw[Fu];exact h.1,fun x hx=>?_⟩
 obtain⟨y,hy,rfl⟩:=List.mem_map.1 hx
 obtain⟨g1,g2⟩:=h.2 y hy
 refine⟨by simp only[CZ];exact g1,fun a ha=>?_⟩
 rw[Fu]
 exact g2 a ((Fs _).mem_iff.1 ha)
theorem oT {f:List AN} (h:wG f):vB (Dz f):=by
 intro x hx
 obtain⟨y,hy,rfl⟩:=List.mem_map.1 hx
 obtain⟨g1,g2⟩:=h y hy
 exact⟨fY (Mj g1),by simp only[CZ];exact g2⟩
theorem fZ {f:List AN} (hf:wG f) (n:Int):oQ (f.getD n.toNat (0,[])).2∧(f.getD n.toNat (0,[])).2.length≤200:=by
 by_cases h:n.toNat<f.length
 ·have hm:f.getD n.toNat (0,[])∈f:=by
   rw[List.getD_eq_getElem?_getD,List.getElem?_eq_getElem h];exact List.getElem_mem h
  exact hf _ hm
 ·rw[List.getD_eq_getElem?_getD,List.getElem?_eq_none (by omega)]
  exact⟨List.Pairwise.nil,by simp⟩
theorem Pn {f:List AN} (h:wG f):∀(k:Nat) (s:List Int×List Int) (n:Int),Dl (Dz f) k s n=Dl f k s n
 | 0,_,_=>rfl
 | k+1,s,n=>by
  rw[FG,FG,Ng]
  simp only
  rw[LC (fZ h n).1]
  refine congrArg (fun g=>List.foldl g _ _) ?_
  funext s a
  unfold EH
  rw[Pn h k s a.2]
theorem jW {f:List AN} (h:wG f) (r:Int):KN (Dz f) r=KN f r:=by
 have ht:F3 (Dz f) r=F3 f r:=by
  unfold F3
  rw[Fu,Pn h]
 unfold KN
 rw[ht]
 refine List.map_congr_left fun n _=>?_
 unfold Lz
 rw[Ng]
 simp only
 rw[LC (fZ h n).1]
theorem Xl {f:List AN} (hf:El f) (hn:wG f) {root:Int} (h0:0≤root) (h1:root<f.length):KN f root=E0 (Dz f) root:=by
 rw[←jW hn]
 exact SR (Oq hf) (oT hn) h0 (by rw[Fu];exact h1)
end
/- Functions of Go's library under graph.canonical: Values, AppendSeq, Collect, SortFunc, SortedFunc, of what is sorted. -/
section
theorem oU {L:Go.Loop} (h1:L.state=.ready) (h2:L.pending=none):{ { L with state:=.busy } with state:=.ready,pending:=none }=L:=by
 cases L;simp_all
theorem UT (l:List (Int×Int)):BO Tryz.prog 115 [.p Iw l] [] [] (fun res objs'=>res=.clo 149 [1]∧objs'=[(1,.box 47 false [.p Iw l])]):=by
 refine BL Tryz.func115 (by kernel_rfl) rfl Tryz.ntmps115 (by simp only[List.length_cons,List.length_nil];omega) (by kernel_rfl) rfl rfl (AF []) AI ?_
 intro w0 K O0 ρ0 hc hok1 hok2
 simp only[Al]
 repeat'(first|exact trivial|refine eS rfl ?_|refine AB ?_|refine rX [0,1,2] hc ?_ ?_|refine rC ?_ ?_<;>intro AA<;>try(cases AA;done))
 exact AU hc [.tmp 2] rfl (.inl rfl) (.clo 149 [1]) eT ⟨rfl,rfl⟩
def B7 (l:List (Int×Int)) (L:Go.Loop) (tm:Array Value) (i:Nat):List (Nat×Obj):=[(1,.box 47 false [.p Iw l]),(101,.loop L),(102,.frame tm [(2,.bp 2 [] 0),(6,.clo 149 [1])]),(2,.box 47 false [.sr 7 BC 0 i]),(7,.arr 53 BC (l.take i))]
theorem Za (l:List (Int×Int)) (hl:l.length≤100000) (L:Go.Loop) (tm:Array Value) (hY:∀i,i<l.length→Wb Tryz.prog 101 [.p BC (l.getD i (0,0))] (B7 l L tm i) [1,101,102,2] (fun res objs'=>res=.p .bool true∧objs'=B7 l L tm (i+1))) :
  BO Tryz.prog 149 [.yl 101,.bp 1 [] 0] (B7 l L tm 0) [1,101,102,2] (fun res objs'=>res=.raw (.tuple #[])∧objs'=B7 l L tm l.length):=by
 refine BL Tryz.func149 (by kernel_rfl) rfl Tryz.ntmps149 (by simp only[List.length_cons,List.length_nil];omega) (by kernel_rfl) rfl rfl (AF []) AI ?_
 intro w0 K O0 ρ0 hc hok1 hok2
 simp only[Al,B7]
 repeat'(first|exact trivial|refine eS rfl ?_|refine AB ?_|refine rX [0,1,4,5,6,7,8,14] hc ?_ ?_|refine rC ?_ ?_<;>intro AA<;>try(cases AA;done))
 refine AJ (ι:={i:Nat//i≤l.length}) (fun i=>⟨[(0,.yl 101),(1,.bp 1 [] 0),(5,.p Iw l),(6,.p (.int .i64) (l.length:Int)),(7,.p (.int .i64) (i.1:Int))],B7 l L tm i.1⟩) (fun i=>l.length-i.1) ⟨0,by omega⟩ (AC [(1,.nm 1),(101,.nm 101),(102,.nm 102),(2,.nm 2),(7,.nm 7)] rfl rfl ?_ ?_) (fun i=>?_)
 ·simp only[B7]
  first|exact eN|refine eM ?_
 ·first|exact eN|refine eM ?_
 ·obtain⟨i,hi⟩:=i
  simp only[B7]
  repeat'(first|exact trivial|refine eS rfl ?_|refine AB ?_|refine rX [0,1,4,5,6,7,8,14] hc ?_ ?_|refine rC ?_ ?_<;>intro AA<;>try(cases AA;done))
  ·exact eV
  ·have hil:i<l.length:=by exact eV
   refine cP 2 hc ?_ ?_
   ·trivial
   ·refine rY 101 101 hc (hY i hil) [(1,.nm 1),(101,.nm 101),(102,.nm 102),(2,.nm 2),(7,.nm 7)] [7] ?_ ?_ ?_
    ·first|exact eN|refine eM ?_
    ·simp only[B7]
     first|exact eN|refine eM ?_
    ·rintro _ _ ⟨rfl,rfl⟩
     refine⟨[(1,.nm 1),(101,.nm 101),(102,.nm 102),(2,.nm 2),(7,.nm 7)],.p .bool true,B7 l L tm (i+1),rfl,rfl,?_,?_,rfl,rfl,?_⟩
     ·simp only[B7]
      first|exact eN|refine eM ?_
     ·first|exact eN|refine eM ?_
     ·simp only[B7]
      refine Hl [0,1,5,6,7,14] hc (by simp only[go_sem,Nat.reduceEqDiff,reduceCtorEq,Nat.reduceAdd,Nat.reduceSub,Nat.reduceMul,Nat.reduceLeDiff,Nat.reduceLT,Int.reduceLE,Int.reduceToNat,Int.reduceNeg,↓reduceIte];rfl) ?_ ?_
      ·trivial
      ·repeat'(first|exact trivial|refine eS rfl ?_|refine AB ?_|refine rX [0,1,4,5,6,7,8,14] hc ?_ ?_|refine rC ?_ ?_<;>intro AA<;>try(cases AA;done))
       ·exact eV
       ·refine⟨⟨i+1,by omega⟩,by simp only;omega,AC [(1,.nm 1),(101,.nm 101),(102,.nm 102),(2,.nm 2),(7,.nm 7)] rfl rfl ?_ ?_⟩
        ·simp only[B7]
         first|exact eN|refine eM ?_
        ·first|exact eN|refine eM ?_
  ·have hil:i=l.length:=by exact eV
   subst hil
   refine AU hc [] rfl (.inr rfl) (.raw (.tuple #[])) rfl ⟨rfl,?_⟩
   simp only[B7,List.take_length]
theorem Vf (l:List (Int×Int)) (hl:l.length≤100000):BO Tryz.prog 162 [.raw (.slice none 0 0),.clo 149 [1]] [(1,.box 47 false [.p Iw l])] [] (fun res objs'=>res=.sr 7 BC 0 l.length∧objs'=[(7,.arr 53 BC l)]):=by
 refine rH Tryz.func162 (by kernel_rfl) rfl Tryz.ntmps162 (by simp only[List.length_cons,List.length_nil];omega) (by kernel_rfl) rfl rfl (AF []) AI ?_
 intro w0 K O0 ρ0 hc hok1 hok2
 simp only[Al]
 repeat'(first|exact trivial|refine eS rfl ?_|refine AB ?_|refine rX [0,1,2,4,5,6,7] hc ?_ ?_|refine rC ?_ ?_<;>intro AA<;>try(cases AA;done))
 refine mI hc rfl rfl (by simp only[go_sem,Nat.reduceEqDiff,reduceCtorEq,Nat.reduceAdd,Nat.reduceSub,Nat.reduceMul,Nat.reduceLeDiff,Nat.reduceLT,Int.reduceLE,Int.reduceToNat,Int.reduceNeg,↓reduceIte];rfl) 101 103 102 rfl rfl rfl rfl ?_
 intro L tm hL1 hL2 hL3 hL4 hL5 hL6 htm
 refine⟨_,B7 l L tm 0,[1,101,102,2],_,[(1,.nm 1),(101,.nm 101),(102,.nm 102),(2,.nm 2),(7,.nil)],[],Za l hl L tm ?_,rfl,rfl,?_,?_,rfl,?_⟩
 ·intro i hi
  refine mH (fr:=102) rfl rfl hL1 hL4 hL5 hL6 hL3 htm rfl (by kernel_rfl) (by simp) rfl rfl (by kernel_rfl) (by kernel_rfl) (AF []) AI ?_
  intro w1 K1 O1 ρ1 lb hc hok3 hok4 hb
  simp only[B7,Fk]
  repeat'(first|exact trivial|refine eS rfl ?_|refine AB ?_|refine rX [0,1,2,4,5,6,7] hc ?_ ?_|refine rC ?_ ?_<;>intro AA<;>try(cases AA;done))
  refine⟨rfl,?_⟩
  repeat'(first|exact trivial|refine eS rfl ?_|refine AB ?_|refine rX [0,1,2,4,5,6,7] hc ?_ ?_|refine rC ?_ ?_<;>intro AA<;>try(cases AA;done))
  ·simp only[AO];omega
  ·have e:List.take i (List.take i l)++[((l.getD i (0,0)).1,(l.getD i (0,0)).2)]=l.take (i+1):=by
    rw[Au l (0,0) hi,List.take_of_length_le (Nat.le_of_eq (by rw[List.length_take];omega):(l.take i).length≤i)]
   refine Ev.ent (σ':=⟨[],[(1,.box 47 false [.p Iw l]),(101,.loop { L with state:=.busy }),(102,.frame tm [(2,.bp 2 [] 0),(6,.clo 149 [1])]),(2,.box 47 false [.sr 7 BC 0 (i+1)]),(7,.arr 53 BC (l.take (i+1)))]⟩) ?_ (AC [(1,.nm 1),(101,.nm 101),(102,.nm 102),(2,.nm 2),(7,.nm 7)] rfl rfl ?_ ?_)
   ·refine iE hc (yn:=101) rfl rfl (by simp) hb ⟨rfl,?_⟩
    simp only[B7,go_sem,Nat.reduceEqDiff,reduceCtorEq,Nat.reduceAdd,Nat.reduceSub,Nat.reduceMul,Nat.reduceLeDiff,Nat.reduceLT,Int.reduceLE,Int.reduceToNat,Int.reduceNeg,↓reduceIte,oU hL1 hL2]
   ·first|exact eN|refine eM ?_
    exact e
   ·first|exact eN|refine eM ?_
 ·simp only[BQ]
  first|exact eN|refine eM ?_
 ·simp only[BQ,B7]
  first|exact eN|refine eM ?_
 ·rintro _ _ ⟨rfl,rfl⟩
  refine⟨[(1,.nm 1),(101,.nm 101),(102,.nm 102),(2,.nm 2),(7,.nm 7)],B7 l L tm l.length,L,rfl,rfl,?_,rfl,rfl,rfl,by rw[hL1];rfl,?_⟩
  ·simp only[B7]
   first|exact eN|refine eM ?_
  ·intro b
   rw[hL2]
   simp only[EvJ,B7,BQ,go_sem,Nat.reduceEqDiff,reduceCtorEq,Nat.reduceAdd,Nat.reduceSub,Nat.reduceMul,Nat.reduceLeDiff,Nat.reduceLT,Int.reduceLE,Int.reduceToNat,Int.reduceNeg,↓reduceIte]
   replace hc:=iG (dn:=103) (b:=b) hc
   repeat'(first|exact trivial|refine eS rfl ?_|refine AB ?_|refine rX [0,1,2,4,5,6,7] hc ?_ ?_|refine rC ?_ ?_<;>intro AA<;>try(cases AA;done))
   refine Ev.ent (σ':=⟨[(4,.sr 7 BC 0 l.length)],[(7,.arr 53 BC l),(103,.dfr)]⟩) ?_ (AC [(7,.nm 7),(103,.nm 103)] rfl rfl ?_ ?_)
   ·exact mK hc [.tmp 4] rfl (.inl rfl) rfl rfl (.sr 7 BC 0 l.length) eT ⟨rfl,by simp only[go_sem,Nat.reduceEqDiff,reduceCtorEq,Nat.reduceAdd,Nat.reduceSub,Nat.reduceMul,Nat.reduceLeDiff,Nat.reduceLT,Int.reduceLE,Int.reduceToNat,Int.reduceNeg,↓reduceIte]⟩
   ·first|exact eN|refine eM ?_
   ·first|exact eN|refine eM ?_
theorem Zb (l:List (Int×Int)) (hl:l.length≤100000):BO Tryz.prog 147 [.clo 149 [1]] [(1,.box 47 false [.p Iw l])] [] (fun res objs'=>res=.sr 7 BC 0 l.length∧objs'=[(7,.arr 53 BC l)]):=by
 refine BL Tryz.func147 (by kernel_rfl) rfl Tryz.ntmps147 (by simp only[List.length_cons,List.length_nil];omega) (by kernel_rfl) rfl rfl (AF []) AI ?_
 intro w0 K O0 ρ0 hc hok1 hok2
 simp only[Al]
 repeat'(first|exact trivial|refine eS rfl ?_|refine AB ?_|refine rX [0,2] hc ?_ ?_|refine rC ?_ ?_<;>intro AA<;>try(cases AA;done))
 refine cP 1 hc ?_ ?_
 ·trivial
 ·refine rM hc (Vf l hl) [(1,.nm 1)] [1] ?_ ?_ ?_
  ·first|exact eN|refine eM ?_
  ·first|exact eN|refine eM ?_
  ·rintro _ _ ⟨rfl,rfl⟩
   refine⟨[(7,.nm 7)],.sr 7 BC 0 l.length,[(7,.arr 53 BC l)],rfl,rfl,?_,?_,rfl,rfl,?_⟩
   ·first|exact eN|refine eM ?_
   ·first|exact eN|refine eM ?_
   ·refine Hl [2] hc (by simp only[go_sem,Nat.reduceEqDiff,reduceCtorEq,Nat.reduceAdd,Nat.reduceSub,Nat.reduceMul,Nat.reduceLeDiff,Nat.reduceLT,Int.reduceLE,Int.reduceToNat,Int.reduceNeg,↓reduceIte];rfl) ?_ ?_
    ·trivial
    ·repeat'(first|exact trivial|refine eS rfl ?_|refine AB ?_|refine rX [0,2] hc ?_ ?_|refine rC ?_ ?_<;>intro AA<;>try(cases AA;done))
     exact AU hc [.tmp 2] rfl (.inl rfl) (.sr 7 BC 0 l.length) eT ⟨rfl,rfl⟩
theorem Xm (l:List (Int×Int)) (hl:l.length≤200) (hs:oQ l):BO Tryz.prog 148 [.sr 1000000 BC 0 l.length,.fn 116] [(1000000,.arr 53 BC l)] [1000000] (fun res objs'=>res=.raw (.tuple #[])∧objs'=[(1000000,.arr 53 BC (AZ l))]):=by
 have hDst:=xN hs
 refine BL Tryz.func148 (by kernel_rfl) rfl Tryz.ntmps148 (by simp only[List.length_cons,List.length_nil];omega) (by kernel_rfl) rfl rfl (AF []) AI ?_
 intro w0 K O0 ρ0 hc hok1 hok2
 simp only[Al]
 repeat'(first|exact trivial|refine eS rfl ?_|refine AB ?_|refine rX [0,1,4] hc ?_ ?_|refine rC ?_ ?_<;>intro AA<;>try(cases AA;done))
 refine cP 4 hc ?_ ?_
 ·exact eV
 ·refine rM hc (fX (l.length:Int) (by omega) (by omega)) [] [] ?_ ?_ ?_
  ·first|exact eN|refine eM ?_
  ·first|exact eN|refine eM ?_
  ·rintro _ _ ⟨⟨n,rfl,h8,-⟩,rfl⟩
   refine⟨[],.p T3 (n:Int),[],rfl,rfl,?_,?_,rfl,rfl,?_⟩
   ·first|exact eN|refine eM ?_
   ·first|exact eN|refine eM ?_
   ·have key:=vM l (by omega) hDst 0 l.length n (Nat.zero_le _) (Nat.le_refl _) (by omega) (.inl rfl)
    unfold Xk at key
    rw[show ((0:Nat):Int)=0 from rfl]at key
    refine QR hc 1 (by simp only[go_sem,Nat.reduceEqDiff,reduceCtorEq,Nat.reduceAdd,Nat.reduceSub,Nat.reduceMul,Nat.reduceLeDiff,Nat.reduceLT,Int.reduceLE,Int.reduceToNat,Int.reduceNeg,↓reduceIte];rfl) ?_ ?_
    ·trivial
    ·refine rM hc (key) [(1000000,.nm 1000000)] [] ?_ ?_ ?_
     ·first|exact eN|refine eM ?_
     ·first|exact eN|refine eM ?_
     ·rintro _ _ ⟨rfl,r,rfl,hp,hr⟩
      have er:=ZZ hs hp.perm hr
      subst er
      have hsl:=CZ l
      refine⟨[(1000000,.nm 1000000)],.raw (.tuple #[]),[(1000000,.arr 53 BC (AZ l))],rfl,rfl,?_,?_,rfl,rfl,Cm ?_⟩
      ·first|exact eN|refine eM ?_
      ·first|exact eN|refine eM ?_
      ·repeat'(first|exact trivial|refine eS rfl ?_|refine AB ?_|refine rX [0,1,4] hc ?_ ?_|refine rC ?_ ?_<;>intro AA<;>try(cases AA;done))
       exact AU hc [] rfl (.inr rfl) (.raw (.tuple #[])) rfl ⟨rfl,rfl⟩
theorem L1 (l:List (Int×Int)) (hl:l.length≤200) (hs:oQ l):BO Tryz.prog 114 [.clo 149 [1],.fn 116] [(1,.box 47 false [.p Iw l])] [] (fun res objs'=>res=.sr 7 BC 0 l.length∧objs'=[(7,.arr 53 BC (AZ l))]):=by
 have hsl:=CZ l
 refine BL Tryz.func114 (by kernel_rfl) rfl Tryz.ntmps114 (by simp only[List.length_cons,List.length_nil];omega) (by kernel_rfl) rfl rfl (AF []) AI ?_
 intro w0 K O0 ρ0 hc hok1 hok2
 simp only[Al]
 repeat'(first|exact trivial|refine eS rfl ?_|refine AB ?_|refine rX [0,1,4,5] hc ?_ ?_|refine rC ?_ ?_<;>intro AA<;>try(cases AA;done))
 refine cP 1 hc ?_ ?_
 ·trivial
 ·refine rM hc (Zb l (by omega)) [(1,.nm 1)] [1] ?_ ?_ ?_
  ·first|exact eN|refine eM ?_
  ·first|exact eN|refine eM ?_
  ·rintro _ _ ⟨rfl,rfl⟩
   refine⟨[(1000000,.nm 7)],.sr 1000000 BC 0 l.length,[(1000000,.arr 53 BC l)],rfl,rfl,?_,?_,rfl,rfl,?_⟩
   ·first|exact eN|refine eM ?_
   ·first|exact eN|refine eM ?_
   ·refine Hl [1,5] hc (by simp only[go_sem,Nat.reduceEqDiff,reduceCtorEq,Nat.reduceAdd,Nat.reduceSub,Nat.reduceMul,Nat.reduceLeDiff,Nat.reduceLT,Int.reduceLE,Int.reduceToNat,Int.reduceNeg,↓reduceIte];rfl) ?_ ?_
    ·trivial
    ·repeat'(first|exact trivial|refine eS rfl ?_|refine AB ?_|refine rX [0,1,4,5] hc ?_ ?_|refine rC ?_ ?_<;>intro AA<;>try(cases AA;done))
     refine cP 2 hc ?_ ?_
     ·trivial
     ·refine rM hc (Xm l hl hs) [(1000000,.nm 1000000)] [] ?_ ?_ ?_
      ·first|exact eN|refine eM ?_
      ·first|exact eN|refine eM ?_
      ·rintro _ _ ⟨rfl,rfl⟩
       refine⟨[(1000000,.nm 1000000)],.raw (.tuple #[]),[(1000000,.arr 53 BC (AZ l))],rfl,rfl,?_,?_,rfl,rfl,Cm ?_⟩
       ·first|exact eN|refine eM ?_
       ·first|exact eN|refine eM ?_
       ·repeat'(first|exact trivial|refine eS rfl ?_|refine AB ?_|refine rX [0,1,4,5] hc ?_ ?_|refine rC ?_ ?_<;>intro AA<;>try(cases AA;done))
        refine Ev.ent (σ':=⟨[(4,.sr 7 BC 0 l.length)],[(7,.arr 53 BC (AZ l))]⟩) ?_ (AC [(7,.nm 1000000)] rfl rfl ?_ ?_)
        ·exact AU hc [.tmp 4] rfl (.inl rfl) (.sr 7 BC 0 l.length) eT ⟨rfl,rfl⟩
        ·first|exact eN|refine eM ?_
        ·first|exact eN|refine eM ?_
end
/- Functions of graph: canonical's search. -/
section
def KR (f:List AN) (o:List Int):List (Nat×Obj):=[(1,.box 60 false [.sr 5 T3 0 o.length]),(2,.box 160 false [.mp 6]),(3,.box 25 true [.p HR f]),(4,.box 124 false [.clo 113 [1,2,3,4]]),(5,.arr 3 T3 o),(6,.mapo T3 T3 (kQ o))]
theorem A17 {f:List AN} {o:List Int} (h:Pl f o):Pl (Dz f) o:=⟨h.nd,fun x hx=>by rw[Fu];exact h.rng x hx⟩
theorem wH {f:List AN} {o:List Int} (h:Pl (Dz f) o):Pl f o:=⟨h.nd,fun x hx=>by have:=h.rng x hx;rwa [Fu]at this⟩
theorem jX (f:List AN) (hf:El f) (hs:wG f):∀(k:Nat) (o:List Int) (n:Int),Pl f o→0≤n→n<f.length→n∉o→f.length-o.length≤k →
  BO Tryz.prog 113 [.p T3 n,.bp 1 [] 0,.bp 2 [] 0,.bp 3 [] 0,.bp 4 [] 0] (KR f o) [1,2,3,4,6] (fun res objs'=>res=.raw (.tuple #[])∧objs'=KR f (QG (Dz f) k o n)):=by
 intro k
 induction k with
 | zero =>
  intro o n h0 h1 h2 h3 h4
  have:=(h0.snoc h1 h2 h3).len
  simp only[List.length_append,List.length_singleton]at this
  omega
 | succ k ih =>
  intro o n hd hn0 hn1 hno hk
  have hd1:=hd.snoc hn0 hn1 hno
  have hlen:=hd1.len
  simp only[List.length_append,List.length_singleton]at hlen
  have hfl:=hf.1
  refine BL Tryz.func113 (by kernel_rfl) rfl Tryz.ntmps113 (by simp only[List.length_cons,List.length_nil];omega) (by kernel_rfl) rfl rfl (AF []) AI ?_
  intro w0 K O0 ρ0 hc hok1 hok2
  simp only[KR,Al]
  repeat'(first|exact trivial|refine eS rfl ?_|refine AB ?_|refine rX [0,1,2,3,4,7,9,25,26,27,28,39] hc ?_ ?_|refine rC ?_ ?_<;>intro AA<;>try(cases AA;done))
  ·simp only[AO];omega
  ·rw[oJ hno]
   obtain⟨hsrt,hl12⟩:=fZ hs n
   have harcs:=fun a (ha:a∈AZ (f.getD n.toNat (0,[])).2)=>JN hf ((Fs _).mem_iff.1 ha)
   have hdfs:QG (Dz f) (k+1) o n=(AZ (f.getD n.toNat (0,[])).2).foldl (DJ (Dz f) k) (o++[n]):=by rw[Nf,Ng]
   have hdN:=A17 (f:=f) hd1
   refine cP 6 hc ?_ ?_
   ·exact⟨hn0,hn1⟩
   ·generalize (f.getD n.toNat (0,[])).2=L0 at *
    refine rM hc (UT L0) [] [] ?_ ?_ ?_
    ·first|exact eN|refine eM ?_
    ·first|exact eN|refine eM ?_
    ·rintro _ _ ⟨rfl,rfl⟩
     refine⟨[(50,.nm 1)],.clo 149 [50],[(50,.box 47 false [.p Iw L0])],rfl,rfl,?_,?_,rfl,rfl,?_⟩
     ·first|exact eN|refine eM ?_
     ·first|exact eN|refine eM ?_
     ·refine rM hc (L1 L0 hl12 hsrt) [(1,.nm 50)] [50] ?_ ?_ ?_
      ·first|exact eN|refine eM ?_
      ·first|exact eN|refine eM ?_
      ·rintro _ _ ⟨rfl,rfl⟩
       have hLL:=CZ L0
       rw[←hLL]
       generalize AZ L0=L at *
       refine⟨[(51,.nm 7)],.sr 51 BC 0 L.length,[(51,.arr 53 BC L)],rfl,rfl,?_,?_,rfl,rfl,?_⟩
       ·first|exact eN|refine eM ?_
       ·first|exact eN|refine eM ?_
       ·refine Hl [0,1,2,3,4,25,26,27] hc (by simp only[go_sem,Nat.reduceEqDiff,reduceCtorEq,Nat.reduceAdd,Nat.reduceSub,Nat.reduceMul,Nat.reduceLeDiff,Nat.reduceLT,Int.reduceLE,Int.reduceToNat,Int.reduceNeg,↓reduceIte];rfl) ?_ ?_
        ·trivial
        ·have hs1:∀i,Pl (Dz f) ((L.take i).foldl (DJ (Dz f) k) (o++[n]))∧o++[n] <+: (L.take i).foldl (DJ (Dz f) k) (o++[n]):=fun i=>K9 (LA (Oq hf) k) _ _ (fun a ha=>by rw[Fu];exact harcs a (List.mem_of_mem_take ha)) hdN
         generalize ho1:o++[n]=o1 at *
         have hol:o1.length=o.length+1:=by rw[←ho1];simp
         rw[←hol]
         repeat'(first|exact trivial|refine eS rfl ?_|refine AB ?_|refine rX [0,1,2,3,4,7,9,25,26,27,28,39] hc ?_ ?_|refine rC ?_ ?_<;>intro AA<;>try(cases AA;done))
         refine AJ (ι:={i:Nat//i≤L.length}) (fun i=>⟨[(0,.p T3 n),(1,.bp 1 [] 0),(2,.bp 2 [] 0),(3,.bp 3 [] 0),(4,.bp 4 [] 0),(25,.p Iw L),(26,.p (.int .i64) (L.length:Int)),(27,.p (.int .i64) (i.1:Int))],KR f ((L.take i.1).foldl (DJ (Dz f) k) o1)⟩) (fun i=>L.length-i.1) ⟨0,by omega⟩ (y3 [51] (AC [(1,.nm 1),(2,.nm 2),(3,.nm 3),(4,.nm 4),(5,.nm 5),(6,.nm 6)] rfl rfl ?_ ?_)) (fun i=>?_)
         ·simp only[KR,List.take_zero,List.foldl_nil]
          first|exact eN|refine eM ?_
         ·first|exact eN|refine eM ?_
         ·obtain⟨i,hi⟩:=i
          obtain⟨hdi,hpi⟩:=hs1 i
          replace hdi:=wH hdi
          have hnext:=fun(h:i<L.length)=>Oi (DJ (Dz f) k) L (0,0) o1 h
          have hlei:=hpi.length_le
          generalize hoi:(L.take i).foldl (DJ (Dz f) k) o1=oi at hdi hpi hnext hlei
          simp only[KR]
          repeat'(first|exact trivial|refine eS rfl ?_|refine AB ?_|refine rX [0,1,2,3,4,7,9,25,26,27,28,39] hc ?_ ?_|refine rC ?_ ?_<;>intro AA<;>try(cases AA;done))
          ·exact eV
          ·have hiL:i<L.length:=by exact eV
           have hr:=harcs _ (AE L (0,0) hiL)
           have hno2:(L.getD i (0,0)).2∉oi:=by rw[SS]at AA;simpa using AA
           refine cP 3 hc ?_ ?_
           ·trivial
           ·refine rM hc (ih oi (L.getD i (0,0)).2 hdi hr.1 hr.2 hno2 (by omega)) [(1,.nm 1),(2,.nm 2),(3,.nm 3),(4,.nm 4),(5,.nm 5),(6,.nm 6)] [5] ?_ ?_ ?_
            ·first|exact eN|refine eM ?_
            ·simp only[KR]
             first|exact eN|refine eM ?_
            ·rintro _ _ ⟨rfl,rfl⟩
             refine⟨[(1,.nm 1),(2,.nm 2),(3,.nm 3),(4,.nm 4),(5,.nm 5),(6,.nm 6)],.raw (.tuple #[]),KR f (QG (Dz f) k oi (L.getD i (0,0)).2),rfl,rfl,?_,?_,rfl,rfl,Cm ?_⟩
             ·simp only[KR]
              first|exact eN|refine eM ?_
             ·first|exact eN|refine eM ?_
             ·simp only[KR]
              repeat'(first|exact trivial|refine eS rfl ?_|refine AB ?_|refine rX [0,1,2,3,4,7,9,25,26,27,28,39] hc ?_ ?_|refine rC ?_ ?_<;>intro AA<;>try(cases AA;done))
              ·exact eV
              ·have e:DJ (Dz f) k oi (L.getD i (0,0))=QG (Dz f) k oi (L.getD i (0,0)).2:=if_neg hno2
               refine⟨⟨i+1,by omega⟩,by simp only;omega,AC [(1,.nm 1),(2,.nm 2),(3,.nm 3),(4,.nm 4),(5,.nm 5),(6,.nm 6)] rfl rfl ?_ ?_⟩
               ·simp only[hnext hiL,e]
                first|exact eN|refine eM ?_
               ·first|exact eN|refine eM ?_
          ·exact eV
          ·have hiL:i<L.length:=by exact eV
           have hno2:(L.getD i (0,0)).2∈oi:=by rw[SS]at AA;simpa using AA
           have e:DJ (Dz f) k oi (L.getD i (0,0))=oi:=if_pos hno2
           refine⟨⟨i+1,by omega⟩,by simp only;omega,AC [(1,.nm 1),(2,.nm 2),(3,.nm 3),(4,.nm 4),(5,.nm 5),(6,.nm 6)] rfl rfl ?_ ?_⟩
           ·simp only[hnext hiL,e]
            first|exact eN|refine eM ?_
           ·first|exact eN|refine eM ?_
          ·have hk:L.take i=L:=List.take_of_length_le (by exact eV)
           rw[hk]at hoi
           rw[hdfs,hoi]
           exact AU hc [] rfl (.inr rfl) (.raw (.tuple #[])) rfl ⟨rfl,rfl⟩
end
/- Functions of graph: canonical, Sub. -/
section
theorem jY {α β:Type} (g:α→β) (o:List α) (d:α) (z:β) {i:Nat} (h:i<o.length):((o.take i).map g++List.replicate (o.length-i) z).set i (g (o.getD i d))=(o.take (i+1)).map g++List.replicate (o.length-(i+1)) z:=by
 obtain⟨m,hm⟩:∃m,o.length-i=m+1:=⟨o.length-i-1,by omega⟩
 have hm2:o.length-(i+1)=m:=by omega
 have hl:((o.take i).map g).length=i:=by rw[List.length_map,List.length_take];omega
 rw[hm,hm2,List.set_append_right _ _ (by omega),hl,Nat.sub_self,List.replicate_succ,List.set_cons_zero,Au o d h,List.map_append]
 simp
def Nh:Ah:={ ins:=[Gr,T3],pre:=fun(f,n,_)=>El f∧wG f∧0≤n∧n<(List.length f:Int),out:=fun(f,n,_)=>[.p Gr (E0 (Dz f) n)] }
attribute [local go_sem] Nh
theorem jZ:Ao Tryz.prog 77 Nh:=by
 refine AW Tryz.func77 (by kernel_rfl) rfl Tryz.ntmps77 (by decide) (by kernel_rfl) (AF []) AI ?_
 rintro w0 O0 ⟨f,root,u⟩ hc-⟨hf,hs,hr0,hr1⟩
 simp only[Nh,AM]
 have hfl:=hf.1
 have hd0:Pl f []:=⟨by simp,fun x hx=>by cases hx⟩
 obtain⟨hdo,hpo⟩:=LA (Oq hf) f.length [] root (A17 hd0) hr0 (by rw[Fu];exact hr1) (by simp)
 replace hdo:=wH hdo
 have hcan:E0 (Dz f) root=(QG (Dz f) f.length [] root).map (Pm (Dz f) (QG (Dz f) f.length [] root)):=by unfold E0;rw[Fu]
 rw[hcan]
 repeat'(first|exact trivial|refine eS rfl ?_|refine AB ?_|refine rX [0,1,2,4,5,6,7,8,9,10,11,12,22,23,24,25,38,39,40] hc ?_ ?_|refine rC ?_ ?_<;>intro AA<;>try(cases AA;done))
 refine cP 2 hc ?_ ?_
 ·trivial
 ·refine rM hc (jX f hf hs (List.length f) [] root hd0 hr0 hr1 (by simp) (by simp)) [(1,.nm 6),(2,.nm 5),(3,.nm 2),(4,.nm 7),(5,.nil),(6,.nm 13)] [] ?_ ?_ ?_
  ·first|exact eN|refine eM ?_
  ·simp only[KR]
   first|exact eN|refine eM ?_
   rfl
  ·rintro _ _ ⟨rfl,rfl⟩
   refine⟨[(6,.nm 1),(5,.nm 2),(2,.nm 3),(7,.nm 4),(101,.nm 5),(13,.nm 6)],.raw (.tuple #[]),[(6,.box 60 false [.sr 101 T3 0 (QG (Dz f) (List.length f) [] root).length]),(5,.box 160 false [.mp 13]),(2,.box 25 true [.p HR f]),(7,.box 124 false [.clo 113 [6,5,2,7]]),(101,.arr 3 T3 (QG (Dz f) (List.length f) [] root)),(13,.mapo T3 T3 (kQ (QG (Dz f) (List.length f) [] root)))],rfl,rfl,?_,?_,rfl,rfl,Cm ?_⟩
   ·simp only[KR]
    first|exact eN|refine eM ?_
   ·first|exact eN|refine eM ?_
   ·generalize QG (Dz f) (List.length f) [] root=o at *
    have hol:=hdo.len
    repeat'(first|exact trivial|refine eS rfl ?_|refine AB ?_|refine rX [0,1,2,4,5,6,7,8,9,10,11,12,22,23,24,25,38,39,40] hc ?_ ?_|refine rC ?_ ?_<;>intro AA<;>try(cases AA;done))
    ·simp only[AO];omega
    ·refine AJ (ι:={i:Nat//i≤o.length}) (fun i=>⟨[(2,.bp 2 [] 0),(4,.bp 4 [] 0),(5,.bp 5 [] 0),(8,.bp 8 [] 0),(22,.sr 101 T3 0 o.length),(23,.p (.int .i64) (o.length:Int)),(24,.p (.int .i64) (i.1:Int))],[(8,.box 25 true [.sr 20 Rc 0 o.length]),(20,.arr 49 Rc ((o.take i.1).map (Pm (Dz f) o)++List.replicate (o.length-i.1) (0,[]))),(5,.box 160 false [.mp 13]),(2,.box 25 true [.p HR f]),(101,.arr 3 T3 o),(13,.mapo T3 T3 (kQ o)),(4,.box 25 true [.raw (.slice none 0 0)])]⟩) (fun i=>o.length-i.1) ⟨0,by omega⟩ (AC [(8,.nm 8),(20,.nm 20),(5,.nm 5),(2,.nm 2),(101,.nm 101),(13,.nm 13),(4,.nm 4)] rfl rfl ?_ ?_) (fun i=>?_)
     ·first|exact eN|refine eM ?_
     ·first|exact eN|refine eM ?_
     ·obtain⟨i,hi⟩:=i
      repeat'(first|exact trivial|refine eS rfl ?_|refine AB ?_|refine rX [0,1,2,4,5,6,7,8,9,10,11,12,22,23,24,25,38,39,40] hc ?_ ?_|refine rC ?_ ?_<;>intro AA<;>try(cases AA;done))
      ·exact eV
      ·have hio:i<o.length:=by exact eV
       have hn:=hdo.rng _ (AE o 0 hio)
       have hnode:Pm (Dz f) o (o.getD i 0)=((f.getD (o.getD i 0).toNat (0,[])).1,(AZ (f.getD (o.getD i 0).toNat (0,[])).2).map (Xc o)):=by unfold Pm;rw[Ng]
       obtain⟨hsrt,hl12⟩:=fZ hs (o.getD i 0)
       refine cP 6 hc ?_ ?_
       ·exact hn
       ·have hne:List.length f≤100000:=hfl
        generalize hnn:o.getD i 0=n at *
        generalize hfx:f.getD n.toNat (0,[])=x at *
        obtain⟨xt,L0⟩:=x
        simp only at hsrt hl12 hnode
        refine rM hc (UT L0) [] [] ?_ ?_ ?_
        ·first|exact eN|refine eM ?_
        ·first|exact eN|refine eM ?_
        ·rintro _ _ ⟨rfl,rfl⟩
         refine⟨[(50,.nm 1)],.clo 149 [50],[(50,.box 47 false [.p Iw L0])],rfl,rfl,?_,?_,rfl,rfl,?_⟩
         ·first|exact eN|refine eM ?_
         ·first|exact eN|refine eM ?_
         ·refine rM hc (L1 L0 hl12 hsrt) [(1,.nm 50)] [50] ?_ ?_ ?_
          ·first|exact eN|refine eM ?_
          ·first|exact eN|refine eM ?_
          ·rintro _ _ ⟨rfl,rfl⟩
           have hLL:=CZ L0
           rw[←hLL]
           generalize hL0:AZ L0=L at *
           refine⟨[(51,.nm 7)],.sr 51 BC 0 L.length,[(51,.arr 53 BC L)],rfl,rfl,?_,?_,rfl,rfl,?_⟩
           ·first|exact eN|refine eM ?_
           ·first|exact eN|refine eM ?_
           ·refine Hl [2,4,5,8,9,10,11,22,23,24] hc (by simp only[go_sem,Nat.reduceEqDiff,reduceCtorEq,Nat.reduceAdd,Nat.reduceSub,Nat.reduceMul,Nat.reduceLeDiff,Nat.reduceLT,Int.reduceLE,Int.reduceToNat,Int.reduceNeg,↓reduceIte];rfl) ?_ ?_
            ·trivial
            ·repeat'(first|exact trivial|refine eS rfl ?_|refine AB ?_|refine rX [0,1,2,4,5,6,7,8,9,10,11,12,22,23,24,25,38,39,40] hc ?_ ?_|refine rC ?_ ?_<;>intro AA<;>try(cases AA;done))
             refine AJ (ι:={k:Nat//k≤L.length}) (fun k=>⟨[(2,.bp 2 [] 0),(4,.bp 4 [] 0),(5,.bp 5 [] 0),(8,.bp 8 [] 0),(9,.p (.int .i64) (i:Int)),(10,.p T3 n),(11,.sr 51 BC 0 L.length),(22,.sr 101 T3 0 o.length),(23,.p (.int .i64) (o.length:Int)),(24,.p (.int .i64) (i:Int)),(38,.p (.int .i64) (L.length:Int)),(39,.p (.int .i64) (k.1:Int))],[(51,.arr 53 BC ((L.take k.1).map (Xc o)++L.drop k.1)),(8,.box 25 true [.sr 20 Rc 0 o.length]),(20,.arr 49 Rc ((o.take i).map (Pm (Dz f) o)++List.replicate (o.length-i) (0,[]))),(5,.box 160 false [.mp 13]),(2,.box 25 true [.p HR f]),(101,.arr 3 T3 o),(13,.mapo T3 T3 (kQ o)),(4,.box 25 true [.raw (.slice none 0 0)])]⟩) (fun k=>L.length-k.1) ⟨0,by omega⟩ (AC [(51,.nm 51),(8,.nm 8),(20,.nm 20),(5,.nm 5),(2,.nm 2),(101,.nm 101),(13,.nm 13),(4,.nm 4)] rfl rfl ?_ ?_) (fun k=>?_)
             ·first|exact eN|refine eM ?_
             ·first|exact eN|refine eM ?_
             ·obtain⟨k,hk⟩:=k
              repeat'(first|exact trivial|refine eS rfl ?_|refine AB ?_|refine rX [0,1,2,4,5,6,7,8,9,10,11,12,22,23,24,25,38,39,40] hc ?_ ?_|refine rC ?_ ?_<;>intro AA<;>try(cases AA;done))
              ·exact eV
              ·exact eV
              ·have hkL:k<L.length:=by exact eV
               have e:=SB (Xc o) (fun b=>b) L (0,0) hkL (Xc o)
               refine⟨⟨k+1,by omega⟩,by simp only;omega,AC [(51,.nm 51),(8,.nm 8),(20,.nm 20),(5,.nm 5),(2,.nm 2),(101,.nm 101),(13,.nm 13),(4,.nm 4)] rfl rfl ?_ ?_⟩
               ·first|exact eN|refine eM ?_
                rw[e.2]
                rw[←e.1]
                unfold Xc
                rw[←vC]
               ·first|exact eN|refine eM ?_
              ·exact⟨hn,by exact eV⟩
              ·exact eV
              ·have hkL:L.take k=L:=List.take_of_length_le (by exact eV)
               have hdL:L.drop k=[]:=List.drop_eq_nil_of_le (by exact eV)
               refine⟨⟨i+1,by omega⟩,by simp only;omega,AC [(8,.nm 8),(20,.nm 20),(5,.nm 5),(2,.nm 2),(101,.nm 101),(13,.nm 13),(4,.nm 4)] rfl rfl ?_ ?_⟩
               ·first|exact eN|refine eM ?_
                rw[hkL,hdL,List.append_nil]
                have e:=jY (Pm (Dz f) o) o 0 (0,[]) hio
                rw[hnn,hnode]at e
                rw[←e,hfx,List.take_of_length_le (by simp:(L.map (Xc o)).length≤L.length)]
               ·first|exact eN|refine eM ?_
      ·have hk:o.take i=o:=List.take_of_length_le (by exact eV)
       have hz:o.length-i=0:=by exact eV
       rw[hk,hz]
       exact AG hc [.cell 4 25] rfl (.inl rfl) (by simp) (by simp only[List.replicate_zero,List.append_nil];first|exact eR|refine Av ?_;exact List.take_of_length_le (by rw[List.length_map];exact eV))
end
/- Functions of graph: nodeError, compareNodes, Compare, Equal; cmp.Or, slices.CompareFunc. -/
section
attribute [local go_sem] DC UG
theorem Xn {a b:Int}:FJ a b=0↔a=b:=by
 unfold FJ
 split
 ·constructor<;>intro h<;>omega
 ·split
  ·constructor<;>intro h<;>omega
  ·exact⟨fun _=>by omega,fun _=>rfl⟩
def S3:List Int→Int
 | []=>0
 | x :: l=>if x=0 then S3 l else x
theorem Xo {l:List Int} {k:Nat} (h:k<l.length):S3 (l.drop k)=if l.getD k 0=0 then S3 (l.drop (k+1)) else l.getD k 0:=by
 rw[List.drop_eq_getElem_cons h]
 have e:l.getD k 0=l[k]:=by simp[List.getD_eq_getElem?_getD,h]
 rw[e]
 rfl
def SV:Ah:={ ins:=[Jj],pre:=fun _=>True,out:=fun(l,_)=>[.p T3 (S3 l)],lend:=true }
attribute [local go_sem] SV
theorem Xp:Ao Tryz.prog 158 SV:=by
 refine AW Tryz.func158 (by kernel_rfl) rfl Tryz.ntmps158 (by decide) (by kernel_rfl) (AF []) AI ?_
 rintro w0 O0 ⟨l,u⟩ hc ⟨⟨hl,-⟩,-⟩ -
 simp only[AO]at hl
 simp only[SV,AM]
 repeat'(first|exact trivial|refine eS rfl ?_|refine AB ?_|refine rX [0,2,3,5,6,7,8,9,14] hc ?_ ?_|refine rC ?_ ?_<;>intro AA<;>try(cases AA;done))
 refine AJ (ι:={k:Nat//k≤List.length l∧S3 l=S3 ((l:List Int).drop k)}) (fun k=>⟨[(3,.p T3 0),(6,.p Jj l),(7,.p (.int .i64) (List.length l:Int)),(8,.p (.int .i64) (k.1:Int))],[]⟩) (fun k=>List.length l-k.1) ⟨0,Nat.zero_le _,rfl⟩ (AC [] rfl rfl ?_ ?_) (fun k=>?_)
 ·first|exact eN|refine eM ?_
 ·first|exact eN|refine eM ?_
 ·obtain⟨k,hk,he⟩:=k
  repeat'(first|exact trivial|refine eS rfl ?_|refine AB ?_|refine rX [0,2,3,5,6,7,8,9,14] hc ?_ ?_|refine rC ?_ ?_<;>intro AA<;>try(cases AA;done))
  ·exact AA
  ·have hkl:k<List.length l:=by exact eV
   rw[Xo hkl,if_neg AA]at he
   exact AG hc [.tmp 2] rfl (.inl rfl) (by simp) (by rw[he];first|exact eR|refine Av ?_)
  ·exact eV
  ·have hkl:k<List.length l:=by exact eV
   rw[Xo hkl,if_pos (by simpa using AA)]at he
   refine⟨⟨k+1,hkl,he⟩,by simp only;omega,AC [] rfl rfl ?_ ?_⟩
   ·first|exact eN|refine eM ?_
   ·first|exact eN|refine eM ?_
  ·have hd:List.drop k (l:List Int)=[]:=List.drop_eq_nil_of_le (by exact eV)
   rw[hd]at he
   have he:S3 l=0:=he
   exact AG hc [.tmp 2] rfl (.inl rfl) (by simp) (by rw[he];first|exact eR|refine Av ?_)
def Gx {α:Type} (c:α→α→Int):List α→List α→Int
 | [],[]=>0
 | [],_ :: _=>-1
 | _ :: _,[]=>1
 | x :: p,y :: q=>if c x y=0 then Gx c p q else c x y
theorem JO {α:Type} {c:α→α→Int} (hc:∀a b,c a b=0↔a=b):∀ {p q:List α},Gx c p q=0↔p=q
 | [],[]=>⟨fun _=>rfl,fun _=>rfl⟩
 | [],_ :: _=>⟨fun h=>by simp[Gx]at h,fun h=>by cases h⟩
 | _ :: _,[]=>⟨fun h=>by simp[Gx]at h,fun h=>by cases h⟩
 | x :: p,y :: q=>by
  unfold Gx
  split
  ·rename_i h
   rw[JO hc,(hc x y).1 h]
   exact⟨fun e=>by rw[e],fun e=>(List.cons.inj e).2⟩
  ·rename_i h
   exact⟨fun e=>absurd e h,fun e=>absurd ((hc x y).2 (List.cons.inj e).1) h⟩
theorem KS {α:Type} (d:α) {l:List α} {k:Nat} (h:k<l.length):l.drop k=l.getD k d :: l.drop (k+1):=by
 rw[List.drop_eq_getElem_cons h]
 have e:l.getD k d=l[k]:=by simp[List.getD_eq_getElem?_getD,h]
 rw[e]
theorem Le {α:Type} {c:α→α→Int} (d:α) {p q:List α} {k:Nat} (h1:k<p.length) (h2:k<q.length):Gx c (p.drop k) (q.drop k)=if c (p.getD k d) (q.getD k d)=0 then Gx c (p.drop (k+1)) (q.drop (k+1)) else c (p.getD k d) (q.getD k d):=by
 rw[KS d h1,KS d h2]
 rfl
def E1 (a b:Int×Int):Int:=S3 [FJ a.1 b.1,FJ a.2 b.2]
theorem Po (a b:Int×Int):E1 a b=0↔a=b:=by
 unfold E1 S3 S3 S3
 constructor
 ·intro h
  by_cases h1:FJ a.1 b.1=0
  ·rw[if_pos h1]at h
   by_cases h2:FJ a.2 b.2=0
   ·exact Prod.ext (Xn.1 h1) (Xn.1 h2)
   ·rw[if_neg h2]at h
    exact absurd h h2
  ·rw[if_neg h1]at h
   exact absurd h h1
 ·rintro rfl
  rw[if_pos (Xn.2 rfl),if_pos (Xn.2 rfl)]
def Qj:Ah:={ ins:=[BC,BC],pre:=fun _=>True,out:=fun(a,b,_)=>[.p T3 (E1 a b)] }
attribute [local go_sem] Qj
theorem j0:Ao Tryz.prog 160 Qj:=by
 refine AW Tryz.func160 (by kernel_rfl) rfl Tryz.ntmps160 (by decide) (by kernel_rfl) (AF [(138,DC),(158,SV)] [15]) (AD GS (AD Xp AI)) ?_
 rintro w0 O0 ⟨a,b,u⟩ hc - -
 simp only[Qj,AM]
 repeat'(first|exact trivial|refine eS rfl ?_|refine AB ?_|refine rX [0,1,2,3,4] hc ?_ ?_|refine rC ?_ ?_<;>intro AA<;>try(cases AA;done))
 exact AG hc [.tmp 4] rfl (.inl rfl) (by simp) (by unfold E1;first|exact eR|refine Av ?_)
theorem j5 (p q:List (Int×Int)) (hp:p.length≤100000):BO Tryz.prog 159 [.p Iw p,.p Iw q,.fn 160] [] [] (fun res objs'=>res=.p T3 (Gx E1 p q)∧objs'=[]):=by
 refine BL Tryz.func159 (by kernel_rfl) rfl Tryz.ntmps159 (by simp only[List.length_cons,List.length_nil];omega) (by kernel_rfl) rfl rfl (AF [(160,Qj)]) (AD j0 AI) ?_
 intro w0 K O0 ρ0 hc hok1 hok2
 simp only[Al]
 repeat'(first|exact trivial|refine eS rfl ?_|refine AB ?_|refine rX [0,1,2,6,7,8,9,10,11,12,13,14,21,31,38] hc ?_ ?_|refine rC ?_ ?_<;>intro AA<;>try(cases AA;done))
 refine AJ (ι:={k:Nat//k≤p.length∧k≤q.length∧Gx E1 p q=Gx E1 (p.drop k) (q.drop k)}) (fun k=>⟨[(0,.p Iw p),(1,.p Iw q),(2,.fn 160),(11,.p Iw p),(12,.p (.int .i64) (p.length:Int)),(13,.p (.int .i64) (k.1:Int))],[]⟩) (fun k=>p.length-k.1) ⟨0,Nat.zero_le _,Nat.zero_le _,rfl⟩ (AC [] rfl rfl ?_ ?_) (fun k=>?_)
 ·first|exact eN|refine eM ?_
 ·first|exact eN|refine eM ?_
 ·obtain⟨k,hk1,hk2,he⟩:=k
  simp only
  repeat'(first|exact trivial|refine eS rfl ?_|refine AB ?_|refine rX [0,1,2,6,7,8,9,10,11,12,13,14,21,31,38] hc ?_ ?_|refine rC ?_ ?_<;>intro AA<;>try(cases AA;done))
  ·exact AA
  ·have hpk:k<p.length:=by exact eV
   have hq:q.drop k=[]:=List.drop_eq_nil_of_le (by exact eV)
   have h1:Gx E1 p q=1:=by
    rw[he,hq,KS (0,0) hpk]
    rfl
   refine Ev.ent (σ':=⟨[(6,.p T3 1)],[]⟩) (AU hc [.tmp 6] rfl (.inl rfl) (.p T3 1) eT ⟨by rw[h1],rfl⟩) (AC [] rfl rfl ?_ ?_)
   ·first|exact eN|refine eM ?_
   ·first|exact eN|refine eM ?_
  ·exact AA
  ·have hpk:k<p.length:=by exact eV
   have hqk:k<q.length:=by exact eV
   rw[Le (0,0) hpk hqk,if_neg AA]at he
   refine Ev.ent (σ':=⟨[(6,.p T3 (E1 (p.getD k (0,0)) (q.getD k (0,0))))],[]⟩) (AU hc [.tmp 6] rfl (.inl rfl) (.p T3 (E1 (p.getD k (0,0)) (q.getD k (0,0)))) eT ⟨by rw[he],rfl⟩) (AC [] rfl rfl ?_ ?_)
   ·first|exact eN|refine eM ?_
   ·first|exact eN|refine eM ?_
  ·exact eV
  ·have hpk:k<p.length:=by exact eV
   have hqk:k<q.length:=by exact eV
   rw[Le (0,0) hpk hqk,if_pos (by simpa using AA)]at he
   refine⟨⟨k+1,hpk,hqk,he⟩,by simp only;omega,AC [] rfl rfl ?_ ?_⟩
   ·first|exact eN|refine eM ?_
   ·first|exact eN|refine eM ?_
  ·have hpn:p.drop k=[]:=List.drop_eq_nil_of_le (by exact eV)
   have h1:Gx E1 p q=-1:=by
    rw[he,hpn,KS (0,0) (show k<q.length by exact eV)]
    rfl
   exact AU hc [.tmp 6] rfl (.inl rfl) (.p T3 (-1)) eT ⟨by rw[h1],rfl⟩
  ·have hpn:p.drop k=[]:=List.drop_eq_nil_of_le (by exact eV)
   have hqn:q.drop k=[]:=List.drop_eq_nil_of_le (by exact eV)
   have h1:Gx E1 p q=0:=by
    rw[he,hpn,hqn]
    rfl
   exact AU hc [.tmp 6] rfl (.inl rfl) (.p T3 0) eT ⟨by rw[h1],rfl⟩
def DL (a b:AN):Int:=if S3 [FJ a.1 b.1,FJ (a.2.length:Int) (b.2.length:Int)]=0 then Gx E1 a.2 b.2 else S3 [FJ a.1 b.1,FJ (a.2.length:Int) (b.2.length:Int)]
theorem Ni (a b:AN):DL a b=0↔a=b:=by
 unfold DL
 constructor
 ·intro h
  split at h
  ·rename_i h1
   unfold S3 S3 S3 at h1
   by_cases h2:FJ a.1 b.1=0
   ·exact Prod.ext (Xn.1 h2) ((JO Po).1 h)
   ·rw[if_neg h2]at h1
    exact absurd h1 h2
  ·rename_i h1
   exact absurd h h1
 ·rintro rfl
  have h1:S3 [FJ a.1 a.1,FJ (a.2.length:Int) (a.2.length:Int)]=0:=by
   unfold S3 S3 S3
   rw[if_pos (Xn.2 rfl),if_pos (Xn.2 rfl)]
  rw[if_pos h1]
  exact(JO Po).2 rfl
def LD:Ah:={ ins:=[Rc,Rc],pre:=fun(a,_,_)=>List.length (Prod.snd (a:AN))≤100000,out:=fun(a,b,_)=>[.p T3 (DL a b)] }
attribute [local go_sem] LD
theorem Zc:Ao Tryz.prog 140 LD:=by
 refine AW Tryz.func140 (by kernel_rfl) rfl Tryz.ntmps140 (by decide) (by kernel_rfl) (AF [(138,DC),(158,SV)] [18]) (AD GS (AD Xp AI)) ?_
 rintro w0 O0 ⟨⟨ta,la⟩,⟨tb,lb⟩,u⟩ hc-ha
 have ha:List.length la≤100000:=ha
 simp only[LD,AM]
 repeat'(first|exact trivial|refine eS rfl ?_|refine AB ?_|refine rX [0,1,2,3,4,5,21] hc ?_ ?_|refine rC ?_ ?_<;>intro AA<;>try(cases AA;done))
 ·have h1:DL (ta,la) (tb,lb)=S3 [FJ ta tb,FJ (List.length la:Int) (List.length lb:Int)]:=if_neg AA
  exact AG hc [.tmp 4] rfl (.inl rfl) (by simp) (by rw[h1];first|exact eR|refine Av ?_)
 ·have h1:DL (ta,la) (tb,lb)=Gx E1 la lb:=if_pos (by simpa using AA)
  refine cP 4 hc ?_ ?_
  ·trivial
  ·refine rM hc (j5 la lb ha) [] [] ?_ ?_ ?_
   ·first|exact eN|refine eM ?_
   ·first|exact eN|refine eM ?_
   ·rintro _ _ ⟨rfl,rfl⟩
    refine⟨[],.p T3 (Gx E1 la lb),[],rfl,rfl,?_,?_,rfl,rfl,?_⟩
    ·first|exact eN|refine eM ?_
    ·first|exact eN|refine eM ?_
    ·refine rL [0,1,2,3,4,5,21] hc ?_ ?_
     ·trivial
     ·repeat'(first|exact trivial|refine eS rfl ?_|refine AB ?_|refine rX [0,1,2,3,4,5,21] hc ?_ ?_|refine rC ?_ ?_<;>intro AA<;>try(cases AA;done))
      exact AG hc [.tmp 4] rfl (.inl rfl) (by simp) (by rw[h1];first|exact eR|refine Av ?_)
end
/- Functions of graph: Compare, Equal, nodeError, Canon, Check. -/
section
attribute [local go_sem] DC UG LD Nh
theorem Zd (p q:List (AN)) (hp:p.length≤100000) (hp2:∀x∈p,x.2.length≤100000):BO Tryz.prog 139 [.p HR p,.p HR q,.fn 140] [] [] (fun res objs'=>res=.p T3 (Gx DL p q)∧objs'=[]):=by
 refine BL Tryz.func139 (by kernel_rfl) rfl Tryz.ntmps139 (by simp only[List.length_cons,List.length_nil];omega) (by kernel_rfl) rfl rfl (AF [(140,LD)]) (AD Zc AI) ?_
 intro w0 K O0 ρ0 hc hok1 hok2
 simp only[Al]
 repeat'(first|exact trivial|refine eS rfl ?_|refine AB ?_|refine rX [0,1,2,6,7,8,9,10,11,12,13,14,21,31,38] hc ?_ ?_|refine rC ?_ ?_<;>intro AA<;>try(cases AA;done))
 refine AJ (ι:={k:Nat//k≤p.length∧k≤q.length∧Gx DL p q=Gx DL (p.drop k) (q.drop k)}) (fun k=>⟨[(0,.p HR p),(1,.p HR q),(2,.fn 140),(11,.p HR p),(12,.p (.int .i64) (p.length:Int)),(13,.p (.int .i64) (k.1:Int))],[]⟩) (fun k=>p.length-k.1) ⟨0,Nat.zero_le _,Nat.zero_le _,rfl⟩ (AC [] rfl rfl ?_ ?_) (fun k=>?_)
 ·first|exact eN|refine eM ?_
 ·first|exact eN|refine eM ?_
 ·obtain⟨k,hk1,hk2,he⟩:=k
  simp only
  repeat'(first|exact trivial|refine eS rfl ?_|refine AB ?_|refine rX [0,1,2,6,7,8,9,10,11,12,13,14,21,31,38] hc ?_ ?_|refine rC ?_ ?_<;>intro AA<;>try(cases AA;done))
  ·exact AA
  ·have hpk:k<p.length:=by exact eV
   have hq:q.drop k=[]:=List.drop_eq_nil_of_le (by exact eV)
   have h1:Gx DL p q=1:=by
    rw[he,hq,KS (0,[]) hpk]
    rfl
   refine Ev.ent (σ':=⟨[(6,.p T3 1)],[]⟩) (AU hc [.tmp 6] rfl (.inl rfl) (.p T3 1) eT ⟨by rw[h1],rfl⟩) (AC [] rfl rfl ?_ ?_)
   ·first|exact eN|refine eM ?_
   ·first|exact eN|refine eM ?_
  ·exact AA
  ·exact hp2 _ (AE p (0,[]) (by exact eV))
  ·have hpk:k<p.length:=by exact eV
   have hqk:k<q.length:=by exact eV
   rw[Le (0,[]) hpk hqk,if_neg AA]at he
   refine Ev.ent (σ':=⟨[(6,.p T3 (DL (p.getD k (0,[])) (q.getD k (0,[]))))],[]⟩) (AU hc [.tmp 6] rfl (.inl rfl) (.p T3 (DL (p.getD k (0,[])) (q.getD k (0,[])))) eT ⟨by rw[he],rfl⟩) (AC [] rfl rfl ?_ ?_)
   ·first|exact eN|refine eM ?_
   ·first|exact eN|refine eM ?_
  ·exact eV
  ·have hpk:k<p.length:=by exact eV
   have hqk:k<q.length:=by exact eV
   rw[Le (0,[]) hpk hqk,if_pos (by simpa using AA)]at he
   refine⟨⟨k+1,hpk,hqk,he⟩,by simp only;omega,AC [] rfl rfl ?_ ?_⟩
   ·first|exact eN|refine eM ?_
   ·first|exact eN|refine eM ?_
  ·have hpn:p.drop k=[]:=List.drop_eq_nil_of_le (by exact eV)
   have h1:Gx DL p q=-1:=by
    rw[he,hpn,KS (0,[]) (show k<q.length by exact eV)]
    rfl
   exact AU hc [.tmp 6] rfl (.inl rfl) (.p T3 (-1)) eT ⟨by rw[h1],rfl⟩
  ·have hpn:p.drop k=[]:=List.drop_eq_nil_of_le (by exact eV)
   have hqn:q.drop k=[]:=List.drop_eq_nil_of_le (by exact eV)
   have h1:Gx DL p q=0:=by
    rw[he,hpn,hqn]
    rfl
   exact AU hc [.tmp 6] rfl (.inl rfl) (.p T3 0) eT ⟨by rw[h1],rfl⟩
def Pp (a b:List AN):Int:=if FJ (a.length:Int) (b.length:Int)=0 then Gx DL a b else FJ (a.length:Int) (b.length:Int)
theorem Ze (a b:List AN):Pp a b=0↔a=b:=by
 unfold Pp
 constructor
 ·intro h
  split at h
  ·exact(JO Ni).1 h
  ·rename_i h1
   exact absurd h h1
 ·rintro rfl
  rw[if_pos (Xn.2 rfl)]
  exact(JO Ni).2 rfl
def Vg:Ah:={ ins:=[Gr,Gr],pre:=fun(a,_,_)=>Cq a,out:=fun(a,b,_)=>[.p T3 (Pp a b)] }
attribute [local go_sem] Vg
theorem oV:Ao Tryz.prog 106 Vg:=by
 refine AW Tryz.func106 (by kernel_rfl) rfl Tryz.ntmps106 (by decide) (by kernel_rfl) (AF [(138,DC)]) (AD GS AI) ?_
 rintro w0 O0 ⟨a,b,u⟩ hc-⟨ha1,ha2⟩
 simp only[Vg,AM]
 repeat'(first|exact trivial|refine eS rfl ?_|refine AB ?_|refine rX [0,1,2,3,4,5,14] hc ?_ ?_|refine rC ?_ ?_<;>intro AA<;>try(cases AA;done))
 ·have h1:Pp a b=FJ (List.length a:Int) (List.length b:Int):=if_neg AA
  exact AG hc [.tmp 4] rfl (.inl rfl) (by simp) (by rw[h1];first|exact eR|refine Av ?_)
 ·have h1:Pp a b=Gx DL a b:=if_pos (by simpa using AA)
  refine cP 4 hc ?_ ?_
  ·trivial
  ·refine rM hc (Zd a b ha1 ha2) [] [] ?_ ?_ ?_
   ·first|exact eN|refine eM ?_
   ·first|exact eN|refine eM ?_
   ·rintro _ _ ⟨rfl,rfl⟩
    refine⟨[],.p T3 (Gx DL a b),[],rfl,rfl,?_,?_,rfl,rfl,?_⟩
    ·first|exact eN|refine eM ?_
    ·first|exact eN|refine eM ?_
    ·refine rL [0,1,2,3,4,5,14] hc ?_ ?_
     ·trivial
     ·repeat'(first|exact trivial|refine eS rfl ?_|refine AB ?_|refine rX [0,1,2,3,4,5,14] hc ?_ ?_|refine rC ?_ ?_<;>intro AA<;>try(cases AA;done))
      exact AG hc [.tmp 4] rfl (.inl rfl) (by simp) (by rw[h1];first|exact eR|refine Av ?_)
def Nj:Ah:={ ins:=[Gr,Gr],pre:=fun(a,_,_)=>Cq a,out:=fun(a,b,_)=>[.p .bool (Pp a b==0)] }
attribute [local go_sem] Nj
theorem j6:Ao Tryz.prog 68 Nj:=by
 refine AW Tryz.func68 (by kernel_rfl) rfl Tryz.ntmps68 (by decide) (by kernel_rfl) (AF [(106,Vg)]) (AD oV AI) ?_
 rintro w0 O0 ⟨a,b,u⟩ hc-ha
 simp only[Nj,AM]
 repeat'(first|exact trivial|refine eS rfl ?_|refine AB ?_|refine rX [0,1,2,3,4] hc ?_ ?_|refine rC ?_ ?_<;>intro AA<;>try(cases AA;done))
 ·exact ha
 ·exact AG hc [.tmp 4] rfl (.inl rfl) (by simp) (by first|exact eR|refine Av ?_)
def Xq (l:List (Int×Int)):List (Int×Bool):=l.foldl (fun m a=>HU T3 .bool a.1 true m) []
theorem SW {vt:Ty} (x k:Int) (v:vt.den) (m:List (Int×vt.den)):Ay T3 vt x (HU T3 vt k v m)=if x=k then some v else Ay T3 vt x m:=by
 induction m with
 | nil=>simp[HU,Ay,IA]
 | cons y m ih =>
  simp only[HU]
  by_cases hy:IA T3 k y.1=true
  ·rw[if_pos hy]
   have hky:k=y.1:=by simpa[IA] using hy
   simp only[Ay,IA,beq_iff_eq]
   by_cases hx:x=k
   ·rw[if_pos hx,if_pos hx]
   ·rw[if_neg hx,if_neg hx,if_neg (by rw[←hky];exact hx)]
  ·rw[if_neg hy]
   have hky:¬k=y.1:=by simpa[IA] using hy
   simp only[Ay]
   by_cases hx:IA T3 x y.1=true
   ·have hxy:x=y.1:=by simpa[IA] using hx
    rw[if_pos hx,if_pos hx,if_neg (by rw[hxy];exact fun e=>hky e.symm)]
   ·rw[if_neg hx,if_neg hx,ih]
theorem j7 (x:Int) (l:List (Int×Int)):(Ay T3 .bool x (Xq l)).getD false=l.any fun y=>y.1==x:=by
 induction l using Iu with
 | h0=>rfl
 | h1 l a ih =>
  have e:Xq (l++[a])=HU T3 .bool a.1 true (Xq l):=by unfold Xq;rw[List.foldl_append];rfl
  rw[e,SW,List.any_append,←ih]
  by_cases h:x=a.1
  ·rw[if_pos h,h]
   simp
  ·rw[if_neg h]
   have h2:¬a.1=x:=fun e=>h e.symm
   simp[h2]
def Fv (x:AN) (n:Int):Int:=if x.1<0 then 2 else Ia x.2 n
def Nk:Ah:={ ins:=[Rc,T3],pre:=fun _=>True,out:=fun(x,n,_)=>[.p Rb (Fv x n)] }
attribute [local go_sem] Nk
theorem Zf:Ao Tryz.prog 76 Nk:=by
 refine AW Tryz.func76 (by kernel_rfl) rfl Tryz.ntmps76 (by decide) (by kernel_rfl) (AF []) AI ?_
 rintro w0 O0 ⟨⟨t,l⟩,n,u⟩ hc ⟨⟨-,⟨hl,-⟩⟩,-⟩ -
 simp only[AO]at hl
 simp only[Nk,AM]
 repeat'(first|exact trivial|refine eS rfl ?_|refine AB ?_|refine rX [0,1,2,4,5,7,10,13,14,15,16,32,36] hc ?_ ?_|refine rC ?_ ?_<;>intro AA<;>try(cases AA;done))
 ·have h1:Fv (t,l) n=2:=if_pos AA
  exact AG hc [.tmp 4] rfl (.inl rfl) (by simp) (by rw[h1];first|exact eR|refine Av ?_)
 ·have h0:Fv (t,l) n=Hz n [] l:=if_neg (Int.not_lt.2 AA)
  rw[h0]
  refine AJ (ι:={k:Nat//k≤List.length l∧Hz n [] l=Hz n ((l:List (Int×Int)).take k) ((l:List (Int×Int)).drop k)}) (fun k=>⟨[(1,.p T3 n),(5,.mp 11),(13,.p Iw l),(14,.p (.int .i64) (List.length l:Int)),(15,.p (.int .i64) (k.1:Int))],[(11,.mapo T3 .bool (Xq ((l:List (Int×Int)).take k.1)))]⟩) (fun k=>List.length l-k.1) ⟨0,Nat.zero_le _,rfl⟩ (AC [(11,.nm 11)] rfl rfl ?_ ?_) (fun k=>?_)
  ·first|exact eN|refine eM ?_
   rfl
  ·first|exact eN|refine eM ?_
  ·obtain⟨k,hk,he⟩:=k
   have hst:=fun h:k<l.length=>Mf n l h
   have hsn:=fun h:k<l.length=>Oi (fun(m:List (Int×Bool)) (a:Int×Int)=>HU T3 .bool a.1 true m) l (0,0) [] h
   have hsg:=fun x=>j7 x (List.take k (l:List (Int×Int)))
   simp only
   repeat'(first|exact trivial|refine eS rfl ?_|refine AB ?_|refine rX [0,1,2,4,5,7,10,13,14,15,16,32,36] hc ?_ ?_|refine rC ?_ ?_<;>intro AA<;>try(cases AA;done))
   ·exact AA
   ·have hkl:k<List.length l:=by exact eV
    have h2:Hz n [] l=2:=by rw[he,hst hkl,if_pos (by omega)]
    exact AG hc [.tmp 4] rfl (.inl rfl) (by simp) (by rw[h2];first|exact eR|refine Av ?_)
   ·have hkl:k<List.length l:=by exact eV
    rw[hsg]at AA
    have h2:Hz n [] l=4:=by rw[he,hst hkl,if_neg (by omega),if_pos AA]
    exact AG hc [.tmp 4] rfl (.inl rfl) (by simp) (by rw[h2];first|exact eR|refine Av ?_)
   ·exact eV
   ·have hkl:k<List.length l:=by exact eV
    rw[hsg]at AA
    refine⟨⟨k+1,hkl,by rw[he,hst hkl,if_neg (by omega),if_neg (by rw[AA];simp)]⟩,by simp only;omega,AC [(11,.nm 11)] rfl rfl ?_ ?_⟩
    ·first|exact eN|refine eM ?_
     exact(hsn hkl).symm
    ·first|exact eN|refine eM ?_
   ·have hd:List.drop k (l:List (Int×Int))=[]:=List.drop_eq_nil_of_le (by exact eV)
    have h2:Hz n [] l=0:=by rw[he,hd];rfl
    exact AG hc [.tmp 4] rfl (.inl rfl) (by simp) (by rw[h2];first|exact eR|refine Av ?_)
theorem Xr {n:Int}:∀ {l seen:List (Int×Int)},Hz n seen l=0→(∀a∈l,∀b∈seen,b.1≠a.1)∧oQ l
 | [],_,_=>⟨fun a ha=>(by cases ha),List.Pairwise.nil⟩
 | x :: l,seen,h=>by
  simp only[Hz]at h
  split at h
  ·cases h
  ·split at h
   ·cases h
   ·rename_i h1 h2
    obtain⟨g1,g2⟩:=Xr h
    refine⟨fun a ha b hb=>?_,List.pairwise_cons.2 ⟨fun a ha e=>g1 a ha x (by simp) e,g2⟩⟩
    rcases List.mem_cons.1 ha with rfl|ha
    ·intro e
     exact h2 (List.any_eq_true.2 ⟨b,hb,by simp[e]⟩)
    ·exact g1 a ha b (by simp[hb])
theorem Xs {m:Int}:∀ {f:List AN},JL m f=0→∀x∈f,oQ x.2
 | [],_,x,hx=>by cases hx
 | y :: f,h,x,hx=>by
  simp only[JL]at h
  split at h
  ·cases h
  ·split at h
   ·rename_i h1 h2;exact absurd h h2
   ·rename_i h1 h2
    have h2:Ia y.2 m=0:=Classical.byContradiction h2
    rcases List.mem_cons.1 hx with rfl|hx
    ·exact(Xr h2).2
    ·exact Xs h x hx
def L2 (f:List AN):Prop:=∀x∈f,x.2.length≤200
theorem Xt {f:List AN} (h:CT f=0) (hs:L2 f):wG f:=by
 unfold CT at h
 split at h
 ·cases h
 ·split at h
  ·cases h
  ·exact fun x hx=>⟨Xs h x hx,hs x hx⟩
def Jz:Ah:={ ins:=[Gr],pre:=fun(f,_)=>L2 f,out:=fun(f,_)=>[.p Gr (BM f).1,.p Rb (BM f).2] }
attribute [local go_sem] Jz
theorem UU:Ao Tryz.prog 51 Jz:=by
 refine AW Tryz.func51 (by kernel_rfl) rfl Tryz.ntmps51 (by decide) (by kernel_rfl) (AF [(76,Nk),(77,Nh)]) (AD Zf (AD jZ AI)) ?_
 rintro w0 O0 ⟨f,u⟩ hc ⟨⟨hfl,-⟩,-⟩ hs
 simp only[AO]at hfl
 have hs:L2 f:=hs
 have hs2:VW f:=fun x hx=>Nat.le_trans (hs x hx) (by omega)
 simp only[Jz,AM]
 repeat'(first|exact trivial|refine eS rfl ?_|refine AB ?_|refine rX [0,1,2,3,5,6,10,15,18,19,20,21,30] hc ?_ ?_|refine rC ?_ ?_<;>intro AA<;>try(cases AA;done))
 ·have h1:CT f=1:=by
   have h:f.length=0:=by exact eV
   unfold CT
   rw[if_pos h]
  have e:BM f=([],1):=by unfold BM;rw[h1];rfl
  exact AG hc [.cell 2 25,.tmp 3] rfl (.inl rfl) (by simp) (by rw[e];first|exact eR|refine Av ?_)
 ·have h1:CT f=7:=by
   have h:¬f.length=0:=by exact eV
   have h':4096<f.length:=by exact eV
   unfold CT
   rw[if_neg h,if_pos h']
  have e:BM f=([],7):=by unfold BM;rw[h1];rfl
  exact AG hc [.cell 2 25,.tmp 3] rfl (.inl rfl) (by simp) (by rw[e];first|exact eR|refine Av ?_)
 ·have h1:CT f=JL f.length f:=by
   have h:¬f.length=0:=by exact eV
   have h':¬4096<f.length:=by exact eV
   unfold CT
   rw[if_neg h,if_neg h']
  have hf0:0<f.length:=by exact eV
  refine AJ (ι:={k:Nat//k≤f.length∧JL f.length (f.drop k)=CT f}) (fun k=>⟨[(1,.bp 1 [] 0),(2,.bp 2 [] 0),(18,.p HR f),(19,.p (.int .i64) (f.length:Int)),(20,.p (.int .i64) (k.1:Int))],[(1,.box 25 true [.p HR f]),(2,.box 25 true [.raw (.slice none 0 0)])]⟩) (fun k=>f.length-k.1) ⟨0,by simp[h1]⟩ (AC [(1,.nm 1),(2,.nm 2)] rfl rfl ?_ ?_) (fun k=>?_)
  ·first|exact eN|refine eM ?_
  ·first|exact eN|refine eM ?_
  ·obtain⟨k,hk,hf⟩:=k
   simp only
   repeat'(first|exact trivial|refine eS rfl ?_|refine AB ?_|refine rX [0,1,2,3,5,6,10,15,18,19,20,21,30] hc ?_ ?_|refine rC ?_ ?_<;>intro AA<;>try(cases AA;done))
   ·exact AA
   ·have hkl:k<f.length:=by exact eV
    have AA:¬Fv (f.getD k (0,[])) f.length=0:=AA
    have h2:CT f=Fv (f.getD k (0,[])) f.length:=by
     rw[←hf,H0 _ _ hkl]
     unfold Fv at AA ⊢
     by_cases h3:(f.getD k (0,[])).1<0
     ·rw[if_pos h3,if_pos h3]
     ·rw[if_neg h3]at AA
      rw[if_neg h3,if_neg h3,if_pos AA]
    have e:BM f=([],Fv (f.getD k (0,[])) f.length):=by unfold BM;rw[h2,if_neg AA]
    exact AG hc [.cell 2 25,.tmp 3] rfl (.inl rfl) (by simp) (by rw[e];first|exact eR|refine Av ?_)
   ·exact eV
   ·have hkl:k<f.length:=by exact eV
    have AA:Fv (f.getD k (0,[])) f.length=0:=by simpa using AA
    refine⟨⟨k+1,hkl,?_⟩,by simp only;omega,AC [(1,.nm 1),(2,.nm 2)] rfl rfl ?_ ?_⟩
    ·rw[←hf,H0 _ _ hkl]
     unfold Fv at AA
     by_cases h3:(f.getD k (0,[])).1<0
     ·rw[if_pos h3]at AA
      cases AA
     ·rw[if_neg h3]at AA
      rw[if_neg h3,if_neg (by rw[AA];simp)]
    ·first|exact eN|refine eM ?_
    ·first|exact eN|refine eM ?_
   ·have hz:CT f=0:=by rw[←hf,List.drop_eq_nil_of_le (by exact eV)];rfl
    exact⟨(Jy hz hs2).1,Xt hz hs,Int.ofNat_lt.2 hf0⟩
   ·have hz:CT f=0:=by rw[←hf,List.drop_eq_nil_of_le (by exact eV)];rfl
    have e:BM f=(E0 (Dz f) 0,0):=by unfold BM;rw[if_pos hz,Xl (Jy hz hs2).1 (Xt hz hs) (Int.le_refl 0) (Int.ofNat_lt.2 hf0)]
    exact AG hc [.cell 2 25,.tmp 3] rfl (.inl rfl) (by simp) (by rw[e];first|exact eR|refine Av ?_)
end
/- Plain: raising types by a list of nodes that wait. -/
section
def UV (h:AR) (f:Int):Int:=(h.2.getD f.toNat (ByteArray.empty,0)).2
def SX (h:AR) (n:Int):List (Int×Int)→IC→Option IC
 | [],s=>some s
 | a :: l,s=>(Ef h s n (UV h a.1)).bind (SX h n l)
def S4 (h:AR) (n:Int):List (Int×Int)→IC→Option IC
 | [],s=>some s
 | a :: l,s=>if (Em h (s.1.getD n.toNat 0) a.1).2=true then (Ef h s a.2 (Em h (s.1.getD n.toNat 0) a.1).1).bind (S4 h n l) else none
def Pq (h:AR) (f:List AN) (n:Int) (s:IC):Option IC:=(SX h n (f.getD n.toNat (0,[])).2 s).bind (S4 h n (f.getD n.toNat (0,[])).2)
def wI (h:AR) (f:List AN):Nat→Nat→IC→Option (List Int)
 | 0,_,_=>none
 | k+1,i,s=>if i<s.2.length then (Pq h f (s.2.getD i 0) s).bind (wI h f k (i+1)) else some s.1
def DI (f:List AN):List Int:=f.map fun x=>x.1
def Eo (f:List AN):List Int:=(List.range f.length).map fun i:Nat=>(i:Int)
def SY (f:List AN) (ty:List Int):List AN:=(List.range f.length).map fun i=>(ty.getD i 0,(f.getD i (0,[])).2)
structure Xu (h:AR):Prop where
 int:∀x∈h.2,0≤x.2∧x.2<(h.1.length:Int)
 val:∀t∈h.1,∀p∈t.2.2.2,0≤p.2∧p.2<(h.1.length:Int)
structure YL (h:AR) (m:Nat) (s:IC):Prop where
 len:s.1.length=m
 ty:∀t∈s.1,0≤t∧t<(h.1.length:Int)
 wt:∀n∈s.2,0≤n∧n<(m:Int)
theorem YL.get {h:AR} {m:Nat} {s:IC} (hs:YL h m s) {n:Int} (n0:0≤n) (n1:n<(m:Int)):0≤s.1.getD n.toNat 0∧s.1.getD n.toNat 0<(h.1.length:Int):=by
 have hl:n.toNat<s.1.length:=by rw[hs.len];omega
 rw[List.getD_eq_getElem?_getD,List.getElem?_eq_getElem hl]
 exact hs.ty _ (List.getElem_mem hl)
def j8 (h:AR) (t:Int):Nat:=((List.range h.1.length).filter fun i:Nat=>Dx h t (i:Int)).length
def Vh (h:AR) (ty:List Int):Nat:=(ty.map (j8 h)).sum
theorem UW {α:Type} {p q:α→Bool}:∀ {l:List α},(∀x∈l,q x=true→p x=true)→(∃b∈l,p b=true∧q b=false)→(l.filter q).length<(l.filter p).length
 | [],_,⟨b,hb,_⟩=>by cases hb
 | x :: l,h1,⟨b,hb,h2,h3⟩=>by
  have hle:∀ {l:List α},(∀x∈l,q x=true→p x=true)→(l.filter q).length≤(l.filter p).length:=by
   intro l hl
   induction l with
   | nil=>exact Nat.le_refl _
   | cons y l ih =>
    have i1:=ih fun z hz=>hl z (List.mem_cons_of_mem _ hz)
    rw[List.filter_cons,List.filter_cons]
    by_cases hq:q y=true
    ·rw[if_pos hq,if_pos (hl y (by simp) hq)]
     simp only[List.length_cons];omega
    ·rw[if_neg hq]
     split
     ·simp only[List.length_cons];omega
     ·exact i1
  rw[List.filter_cons,List.filter_cons]
  rcases List.mem_cons.1 hb with rfl|hb
  ·rw[if_neg (by rw[h3];simp),if_pos h2]
   have:=hle fun z hz=>h1 z (List.mem_cons_of_mem _ hz)
   simp only[List.length_cons];omega
  ·have i1:=UW (fun z hz=>h1 z (List.mem_cons_of_mem _ hz)) ⟨b,hb,h2,h3⟩
   by_cases hq:q x=true
   ·rw[if_pos hq,if_pos (h1 x (by simp) hq)]
    simp only[List.length_cons];omega
   ·rw[if_neg hq]
    split
    ·simp only[List.length_cons];omega
    ·exact i1
theorem vO {h:AR} (hk:Ns h) {a:Int} (a0:0≤a) (a1:a<(h.1.length:Int)):Dx h a a=true:=(Cf hk a0 a1 a0 a1).2 fun _ h=>h
theorem vP {h:AR} (hk:Ns h) {a b c:Int} (a0:0≤a) (a1:a<(h.1.length:Int)) (b0:0≤b) (b1:b<(h.1.length:Int)) (c0:0≤c) (c1:c<(h.1.length:Int)) (h1:Dx h a b=true) (h2:Dx h b c=true):Dx h a c=true :=
 (Cf hk a0 a1 c0 c1).2 fun i hi=>(Cf hk a0 a1 b0 b1).1 h1 i ((Cf hk b0 b1 c0 c1).1 h2 i hi)
theorem vQ {h:AR} (hk:Ns h) (hi:Ol h) {a m:Int} (a0:0≤a) (a1:a<(h.1.length:Int)) (m0:0≤m) (m1:m<(h.1.length:Int)) (hs:Dx h a m=true) (hne:m≠a):j8 h m<j8 h a:=by
 refine UW (fun x hx e=>?_) ⟨a.toNat,List.mem_range.2 (by omega),?_,?_⟩
 ·have hx:=List.mem_range.1 hx
  exact vP hk a0 a1 m0 m1 (Int.natCast_nonneg _) (by omega) hs e
 ·rw[Int.toNat_of_nonneg a0]
  exact vO hk a0 a1
 ·rw[Int.toNat_of_nonneg a0]
  cases e:Dx h m a with
  | false=>rfl
  | true=>exact absurd (hi m a m0 m1 a0 a1 e hs) hne
theorem f2 {α:Type} (g:α→Nat) (d:α):∀ {l:List α} {i:Nat} {v:α},i<l.length→((l.set i v).map g).sum+g (l.getD i d)=(l.map g).sum+g v
 | [],i,v,h=>by simp at h
 | x :: l,0,v,h=>by simp only[List.set_cons_zero,List.map_cons,List.sum_cons,List.getD_cons_zero];omega
 | x :: l,i+1,v,h=>by
  have:=f2 g d (l:=l) (i:=i) (v:=v) (by simpa using h)
  simp only[List.set_cons_succ,List.map_cons,List.sum_cons,List.getD_cons_succ]
  omega
theorem Lf {h:AR} (hk:Ns h) (hi:Ol h) {m:Nat} {s s':IC} (hs:YL h m s) {n t:Int} (n0:0≤n) (n1:n<(m:Int)) (t0:0≤t) (t1:t<(h.1.length:Int)) (e:Ef h s n t=some s') :
  YL h m s'∧Vh h s'.1+s'.2.length≤Vh h s.1+s.2.length∧s.2.length≤s'.2.length:=by
 obtain⟨g0,g1⟩:=hs.get n0 n1
 unfold Ef at e
 split at e
 ·rename_i hm
  obtain⟨q0,q1,q2,q3⟩:=(oD hk g0 g1 t0 t1).1 hm
  generalize (Dy h (s.1.getD n.toNat 0) t).1=v at *
  injection e with e
  split at e
  ·subst e
   exact⟨hs,Nat.le_refl _,Nat.le_refl _⟩
  ·rename_i hne
   subst e
   have hr:=vQ hk hi g0 g1 q0 q1 q2 hne
   have hl:n.toNat<s.1.length:=by rw[hs.len];omega
   have hp:=f2 (j8 h) 0 (v:=v) hl
   refine⟨⟨by simp only[List.length_set];exact hs.len,fun x hx=>?_,fun x hx=>?_⟩,?_,by simp⟩
   ·rcases List.mem_or_eq_of_mem_set hx with hx|rfl
    ·exact hs.ty x hx
    ·exact⟨q0,q1⟩
   ·rcases List.mem_append.1 hx with hx|hx
    ·exact hs.wt x hx
    ·rw[List.mem_singleton.1 hx]
     exact⟨n0,n1⟩
   ·unfold Vh
    simp only[List.length_append,List.length_singleton]
    omega
 ·cases e
def UX (h:AR) (m:Nat) (a:Int×Int):Prop:=(0≤a.1∧a.1<(h.2.length:Int))∧0≤a.2∧a.2<(m:Int)
theorem Xv {h:AR} (hf:Xu h) {f:Int} (f0:0≤f) (f1:f<(h.2.length:Int)):0≤UV h f∧UV h f<(h.1.length:Int):=by
 have hl:f.toNat<h.2.length:=by omega
 unfold UV
 rw[List.getD_eq_getElem?_getD,List.getElem?_eq_getElem hl]
 exact hf.int _ (List.getElem_mem hl)
theorem UY {f:Int}:∀ {l:List (Int×Int)},(H2 f l).2=true→(f,(H2 f l).1)∈l
 | [],h=>by cases h
 | x :: l,h=>by
  unfold H2 at h ⊢
  split
  ·rename_i e
   rw[←e]
   simp
  ·rename_i e
   rw[if_neg e]at h
   exact List.mem_cons_of_mem _ (UY h)
theorem UZ {h:AR} {t:Int} (t0:0≤t) (t1:t<(h.1.length:Int)):h.1.getD t.toNat Sn∈h.1:=AE h.1 Sn (by omega)
theorem Nl {h:AR} (hf:Xu h) {t f:Int} (t0:0≤t) (t1:t<(h.1.length:Int)) (e:(Em h t f).2=true):0≤(Em h t f).1∧(Em h t f).1<(h.1.length:Int) :=
 hf.val _ (UZ t0 t1) _ (UY e)
theorem f4 {h:AR} (hk:Ns h) (hi:Ol h) (hf:Xu h) {m:Nat} {n:Int} (n0:0≤n) (n1:n<(m:Int)):∀ {l:List (Int×Int)} {s s':IC},(∀a∈l,UX h m a)→YL h m s→SX h n l s=some s' →
  YL h m s'∧Vh h s'.1+s'.2.length≤Vh h s.1+s.2.length∧s.2.length≤s'.2.length
 | [],s,s',_,hs,e=>by
  injection e with e
  subst e
  exact⟨hs,Nat.le_refl _,Nat.le_refl _⟩
 | a :: l,s,s',hl,hs,e=>by
  unfold SX at e
  cases e1:Ef h s n (UV h a.1) with
  | none=>rw[e1]at e;cases e
  | some s1 =>
   rw[e1]at e
   obtain⟨⟨a0,a1⟩,-⟩:=hl a (by simp)
   obtain⟨i0,i1⟩:=Xv hf a0 a1
   obtain⟨g1,g2,g3⟩:=Lf hk hi hs n0 n1 i0 i1 e1
   obtain⟨k1,k2,k3⟩:=f4 hk hi hf n0 n1 (fun b hb=>hl b (by simp[hb])) g1 e
   exact⟨k1,by omega,by omega⟩
theorem f5 {h:AR} (hk:Ns h) (hi:Ol h) (hf:Xu h) {m:Nat} {n:Int} (n0:0≤n) (n1:n<(m:Int)):∀ {l:List (Int×Int)} {s s':IC},(∀a∈l,UX h m a)→YL h m s→S4 h n l s=some s' →
  YL h m s'∧Vh h s'.1+s'.2.length≤Vh h s.1+s.2.length∧s.2.length≤s'.2.length
 | [],s,s',_,hs,e=>by
  injection e with e
  subst e
  exact⟨hs,Nat.le_refl _,Nat.le_refl _⟩
 | a :: l,s,s',hl,hs,e=>by
  unfold S4 at e
  split at e
  ·rename_i hv
   obtain⟨g0,g1⟩:=hs.get n0 n1
   obtain⟨i0,i1⟩:=Nl hf g0 g1 hv
   cases e1:Ef h s a.2 (Em h (s.1.getD n.toNat 0) a.1).1 with
   | none=>rw[e1]at e;cases e
   | some s1 =>
    rw[e1]at e
    obtain⟨-,b0,b1⟩:=hl a (by simp)
    obtain⟨g1,g2,g3⟩:=Lf hk hi hs b0 b1 i0 i1 e1
    obtain⟨k1,k2,k3⟩:=f5 hk hi hf n0 n1 (fun b hb=>hl b (by simp[hb])) g1 e
    exact⟨k1,by omega,by omega⟩
  ·cases e
def SZ (h:AR) (f:List AN):Prop:=∀x∈f,∀a∈x.2,UX h f.length a
theorem Sa {h:AR} {f:List AN} (ha:SZ h f) {n:Int} (n0:0≤n) (n1:n<(f.length:Int)):∀a∈(f.getD n.toNat (0,[])).2,UX h f.length a:=ha _ (AE f (0,[]) (by omega))
theorem Xw {h:AR} (hk:Ns h) (hi:Ol h) (hf:Xu h) {f:List AN} (ha:SZ h f) {n:Int} (n0:0≤n) (n1:n<(f.length:Int)) {s s':IC} (hs:YL h f.length s) (e:Pq h f n s=some s') :
  YL h f.length s'∧Vh h s'.1+s'.2.length≤Vh h s.1+s.2.length∧s.2.length≤s'.2.length:=by
 unfold Pq at e
 cases e1:SX h n (f.getD n.toNat (0,[])).2 s with
 | none=>rw[e1]at e;cases e
 | some s1 =>
  rw[e1]at e
  obtain⟨g1,g2,g3⟩:=f4 hk hi hf n0 n1 (Sa ha n0 n1) hs e1
  obtain⟨k1,k2,k3⟩:=f5 hk hi hf n0 n1 (Sa ha n0 n1) g1 e
  exact⟨k1,by omega,by omega⟩
theorem vR (h:AR) (t:Int):j8 h t≤h.1.length:=by
 unfold j8
 exact Nat.le_trans (List.length_filter_le _ _) (by simp)
theorem oW (h:AR):∀ty:List Int,Vh h ty≤ty.length*h.1.length
 | []=>by simp[Vh]
 | t :: ty=>by
  have h1:=oW h ty
  have h2:=vR h t
  unfold Vh at h1 ⊢
  simp only[List.map_cons,List.sum_cons,List.length_cons,Nat.add_mul,Nat.one_mul]
  omega
def Sb (h:AR) (f:List AN):Nat:=f.length*h.1.length+f.length+1
def Zg (h:AR) (f:List AN):Option (List Int):=wI h f (Sb h f) 0 (DI f,Eo f)
def CP (h:AR) (f:List AN):List AN×Bool:=match Zg h f with
 | some ty=>(SY f ty,true)
 | none=>([],false)
theorem wJ {h:AR} {f:List AN} (ht:∀x∈f,0≤x.1∧x.1<(h.1.length:Int)):YL h f.length (DI f,Eo f):=by
 refine⟨by simp[DI],fun t h1=>?_,fun n hn=>?_⟩
 ·obtain⟨x,hx,rfl⟩:=List.mem_map.1 h1
  exact ht x hx
 ·obtain⟨i,hi,rfl⟩:=List.mem_map.1 hn
  have:=List.mem_range.1 hi
  omega
theorem xO (h:AR) (f:List AN):Vh h (DI f)+(Eo f).length+1≤Sb h f:=by
 have:=oW h (DI f)
 unfold Sb
 rw[show (DI f).length=f.length by simp[DI]]at this
 rw[show (Eo f).length=f.length by simp[Eo]]
 omega
end
/- Functions of restrict: part, at its three closures. -/
section
open Go
end
/- What a canonical feature structure is: its arcs ascend. -/
section
theorem JP {x y:Int} {xs ys:List Int} (h:Jv (x :: xs) (y :: ys)=0):x=y∧Jv xs ys=0:=by
 simp only[Jv]at h
 split at h
 ·cases h
 ·split at h
  ·cases h
  ·exact⟨by omega,h⟩
theorem Sc:∀ {l m:List (Int×Int)} {r s:List Int},l.length=m.length→Jv (l.flatMap (fun a=>[a.1,a.2])++r) (m.flatMap (fun a=>[a.1,a.2])++s)=0→l=m∧Jv r s=0
 | [],[],_,_,_,h=>⟨rfl,by simpa using h⟩
 | [],_ :: _,_,_,hl,_=>by simp at hl
 | _ :: _,[],_,_,hl,_=>by simp at hl
 | (a1,a2) :: l,(b1,b2) :: m,r,s,hl,h=>by
  have h:Jv (a1 :: a2 :: (l.flatMap (fun a=>[a.1,a.2])++r)) (b1 :: b2 :: (m.flatMap (fun a=>[a.1,a.2])++s))=0:=by simpa using h
  obtain⟨e1,h3⟩:=JP h
  obtain⟨e2,h4⟩:=JP h3
  obtain⟨e3,h5⟩:=Sc (l:=l) (m:=m) (by simpa using hl) h4
  exact⟨by rw[e1,e2,e3],h5⟩
theorem Sd:∀ {l m:List AN} {r s:List Int},l.length=m.length→Jv (l.flatMap R7++r) (m.flatMap R7++s)=0→l=m∧Jv r s=0
 | [],[],_,_,_,h=>⟨rfl,by simpa using h⟩
 | [],_ :: _,_,_,hl,_=>by simp at hl
 | _ :: _,[],_,_,hl,_=>by simp at hl
 | (a1,a2) :: l,(b1,b2) :: m,r,s,hl,h=>by
  have h:Jv (a1 :: (a2.length:Int) :: (a2.flatMap (fun a=>[a.1,a.2])++(l.flatMap R7++r))) (b1 :: (b2.length:Int) :: (b2.flatMap (fun a=>[a.1,a.2])++(m.flatMap R7++s)))=0:=by simpa[R7] using h
  obtain⟨e1,h3⟩:=JP h
  obtain⟨e2,h4⟩:=JP h3
  obtain⟨e3,h5⟩:=Sc (l:=a2) (m:=b2) (by omega) h4
  obtain⟨e4,h6⟩:=Sd (l:=l) (m:=m) (by simpa using hl) h5
  exact⟨by rw[e1,e3,e4],h6⟩
theorem Xx {a b:List AN} (h:DY a b=0):a=b:=by
 unfold DY Bl at h
 obtain⟨h1,h2⟩:=JP h
 have:=Sd (l:=a) (m:=b) (r:=[]) (s:=[]) (by omega) (by simpa using h2)
 exact this.1
theorem Ua:∀l:List Int,Jv l l=0
 | []=>rfl
 | x :: l=>by simp[Jv,Ua l]
theorem L3 (a:List AN):DY a a=0:=Ua _
/-! The sort ascends -/
end
/- Functions of graph: Check; of typed: Check. -/
section
attribute [local go_sem] Jz Nj KP SF
theorem xP (a b:List AN):(DY a b==0)=(Pp a b==0):=by
 rw[Bool.eq_iff_iff,beq_iff_eq,beq_iff_eq,Ze]
 exact⟨Xx,fun e=>by rw[e];exact L3 b⟩
def Nm:Ah:={ ins:=[Ml,Gr],pre:=fun(_,f,_)=>Cq f∧L2 f,out:=fun(h,f,_)=>[.p Rb (CX h f)] }
attribute [local go_sem] Nm
theorem j9:Ao Tryz.prog 38 Nm:=by
 refine AW Tryz.func38 (by kernel_rfl) rfl Tryz.ntmps38 (by decide) (by kernel_rfl) (AF [(51,Jz),(68,Nj)]) (AD UU (AD j6 AI)) ?_
 rintro w0 O0 ⟨⟨ht,hf⟩,f,u⟩ hc-⟨hs,hs2⟩
 have hs:Cq f:=hs
 have hs2:L2 f:=hs2
 simp only[Nm,AM]
 repeat'(first|exact trivial|refine eS rfl ?_|refine AB ?_|refine rX [0,1,2,3,4,5,6,8,10,17,20,21,22,23,31,33,34,35,36,44,50] hc ?_ ?_|refine rC ?_ ?_<;>intro AA<;>try(cases AA;done))
 ·exact hs2
 ·have h1:CX (ht,hf) f=(BM f).2:=by unfold CX;rw[if_pos AA]
  exact AG hc [.tmp 4] rfl (.inl rfl) (by simp) (by rw[h1];first|exact eR|refine Av ?_)
 ·have hz:(BM f).2=0:=by simpa using AA
  have hsc:=Pj hs.2
  have hfl:=hs.1
  have hr:CX (ht,hf) f=if f.all (UK (ht,hf))=false then 2 else if (Pp f (BM f).1==0)=false then 3 else 0:=by unfold CX;rw[if_neg (by rw[hz];simp),xP f (BM f).1]
  refine AJ (ι:={i:Nat//i≤f.length∧(f.take i).all (UK (ht,hf))=true}) (fun i=>⟨[(2,.bp 2 [] 0),(3,.bp 3 [] 0),(5,.bp 5 [] 0),(20,.p HR f),(21,.p (.int .i64) (f.length:Int)),(22,.p (.int .i64) (i.1:Int))],[(2,.box 31 true [.p Tf ht,.p Vp hf]),(3,.box 25 true [.p HR f]),(5,.box 25 true [.p HR (BM f).1])]⟩) (fun i=>f.length-i.1) ⟨0,by simp⟩ (AC [(2,.nm 2),(3,.nm 3),(5,.nm 5)] rfl rfl ?_ ?_) (fun i=>?_)
  ·first|exact eN|refine eM ?_
  ·first|exact eN|refine eM ?_
  ·obtain⟨i,hi,hall⟩:=i
   have hsn:=fun h:i<f.length=>GG f (0,[]) (UK (ht,hf)) h
   simp only
   repeat'(first|exact trivial|refine eS rfl ?_|refine AB ?_|refine rX [0,1,2,3,4,5,6,8,10,17,20,21,22,23,31,33,34,35,36,44,50] hc ?_ ?_|refine rC ?_ ?_<;>intro AA<;>try(cases AA;done))
   ·exact AA
   ·have hif:i<f.length:=Int.ofNat_lt.1 (by assumption)
    have e:f.all (UK (ht,hf))=false:=by
     rw[List.all_eq_false]
     refine⟨_,AE f (0,[]) hif,?_⟩
     unfold UK
     rw[decide_eq_false (Int.not_lt.2 AA)]
     simp
    rw[if_pos e]at hr
    exact AG hc [.tmp 4] rfl (.inl rfl) (by simp) (by rw[hr];first|exact eR|refine Av ?_)
   ·have hif:i<f.length:=Int.ofNat_lt.1 (by assumption)
    have hm:=AE f (0,[]) hif
    have hnd:UK (ht,hf) (f.getD i (0,[]))=(f.getD i (0,[])).2.all (kP (ht,hf)):=by
     unfold UK
     rw[decide_eq_true (show (f.getD i (0,[])).1<(ht.length:Int) from AA)]
     rfl
    have hal:(f.getD i (0,[])).2.length≤100000:=hs.2 _ hm
    refine AJ (ι:={k:Nat//k≤(f.getD i (0,[])).2.length∧((f.getD i (0,[])).2.take k).all (kP (ht,hf))=true}) (fun k=>⟨[(2,.bp 2 [] 0),(3,.bp 3 [] 0),(5,.bp 5 [] 0),(20,.p HR f),(21,.p (.int .i64) (f.length:Int)),(22,.p (.int .i64) (i:Int)),(33,.p Iw (f.getD i (0,[])).2),(34,.p (.int .i64) ((f.getD i (0,[])).2.length:Int)),(35,.p (.int .i64) (k.1:Int))],[(2,.box 31 true [.p Tf ht,.p Vp hf]),(3,.box 25 true [.p HR f]),(5,.box 25 true [.p HR (BM f).1])]⟩) (fun k=>(f.getD i (0,[])).2.length-k.1) ⟨0,by simp⟩ (AC [(2,.nm 2),(3,.nm 3),(5,.nm 5)] rfl rfl ?_ ?_) (fun k=>?_)
    ·first|exact eN|refine eM ?_
    ·first|exact eN|refine eM ?_
    ·obtain⟨k,hk,hall2⟩:=k
     have hsn2:=fun h:k<(f.getD i (0,[])).2.length=>GG (f.getD i (0,[])).2 (0,0) (kP (ht,hf)) h
     simp only
     repeat'(first|exact trivial|refine eS rfl ?_|refine AB ?_|refine rX [0,1,2,3,4,5,6,8,10,17,20,21,22,23,31,33,34,35,36,44,50] hc ?_ ?_|refine rC ?_ ?_<;>intro AA<;>try(cases AA;done))
     ·exact AA
     ·have hkL:k<(f.getD i (0,[])).2.length:=Int.ofNat_lt.1 (by assumption)
      have e:f.all (UK (ht,hf))=false:=by
       rw[List.all_eq_false]
       refine⟨_,hm,?_⟩
       rw[hnd,List.all_eq_false.2 ⟨_,AE (f.getD i (0,[])).2 (0,0) hkL,by unfold kP;rw[decide_eq_false (Int.not_lt.2 AA)];simp⟩]
       simp
      rw[if_pos e]at hr
      exact AG hc [.tmp 4] rfl (.inl rfl) (by simp) (by rw[hr];first|exact eR|refine Av ?_)
     ·exact eV
     ·have hkL:k<(f.getD i (0,[])).2.length:=Int.ofNat_lt.1 (by assumption)
      refine⟨⟨k+1,hkL,?_⟩,by simp only;omega,AC [(2,.nm 2),(3,.nm 3),(5,.nm 5)] rfl rfl ?_ ?_⟩
      ·rw[hsn2 hkL,hall2]
       unfold kP
       exact decide_eq_true AA
      ·first|exact eN|refine eM ?_
      ·first|exact eN|refine eM ?_
     ·exact eV
     ·have hkL:(f.getD i (0,[])).2.take k=(f.getD i (0,[])).2:=List.take_of_length_le (Int.ofNat_le.1 AA)
      rw[hkL]at hall2
      refine⟨⟨i+1,hif,?_⟩,by simp only;omega,AC [(2,.nm 2),(3,.nm 3),(5,.nm 5)] rfl rfl ?_ ?_⟩
      ·rw[hsn hif,hall,hnd,hall2]
       rfl
      ·first|exact eN|refine eM ?_
      ·first|exact eN|refine eM ?_
   ·exact hs
   ·have hif:f.take i=f:=List.take_of_length_le (Int.ofNat_le.1 (by assumption))
    rw[hif]at hall
    rw[if_neg (by rw[hall];simp),if_pos (by simpa using AA)]at hr
    exact AG hc [.tmp 4] rfl (.inl rfl) (by simp) (by rw[hr];first|exact eR|refine Av ?_)
   ·have hif:f.take i=f:=List.take_of_length_le (Int.ofNat_le.1 (by assumption))
    rw[hif]at hall
    rw[if_neg (by rw[hall];simp),if_neg (by rw[AA];simp)]at hr
    exact AG hc [.tmp 4] rfl (.inl rfl) (by simp) (by rw[hr];first|exact eR|refine Av ?_)
end
/- Functions of typed: Check. -/
section
attribute [local go_sem] Nm KP SF
def GK (h:AR) (f:List AN) (t:Int):List (Int×Int)→Int
 | []=>0
 | a :: l=>if (Em h t a.1).2=false then 10 else if Dx h (Em h t a.1).1 (f.getD a.2.toNat (0,[])).1=false then 11 else GK h f t l
def Ep (h:AR) (f:List AN):List AN→Int
 | []=>0
 | x :: l=>if GK h f x.1 x.2=0 then Ep h f l else GK h f x.1 x.2
def Dp (h:AR) (f:List AN):Int:=if CX h f=0 then Ep h f f else CX h f
structure Chk (h:AR) (f:List AN):Prop where
 ty:∀x∈f,0≤x.1∧x.1<(h.1.length:Int)
 arc:∀x∈f,∀a∈x.2,UX h f.length a
theorem oX {h:AR} {f:List AN} (e:CX h f=0):Chk h f:=by
 have h1:(BM f).2=0:=by
  refine Classical.byContradiction fun hn=>?_
  unfold CX at e
  rw[if_pos hn]at e
  exact hn e
 have h2:CT f=0:=by
  refine Classical.byContradiction fun hn=>?_
  unfold BM at h1
  rw[if_neg hn]at h1
  exact hn h1
 have h3:f.all (UK h)=true:=by
  cases hb:f.all (UK h) with
  | true=>rfl
  | false =>
   unfold CX at e
   rw[if_neg (by rw[h1];simp),if_pos hb]at e
   cases e
 have h4:JL f.length f=0:=by
  unfold CT at h2
  split at h2
  ·cases h2
  ·split at h2
   ·cases h2
   ·exact h2
 have h5:=Mg h4
 rw[List.all_eq_true]at h3
 have h6:∀x∈f,x.1<(h.1.length:Int)∧∀a∈x.2,a.1<(h.2.length:Int):=fun x hx=>by
  have:=h3 x hx
  unfold UK at this
  rw[Bool.and_eq_true,decide_eq_true_eq,List.all_eq_true]at this
  exact⟨this.1,fun a ha=>by have:=this.2 a ha;unfold kP at this;simpa using this⟩
 exact⟨fun x hx=>⟨(h5 x hx).1,(h6 x hx).1⟩,fun x hx a ha=>by
  obtain⟨q1,q2,q3⟩:=(h5 x hx).2 a ha
  exact⟨⟨q1,(h6 x hx).2 a ha⟩,q2,q3⟩⟩
theorem L4 (h:AR) (f l:List AN) {k:Nat} (hk:k<l.length):Ep h f (l.drop k)=if GK h f (l.getD k (0,[])).1 (l.getD k (0,[])).2=0 then Ep h f (l.drop (k+1)) else GK h f (l.getD k (0,[])).1 (l.getD k (0,[])).2:=by
 rw[KS (0,[]) hk]
 rfl
theorem Pr (h:AR) (f:List AN) (t:Int) (l:List (Int×Int)) {k:Nat} (hk:k<l.length):GK h f t (l.drop k)=if (Em h t (l.getD k (0,0)).1).2=false then 10 else if Dx h (Em h t (l.getD k (0,0)).1).1 (f.getD (l.getD k (0,0)).2.toNat (0,[])).1=false then 11 else GK h f t (l.drop (k+1)):=by
 rw[KS (0,0) hk]
 rfl
def J0:Ah:={ ins:=[Ml,Gr],pre:=fun(h,f,_)=>Xu h∧Cq f∧L2 f,out:=fun(h,f,_)=>[.p Rb (Dp h f)] }
attribute [local go_sem] J0
theorem Ub:Ao Tryz.prog 15 J0:=by
 refine AW Tryz.func15 (by kernel_rfl) rfl Tryz.ntmps15 (by decide) (by kernel_rfl) (AF [(38,Nm),(26,KP),(39,SF)]) (AD j9 (AD fU (AD uU AI))) ?_
 rintro w0 O0 ⟨⟨ht,hf⟩,f,u⟩ hc-⟨hft,hs,hs2⟩
 have hft:Xu (ht,hf):=hft
 have hs:Cq f:=hs
 have hs2:L2 f:=hs2
 have hfl:=hs.1
 simp only[J0,AM]
 repeat'(first|exact trivial|refine eS rfl ?_|refine AB ?_|refine rX [0,1,2,3,4,5,7,9,10,11,16,19,20,21,22,26,27,28,29,42,53] hc ?_ ?_|refine rC ?_ ?_<;>intro AA<;>try(cases AA;done))
 ·exact⟨hs,hs2⟩
 ·have hr:Dp (ht,hf) f=CX (ht,hf) f:=if_neg AA
  exact AG hc [.tmp 4] rfl (.inl rfl) (by simp) (by rw[hr];first|exact eR|refine Av ?_)
 ·have hz:CX (ht,hf) f=0:=by simpa using AA
  have hr:Dp (ht,hf) f=Ep (ht,hf) f f:=if_pos hz
  obtain⟨cty,carc⟩:=oX hz
  refine AJ (ι:={i:Nat//i≤f.length∧Ep (ht,hf) f f=Ep (ht,hf) f (f.drop i)}) (fun i=>⟨[(2,.bp 2 [] 0),(3,.bp 3 [] 0),(19,.p HR f),(20,.p (.int .i64) (f.length:Int)),(21,.p (.int .i64) (i.1:Int))],[(2,.box 31 true [.p Tf ht,.p Vp hf]),(3,.box 25 true [.p HR f])]⟩) (fun i=>f.length-i.1) ⟨0,Nat.zero_le _,rfl⟩ (AC [(2,.nm 2),(3,.nm 3)] rfl rfl ?_ ?_) (fun i=>?_)
  ·first|exact eN|refine eM ?_
  ·first|exact eN|refine eM ?_
  ·obtain⟨i,hi,he⟩:=i
   have hst:=fun h:i<f.length=>L4 (ht,hf) f f h
   have hmm:=fun h:i<f.length=>AE f (0,[]) h
   simp only
   repeat'(first|exact trivial|refine eS rfl ?_|refine AB ?_|refine rX [0,1,2,3,4,5,7,9,10,11,16,19,20,21,22,26,27,28,29,42,53] hc ?_ ?_|refine rC ?_ ?_<;>intro AA<;>try(cases AA;done))
   ·exact AA
   ·have hif:i<f.length:=Int.ofNat_lt.1 AA
    have hst2:=hst hif
    have hm:=hmm hif
    obtain⟨t0,t1⟩:=cty _ hm
    have hca:=carc _ hm
    have hal:=hs.2 _ hm
    generalize hx:f.getD i (0,[])=x at *
    obtain⟨t,L⟩:=x
    simp only at hst2 t0 t1 hca hal ⊢
    refine AJ (ι:={k:Nat//k≤L.length∧GK (ht,hf) f t L=GK (ht,hf) f t (L.drop k)}) (fun k=>⟨[(2,.bp 2 [] 0),(3,.bp 3 [] 0),(7,.bp 7 [] 0),(19,.p HR f),(20,.p (.int .i64) (f.length:Int)),(21,.p (.int .i64) (i:Int)),(26,.p Iw L),(27,.p (.int .i64) (L.length:Int)),(28,.p (.int .i64) (k.1:Int))],[(7,.box 49 true [.p T3 t,.p Iw L]),(2,.box 31 true [.p Tf ht,.p Vp hf]),(3,.box 25 true [.p HR f])]⟩) (fun k=>L.length-k.1) ⟨0,Nat.zero_le _,rfl⟩ (AC [(7,.nm 7),(2,.nm 2),(3,.nm 3)] rfl rfl ?_ ?_) (fun k=>?_)
    ·first|exact eN|refine eM ?_
    ·first|exact eN|refine eM ?_
    ·obtain⟨k,hk,he2⟩:=k
     have hst3:=fun h:k<L.length=>Pr (ht,hf) f t L h
     have hmk:=fun h:k<L.length=>hca _ (AE L (0,0) h)
     simp only
     have hvr:=Nl (f:=(L.getD k (0,0)).1) hft t0 t1
     repeat'(first|exact trivial|refine eS rfl ?_|refine AB ?_|refine rX [0,1,2,3,4,5,7,9,10,11,16,19,20,21,22,26,27,28,29,42,53] hc ?_ ?_|refine rC ?_ ?_<;>intro AA<;>try(cases AA;done))
     ·exact AA
     ·exact⟨t0,t1⟩
     ·have hkl:k<L.length:=by exact eV
      rw[hst3 hkl,if_pos AA]at he2
      have hr2:Dp (ht,hf) f=10:=by rw[hr,he,hst2,if_neg (by rw[he2];simp),he2]
      exact AG hc [.tmp 4] rfl (.inl rfl) (by simp) (by rw[hr2];first|exact eR|refine Av ?_)
     ·have hkl:k<L.length:=by exact eV
      obtain⟨-,b0,b1⟩:=hmk hkl
      exact⟨⟨b0,b1⟩,hvr AA,cty _ (AE f (0,[]) (by omega))⟩
     ·have hkl:k<L.length:=by exact eV
      have hv2:(Em (ht,hf) t (List.getD L k (0,0)).1).2=true:=by assumption
      rw[hst3 hkl,if_neg (by rw[hv2];simp),if_pos AA]at he2
      have hr2:Dp (ht,hf) f=11:=by rw[hr,he,hst2,if_neg (by rw[he2];simp),he2]
      exact AG hc [.tmp 4] rfl (.inl rfl) (by simp) (by rw[hr2];first|exact eR|refine Av ?_)
     ·omega
     ·have hkl:k<L.length:=by exact eV
      have hv2:(Em (ht,hf) t (List.getD L k (0,0)).1).2=true:=by assumption
      rw[hst3 hkl,if_neg (by rw[hv2];simp),if_neg (by rw[AA];simp)]at he2
      refine⟨⟨k+1,hkl,he2⟩,by simp only;omega,AC [(7,.nm 7),(2,.nm 2),(3,.nm 3)] rfl rfl ?_ ?_⟩
      ·first|exact eN|refine eM ?_
      ·first|exact eN|refine eM ?_
     ·omega
     ·have hd:L.drop k=[]:=List.drop_eq_nil_of_le (Int.ofNat_le.1 AA)
      rw[hd]at he2
      have he2:GK (ht,hf) f t L=0:=he2
      rw[hst2,if_pos he2]at he
      refine⟨⟨i+1,hif,he⟩,by simp only;omega,AC [(2,.nm 2),(3,.nm 3)] rfl rfl ?_ ?_⟩
      ·first|exact eN|refine eM ?_
      ·first|exact eN|refine eM ?_
   ·have hd:f.drop i=[]:=List.drop_eq_nil_of_le (Int.ofNat_le.1 AA)
    rw[hd]at he
    have hr2:Dp (ht,hf) f=0:=by rw[hr,he];rfl
    exact AG hc [.tmp 4] rfl (.inl rfl) (by simp) (by rw[hr2];first|exact eR|refine Av ?_)
def oY:Ah:=KP
theorem oZ:Ao Tryz.prog 41 KP:=by
 refine AW Tryz.func41 (by kernel_rfl) rfl Tryz.ntmps41 (by decide) (by kernel_rfl) (AF []) AI ?_
 rintro w0 O0 ⟨⟨ht,hf⟩,t,f,u⟩ hc hw ⟨t0,t1⟩
 simp only[KP,AM]
 refine Ev.ent (σ':=⟨[(0,.p Ml (ht,hf)),(1,.p T3 t),(2,.p T3 f)],[]⟩) ?_ (AC [] rfl rfl ?_ ?_)
 ·repeat'(first|exact trivial|refine eS rfl ?_|refine AB ?_|refine rX [0,1,2,3,6,7,8,9,19,28] hc ?_ ?_|refine rC ?_ ?_<;>intro AA<;>try(cases AA;done))
  ·exact⟨t0,t1⟩
  ·have hfe:∀l,l=(List.getD ht (Int.toNat t) (ByteArray.empty,[],[],[])).2.2.2→Em (ht,hf) t f=H2 f l:=fun l e=>by rw[e];rfl
   have hlb:List.length (List.getD ht (Int.toNat t) (ByteArray.empty,[],[],[])).2.2.2≤140737488355328:=(hw.1.1.2 _ (AE (ht:List KK) Sn ((Int.toNat_lt t0).2 t1))).2.2.2.1
   generalize (List.getD ht (Int.toNat t) (ByteArray.empty,[],[],[])).2.2.2=l at *
   rw[hfe l rfl]
   refine AJ (ι:={k:Nat//k≤List.length l∧H2 f l=H2 f (l.drop k)}) (fun k=>⟨[(2,.p T3 f),(8,.p Wg l),(9,.p (.int .i64) (k.1:Int))],[]⟩) (fun k=>List.length l-k.1) ⟨0,Nat.zero_le _,rfl⟩ (AC [] rfl rfl ?_ ?_) (fun k=>?_)
   ·first|exact eN|refine eM ?_
   ·first|exact eN|refine eM ?_
   ·obtain⟨k,hk,he⟩:=k
    have hst:=fun h:k<List.length l=>SN f l h
    simp only
    repeat'(first|exact trivial|refine eS rfl ?_|refine AB ?_|refine rX [0,1,2,3,6,7,8,9,19,28] hc ?_ ?_|refine rC ?_ ?_<;>intro AA<;>try(cases AA;done))
    ·exact AA
    ·exact Int.ofNat_lt.2 (by exact eV)
    ·have hkl:k<List.length l:=by exact eV
     rw[hst hkl,if_pos AA]at he
     exact AG hc [.tmp 6,.tmp 7] rfl (.inl rfl) (by simp) (by rw[he];first|exact eR|refine Av ?_)
    ·omega
    ·have hkl:k<List.length l:=by exact eV
     rw[hst hkl,if_neg AA]at he
     refine⟨⟨k+1,hkl,he⟩,by simp only;omega,AC [] rfl rfl ?_ ?_⟩
     ·first|exact eN|refine eM ?_
     ·first|exact eN|refine eM ?_
    ·have hd:List.drop k (l:List (Int×Int))=[]:=List.drop_eq_nil_of_le (by exact eV)
     rw[hd]at he
     have he:H2 f l=(0,false):=he
     exact AG hc [.tmp 6,.tmp 7] rfl (.inl rfl) (by simp) (by rw[he];first|exact eR|refine Av ?_)
 ·first|exact eN|refine eM ?_
 ·first|exact eN|refine eM ?_
end
/- Functions of grammarlabref06: Subsumes; grammarlabref14: Check. -/
section
attribute [local go_sem] Lb oY KP IX
theorem o0 {h:AR} (hk:Ns h) {a b:Int} (a0:0≤a) (a1:a<(h.1.length:Int)) (b0:0≤b) (b1:b<(h.1.length:Int)):EZ (BT h b) (BT h a)=Dx h a b:=by
 have wa:=hk.1.wds _ (CG a0 a1)
 have wb:=hk.1.wds _ (CG b0 b1)
 rw[Bool.eq_iff_iff,Mh wb wa]
 exact(Cf hk a0 a1 b0 b1).symm
def Vi:Ah:={ ins:=[Ml,T3,T3],pre:=fun(h,a,b,_)=>(((0:Int)≤a∧a<(List.length (h:AR).1:Int))∧((0:Int)≤b∧b<(List.length (h:AR).1:Int)))∧Ns h,out:=fun(h,a,b,_)=>[.p .bool (Dx h a b)],lend:=true }
attribute [local go_sem] Vi
theorem o4:Ao Tryz.prog 42 Vi:=by
 refine AW Tryz.func42 (by kernel_rfl) rfl Tryz.ntmps42 (by decide) (by kernel_rfl) (AF [(71,IX)]) (AD OT AI) ?_
 rintro w0 O0 ⟨⟨ht,hf⟩,a,b,u⟩ hc-⟨⟨ha,hb⟩,hk⟩
 have hk:Ns (ht,hf):=hk
 have he:=o0 hk ha.1 ha.2 hb.1 hb.2
 have hw:(BT (ht,hf) b).length≤100000:=Nat.le_trans (hk.1.wid _ (CG hb.1 hb.2)) (by omega)
 simp only[Vi,AM]
 repeat'(first|exact trivial|refine eS rfl ?_|refine AB ?_|refine rX [0,1,2,3,6] hc ?_ ?_|refine rC ?_ ?_<;>intro AA<;>try(cases AA;done))
 ·exact⟨hb,ha,hw⟩
 ·exact AG hc [.tmp 6] rfl (.inl rfl) (by simp) (by rw[←he];unfold BT;first|exact eR|refine Av ?_)
def LE:Ah:={ ins:=[Ml,Gr],pre:=fun(h,f,_)=>Xu h∧Cq f∧Ns h,out:=fun(h,f,_)=>[.p Rb (Dp h f)] }
attribute [local go_sem] LE
theorem Zh:Ao Tryz.prog 16 LE:=by
 refine AW Tryz.func16 (by kernel_rfl) rfl Tryz.ntmps16 (by decide) (by kernel_rfl) (AF [(40,Lb),(41,oY),(42,Vi)]) (AD jF (AD oZ (AD o4 AI))) ?_
 rintro w0 O0 ⟨⟨ht,hf⟩,f,u⟩ hc-⟨hft,hs,hok⟩
 have hft:Xu (ht,hf):=hft
 have hs:Cq f:=hs
 have hok:Ns (ht,hf):=hok
 have hfl:=hs.1
 simp only[LE,AM]
 repeat'(first|exact trivial|refine eS rfl ?_|refine AB ?_|refine rX [0,1,2,3,4,5,6,7,8,9,10,15,21,33,53,67] hc ?_ ?_|refine rC ?_ ?_<;>intro AA<;>try(cases AA;done))
 ·exact hs
 ·have hr:Dp (ht,hf) f=CX (ht,hf) f:=if_neg AA
  exact AG hc [.tmp 4] rfl (.inl rfl) (by simp) (by rw[hr];first|exact eR|refine Av ?_)
 ·have hz:CX (ht,hf) f=0:=by simpa using AA
  have hr:Dp (ht,hf) f=Ep (ht,hf) f f:=if_pos hz
  obtain⟨cty,carc⟩:=oX hz
  refine AJ (ι:={i:Nat//i≤f.length∧Ep (ht,hf) f f=Ep (ht,hf) f (f.drop i)}) (fun i=>⟨[(2,.bp 2 [] 0),(3,.bp 3 [] 0),(6,.p (.int .i64) (i.1:Int))],[(2,.box 31 true [.p Tf ht,.p Vp hf]),(3,.box 25 true [.p HR f])]⟩) (fun i=>f.length-i.1) ⟨0,Nat.zero_le _,rfl⟩ (AC [(2,.nm 2),(3,.nm 3)] rfl rfl ?_ ?_) (fun i=>?_)
  ·first|exact eN|refine eM ?_
  ·first|exact eN|refine eM ?_
  ·obtain⟨i,hi,he⟩:=i
   have hst:=fun h:i<f.length=>L4 (ht,hf) f f h
   have hmm:=fun h:i<f.length=>AE f (0,[]) h
   simp only
   repeat'(first|exact trivial|refine eS rfl ?_|refine AB ?_|refine rX [0,1,2,3,4,5,6,7,8,9,10,15,21,33,53,67] hc ?_ ?_|refine rC ?_ ?_<;>intro AA<;>try(cases AA;done))
   ·exact AA
   ·have hif:i<f.length:=Int.ofNat_lt.1 AA
    have hst2:=hst hif
    have hm:=hmm hif
    obtain⟨t0,t1⟩:=cty _ hm
    have hca:=carc _ hm
    have hal:=hs.2 _ hm
    generalize hx:(f.getD i (0,[])).2=L at *
    refine AJ (ι:={k:Nat//k≤L.length∧GK (ht,hf) f (f.getD i (0,[])).1 L=GK (ht,hf) f (f.getD i (0,[])).1 (L.drop k)}) (fun k=>⟨[(2,.bp 2 [] 0),(3,.bp 3 [] 0),(6,.p (.int .i64) (i:Int)),(7,.p Iw L),(8,.p (.int .i64) (k.1:Int))],[(2,.box 31 true [.p Tf ht,.p Vp hf]),(3,.box 25 true [.p HR f])]⟩) (fun k=>L.length-k.1) ⟨0,Nat.zero_le _,rfl⟩ (AC [(2,.nm 2),(3,.nm 3)] rfl rfl ?_ ?_) (fun k=>?_)
    ·first|exact eN|refine eM ?_
    ·first|exact eN|refine eM ?_
    ·obtain⟨k,hk,he2⟩:=k
     have hst3:=fun h:k<L.length=>Pr (ht,hf) f (f.getD i (0,[])).1 L h
     have hmk:=fun h:k<L.length=>hca _ (AE L (0,0) h)
     simp only
     have hvr:=Nl (f:=(L.getD k (0,0)).1) hft t0 t1
     repeat'(first|exact trivial|refine eS rfl ?_|refine AB ?_|refine rX [0,1,2,3,4,5,6,7,8,9,10,15,21,33,53,67] hc ?_ ?_|refine rC ?_ ?_<;>intro AA<;>try(cases AA;done))
     ·exact⟨by assumption,AA,t0,t1⟩
     ·have hkl:k<L.length:=by exact eV
      rw[hst3 hkl,if_pos AA]at he2
      have hr2:Dp (ht,hf) f=10:=by rw[hr,he,hst2,if_neg (by rw[he2];simp),he2]
      exact AG hc [.tmp 4] rfl (.inl rfl) (by simp) (by rw[hr2];first|exact eR|refine Av ?_)
     ·have hkl:k<L.length:=by exact eV
      obtain⟨-,b0,b1⟩:=hmk hkl
      exact⟨by assumption,⟨b0,b1⟩,⟨hvr AA,cty _ (AE f (0,[]) (by omega))⟩,hok⟩
     ·have hkl:k<L.length:=by exact eV
      have hv2:(Em (ht,hf) (List.getD f i (0,[])).1 (List.getD L k (0,0)).1).2=true:=by assumption
      rw[hst3 hkl,if_neg (by rw[hv2];simp),if_pos AA]at he2
      have hr2:Dp (ht,hf) f=11:=by rw[hr,he,hst2,if_neg (by rw[he2];simp),he2]
      exact AG hc [.tmp 4] rfl (.inl rfl) (by simp) (by rw[hr2];first|exact eR|refine Av ?_)
     ·omega
     ·have hkl:k<L.length:=by exact eV
      have hv2:(Em (ht,hf) (List.getD f i (0,[])).1 (List.getD L k (0,0)).1).2=true:=by assumption
      rw[hst3 hkl,if_neg (by rw[hv2];simp),if_neg (by rw[AA];simp)]at he2
      refine⟨⟨k+1,hkl,he2⟩,by simp only;omega,AC [(2,.nm 2),(3,.nm 3)] rfl rfl ?_ ?_⟩
      ·first|exact eN|refine eM ?_
      ·first|exact eN|refine eM ?_
     ·omega
     ·have hd:L.drop k=[]:=List.drop_eq_nil_of_le (Int.ofNat_le.1 AA)
      rw[hd]at he2
      have he2:GK (ht,hf) f (f.getD i (0,[])).1 L=0:=he2
      rw[hst2,if_pos he2]at he
      refine⟨⟨i+1,hif,he⟩,by simp only;omega,AC [(2,.nm 2),(3,.nm 3)] rfl rfl ?_ ?_⟩
      ·first|exact eN|refine eM ?_
      ·first|exact eN|refine eM ?_
   ·have hd:f.drop i=[]:=List.drop_eq_nil_of_le (Int.ofNat_le.1 AA)
    rw[hd]at he
    have hr2:Dp (ht,hf) f=0:=by rw[hr,he];rfl
    exact AG hc [.tmp 4] rfl (.inl rfl) (by simp) (by rw[hr2];first|exact eR|refine Av ?_)
end
/- Functions of typed: examine; slices.Clone of nodes. -/
section
attribute [local go_sem] KP
theorem Zi (h:AR) (hk:Ns h) (hi:Ol h) (hf:Xu h) (hfl:h.2.length≤100000) (f:List AN) (hg:El f) (ha:SZ h f) (s:IC) (hs:YL h f.length s) {n:Int} (n0:0≤n) (n1:n<(f.length:Int)) (hw:Vh h s.1+s.2.length≤1000000000) :
  BO Tryz.prog 43 [.bp 1 [] 0,.p Gr f,.p T3 n] (Dn h s) [1]
  (fun res objs'=>(Pq h f n s=none∧res=.p .bool false∧∃s',objs'=Dn h s')∨∃s',Pq h f n s=some s'∧res=.p .bool true∧objs'=Dn h s'):=by
 have hL:=Sa ha n0 n1
 have hll:(f.getD n.toNat (0,[])).2.length≤100000:=(hg.2 _ (AE f (0,[]) (by omega))).1
 have hex:Pq h f n s=(SX h n (f.getD n.toNat (0,[])).2 s).bind (S4 h n (f.getD n.toNat (0,[])).2):=rfl
 rw[hex]
 refine BL Tryz.func43 (by kernel_rfl) rfl Tryz.ntmps43 (by simp only[List.length_cons,List.length_nil];omega) (by kernel_rfl) rfl rfl (AF [(26,KP)]) (AD fU AI) ?_
 intro w0 K O0 ρ0 hc hok1 hok2
 simp only[Dn,Al]
 repeat'(first|exact trivial|refine eS rfl ?_|refine AB ?_|refine rX [0,1,2,4,6,8,10,11,12,18,19,20,21,37,44,45,46,47,76] hc ?_ ?_|refine rC ?_ ?_<;>intro AA<;>try(cases AA;done))
 ·exact⟨n0,n1⟩
 ·have hfx:f.getD n.toNat (0,[])=f.getD n.toNat (0,[]):=rfl
  generalize hLL:(f.getD n.toNat (0,[])).2=L at *
  refine AJ (ι:={x:Nat×IC//x.1≤L.length∧YL h f.length x.2∧Vh h x.2.1+x.2.2.length≤1000000000∧SX h n L s=SX h n (L.drop x.1) x.2}) (fun x=>⟨[(0,.bp 1 [] 0),(2,.p T3 n),(4,.bp 4 [] 0),(18,.p Iw L),(19,.p (.int .i64) (L.length:Int)),(20,.p (.int .i64) (x.1.1:Int))],[(4,.box 25 true [.p HR f]),(1,.box 74 true [.p Ml h,.sr 2 T3 0 x.1.2.1.length,.p Jj x.1.2.2]),(2,.arr 3 T3 x.1.2.1)]⟩) (fun x=>L.length-x.1.1) ⟨(0,s),Nat.zero_le _,hs,hw,rfl⟩ (AC [(4,.nm 4),(1,.nm 1),(2,.nm 2)] rfl rfl ?_ ?_) (fun x=>?_)
  ·first|exact eN|refine eM ?_
  ·first|exact eN|refine eM ?_
  ·obtain⟨⟨k,s1⟩,hkk,hs1,hp1,he1⟩:=x
   simp only at hkk hs1 hp1 he1 ⊢
   repeat'(first|exact trivial|refine eS rfl ?_|refine AB ?_|refine rX [0,1,2,4,6,8,10,11,12,18,19,20,21,37,44,45,46,47,76] hc ?_ ?_|refine rC ?_ ?_<;>intro AA<;>try(cases AA;done))
   ·exact AA
   ·have hkl:k<L.length:=Int.ofNat_lt.1 AA
    have hst:SX h n (L.drop k) s1=(Ef h s1 n (UV h (L.getD k (0,0)).1)).bind (SX h n (L.drop (k+1))):=by rw[KS (0,0) hkl];rfl
    obtain⟨⟨a0,a1⟩,b0,b1⟩:=hL _ (AE L (0,0) hkl)
    obtain⟨i0,i1⟩:=Xv hf a0 a1
    obtain⟨g0,g1⟩:=hs1.get n0 n1
    refine cD 12 hc ?_ ?_
    ·exact⟨a0,a1⟩
    ·refine rM hc (Xb h hk s1 n0 (by rw[hs1.len];exact n1) g0 g1 i0 i1 (by omega)) [(1,.nm 1),(2,.nm 2)] [2] ?_ ?_ ?_
     ·first|exact eN|refine eM ?_
      rfl
     ·simp only[Dn]
      first|exact eN|refine eM ?_
     ·rintro res objs' (⟨e1,rfl,rfl⟩|⟨s2,e1,rfl,rfl⟩)
      ·refine⟨[(1,.nm 1),(2,.nm 2)],.p .bool false,Dn h s1,rfl,rfl,?_,?_,rfl,rfl,?_⟩
       ·simp only[Dn]
        first|exact eN|refine eM ?_
       ·first|exact eN|refine eM ?_
       ·simp only[Dn]
        refine rL [0,1,2,4,6,8,10,11,12,18,19,20,21,37,44,45,46,47,76] hc ?_ ?_
        ·trivial
        ·repeat'(first|exact trivial|refine eS rfl ?_|refine AB ?_|refine rX [0,1,2,4,6,8,10,11,12,18,19,20,21,37,44,45,46,47,76] hc ?_ ?_|refine rC ?_ ?_<;>intro AA<;>try(cases AA;done))
         refine Ev.ent (σ':=⟨[(6,.p .bool false)],Dn h s1⟩) ?_ (AC [(1,.nm 1),(2,.nm 2)] rfl rfl ?_ ?_)
         ·exact AU hc [.tmp 6] rfl (.inl rfl) (.p .bool false) eT (.inl ⟨by rw[he1,hst,e1];rfl,rfl,s1,rfl⟩)
         ·unfold Dn
          first|exact eN|refine eM ?_
         ·first|exact eN|refine eM ?_
      ·refine⟨[(1,.nm 1),(2,.nm 2)],.p .bool true,Dn h s2,rfl,rfl,?_,?_,rfl,rfl,?_⟩
       ·simp only[Dn]
        first|exact eN|refine eM ?_
       ·first|exact eN|refine eM ?_
       ·simp only[Dn]
        refine rL [0,1,2,4,6,8,10,11,12,18,19,20,21,37,44,45,46,47,76] hc ?_ ?_
        ·trivial
        ·obtain⟨j1,j2,j3⟩:=Lf hk hi hs1 n0 n1 i0 i1 e1
         repeat'(first|exact trivial|refine eS rfl ?_|refine AB ?_|refine rX [0,1,2,4,6,8,10,11,12,18,19,20,21,37,44,45,46,47,76] hc ?_ ?_|refine rC ?_ ?_<;>intro AA<;>try(cases AA;done))
         ·omega
         ·refine⟨⟨(k+1,s2),hkl,j1,Nat.le_trans j2 hp1,by rw[he1,hst,e1];rfl⟩,by simp only;omega,AC [(4,.nm 4),(1,.nm 1),(2,.nm 2)] rfl rfl ?_ ?_⟩
          ·first|exact eN|refine eM ?_
          ·first|exact eN|refine eM ?_
   ·exact⟨n0,n1⟩
   ·have hd:L.drop k=[]:=List.drop_eq_nil_of_le (Int.ofNat_le.1 AA)
    rw[hd]at he1
    have he1:SX h n L s=some s1:=he1
    rw[he1]
    have hLL2:(List.getD f n.toNat (0,[])).2=L:=hLL
    rw[hLL2]
    refine AJ (ι:={x:Nat×IC//x.1≤L.length∧YL h f.length x.2∧Vh h x.2.1+x.2.2.length≤1000000000∧(some s1).bind (S4 h n L)=S4 h n (L.drop x.1) x.2}) (fun x=>⟨[(0,.bp 1 [] 0),(2,.p T3 n),(44,.p Iw L),(45,.p (.int .i64) (L.length:Int)),(46,.p (.int .i64) (x.1.1:Int))],[(1,.box 74 true [.p Ml h,.sr 2 T3 0 x.1.2.1.length,.p Jj x.1.2.2]),(2,.arr 3 T3 x.1.2.1)]⟩) (fun x=>L.length-x.1.1) ⟨(0,s1),Nat.zero_le _,hs1,hp1,rfl⟩ (AC [(1,.nm 1),(2,.nm 2)] rfl rfl ?_ ?_) (fun x=>?_)
    ·first|exact eN|refine eM ?_
    ·first|exact eN|refine eM ?_
    ·obtain⟨⟨j,s2⟩,hjj,hs2,hp2,he2⟩:=x
     simp only at hjj hs2 hp2 he2 ⊢
     obtain⟨g0,g1⟩:=hs2.get n0 n1
     repeat'(first|exact trivial|refine eS rfl ?_|refine AB ?_|refine rX [0,1,2,4,6,8,10,11,12,18,19,20,21,37,44,45,46,47,76] hc ?_ ?_|refine rC ?_ ?_<;>intro AA<;>try(cases AA;done))
     ·exact AA
     ·exact⟨⟨n0,by rw[hs2.len];exact n1⟩,g0,g1⟩
     ·have hkl:j<L.length:=Int.ofNat_lt.1 AA
      have hst:S4 h n (L.drop j) s2=if (Em h (s2.1.getD n.toNat 0) (L.getD j (0,0)).1).2=true then (Ef h s2 (L.getD j (0,0)).2 (Em h (s2.1.getD n.toNat 0) (L.getD j (0,0)).1).1).bind (S4 h n (L.drop (j+1))) else none:=by rw[KS (0,0) hkl];rfl
      obtain⟨-,b0,b1⟩:=hL _ (AE L (0,0) hkl)
      have hvr:=fun e=>Nl (f:=(L.getD j (0,0)).1) hf g0 g1 e
      generalize Em h (s2.1.getD n.toNat 0) (L.getD j (0,0)).1=v at *
      obtain⟨t,ok⟩:=v
      refine evP hc 3 ?_ ?_
      ·trivial
      ·cases ok with
       | false =>
        rw[if_neg (by simp)]at hst
        refine rL [0,1,2,4,6,8,10,11,12,18,19,20,21,37,44,45,46,47,76] hc ?_ ?_
        ·trivial
        ·repeat'(first|exact trivial|refine eS rfl ?_|refine AB ?_|refine rX [0,1,2,4,6,8,10,11,12,18,19,20,21,37,44,45,46,47,76] hc ?_ ?_|refine rC ?_ ?_<;>intro AA<;>try(cases AA;done))
         refine Ev.ent (σ':=⟨[(6,.p .bool false)],Dn h s2⟩) ?_ (AC [(1,.nm 1),(2,.nm 2)] rfl rfl ?_ ?_)
         ·exact AU hc [.tmp 6] rfl (.inl rfl) (.p .bool false) eT (.inl ⟨by rw[he2,hst],rfl,s2,rfl⟩)
         ·unfold Dn
          first|exact eN|refine eM ?_
         ·first|exact eN|refine eM ?_
       | true =>
        rw[if_pos rfl]at hst
        obtain⟨i0,i1⟩:=hvr rfl
        simp only at i0 i1 hst
        obtain⟨q0,q1⟩:=hs2.get b0 b1
        refine rN 4 hc ?_ ?_
        ·trivial
        ·refine clG hc (Xb h hk s2 b0 (by rw[hs2.len];exact b1) q0 q1 i0 i1 (by omega)) [(1,.nm 1),(2,.nm 2)] [2] ?_ ?_ ?_
         ·first|exact eN|refine eM ?_
         ·simp only[Dn]
          first|exact eN|refine eM ?_
         ·rintro res objs' (⟨e1,rfl,rfl⟩|⟨s3,e1,rfl,rfl⟩)
          ·refine⟨[(1,.nm 1),(2,.nm 2)],.p .bool false,Dn h s2,rfl,rfl,?_,?_,rfl,rfl,?_⟩
           ·simp only[Dn]
            first|exact eN|refine eM ?_
           ·first|exact eN|refine eM ?_
           ·simp only[Dn]
            refine rL [0,1,2,4,6,8,10,11,12,18,19,20,21,37,44,45,46,47,76] hc ?_ ?_
            ·trivial
            ·repeat'(first|exact trivial|refine eS rfl ?_|refine AB ?_|refine rX [0,1,2,4,6,8,10,11,12,18,19,20,21,37,44,45,46,47,76] hc ?_ ?_|refine rC ?_ ?_<;>intro AA<;>try(cases AA;done))
             refine Ev.ent (σ':=⟨[(6,.p .bool false)],Dn h s2⟩) ?_ (AC [(1,.nm 1),(2,.nm 2)] rfl rfl ?_ ?_)
             ·exact AU hc [.tmp 6] rfl (.inl rfl) (.p .bool false) eT (.inl ⟨by rw[he2,hst,e1];rfl,rfl,s2,rfl⟩)
             ·unfold Dn
              first|exact eN|refine eM ?_
             ·first|exact eN|refine eM ?_
          ·refine⟨[(1,.nm 1),(2,.nm 2)],.p .bool true,Dn h s3,rfl,rfl,?_,?_,rfl,rfl,?_⟩
           ·simp only[Dn]
            first|exact eN|refine eM ?_
           ·first|exact eN|refine eM ?_
           ·simp only[Dn]
            refine rL [0,1,2,4,6,8,10,11,12,18,19,20,21,37,44,45,46,47,76] hc ?_ ?_
            ·trivial
            ·obtain⟨j1,j2,j3⟩:=Lf hk hi hs2 b0 b1 i0 i1 e1
             repeat'(first|exact trivial|refine eS rfl ?_|refine AB ?_|refine rX [0,1,2,4,6,8,10,11,12,18,19,20,21,37,44,45,46,47,76] hc ?_ ?_|refine rC ?_ ?_<;>intro AA<;>try(cases AA;done))
             ·omega
             ·refine⟨⟨(j+1,s3),hkl,j1,Nat.le_trans j2 hp2,by rw[he2,hst,e1];rfl⟩,by simp only;omega,AC [(1,.nm 1),(2,.nm 2)] rfl rfl ?_ ?_⟩
              ·first|exact eN|refine eM ?_
              ·first|exact eN|refine eM ?_
     ·have hd:L.drop j=[]:=List.drop_eq_nil_of_le (Int.ofNat_le.1 AA)
      rw[hd]at he2
      have he2:(some s1).bind (S4 h n L)=some s2:=he2
      refine Ev.ent (σ':=⟨[(6,.p .bool true)],Dn h s2⟩) ?_ (AC [(1,.nm 1),(2,.nm 2)] rfl rfl ?_ ?_)
      ·exact AU hc [.tmp 6] rfl (.inl rfl) (.p .bool true) eT (.inr ⟨s2,he2,rfl,rfl⟩)
      ·unfold Dn
       first|exact eN|refine eM ?_
      ·first|exact eN|refine eM ?_
end
/- Functions of typed: Infer; slices.Clone of nodes. -/
section
def Qk:Ah:={ ins:=[HR],pre:=fun(l,_)=>List.length l≤100000,out:=fun(l,_)=>[.own 49 Rc l] }
attribute [local go_sem] Qk
theorem kA:Ao Tryz.prog 44 Qk:=by
 refine AW Tryz.func44 (by kernel_rfl) rfl Tryz.ntmps44 (by decide) (by kernel_rfl) (AF []) AI ?_
 rintro w0 O0 ⟨l,u⟩ hc-hl
 have hl:List.length l≤100000:=hl
 simp only[Qk,AM]
 repeat'(first|exact trivial|refine eS rfl ?_|refine AB ?_|refine rX [0,2,4] hc ?_ ?_|refine rC ?_ ?_<;>intro AA<;>try(cases AA;done))
 refine cP 1 hc ?_ ?_
 ·trivial
 ·refine Tg hc false rfl rfl ?_
  intro b hb
  refine rL [0,4] hc ?_ ?_
  ·trivial
  ·repeat'(first|exact trivial|refine eS rfl ?_|refine AB ?_|refine rX [0,2,4] hc ?_ ?_|refine rC ?_ ?_<;>intro AA<;>try(cases AA;done))
   ·have hl0:l=[]:=hb AA
    subst hl0
    refine Ev.ent (σ':=⟨[(2,.sr 5 Rc 0 0)],[(5,.arr 49 Rc [])]⟩) ?_ (AC [(5,.nil)] rfl rfl ?_ ?_)
    ·exact Hh hc (.inl rfl) (rv:=.tmp 2) rfl (by simp only[IM,Hf,GX,go_sem,Nat.reduceEqDiff,reduceCtorEq,Nat.reduceAdd,Nat.reduceSub,Nat.reduceMul,Nat.reduceLeDiff,Nat.reduceLT,Int.reduceLE,Int.reduceToNat,Int.reduceNeg,↓reduceIte])
    ·first|exact eN|refine eM ?_
    ·first|exact eN|refine eM ?_
   ·simp only[AO];omega
   ·exact Hh hc (.inl rfl) (rv:=.tmp 2) rfl (by simp only[IM,Hf,GX,go_sem,Nat.reduceEqDiff,reduceCtorEq,Nat.reduceAdd,Nat.reduceSub,Nat.reduceMul,Nat.reduceLeDiff,Nat.reduceLT,Int.reduceLE,Int.reduceToNat,Int.reduceNeg,↓reduceIte])
structure o5 (h:AR) (f:List AN):Prop where
 ok:Ns h
 inj:Ol h
 ft:Xu h
 fl:h.2.length≤100000
 good:El f
 arcs:SZ h f
 ty:∀x∈f,0≤x.1∧x.1<(h.1.length:Int)
def Ot:Ah:={ ins:=[Ml,Gr],pre:=fun(h,f,_)=>o5 h f,out:=fun(h,f,_)=>[.p Gr (CP h f).1,.p .bool (CP h f).2] }
theorem Uc (f:List AN) (ty:List Int):(SY f ty).length=f.length:=by simp[SY]
theorem kB (f:List AN) (ty:List Int) {i:Nat} (h:i<f.length):(SY f ty).getD i (0,[])=(ty.getD i 0,(f.getD i (0,[])).2):=by
 unfold SY
 simp[List.getD_eq_getElem?_getD,h]
theorem kC {α:Type} (F f:List α) (d:α) (hl:F.length=f.length) {j:Nat} (h:j<f.length):(F.take j++f.drop j).set j (F.getD j d)=F.take (j+1)++f.drop (j+1)∧(F.take j++f.drop j).getD j d=f.getD j d:=by
 have h1:(F.take j).length=j:=by rw[List.length_take];omega
 have h2:f.drop j=f.getD j d :: f.drop (j+1):=by
  rw[List.drop_eq_getElem_cons h,List.getD_eq_getElem?_getD,List.getElem?_eq_getElem h];rfl
 constructor
 ·rw[Au F d (by omega),List.set_append_right _ _ (by omega),h1,Nat.sub_self,h2]
  simp
 ·rw[List.getD_eq_getElem?_getD,List.getElem?_append_right (by omega),h1,Nat.sub_self,h2];rfl
theorem Xy:Ao Tryz.prog 18 Ot:=by
 refine AW Tryz.func18 (by kernel_rfl) rfl Tryz.ntmps18 (by decide) (by kernel_rfl) (AF [(44,Qk)]) (AD kA AI) ?_
 rintro w0 O0 ⟨⟨ht,hf⟩,f,u⟩ hc-hp
 have hp:o5 (ht,hf) f:=hp
 have hP0:=xO (ht,hf) f
 have hfl:=hp.good.1
 have hfu:Sb (ht,hf) f≤30000000:=by
  have h1:ht.length≤256:=hp.ok.2
  have h2:f.length*ht.length≤100000*256:=Nat.mul_le_mul hfl h1
  have h3:f.length*(ht,hf).1.length≤100000*256:=h2
  unfold Sb
  omega
 have hs0:=wJ hp.ty
 simp only[Ot,AM]
 repeat'(first|exact trivial|refine eS rfl ?_|refine AB ?_|refine rX [0,1,2,3,4,5,6,7,8,9,10,11,16,17,18,19,51,64,72,73,74] hc ?_ ?_|refine rC ?_ ?_<;>intro AA<;>try(cases AA;done))
 refine AJ (ι:={i:Nat//i≤f.length}) (fun i=>⟨[(3,.bp 3 [] 0),(4,.bp 4 [] 0),(6,.bp 14 [] 0),(16,.p HR f),(17,.p (.int .i64) (f.length:Int)),(18,.p (.int .i64) (i.1:Int))],[(3,.box 25 true [.p HR f]),(4,.box 25 true [.raw (.slice none 0 0)]),(14,.box 74 true [.p Ml (ht,hf),.sr 31 T3 0 i.1,.sr 41 T3 0 i.1]),(31,.arr 3 T3 ((DI f).take i.1)),(41,.arr 3 T3 ((Eo f).take i.1))]⟩) (fun i=>f.length-i.1) ⟨0,Nat.zero_le _⟩ (AC [(3,.nm 3),(4,.nm 4),(14,.nm 14),(31,.nil),(41,.nil)] rfl rfl ?_ ?_) (fun i=>?_)
 ·first|exact eN|refine eM ?_
 ·first|exact eN|refine eM ?_
 ·obtain⟨i,hi⟩:=i
  have tl:((DI f).take i).length=i:=by rw[List.length_take];simp[DI];omega
  have wl:((Eo f).take i).length=i:=by rw[List.length_take];simp[Eo];omega
  have ts:i<f.length→(DI f).take i++[(f.getD i (0,[])).1]=(DI f).take (i+1):=fun h=>by
   rw[Au (DI f) 0 (by simpa[DI] using h)]
   simp[DI,List.getD_eq_getElem?_getD,h]
  have ws:i<f.length→(Eo f).take i++[(i:Int)]=(Eo f).take (i+1):=fun h=>by
   rw[Au (Eo f) 0 (by simpa[Eo] using h)]
   simp[Eo,List.getD_eq_getElem?_getD,h]
  repeat'(first|exact trivial|refine eS rfl ?_|refine AB ?_|refine rX [0,1,2,3,4,5,6,7,8,9,10,11,16,17,18,19,51,64,72,73,74] hc ?_ ?_|refine rC ?_ ?_<;>intro AA<;>try(cases AA;done))
  ·exact AA
  ·have hi2:i<f.length:=Int.ofNat_lt.1 AA
   have ts2:=ts hi2
   have ws2:=ws hi2
   refine Cp drawsAny hc 9 [([1,2,3,4,5,6,7],8)] [0] (by kernel_rfl) (RW ?_ ?_)
   ·trivial
   ·refine Sx hc [31] ?_ ?_
    ·simp only[AO];omega
    ·refine Sm [0,1,2,3,4,5,6,7,8,9,10,11,16,17,18,19,51,64,72,73,74] hc ?_ ?_ ?_
     ·trivial
     ·trivial
     ·repeat'(first|exact trivial|refine eS rfl ?_|refine AB ?_|refine rX [0,1,2,3,4,5,6,7,8,9,10,11,16,17,18,19,51,64,72,73,74] hc ?_ ?_|refine rC ?_ ?_<;>intro AA<;>try(cases AA;done))
      ·simp only[AO];omega
      ·omega
      ·refine⟨⟨i+1,hi2⟩,by simp only;omega,AC [(3,.nm 3),(4,.nm 4),(14,.nm 14),(31,.nm 31),(41,.nm 41)] rfl rfl ?_ ?_⟩
       ·simp only[←ts2,←ws2]
        first|exact eN|refine eM ?_
        simp only[List.take_take,Nat.min_self,and_self]
       ·first|exact eN|refine eM ?_
  ·have hi2:i=f.length:=by
    have:=Int.ofNat_le.1 AA
    omega
   subst hi2
   have et:(DI f).take f.length=DI f:=List.take_of_length_le (by simp[DI])
   have ew:(Eo f).take f.length=Eo f:=List.take_of_length_le (by simp[Eo])
   have tl2:(DI f).length=f.length:=by simp[DI]
   have wl2:(Eo f).length=f.length:=by simp[Eo]
   rw[et,ew]
   have ew2:(Eo f).take f.length=Eo f:=ew
   refine HQ [41] ?_
   rw[ew2]
   refine AJ (ι:={x:Nat×IC//YL (ht,hf) f.length x.2∧Vh (ht,hf) x.2.1+x.2.2.length+1≤Sb (ht,hf) f∧x.1≤x.2.2.length∧∃k,Vh (ht,hf) x.2.1+x.2.2.length+1≤k+x.1∧wI (ht,hf) f k x.1 x.2=Zg (ht,hf) f}) (fun x=>⟨[(3,.bp 3 [] 0),(4,.bp 4 [] 0),(6,.bp 14 [] 0),(9,.p (.int .i64) (x.1.1:Int))],[(3,.box 25 true [.p HR f]),(4,.box 25 true [.raw (.slice none 0 0)]),(14,.box 74 true [.p Ml (ht,hf),.sr 31 T3 0 x.1.2.1.length,.p Jj x.1.2.2]),(31,.arr 3 T3 x.1.2.1)]⟩) (fun x=>Vh (ht,hf) x.1.2.1+x.1.2.2.length-x.1.1) ⟨(0,DI f,Eo f),hs0,hP0,Nat.zero_le _,Sb (ht,hf) f,by simp only;omega,rfl⟩ (AC [(3,.nm 3),(4,.nm 4),(14,.nm 14),(31,.nm 31)] rfl rfl ?_ ?_) (fun x=>?_)
   ·simp only[tl2]
    first|exact eN|refine eM ?_
   ·first|exact eN|refine eM ?_
   ·obtain⟨⟨i,s⟩,hs,hq,hi,k,hk,hwl⟩:=x
    simp only at hs hq hi hk hwl ⊢
    repeat'(first|exact trivial|refine eS rfl ?_|refine AB ?_|refine rX [0,1,2,3,4,5,6,7,8,9,10,11,16,17,18,19,51,64,72,73,74] hc ?_ ?_|refine rC ?_ ?_<;>intro AA<;>try(cases AA;done))
    ·have hil:i<s.2.length:=Int.ofNat_lt.1 AA
     obtain⟨w0',w1'⟩:=hs.wt _ (AE s.2 (0:Int) hil)
     obtain⟨k,rfl⟩:∃k',k=k'+1:=⟨k-1,by omega⟩
     have hst:wI (ht,hf) f (k+1) i s=(Pq (ht,hf) f (s.2.getD i 0) s).bind (wI (ht,hf) f k (i+1)):=if_pos hil
     rw[hst]at hwl
     refine cD 9 hc ?_ ?_
     ·exact AA
     ·refine rM hc (Zi (ht,hf) hp.ok hp.inj hp.ft hp.fl f hp.good hp.arcs s hs w0' w1' (by omega)) [(1,.nm 14),(2,.nm 31)] [31] ?_ ?_ ?_
      ·first|exact eN|refine eM ?_
      ·simp only[Dn]
       first|exact eN|refine eM ?_
      ·rintro res objs' (⟨e1,rfl,s',rfl⟩|⟨s',e1,rfl,rfl⟩)
       ·refine⟨[(14,.nm 1),(31,.nm 2)],.p .bool false,[(14,.box 74 true [.p Ml (ht,hf),.sr 31 T3 0 s'.1.length,.p Jj s'.2]),(31,.arr 3 T3 s'.1)],rfl,rfl,?_,?_,rfl,rfl,?_⟩
        ·simp only[Dn]
         first|exact eN|refine eM ?_
        ·first|exact eN|refine eM ?_
        ·refine rL [0,1,2,3,4,5,6,7,8,9,10,11,16,17,18,19,51,64,72,73,74] hc ?_ ?_
         ·trivial
         ·repeat'(first|exact trivial|refine eS rfl ?_|refine AB ?_|refine rX [0,1,2,3,4,5,6,7,8,9,10,11,16,17,18,19,51,64,72,73,74] hc ?_ ?_|refine rC ?_ ?_<;>intro AA<;>try(cases AA;done))
          have hr:CP (ht,hf) f=([],false):=by unfold CP;rw[←hwl,e1];rfl
          exact AG hc [.cell 4 25,.tmp 5] rfl (.inl rfl) (by simp) (by rw[hr];first|exact eR|refine Av ?_)
       ·obtain⟨j1,j2,j3⟩:=Xw hp.ok hp.inj hp.ft hp.arcs w0' w1' hs e1
        rw[e1]at hwl
        refine⟨[(14,.nm 1),(31,.nm 2)],.p .bool true,[(14,.box 74 true [.p Ml (ht,hf),.sr 31 T3 0 s'.1.length,.p Jj s'.2]),(31,.arr 3 T3 s'.1)],rfl,rfl,?_,?_,rfl,rfl,?_⟩
        ·simp only[Dn]
         first|exact eN|refine eM ?_
        ·first|exact eN|refine eM ?_
        ·refine rL [0,1,2,3,4,5,6,7,8,9,10,11,16,17,18,19,51,64,72,73,74] hc ?_ ?_
         ·trivial
         ·repeat'(first|exact trivial|refine eS rfl ?_|refine AB ?_|refine rX [0,1,2,3,4,5,6,7,8,9,10,11,16,17,18,19,51,64,72,73,74] hc ?_ ?_|refine rC ?_ ?_<;>intro AA<;>try(cases AA;done))
          ·omega
          ·refine⟨⟨(i+1,s'),j1,by simp only;omega,by simp only;omega,k,by simp only;omega,hwl⟩,by simp only;omega,AC [(3,.nm 3),(4,.nm 4),(14,.nm 14),(31,.nm 31)] rfl rfl ?_ ?_⟩
           ·first|exact eN|refine eM ?_
           ·first|exact eN|refine eM ?_
    ·exact hfl
    ·have hil:¬i<s.2.length:=fun h=>by
      have:=Int.ofNat_le.1 AA
      omega
     obtain⟨k,rfl⟩:∃k',k=k'+1:=⟨k-1,by omega⟩
     have hst:wI (ht,hf) f (k+1) i s=some s.1:=if_neg hil
     have hr:CP (ht,hf) f=(SY f s.1,true):=by unfold CP;rw[←hwl,hst]
     have hsl:=Uc f s.1
     have hsg:=fun i h=>kB f s.1 (i:=i) h
     generalize hT:SY f s.1=F at *
     have htyl:=hs.len
     refine AJ (ι:={j:Nat//j≤f.length}) (fun j=>⟨[(4,.bp 4 [] 0),(6,.bp 14 [] 0),(10,.bp 10 [] 0),(72,.p (.int .i64) (f.length:Int)),(73,.p (.int .i64) (j.1:Int))],[(10,.box 25 true [.sr 68 Rc 0 f.length]),(68,.arr 49 Rc (F.take j.1++f.drop j.1)),(4,.box 25 true [.raw (.slice none 0 0)]),(14,.box 74 true [.p Ml (ht,hf),.sr 31 T3 0 s.1.length,.p Jj s.2]),(31,.arr 3 T3 s.1)]⟩) (fun j=>f.length-j.1) ⟨0,Nat.zero_le _⟩ (AC [(10,.nm 10),(68,.nm 68),(4,.nm 4),(14,.nm 14),(31,.nm 31)] rfl rfl ?_ ?_) (fun j=>?_)
     ·first|exact eN|refine eM ?_
     ·first|exact eN|refine eM ?_
     ·obtain⟨j,hj⟩:=j
      have hps:=fun h:j<f.length=>kC F f (0,[]) hsl h
      repeat'(first|exact trivial|refine eS rfl ?_|refine AB ?_|refine rX [0,1,2,3,4,5,6,7,8,9,10,11,16,17,18,19,51,64,72,73,74] hc ?_ ?_|refine rC ?_ ?_<;>intro AA<;>try(cases AA;done))
      ·exact⟨by rw[htyl];exact AA,AA⟩
      ·omega
      ·have hjf:j<f.length:=Int.ofNat_lt.1 AA
       obtain⟨hp1,hp2⟩:=hps hjf
       rw[hsg j hjf]at hp1
       refine⟨⟨j+1,hjf⟩,by simp only;omega,AC [(10,.nm 10),(68,.nm 68),(4,.nm 4),(14,.nm 14),(31,.nm 31)] rfl rfl ?_ ?_⟩
       ·simp only[←hp1]
        first|exact eN|refine eM ?_
        rw[hp2]
       ·first|exact eN|refine eM ?_
      ·have hF:F.take j=F:=List.take_of_length_le (by rw[hsl];exact Int.ofNat_le.1 AA)
       have hd:List.drop j f=[]:=List.drop_eq_nil_of_le (Int.ofNat_le.1 AA)
       rw[hF,hd,List.append_nil]
       exact AG hc [.cell 4 25,.tmp 5] rfl (.inl rfl) (by simp) (by rw[hr];first|exact eR|refine Av ?_;exact List.take_of_length_le (by rw[hsl];exact Nat.le_refl _))
end
/- slices.ContainsFunc of arcs and of appropriate features, with closures. -/
section
def Iv {α:Type} (p:α→Bool):Nat→List α→Int
 | _,[]=>-1
 | k,a :: l=>if p a=true then (k:Int) else Iv p (k+1) l
theorem Se {α:Type} (p:α→Bool):∀(k:Nat) (l:List α),decide (0≤Iv p k l)=l.any p
 | _,[]=>rfl
 | k,a :: l=>by
  unfold Iv
  rw[List.any_cons]
  split
  ·rename_i h
   rw[h,Bool.true_or]
   exact decide_eq_true (Int.natCast_nonneg k)
  ·rename_i h
   have h:p a=false:=by simpa using h
   rw[h,Bool.false_or]
   exact Se p (k+1) l
theorem Ud {α:Type} (p:α→Bool) (d:α) (l:List α) {k:Nat} (h:k<l.length):Iv p k (l.drop k)=if p (l.getD k d)=true then (k:Int) else Iv p (k+1) (l.drop (k+1)):=by
 rw[KS d h]
 rfl
theorem kD (m:List (Int×Bool)) (a:Int×Int):BO Tryz.prog 57 [.p x8 a,.bp 1 [] 0] [(1,.box 95 false [.mp 3]),(3,.mapo T3 .bool m)] [1,3] (fun res objs'=>res=.p .bool ((Ay T3 .bool a.2 m).getD false)∧objs'=[(1,.box 95 false [.mp 3]),(3,.mapo T3 .bool m)]):=by
 refine BL Tryz.func57 (by kernel_rfl) rfl Tryz.ntmps57 (by simp only[List.length_cons,List.length_nil];omega) (by kernel_rfl) rfl rfl (AF []) AI ?_
 intro w0 K O0 ρ0 hc hok1 hok2
 simp only[Al]
 repeat'(first|exact trivial|refine eS rfl ?_|refine AB ?_|refine rX [0,1,2,3] hc ?_ ?_|refine rC ?_ ?_<;>intro AA<;>try(cases AA;done))
 refine Ev.ent (σ':=⟨[(3,.p .bool ((Ay T3 .bool a.2 m).getD false))],[(1,.box 95 false [.mp 3]),(3,.mapo T3 .bool m)]⟩) ?_ (AC [(1,.nm 1),(3,.nm 3)] rfl rfl ?_ ?_)
 ·exact AU hc [.tmp 3] rfl (.inl rfl) (.p .bool ((Ay T3 .bool a.2 m).getD false)) eT ⟨rfl,rfl⟩
 ·first|exact eN|refine eM ?_
 ·first|exact eN|refine eM ?_
theorem o6 (v:Int×Int) (a:Int×Int):BO Tryz.prog 50 [.p BC a,.bp 1 [] 0] [(1,.box 87 true [.p T3 v.1,.p T3 v.2])] [1] (fun res objs'=>res=.p .bool (a.1==v.1)∧objs'=[(1,.box 87 true [.p T3 v.1,.p T3 v.2])]):=by
 refine BL Tryz.func50 (by kernel_rfl) rfl Tryz.ntmps50 (by simp only[List.length_cons,List.length_nil];omega) (by kernel_rfl) rfl rfl (AF []) AI ?_
 intro w0 K O0 ρ0 hc hok1 hok2
 simp only[Al]
 repeat'(first|exact trivial|refine eS rfl ?_|refine AB ?_|refine rX [0,1,2,3] hc ?_ ?_|refine rC ?_ ?_<;>intro AA<;>try(cases AA;done))
 refine Ev.ent (σ':=⟨[(3,.p .bool (a.1==v.1))],[(1,.box 87 true [.p T3 v.1,.p T3 v.2])]⟩) ?_ (AC [(1,.nm 1)] rfl rfl ?_ ?_)
 ·exact AU hc [.tmp 3] rfl (.inl rfl) (.p .bool (a.1==v.1)) eT ⟨rfl,rfl⟩
 ·first|exact eN|refine eM ?_
 ·first|exact eN|refine eM ?_
theorem kE (m:List (Int×Bool)) (l:List (Int×Int)) (hl:l.length≤140737488355328):BO Tryz.prog 81 [.p Wg l,.clo 57 [1]] [(1,.box 95 false [.mp 3]),(3,.mapo T3 .bool m)] [1,3] (fun res objs'=>res=.p T3 (Iv (fun a=>(Ay T3 .bool (Prod.snd a) m).getD false) 0 l)∧objs'=[(1,.box 95 false [.mp 3]),(3,.mapo T3 .bool m)]):=by
 refine BL Tryz.func81 (by kernel_rfl) rfl Tryz.ntmps81 (by simp only[List.length_cons,List.length_nil];omega) (by kernel_rfl) rfl rfl (AF []) AI ?_
 intro w0 K O0 ρ0 hc hok1 hok2
 simp only[Al]
 repeat'(first|exact trivial|refine eS rfl ?_|refine AB ?_|refine rX [0,1,4,5,7,8,9,16] hc ?_ ?_|refine rC ?_ ?_<;>intro AA<;>try(cases AA;done))
 refine AJ (ι:={k:Nat//k≤l.length∧Iv (fun a=>(Ay T3 .bool (Prod.snd a) m).getD false) k (l.drop k)=Iv (fun a=>(Ay T3 .bool (Prod.snd a) m).getD false) 0 l}) (fun k=>⟨[(0,.p Wg l),(1,.clo 57 [1]),(7,.p (.int .i64) (l.length:Int)),(8,.p (.int .i64) (k.1:Int))],[(1,.box 95 false [.mp 3]),(3,.mapo T3 .bool m)]⟩) (fun k=>l.length-k.1) ⟨0,Nat.zero_le _,rfl⟩ (AC [(1,.nm 1),(3,.nm 3)] rfl rfl ?_ ?_) (fun k=>?_)
 ·first|exact eN|refine eM ?_
 ·first|exact eN|refine eM ?_
 ·obtain⟨k,hk,hf⟩:=k
  have hst:k<l.length→∀b,(fun a=>(Ay T3 .bool (Prod.snd a) m).getD false) (l.getD k (0,0))=b→Iv (fun a=>(Ay T3 .bool (Prod.snd a) m).getD false) k (l.drop k)=if b=true then (k:Int) else Iv (fun a=>(Ay T3 .bool (Prod.snd a) m).getD false) (k+1) (l.drop (k+1)):=fun h b e=>by rw[←e];exact Ud (fun a=>(Ay T3 .bool (Prod.snd a) m).getD false) (0,0) l h
  simp only
  repeat'(first|exact trivial|refine eS rfl ?_|refine AB ?_|refine rX [0,1,4,5,7,8,9,16] hc ?_ ?_|refine rC ?_ ?_<;>intro AA<;>try(cases AA;done))
  ·have hk2:k<l.length:=Int.ofNat_lt.1 AA
   refine cP 5 hc ?_ ?_
   ·exact AA
   ·have key:=kD m (l.getD k (0,0))
    refine rM hc (key) [(1,.nm 1),(3,.nm 3)] [] ?_ ?_ ?_
    ·first|exact eN|refine eM ?_
    ·first|exact eN|refine eM ?_
    ·rintro _ _ ⟨rfl,rfl⟩
     refine⟨[(1,.nm 1),(3,.nm 3)],.p .bool ((fun a=>(Ay T3 .bool (Prod.snd a) m).getD false) (l.getD k (0,0))),[(1,.box 95 false [.mp 3]),(3,.mapo T3 .bool m)],rfl,rfl,?_,?_,rfl,rfl,Cm ?_⟩
     ·first|exact eN|refine eM ?_
     ·first|exact eN|refine eM ?_
     ·generalize hpp:(fun a=>(Ay T3 .bool (Prod.snd a) m).getD false) (l.getD k (0,0))=pb at *
      have hs2:=hst hk2 pb rfl
      repeat'(first|exact trivial|refine eS rfl ?_|refine AB ?_|refine rX [0,1,4,5,7,8,9,16] hc ?_ ?_|refine rC ?_ ?_<;>intro AA<;>try(cases AA;done))
      ·have AA:pb=true:=AA
       rw[if_pos AA,hf]at hs2
       refine Ev.ent (σ':=⟨[(4,.p (.int .i64) (k:Int))],[(1,.box 95 false [.mp 3]),(3,.mapo T3 .bool m)]⟩) ?_ (AC [(1,.nm 1),(3,.nm 3)] rfl rfl ?_ ?_)
       ·exact AU hc [.tmp 4] rfl (.inl rfl) (.p T3 (k:Int)) eT ⟨by rw[hs2],rfl⟩
       ·first|exact eN|refine eM ?_
       ·first|exact eN|refine eM ?_
      ·omega
      ·have AA:pb=false:=AA
       rw[if_neg (by rw[AA];simp)]at hs2
       refine⟨⟨k+1,hk2,hs2.symm.trans hf⟩,by simp only;omega,AC [(1,.nm 1),(3,.nm 3)] rfl rfl ?_ ?_⟩
       ·first|exact eN|refine eM ?_
       ·first|exact eN|refine eM ?_
  ·have hk2:l.drop k=[]:=List.drop_eq_nil_of_le (Int.ofNat_le.1 AA)
   rw[hk2]at hf
   have hf:(-1:Int)=Iv (fun a=>(Ay T3 .bool (Prod.snd a) m).getD false) 0 l:=hf
   refine Ev.ent (σ':=⟨[(4,.p (.int .i64) (-1))],[(1,.box 95 false [.mp 3]),(3,.mapo T3 .bool m)]⟩) ?_ (AC [(1,.nm 1),(3,.nm 3)] rfl rfl ?_ ?_)
   ·exact AU hc [.tmp 4] rfl (.inl rfl) (.p T3 (-1)) eT ⟨by rw[hf],rfl⟩
   ·first|exact eN|refine eM ?_
   ·first|exact eN|refine eM ?_
theorem o7 (m:List (Int×Bool)) (l:List (Int×Int)) (hl:l.length≤140737488355328):BO Tryz.prog 56 [.p Wg l,.clo 57 [1]] [(1,.box 95 false [.mp 3]),(3,.mapo T3 .bool m)] [1,3] (fun res objs'=>res=.p .bool (l.any (fun a=>(Ay T3 .bool (Prod.snd a) m).getD false))∧objs'=[(1,.box 95 false [.mp 3]),(3,.mapo T3 .bool m)]):=by
 refine BL Tryz.func56 (by kernel_rfl) rfl Tryz.ntmps56 (by simp only[List.length_cons,List.length_nil];omega) (by kernel_rfl) rfl rfl (AF []) AI ?_
 intro w0 K O0 ρ0 hc hok1 hok2
 simp only[Al]
 repeat'(first|exact trivial|refine eS rfl ?_|refine AB ?_|refine rX [0,1,4] hc ?_ ?_|refine rC ?_ ?_<;>intro AA<;>try(cases AA;done))
 refine cP 2 hc ?_ ?_
 ·trivial
 ·have key:=kE m l hl
  refine rM hc (key) [(1,.nm 1),(3,.nm 3)] [] ?_ ?_ ?_
  ·first|exact eN|refine eM ?_
  ·first|exact eN|refine eM ?_
  ·rintro _ _ ⟨rfl,rfl⟩
   refine⟨[(1,.nm 1),(3,.nm 3)],.p T3 (Iv (fun a=>(Ay T3 .bool (Prod.snd a) m).getD false) 0 l),[(1,.box 95 false [.mp 3]),(3,.mapo T3 .bool m)],rfl,rfl,?_,?_,rfl,rfl,?_⟩
   ·first|exact eN|refine eM ?_
   ·first|exact eN|refine eM ?_
   ·have ha:=Se (fun a=>(Ay T3 .bool (Prod.snd a) m).getD false) 0 l
    generalize Iv (fun a=>(Ay T3 .bool (Prod.snd a) m).getD false) 0 l=ix at *
    refine rL [0,1,4] hc ?_ ?_
    ·trivial
    ·repeat'(first|exact trivial|refine eS rfl ?_|refine AB ?_|refine rX [0,1,4] hc ?_ ?_|refine rC ?_ ?_<;>intro AA<;>try(cases AA;done))
     refine Ev.ent (σ':=⟨[(4,.p .bool (decide (0≤ix)))],[(1,.box 95 false [.mp 3]),(3,.mapo T3 .bool m)]⟩) ?_ (AC [(1,.nm 1),(3,.nm 3)] rfl rfl ?_ ?_)
     ·exact AU hc [.tmp 4] rfl (.inl rfl) (.p .bool (decide (0≤ix))) eT ⟨by rw[ha],rfl⟩
     ·first|exact eN|refine eM ?_
     ·first|exact eN|refine eM ?_
theorem kF (v:Int×Int) (l:List (Int×Int)) (hl:l.length≤140737488355328):BO Tryz.prog 75 [.p Iw l,.clo 50 [1]] [(1,.box 87 true [.p T3 v.1,.p T3 v.2])] [1] (fun res objs'=>res=.p T3 (Iv (fun a=>(Prod.fst a==v.1)) 0 l)∧objs'=[(1,.box 87 true [.p T3 v.1,.p T3 v.2])]):=by
 refine BL Tryz.func75 (by kernel_rfl) rfl Tryz.ntmps75 (by simp only[List.length_cons,List.length_nil];omega) (by kernel_rfl) rfl rfl (AF []) AI ?_
 intro w0 K O0 ρ0 hc hok1 hok2
 simp only[Al]
 repeat'(first|exact trivial|refine eS rfl ?_|refine AB ?_|refine rX [0,1,4,5,7,8,9,16] hc ?_ ?_|refine rC ?_ ?_<;>intro AA<;>try(cases AA;done))
 refine AJ (ι:={k:Nat//k≤l.length∧Iv (fun a=>(Prod.fst a==v.1)) k (l.drop k)=Iv (fun a=>(Prod.fst a==v.1)) 0 l}) (fun k=>⟨[(0,.p Iw l),(1,.clo 50 [1]),(7,.p (.int .i64) (l.length:Int)),(8,.p (.int .i64) (k.1:Int))],[(1,.box 87 true [.p T3 v.1,.p T3 v.2])]⟩) (fun k=>l.length-k.1) ⟨0,Nat.zero_le _,rfl⟩ (AC [(1,.nm 1)] rfl rfl ?_ ?_) (fun k=>?_)
 ·first|exact eN|refine eM ?_
 ·first|exact eN|refine eM ?_
 ·obtain⟨k,hk,hf⟩:=k
  have hst:k<l.length→∀b,(fun a=>(Prod.fst a==v.1)) (l.getD k (0,0))=b→Iv (fun a=>(Prod.fst a==v.1)) k (l.drop k)=if b=true then (k:Int) else Iv (fun a=>(Prod.fst a==v.1)) (k+1) (l.drop (k+1)):=fun h b e=>by rw[←e];exact Ud (fun a=>(Prod.fst a==v.1)) (0,0) l h
  simp only
  repeat'(first|exact trivial|refine eS rfl ?_|refine AB ?_|refine rX [0,1,4,5,7,8,9,16] hc ?_ ?_|refine rC ?_ ?_<;>intro AA<;>try(cases AA;done))
  ·have hk2:k<l.length:=Int.ofNat_lt.1 AA
   refine cP 5 hc ?_ ?_
   ·exact AA
   ·have key:=o6 v (l.getD k (0,0))
    refine rM hc (key) [(1,.nm 1)] [] ?_ ?_ ?_
    ·first|exact eN|refine eM ?_
    ·first|exact eN|refine eM ?_
    ·rintro _ _ ⟨rfl,rfl⟩
     refine⟨[(1,.nm 1)],.p .bool ((fun a=>(Prod.fst a==v.1)) (l.getD k (0,0))),[(1,.box 87 true [.p T3 v.1,.p T3 v.2])],rfl,rfl,?_,?_,rfl,rfl,Cm ?_⟩
     ·first|exact eN|refine eM ?_
     ·first|exact eN|refine eM ?_
     ·generalize hpp:(fun a=>(Prod.fst a==v.1)) (l.getD k (0,0))=pb at *
      have hs2:=hst hk2 pb rfl
      repeat'(first|exact trivial|refine eS rfl ?_|refine AB ?_|refine rX [0,1,4,5,7,8,9,16] hc ?_ ?_|refine rC ?_ ?_<;>intro AA<;>try(cases AA;done))
      ·have AA:pb=true:=AA
       rw[if_pos AA,hf]at hs2
       refine Ev.ent (σ':=⟨[(4,.p (.int .i64) (k:Int))],[(1,.box 87 true [.p T3 v.1,.p T3 v.2])]⟩) ?_ (AC [(1,.nm 1)] rfl rfl ?_ ?_)
       ·exact AU hc [.tmp 4] rfl (.inl rfl) (.p T3 (k:Int)) eT ⟨by rw[hs2],rfl⟩
       ·first|exact eN|refine eM ?_
       ·first|exact eN|refine eM ?_
      ·omega
      ·have AA:pb=false:=AA
       rw[if_neg (by rw[AA];simp)]at hs2
       refine⟨⟨k+1,hk2,hs2.symm.trans hf⟩,by simp only;omega,AC [(1,.nm 1)] rfl rfl ?_ ?_⟩
       ·first|exact eN|refine eM ?_
       ·first|exact eN|refine eM ?_
  ·have hk2:l.drop k=[]:=List.drop_eq_nil_of_le (Int.ofNat_le.1 AA)
   rw[hk2]at hf
   have hf:(-1:Int)=Iv (fun a=>(Prod.fst a==v.1)) 0 l:=hf
   refine Ev.ent (σ':=⟨[(4,.p (.int .i64) (-1))],[(1,.box 87 true [.p T3 v.1,.p T3 v.2])]⟩) ?_ (AC [(1,.nm 1)] rfl rfl ?_ ?_)
   ·exact AU hc [.tmp 4] rfl (.inl rfl) (.p T3 (-1)) eT ⟨by rw[hf],rfl⟩
   ·first|exact eN|refine eM ?_
   ·first|exact eN|refine eM ?_
theorem o8 (v:Int×Int) (l:List (Int×Int)) (hl:l.length≤140737488355328):BO Tryz.prog 49 [.p Iw l,.clo 50 [1]] [(1,.box 87 true [.p T3 v.1,.p T3 v.2])] [1] (fun res objs'=>res=.p .bool (l.any (fun a=>(Prod.fst a==v.1)))∧objs'=[(1,.box 87 true [.p T3 v.1,.p T3 v.2])]):=by
 refine BL Tryz.func49 (by kernel_rfl) rfl Tryz.ntmps49 (by simp only[List.length_cons,List.length_nil];omega) (by kernel_rfl) rfl rfl (AF []) AI ?_
 intro w0 K O0 ρ0 hc hok1 hok2
 simp only[Al]
 repeat'(first|exact trivial|refine eS rfl ?_|refine AB ?_|refine rX [0,1,4] hc ?_ ?_|refine rC ?_ ?_<;>intro AA<;>try(cases AA;done))
 refine cP 2 hc ?_ ?_
 ·trivial
 ·have key:=kF v l hl
  refine rM hc (key) [(1,.nm 1)] [] ?_ ?_ ?_
  ·first|exact eN|refine eM ?_
  ·first|exact eN|refine eM ?_
  ·rintro _ _ ⟨rfl,rfl⟩
   refine⟨[(1,.nm 1)],.p T3 (Iv (fun a=>(Prod.fst a==v.1)) 0 l),[(1,.box 87 true [.p T3 v.1,.p T3 v.2])],rfl,rfl,?_,?_,rfl,rfl,?_⟩
   ·first|exact eN|refine eM ?_
   ·first|exact eN|refine eM ?_
   ·have ha:=Se (fun a=>(Prod.fst a==v.1)) 0 l
    generalize Iv (fun a=>(Prod.fst a==v.1)) 0 l=ix at *
    refine rL [0,1,4] hc ?_ ?_
    ·trivial
    ·repeat'(first|exact trivial|refine eS rfl ?_|refine AB ?_|refine rX [0,1,4] hc ?_ ?_|refine rC ?_ ?_<;>intro AA<;>try(cases AA;done))
     refine Ev.ent (σ':=⟨[(4,.p .bool (decide (0≤ix)))],[(1,.box 87 true [.p T3 v.1,.p T3 v.2])]⟩) ?_ (AC [(1,.nm 1)] rfl rfl ?_ ?_)
     ·exact AU hc [.tmp 4] rfl (.inl rfl) (.p .bool (decide (0≤ix))) eT ⟨by rw[ha],rfl⟩
     ·first|exact eN|refine eM ?_
     ·first|exact eN|refine eM ?_
end
/- approp.Acyclic: plain, and the walk. -/
section
abbrev JQ:=List (List (Int×Int))
def vS (v:JQ) (s:List Bool×Bool) (i:Nat):List Bool×Bool:=if (s.1.getD i false&&!((v.getD i []).any fun a=>s.1.getD a.2.toNat false))=true then (s.1.set i false,true) else s
def rB (v:JQ) (l:List Bool) (i:Nat):List Bool×Bool:=(List.range i).foldl (vS v) (l,false)
def Sf (v:JQ):Nat→List Bool→List Bool
 | 0,l=>l
 | k+1,l=>if (rB v l v.length).2=true then Sf v k (rB v l v.length).1 else (rB v l v.length).1
def f6 (v:JQ):Bool:=(Sf v (v.length+1) (List.replicate v.length true)).all (!·)
def Nn (l:List Bool):Nat:=l.countP id
theorem Xz:∀ {l:List Bool} {i:Nat},l.getD i false=true→Nn (l.set i false)+1=Nn l
 | [],i,h=>by simp at h
 | x :: l,0,h=>by
  have h:x=true:=by simpa using h
  subst h
  simp[Nn]
 | x :: l,i+1,h=>by
  have:=Xz (l:=l) (i:=i) (by simpa using h)
  unfold Nn at this ⊢
  rw[List.set_cons_succ,List.countP_cons,List.countP_cons]
  omega
theorem o9 (n:Nat):Nn (List.replicate n true)=n:=by unfold Nn;rw[List.countP_eq_length.2 (fun a ha=>by rw[List.eq_of_mem_replicate ha];rfl),List.length_replicate]
theorem f7 (v:JQ) (l:List Bool) (i:Nat):rB v l (i+1)=vS v (rB v l i) i:=by
 unfold rB
 rw[List.range_succ,List.foldl_append]
 rfl
theorem pA (v:JQ) (l:List Bool):∀i,(rB v l i).1.length=l.length∧((rB v l i).2=true→Nn (rB v l i).1<Nn l)∧((rB v l i).2=false→(rB v l i).1=l)∧Nn (rB v l i).1≤Nn l
 | 0=>⟨rfl,fun h=>(by cases h),fun _=>rfl,Nat.le_refl _⟩
 | i+1=>by
  obtain⟨h1,h2,h3,h4⟩:=pA v l i
  rw[f7]
  generalize rB v l i=s at *
  unfold vS
  split
  ·rename_i h
   rw[Bool.and_eq_true]at h
   have hcs:=Xz h.1
   have e2:Nn (s.1.set i false)<Nn l:=by omega
   exact⟨by simpa using h1,fun _=>e2,fun e=>(by cases e),Nat.le_of_lt e2⟩
  ·exact⟨h1,h2,h3,h4⟩
structure MI (m:List (Int×Bool)) (l:List Bool):Prop where
 nd:(m.map (·.1)).Nodup
 get:∀k:Int,Ay T3 .bool k m=if 0≤k∧l.getD k.toNat false=true then some true else none
theorem f8 (k:Int) (v:Bool):∀ {m:List (Int×Bool)},(m.map (·.1)).Nodup→((HU T3 .bool k v m).map (·.1)).Nodup∧∀x,x∈(HU T3 .bool k v m).map (·.1)→x=k∨x∈m.map (·.1)
 | [],_=>by simp[HU]
 | y :: m,h=>by
  rw[List.map_cons,List.nodup_cons]at h
  unfold HU
  split
  ·rename_i e
   have e:k=y.1:=by simpa[IA] using e
   refine⟨?_,fun x hx=>?_⟩
   ·rw[List.map_cons,List.nodup_cons,e]
    exact h
   ·rcases List.mem_cons.1 hx with hx|hx
    ·exact .inl hx
    ·exact .inr (List.mem_cons_of_mem _ hx)
  ·rename_i e
   have e:¬k=y.1:=by simpa[IA] using e
   obtain⟨g1,g2⟩:=f8 k v h.2
   refine⟨?_,fun x hx=>?_⟩
   ·rw[List.map_cons,List.nodup_cons]
    refine⟨fun hm=>?_,g1⟩
    rcases g2 _ hm with hx|hx
    ·exact e hx.symm
    ·exact h.1 hx
   ·rcases List.mem_cons.1 hx with hx|hx
    ·exact .inr (by rw[hx];simp)
    ·exact(g2 x hx).imp id fun g=>List.mem_cons_of_mem _ g
theorem X0 (k:Int):∀m:List (Int×Bool),(Lp T3 .bool k m).Sublist m
 | []=>List.Sublist.refl _
 | y :: m=>by
  unfold Lp
  split
  ·exact List.sublist_cons_self _ _
  ·exact(X0 k m).cons_cons _
theorem Ue {x:Int}:∀ {m:List (Int×Bool)},x∉m.map (·.1)→Ay T3 .bool x m=none
 | [],_=>rfl
 | y :: m,h=>by
  unfold Ay
  rw[if_neg (by
   intro e
   have e:x=y.1:=by simpa[IA] using e
   exact h (by rw[e];simp))]
  exact Ue fun hm=>h (List.mem_cons_of_mem _ hm)
theorem Uf (x k:Int):∀ {m:List (Int×Bool)},(m.map (·.1)).Nodup→Ay T3 .bool x (Lp T3 .bool k m)=if x=k then none else Ay T3 .bool x m
 | [],_=>by simp[Lp,Ay]
 | y :: m,h=>by
  rw[List.map_cons,List.nodup_cons]at h
  unfold Lp
  split
  ·rename_i e
   have e:k=y.1:=by simpa[IA] using e
   by_cases hx:x=k
   ·rw[if_pos hx,hx,e]
    exact Ue h.1
   ·rw[if_neg hx]
    have hx2:¬x=y.1:=by rw[←e];exact hx
    simp[Ay,IA,hx2]
  ·rename_i e
   have e:¬k=y.1:=by simpa[IA] using e
   have ih:=Uf x k h.2
   by_cases hxy:x=y.1
   ·have hxk:¬x=k:=by rw[hxy];exact fun g=>e g.symm
    rw[if_neg hxk]
    simp[Ay,IA,hxy]
   ·have hn:¬IA T3 x y.1=true:=by simpa[IA] using hxy
    simp only[Ay]
    rw[if_neg hn,if_neg hn,ih]
theorem MI.zero:MI [] (List.replicate 0 true):=⟨List.nodup_nil,fun k=>by simp[Ay]⟩
theorem MI.put {m:List (Int×Bool)} {i:Nat} (h:MI m (List.replicate i true)):MI (HU T3 .bool (i:Int) true m) (List.replicate (i+1) true):=by
 refine⟨(f8 _ _ h.nd).1,fun(k:Int)=>?_⟩
 rw[SW,h.get]
 by_cases hk:k=(i:Int)
 ·rw[if_pos hk,if_pos]
  subst hk
  refine⟨Int.natCast_nonneg _,?_⟩
  simp[List.getD_eq_getElem?_getD,List.getElem?_replicate]
 ·rw[if_neg hk]
  have e:(0≤k∧(List.replicate i true).getD k.toNat false=true)↔(0≤k∧(List.replicate (i+1) true).getD k.toNat false=true):=by
   simp only[List.getD_eq_getElem?_getD,List.getElem?_replicate]
   constructor
   ·rintro⟨a,b⟩
    refine⟨a,?_⟩
    split at b
    ·rw[if_pos (by omega)];rfl
    ·simp at b
   ·rintro⟨a,b⟩
    refine⟨a,?_⟩
    split at b
    ·rw[if_pos (by omega)];rfl
    ·simp at b
  by_cases hc:0≤k∧(List.replicate i true).getD k.toNat false=true
  ·rw[if_pos hc,if_pos (e.1 hc)]
  ·rw[if_neg hc,if_neg fun g=>hc (e.2 g)]
theorem MI.del {m:List (Int×Bool)} {l:List Bool} (h:MI m l) (i:Nat):MI (Lp T3 .bool (i:Int) m) (l.set i false):=by
 refine⟨h.nd.sublist ((X0 _ m).map _),fun(k:Int)=>?_⟩
 rw[Uf _ _ h.nd,h.get]
 by_cases hk:k=(i:Int)
 ·subst hk
  rw[if_pos rfl,if_neg]
  rintro⟨-,b⟩
  rw[Int.toNat_natCast]at b
  simp only[List.getD_eq_getElem?_getD,List.getElem?_set]at b
  rw[if_pos trivial]at b
  split at b<;>simp at b
 ·rw[if_neg hk]
  by_cases hk0:0≤k
  ·have hne:¬i=k.toNat:=by omega
   simp only[List.getD_eq_getElem?_getD,List.getElem?_set]
   rw[if_neg hne]
  ·rw[if_neg fun g=>hk0 g.1,if_neg fun g=>hk0 g.1]
theorem Zj (y:Int×Bool) (m:List (Int×Bool)):Ay T3 .bool y.1 (y :: m)=some y.2:=by
 unfold Ay
 rw[if_pos (by simp[IA])]
theorem MI.len0 {m:List (Int×Bool)} {l:List Bool} (h:MI m l):m.length=0↔l.all (!·)=true:=by
 constructor
 ·intro e
  have e:m=[]:=List.eq_nil_of_length_eq_zero e
  subst e
  refine List.all_eq_true.2 fun b hb=>?_
  obtain⟨i,hi,rfl⟩:=List.mem_iff_getElem.1 hb
  have:=h.get (i:Int)
  cases hb:l[i] with
  | false=>rfl
  | true =>
   rw[if_pos ⟨Int.natCast_nonneg _,by rw[Int.toNat_natCast,List.getD_eq_getElem?_getD,List.getElem?_eq_getElem hi,hb];rfl⟩]at this
   cases this
 ·intro e
  cases m with
  | nil=>rfl
  | cons y m =>
   have:=h.get y.1
   rw[Zj]at this
   split at this
   ·rename_i hy
    have hl:y.1.toNat<l.length:=by
     refine Classical.byContradiction fun hn=>?_
     have:=hy.2
     rw[List.getD_eq_getElem?_getD,List.getElem?_eq_none (by omega)]at this
     cases this
    have h2:=hy.2
    rw[List.getD_eq_getElem?_getD,List.getElem?_eq_getElem hl]at h2
    have:=List.all_eq_true.1 e _ (List.getElem_mem hl)
    rw[show l[y.1.toNat]=true from h2]at this
    cases this
   ·cases this
theorem Lg {x:Int}:∀ {m:List (Int×Bool)},x∈m.map (·.1)→Ay T3 .bool x m≠none
 | y :: m,h=>by
  unfold Ay
  split
  ·simp
  ·rename_i e
   rcases List.mem_cons.1 h with h|h
   ·exact absurd (by simp[IA,h]) e
   ·exact Lg h
theorem MI.len {m:List (Int×Bool)} {l:List Bool} (h:MI m l):m.length≤l.length:=by
 have h1:((m.map (·.1)).map Int.toNat).Nodup:=by
  rw[List.Nodup,List.pairwise_map]
  refine h.nd.imp_of_mem fun {a b:Int} ha hb hne e=>hne ?_
  have h1:=Lg ha
  have h2:=Lg hb
  rw[h.get]at h1 h2
  have a0:0≤a:=Classical.byContradiction fun g=>h1 (if_neg fun q=>g q.1)
  have b0:0≤b:=Classical.byContradiction fun g=>h2 (if_neg fun q=>g q.1)
  omega
 have:=D8 l.length _ h1 (fun j hj=>by
  obtain⟨x,hx,rfl⟩:=List.mem_map.1 hj
  have h1:=Lg hx
  rw[h.get]at h1
  refine Classical.byContradiction fun hn=>h1 (if_neg fun g=>?_)
  have:=g.2
  rw[List.getD_eq_getElem?_getD,List.getElem?_eq_none (by omega)]at this
  cases this)
 simpa using this
theorem MI.look {m:List (Int×Bool)} {l:List Bool} (h:MI m l) {k:Int} (k0:0≤k):(Ay T3 .bool k m).getD false=l.getD k.toNat false:=by
 rw[h.get]
 cases hb:l.getD k.toNat false with
 | true=>rw[if_pos ⟨k0,rfl⟩];rfl
 | false=>rw[if_neg fun g=>by cases g.2];rfl
end
/- approp.Acyclic: the walk. -/
section
def VOk (v:JQ):Prop:=∀r∈v,∀a∈r,0≤a.2∧a.2<(v.length:Int)
theorem pB {m:List (Int×Bool)} {l:List Bool} (h:MI m l) {r:List (Int×Int)} (hr:∀a∈r,0≤a.2):(r.any fun a=>(Ay T3 .bool (Prod.snd a) m).getD false)=r.any fun a=>l.getD a.2.toNat false:=by
 induction r with
 | nil=>rfl
 | cons a r ih =>
  rw[List.any_cons,List.any_cons,ih (fun b hb=>hr b (List.mem_cons_of_mem _ hb)),h.look (hr a (by simp))]
def X2:Ah:={ ins:=[v9],pre:=fun(v,_)=>VOk v,out:=fun(v,_)=>[.p .bool (f6 v)],lend:=true }
attribute [local go_sem] X2
theorem vT:Ao Tryz.prog 24 X2:=by
 refine AW Tryz.func24 (by kernel_rfl) rfl Tryz.ntmps24 (by decide) (by kernel_rfl) (AF []) AI ?_
 rintro w0 O0 ⟨v,u⟩ hc ⟨⟨hvl,hrl⟩,-⟩ hv
 have hv:VOk v:=hv
 simp only[AO]at hvl
 have hrl2:∀r∈(v:JQ),List.length r≤140737488355328:=fun r hr=>(hrl r hr).1
 simp only[X2,AM]
 repeat'(first|exact trivial|refine eS rfl ?_|refine AB ?_|refine rX [0,2,3,4,5,6,9,10,11,16,18,19,20,33] hc ?_ ?_|refine rC ?_ ?_<;>intro AA<;>try(cases AA;done))
 refine AJ (ι:={x:Nat×List (Int×Bool)//x.1≤List.length v∧MI x.2 (List.replicate x.1 true)}) (fun x=>⟨[(0,.p v9 v),(3,.bp 3 [] 0),(9,.p (.int .i64) (List.length v:Int)),(10,.p (.int .i64) (x.1.1:Int))],[(3,.box 95 false [.mp 7]),(7,.mapo T3 .bool x.1.2)]⟩) (fun x=>List.length v-x.1.1) ⟨(0,[]),Nat.zero_le _,MI.zero⟩ (AC [(3,.nm 3),(7,.nm 7)] rfl rfl ?_ ?_) (fun x=>?_)
 ·first|exact eN|refine eM ?_
 ·first|exact eN|refine eM ?_
 ·obtain⟨⟨i,m⟩,hi,hm⟩:=x
  simp only at hi hm ⊢
  repeat'(first|exact trivial|refine eS rfl ?_|refine AB ?_|refine rX [0,2,3,4,5,6,9,10,11,16,18,19,20,33] hc ?_ ?_|refine rC ?_ ?_<;>intro AA<;>try(cases AA;done))
  ·omega
  ·have hi2:i<List.length v:=by exact eV
   refine⟨⟨(i+1,HU T3 .bool (i:Int) true m),hi2,hm.put⟩,by simp only;omega,AC [(3,.nm 3),(7,.nm 7)] rfl rfl ?_ ?_⟩
   ·first|exact eN|refine eM ?_
   ·first|exact eN|refine eM ?_
  ·have hi2:i=List.length v:=by exact eV
   subst hi2
   refine AJ (ι:={x:Bool×List (Int×Bool)×List Bool//x.2.2.length=List.length v∧MI x.2.1 x.2.2∧(x.1=true→∃k,Nn x.2.2+1≤k∧Sf v k x.2.2=Sf v (List.length v+1) (List.replicate (List.length v) true))∧(x.1=false→x.2.2=Sf v (List.length v+1) (List.replicate (List.length v) true))}) (fun x=>⟨[(0,.p v9 v),(3,.bp 3 [] 0),(5,.p .bool x.1.1)],[(3,.box 95 false [.mp 7]),(7,.mapo T3 .bool x.1.2.1)]⟩) (fun x=>2*Nn x.1.2.2+(if x.1.1=true then 1 else 0)) ⟨(true,m,List.replicate (List.length v) true),by simp,hm,fun _=>⟨_,by simp only[o9];exact Nat.le_refl _,rfl⟩,fun e=>by cases e⟩ (AC [(3,.nm 3),(7,.nm 7)] rfl rfl ?_ ?_) (fun x=>?_)
   ·first|exact eN|refine eM ?_
   ·first|exact eN|refine eM ?_
   ·obtain⟨⟨b,m1,l⟩,hll,hm1,hb1,hb2⟩:=x
    simp only at hll hm1 hb1 hb2 ⊢
    repeat'(first|exact trivial|refine eS rfl ?_|refine AB ?_|refine rX [0,2,3,4,5,6,9,10,11,16,18,19,20,33] hc ?_ ?_|refine rC ?_ ?_<;>intro AA<;>try(cases AA;done))
    ·have hbt:b=true:=AA
     obtain⟨k,hk,he⟩:=hb1 hbt
     obtain⟨k,rfl⟩:∃k',k=k'+1:=⟨k-1,by omega⟩
     refine AJ (ι:={x:Nat×List (Int×Bool)//x.1≤List.length v∧MI x.2 (rB v l x.1).1}) (fun x=>⟨[(0,.p v9 v),(3,.bp 3 [] 0),(5,.p .bool (rB v l x.1.1).2),(18,.p (.int .i64) (List.length v:Int)),(19,.p (.int .i64) (x.1.1:Int))],[(3,.box 95 false [.mp 7]),(7,.mapo T3 .bool x.1.2)]⟩) (fun x=>List.length v-x.1.1) ⟨(0,m1),Nat.zero_le _,hm1⟩ (AC [(3,.nm 3),(7,.nm 7)] rfl rfl ?_ ?_) (fun x=>?_)
     ·first|exact eN|refine eM ?_
     ·first|exact eN|refine eM ?_
      rfl
     ·obtain⟨⟨i,m2⟩,hi,hm2⟩:=x
      simp only at hi hm2 ⊢
      have hsu:=f7 v l i
      have hin:=pA v l i
      repeat'(first|exact trivial|refine eS rfl ?_|refine AB ?_|refine rX [0,2,3,4,5,6,9,10,11,16,18,19,20,33] hc ?_ ?_|refine rC ?_ ?_<;>intro AA<;>try(cases AA;done))
      ·have hi2:i<List.length v:=by exact eV
       have hlk:=hm2.look (k:=(i:Int)) (Int.natCast_nonneg _)
       rw[Int.toNat_natCast]at hlk
       have hrow:List.getD v i []∈(v:JQ):=AE (v:JQ) [] hi2
       have han:=pB hm2 (r:=List.getD v i []) fun a ha=>(hv _ hrow a ha).1
       have hsw:vS v (rB v l i) i=if ((rB v l i).1.getD i false&&!((List.getD v i []).any fun a=>(rB v l i).1.getD a.2.toNat false))=true then ((rB v l i).1.set i false,true) else rB v l i:=rfl
       rw[←han,←hlk]at hsw
       rw[hsw]at hsu
       have hdl:=hm2.del i
       refine evP hc 4 ?_ ?_
       ·trivial
       ·cases hb:(Ay T3 .bool (i:Int) m2).getD false with
        | false =>
         rw[hb,Bool.false_and,if_neg (by simp)]at hsu
         refine rL [0,2,3,4,5,6,9,10,11,16,18,19,20,33] hc ?_ ?_
         ·trivial
         ·repeat'(first|exact trivial|refine eS rfl ?_|refine AB ?_|refine rX [0,2,3,4,5,6,9,10,11,16,18,19,20,33] hc ?_ ?_|refine rC ?_ ?_<;>intro AA<;>try(cases AA;done))
          ·omega
          ·refine⟨⟨(i+1,m2),hi2,by rw[hsu];exact hm2⟩,by simp only;omega,AC [(3,.nm 3),(7,.nm 7)] rfl rfl ?_ ?_⟩
           ·first|exact eN|refine eM ?_
           ·simp only[hsu]
            first|exact eN|refine eM ?_
        | true =>
         rw[hb,Bool.true_and]at hsu
         refine rN 5 hc ?_ ?_
         ·exact AA
         ·have key:=o7 m2 (List.getD v i []) (hrl2 _ hrow)
          generalize List.any (List.getD v i []) (fun a=>(Ay T3 .bool (Prod.snd a) m2).getD false)=an at *
          refine clG hc (key) [(1,.nm 3),(3,.nm 7)] [] ?_ ?_ ?_
          ·first|exact eN|refine eM ?_
          ·first|exact eN|refine eM ?_
          ·rintro _ _ ⟨rfl,rfl⟩
           refine⟨[(3,.nm 1),(7,.nm 3)],.p .bool an,[(3,.box 95 false [.mp 7]),(7,.mapo T3 .bool m2)],rfl,rfl,?_,?_,rfl,rfl,?_⟩
           ·first|exact eN|refine eM ?_
           ·first|exact eN|refine eM ?_
           ·refine rL [0,2,3,4,5,6,9,10,11,16,18,19,20,33] hc ?_ ?_
            ·trivial
            ·cases han2:an with
             | true =>
              subst han2
              rw[Bool.not_true,if_neg (by simp)]at hsu
              repeat'(first|exact trivial|refine eS rfl ?_|refine AB ?_|refine rX [0,2,3,4,5,6,9,10,11,16,18,19,20,33] hc ?_ ?_|refine rC ?_ ?_<;>intro AA<;>try(cases AA;done))
              ·omega
              ·refine⟨⟨(i+1,m2),hi2,by rw[hsu];exact hm2⟩,by simp only;omega,AC [(3,.nm 3),(7,.nm 7)] rfl rfl ?_ ?_⟩
               ·first|exact eN|refine eM ?_
               ·simp only[hsu]
                first|exact eN|refine eM ?_
             | false =>
              subst han2
              rw[Bool.not_false,if_pos rfl]at hsu
              repeat'(first|exact trivial|refine eS rfl ?_|refine AB ?_|refine rX [0,2,3,4,5,6,9,10,11,16,18,19,20,33] hc ?_ ?_|refine rC ?_ ?_<;>intro AA<;>try(cases AA;done))
              refine cP 2 hc ?_ ?_
              ·trivial
              ·refine A1E hc Tryz.underlying95 Tryz.underlying3 ?_
               refine rL [0,2,3,4,5,6,9,10,11,16,18,19,20,33] hc ?_ ?_
               ·trivial
               ·repeat'(first|exact trivial|refine eS rfl ?_|refine AB ?_|refine rX [0,2,3,4,5,6,9,10,11,16,18,19,20,33] hc ?_ ?_|refine rC ?_ ?_<;>intro AA<;>try(cases AA;done))
                ·omega
                ·refine⟨⟨(i+1,Lp T3 .bool (i:Int) m2),hi2,by rw[hsu];exact hdl⟩,by simp only;omega,AC [(3,.nm 3),(7,.nm 7)] rfl rfl ?_ ?_⟩
                 ·first|exact eN|refine eM ?_
                 ·simp only[hsu]
                  first|exact eN|refine eM ?_
      ·have hi2:i=List.length v:=by exact eV
       subst hi2
       obtain⟨j1,j2,j3,j4⟩:=hin
       have hac:Sf v (k+1) l=if (rB v l (List.length v)).2=true then Sf v k (rB v l (List.length v)).1 else (rB v l (List.length v)).1:=rfl
       rw[hac]at he
       refine⟨⟨((rB v l (List.length v)).2,m2,(rB v l (List.length v)).1),j1.trans hll,hm2,fun e=>⟨k,?_,?_⟩,fun e=>?_⟩,?_,AC [(3,.nm 3),(7,.nm 7)] rfl rfl ?_ ?_⟩
       ·have:=j2 e
        simp only
        omega
       ·rw[←he,if_pos e]
       ·rw[←he,if_neg (by rw[show (rB v l (List.length v)).2=false from e];simp)]
       ·simp only
        rw[if_pos hbt]
        split
        ·rename_i e
         have:=j2 e
         omega
        ·omega
       ·first|exact eN|refine eM ?_
       ·first|exact eN|refine eM ?_
    ·have hlf:=hb2 AA
     have hm0:=hm1.len0
     have hml:=hm1.len
     rw[hll]at hml
     have hr:((m1.length:Int)==0)=f6 v:=by
      unfold f6
      rw[←hlf,Bool.eq_iff_iff,beq_iff_eq,←hm0]
      omega
     refine cP 1 hc ?_ ?_
     ·trivial
     ·refine A1F hc Tryz.underlying95 ?_ ?_
      ·simp only[AO];omega
      ·refine rL [0,2,3,4,5,6,9,10,11,16,18,19,20,33] hc ?_ ?_
       ·trivial
       ·repeat'(first|exact trivial|refine eS rfl ?_|refine AB ?_|refine rX [0,2,3,4,5,6,9,10,11,16,18,19,20,33] hc ?_ ?_|refine rC ?_ ?_<;>intro AA<;>try(cases AA;done))
        exact AG hc [.tmp 2] rfl (.inl rfl) (by simp) (by rw[←hr];first|exact eR|refine Av ?_)
end
/- typed.Total: plain; slices.Clone of arcs. -/
section
def Ql:Ah:={ ins:=[Iw],pre:=fun(l,_)=>List.length l≤100000,out:=fun(l,_)=>[.own 53 BC l] }
theorem kG:Ao Tryz.prog 48 Ql:=by
 refine AW Tryz.func48 (by kernel_rfl) rfl Tryz.ntmps48 (by decide) (by kernel_rfl) (AF []) AI ?_
 rintro w0 O0 ⟨l,u⟩ hc-hl
 have hl:List.length l≤100000:=hl
 simp only[Ql,AM]
 repeat'(first|exact trivial|refine eS rfl ?_|refine AB ?_|refine rX [0,2,4] hc ?_ ?_|refine rC ?_ ?_<;>intro AA<;>try(cases AA;done))
 refine cP 1 hc ?_ ?_
 ·trivial
 ·refine Tg hc false rfl rfl ?_
  intro b hb
  refine rL [0,4] hc ?_ ?_
  ·trivial
  ·repeat'(first|exact trivial|refine eS rfl ?_|refine AB ?_|refine rX [0,2,4] hc ?_ ?_|refine rC ?_ ?_<;>intro AA<;>try(cases AA;done))
   ·have hl0:l=[]:=hb AA
    subst hl0
    refine Ev.ent (σ':=⟨[(2,.sr 5 BC 0 0)],[(5,.arr 53 BC [])]⟩) ?_ (AC [(5,.nil)] rfl rfl ?_ ?_)
    ·exact Hh hc (.inl rfl) (rv:=.tmp 2) rfl (by simp only[IM,Hf,GX,go_sem,Nat.reduceEqDiff,reduceCtorEq,Nat.reduceAdd,Nat.reduceSub,Nat.reduceMul,Nat.reduceLeDiff,Nat.reduceLT,Int.reduceLE,Int.reduceToNat,Int.reduceNeg,↓reduceIte])
    ·first|exact eN|refine eM ?_
    ·first|exact eN|refine eM ?_
   ·simp only[AO];omega
   ·exact Hh hc (.inl rfl) (rv:=.tmp 2) rfl (by simp only[IM,Hf,GX,go_sem,Nat.reduceEqDiff,reduceCtorEq,Nat.reduceAdd,Nat.reduceSub,Nat.reduceMul,Nat.reduceLeDiff,Nat.reduceLT,Int.reduceLE,Int.reduceToNat,Int.reduceNeg,↓reduceIte])
def H4 (h:AR):JQ:=h.1.map fun t=>t.2.2.2
def Sg (N:List AN) (i:Nat) (v:Int×Int):List AN:=N.set i ((N.getD i (0,[])).1,(N.getD i (0,[])).2++[(v.1,(N.length:Int))])++[(v.2,[])]
def S5 (i:Nat):List (Int×Int)→List AN→Option (List AN)
 | [],N=>some N
 | v :: r,N=>if ((N.getD i (0,[])).2.any fun a=>a.1==v.1)=true then S5 i r N else if 4096≤N.length then none else S5 i r (Sg N i v)
def X3 (h:AR):Nat→Nat→List AN→Option (List AN)
 | 0,_,_=>none
 | k+1,i,N=>if i<N.length then (S5 i (It h (N.getD i (0,[])).1) N).bind (X3 h k (i+1)) else some N
def H5 (h:AR) (f:List AN):List AN×Int :=
 if (CP h f).2=false then ([],12) else if f6 (H4 h)=false then ([],6)
 else match X3 h ((CP h f).1.length+4097) 0 (CP h f).1 with
  | none=>([],7)
  | some N=>BM N
theorem X4 (N:List AN) (i:Nat) (v:Int×Int):(Sg N i v).length=N.length+1:=by simp[Sg]
structure kS (h:AR) (m i k:Nat) (N:List AN):Prop where
 len:N.length≤m
 ty:∀x∈N,0≤x.1∧x.1<(h.1.length:Int)
 lo:∀j,j<i→(N.getD j (0,[])).2.length≤200
 at':(N.getD i (0,[])).2.length≤100+k
 hi:∀j,i<j→(N.getD j (0,[])).2.length≤100
theorem pC {α:Type} (l:List α) (x d:α) (j:Nat):(l++[x]).getD j d=if j<l.length then l.getD j d else if j=l.length then x else d:=by
 simp only[List.getD_eq_getElem?_getD]
 by_cases h:j<l.length
 ·rw[if_pos h,List.getElem?_append_left h]
 ·rw[if_neg h,List.getElem?_append_right (by omega)]
  by_cases e:j=l.length
  ·rw[if_pos e,e,Nat.sub_self];rfl
  ·rw[if_neg e,List.getElem?_eq_none (by simp only[List.length_singleton];omega)];rfl
theorem kH {α:Type} (l:List α) (x d:α) {i:Nat} (h:i<l.length) (j:Nat):(l.set i x).getD j d=if j=i then x else l.getD j d:=by
 simp only[List.getD_eq_getElem?_getD,List.getElem?_set]
 by_cases e:i=j
 ·rw[if_pos e,if_pos h,if_pos e.symm];rfl
 ·rw[if_neg e,if_neg (show ¬j=i by omega)]
theorem pD {N:List AN} {i:Nat} (h:i<N.length) (v:Int×Int) (j:Nat):(Sg N i v).getD j (0,[])=if j=i then ((N.getD i (0,[])).1,(N.getD i (0,[])).2++[(v.1,(N.length:Int))]) else if j=N.length then (v.2,[]) else N.getD j (0,[]):=by
 unfold Sg
 rw[pC,kH _ _ _ h,List.length_set]
 by_cases e1:j=i
 ·rw[if_pos e1,if_pos (by omega),if_pos e1]
 ·rw[if_neg e1,if_neg e1]
  by_cases e2:j<N.length
  ·rw[if_pos e2,if_neg (by omega)]
  ·rw[if_neg e2]
   by_cases e3:j=N.length
   ·rw[if_pos e3,if_pos e3]
   ·rw[if_neg e3,if_neg e3,List.getD_eq_getElem?_getD,List.getElem?_eq_none (by omega)];rfl
theorem kS.add {h:AR} {m i k:Nat} {N:List AN} (hI:kS h m i k N) (hi:i<N.length) (hm:4096≤m) (hl:N.length<4096) {v:Int×Int} (v0:0≤v.2) (v1:v.2<(h.1.length:Int)):kS h m i (k+1) (Sg N i v):=by
 have hg:=fun j=>pD hi v j
 refine⟨by rw[X4];omega,fun x hx=>?_,fun j hj=>?_,?_,fun j hj=>?_⟩
 ·unfold Sg at hx
  rcases List.mem_append.1 hx with hx|hx
  ·rcases List.mem_or_eq_of_mem_set hx with hx|rfl
   ·exact hI.ty x hx
   ·exact(hI.ty (N.getD i (0,[])) (AE N (0,[]) hi) :)
  ·rw[List.mem_singleton.1 hx]
   exact⟨v0,v1⟩
 ·rw[hg,if_neg (by omega),if_neg (by omega)]
  exact hI.lo j hj
 ·rw[hg,if_pos rfl]
  have:=hI.at'
  simp only[List.length_append,List.length_singleton]
  omega
 ·rw[hg,if_neg (by omega)]
  split
  ·simp
  ·exact hI.hi j hj
theorem kS.skip {h:AR} {m i k:Nat} {N:List AN} (hI:kS h m i k N):kS h m i (k+1) N:=⟨hI.len,hI.ty,hI.lo,by have:=hI.at';omega,hI.hi⟩
theorem kS.next {h:AR} {m i k:Nat} {N:List AN} (hI:kS h m i k N) (hk:k≤100):kS h m (i+1) 0 N:=⟨hI.len,hI.ty,fun j hj=>by
 by_cases e:j=i
 ·have:=hI.at'
  rw[e];omega
 ·exact hI.lo j (by omega),hI.hi (i+1) (by omega),fun j hj=>hI.hi j (by omega)⟩
structure pE (h:AR) (f:List AN):Prop where
 inf:o5 h f
 fw:∀t∈h.1,t.2.2.2.length≤100
 vok:VOk (H4 h)
 rw':∀x∈f,x.2.length≤100
theorem wK {h:AR} (hk:Ns h) (hi:Ol h) (hf:Xu h) {f:List AN} (ha:SZ h f):∀ {k i:Nat} {s:IC} {ty:List Int},YL h f.length s→wI h f k i s=some ty→ty.length=f.length∧∀t∈ty,0≤t∧t<(h.1.length:Int)
 | 0,_,_,_,_,e=>by cases e
 | k+1,i,s,ty,hs,e=>by
  unfold wI at e
  split at e
  ·rename_i hl
   obtain⟨n0,n1⟩:=hs.wt _ (AE s.2 (0:Int) hl)
   cases e1:Pq h f (s.2.getD i 0) s with
   | none=>rw[e1]at e;cases e
   | some s1 =>
    rw[e1]at e
    exact wK hk hi hf ha (Xw hk hi hf ha n0 n1 hs e1).1 e
  ·injection e with e
   subst e
   exact⟨hs.len,hs.ty⟩
theorem X5 {h:AR} {f:List AN} (hp:o5 h f):∀x∈(CP h f).1,(0≤x.1∧x.1<(h.1.length:Int))∧∃y∈f,x.2=y.2:=by
 unfold CP
 cases e:Zg h f with
 | none=>intro x hx;cases hx
 | some ty =>
  obtain⟨h1,h2⟩:=wK hp.ok hp.inj hp.ft hp.arcs (wJ hp.ty) e
  intro x hx
  obtain⟨i,hi,rfl⟩:=List.mem_map.1 hx
  have hi:=List.mem_range.1 hi
  exact⟨h2 _ (AE ty (0:Int) (by omega)),_,AE f (0,[]) hi,rfl⟩
theorem kI (h:AR) (f:List AN):(CP h f).1.length≤f.length:=by
 unfold CP
 split
 ·rw[Uc];exact Nat.le_refl _
 ·simp
theorem pF {h:AR} {f:List AN} (hp:pE h f):kS h (max 4096 (CP h f).1.length) 0 0 (CP h f).1:=by
 have hr:∀j,((CP h f).1.getD j (0,[])).2.length≤100:=fun j=>by
  by_cases hj:j<(CP h f).1.length
  ·obtain⟨-,y,hy,e⟩:=X5 hp.inf _ (AE (CP h f).1 (0,[]) hj)
   rw[e]
   exact hp.rw' y hy
  ·rw[List.getD_eq_getElem?_getD,List.getElem?_eq_none (by omega)]
   simp
 exact⟨Nat.le_max_right _ _,fun x hx=>(X5 hp.inf x hx).1,fun j hj=>by omega,hr 0,fun j _=>hr j⟩
end
end Go.Proofs.YtdapahgnpbehbaaGreat.Fw
