/- Contracts of the program's and the reference's functions, and the plain laws of what they compute: T12 T16 T17 T18 R08a P3 P4 P5 P2 P7 W1 W2 W3 W4 D2 D3 W5 U1 U2 U3 U4 U5 U6 U7 U8 U9 U10 U11 U12 N8 N9 V1 V2 V4 V5 V6 V9 V10 T19 L18. -/
/- typed.Total: the walk. -/
import Derived.Test.YtdapahgnpbehbaaGreatJYC
import Derived.Test.YtdapahgnpbehbaaGreatJZI
import Derived.Test.YtdapahgnpbehbaaGreatJYB
import Derived.Test.YtdapahgnpbehbaaGreatJZJ
import Derived.Test.YtdapahgnpbehbaaGreatJYA
set_option linter.unusedVariables false
set_option linter.unusedSimpArgs false
namespace Go.Proofs.YtdapahgnpbehbaaGreat.Fw
open Go
attribute [local irreducible] Ev
attribute [local go_sem] PO AM List.toList_toArray BX evG evK Pw DK Gn Da Cz Eh KA Hb Bm B0 HG BD CA frz Sq FL CU Aq EI BE AV.frz AV.frzs AV.drp AV.drps AV.names AV.namess aq FO HV Ge L7 F4 A2 A5 G2 DM FP DN QQX FQ FT Mn J4 Et GM EK Cs Mo Lj Zq G7 GT HW D9 Ci F7 Gg Ct L8 Bw Cu DP Lk GU Ll IE F8 Gh B9 B5 EL Cj FW CV DQ CW Cv Ds BD B8 Lq Li Id EU F6 F5 Gf I2 J7 IG Ha HY Gk KY HZ Gl Pv J9 J8 AV.trn AV.trns DE Bv Obj.trn HC RR CL CQ CK Cw Bo DR Ae lk Eq E2 FN gG Sp Nt Ss KX YH YI kL AV.cells Bn Gz KV Gj J6 Bx I0 Ty.cell1 FM Dd Cg Eg Iz Dc H9 ID L6 Cr Fx JT L5 Mm Iy H8 Ps Qm KW I1 CM G0 RV.flat Ty.flat Ty.size St.add upd del BJ Value.oneCell' Ic Ty.dflt FK QQQ Ej IU List.take_succ_cons List.take_zero List.length_cons PQ PR IT Fi GZ EX FB WM C0 HL HN HO HP Jb Jc GQ Fc Ki Option.map_some Option.map_none Option.bind_some Option.getD_some Option.getD_none Option.isNone_none Option.isNone_some Bool.and_true Bool.true_and Bool.and_false Bool.false_and Bool.not_true Bool.not_false if_true if_false List.length_cons List.length_nil and_true true_and and_self List.all_cons List.all_nil List.append_nil List.nil_append List.cons_append List.getElem?_cons_zero List.getElem?_cons_succ List.getElem?_nil List.map_cons List.map_nil List.set_cons_zero List.set_cons_succ List.isEmpty_nil List.isEmpty_cons decide_true decide_false beq_self_eq_true bne_self_eq_false Nat.zero_add Nat.add_zero Nat.sub_zero Int.toNat_natCast Int.toNat_zero Int.toNat_one List.take_length List.length_append List.length_singleton true_or or_true or_self false_or or_false Ty.agg.injEq Ty.slice.injEq Ty.prod.injEq Ty.int.injEq Option.some.injEq beq_iff_eq JB evMG evMQ Z7 Fh IP Bd HA Fe KE G9 Fg Ff GR Hi Ii JA Ij MJ GY IQ IR E8 AX Ac Op.operands Call.operands List.filterMap_cons List.filterMap_nil List.append_eq Bool.cond_false_right Bool.cond_true_left cond_true cond_false implies_true decide_eq_true_eq beq_true beq_false Bool.or_true Bool.or_false Bool.true_or Bool.false_or Option.isSome_some Array.empty_append List.append_toArray EJ HH DS Fz Pu J5 Dr D5 D0 GV FU Gi HX Nu Sr IA pX Gm EF EV FX Al PT List.drop_zero Cc F0 Pz CO Hj BP AV.fgt AV.fgts Obj.fgt Ab Ak AX Cb JC BI Fj List.any_cons List.any_nil Vo RE P0 RF JD Ln qs List.flatMap_cons List.flatMap_nil List.cons_append tn QA HD List.take_succ_cons List.drop_succ_cons QB Fk BQ RS GE B2 CR Ag Du Gp BV DW Cl Fa Fb Eu GC
attribute [local go_sem] xH ty2 ty3 ty4 ty5 ty9 rK rO rQ rR rS rT rU rV rW rZ r8 r9 sA sB sC sD sE sF sG sH sI sJ sK sL sM sN sO sP sQ sR sS sT sU sV sW sX sY sZ s0 s5 s6 s7 s8 s9 tA tB tC tD tE tF tG tH tI tJ tK tL tM tN tP tQ tR tS tT tU tV tW tX tY tZ t5 t6 t7 t8 t9 aN aO aP aQ aR aU aV aW aX aY aZ a9 bA bB bC bD bE bF bG bH bI bJ bK bL bM bN bO bP bQ bR bS bT bU bV bW bX bZ b4 b5 b6 b7 b8 b9 cA cB cC cE cF cG cH cI cJ cK cL cM cN cO cQ cR cS cU cV cW cX cZ c6 c7 c8 c9 dA dB dC dD dE dF dG dH dI dJ dK dL dM dN dP dQ dR dS dT dU dV dW dX dY dZ d3 d4 d5 d6 d7 d8 d9 eA eB eC eD eE eF eG eH eI eJ eK eL eO eP eQ eU eW eX
attribute [local go_sem] PO AM List.toList_toArray BX evG evK Pw DK Gn Da Cz Eh KA Hb Bm B0 HG BD CA frz Sq FL CU Aq EI BE AV.frz AV.frzs AV.drp AV.drps AV.names AV.namess aq FO HV Ge L7 F4 A2 A5 G2 DM FP DN QQX FQ FT Mn J4 Et GM EK Cs Mo Lj Zq G7 GT HW D9 Ci F7 Gg Ct L8 Bw Cu DP Lk GU Ll IE F8 Gh B9 B5 EL Cj FW CV DQ CW Cv Ds BD B8 Lq Li Id EU F6 F5 Gf I2 J7 IG Ha HY Gk KY HZ Gl Pv J9 J8 AV.trn AV.trns DE Bv Obj.trn HC RR CL CQ CK Cw Bo DR Ae lk Eq E2 FN gG Sp Nt Ss KX YH YI kL AV.cells Bn Gz KV Gj J6 Bx I0 Ty.cell1 FM Dd Cg Eg Iz Dc H9 ID L6 Cr Fx JT L5 Mm Iy H8 Ps Qm KW I1 CM G0 RV.flat Ty.flat Ty.size St.add upd del BJ Value.oneCell' Ic Ty.dflt FK QQQ Ej IU List.take_succ_cons List.take_zero List.length_cons PQ PR IT Fi GZ EX FB WM C0 HL HN HO HP Jb Jc GQ Fc Ki Option.map_some Option.map_none Option.bind_some Option.getD_some Option.getD_none Option.isNone_none Option.isNone_some Bool.and_true Bool.true_and Bool.and_false Bool.false_and Bool.not_true Bool.not_false if_true if_false List.length_cons List.length_nil and_true true_and and_self List.all_cons List.all_nil List.append_nil List.nil_append List.cons_append List.getElem?_cons_zero List.getElem?_cons_succ List.getElem?_nil List.map_cons List.map_nil List.set_cons_zero List.set_cons_succ List.isEmpty_nil List.isEmpty_cons decide_true decide_false beq_self_eq_true bne_self_eq_false Nat.zero_add Nat.add_zero Nat.sub_zero Int.toNat_natCast Int.toNat_zero Int.toNat_one List.take_length List.length_append List.length_singleton true_or or_true or_self false_or or_false Ty.agg.injEq Ty.slice.injEq Ty.prod.injEq Ty.int.injEq Option.some.injEq beq_iff_eq JB evMG evMQ Z7 Fh IP Bd HA Fe KE G9 Fg Ff GR Hi Ii JA Ij MJ GY IQ IR E8 AX Ac Op.operands Call.operands List.filterMap_cons List.filterMap_nil List.append_eq Bool.cond_false_right Bool.cond_true_left cond_true cond_false implies_true decide_eq_true_eq beq_true beq_false Bool.or_true Bool.or_false Bool.true_or Bool.false_or Option.isSome_some EJ HH DS Fz Pu J5 Dr D5 D0 GV FU Gi HX Nu Sr IA pX Gm EF EV FX Al PT List.drop_zero Cc F0 Pz CO Hj BP AV.fgt AV.fgts Obj.fgt Ab Ak AX Cb JC BI Fj List.any_cons List.any_nil Vo RE P0 RF JD Ln qs List.flatMap_cons List.flatMap_nil List.cons_append tn QA HD List.take_succ_cons List.drop_succ_cons QB Fk BQ RS GE B2 CR Ag Du Gp BV DW Cl Fa Fb Eu GC
set_option maxRecDepth 100000
set_option maxHeartbeats 4000000
section
attribute [local go_sem] Ot X2 Ql Jz
attribute [local go_sem] RZ Yo ne_eq not_false_eq_true
def Sh:Ah:={ ins:=[Ml,Gr],pre:=fun(h,f,_)=>pE h f,out:=fun(h,f,_)=>[.p Gr (H5 h f).1,.p Rb (H5 h f).2] }
attribute [local go_sem] Sh
theorem pG:Ao Tryz.prog 21 Sh:=by
 refine AW Tryz.func21 (by kernel_rfl) rfl Tryz.ntmps21 (by decide) (by kernel_rfl) (AF [(18,Ot),(24,X2),(48,Ql),(51,Jz)] [] [(57,53),(112,53)]) (AD Xy (AD vT (AD kG (AD UU AI)))) ?_
 rintro w0 O0 ⟨⟨ht,hf⟩,f,u⟩ hc-hp
 have hp:pE (ht,hf) f:=hp
 have hhl:ht.length≤256:=hp.inf.ok.2
 simp only[Sh,AM]
 repeat'(first|exact trivial|refine eS rfl ?_|refine AB ?_|refine rX [0,1,2,3,4,5,6,7,8,10,11,13,14,16,24,27,28,29,30,41,44,45,46,47,63,75,76,77,78,87,90] hc ?_ ?_|refine rC ?_ ?_<;>intro AA<;>try(cases AA;done))
 ·exact hp.inf
 ·have hr:H5 (ht,hf) f=([],12):=if_pos AA
  exact AG hc [.cell 4 25,.tmp 5] rfl (.inl rfl) (by simp) (by rw[hr];first|exact eR|refine Av ?_)
 ·have hok1:¬(CP (ht,hf) f).2=false:=by rw[AA];simp
  have hvl:(H4 (ht,hf)).length=ht.length:=by simp[H4]
  refine AJ (ι:={i:Nat//i≤ht.length}) (fun i=>⟨[(2,.bp 2 [] 0),(4,.bp 4 [] 0),(6,.bp 6 [] 0),(8,.sr 37 Wg 0 i.1),(27,.p Tf ht),(28,.p (.int .i64) (ht.length:Int)),(29,.p (.int .i64) (i.1:Int))],[(6,.box 25 true [.p HR (CP (ht,hf) f).1]),(4,.box 25 true [.raw (.slice none 0 0)]),(2,.box 31 true [.p Tf ht,.p Vp hf]),(37,.arr 82 Wg ((H4 (ht,hf)).take i.1))]⟩) (fun i=>ht.length-i.1) ⟨0,Nat.zero_le _⟩ (AC [(6,.nm 6),(4,.nm 4),(2,.nm 2),(37,.nil)] rfl rfl ?_ ?_) (fun i=>?_)
  ·first|exact eN|refine eM ?_
  ·first|exact eN|refine eM ?_
  ·obtain⟨i,hi⟩:=i
   have hvs:i<ht.length→(H4 (ht,hf)).take i++[(List.getD ht i (ByteArray.empty,[],[],[])).2.2.2]=(H4 (ht,hf)).take (i+1):=fun h=>by
    rw[Au (H4 (ht,hf)) [] (by rw[hvl];exact h)]
    simp[H4,List.getD_eq_getElem?_getD,h]
   have hvt:((H4 (ht,hf)).take i).length=i:=by rw[List.length_take,hvl];omega
   have hte:((H4 (ht,hf)).take i).take i=(H4 (ht,hf)).take i:=by rw[List.take_take,Nat.min_self]
   simp only
   have hve:i=ht.length→List.take i (List.take i (H4 (ht,hf)))=H4 (ht,hf):=fun e=>by
    rw[hte]
    exact List.take_of_length_le (by rw[hvl];omega)
   repeat'(first|exact trivial|refine eS rfl ?_|refine AB ?_|refine rX [0,1,2,3,4,5,6,7,8,10,11,13,14,16,24,27,28,29,30,41,44,45,46,47,63,75,76,77,78,87,90] hc ?_ ?_|refine rC ?_ ?_<;>intro AA<;>try(cases AA;done))
   ·exact AA
   ·simp only[AO];omega
   ·omega
   ·have hi2:i<ht.length:=Int.ofNat_lt.1 AA
    have hv2:=hvs hi2
    refine⟨⟨i+1,hi2⟩,by simp only;omega,AC [(6,.nm 6),(4,.nm 4),(2,.nm 2),(37,.nm 37)] rfl rfl ?_ ?_⟩
    ·simp only[←hv2]
     first|exact eN|refine eM ?_
     rw[hte]
    ·first|exact eN|refine eM ?_
   ·rw[hve (by exact eV)]
    exact hp.vok
   ·have he:=hve (by exact eV)
    rw[he]at AA
    have hr:H5 (ht,hf) f=([],6):=by
     unfold H5
     rw[if_neg hok1,if_pos AA]
    exact AG hc [.cell 4 25,.tmp 5] rfl (.inl rfl) (by simp) (by rw[hr];first|exact eR|refine Av ?_)
   ·have he:=hve (by exact eV)
    rw[he]at AA
    have hti:=pF hp
    have hxl:=kI (ht,hf) f
    have hgl:=hp.inf.good.1
    have hr:H5 (ht,hf) f=match X3 (ht,hf) ((CP (ht,hf) f).1.length+4097) 0 (CP (ht,hf) f).1 with
      | none=>([],7)
      | some N=>BM N:=by
     unfold H5
     rw[if_neg hok1,if_neg (by rw[AA];simp)]
     rfl
    generalize (CP (ht,hf) f).1=x at *
    refine AJ (ι:={j:Nat//j≤x.length}) (fun j=>⟨[(2,.bp 2 [] 0),(4,.bp 4 [] 0),(11,.sr 58 Rc 0 j.1),(44,.p HR x),(45,.p (.int .i64) (x.length:Int)),(46,.p (.int .i64) (j.1:Int))],[(4,.box 25 true [.raw (.slice none 0 0)]),(2,.box 31 true [.p Tf ht,.p Vp hf]),(58,.nest 49 53 T3 BC (x.take j.1) none)]⟩) (fun j=>x.length-j.1) ⟨0,Nat.zero_le _⟩ (AC [(4,.nm 4),(2,.nm 2),(58,.nil)] rfl rfl ?_ ?_) (fun j=>?_)
    ·first|exact eN|refine eM ?_
    ·first|exact eN|refine eM ?_
    ·obtain⟨j,hj⟩:=j
     have hrl:∀y∈x,y.2.length≤100:=fun y hy=>by
      obtain⟨k,hk,rfl⟩:=List.mem_iff_getElem.1 hy
      have e:x.getD k (0,[])=x[k]:=by rw[List.getD_eq_getElem?_getD,List.getElem?_eq_getElem hk];rfl
      rw[←e]
      by_cases h0:k=0
      ·rw[h0];exact hti.at'
      ·exact hti.hi k (by omega)
     simp only
     repeat'(first|exact trivial|refine eS rfl ?_|refine AB ?_|refine rX [0,1,2,3,4,5,6,7,8,10,11,13,14,16,24,27,28,29,30,41,44,45,46,47,63,75,76,77,78,87,90] hc ?_ ?_|refine rC ?_ ?_<;>intro AA<;>try(cases AA;done))
     ·exact AA
     ·have hj2:j<x.length:=Int.ofNat_lt.1 AA
      have hrow:=hrl _ (AE x (0,[]) hj2)
      refine Cp drawsAny hc 9 [([1,2,3,4,5,6],7),([0],8)] [] (by kernel_rfl) (RW ?_ ?_)
      ·dsimp only[Ty.den]at *
       omega
      ·refine A1H hc ?_ ?_
       ·rfl
       ·refine RW ?_ ?_
        ·trivial
        ·refine Sx hc [58,57] ?_ ?_
         ·have e:(List.take j x).length=j:=by rw[List.length_take];omega
          rw[e]
          simp only[AO]
          exact⟨trivial,by omega⟩
         ·refine Sm [0,1,2,3,4,5,6,7,8,10,11,13,14,16,24,27,28,29,30,41,44,45,46,47,63,75,76,77,78,87,90] hc ?_ ?_ ?_
          ·trivial
          ·trivial
          ·repeat'(first|exact trivial|refine eS rfl ?_|refine AB ?_|refine rX [0,1,2,3,4,5,6,7,8,10,11,13,14,16,24,27,28,29,30,41,44,45,46,47,63,75,76,77,78,87,90] hc ?_ ?_|refine rC ?_ ?_<;>intro AA<;>try(cases AA;done))
           ·omega
           ·have e:=Au x (0,[]) hj2
            refine⟨⟨j+1,hj2⟩,by simp only;omega,AC [(4,.nm 4),(2,.nm 2),(58,.nm 58)] rfl rfl ?_ ?_⟩
            ·simp only[e]
             first|exact eN|refine eM ?_
            ·first|exact eN|refine eM ?_
             rw[List.length_take];omega
     ·have hj2:j=x.length:=by exact eV
      subst hj2
      have hxx:x.take x.length=x:=List.take_of_length_le (Nat.le_refl _)
      rw[hxx]
      refine AJ (ι:={s:Nat×List AN//s.1≤s.2.length∧kS (ht,hf) (max 4096 x.length) s.1 0 s.2∧∃k,max 4096 x.length+1≤k+s.1∧X3 (ht,hf) (x.length+4097) 0 x=X3 (ht,hf) k s.1 s.2}) (fun s=>⟨[(2,.bp 2 [] 0),(4,.bp 4 [] 0),(11,.sr 58 Rc 0 s.1.2.length),(14,.p (.int .i64) (s.1.1:Int))],[(4,.box 25 true [.raw (.slice none 0 0)]),(2,.box 31 true [.p Tf ht,.p Vp hf]),(58,.nest 49 53 T3 BC s.1.2 none)]⟩) (fun s=>max 4096 x.length+1-s.1.1) ⟨(0,x),Nat.zero_le _,hti,x.length+4097,by omega,rfl⟩ (AC [(4,.nm 4),(2,.nm 2),(58,.nm 58)] rfl rfl ?_ ?_) (fun s=>?_)
      ·first|exact eN|refine eM ?_
      ·first|exact eN|refine eM ?_
      ·obtain⟨⟨i,N⟩,hiN,hI,k,hk,he⟩:=s
       simp only at hiN hI he hk ⊢
       have hNl:=hI.len
       repeat'(first|exact trivial|refine eS rfl ?_|refine AB ?_|refine rX [0,1,2,3,4,5,6,7,8,10,11,13,14,16,24,27,28,29,30,41,44,45,46,47,63,75,76,77,78,87,90] hc ?_ ?_|refine rC ?_ ?_<;>intro AA<;>try(cases AA;done))
       ·have hil:i<N.length:=Int.ofNat_lt.1 AA
        exact⟨AA,hI.ty _ (AE N (0,[]) hil)⟩
       ·have hil:i<N.length:=Int.ofNat_lt.1 AA
        obtain⟨q0,q1⟩:=hI.ty _ (AE N (0,[]) hil)
        obtain⟨k,rfl⟩:∃k',k=k'+1:=⟨k-1,by omega⟩
        have hst:X3 (ht,hf) (k+1) i N=(S5 i (It (ht,hf) (N.getD i (0,[])).1) N).bind (X3 (ht,hf) k (i+1)):=if_pos hil
        rw[hst]at he
        have hmem:=UZ (h:=(ht,hf)) q0 q1
        have hLw:(It (ht,hf) (N.getD i (0,[])).1).length≤100:=hp.fw _ hmem
        have hLv:∀a∈It (ht,hf) (N.getD i (0,[])).1,0≤a.2∧a.2<((ht,hf):AR).1.length:=hp.inf.ft.val _ hmem
        have hLe:∀l,l=It (ht,hf) (N.getD i (0,[])).1→(List.getD ht (Int.toNat (N.getD i (0,[])).1) (ByteArray.empty,[],[],[])).2.2.2=l:=fun l e=>by rw[e];rfl
        generalize hL0:It (ht,hf) (N.getD i (0,[])).1=L at *
        rw[hLe L rfl]
        clear hLe hL0
        refine AJ (ι:={y:Nat×List AN//y.1≤L.length∧kS (ht,hf) (max 4096 x.length) i y.1 y.2∧i<y.2.length∧S5 i L N=S5 i (L.drop y.1) y.2}) (fun y=>⟨[(2,.bp 2 [] 0),(4,.bp 4 [] 0),(11,.sr 58 Rc 0 y.1.2.length),(14,.p (.int .i64) (i:Int)),(75,.p Wg L),(76,.p (.int .i64) (L.length:Int)),(77,.p (.int .i64) (y.1.1:Int))],[(4,.box 25 true [.raw (.slice none 0 0)]),(2,.box 31 true [.p Tf ht,.p Vp hf]),(58,.nest 49 53 T3 BC y.1.2 none)]⟩) (fun y=>L.length-y.1.1) ⟨(0,N),Nat.zero_le _,hI,hil,rfl⟩ (AC [(4,.nm 4),(2,.nm 2),(58,.nm 58)] rfl rfl ?_ ?_) (fun y=>?_)
        ·first|exact eN|refine eM ?_
        ·first|exact eN|refine eM ?_
        ·obtain⟨⟨j,M⟩,hj,hJ,hiM,hM⟩:=y
         simp only at hj hJ hiM hM ⊢
         have hMl:=hJ.len
         repeat'(first|exact trivial|refine eS rfl ?_|refine AB ?_|refine rX [0,1,2,3,4,5,6,7,8,10,11,13,14,16,24,27,28,29,30,41,44,45,46,47,63,75,76,77,78,87,90] hc ?_ ?_|refine rC ?_ ?_<;>intro AA<;>try(cases AA;done))
         ·exact AA
         ·have hjl:j<L.length:=Int.ofNat_lt.1 AA
          have hst1:S5 i (L.drop j) M=if ((M.getD i (0,[])).2.any fun a=>a.1==(L.getD j (0,0)).1)=true then S5 i (L.drop (j+1)) M else if 4096≤M.length then none else S5 i (L.drop (j+1)) (Sg M i (L.getD j (0,0))):=by rw[KS (0,0) hjl];rfl
          obtain⟨v0,v1⟩:=hLv _ (AE L (0,0) hjl)
          have hrow:=hJ.at'
          generalize hvv:L.getD j (0,0)=v at *
          refine cP 6 hc ?_ ?_
          ·exact Int.ofNat_lt.2 hiM
          ·have key:=o8 v (M.getD i (0,[])).2 (by omega)
           generalize List.any (M.getD i (0,[])).2 (fun a=>(Prod.fst a==v.1))=an at *
           refine A1I hc key rfl ?_
           refine rL [0,1,2,3,4,5,6,7,8,10,11,13,14,16,24,27,28,29,30,41,44,45,46,47,63,75,76,77,78,87,90] hc ?_ ?_
           ·trivial
           ·repeat'(first|exact trivial|refine eS rfl ?_|refine AB ?_|refine rX [0,1,2,3,4,5,6,7,8,10,11,13,14,16,24,27,28,29,30,41,44,45,46,47,63,75,76,77,78,87,90] hc ?_ ?_|refine rC ?_ ?_<;>intro AA<;>try(cases AA;done))
            ·omega
            ·rename_i han
             rw[if_pos AA]at hst1
             refine⟨⟨(j+1,M),hjl,hJ.skip,hiM,hM.trans hst1⟩,by simp only;omega,AC [(4,.nm 4),(2,.nm 2),(58,.nm 58)] rfl rfl ?_ ?_⟩
             ·first|exact eN|refine eM ?_
             ·first|exact eN|refine eM ?_
            ·have han:an=false:=by assumption
             rw[if_neg (by rw[han];simp),if_pos (Int.ofNat_le.1 AA)]at hst1
             rw[he,hM,hst1]at hr
             have hr:H5 (ht,hf) f=([],7):=hr
             exact AG hc [.cell 4 25,.tmp 5] rfl (.inl rfl) (by simp) (by rw[hr];first|exact eR|refine Av ?_)
            ·have hlt:M.length<4096:=Int.ofNat_lt.1 AA
             have han:an=false:=by assumption
             rw[if_neg (by rw[han];simp),if_neg (by omega)]at hst1
             refine Cp drawsAny hc 14 [([2,3,4,5,6,7,8,9,10,11,12],13)] [0,1] (by kernel_rfl) (RW ?_ ?_)
             ·exact Int.ofNat_lt.2 hiM
             ·refine mxN hc 58 ?_ ?_
              ·simp only[AO]
               dsimp only[Ty.den]at *
               omega
              ·refine Sm [0,1,2,3,4,5,6,7,8,10,11,13,14,16,24,27,28,29,30,41,44,45,46,47,63,75,76,77,78,87,90] hc ?_ ?_ ?_
               ·trivial
               ·exact Int.ofNat_lt.2 hiM
               ·repeat'(first|exact trivial|refine eS rfl ?_|refine AB ?_|refine rX [0,1,2,3,4,5,6,7,8,10,11,13,14,16,24,27,28,29,30,41,44,45,46,47,63,75,76,77,78,87,90] hc ?_ ?_|refine rC ?_ ?_<;>intro AA<;>try(cases AA;done))
                ·rw[List.length_set]
                 simp only[AO]
                 exact⟨trivial,by omega⟩
                ·omega
                ·refine⟨⟨(j+1,Sg M i v),hjl,hJ.add hiM (by omega) hlt v0 v1,by rw[X4];omega,hM.trans hst1⟩,by simp only;omega,AC [(4,.nm 4),(2,.nm 2),(58,.nm 58)] rfl rfl ?_ ?_⟩
                 ·unfold Sg
                  first|exact eN|refine eM ?_
                 ·unfold Sg
                  first|exact eN|refine eM ?_
         ·omega
         ·have hd:L.drop j=[]:=List.drop_eq_nil_of_le (Int.ofNat_le.1 AA)
          rw[hd]at hM
          have hM:S5 i L N=some M:=hM
          rw[hM]at he
          refine⟨⟨(i+1,M),hiM,hJ.next (by omega),k,by simp only;omega,he⟩,by simp only;omega,AC [(4,.nm 4),(2,.nm 2),(58,.nm 58)] rfl rfl ?_ ?_⟩
          ·first|exact eN|refine eM ?_
          ·first|exact eN|refine eM ?_
       ·have hil:¬i<N.length:=fun h=>by
         have:=Int.ofNat_le.1 AA
         omega
        obtain⟨k,rfl⟩:∃k',k=k'+1:=⟨k-1,by omega⟩
        have hst:X3 (ht,hf) (k+1) i N=some N:=if_neg hil
        rw[he,hst]at hr
        have hr:H5 (ht,hf) f=BM N:=hr
        have hs2:L2 N:=fun y hy=>by
         obtain⟨k,hk,rfl⟩:=List.mem_iff_getElem.1 hy
         have e:N.getD k (0,[])=N[k]:=by rw[List.getD_eq_getElem?_getD,List.getElem?_eq_getElem hk];rfl
         rw[←e]
         exact hI.lo k (by omega)
        refine HQ [58] ?_
        repeat'(first|exact trivial|refine eS rfl ?_|refine AB ?_|refine rX [0,1,2,3,4,5,6,7,8,10,11,13,14,16,24,27,28,29,30,41,44,45,46,47,63,75,76,77,78,87,90] hc ?_ ?_|refine rC ?_ ?_<;>intro AA<;>try(cases AA;done))
        ·exact hs2
        ·exact AG hc [.cell 4 25,.tmp 5] rfl (.inl rfl) (by simp) (by rw[hr];first|exact eR|refine Av ?_)
end
/- Functions of grammarlablaw14: hierarchy, fits, of, node. -/
section
attribute [local go_sem] K3 K2 Me Lb
def J1:Ah:={ ins:=[Es],pre:=fun _=>True,out:=fun(d,_)=>[.p Ml (DB d)] }
attribute [local go_sem] J1
theorem Ug:Ao Tryz.prog 14 J1:=by
 refine AW Tryz.func14 (by kernel_rfl) rfl Tryz.ntmps14 (by decide) (by kernel_rfl) (AF [(36,K3),(37,K2)]) (AD ZJ (AD ZH AI)) ?_
 rintro w0 O0 ⟨d,u⟩ hc - -
 simp only[J1,AM]
 repeat'(first|exact trivial|refine eS rfl ?_|refine AB ?_|refine rX [0,2,3,4,5,9,16] hc ?_ ?_|refine rC ?_ ?_<;>intro AA<;>try(cases AA;done))
 ·have h1:DB d=(BB d).1:=by unfold DB;rw[if_pos ⟨by exact eV,AA⟩]
  exact AG hc [.cell 2 31] rfl (.inl rfl) (by simp) (by rw[h1];first|exact eR|refine Av ?_)
 ·have h1:DB d=(BB Hy).1:=by unfold DB;rw[if_neg (fun h=>AA h.2)]
  exact AG hc [.cell 2 31] rfl (.inl rfl) (by simp) (by rw[h1];first|exact eR|refine Av ?_)
 ·have h1:DB d=(BB Hy).1:=by
   unfold DB
   rw[if_neg]
   intro h
   have:=h.1
   exact eV
  exact AG hc [.cell 2 31] rfl (.inl rfl) (by simp) (by rw[h1];first|exact eR|refine Av ?_)
def X6:Ah:={ ins:=[HR],pre:=fun _=>True,out:=fun(l,_)=>[.p Gr l] }
attribute [local go_sem] X6
theorem vU:Ao Tryz.prog 33 X6:=by
 refine AW Tryz.func33 (by kernel_rfl) rfl Tryz.ntmps33 (by decide) (by kernel_rfl) (AF []) AI ?_
 rintro w0 O0 ⟨t,u⟩ hc - -
 simp only[X6,AM]
 repeat'(first|exact trivial|refine eS rfl ?_|refine AB ?_|refine rX [0,2] hc ?_ ?_|refine rC ?_ ?_<;>intro AA<;>try(cases AA;done))
 exact AG hc [.cell 2 25] rfl (.inl rfl) (by simp) (by first|exact eR|refine Av ?_)
def GL (l:List Int) (n:Nat):List (Int×Int):=(List.range n).map fun i=>(l.getD (2*i) 0,l.getD (2*i+1) 0)
theorem X7 (l:List Int) (n:Nat):GL l (n+1)=GL l n++[(l.getD (2*n) 0,l.getD (2*n+1) 0)]:=by simp[GL,List.range_succ]
theorem Zk (l:List Int) (n:Nat):(GL l n).length=n:=by simp[GL]
def Np:Ah:={ ins:=[T3,Jj],pre:=fun(_,l,_)=>List.length l≤1000,out:=fun(t,l,_)=>[.p Rc (t,GL l (List.length l / 2))] }
attribute [local go_sem] Np
theorem kJ:Ao Tryz.prog 34 Np:=by
 refine AW Tryz.func34 (by kernel_rfl) rfl Tryz.ntmps34 (by decide) (by kernel_rfl) (AF []) AI ?_
 rintro w0 O0 ⟨t,l,u⟩ hc-hl
 simp only[Np,AM]
 repeat'(first|exact trivial|refine eS rfl ?_|refine AB ?_|refine rX [0,1,4,5,6,13] hc ?_ ?_|refine rC ?_ ?_<;>intro AA<;>try(cases AA;done))
 have hl:l.length≤1000:=hl
 refine AJ (ι:={k:Nat//k≤l.length / 2}) (fun k=>⟨[(1,.p Jj l),(4,.bp 4 [] 0),(5,.bp 5 [] 0),(6,.p (.int .i64) (2*(k.1:Int)))],[(4,.box 49 true [.p T3 (0:Int),.raw (.slice none 0 0)]),(5,.box 49 true [.p T3 t,.sr 29 BC 0 (GL l k.1).length]),(29,.arr 53 BC (GL l k.1))]⟩) (fun k=>l.length / 2-k.1) ⟨0,Nat.zero_le _⟩ (AC [(4,.nm 4),(5,.nm 5),(29,.nil)] rfl rfl ?_ ?_) (fun k=>?_)
 ·first|exact eN|refine eM ?_
  exact⟨rfl,rfl⟩
 ·first|exact eN|refine eM ?_
  rfl
 ·obtain⟨k,hk⟩:=k
  have hpl:=Zk l k
  have hps:=X7 l k
  simp only
  repeat'(first|exact trivial|refine eS rfl ?_|refine AB ?_|refine rX [0,1,4,5,6,13] hc ?_ ?_|refine rC ?_ ?_<;>intro AA<;>try(cases AA;done))
  ·omega
  ·rw[hpl]
   simp only[AO]
   exact eV
  ·omega
  ·refine⟨⟨k+1,by omega⟩,by simp only;omega,AC [(4,.nm 4),(5,.nm 5),(29,.nm 29)] rfl rfl ?_ ?_⟩
   ·simp only[hps]
    first|exact eN|refine eM ?_
    rw[show (2*(k:Int)).toNat=2*k by omega,show (2*(k:Int)+1).toNat=2*k+1 by omega]
   ·first|exact eN|refine eM ?_
    show (2*(k:Int)+2)=2*((k:Int)+1)
    omega
  ·have hke:k=l.length / 2:=by omega
   subst hke
   exact AG hc [.cell 4 49] rfl (.inl rfl) (by simp) (by first|exact eR|refine Av ?_)
end
/- Plain: the hierarchy of the prelude, and the examples in it. -/
section
def JR:AR:=([(ByteArray.mk #[116,111,112],[8191],[],[]),(ByteArray.mk #[105,110,100,101,120],[60],[0],[]),(ByteArray.mk #[108,105,115,116],[193],[0],[]),(ByteArray.mk #[99,111,110,115],[1],[2],[(2,0),(10,2)]),(ByteArray.mk #[100,108,105,115,116],[2],[0],[(6,2),(7,2)]),(ByteArray.mk #[101,110,116,105,116,121],[4],[1],[]),(ByteArray.mk #[101,118,101,110,116],[8],[1],[]),(ByteArray.mk #[104,97,110,100,108,101],[16],[1],[]),(ByteArray.mk #[110,117,108,108],[128],[2],[]),(ByteArray.mk #[113,101,113],[256],[0],[(3,7),(8,7)]),(ByteArray.mk #[114,101,108],[512],[0],[(5,7)]),(ByteArray.mk #[115,101,109],[1024],[0],[(1,4),(4,1),(9,4),(12,7)]),(ByteArray.mk #[115,105,103,110],[2048],[0],[(0,2),(11,11)])],[(ByteArray.mk #[65,82,71,83],12),(ByteArray.mk #[67,79,78,83],11),(ByteArray.mk #[70,73,82,83,84],3),(ByteArray.mk #[72,73,71,72],9),(ByteArray.mk #[73,78,68,69,88],11),(ByteArray.mk #[76,65,66,69,76],10),(ByteArray.mk #[76,65,83,84],4),(ByteArray.mk #[76,73,83,84],4),(ByteArray.mk #[76,79,87],9),(ByteArray.mk #[82,69,76,83],11),(ByteArray.mk #[82,69,83,84],3),(ByteArray.mk #[83,69,77],12),(ByteArray.mk #[84,79,80],11)])
instance baDec:DecidableEq ByteArray:=fun a b =>
 if h:a.data.toList=b.data.toList then isTrue (by
  cases a
  cases b
  exact congrArg ByteArray.mk (Array.toList_inj.1 h))
 else isFalse fun e=>h (by rw[e])
theorem pH:((DB []).1:List (ByteArray×List Int×List Int×List (Int×Int)))=JR.1:=by decide +kernel
theorem pI:((DB []).2:List (ByteArray×Int))=JR.2:=by decide +kernel
theorem Vj:DB []=JR:=Prod.ext pH pI
theorem J2:Ns JR:=by rw[←Vj];exact(show Ns (if _ then _ else _) by split<;>exact FH _)
theorem H6:Ol JR:=by rw[←Vj];exact(show Ol (if _ then _ else _) by split<;>exact Xa _)
def A19 (h:AR):Bool:=(h.2.all fun x=>decide (0≤x.2)&&decide (x.2<(h.1.length:Int)))&&h.1.all fun t=>t.2.2.2.all fun p=>decide (0≤p.2)&&decide (p.2<(h.1.length:Int))
theorem xQ {h:AR} (e:A19 h=true):Xu h:=by
 unfold A19 at e
 rw[Bool.and_eq_true,List.all_eq_true,List.all_eq_true]at e
 refine⟨fun x hx=>?_,fun t ht p hp=>?_⟩
 ·have:=e.1 x hx
  simpa using this
 ·have:=List.all_eq_true.1 (e.2 t ht) p hp
  simpa using this
theorem Ib:Xu JR:=xQ (by decide +kernel)
def wL (h:AR) (f:List AN):Bool:=decide (f.length≤100)&&f.all fun x=>decide (x.2.length≤100)&&(decide (0≤x.1)&&decide (x.1<(h.1.length:Int)))&&x.2.all fun a=>(decide (0≤a.1)&&decide (a.1<(h.2.length:Int)))&&(decide (0≤a.2)&&decide (a.2<(f.length:Int)))
theorem Mk {h:AR} (hk:Ns h) (hi:Ol h) (hf:Xu h) (hl:h.2.length≤100000) {f:List AN} (e:wL h f=true):o5 h f∧Cq f∧L2 f∧∀x∈f,x.2.length≤100:=by
 unfold wL at e
 rw[Bool.and_eq_true,decide_eq_true_eq,List.all_eq_true]at e
 have e2:∀x∈f,x.2.length≤100∧(0≤x.1∧x.1<(h.1.length:Int))∧∀a∈x.2,UX h f.length a:=fun x hx=>by
  have:=e.2 x hx
  rw[Bool.and_eq_true,Bool.and_eq_true,Bool.and_eq_true,decide_eq_true_eq,decide_eq_true_eq,decide_eq_true_eq,List.all_eq_true]at this
  refine⟨this.1.1,this.1.2,fun a ha=>?_⟩
  have:=this.2 a ha
  rw[Bool.and_eq_true,Bool.and_eq_true,Bool.and_eq_true,decide_eq_true_eq,decide_eq_true_eq,decide_eq_true_eq,decide_eq_true_eq]at this
  exact⟨this.1,this.2⟩
 refine⟨⟨hk,hi,hf,hl,⟨by omega,fun x hx=>⟨by have:=(e2 x hx).1;omega,fun a ha=>((e2 x hx).2.2 a ha).2⟩⟩,fun x hx=>(e2 x hx).2.2,fun x hx=>(e2 x hx).2.1⟩,⟨by omega,fun x hx=>by have:=(e2 x hx).1;omega⟩,fun x hx=>by have:=(e2 x hx).1;omega,fun x hx=>(e2 x hx).1⟩
def A1J (v:JQ):Bool:=v.all fun r=>r.all fun a=>decide (0≤a.2)&&decide (a.2<(v.length:Int))
theorem xR {v:JQ} (e:A1J v=true):VOk v:=fun r hr a ha=>by
 have:=List.all_eq_true.1 (List.all_eq_true.1 e r hr) a ha
 simpa using this
theorem X8:VOk (H4 JR):=xR (by decide +kernel)
theorem f9:∀t∈JR.1,t.2.2.2.length≤100:=by
 have:(JR.1.all fun t=>decide (t.2.2.2.length≤100))=true:=by decide +kernel
 exact fun t ht=>by simpa using List.all_eq_true.1 this t ht
def X9:List AN:=[(12,[(0,1),(11,2)]),(2,[]),(11,[(1,3),(4,6),(9,7),(12,10)]),(4,[(6,4),(7,5)]),(2,[]),(2,[]),(1,[]),(4,[(6,8),(7,9)]),(2,[]),(2,[]),(7,[])]
theorem A1a:CP JR [(0,[(10,1)]),(0,[(2,2)]),(0,[])]=([(3,[(10,1)]),(3,[(2,2)]),(0,[])],true):=by decide +kernel
theorem A1b:CP JR [(8,[(2,1)]),(0,[])]=([],false):=by decide +kernel
theorem A1c:H5 JR [(9,[])]=([(9,[(3,1),(8,2)]),(7,[]),(7,[])],0):=by decide +kernel
theorem A1d:H5 JR [(12,[])]=(X9,0):=by decide +kernel
theorem A1e:Dp JR [(3,[(10,1)]),(0,[])]=11:=by decide +kernel
theorem A1f:Dp JR [(2,[(10,1)]),(2,[])]=10:=by decide +kernel
theorem A1g:Dp JR [(3,[(10,1)]),(3,[(2,2)]),(0,[])]=0:=by decide +kernel
end
/- Functions of grammarlablaw14: exampleHolds. -/
section
attribute [local go_sem] J1 Np X6 Ot Sh J0 XU K4
def YA:Ah:={ ins:=[],pre:=fun _=>True,out:=fun _=>[.p .bool true] }
attribute [local go_sem] YA
theorem vV:Ao Tryz.prog 13 YA:=by
 refine AW Tryz.func13 (by kernel_rfl) rfl Tryz.ntmps13 (by decide) (by kernel_rfl) (AF [(14,J1),(34,Np),(33,X6),(18,Ot),(35,XU),(21,Sh),(20,K4),(15,J0)] [15,17,20,27,30,62,64,67,74,78,83,108,111,117,120]) (AD Ug (AD kJ (AD vU (AD Xy (AD uT (AD pG (AD XQ (AD Ub AI)))))))) ?_
 rintro w0 O0 u hc - -
 simp only[YA,AM]
 have hpe:=Vj
 have hfl:JR.2.length≤100000:=by decide
 have g1:=Mk J2 H6 Ib hfl (f:=[(0,[(10,1)]),(0,[(2,2)]),(0,[])]) (by decide +kernel)
 have g2:=Mk J2 H6 Ib hfl (f:=[(8,[(2,1)]),(0,[])]) (by decide +kernel)
 have g3:=Mk J2 H6 Ib hfl (f:=[(9,[])]) (by decide +kernel)
 have g4:=Mk J2 H6 Ib hfl (f:=[(12,[])]) (by decide +kernel)
 have g5:=Mk J2 H6 Ib hfl (f:=[(3,[(10,1)]),(0,[])]) (by decide +kernel)
 have g6:=Mk J2 H6 Ib hfl (f:=[(2,[(10,1)]),(2,[])]) (by decide +kernel)
 have g7:=Mk J2 H6 Ib hfl (f:=[(3,[(10,1)]),(3,[(2,2)]),(0,[])]) (by decide +kernel)
 have t3:pE JR [(9,[])]:=⟨g3.1,f9,X8,g3.2.2.2⟩
 have t4:pE JR [(12,[])]:=⟨g4.1,f9,X8,g4.2.2.2⟩
 have hft:=Ib
 have r1:=A1a
 have r2:=A1b
 have r3:=A1c
 have r4:=A1d
 have r5:=A1e
 have r6:=A1f
 have r7:=A1g
 have s1:Cq X9:=⟨by decide,by decide⟩
 have hsg:∀i,i<11→(X9.getD i (0,[])).1=[12,2,11,4,2,2,1,4,2,2,(7:Int)].getD i 0:=by decide
 have hsl:X9.length=11:=rfl
 have pe0:GL [] (0 / 2)=[]:=rfl
 have pe1:GL [10,1] (2 / 2)=[(10,1)]:=rfl
 have pe2:GL [2,2] (2 / 2)=[(2,2)]:=rfl
 have pe3:GL [2,1] (2 / 2)=[(2,1)]:=rfl
 have pe4:GL [3,1,8,2] (4 / 2)=[(3,1),(8,2)]:=rfl
 have sm1:Cq [(3,[(10,1)]),(3,[(2,2)]),(0,[])]:=⟨by decide,by decide⟩
 have sm2:Cq [(9,[(3,1),(8,2)]),(7,[]),(7,[])]:=⟨by decide,by decide⟩
 generalize X9=S at *
 generalize JR=h at *
 have he:(h.1,h.2)=h:=rfl
 have hn0:(0:Int) / 2=0:=rfl
 repeat'(first|exact trivial|refine eS rfl ?_|refine AB ?_|refine rP [0,1,2,3,5,6,7,8,9,10,11,82,89,91,92,93,105] hc ?_ ?_|fail)
 simp only[hpe]
 refine Cp drawsAny hc 14 [([0,1,2,3,4,5,6,7,8,9,10,12],13)] [11] (by kernel_rfl) (RW ?_ ?_)
 ·exact g1.1
 ·refine Sx hc [] ?_ ?_
  ·trivial
  ·refine Sm [0,1,2,3,5,6,7,8,9,10,11,82,89,91,92,93,105] hc ?_ ?_ ?_
   ·trivial
   ·trivial
   ·simp only[he,pe0,pe1,pe2,pe3,pe4,r1]
    repeat'(first|exact trivial|refine eS rfl ?_|refine AB ?_|refine rP [0,1,2,3,5,6,7,8,9,10,11,82,89,91,92,93,105] hc ?_ ?_|fail)
    refine Cp drawsAny hc 12 [([0,1,2,3,4,5,6,7,8,10],11)] [9] (by kernel_rfl) (RW ?_ ?_)
    ·exact g2.1
    ·refine Sx hc [] ?_ ?_
     ·trivial
     ·refine Sm [0,1,2,3,5,6,7,8,9,10,11,82,89,91,92,93,105] hc ?_ ?_ ?_
      ·trivial
      ·trivial
      ·simp only[he,pe0,pe1,pe2,pe3,pe4,r2]
       repeat'(first|exact trivial|refine eS rfl ?_|refine AB ?_|refine rP [0,1,2,3,5,6,7,8,9,10,11,82,89,91,92,93,105] hc ?_ ?_|fail)
       refine Cp drawsAny hc 8 [([0,1,2,3,4,6],7)] [5] (by kernel_rfl) (RW ?_ ?_)
       ·exact t3
       ·refine Sx hc [] ?_ ?_
        ·trivial
        ·refine Sm [0,1,2,3,5,6,7,8,9,10,11,82,89,91,92,93,105] hc ?_ ?_ ?_
         ·trivial
         ·trivial
         ·simp only[he,r3]
          repeat'(first|exact trivial|refine eS rfl ?_|refine AB ?_|refine rP [0,1,2,3,5,6,7,8,9,10,11,82,89,91,92,93,105] hc ?_ ?_|fail)
          refine Cp drawsAny hc 8 [([0,1,2,3,4,6],7)] [5] (by kernel_rfl) (RW ?_ ?_)
          ·exact t4
          ·refine Sx hc [] ?_ ?_
           ·trivial
           ·refine Sm [0,1,2,3,5,6,7,8,9,10,11,82,89,91,92,93,105] hc ?_ ?_ ?_
            ·trivial
            ·trivial
            ·simp only[he,r4]
             repeat'(first|exact trivial|refine eS rfl ?_|refine AB ?_|refine rP [0,1,2,3,5,6,7,8,9,10,11,82,89,91,92,93,105] hc ?_ ?_|fail)
             refine rD [0,1,2,3,5,6,7,8,9,10,11,82,89,91,92,93,105] hc ?_ ?_
             ·simp only[pe0,pe1,pe2,pe4]
              exact⟨fun _=>⟨sm1,sm1⟩,fun _=>⟨sm2,sm2⟩⟩
             ·simp only[he,pe0,pe1,pe2,pe3,pe4,L3,show ((0:Int)==0)=true from rfl,Bool.not_true,Bool.or_false]
              repeat'(first|exact trivial|refine eS rfl ?_|refine AB ?_|refine rX [0,1,2,3,5,6,7,8,9,10,11,82,89,91,92,93,105] hc ?_ ?_|refine rC ?_ ?_<;>intro AA<;>try(cases AA;done))
              ·rw[hsl]at AA
               exact absurd rfl AA
              ·have hsl2:(0:Int)+1+1+1+1+1+1+1+1+1+1+1=11:=rfl
               refine AJ (ι:={k:Nat//k≤11}) (fun k=>⟨[(1,.bp 1 [] 0),(2,.bp 2 [] 0),(8,.bp 8 [] 0),(10,.p Jj [12,2,11,4,2,2,1,4,2,2,7]),(91,.p (.int .i64) (11:Int)),(92,.p (.int .i64) (k.1:Int))],[(8,.box 25 true [.p HR S]),(2,.box 25 true [.p HR [(3,[(10,1)]),(3,[(2,2)]),(0,[])]]),(1,.box 31 true [.p Tf h.1,.p Vp h.2])]⟩) (fun k=>11-k.1) ⟨0,Nat.zero_le _⟩ (AC [(8,.nm 8),(2,.nm 2),(1,.nm 1)] rfl rfl ?_ ?_) (fun k=>?_)
               ·first|exact eN|refine eM ?_
               ·first|exact eN|refine eM ?_
                rfl
               ·obtain⟨k,hk⟩:=k
                have hgk:=hsg k
                simp only
                repeat'(first|exact trivial|refine eS rfl ?_|refine AB ?_|refine rX [0,1,2,3,5,6,7,8,9,10,11,82,89,91,92,93,105] hc ?_ ?_|refine rC ?_ ?_<;>intro AA<;>try(cases AA;done))
                ·rw[hsl]
                 exact⟨AA,AA⟩
                ·exact absurd (hgk (by omega)) AA
                ·omega
                ·refine⟨⟨k+1,by omega⟩,by simp only;omega,AC [(8,.nm 8),(2,.nm 2),(1,.nm 1)] rfl rfl ?_ ?_⟩
                 ·first|exact eN|refine eM ?_
                 ·first|exact eN|refine eM ?_
                ·simp only[he,pe0,pe1]
                 exact⟨⟨hft,g5.2.1,g5.2.2.1⟩,fun _=>⟨hft,g6.2.1,g6.2.2.1⟩,fun _=>⟨hft,g7.2.1,g7.2.2.1⟩⟩
                ·simp only[he,pe0,pe1,r5,r6,r7]
                 exact AG hc [.tmp 0] rfl (.inl rfl) (by simp) (by first|exact eR|refine Av ?_)
end
/- Plain: the breadth-first search of grammarlabref08.First. -/
section
open Go
end
/- Functions of path: Clone, firsts, First. -/
section
/-! The plain law -/
theorem getD_set_ne {α:Type} (l:List α) (d v:α) {i j:Nat} (h:i≠j):(l.set i v).getD j d=l.getD j d:=by
 simp only[List.getD_eq_getElem?_getD];rw[List.getElem?_set_ne h]
end
/- Functions of path: firsts, First. -/
section
open Go
end
/- Functions of restrict: Depth. -/
section
open Go
end
/- Functions of restrict: Keep. -/
section
open Go
end
/- Functions of grammarlablaw15: exampleHolds. -/
section
attribute [local go_sem] K4 XU
end
/- The plain laws under RestrictWhole: the first paths lead to their nodes and are shorter than the nodes are many; all nodes of a canonical feature structure are come to. -/
section
/-! The parts -/
/-! Keep all paths -/
end
/- Plain: structures that differ in their nodes' names alone have one canonical form; a part of a part is a part. -/
section
/-! Nodes come to -/
end
/- Plain: what Keep keeps; Keep twice is Keep. -/
section
open Go
end
/- Plain: the first paths are shortest; Depth twice is the lesser Depth. -/
section
open Go
end
/- Functions of subsume: target, Map, Subsumes. -/
section
attribute [local go_sem] SF
end
/- Functions of subsume: Map, Subsumes. -/
section
attribute [local go_sem] SF
structure pJ (a b:List AN) (m:List Int):Prop where
 len:m.length=a.length
 rng:∀x∈m,x<(b.length:Int)
theorem pJ.set {a b:List AN} {m:List Int} (h:pJ a b m) (k:Nat) {v:Int} (hv:v<(b.length:Int)):pJ a b (m.set k v):=by
 refine⟨by simp[h.len],fun x hx=>?_⟩
 rcases List.mem_or_eq_of_mem_set hx with hx|hx
 ·exact h.rng x hx
 ·rw[hx];exact hv
theorem pJ.get {a b:List AN} {m:List Int} (h:pJ a b m) (hb:0<b.length) (k:Nat):m.getD k 0<(b.length:Int):=by
 rw[List.getD_eq_getElem?_getD]
 cases hh:m[k]? with
 | none=>show (0:Int)<_;omega
 | some x=>exact h.rng x (List.mem_of_getElem? hh)
def A1K (h:AR) (f:List AN):Prop:=∀x∈f,0≤x.1∧x.1<(h.1.length:Int)
end
/- Plain: subsume.Map finds a map if there is one; parts subsume, and parts of what subsumes subsume parts. -/
section
/-! The map is found -/
/-! What is found is a map -/
/-! A canonical form is led through in order -/
/-! Types -/
end
/- Plain: a forest of representatives; a path halved leaves the representatives as they are. -/
section
abbrev pK (p:List Int) (n:Int):Int:=p.getD n.toNat 0
structure Fo (p:List Int) (rk:Int→Nat):Prop where
 rng:∀n,0≤n→n<(p.length:Int)→0≤pK p n∧pK p n<(p.length:Int)
 dec:∀n,0≤n→n<(p.length:Int)→pK p n≠n→rk (pK p n)<rk n
inductive Rt (p:List Int):Int→Int→Prop
 | base {n:Int} (h:pK p n=n):Rt p n n
 | step {n r:Int} (h:pK p n≠n) (h2:Rt p (pK p n) r):Rt p n r
theorem Rt.root {p:List Int} {n r:Int} (h:Rt p n r):pK p r=r:=by
 induction h with
 | base h=>exact h
 | step _ _ ih=>exact ih
theorem Fo.ex {p:List Int} {rk:Int→Nat} (h:Fo p rk):∀(k:Nat) (n:Int),rk n≤k→0≤n→n<(p.length:Int)→∃r,Rt p n r∧0≤r∧r<(p.length:Int)
 | 0,n,hk,h0,h1=>by
  by_cases e:pK p n=n
  ·exact⟨n,.base e,h0,h1⟩
  ·have:=h.dec n h0 h1 e
   omega
 | k+1,n,hk,h0,h1=>by
  by_cases e:pK p n=n
  ·exact⟨n,.base e,h0,h1⟩
  ·have hd:=h.dec n h0 h1 e
   have hr:=h.rng n h0 h1
   obtain⟨r,g1,g2,g3⟩:=h.ex k (pK p n) (by omega) hr.1 hr.2
   exact⟨r,.step e g1,g2,g3⟩
theorem Fo.root {p:List Int} {rk:Int→Nat} (h:Fo p rk) {n:Int} (h0:0≤n) (h1:n<(p.length:Int)):∃r,Rt p n r∧0≤r∧r<(p.length:Int):=h.ex (rk n) n (Nat.le_refl _) h0 h1
def Ou (p q:List Int):Prop:=p.length=q.length∧∀x r,0≤x→x<(p.length:Int)→(Rt p x r↔Rt q x r)
theorem Ou.refl (p:List Int):Ou p p:=⟨rfl,fun _ _ _ _=>Iff.rfl⟩
theorem Ou.trans {p q s:List Int} (h:Ou p q) (g:Ou q s):Ou p s :=
 ⟨h.1.trans g.1,fun x r x0 x1=>(h.2 x r x0 x1).trans (g.2 x r x0 (by rw[←h.1];exact x1))⟩
end
/- Functions of unify.classes: find, add. -/
section
open Go
end
/- Functions of unify.classes: add. -/
section
open Go
end
/- Functions of unify.classes: join's merge. -/
section
attribute [local go_sem] XX
section
variable {xs ys W0 x y bo V:List (Int×Int)} {k:Nat}
end
end
/- Plain: what join keeps: the classes are the least that make the pairs equal, and what they have is asked by all. -/
section
/-! Merged arcs -/
/-! Classes joined -/
inductive EG (n:Nat) (p:List Int) (W:List (Int×Int)):Int→Int→Prop
 | cls {x y r:Int} (x0:0≤x) (x1:x<(n:Int)) (y0:0≤y) (y1:y<(n:Int)) (h:Rt p x r) (g:Rt p y r):EG n p W x y
 | wt {x y:Int} (h:(x,y)∈W):EG n p W x y
 | symm {x y:Int} (h:EG n p W x y):EG n p W y x
 | trans {x y z:Int} (h:EG n p W x y) (g:EG n p W y z):EG n p W x z
theorem EG.mono {n:Nat} {p q:List Int} {W V:List (Int×Int)} (h1:∀x y r,0≤x→x<(n:Int)→0≤y→y<(n:Int)→Rt p x r→Rt p y r→EG n q V x y) (h2:∀x y,(x,y)∈W→EG n q V x y) {x y:Int} (h:EG n p W x y):EG n q V x y:=by
 induction h with
 | cls x0 x1 y0 y1 h g=>exact h1 _ _ _ x0 x1 y0 y1 h g
 | wt h=>exact h2 _ _ h
 | symm _ ih=>exact .symm ih
 | trans _ _ ih1 ih2=>exact .trans ih1 ih2
section
variable {h:AR} {N:List AN} {P:List (Int×Int)} {p ty:List Int} {ar:List (List (Int×Int))} {W:List (Int×Int)} {s t a b:Int}
end
end
/- Functions of unify.classes: join. -/
section
theorem Uh {α:Type} [DecidableEq α]:∀ {l l':List α},l.Nodup→(∀x∈l,x∈l')→l.length≤l'.length
 | [],_,_,_=>by simp
 | x :: l,l',hn,h=>by
  obtain⟨hx,hn2⟩:=List.nodup_cons.1 hn
  have hm:=h x (by simp)
  have:=Uh (l:=l) (l':=l'.erase x) hn2 (fun y hy=>(List.mem_erase_of_ne (fun e:y=x=>hx (by rw[←e];exact hy))).2 (h y (by simp[hy])))
  rw[List.length_erase_of_mem hm]at this
  have:=List.length_pos_of_mem hm
  simp only[List.length_cons]
  omega
end
/- Plain: the graph of the classes. -/
section
open Classical in
/-- The node that stands for a node. -/
noncomputable def rtF (p:List Int) (x:Int):Int:=if h:∃r,Rt p x r then h.choose else x
noncomputable def quo (p ty:List Int) (ar:List (List (Int×Int))):List AN:=(List.range p.length).map fun k=>(ty.getD k 0,(ar.getD k []).map fun a=>(a.1,rtF p a.2))
end
/- Functions of unify.classes: graph's visit. -/
section
open Go
end
/- Functions of unify.classes: graph. -/
section
open Go
end
/- Plain: the graph of the classes is the most general structure into which the nodes go so that the pairs are one. -/
section
section
variable {h:AR} {N:List AN} {P:List (Int×Int)} {p ty:List Int} {ar:List (List (Int×Int))}
end
end
/- Plain: maps of structures in order are one; the most general structure of two is one. -/
section
open Go
end
/- Plain: the classes before they are joined. -/
section
open Go
end
/- Plain: type 0 subsumes each type. -/
section
/-! All declared types are below the root -/
def A1h (d:List AH) (o:List ByteArray) (i:Nat):Prop:=∀j,j<i→∀x∈d,Aa x.2.1 (o.getD j ByteArray.empty)=true→Aa o x.1=true
theorem pL {c:ByteArray} {o:List ByteArray} {x:AH} (h:Aa x.2.1 c=true):Aa (FI c o x) x.1=true:=by
 unfold FI
 split
 ·rw[MQ,Ex,Bool.or_true]
 ·rename_i hc
  rw[h,Bool.true_and,Bool.not_eq_true']at hc
  simpa using hc
theorem Ui {c:ByteArray} {x:AH} (h:Aa x.2.1 c=true):∀ {l:List AH} {o:List ByteArray},x∈l→Aa (l.foldl (FI c) o) x.1=true
 | [],_,hx=>by cases hx
 | y :: l,o,hx=>by
  rw[List.foldl_cons]
  rcases List.mem_cons.1 hx with rfl|hx
  ·exact LX (fun z hz=>LV hz) (pL h)
  ·exact Ui h hx
theorem YB {d:List AH}:∀ {n i:Nat} {o:List ByteArray},Vq d o→d.length≤n+i→A1h d o i→i≤o.length→∃m,A1h d (Dh d n i o) m∧(Dh d n i o).length≤m
 | 0,i,o,ha,hd,hb,hi=>⟨i,hb,by
  have:=ha.len
  show o.length≤i
  omega⟩
 | n+1,i,o,ha,hd,hb,hi=>by
  unfold Dh
  split
  ·rename_i hlt
   obtain⟨g1,g2⟩:=Ro (o.getD i ByteArray.empty) (l:=d) (o:=o) (fun _ h=>h) ha
   refine YB g1 (by omega) (fun j hj x hx hs=>?_) (by omega)
   rw[OV _ (by omega)]at hs
   by_cases e:j=i
   ·subst e
    exact Ui hs hx
   ·exact LX (fun z hz=>LV hz) (hb j (by omega) x hx hs)
  ·exact⟨i,hb,by omega⟩
theorem Ov {α:Type} {p:α→Bool}:∀ {l:List α},l.countP p=1→∀x∈l,p x=true→∀y∈l,p y=true→x=y
 | [],h,x,hx,_,_,_,_=>by cases hx
 | z :: l,h,x,hx,px,y,hy,py=>by
  rw[List.countP_cons]at h
  by_cases pz:p z=true
  ·rw[if_pos pz]at h
   have h0:l.countP p=0:=by omega
   rw[List.countP_eq_zero]at h0
   have e1:x=z:=by
    rcases List.mem_cons.1 hx with e|hx
    ·exact e
    ·exact absurd px (h0 x hx)
   have e2:y=z:=by
    rcases List.mem_cons.1 hy with e|hy
    ·exact e
    ·exact absurd py (h0 y hy)
   rw[e1,e2]
  ·rw[if_neg pz]at h
   have hx:x∈l:=by
    rcases List.mem_cons.1 hx with e|hx
    ·rw[e]at px;exact absurd px pz
    ·exact hx
   have hy:y∈l:=by
    rcases List.mem_cons.1 hy with e|hy
    ·rw[e]at py;exact absurd py pz
    ·exact hy
   exact Ov (by omega) x hx px y hy py
theorem Si (s:ByteArray):∀(l:List AH) (k:Nat),0≤Ce s k l→∃x∈l,Am x.1 s=true
 | [],k,h=>by
  simp only[Ce]at h
  omega
 | y :: l,k,h=>by
  simp only[Ce]at h
  split at h
  ·rename_i e
   exact⟨y,by simp,e⟩
  ·obtain⟨x,hx,e⟩:=Si s l (k+1) h
   exact⟨x,by simp[hx],e⟩
theorem Zl {d:List AH} (h3:BG d=0):∃r∈d,∀x∈d,Aa (Di d r.1) x.1=true:=by
 obtain⟨hs,h2,h1,hn,hl⟩:=A3 h3
 have hpos:0<d.countP fun x=>x.2.1.length==0:=by
  have:Hs d=d.countP fun x=>x.2.1.length==0:=rfl
  omega
 obtain⟨r,hr,pr⟩:=List.countP_pos_iff.1 hpos
 refine⟨r,hr,?_⟩
 have hrd:=Ez hr
 have hA:Vq d [r.1]:=⟨fun s hs=>by
  have:s=r.1:=by simpa using hs
  rw[this]
  exact hrd,by simp⟩
 obtain⟨m,hm1,hm2⟩:=YB (d:=d) (n:=d.length) (i:=0) hA (by omega) (fun j hj=>by omega) (by omega)
 have hsub:r.1∈Dh d d.length 0 [r.1]:=MY (by simp)
 have hb:Di d r.1=Kv (Dh d d.length 0 [r.1]):=by unfold Di;rw[if_neg (by omega)]
 rw[hb]
 generalize Dh d d.length 0 [r.1]=o at *
 have key:∀(k:Nat) (x:AH),x∈d→Hv d x.1≤k→Aa o x.1=true:=by
  intro k
  induction k with
  | zero =>
   intro x hx hk
   by_cases hc:x.2.1.length=0
   ·have e:=Ov h1 x hx (by simpa using hc) r hr pr
    rw[e]
    exact LW hsub
   ·obtain⟨s,hs2⟩:∃s,s∈x.2.1:=List.exists_mem_of_length_pos (by omega)
    have:=MX hn hl hx (LW hs2)
    omega
  | succ k ih =>
   intro x hx hk
   by_cases hc:x.2.1.length=0
   ·have e:=Ov h1 x hx (by simpa using hc) r hr pr
    rw[e]
    exact LW hsub
   ·obtain⟨s,hs2⟩:∃s,s∈x.2.1:=List.exists_mem_of_length_pos (by omega)
    have hrk:=MX hn hl hx (LW hs2)
    obtain⟨y,hy,e⟩:=Si s d 0 (hs x hx s hs2)
    rw[←MW d e]at hrk
    obtain⟨z,hz,e2⟩:=List.any_eq_true.1 (ih y hy (by omega))
    obtain⟨j,hj,rfl⟩:=Ek ByteArray.empty hz
    refine hm1 j (by omega) x hx ?_
    exact List.any_eq_true.2 ⟨s,hs2,Ey (CE e2 e)⟩
 intro x hx
 obtain⟨z,hz,e⟩:=List.any_eq_true.1 (key _ x hx (Nat.le_refl _))
 obtain⟨w,hw,e2⟩:=List.any_eq_true.1 (Rw (o:=[]) hz)
 exact List.any_eq_true.2 ⟨w,hw,CE e2 e⟩
/-! The greatest code comes first -/
abbrev pM (c:List Int):Nat:=(Hn c).length
theorem pN {w:Int} (hw:nI w) {r:Nat} (hr:r<64):mY w (r:Int)=w.toNat.testBit r:=by
 have h0:=hw.1
 have h1:=hw.2
 have hle:w.toNat / 2 ^ r≤w.toNat:=Nat.div_le_self _ _
 have e:So .u64 w (r:Int)=((w.toNat / 2 ^ r:Nat):Int):=by
  unfold So
  have hm:min ((r:Int)).toNat IntKind.u64.bits=r:=by
   show min ((r:Int)).toNat 64=r
   omega
  have hp:(0:Int)≤2 ^ r:=Int.le_of_lt (Int.pow_pos (by decide))
  rw[hm,Int.fdiv_eq_ediv_of_nonneg _ hp,Int.natCast_ediv,Int.toNat_of_nonneg h0]
  simp
 unfold mY
 rw[Nat.testBit_eq_decide_div_mod_eq,e]
 generalize w.toNat / 2 ^ r=z at *
 rw[Hu ⟨by omega,by omega⟩ ⟨by decide,by decide⟩,Int.toNat_natCast,show (1:Int).toNat=1 from rfl,Nat.and_one_is_mod,Bool.eq_iff_iff,beq_iff_eq,decide_eq_true_eq]
 omega
theorem gA {b:List Int} (hw:H7 b) (i:Nat):Ri b (i:Int)=BA b i:=by
 have e1:Int.tdiv (i:Int) 64=((i / 64:Nat):Int):=by rw[Int.tdiv_eq_ediv_of_nonneg (by omega)];omega
 have e2:Int.tmod (i:Int) 64=((i % 64:Nat):Int):=by rw[Int.tmod_eq_emod_of_nonneg (by omega)];omega
 unfold Ri BA
 rw[e1,e2,Int.toNat_natCast]
 by_cases hk:i / 64<b.length
 ·rw[if_neg (by rw[Bool.or_eq_true,decide_eq_true_eq,decide_eq_true_eq];omega),pN (A4 hw _) (by omega)]
 ·rw[if_pos (by rw[Bool.or_eq_true,decide_eq_true_eq,decide_eq_true_eq];omega),Gd hk]
  simp
theorem YC (c:List Int):(Hn c).Nodup:=by
 unfold Hn Lv List.Nodup
 rw[List.pairwise_map]
 refine List.Pairwise.imp (fun h e=>h ?_) (List.Pairwise.filter _ List.nodup_range)
 exact Int.ofNat.inj e
theorem Lh {c:List Int} (hw:H7 c) {x:Int}:x∈Hn c↔∃i:Nat,x=(i:Int)∧BA c i=true:=by
 unfold Hn Lv
 rw[List.mem_map]
 constructor
 ·rintro⟨i,hi,rfl⟩
  rw[List.mem_filter]at hi
  exact⟨i,rfl,by rw[←gA hw];exact hi.2⟩
 ·rintro⟨i,rfl,hb⟩
  refine⟨i,List.mem_filter.2 ⟨List.mem_range.2 ?_,by rw[gA hw];exact hb⟩,rfl⟩
  refine Classical.byContradiction fun hc=>?_
  unfold BA at hb
  rw[Gd (by omega)]at hb
  simp at hb
theorem xS {a b:List Int} (ha:H7 a) (hb:H7 b) (h:∀i,BA a i=true→BA b i=true) (hc:pM b≤pM a) (i:Nat) (hi:BA b i=true):BA a i=true:=by
 refine Classical.byContradiction fun hn=>?_
 have hx:(i:Int)∉Hn a:=fun hm=>by
  obtain⟨j,e,hj⟩:=(Lh ha).1 hm
  have:i=j:=Int.ofNat.inj e
  rw[this]at hn
  exact hn hj
 have:=Uh (l:=(i:Int) :: Hn a) (l':=Hn b) (List.nodup_cons.2 ⟨hx,YC a⟩) fun x hx=>by
  rcases List.mem_cons.1 hx with rfl|hx
  ·exact(Lh hb).2 ⟨i,rfl,hi⟩
  ·obtain⟨j,rfl,hj⟩:=(Lh ha).1 hx
   exact(Lh hb).2 ⟨j,rfl,h j hj⟩
 rw[List.length_cons]at this
 unfold pM at hc
 omega
theorem Sj (x:AP) (out:List AP):∀n,(FE x out n=0→n=0∨Fq x (out.getD 0 c0)=true)∧∀k,FE x out n=k+1→Fq x (out.getD k c0)=false
 | 0=>⟨fun _=>.inl rfl,fun k h=>by simp[FE]at h⟩
 | n+1=>by
  obtain⟨h1,h2⟩:=Sj x out n
  unfold FE
  split
  ·rename_i hb
   refine⟨fun e=>?_,h2⟩
   rcases h1 e with e|e
   ·subst e
    exact .inr hb
   ·exact .inr e
  ·rename_i hb
   refine⟨fun e=>by omega,fun k e=>?_⟩
   have:n=k:=by omega
   subst this
   simpa using hb
theorem YD {a b:AP} (h:Fq a b=true):pM b.2≤pM a.2:=by
 unfold Fq at h
 rw[Bool.or_eq_true,Bool.and_eq_true,decide_eq_true_eq,beq_iff_eq]at h
 unfold pM
 omega
theorem Vk {a b:AP} (h:Fq a b=false):pM a.2≤pM b.2:=by
 unfold Fq at h
 rw[Bool.or_eq_false_iff,decide_eq_false_iff_not]at h
 unfold pM
 omega
def HM (out:List AP):Prop:=∀y∈out,pM y.2≤pM (out.getD 0 c0).2
theorem vW {out:List AP} (h:HM out) (x:AP):HM (VP out x):=by
 obtain⟨s1,s2⟩:=Sj x out out.length
 have hle:=XC x out out.length
 intro y hy
 rw[XG]at hy
 unfold VP
 cases hk:FE x out out.length with
 | zero =>
  rw[List.take_zero,List.drop_zero,List.nil_append]
  have e:([x]++out).getD 0 c0=x:=rfl
  rw[e]
  rcases hy with rfl|hy
  ·exact Nat.le_refl _
  ·have h1:=h y hy
   rcases s1 hk with e|e
   ·rw[List.eq_nil_of_length_eq_zero e]at hy
    cases hy
   ·exact Nat.le_trans h1 (YD e)
 | succ k =>
  have hb:=Vk (s2 k hk)
  rw[hk]at hle
  have e:(out.take (k+1)++[x]++out.drop (k+1)).getD 0 c0=out.getD 0 c0:=by
   cases out with
   | nil=>simp at hle
   | cons z out=>rfl
  rw[e]
  rcases hy with rfl|hy
  ·exact Nat.le_trans hb (h _ (DA (by omega)))
  ·exact h y hy
theorem YE {d:List AH}:∀ {l:List (List Int)} {o:List AP},HM o→HM (l.foldl (Ob d) o)
 | [],_,h=>h
 | b :: l,o,h=>by
  rw[List.foldl_cons]
  exact YE (vW h _)
/-! Codes hold no other numbers than those of the declared types -/
def In (n:Nat) (c:List Int):Prop:=H7 c∧∀i,BA c i=true→i<n
theorem xT (n:Nat):In n []:=⟨fun x hx=>(by cases hx),fun i hi=>by unfold BA at hi;simp at hi⟩
theorem xU {n:Nat} {a b:List Int} (ha:In n a) (hb:In n b):In n (EY a b) :=
 ⟨Qi ha.1 hb.1,fun i hi=>by
  rw[Qh ha.1 hb.1,Bool.and_eq_true]at hi
  exact ha.2 i hi.1⟩
theorem gB {n:Nat} {l:List (List Int)} (h:∀c∈l,In n c) (k:Nat):In n (l.getD k []):=by
 by_cases hk:k<l.length
 ·exact h _ (DA hk)
 ·rw[UN hk]
  exact xT n
theorem vX {n:Nat} {l:List (List Int)} (h:∀c∈l,In n c) (i k:Nat):∀c∈Gu l i k,In n c:=by
 intro c hc
 unfold Gu at hc
 split at hc
 ·rcases List.mem_append.1 hc with hc|hc
  ·exact h c hc
  ·have:c=EY (l.getD i []) (l.getD k []):=by simpa using hc
   rw[this]
   exact xU (gB h i) (gB h k)
 ·exact h c hc
theorem gC {q i:Nat}:∀ {n k:Nat} {l:List (List Int)},(∀c∈l,In q c)→∀c∈Gv i n k l,In q c
 | 0,_,_,h=>h
 | n+1,k,l,h=>by
  unfold Gv
  split
  ·exact gC (vX h i k)
  ·exact h
theorem gD {q:Nat}:∀ {n i:Nat} {l:List (List Int)},(∀c∈l,In q c)→∀c∈Ip n i l,In q c
 | 0,_,_,h=>h
 | n+1,i,l,h=>by
  unfold Ip
  split
  ·exact gD (gC h)
  ·exact h
def A1L (h:AR):Prop:=∀t,0≤t→t<(h.1.length:Int)→Dx h 0 t=true
theorem YF (d:List AH):A1L (BB d).1:=by
 have hk:=FH d
 unfold BB at hk ⊢
 split
 ·intro t h0 h1
  simp at h1
  omega
 ·rename_i hv
  rw[if_neg hv]at hk
  have hv:(A8 d).2=0:=Classical.byContradiction hv
  have h5:Ax d=0:=by
   unfold A8 at hv
   split at hv
   ·rename_i h;exact absurd hv h
   ·rename_i h;exact Classical.byContradiction h
  obtain⟨hz,-,-⟩:=CY h5
  obtain⟨h3,hlen,-⟩:=Bk hz
  obtain⟨-,h2,-,hn,hl⟩:=A3 h3
  have hnl:=Ew d d.length
  rw[List.take_length]at hnl
  have hal:(AQ d).length≤4096:=by omega
  obtain⟨r,hr,hbel⟩:=Zl h3
  have hin:∀c∈A0 (Ad d),In (AQ d).length c:=gD fun c hc=>by
   obtain⟨s,hs,rfl⟩:=List.mem_map.1 hc
   exact⟨(ER (d:=d) hal s 0).2.1,fun i hi=>((ER (d:=d) hal s i).1.1 hi).1⟩
  obtain⟨s,hs,es⟩:=List.any_eq_true.1 (Ry hr)
  have hsr:s=r.1:=by
   obtain⟨x,hx,rfl⟩:=GH hs
   rw[W7 hn hx hr es]
  subst hsr
  have hc0:HF d (AQ d) r.1∈A0 (Ad d):=by
   have hp:Ad d <+: A0 (Ad d):=SI 257 0 (Ad d)
   exact hp.subset (List.mem_map.2 ⟨_,hs,rfl⟩)
  have hall:∀i,i<(AQ d).length→BA (HF d (AQ d) r.1) i=true:=fun i hi=>by
   refine(ER (d:=d) hal r.1 i).1.2 ⟨hi,?_⟩
   obtain⟨x,hx,e⟩:=GH (DA (d:=ByteArray.empty) hi)
   rw[←e]
   exact hbel x hx
  have hHM:HM (AL d):=YE fun y hy=>by cases hy
  have hmem0:=Dj.2 ⟨_,hc0,rfl⟩
  have hpos:0<(AL d).length:=List.length_pos_of_mem hmem0
  have hmax:=hHM _ hmem0
  obtain⟨b,hb,eb⟩:=Dj.1 (DA (d:=c0) hpos)
  rw[eb]at hmax
  have hfull:=xS (hin b hb).1 (hin _ hc0).1 (fun i hi=>hall i ((hin b hb).2 i hi)) hmax
  have hcode:BT (Bz d) 0=b:=by
   show ((ET (AL d) _ _).getD 0 Sn).2.1=b
   have:(ET (AL d) (A8 d).1 (AL d).length).getD 0 Sn=(((AL d).getD 0 c0).1,((AL d).getD 0 c0).2,UB (AL d) ((0:Nat):Int),(A8 d).1.getD 0 []):=by
    unfold ET
    rw[List.getD_eq_getElem?_getD,List.getElem?_map,List.getElem?_range hpos]
    rfl
   rw[this,eb]
  have hlenT:(Bz d).1.length=(AL d).length:=La _ _ _
  intro t t0 t1
  refine(Cf hk (by omega) (by show (0:Int)<((Bz d).1.length:Int);omega) t0 t1).2 fun i hi=>?_
  show BA (BT (Bz d) 0) i=true
  rw[hcode]
  refine hfull i (hall i ?_)
  have hcm:=CG t0 t1
  have hmem:BT (Bz d) t∈A0 (Ad d):=by
   have e:((Bz d).1.map fun t=>t.2.1)=(AL d).map fun x=>x.2:=by
    show ((ET _ _ _).map fun t=>t.2.1)=_
    unfold ET
    rw[List.map_map]
    apply List.ext_getElem
    ·simp
    ·intro i h1 h2
     simp[List.getD_eq_getElem?_getD,show i<(AL d).length by simpa using h1]
   have hcm2:BT (Bz d) t∈(Bz d).1.map fun t=>t.2.1:=hcm
   rw[e]at hcm2
   obtain⟨x,hx,ex⟩:=List.mem_map.1 hcm2
   obtain⟨c,hc,rfl⟩:=Dj.1 hx
   rw[←ex]
   exact hc
  exact(hin _ hmem).2 i hi
end
/- The types of a compiled hierarchy have different, normal codes. -/
section
theorem Zm (d:List AH):Nd ((BB d).1.1.map fun t=>t.2.1):=by
 unfold BB
 split
 ·exact⟨.nil,fun c h=>(by cases h)⟩
 ·rename_i hv
  have hv:(A8 d).2=0:=Classical.byContradiction hv
  have h5:Ax d=0:=by
   unfold A8 at hv
   split at hv
   ·rename_i h;exact absurd hv h
   ·rename_i h;exact Classical.byContradiction h
  obtain⟨hz,-,-⟩:=CY h5
  obtain⟨h3,hlen,-⟩:=Bk hz
  have hf:Nd (A0 (Ad d)):=Va (UO h3)
  have e:((Bz d).1.map fun t=>t.2.1)=(AL d).map fun x=>x.2:=by
   show ((ET _ _ _).map fun t=>t.2.1)=_
   unfold ET
   rw[List.map_map]
   apply List.ext_getElem
   ·simp
   ·intro i h1 h2
    simp[List.getD_eq_getElem?_getD,show i<(AL d).length by simpa using h1]
  show Nd ((Bz d).1.map fun t=>t.2.1)
  rw[e]
  refine⟨K8 (by simpa using hf.nd),fun c hc=>?_⟩
  obtain⟨x,hx,rfl⟩:=List.mem_map.1 hc
  obtain⟨b,hb,rfl⟩:=Dj.1 hx
  exact hf.nrm b hb
end
/- Functions of grammarlabref11: Apart, Merge, target. -/
section
open Go
end
/- Plain: what grammarlabref11.Close does, step by step. -/
section
/-! Sums -/
/-! The state -/
structure CI (n:Nat) (o:List Int) (ar:List (List (Int×Int))) (W:List (Int×Int)):Prop where
 lo:o.length=n
 la:ar.length=n
 rep:∀k:Nat,k<n→0≤o.getD k 0∧o.getD k 0≤(k:Int)∧o.getD (o.getD k 0).toNat 0=o.getD k 0
 wr:∀w∈W,(0≤w.1∧w.1<(n:Int))∧(0≤w.2∧w.2<(n:Int))
 ta:∀k,∀a∈ar.getD k [],0≤a.2∧a.2<(n:Int)
theorem CI.rng {n:Nat} {o:List Int} {ar:List (List (Int×Int))} {W:List (Int×Int)} (h:CI n o ar W) {x:Int} (x0:0≤x) (x1:x<(n:Int)):0≤o.getD x.toNat 0∧o.getD x.toNat 0<(n:Int)∧o.getD (o.getD x.toNat 0).toNat 0=o.getD x.toNat 0:=by
 obtain⟨h1,h2,h3⟩:=h.rep x.toNat (by omega)
 exact⟨h1,by omega,h3⟩
section
variable {n:Nat} {o:List Int} {ar:List (List (Int×Int))} {W:List (Int×Int)} {x y:Int}
end
end
/- Functions of grammarlabref08, 06, 11: Step, find, Meet, Types. -/
section
attribute [local go_sem] NG Yy
def wM (b:List Int):List KK→Nat→Int×Bool
 | [],_=>(0,false)
 | t :: r,k=>if t.2.1=b then ((k:Int),true) else wM b r (k+1)
def pO (h:AR) (a b:Int):Int×Bool:=wM (EY (BT h a) (BT h b)) h.1 0
end
/- Functions of grammarlabref11: Types. -/
section
def A1i (h:AR) (l:List AN) (c:List Int):Nat→Option (List Int)
 | 0=>some (List.replicate l.length 0)
 | i+1=>match A1i h l c i with
  | none=>none
  | some o=>if (pO h (o.getD (c.getD i 0).toNat 0) (l.getD i (0,[])).1).2=true then some (o.set (c.getD i 0).toNat (pO h (o.getD (c.getD i 0).toNat 0) (l.getD i (0,[])).1).1) else none
def pP (h:AR) (l:List AN) (c:List Int):List Int×Bool:=match A1i h l c l.length with
 | none=>([],false)
 | some o=>((List.range l.length).map fun(k:Nat)=>o.getD (c.getD k 0).toNat 0,true)
def A1M (n:Nat) (c:List Int):Prop:=c.length=n∧∀k:Nat,k<n→0≤c.getD k 0∧c.getD k 0≤(k:Int)∧c.getD (c.getD k 0).toNat 0=c.getD k 0
def xV:Ah:={ ins:=[Ml,HR,Jj],pre:=fun(h,l,c,_)=>A1M (List.length l) c∧A1K h l∧0<List.length (h:AR).1∧List.length l≤100000∧(∀x∈(h:AR).1,x.2.1.length≤100000),out:=fun(h,l,c,_)=>[.p Jj (pP h l c).1,.p .bool (pP h l c).2] }
attribute [local go_sem] xV
end
/- Functions of grammarlabref11: Quotient. -/
section
attribute [local go_sem] XT
attribute [local go_sem] RZ Yo ne_eq not_false_eq_true
end
/- Plain: grammarlabref11.Close finds the least closed relation. -/
section
inductive EQ (n:Nat) (o:List Int) (W:List (Int×Int)):Int→Int→Prop
 | cls {x y:Int} (x0:0≤x) (x1:x<(n:Int)) (y0:0≤y) (y1:y<(n:Int)) (h:o.getD x.toNat 0=o.getD y.toNat 0):EQ n o W x y
 | wt {x y:Int} (h:(x,y)∈W):EQ n o W x y
 | symm {x y:Int} (h:EQ n o W x y):EQ n o W y x
 | trans {x y z:Int} (h:EQ n o W x y) (g:EQ n o W y z):EQ n o W x z
theorem EQ.mono {n:Nat} {o o':List Int} {W W':List (Int×Int)} (h1:∀x y,0≤x→x<(n:Int)→0≤y→y<(n:Int)→o.getD x.toNat 0=o.getD y.toNat 0→EQ n o' W' x y) (h2:∀x y,(x,y)∈W→EQ n o' W' x y) {x y:Int} (h:EQ n o W x y):EQ n o' W' x y:=by
 induction h with
 | cls x0 x1 y0 y1 h=>exact h1 _ _ x0 x1 y0 y1 h
 | wt h=>exact h2 _ _ h
 | symm _ ih=>exact .symm ih
 | trans _ _ ih1 ih2=>exact .trans ih1 ih2
theorem EQ.nil {n:Nat} {o:List Int} {x y:Int} (h:EQ n o [] x y):o.getD x.toNat 0=o.getD y.toNat 0:=by
 induction h with
 | cls _ _ _ _ h=>exact h
 | wt h=>cases h
 | symm _ ih=>exact ih.symm
 | trans _ _ ih1 ih2=>exact ih1.trans ih2
section
variable {h:AR} {N:List AN} {P:List (Int×Int)} {o:List Int} {ar:List (List (Int×Int))} {W:List (Int×Int)} {w:Int×Int}
end
end
/- Plain: the types of classes, the arcs of classes; grammarlabref11.Unify and unify.Unify compute one structure. -/
section
section
variable {h:AR} {N:List AN} {c:List Int}
end
/-! The arcs of the classes -/
end
/- Plain: the features of a compiled hierarchy: their values are meets of what is declared above. -/
section
section
variable {d:List AH}
theorem JS (d:List AH):((Bz d).1.map fun t=>t.2.1)=(AL d).map fun x=>x.2:=by
 show ((ET _ _ _).map fun t=>t.2.1)=_
 unfold ET
 rw[List.map_map]
 apply List.ext_getElem
 ·simp
 ·intro i h1 h2
  simp[List.getD_eq_getElem?_getD,show i<(AL d).length by simpa using h1]
theorem Zn (d:List AH):(Bz d).1.length=(AL d).length:=La _ _ _
theorem pQ (d:List AH) {k:Nat} (hk:k<(AL d).length):(Bz d).1.getD k Sn=(((AL d).getD k c0).1,((AL d).getD k c0).2,UB (AL d) (k:Int),(A8 d).1.getD k []):=by
 unfold Bz ET
 simp[List.getD_eq_getElem?_getD,hk]
theorem Nq (d:List AH) {t:Int} (t0:0≤t) (t1:t<((AL d).length:Int)):BT (Bz d) t=((AL d).getD t.toNat c0).2:=by
 unfold BT
 rw[pQ d (by omega)]
theorem YG (h5:Ax d=0):(A8 d).2=0∧(A8 d).1=JK d (AL d) (CF d) (AL d).length:=by
 unfold A8
 rw[if_neg (by rw[h5];simp)]
 exact⟨rfl,rfl⟩
theorem Vl (h5:Ax d=0):(BB d).1=Bz d:=by
 unfold BB
 rw[if_neg (by rw[(YG h5).1];simp)]
theorem A1j (h5:Ax d=0):Ns (Bz d)∧Nd ((Bz d).1.map fun t=>t.2.1):=by
 have h1:=FH d
 have h2:=Zm d
 rw[Vl h5]at h1 h2
 exact⟨h1,h2⟩
theorem pR (h5:Ax d=0):(Bz d).2=(CF d).map (R4 d):=by
 unfold Bz FF
 rw[if_neg (by rw[h5];simp)]
theorem xW (h5:Ax d=0) {t:Int} (t0:0≤t) (t1:t<((AL d).length:Int)):It (Bz d) t=R5 d (AL d) (CF d) t.toNat (CF d).length:=by
 unfold It
 rw[pQ d (by omega)]
 show (A8 d).1.getD t.toNat []=_
 rw[(YG h5).2]
 unfold JK
 simp[List.getD_eq_getElem?_getD,show t.toNat<(AL d).length by omega]
theorem pS (h5:Ax d=0):BG d=0∧(Bq d).1=AL d∧Js d=0∧(∀s∈CF d,(Dk d s).2=true)∧Hx d (AL d) (CF d) (AL d).length=false:=by
 obtain⟨hz,-,hdc⟩:=CY h5
 obtain⟨h3,-,hc⟩:=Bk hz
 refine⟨h3,hc,hdc,?_,?_⟩
 ·unfold Ax at h5
  split at h5
  ·rename_i h;exact absurd hz h
  ·split at h5
   ·cases h5
   ·split at h5
    ·rename_i h;exact absurd h5 h
    ·split at h5
     ·cases h5
     ·rename_i h
      exact List.all_eq_true.1 (by simpa using h)
 ·unfold Ax at h5
  split at h5
  ·rename_i h;exact absurd hz h
  ·split at h5
   ·cases h5
   ·split at h5
    ·rename_i h;exact absurd h5 h
    ·split at h5
     ·cases h5
     ·split at h5
      ·cases h5
      ·rename_i h
       rw[hc]at h
       simpa using h
def Cd (l:List (List Int)) (c:List Int):Prop:=c=[]∨c∈l
theorem pT {l:List (List Int)} (hk:Lc l) {c:List Int} (h:Cd l c):H7 c:=by
 rcases h with rfl|h
 ·exact fun x hx=>by cases hx
 ·exact hk.wds c h
theorem xX {l:List (List Int)} (hk:Lc l) (hn:Nd l) {a b:List Int} (ha:Cd l a) (hb:b∈l):Cd l (EY a b):=by
 have wa:=pT hk ha
 have wb:=hk.wds b hb
 have hna:u4 (EY a b):=by unfold EY;exact Mi _
 have hbit:=fun i=>Qh wa wb i
 by_cases hi:∃i,BA a i=true∧BA b i=true
 ·rcases ha with rfl|ha
  ·obtain⟨i,h1,-⟩:=hi
   unfold BA at h1
   simp at h1
  ·obtain⟨t,ht,e⟩:=hk.meet a ha b hb hi
   right
   rw[oE (Qi wa wb) (hk.wds t ht) hna (hn.nrm t ht) fun i=>by rw[hbit,e]]
   exact ht
 ·left
  refine Classical.byContradiction fun hne=>?_
  unfold EY at hne
  have hw:H7 (EY a b):=Qi wa wb
  have:∃i,BA (EY a b) i=true:=by
   have h2:=hna
   rcases h2 with h2|h2
   ·exact absurd (List.eq_nil_of_length_eq_zero h2) hne
   ·exact XY hw h2
  obtain⟨i,h⟩:=this
  rw[hbit,Bool.and_eq_true]at h
  exact hi ⟨i,h⟩
def yA (d:List AH) (t:Int) (s:ByteArray) (x:AH):Prop:=(DH x s).2=true∧Dx (Bz d) (Bc (AL d) x.1) t=true
def vcD (d:List AH) (s:ByteArray) (x:AH):List Int:=((AL d).getD (Bc (AL d) (DH x s).1).toNat c0).2
theorem gE (hn:ZE d (AL d)) {x:AH} (hx:x∈d):0≤Bc (AL d) x.1∧Bc (AL d) x.1<((AL d).length:Int):=⟨hn.1 x hx,Mc _ _⟩
theorem pU (hn:ZE d (AL d)) {x:AH} (hx:x∈d) {s:ByteArray} (hv:(DH x s).2=true):0≤Bc (AL d) (DH x s).1∧Bc (AL d) (DH x s).1<((AL d).length:Int):=⟨hn.value hx hv,Mc _ _⟩
theorem gF (d:List AH) {k:Int} (k0:0≤k) (k1:k<((AL d).length:Int)):((AL d).getD k.toNat c0).2∈(AL d).map fun x=>x.2:=List.mem_map.2 ⟨_,DA (by omega),rfl⟩
theorem kK (hk:Ns (Bz d)) {a t:Int} (a0:0≤a) (a1:a<((AL d).length:Int)) (t0:0≤t) (t1:t<((AL d).length:Int)):KI (AL d) a t=Dx (Bz d) a t:=by
 have hl:=Zn d
 have a1':a<((Bz d).1.length:Int):=by omega
 have t1':t<((Bz d).1.length:Int):=by omega
 have wa:=hk.1.wds _ (CG a0 a1')
 have wt:=hk.1.wds _ (CG t0 t1')
 rw[Bool.eq_iff_iff]
 unfold KI
 rw[←Nq d a0 a1,←Nq d t0 t1,Mh wt wa]
 exact(Cf hk a0 a1' t0 t1').symm
theorem Vm (hk:Ns (Bz d)) (hnd:Nd ((Bz d).1.map fun t=>t.2.1)) (hn:ZE d (AL d)) {t:Int} (t0:0≤t) (t1:t<((AL d).length:Int)) (s:ByteArray):∀(r:List AH) (o:List Int×Bool),(∀x∈r,x∈d)→Cd ((AL d).map fun x=>x.2) o.1 →
  Cd ((AL d).map fun x=>x.2) (r.foldl (JI (AL d) t s) o).1∧((r.foldl (JI (AL d) t s) o).2=true↔o.2=true∨∃x∈r,yA d t s x)∧∀i,BA (r.foldl (JI (AL d) t s) o).1 i=true↔BA o.1 i=true∧∀x∈r,yA d t s x→BA (vcD d s x) i=true
 | [],o,_,ho=>⟨ho,by simp,fun i=>by simp⟩
 | x :: r,o,hr,ho=>by
  rw[JS]at hnd
  have hk1:Lc ((AL d).map fun x=>x.2):=by have:=hk.1;rwa [JS]at this
  have hx:=hr x (by simp)
  obtain⟨n0,n1⟩:=gE hn hx
  have hsub:=kK hk n0 n1 t0 t1
  rw[List.foldl_cons]
  by_cases hu:yA d t s x
  ·obtain⟨v0,v1⟩:=pU hn hx hu.1
   have e:JI (AL d) t s o x=(EY o.1 (vcD d s x),true):=by
    unfold JI
    rw[if_neg]
    ·rfl
    ·rw[hu.1,hsub,hu.2];simp
   have hvm:vcD d s x∈(AL d).map fun x=>x.2:=gF d v0 v1
   obtain⟨h1,h2,h3⟩:=Vm hk (by rw[JS];exact hnd) hn t0 t1 s r (JI (AL d) t s o x) (fun y hy=>hr y (by simp[hy])) (by rw[e];exact xX hk1 hnd ho hvm)
   refine⟨h1,?_,fun i=>?_⟩
   ·rw[h2,e]
    exact⟨fun _=>.inr ⟨x,by simp,hu⟩,fun _=>.inl rfl⟩
   ·rw[h3,e]
    simp only
    rw[Qh (pT hk1 ho) (hk1.wds _ hvm),Bool.and_eq_true]
    constructor
    ·rintro⟨⟨a,b⟩,c⟩
     refine⟨a,fun y hy hyu=>?_⟩
     rcases List.mem_cons.1 hy with rfl|hy
     ·exact b
     ·exact c y hy hyu
    ·rintro⟨a,b⟩
     exact⟨⟨a,b x (by simp) hu⟩,fun y hy=>b y (by simp[hy])⟩
  ·have e:JI (AL d) t s o x=o:=by
    unfold JI
    rw[if_pos]
    rw[hsub]
    unfold yA at hu
    cases h1:(DH x s).2 with
    | false=>simp
    | true =>
     rw[h1]at hu
     have:Dx (Bz d) (Bc (AL d) x.1) t=false:=by simpa using hu
     rw[this]
     simp
   obtain⟨h1,h2,h3⟩:=Vm hk (by rw[JS];exact hnd) hn t0 t1 s r (JI (AL d) t s o x) (fun y hy=>hr y (by simp[hy])) (by rw[e];exact ho)
   refine⟨h1,?_,fun i=>?_⟩
   ·rw[h2,e]
    constructor
    ·rintro (a|⟨y,hy,a⟩)
     ·exact .inl a
     ·exact .inr ⟨y,by simp[hy],a⟩
    ·rintro (a|⟨y,hy,a⟩)
     ·exact .inl a
     ·rcases List.mem_cons.1 hy with rfl|hy
      ·exact absurd a hu
      ·exact .inr ⟨y,hy,a⟩
   ·rw[h3,e]
    constructor
    ·rintro⟨a,b⟩
     refine⟨a,fun y hy hyu=>?_⟩
     rcases List.mem_cons.1 hy with rfl|hy
     ·exact absurd hyu hu
     ·exact b y hy hyu
    ·rintro⟨a,b⟩
     exact⟨a,fun y hy=>b y (by simp[hy])⟩
theorem Sk {b:List Int}:∀ {l:List AP} {k:Nat},(∃x∈l,x.2=b)→∃j:Nat,j<l.length∧NL b k l=((k+j:Nat):Int)∧(l.getD j c0).2=b
 | [],k,⟨x,hx,_⟩=>by cases hx
 | y :: l,k,⟨x,hx,e⟩=>by
  unfold NL
  by_cases h:HE y.2 b=true
  ·rw[if_pos h]
   exact⟨0,by simp,rfl,by simpa[HE] using h⟩
  ·rw[if_neg h]
   rcases List.mem_cons.1 hx with rfl|hx
   ·exact absurd (by simpa[HE] using e) h
   ·obtain⟨j,h1,h2,h3⟩:=Sk (k:=k+1) ⟨x,hx,e⟩
    exact⟨j+1,by simp only[List.length_cons];omega,by rw[h2];congr 1;omega,by simpa using h3⟩
theorem Zo {b:List Int} (h:u4 b):A7 b=b:=by
 unfold A7
 have:CS b b.length=b.length:=by
  rcases h with h|h
  ·rw[h];rfl
  ·cases e:b.length with
   | zero=>rfl
   | succ m =>
    rw[e]at h
    show (if b.getD m 0=0 then CS b m else m+1)=m+1
    rw[if_neg (by simpa using h)]
 rw[this,List.take_length]
theorem pV (h5:Ax d=0) {t:Int} (t0:0≤t) (t1:t<((AL d).length:Int)) {s:ByteArray} (hs:s∈CF d) :
  ((JJ d (AL d) t s).2=true↔∃x∈d,yA d t s x)∧((JJ d (AL d) t s).2=true→(0≤Jp (AL d) (JJ d (AL d) t s).1∧Jp (AL d) (JJ d (AL d) t s).1<((AL d).length:Int)) ∧
   ∀i,BA (BT (Bz d) (Jp (AL d) (JJ d (AL d) t s).1)) i=true↔∀x∈d,yA d t s x→BA (vcD d s x) i=true):=by
 obtain⟨h3,-,hdc,-,hvb⟩:=pS h5
 obtain⟨hk,hnd⟩:=A1j h5
 have hn:=Qc h3 hdc
 have hpos:=fJ h3
 have htop:=YF d
 rw[Vl h5]at htop
 have hk1:Lc ((AL d).map fun x=>x.2):=by have:=hk.1;rwa [JS]at this
 have hnd1:=hnd
 rw[JS]at hnd1
 have h0m:=gF d (Int.le_refl 0) (by omega:(0:Int)<((AL d).length:Int))
 obtain⟨g1,g2,g3⟩:=Vm hk hnd hn t0 t1 s d (((AL d).getD 0 c0).2,false) (fun x hx=>hx) (.inr h0m)
 have e:JJ d (AL d) t s=d.foldl (JI (AL d) t s) (((AL d).getD 0 c0).2,false):=rfl
 rw[←e]at g1 g2 g3
 refine⟨by rw[g2];simp,fun hu=>?_⟩
 have hne:(JJ d (AL d) t s).1≠[]:=by
  intro hz
  have h1:Ju d (AL d) t.toNat s=true:=by
   unfold Ju
   rw[Int.toNat_of_nonneg t0,hu,hz]
   rfl
  have h2:Hx d (AL d) (CF d) (AL d).length=true:=by
   unfold Hx
   refine List.any_eq_true.2 ⟨t.toNat,List.mem_range.2 (by omega),?_⟩
   unfold VS
   exact List.any_eq_true.2 ⟨s,hs,h1⟩
  rw[h2]at hvb
  cases hvb
 have hmem:(JJ d (AL d) t s).1∈(AL d).map fun x=>x.2:=g1.resolve_left hne
 obtain⟨x,hx,ex⟩:=List.mem_map.1 hmem
 obtain⟨j,j1,j2,j3⟩:=Sk (l:=AL d) (k:=0) ⟨x,hx,ex⟩
 have hf:Jp (AL d) (JJ d (AL d) t s).1=(j:Int):=by
  unfold Jp
  rw[Zo (hnd1.nrm _ hmem),j2]
  simp
 rw[hf]
 refine⟨⟨Int.natCast_nonneg _,by omega⟩,fun i=>?_⟩
 rw[Nq d (Int.natCast_nonneg _) (by omega),Int.toNat_natCast,j3,g3]
 constructor
 ·exact fun h=>h.2
 ·intro h
  refine⟨?_,h⟩
  obtain⟨y,hy,hyu⟩:=(g2.1 hu).resolve_left (by simp)
  obtain⟨v0,v1⟩:=pU hn hy hyu.1
  have hb:=h y hy hyu
  have hlen:=Zn d
  have hs0:=htop _ v0 (by rw[hlen];exact v1)
  have:=(Cf hk (Int.le_refl 0) (by rw[hlen];omega) v0 (by rw[hlen];exact v1)).1 hs0 i
  unfold u3 at this
  rw[Nq d (Int.le_refl 0) (by omega),Nq d v0 v1]at this
  exact this hb
theorem Uj {s:ByteArray}:∀ {r:List AH} {o:List ByteArray} {y:ByteArray},y∈r.foldl (Ly s) o→y∈o∨∃x∈r,x.1=y∧(DH x s).2=true
 | [],_,_,h=>.inl h
 | x :: r,o,y,h=>by
  rw[List.foldl_cons]at h
  rcases Uj h with h|⟨z,hz,h⟩
  ·unfold Ly at h
   split at h
   ·rename_i hv
    rcases K0 h with h|h
    ·exact .inl h
    ·exact .inr ⟨x,by simp,h.symm,hv⟩
   ·exact .inl h
  ·exact .inr ⟨z,by simp[hz],h⟩
theorem Zp {s:ByteArray} (h:(Dk d s).2=true):∃x∈d,x.1=(Dk d s).1∧(DH x s).2=true:=by
 unfold Dk at h ⊢
 split
 ·rename_i h1
  have hm:(Bj d (Gw d s)).getD 0 ByteArray.empty∈Bj d (Gw d s):=DA (by omega)
  exact(Uj (NT hm)).resolve_left (by simp)
 ·rename_i h1
  rw[if_neg h1]at h
  cases h
theorem Sl (d:List AH):Xu (BB d).1:=by
 by_cases h5:Ax d=0
 ·rw[Vl h5]
  obtain⟨h3,-,hdc,hin,-⟩:=pS h5
  have hn:=Qc h3 hdc
  have hl:=Zn d
  refine⟨fun x hx=>?_,fun t ht p hp=>?_⟩
  ·rw[pR h5]at hx
   obtain⟨s,hs,rfl⟩:=List.mem_map.1 hx
   obtain⟨y,hy,e,-⟩:=Zp (hin s hs)
   rw[hl]
   show 0≤Bc (AL d) (Dk d s).1∧Bc (AL d) (Dk d s).1<((AL d).length:Int)
   rw[←e]
   exact gE hn hy
  ·obtain⟨k,hk,e⟩:=Ek Sn ht
   rw[hl]at hk ⊢
   have hr:=xW h5 (t:=(k:Int)) (Int.natCast_nonneg _) (by omega)
   unfold It at hr
   rw[Int.toNat_natCast,e]at hr
   rw[hr]at hp
   unfold R5 at hp
   obtain⟨i,hi,rfl⟩:=List.mem_map.1 hp
   obtain⟨h1,h2⟩:=List.mem_filter.1 hi
   have h1:=List.mem_range.1 h1
   exact((pV h5 (t:=(k:Int)) (Int.natCast_nonneg _) (by omega) (DA h1)).2 h2).1
 ·have:(BB d).1=([],[]):=by
   unfold BB A8
   rw[if_pos h5,if_pos h5]
  rw[this]
  exact⟨fun x hx=>(by cases hx),fun t ht=>(by cases ht)⟩
end
end
/- The law TypedChecks. -/
section
attribute [local go_sem] J1 YA Me J0 LE
theorem xY (d:List AH):Ns (DB d):=by
 unfold DB
 split
 ·exact FH d
 ·exact FH Hy
theorem xZ (d:List AH):Xu (DB d):=by
 unfold DB
 split
 ·exact Sl d
 ·exact Sl Hy
def Vn:Ah:={ ins:=[Es,Gr],pre:=fun _=>True,out:=fun _=>[.p .bool true] }
attribute [local go_sem] Vn
theorem pW:Ao Tryz.prog 3 Vn:=by
 refine AW Tryz.func3 (by kernel_rfl) rfl Tryz.ntmps3 (by decide) (by kernel_rfl) (AF [(12,Me),(14,J1),(13,YA),(15,J0),(16,LE)]) (AD nV (AD Ug (AD vV (AD Ub (AD Zh AI))))) ?_
 rintro w0 O0 ⟨d,f,u⟩ hc - -
 simp only[Vn,AM]
 have hk:=xY d
 have hf:=xZ d
 have hs:Ir f=true→Cq f∧L2 f:=fun h=>by
  obtain⟨h1,h2⟩:=XV h
  exact⟨⟨by omega,fun x hx=>Nat.le_trans (h2 x hx) (by decide)⟩,fun x hx=>Nat.le_trans (h2 x hx) (by decide)⟩
 have he:((DB d).1,(DB d).2)=DB d:=rfl
 repeat'(first|exact trivial|refine eS rfl ?_|refine AB ?_|refine rX [0,1,3,4,5,8] hc ?_ ?_|refine rC ?_ ?_<;>intro AA<;>try(cases AA;done))
 ·exact AG hc [.tmp 4] rfl (.inl rfl) (by simp) (by first|exact eR|refine Av ?_)
 ·rw[he]
  exact⟨⟨hf,hs AA⟩,hf,(hs AA).1,hk⟩
 ·exact AG hc [.tmp 4] rfl (.inl rfl) (by simp) (by first|exact eR|refine Av ?_)
end
end Go.Proofs.YtdapahgnpbehbaaGreat.Fw
