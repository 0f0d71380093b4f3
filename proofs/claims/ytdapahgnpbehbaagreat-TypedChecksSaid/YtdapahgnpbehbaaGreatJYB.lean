/- Contracts of the program's and the reference's functions, and the plain laws of what they compute: C33 C34 C35 R07a R07b R07c R07d R07e Sorted R07f R07g R07h R15c P8 C37 H1 D1 D4 N5 N6 N7 T4 G1 G3 PS PA PB PC PD PE. -/
/- Functions of grammarlabref06: decl. -/
import Derived.Test.YtdapahgnpbehbaaGreatJYA
import Derived.Test.YtdapahgnpbehbaaGreatJZJ
import Derived.Test.YtdapahgnpbehbaaGreatJZI
set_option linter.unusedVariables false
set_option linter.unusedSimpArgs false
namespace Go.Proofs.YtdapahgnpbehbaaGreat.Fw
open Go
attribute [local irreducible] Ev
attribute [local go_sem] PO AM List.toList_toArray BX evG evK Pw DK Gn Da Cz Eh KA Hb Bm B0 HG BD CA frz Sq FL CU Aq EI BE AV.frz AV.frzs AV.drp AV.drps AV.names AV.namess aq FO HV Ge L7 F4 A2 A5 G2 DM FP DN QQX FQ FT Mn J4 Et GM EK Cs Mo Lj Zq G7 GT HW D9 Ci F7 Gg Ct L8 Bw Cu DP Lk GU Ll IE F8 Gh B9 B5 EL Cj FW CV DQ CW Cv Ds BD B8 Lq Li Id EU F6 F5 Gf I2 J7 IG Ha HY Gk KY HZ Gl Pv J9 J8 AV.trn AV.trns DE Bv Obj.trn HC RR CL CQ CK Cw Bo DR Ae lk Eq E2 FN gG Sp Nt Ss KX YH YI kL AV.cells Bn Gz KV Gj J6 Bx I0 Ty.cell1 FM Dd Cg Eg Iz Dc H9 ID L6 Cr Fx JT L5 Mm Iy H8 Ps Qm KW I1 CM G0 RV.flat Ty.flat Ty.size St.add upd del BJ Value.oneCell' Ic Ty.dflt FK QQQ Ej IU List.take_succ_cons List.take_zero List.length_cons PQ PR IT Fi GZ EX FB WM C0 HL HN HO HP Jb Jc GQ Fc Ki Option.map_some Option.map_none Option.bind_some Option.getD_some Option.getD_none Option.isNone_none Option.isNone_some Bool.and_true Bool.true_and Bool.and_false Bool.false_and Bool.not_true Bool.not_false if_true if_false List.length_cons List.length_nil and_true true_and and_self List.all_cons List.all_nil List.append_nil List.nil_append List.cons_append List.getElem?_cons_zero List.getElem?_cons_succ List.getElem?_nil List.map_cons List.map_nil List.set_cons_zero List.set_cons_succ List.isEmpty_nil List.isEmpty_cons decide_true decide_false beq_self_eq_true bne_self_eq_false Nat.zero_add Nat.add_zero Nat.sub_zero Int.toNat_natCast Int.toNat_zero Int.toNat_one List.take_length List.length_append List.length_singleton true_or or_true or_self false_or or_false Ty.agg.injEq Ty.slice.injEq Ty.prod.injEq Ty.int.injEq Option.some.injEq beq_iff_eq JB evMG evMQ Z7 Fh IP Bd HA Fe KE G9 Fg Ff GR Hi Ii JA Ij MJ GY IQ IR E8 AX Ac Op.operands Call.operands List.filterMap_cons List.filterMap_nil List.append_eq Bool.cond_false_right Bool.cond_true_left cond_true cond_false implies_true decide_eq_true_eq beq_true beq_false Bool.or_true Bool.or_false Bool.true_or Bool.false_or Option.isSome_some EJ HH DS Fz Pu J5 Dr D5 D0 GV FU Gi HX Nu Sr IA pX Gm EF EV FX Al PT List.drop_zero Cc F0 Pz CO Hj BP AV.fgt AV.fgts Obj.fgt Ab Ak AX Cb JC BI Fj List.any_cons List.any_nil Vo RE P0 RF JD Ln qs List.flatMap_cons List.flatMap_nil List.cons_append tn QA HD List.take_succ_cons List.drop_succ_cons QB Fk BQ RS GE B2 CR Ag Du Gp BV DW Cl Fa Fb Eu GC
attribute [local go_sem] xH ty2 ty3 ty4 ty5 ty9 rK rO rQ rR rS rT rU rV rW rZ r8 r9 sA sB sC sD sE sF sG sH sI sJ sK sL sM sN sO sP sQ sR sS sT sU sV sW sX sY sZ s0 s5 s6 s7 s8 s9 tA tB tC tD tE tF tG tH tI tJ tK tL tM tN tP tQ tR tS tT tU tV tW tX tY tZ t5 t6 t7 t8 t9 aN aO aP aQ aR aU aV aW aX aY aZ a9 bA bB bC bD bE bF bG bH bI bJ bK bL bM bN bO bP bQ bR bS bT bU bV bW bX bZ b4 b5 b6 b7 b8 b9 cA cB cC cE cF cG cH cI cJ cK cL cM cN cO cQ cR cS cU cV cW cX cZ c6 c7 c8 c9 dA dB dC dD dE dF dG dH dI dJ dK dL dM dN dP dQ dR dS dT dU dV dW dX dY dZ d3 d4 d5 d6 d7 d8 d9 eA eB eC eD eE eF eG eH eI eJ eK eL eO eP eQ eU eW eX
attribute [local go_sem] PO AM List.toList_toArray BX evG evK Pw DK Gn Da Cz Eh KA Hb Bm B0 HG BD CA frz Sq FL CU Aq EI BE AV.frz AV.frzs AV.drp AV.drps AV.names AV.namess aq FO HV Ge L7 F4 A2 A5 G2 DM FP DN QQX FQ FT Mn J4 Et GM EK Cs Mo Lj Zq G7 GT HW D9 Ci F7 Gg Ct L8 Bw Cu DP Lk GU Ll IE F8 Gh B9 B5 EL Cj FW CV DQ CW Cv Ds BD B8 Lq Li Id EU F6 F5 Gf I2 J7 IG Ha HY Gk KY HZ Gl Pv J9 J8 AV.trn AV.trns DE Bv Obj.trn HC RR CL CQ CK Cw Bo DR Ae lk Eq E2 FN gG Sp Nt Ss KX YH YI kL AV.cells Bn Gz KV Gj J6 Bx I0 Ty.cell1 FM Dd Cg Eg Iz Dc H9 ID L6 Cr Fx JT L5 Mm Iy H8 Ps Qm KW I1 CM G0 RV.flat Ty.flat Ty.size St.add upd del BJ Value.oneCell' Ic Ty.dflt FK QQQ Ej IU List.take_succ_cons List.take_zero List.length_cons PQ PR IT Fi GZ EX FB WM C0 HL HN HO HP Jb Jc GQ Fc Ki Option.map_some Option.map_none Option.bind_some Option.getD_some Option.getD_none Option.isNone_none Option.isNone_some Bool.and_true Bool.true_and Bool.and_false Bool.false_and Bool.not_true Bool.not_false if_true if_false List.length_cons List.length_nil and_true true_and and_self List.all_cons List.all_nil List.append_nil List.nil_append List.cons_append List.getElem?_cons_zero List.getElem?_cons_succ List.getElem?_nil List.map_cons List.map_nil List.set_cons_zero List.set_cons_succ List.isEmpty_nil List.isEmpty_cons decide_true decide_false beq_self_eq_true bne_self_eq_false Nat.zero_add Nat.add_zero Nat.sub_zero Int.toNat_natCast Int.toNat_zero Int.toNat_one List.take_length List.length_append List.length_singleton true_or or_true or_self false_or or_false Ty.agg.injEq Ty.slice.injEq Ty.prod.injEq Ty.int.injEq Option.some.injEq beq_iff_eq JB evMG evMQ Z7 Fh IP Bd HA Fe KE G9 Fg Ff GR Hi Ii JA Ij MJ GY IQ IR E8 AX Ac Op.operands Call.operands List.filterMap_cons List.filterMap_nil List.append_eq Bool.cond_false_right Bool.cond_true_left cond_true cond_false implies_true decide_eq_true_eq beq_true beq_false Bool.or_true Bool.or_false Bool.true_or Bool.false_or Option.isSome_some Array.empty_append List.append_toArray EJ HH DS Fz Pu J5 Dr D5 D0 GV FU Gi HX Nu Sr IA pX Gm EF EV FX Al PT List.drop_zero Cc F0 Pz CO Hj BP AV.fgt AV.fgts Obj.fgt Ab Ak AX Cb JC BI Fj List.any_cons List.any_nil Vo RE P0 RF JD Ln qs List.flatMap_cons List.flatMap_nil List.cons_append tn QA HD List.take_succ_cons List.drop_succ_cons QB Fk BQ RS GE B2 CR Ag Du Gp BV DW Cl Fa Fb Eu GC
set_option maxRecDepth 100000
set_option maxHeartbeats 4000000
section
attribute [local go_sem] cs0
def KJ (l:List ByteArray) (n:Nat):List FV:=(List.range n).map fun k=>(l.getD (2*k) ByteArray.empty,l.getD (2*k+1) ByteArray.empty)
theorem R6 (l:List ByteArray) (n:Nat):KJ l (n+1)=KJ l n++[(l.getD (2*n) ByteArray.empty,l.getD (2*n+1) ByteArray.empty)]:=by simp[KJ,List.range_succ]
theorem UF (l:List ByteArray) (n:Nat):(KJ l n).length=n:=by simp[KJ]
def VU (s:ByteArray):List ByteArray:=if Am s ByteArray.empty=true then [] else [s]
def F2 (n s:ByteArray) (l:List ByteArray):AH:=(n,VU s,KJ l (l.length / 2))
def fL:Ah:={ ins:=[T9,T9,Br],pre:=fun(_,_,l,_)=>List.length l≤1000,out:=fun(n,s,l,_)=>[.p iK (F2 n s l)] }
theorem uP:Ao Tryz.prog 67 fL:=by
 refine AW Tryz.func67 (by kernel_rfl) rfl Tryz.ntmps67 (by decide) (by kernel_rfl) (AF []) AI ?_
 rintro w0 O0 ⟨n,s,l,u⟩ hc-hl
 have hl:l.length≤1000:=hl
 simp only[fL,AM]
 repeat'(first|exact trivial|refine eS rfl ?_|refine AB ?_|refine rX [0,1,2,6,7,8,12,20] hc ?_ ?_|refine rC ?_ ?_<;>intro AA<;>try(cases AA;done))
 ·have hcd:=AA
  refine HQ [14] ?_
  refine AJ (ι:={k:Nat//2*k≤l.length}) (fun k=>⟨[(2,.p Br l),(6,.bp 6 [] 0),(7,.bp 7 [] 0),(8,.p (.int .i64) ((2*k.1:Nat):Int))],[(6,.box 111 true [.p T9 ByteArray.empty,.raw (.slice none 0 0),.raw (.slice none 0 0)]),(7,.box 111 true [.p T9 n,.p Br [s],.sr 36 Yv 0 (KJ l k.1).length]),(36,.arr 154 Yv (KJ l k.1))]⟩) (fun k=>l.length-2*k.1) ⟨0,Nat.zero_le _⟩ (AC [(6,.nm 6),(7,.nm 7),(36,.nil)] rfl rfl ?_ ?_) (fun k=>?_)
  ·first|exact eN|refine eM ?_
   exact⟨rfl,rfl⟩
  ·first|exact eN|refine eM ?_
  ·obtain⟨k,hk⟩:=k
   have hpl:=UF l k
   have hps:=R6 l k
   simp only
   repeat'(first|exact trivial|refine eS rfl ?_|refine AB ?_|refine rX [0,1,2,6,7,8,12,20] hc ?_ ?_|refine rC ?_ ?_<;>intro AA<;>try(cases AA;done))
   ·exact eV
   ·refine⟨by exact eV,⟨by exact eV,by exact eV⟩,⟨by exact eV,by exact eV⟩,?_⟩
    rw[hpl]
    simp only[AO]
    exact eV
   ·exact eV
   ·have hk2:2*k+1<l.length:=by exact eV
    have e1:((2*k:Nat):Int)+1=((2*k+1:Nat):Int):=by omega
    refine⟨⟨k+1,by omega⟩,by simp only;omega,AC [(6,.nm 6),(7,.nm 7),(36,.nm 36)] rfl rfl ?_ ?_⟩
    ·simp only[hps]
     first|exact eN|refine eM ?_
     rw[e1]
     rfl
    ·simp only[hps]
     first|exact eN|refine eM ?_
     show ((2*k:Nat):Int)+2=((2*(k+1):Nat):Int)
     omega
   ·have hk2:k=l.length / 2:=by exact eV
    refine HQ [36] ?_
    have hr:F2 n s l=(n,[s],KJ l k):=by
     unfold F2 VU
     rw[←hk2,if_neg (by rw[show Am s ByteArray.empty=false from hcd];simp)]
    exact AG hc [.cell 6 111] rfl (.inl rfl) (by simp) (by rw[hr];first|exact eR|refine Av ?_)
 ·have hcd:=AA
  refine AJ (ι:={k:Nat//2*k≤l.length}) (fun k=>⟨[(2,.p Br l),(6,.bp 6 [] 0),(7,.bp 7 [] 0),(8,.p (.int .i64) ((2*k.1:Nat):Int))],[(6,.box 111 true [.p T9 ByteArray.empty,.raw (.slice none 0 0),.raw (.slice none 0 0)]),(7,.box 111 true [.p T9 n,.p Br ([]:List ByteArray),.sr 36 Yv 0 (KJ l k.1).length]),(36,.arr 154 Yv (KJ l k.1))]⟩) (fun k=>l.length-2*k.1) ⟨0,Nat.zero_le _⟩ (AC [(6,.nm 6),(7,.nm 7),(36,.nil)] rfl rfl ?_ ?_) (fun k=>?_)
  ·first|exact eN|refine eM ?_
   exact⟨rfl,rfl⟩
  ·first|exact eN|refine eM ?_
  ·obtain⟨k,hk⟩:=k
   have hpl:=UF l k
   have hps:=R6 l k
   simp only
   repeat'(first|exact trivial|refine eS rfl ?_|refine AB ?_|refine rX [0,1,2,6,7,8,12,20] hc ?_ ?_|refine rC ?_ ?_<;>intro AA<;>try(cases AA;done))
   ·exact eV
   ·refine⟨by exact eV,⟨by exact eV,by exact eV⟩,⟨by exact eV,by exact eV⟩,?_⟩
    rw[hpl]
    simp only[AO]
    exact eV
   ·exact eV
   ·have hk2:2*k+1<l.length:=by exact eV
    have e1:((2*k:Nat):Int)+1=((2*k+1:Nat):Int):=by omega
    refine⟨⟨k+1,by omega⟩,by simp only;omega,AC [(6,.nm 6),(7,.nm 7),(36,.nm 36)] rfl rfl ?_ ?_⟩
    ·simp only[hps]
     first|exact eN|refine eM ?_
     rw[e1]
     rfl
    ·simp only[hps]
     first|exact eN|refine eM ?_
     show ((2*k:Nat):Int)+2=((2*(k+1):Nat):Int)
     omega
   ·have hk2:k=l.length / 2:=by exact eV
    refine HQ [36] ?_
    have hr:F2 n s l=(n,([]:List ByteArray),KJ l k):=by
     unfold F2 VU
     rw[←hk2,if_pos (show Am s ByteArray.empty=true from hcd)]
    exact AG hc [.cell 6 111] rfl (.inl rfl) (by simp) (by rw[hr];first|exact eR|refine Av ?_)
end
/- Functions of grammarlabref06: Prelude. -/
section
attribute [local go_sem] fL cs0 cs1 cs2 cs3 cs4 cs5 cs6 cs7 cs8
def Hy:List AH:=[
 F2 { data:=#[116,111,112] } { data:=#[] } [],
 F2 { data:=#[108,105,115,116] } { data:=#[116,111,112] } [],
 F2 { data:=#[99,111,110,115] } { data:=#[108,105,115,116] } [{ data:=#[70,73,82,83,84] },{ data:=#[116,111,112] },{ data:=#[82,69,83,84] },{ data:=#[108,105,115,116] }],
 F2 { data:=#[110,117,108,108] } { data:=#[108,105,115,116] } [],
 F2 { data:=#[100,108,105,115,116] } { data:=#[116,111,112] } [{ data:=#[76,73,83,84] },{ data:=#[108,105,115,116] },{ data:=#[76,65,83,84] },{ data:=#[108,105,115,116] }],
 F2 { data:=#[105,110,100,101,120] } { data:=#[116,111,112] } [],
 F2 { data:=#[104,97,110,100,108,101] } { data:=#[105,110,100,101,120] } [],
 F2 { data:=#[101,118,101,110,116] } { data:=#[105,110,100,101,120] } [],
 F2 { data:=#[101,110,116,105,116,121] } { data:=#[105,110,100,101,120] } [],
 F2 { data:=#[114,101,108] } { data:=#[116,111,112] } [{ data:=#[76,65,66,69,76] },{ data:=#[104,97,110,100,108,101] }],
 F2 { data:=#[113,101,113] } { data:=#[116,111,112] } [{ data:=#[72,73,71,72] },{ data:=#[104,97,110,100,108,101] },{ data:=#[76,79,87] },{ data:=#[104,97,110,100,108,101] }],
 F2 { data:=#[115,101,109] } { data:=#[116,111,112] } [{ data:=#[84,79,80] },{ data:=#[104,97,110,100,108,101] },{ data:=#[73,78,68,69,88] },{ data:=#[105,110,100,101,120] },{ data:=#[82,69,76,83] },{ data:=#[100,108,105,115,116] },{ data:=#[67,79,78,83] },{ data:=#[100,108,105,115,116] }],
 F2 { data:=#[115,105,103,110] } { data:=#[116,111,112] } [{ data:=#[83,69,77] },{ data:=#[115,101,109] },{ data:=#[65,82,71,83] },{ data:=#[108,105,115,116] }]]
def K2:Ah:={ ins:=[],pre:=fun _=>True,out:=fun _=>[.p Es Hy] }
theorem ZH:Ao Tryz.prog 37 K2:=by
 refine AW Tryz.func37 (by kernel_rfl) rfl Tryz.ntmps37 (by decide) (by kernel_rfl) (AF [(67,fL)] [3,6,12,14,16,18,20]) (AD uP AI) ?_
 rintro w0 O0 u hc - -
 simp only[K2,AM]
 repeat'(first|exact trivial|refine eS rfl ?_|refine AB ?_|refine rX [0] hc ?_ ?_|refine rC ?_ ?_<;>intro AA<;>try(cases AA;done))
 exact AG hc [.tmp 0] rfl (.inl rfl) (by simp) (by unfold Hy;first|exact eR|refine Av ?_)
end
/- Functions of grammarlabref06: Compile. -/
section
attribute [local go_sem] NW Iq fK LZ
abbrev KK:=ByteArray×List Int×List Int×List (Int×Int)
abbrev AR:=List KK×List nS
def ET (l:List AP) (v:List (List (Int×Int))) (n:Nat):List KK:=(List.range n).map fun i=>((l.getD i c0).1,(l.getD i c0).2,UB l (i:Int),v.getD i [])
theorem ZI (l:List AP) (v:List (List (Int×Int))) (n:Nat):ET l v (n+1)=ET l v n++[((l.getD n c0).1,(l.getD n c0).2,UB l (n:Int),v.getD n [])]:=by simp[ET,List.range_succ]
theorem La (l:List AP) (v:List (List (Int×Int))) (n:Nat):(ET l v n).length=n:=by simp[ET]
def Bz (d:List AH):AR:=(ET (AL d) (A8 d).1 (AL d).length,(FF d).1)
def BB (d:List AH):AR×Int:=if (A8 d).2≠0 then (([],[]),(A8 d).2) else (Bz d,0)
def K3:Ah:={ ins:=[Es],pre:=fun _=>True,out:=fun(d,_)=>[.p Ml (BB d).1,.p Rb (BB d).2] }
theorem ZJ:Ao Tryz.prog 36 K3:=by
 refine AW Tryz.func36 (by kernel_rfl) rfl Tryz.ntmps36 (by decide) (by kernel_rfl) (AF [(63,NW),(64,Iq),(65,fK),(66,LZ)]) (AD ZG (AD NV (AD uN (AD XO AI)))) ?_
 rintro w0 O0 ⟨d,u⟩ hc - -
 simp only[K3,AM]
 repeat'(first|exact trivial|refine eS rfl ?_|refine AB ?_|refine rX [0,2,3,4,5,6,8,9,10,18,29] hc ?_ ?_|refine rC ?_ ?_<;>intro AA<;>try(cases AA;done))
 ·have h1:BB d=(([],[]),(A8 d).2):=by unfold BB;rw[if_pos AA]
  exact AG hc [.cell 2 31,.tmp 3] rfl (.inl rfl) (by simp) (by rw[h1];first|exact eR|refine Av ?_)
 ·have hv:(A8 d).2=0:=by simpa using AA
  have h5:Ax d=0:=by
   unfold A8 at hv
   split at hv
   ·rename_i h;exact absurd hv h
   ·rename_i h;exact Classical.byContradiction h
  obtain⟨hz,hf64,hdz⟩:=CY h5
  obtain⟨h3,hlen,hl⟩:=Bk hz
  have hr:BB d=(Bz d,0):=by unfold BB;rw[if_neg (by rw[hv];simp)]
  have hvl:(A8 d).1.length=(AL d).length:=by
   unfold A8
   rw[if_neg (by rw[h5];simp)]
   exact UE _ _ _ _
  have hwid:=Md h3
  have hll:(AL d).length≤256:=by rw[Jr];exact hlen
  unfold Bz at hr
  rw[hl]
  generalize AL d=l at *
  generalize (A8 d).1=v at *
  refine AJ (ι:={n:Nat//n≤l.length}) (fun n=>⟨[(0,.p Es d),(2,.bp 2 [] 0),(4,.p v9 v),(6,.p JF l),(8,.bp 8 [] 0),(9,.p (.int .i64) (n.1:Int))],[(2,.box 31 true [.raw (.slice none 0 0),.raw (.slice none 0 0)]),(8,.box 31 true [.sr 53 x9 0 (ET l v n.1).length,.raw (.slice none 0 0)]),(53,.arr 84 x9 (ET l v n.1))]⟩) (fun n=>l.length-n.1) ⟨0,Nat.zero_le _⟩ (AC [(2,.nm 2),(8,.nm 8),(53,.nil)] rfl rfl ?_ ?_) (fun n=>?_)
  ·first|exact eN|refine eM ?_
   exact⟨rfl,rfl⟩
  ·first|exact eN|refine eM ?_
  ·obtain⟨n,hn⟩:=n
   have htl:=La l v n
   have hts:=ZI l v n
   simp only
   repeat'(first|exact trivial|refine eS rfl ?_|refine AB ?_|refine rX [0,2,3,4,5,6,8,9,10,18,29] hc ?_ ?_|refine rC ?_ ?_<;>intro AA<;>try(cases AA;done))
   ·refine⟨AA,AA,⟨AA,hll,hwid⟩,by rw[hvl];exact AA,?_⟩
    rw[htl]
    simp only[AO]
    omega
   ·omega
   ·have hn2:n<l.length:=Int.ofNat_lt.1 AA
    refine⟨⟨n+1,hn2⟩,by simp only;omega,AC [(2,.nm 2),(8,.nm 8),(53,.nm 53)] rfl rfl ?_ ?_⟩
    ·simp only[hts]
     first|exact eN|refine eM ?_
    ·simp only[hts]
     first|exact eN|refine eM ?_
   ·have hn2:n=l.length:=by omega
    subst hn2
    refine HQ [53] ?_
    exact AG hc [.cell 2 31,.tmp 3] rfl (.inl rfl) (by simp) (by rw[hr];first|exact eR|refine Av ?_)
end
/- Functions of grammarlabref07. -/
section
abbrev A15:=Int×List (Int×Int)
def Ir (f:List A15):Bool:=decide (f.length≤12)&&f.all fun n=>decide (n.2.length≤12)
def Me:Ah:={ ins:=[Gr],pre:=fun _=>True,out:=fun(f,_)=>[.p .bool (Ir f)] }
theorem nV:Ao Tryz.prog 12 Me:=by
 refine AW Tryz.func12 (by kernel_rfl) rfl Tryz.ntmps12 (by decide) (by kernel_rfl) (AF []) (fun f sp h=>by simp[lk]at h) ?_
 rintro w0 O0 ⟨l,u⟩ hc hok hpre
 simp only[Me,AM]
 repeat'(first|exact trivial|refine eS rfl ?_|refine AB ?_|refine rX [0,1,2,3,7,12,22] hc ?_ ?_|refine rC ?_ ?_<;>intro AA<;>try(cases AA;done))
 ·have h1:Ir l=false:=by
   have h:¬(List.length l≤12):=by exact eV
   unfold Ir
   rw[decide_eq_false h];rfl
  exact AG hc [.tmp 2] rfl (.inl rfl) (by simp) (by rw[h1];first|exact eR|refine Av ?_)
 ·refine AJ (ι:={k:Nat//k≤l.length∧(l.take k).all (fun n=>decide (n.2.length≤12))=true}) (fun k=>⟨[(0,.p Gr l),(1,.bp 1 [] 0),(3,.p (.int .i64) (k.1:Int))],[(1,.box 25 true [.p HR l])]⟩) (fun k=>l.length-k.1) ⟨0,by simp⟩ (AC [(1,.nm 1)] rfl rfl ?_ ?_) (fun k=>?_)
  ·first|exact eN|refine eM ?_
  ·first|exact eN|refine eM ?_
  ·obtain⟨k,hk,hall⟩:=k
   repeat'(first|exact trivial|refine eS rfl ?_|refine AB ?_|refine rX [0,1,2,3,7,12,22] hc ?_ ?_|refine rC ?_ ?_<;>intro AA<;>try(cases AA;done))
   ·exact eV
   ·have h1:Ir l=false:=by
     have hk:k<l.length:=by exact eV
     have h:=AE l (0,[]) hk
     unfold Ir
     rw[Bool.and_eq_false_iff]
     right
     rw[List.all_eq_false]
     exact⟨_,h,by simp only[decide_eq_true_eq];exact eV⟩
    exact AG hc [.tmp 2] rfl (.inl rfl) (by simp) (by rw[h1];first|exact eR|refine Av ?_)
   ·exact eV
   ·have hk:k<l.length:=by exact eV
    refine⟨⟨k+1,by exact eV,?_⟩,by simp only;exact eV,AC [(1,.nm 1)] rfl rfl ?_ ?_⟩
    ·have h1:=Au l (0,[]) hk
     have h2:((l.take (k+1)).all fun n=>decide (n.2.length≤12))=_:=congrArg (fun x=>List.all x fun n=>decide (n.2.length≤12)) h1
     rw[h2,List.all_append,hall]
     simp only[List.all_cons,List.all_nil,Bool.and_true,Bool.true_and,decide_eq_true_eq]
     exact eV
    ·first|exact eN|refine eM ?_
    ·first|exact eN|refine eM ?_
   ·have h1:Ir l=true:=by
     have hk:l.take k=l:=List.take_of_length_le (by exact eV)
     rw[hk]at hall
     unfold Ir
     rw[hall,decide_eq_true (by exact eV)];rfl
    exact AG hc [.tmp 2] rfl (.inl rfl) (by simp) (by rw[h1];first|exact eR|refine Av ?_)
end
/- Functions of grammarlabref07: arcs. -/
section
def Hz (n:Int) (seen:List (Int×Int)):List (Int×Int)→Int
 | []=>0
 | x :: r=>if x.1<0∨x.2<0∨n≤x.2 then 2 else if (seen.any fun y=>y.1==x.1)=true then 4 else Hz n (seen++[x]) r
def Ia (l:List (Int×Int)) (n:Int):Int:=Hz n [] l
def UG:Ah:={ ins:=[Iw,T3],pre:=fun _=>True,out:=fun(l,n,_)=>[.p Rb (Ia l n)] }
theorem Mf (n:Int) (l:List (Int×Int)) {k:Nat} (h:k<l.length):Hz n (l.take k) (l.drop k)=if (l.getD k (0,0)).1<0∨(l.getD k (0,0)).2<0∨n≤(l.getD k (0,0)).2 then 2 else if ((l.take k).any fun y=>y.1==(l.getD k (0,0)).1)=true then 4 else Hz n (l.take (k+1)) (l.drop (k+1)):=by
 rw[Au l (0,0) h,List.drop_eq_getElem_cons h,List.getD_eq_getElem?_getD,List.getElem?_eq_getElem h]
 rfl
theorem S0 (l:List (Int×Int)) (f:Int) {k:Nat} (h:k<l.length):((l.take (k+1)).any fun y=>y.1==f)=((l.take k).any (fun y=>y.1==f)||((l.getD k (0,0)).1==f)):=by
 rw[Au l (0,0) h,List.any_append];simp
theorem uQ:Ao Tryz.prog 141 UG:=by
 refine AW Tryz.func141 (by kernel_rfl) rfl Tryz.ntmps141 (by decide) (by kernel_rfl) (AF []) (fun f sp h=>by simp[lk]at h) ?_
 rintro w0 O0 ⟨l,n,u⟩ hc ⟨⟨hl,-⟩,-⟩ -
 simp only[AO]at hl
 simp only[UG,AM]
 repeat'(first|exact trivial|refine eS rfl ?_|refine AB ?_|refine rX [0,1,4,5,6,10,35,38,51] hc ?_ ?_|refine rC ?_ ?_<;>intro AA<;>try(cases AA;done))
 refine AJ (ι:={k:Nat//k≤l.length∧Hz n (l.take k) (l.drop k)=Ia l n}) (fun k=>⟨[(0,.p Iw l),(1,.p T3 n),(5,.p (.int .i64) (k.1:Int))],[]⟩) (fun k=>l.length-k.1) ⟨0,by simp[Ia]⟩ (AC [] rfl rfl ?_ ?_) (fun k=>?_)
 ·first|exact eN|refine eM ?_
 ·first|exact eN|refine eM ?_
 ·obtain⟨k,hk,hall⟩:=k
  repeat'(first|exact trivial|refine eS rfl ?_|refine AB ?_|refine rX [0,1,4,5,6,10,35,38,51] hc ?_ ?_|refine rC ?_ ?_<;>intro AA<;>try(cases AA;done))
  ·exact eV
  ·have hk:k<l.length:=by exact eV
   have h1:Ia l n=2:=by
    rw[←hall,Mf n l hk,if_pos (by rw[←or_assoc];exact AA)]
   exact AG hc [.tmp 4] rfl (.inl rfl) (by simp) (by rw[h1];first|exact eR|refine Av ?_)
  ·have hk:k<l.length:=by exact eV
   have hn:¬((l.getD k (0,0)).1<0∨(l.getD k (0,0)).2<0∨n≤(l.getD k (0,0)).2):=by
    have:=AA
    generalize l.getD k (0,0)=x at this
    exact eV
   rw[Mf n l hk,if_neg hn]at hall
   refine AJ (ι:={j:Nat//j≤k∧((l.take j).any fun y=>y.1==(l.getD k (0,0)).1)=false}) (fun j=>⟨[(0,.p Iw l),(1,.p T3 n),(5,.p (.int .i64) (k:Int)),(6,.p (.int .i64) (j.1:Int))],[]⟩) (fun j=>k-j.1) ⟨0,by simp⟩ (AC [] rfl rfl ?_ ?_) (fun j=>?_)
   ·first|exact eN|refine eM ?_
   ·first|exact eN|refine eM ?_
   ·obtain⟨j,hj,hany⟩:=j
    repeat'(first|exact trivial|refine eS rfl ?_|refine AB ?_|refine rX [0,1,4,5,6,10,35,38,51] hc ?_ ?_|refine rC ?_ ?_<;>intro AA<;>try(cases AA;done))
    ·exact eV
    ·have hjl:j<l.length:=by exact eV
     have h1:Ia l n=4:=by
      have h2:((l.take k).any fun y=>y.1==(l.getD k (0,0)).1)=true:=by
       rw[List.any_eq_true]
       refine⟨l.getD j (0,0),?_,by simpa using AA⟩
       rw[List.getD_eq_getElem?_getD,List.getElem?_eq_getElem hjl]
       exact List.mem_take_iff_getElem.2 ⟨j,by exact eV,rfl⟩
      rw[←hall,if_pos h2]
     exact AG hc [.tmp 4] rfl (.inl rfl) (by simp) (by rw[h1];first|exact eR|refine Av ?_)
    ·exact eV
    ·have hjl:j<l.length:=by exact eV
     refine⟨⟨j+1,by exact eV,?_⟩,by simp only;exact eV,AC [] rfl rfl ?_ ?_⟩
     ·have h2:=S0 l (l.getD k (0,0)).1 hjl
      refine h2.trans ?_
      rw[hany]
      simpa using AA
     ·first|exact eN|refine eM ?_
     ·first|exact eN|refine eM ?_
    ·exact eV
    ·have hjk:j=k:=by exact eV
     subst hjk
     refine⟨⟨j+1,by exact eV,?_⟩,by simp only;exact eV,AC [] rfl rfl ?_ ?_⟩
     ·rw[←hall,if_neg (by rw[hany];simp)]
     ·first|exact eN|refine eM ?_
     ·first|exact eN|refine eM ?_
  ·have h1:Ia l n=0:=by
    have hk:l.length≤k:=by exact eV
    rw[←hall,List.drop_eq_nil_of_le hk];rfl
   exact AG hc [.tmp 4] rfl (.inl rfl) (by simp) (by rw[h1];first|exact eR|refine Av ?_)
end
/- Functions of grammarlabref07: numbers. -/
section
def R7 (n:Int×List (Int×Int)):List Int:=n.1 :: (n.2.length:Int) :: n.2.flatMap fun a=>[a.1,a.2]
def Bl (f:List (Int×List (Int×Int))):List Int:=(f.length:Int) :: f.flatMap R7
def S1 (l:List (Int×List (Int×Int))) (k:Nat):List Int:=(l.length:Int) :: (l.take k).flatMap R7
def R8 (l:List (Int×List (Int×Int))) (k j:Nat):List Int:=S1 l k++[(l.getD k (0,[])).1,((l.getD k (0,[])).2.length:Int)]++((l.getD k (0,[])).2.take j).flatMap fun a=>[a.1,a.2]
theorem Od:∀l:List (Int×Int),(l.flatMap fun a=>[a.1,a.2]).length=2*l.length
 | []=>rfl
 | x :: l=>by simp[Od l];omega
theorem nW (n:Int×List (Int×Int)):(R7 n).length=2+2*n.2.length:=by
 have:=Od n.2
 simp only[R7,List.length_cons];omega
theorem R9:∀l:List (Int×List (Int×Int)),(∀n∈l,n.2.length≤100000)→(l.flatMap R7).length≤l.length*200002
 | [],_=>by simp
 | x :: l,h=>by
  have h1:=h x (by simp)
  have h2:=R9 l (fun n hn=>h n (by simp[hn]))
  have h3:=nW x
  simp only[List.flatMap_cons,List.length_append,List.length_cons]
  omega
theorem XP {l:List (Int×List (Int×Int))} (h:∀n∈l,n.2.length≤100000) {k:Nat} (hk:k≤l.length):(S1 l k).length≤1+k*200002:=by
 have h1:=R9 (l.take k) (fun n hn=>h n (List.mem_of_mem_take hn))
 rw[List.length_take,Nat.min_eq_left hk]at h1
 simp only[S1,List.length_cons]
 omega
theorem nX {l:List (Int×List (Int×Int))} (h:∀n∈l,n.2.length≤100000) {k j:Nat} (hk:k<l.length) (hj:j≤(l.getD k (0,[])).2.length):(R8 l k j).length≤3+k*200002+2*j:=by
 have h1:=XP h (Nat.le_of_lt hk)
 have h2:=Od ((l.getD k (0,[])).2.take j)
 rw[List.length_take,Nat.min_eq_left hj]at h2
 simp only[R8,List.length_append,List.length_cons,List.length_nil]
 omega
theorem UH {l:List (Int×List (Int×Int))} {k:Nat} (hk:k<l.length):S1 l (k+1)=R8 l k (l.getD k (0,[])).2.length:=by
 unfold S1 R8
 rw[Au l (0,[]) hk,List.flatMap_append,List.take_length]
 simp[R7,S1]
theorem UI {l:List (Int×List (Int×Int))} {k j:Nat} (hj:j<(l.getD k (0,[])).2.length):R8 l k (j+1)=R8 l k j++[((l.getD k (0,[])).2.getD j (0,0)).1,((l.getD k (0,[])).2.getD j (0,0)).2]:=by
 unfold R8
 rw[Au _ (0,0) hj,List.flatMap_append]
 simp
def NX:Ah:={ ins:=[Gr],pre:=fun(f,_)=>f.length≤100000∧∀n∈f,n.2.length≤100000,out:=fun(f,_)=>[.p Jj (Bl f)] }
theorem ZK:Ao Tryz.prog 74 NX:=by
 refine AW Tryz.func74 (by kernel_rfl) rfl Tryz.ntmps74 (by decide) (by kernel_rfl) (AF []) AI ?_
 rintro w0 O0 ⟨l,u⟩ hc ⟨hl,-⟩ ⟨hp1,hp2⟩
 simp only[NX,AM]
 repeat'(first|exact trivial|refine eS rfl ?_|refine AB ?_|refine rX [0,1,2,3,4,5,6,15,38] hc ?_ ?_|refine rC ?_ ?_<;>intro AA<;>try(cases AA;done))
 refine AJ (ι:={k:Nat//k≤l.length}) (fun k=>⟨[(0,.p Gr l),(1,.bp 1 [] 0),(3,.sr 10 T3 0 (S1 l k.1).length),(4,.p (.int .i64) (k.1:Int))],[(1,.box 25 true [.p HR l]),(10,.arr 3 T3 (S1 l k.1))]⟩) (fun k=>l.length-k.1) ⟨0,by simp⟩ (AC [(1,.nm 1),(10,.nm 10)] rfl rfl ?_ ?_) (fun k=>?_)
 ·first|exact eN|refine eM ?_
  rfl
 ·first|exact eN|refine eM ?_
  rfl
 ·obtain⟨k,hk⟩:=k
  have hn1:=XP hp2 hk
  repeat'(first|exact trivial|refine eS rfl ?_|refine AB ?_|refine rX [0,1,2,3,4,5,6,15,38] hc ?_ ?_|refine rC ?_ ?_<;>intro AA<;>try(cases AA;done))
  ·exact eV
  ·refine⟨by exact eV,?_⟩
   simp only[AO];exact eV
  ·have hkl:k<l.length:=by exact eV
   have hp3:=hp2 _ (AE l (0,[]) hkl)
   refine AJ (ι:={j:Nat//j≤(l.getD k (0,[])).2.length}) (fun j=>⟨[(0,.p Gr l),(1,.bp 1 [] 0),(3,.sr 10 T3 0 (R8 l k j.1).length),(4,.p (.int .i64) (k:Int)),(5,.p Iw (l.getD k (0,[])).2),(6,.p (.int .i64) (j.1:Int))],[(1,.box 25 true [.p HR l]),(10,.arr 3 T3 (R8 l k j.1))]⟩) (fun j=>(l.getD k (0,[])).2.length-j.1) ⟨0,by simp⟩ (AC [(1,.nm 1),(10,.nm 10)] rfl rfl ?_ ?_) (fun j=>?_)
   ·first|exact eN|refine eM ?_
    simp[R8]
   ·first|exact eN|refine eM ?_
    simp[R8]
   ·obtain⟨j,hj⟩:=j
    have hn2:=nX hp2 hkl hj
    repeat'(first|exact trivial|refine eS rfl ?_|refine AB ?_|refine rX [0,1,2,3,4,5,6,15,38] hc ?_ ?_|refine rC ?_ ?_<;>intro AA<;>try(cases AA;done))
    ·refine⟨by exact eV,by exact eV,?_⟩
     simp only[AO];exact eV
    ·exact eV
    ·have hjl:j<(l.getD k (0,[])).2.length:=by exact eV
     refine⟨⟨j+1,by exact eV⟩,by simp only;exact eV,AC [(1,.nm 1),(10,.nm 10)] rfl rfl ?_ ?_⟩
     ·first|exact eN|refine eM ?_
      exact(UI hjl).symm
     ·first|exact eN|refine eM ?_
      have:=congrArg List.length (UI (l:=l) hjl)
      rw[List.length_append]at this
      exact this.symm
    ·exact eV
    ·have hjk:j=(l.getD k (0,[])).2.length:=by exact eV
     subst hjk
     refine⟨⟨k+1,by exact eV⟩,by simp only;exact eV,AC [(1,.nm 1),(10,.nm 10)] rfl rfl ?_ ?_⟩
     ·first|exact eN|refine eM ?_
      exact(UH hkl).symm
     ·first|exact eN|refine eM ?_
      exact congrArg List.length (UH hkl).symm
  ·have hk:l.take k=l:=List.take_of_length_le (by exact eV)
   have h1:S1 l k=Bl l:=by unfold S1 Bl;rw[hk]
   exact AG hc [.tmp 2] rfl (.inl rfl) (by simp) (by first|exact eR|refine Av ?_;exact h1)
end
/- Functions of grammarlabref07: Compare, Equal. -/
section
attribute [local go_sem] NX
def Jv:List Int→List Int→Int
 | x :: xs,y :: ys=>if x<y then -1 else if y<x then 1 else Jv xs ys
 | _,_=>0
theorem Oe (xs ys:List Int) {k:Nat} (h1:k<xs.length) (h2:k<ys.length):Jv (xs.drop k) (ys.drop k)=if xs.getD k 0<ys.getD k 0 then -1 else if ys.getD k 0<xs.getD k 0 then 1 else Jv (xs.drop (k+1)) (ys.drop (k+1)):=by
 rw[List.drop_eq_getElem_cons h1,List.drop_eq_getElem_cons h2,List.getD_eq_getElem?_getD,List.getElem?_eq_getElem h1,List.getD_eq_getElem?_getD,List.getElem?_eq_getElem h2]
 rfl
theorem nY (xs ys:List Int) {k:Nat} (h:xs.length≤k∨ys.length≤k):Jv (xs.drop k) (ys.drop k)=0:=by
 rcases h with h|h
 ·rw[List.drop_eq_nil_of_le h];simp[Jv]
 ·rw[List.drop_eq_nil_of_le h];simp[Jv]
def DY (a b:List (Int×List (Int×Int))):Int:=Jv (Bl a) (Bl b)
def Cq (f:List (Int×List (Int×Int))):Prop:=f.length≤100000∧∀n∈f,n.2.length≤100000
def NY:Ah:={ ins:=[Gr,Gr],pre:=fun(a,b,_)=>Cq a∧Cq b,out:=fun(a,b,_)=>[.p T3 (DY a b)] }
theorem NZ {f:List (Int×List (Int×Int))} (h:Cq f):(Bl f).length≤1+f.length*200002:=by
 have:=R9 f h.2
 simp only[Bl,List.length_cons];omega
theorem ZL:Ao Tryz.prog 47 NY:=by
 refine AW Tryz.func47 (by kernel_rfl) rfl Tryz.ntmps47 (by decide) (by kernel_rfl) (AF [(74,NX)]) (AD ZK AI) ?_
 rintro w0 O0 ⟨a,b,u⟩ hc-⟨⟨ha1,ha2⟩,⟨hb1,hb2⟩⟩
 have hla:=NZ ⟨ha1,ha2⟩
 have hlb:=NZ ⟨hb1,hb2⟩
 simp only[NY,AM]
 repeat'(first|exact trivial|refine eS rfl ?_|refine AB ?_|refine rX [0,1,2,3,4,5,6,7,21,32,41] hc ?_ ?_|refine rC ?_ ?_<;>intro AA<;>try(cases AA;done))
 ·exact⟨ha1,ha2⟩
 ·exact⟨hb1,hb2⟩
 ·refine AJ (ι:={k:Nat//Jv ((Bl a).drop k) ((Bl b).drop k)=DY a b}) (fun k=>⟨[(5,.p Jj (Bl a)),(6,.p Jj (Bl b)),(7,.p (.int .i64) (k.1:Int))],[]⟩) (fun k=>(Bl a).length-k.1) ⟨0,by simp[DY]⟩ (AC [] rfl rfl ?_ ?_) (fun k=>?_)
  ·first|exact eN|refine eM ?_
  ·first|exact eN|refine eM ?_
  ·obtain⟨k,hk⟩:=k
   repeat'(first|exact trivial|refine eS rfl ?_|refine AB ?_|refine rX [0,1,2,3,4,5,6,7,21,32,41] hc ?_ ?_|refine rC ?_ ?_<;>intro AA<;>try(cases AA;done))
   ·exact eV
   ·obtain⟨h1,h2⟩:k<(Bl a).length∧k<(Bl b).length:=by exact eV
    have h3:DY a b=-1:=by rw[←hk,Oe _ _ h1 h2,if_pos AA]
    exact AG hc [.tmp 4] rfl (.inl rfl) (by simp) (by rw[h3];first|exact eR|refine Av ?_)
   ·exact eV
   ·obtain⟨h1,h2⟩:k<(Bl a).length∧k<(Bl b).length:=by exact eV
    have h3:DY a b=1:=by rw[←hk,Oe _ _ h1 h2,if_neg (by exact eV),if_pos AA]
    exact AG hc [.tmp 4] rfl (.inl rfl) (by simp) (by rw[h3];first|exact eR|refine Av ?_)
   ·exact eV
   ·obtain⟨h1,h2⟩:k<(Bl a).length∧k<(Bl b).length:=by exact eV
    refine⟨⟨k+1,?_⟩,by simp only;exact eV,AC [] rfl rfl ?_ ?_⟩
    ·rw[←hk,Oe _ _ h1 h2,if_neg (by exact eV),if_neg (by exact eV)]
    ·first|exact eN|refine eM ?_
    ·first|exact eN|refine eM ?_
   ·have h3:DY a b=0:=by
     rw[←hk]
     apply nY
     by_cases h:k<(Bl a).length
     ·right;have:=AA (by exact eV);exact eV
     ·left;exact eV
    exact AG hc [.tmp 4] rfl (.inl rfl) (by simp) (by rw[h3];first|exact eR|refine Av ?_)
def K4:Ah:={ ins:=[Gr,Gr],pre:=fun(a,b,_)=>Cq a∧Cq b,out:=fun(a,b,_)=>[.p .bool (DY a b==0)] }
end
/- Functions of grammarlabref07: Equal, form. -/
section
attribute [local go_sem] NY UG
theorem XQ:Ao Tryz.prog 20 K4:=by
 refine AW Tryz.func20 (by kernel_rfl) rfl Tryz.ntmps20 (by decide) (by kernel_rfl) (AF [(47,NY)]) (AD ZL AI) ?_
 rintro w0 O0 ⟨a,b,u⟩ hc-hpre
 simp only[K4,AM]
 repeat'(first|exact trivial|refine eS rfl ?_|refine AB ?_|refine rX [0,1,2,3,4] hc ?_ ?_|refine rC ?_ ?_<;>intro AA<;>try(cases AA;done))
 ·exact hpre
 ·exact AG hc [.tmp 4] rfl (.inl rfl) (by simp) (by first|exact eR|refine Av ?_)
def JL (m:Int):List (Int×List (Int×Int))→Int
 | []=>0
 | n :: r=>if n.1<0 then 2 else if Ia n.2 m≠0 then Ia n.2 m else JL m r
def CT (f:List (Int×List (Int×Int))):Int:=if f.length=0 then 1 else if 4096<f.length then 7 else JL f.length f
def fM:Ah:={ ins:=[Gr],pre:=fun _=>True,out:=fun(f,_)=>[.p Rb (CT f)] }
theorem H0 (m:Int) (l:List (Int×List (Int×Int))) {k:Nat} (h:k<l.length):JL m (l.drop k)=if (l.getD k (0,[])).1<0 then 2 else if Ia (l.getD k (0,[])).2 m≠0 then Ia (l.getD k (0,[])).2 m else JL m (l.drop (k+1)):=by
 rw[List.drop_eq_getElem_cons h,List.getD_eq_getElem?_getD,List.getElem?_eq_getElem h]
 rfl
theorem uR:Ao Tryz.prog 108 fM:=by
 refine AW Tryz.func108 (by kernel_rfl) rfl Tryz.ntmps108 (by decide) (by kernel_rfl) (AF [(141,UG)]) (AD uQ AI) ?_
 rintro w0 O0 ⟨l,u⟩ hc ⟨hl,-⟩ -
 simp only[fM,AM]
 repeat'(first|exact trivial|refine eS rfl ?_|refine AB ?_|refine rX [0,1,2,3,4,8,12,17,26,38] hc ?_ ?_|refine rC ?_ ?_<;>intro AA<;>try(cases AA;done))
 ·have h1:CT l=1:=by
   have h:l.length=0:=by exact eV
   unfold CT
   rw[if_pos h]
  exact AG hc [.tmp 2] rfl (.inl rfl) (by simp) (by rw[h1];first|exact eR|refine Av ?_)
 ·have h1:CT l=7:=by
   have h:¬l.length=0:=by exact eV
   have h':4096<l.length:=by exact eV
   unfold CT
   rw[if_neg h,if_pos h']
  exact AG hc [.tmp 2] rfl (.inl rfl) (by simp) (by rw[h1];first|exact eR|refine Av ?_)
 ·have h1:CT l=JL l.length l:=by
   have h:¬l.length=0:=by exact eV
   have h':¬4096<l.length:=by exact eV
   unfold CT
   rw[if_neg h,if_neg h']
  refine AJ (ι:={k:Nat//k≤l.length∧JL l.length (l.drop k)=CT l}) (fun k=>⟨[(1,.bp 1 [] 0),(3,.p (.int .i64) (k.1:Int))],[(1,.box 25 true [.p HR l])]⟩) (fun k=>l.length-k.1) ⟨0,by simp[h1]⟩ (AC [(1,.nm 1)] rfl rfl ?_ ?_) (fun k=>?_)
  ·first|exact eN|refine eM ?_
  ·first|exact eN|refine eM ?_
  ·obtain⟨k,hk,hf⟩:=k
   repeat'(first|exact trivial|refine eS rfl ?_|refine AB ?_|refine rX [0,1,2,3,4,8,12,17,26,38] hc ?_ ?_|refine rC ?_ ?_<;>intro AA<;>try(cases AA;done))
   ·exact eV
   ·have hkl:k<l.length:=by exact eV
    have h2:CT l=2:=by rw[←hf,H0 _ _ hkl,if_pos AA]
    exact AG hc [.tmp 2] rfl (.inl rfl) (by simp) (by rw[h2];first|exact eR|refine Av ?_)
   ·exact eV
   ·have hkl:k<l.length:=by exact eV
    have h2:CT l=Ia (l.getD k (0,[])).2 l.length:=by rw[←hf,H0 _ _ hkl,if_neg (by exact eV),if_pos AA]
    exact AG hc [.tmp 2] rfl (.inl rfl) (by simp) (by rw[h2];first|exact eR|refine Av ?_)
   ·exact eV
   ·have hkl:k<l.length:=by exact eV
    refine⟨⟨k+1,by exact eV,?_⟩,by simp only;exact eV,AC [(1,.nm 1)] rfl rfl ?_ ?_⟩
    ·rw[←hf,H0 _ _ hkl,if_neg (by exact eV),if_neg (by simpa using AA)]
    ·first|exact eN|refine eM ?_
    ·first|exact eN|refine eM ?_
   ·have h2:CT l=0:=by
     have hk:l.length≤k:=by exact eV
     rw[←hf,List.drop_eq_nil_of_le hk];rfl
    exact AG hc [.tmp 2] rfl (.inl rfl) (by simp) (by rw[h2];first|exact eR|refine Av ?_)
end
/- The contract of functions of the program: Sorted. -/
section
def K5 (x:Int×Int) (s:List (Int×Int)):Nat→Nat
 | 0=>0
 | n+1=>if x.1<(s.getD n (0,0)).1 then K5 x s n else n+1
def Og (s:List (Int×Int)) (x:Int×Int):List (Int×Int):=s.take (K5 x s s.length)++[x]++s.drop (K5 x s s.length)
def AZ (l:List (Int×Int)):List (Int×Int):=l.foldl Og []
theorem VV (x:Int×Int) (s:List (Int×Int)):∀n,K5 x s n≤n
 | 0=>Nat.le_refl _
 | n+1=>by
  unfold K5
  have:=VV x s n
  split<;>omega
theorem nZ (s:List (Int×Int)) (x:Int×Int):(Og s x).length=s.length+1:=by
 have:=VV x s s.length
 simp[Og];omega
theorem Jw (l:List (Int×Int)) (x:Int×Int):AZ (l++[x])=Og (AZ l) x:=by simp[AZ]
theorem K6:∀(l s:List (Int×Int)),(l.foldl Og s).length=s.length+l.length
 | [],s=>by simp
 | x :: l,s=>by simp[K6 l,nZ];omega
theorem CZ (l:List (Int×Int)):(AZ l).length=l.length:=by simp[AZ,K6]
def Jx:Ah:={ ins:=[Iw],pre:=fun(l,_)=>l.length≤1000000,out:=fun(l,_)=>[.own 53 BC (AZ l)] }
theorem UJ:Ao Tryz.prog 79 Jx:=by
 refine AW Tryz.func79 (by kernel_rfl) rfl Tryz.ntmps79 (by decide) (by kernel_rfl) (AF []) AI ?_
 rintro w0 O0 ⟨l,u⟩ hc hok hpre
 simp only[Jx]at hpre
 simp only[Jx,AM]
 repeat'(first|exact trivial|refine eS rfl ?_|refine AB ?_|refine rX [0,2,3,4,5,6,10,30] hc ?_ ?_|refine rC ?_ ?_<;>intro AA<;>try(cases AA;done))
 refine AJ (ι:={p:Nat//p≤l.length}) (fun k=>⟨[(0,.p Iw l),(3,.sr 10 BC 0 (AZ (l.take k.1)).length),(4,.p (.int .i64) (k.1:Int))],[(10,.arr 53 BC (AZ (l.take k.1)))]⟩) (fun k=>l.length-k.1) ⟨0,by omega⟩ (AC [(10,.nil)] rfl rfl ?_ ?_) (fun k=>?_)
 ·first|exact eN|refine eM ?_
  rfl
 ·first|exact eN|refine eM ?_
  rfl
 ·obtain⟨k,hI⟩:=k
  have hlen:(AZ (l.take k)).length=k:=by rw[CZ,List.length_take];exact Nat.min_eq_left hI
  repeat'(first|exact trivial|refine eS rfl ?_|refine AB ?_|refine rX [0,2,3,4,5,6,10,30] hc ?_ ?_|refine rC ?_ ?_<;>intro AA<;>try(cases AA;done))
  ·refine AJ (ι:={q:Nat//q≤(AZ (l.take k)).length∧K5 (l.getD k (0,0)) (AZ (l.take k)) q=K5 (l.getD k (0,0)) (AZ (l.take k)) (AZ (l.take k)).length}) (fun q=>⟨[(0,.p Iw l),(3,.sr 10 BC 0 (AZ (l.take k)).length),(4,.p (.int .i64) (k:Int)),(5,.p (.int .i64) (q.1:Int))],[(10,.arr 53 BC (AZ (l.take k)))]⟩) (fun q=>q.1) ⟨(AZ (l.take k)).length,by simp⟩ (AC [(10,.nm 10)] rfl rfl ?_ ?_) (fun q=>?_)
   ·first|exact eN|refine eM ?_
   ·first|exact eN|refine eM ?_
   ·obtain⟨q,hq,hp⟩:=q
    have hkl:k<l.length:=by omega
    have e1:=l.length_take_le k
    have e2:(List.take q (AZ (List.take k l))).length=q:=by rw[List.length_take];exact Nat.min_eq_left hq
    repeat'(first|exact trivial|refine eS rfl ?_|refine AB ?_|refine rX [0,2,3,4,5,6,10,30] hc ?_ ?_|refine rC ?_ ?_<;>intro AA<;>try(cases AA;done))
    ·exact eV
    ·exact eV
    ·obtain⟨h1,h2⟩:=AA
     obtain⟨q,rfl⟩:∃r,q=r+1:=⟨q-1,by omega⟩
     have h3:((q+1:Nat):Int)-1=(q:Int):=by omega
     refine⟨⟨q,by omega,?_⟩,Nat.lt_succ_self q,AC [(10,.nm 10)] rfl rfl ?_ ?_⟩
     ·rw[←hp]
      simp only[K5]
      rw[h3,Int.toNat_natCast]at h2
      rw[if_pos h2]
     ·first|exact eN|refine eM ?_
     ·first|exact eN|refine eM ?_
      show (q:Int)+1-1=q
      omega
    ·refine⟨by exact eV,?_⟩
     rw[e2];unfold AO;omega
    ·refine⟨by exact eV,?_⟩
     rw[e2];simp only[AO];omega
    ·refine⟨by exact eV,?_⟩
     rw[e2];simp only[AO,List.length_drop];omega
    ·exact eV
    ·have hpos:K5 (l.getD k (0,0)) (AZ (l.take k)) q=q:=by
      cases q with
      | zero=>rfl
      | succ q =>
       have h3:((q+1:Nat):Int)-1=(q:Int):=by omega
       have:=AA (by omega)
       rw[h3,Int.toNat_natCast]at this
       simp only[K5]
       rw[if_neg (by omega)]
     have h1:=Au l (0,0) hkl
     have h2:AZ (l.take (k+1))=_:=(congrArg AZ h1).trans (Jw _ _)
     unfold Og at h2
     rw[←hp,hpos]at h2
     refine⟨⟨k+1,by exact eV⟩,by simp only;exact eV,AC [(10,.nm 37)] rfl rfl ?_ ?_⟩
     ·first|exact eN|refine eM ?_
      exact h2.symm
     ·first|exact eN|refine eM ?_
      have h4:=congrArg List.length h2
      rw[List.length_append,List.length_append]at h4
      exact h4.symm
  ·have hk:l.take k=l:=List.take_of_length_le (by exact eV)
   refine Hh hc (.inl rfl) (rv:=.tmp 2) rfl ?_
   simp only[IM,Hf,GX,go_sem,Nat.reduceEqDiff,reduceCtorEq,Nat.reduceAdd,Nat.reduceSub,Nat.reduceMul,Nat.reduceLeDiff,Nat.reduceLT,Int.reduceLE,Int.reduceToNat,Int.reduceNeg,↓reduceIte]
   rw[hk]
   first|rfl|exact⟨rfl,rfl⟩|exact⟨rfl,rfl,rfl⟩
end
/- Functions of grammarlabref07: visit. -/
section
attribute [local go_sem] Jx
abbrev AN:=Int×List (Int×Int)
def Dl (f:List AN):Nat→List Int×List Int→Int→List Int×List Int
 | 0,s,_=>s
 | k+1,s,n=>(AZ (f.getD n.toNat (0,[])).2).foldl (fun s a=>if s.1.getD a.2.toNat 0<0 then Dl f k s a.2 else s) (s.1.set n.toNat (s.2.length:Int),s.2++[n])
def KT (l:List Int):Nat:=l.countP (fun x=>decide (x<0))
def El (f:List AN):Prop:=f.length≤100000∧∀x∈f,x.2.length≤100000∧∀a∈x.2,0≤a.2∧a.2<(f.length:Int)
def QF (f:List AN) (s:List Int×List Int):Prop:=s.1.length=f.length∧s.2.length+KT s.1≤f.length
theorem n4 {l:List Int} {n:Nat} {v:Int} (hn:n<l.length) (hneg:l.getD n 0<0) (hv:0≤v):KT (l.set n v)+1=KT l:=by
 induction l generalizing n with
 | nil=>simp at hn
 | cons x r ih =>
  cases n with
  | zero =>
   have hx:x<0:=by simpa using hneg
   have:¬v<0:=by omega
   simp[KT,List.countP_cons,hx,this]
  | succ n =>
   have h1:=ih (n:=n) (by simpa using hn) (by simpa using hneg)
   simp only[KT,List.set_cons_succ,List.countP_cons]at h1 ⊢
   omega
theorem ZM {f:List AN} {s:List Int×List Int} {n:Int} (h:QF f s) (hn0:0≤n) (hn:n<f.length) (hneg:s.1.getD n.toNat 0<0) :
  QF f (s.1.set n.toNat (s.2.length:Int),s.2++[n])∧KT (s.1.set n.toNat (s.2.length:Int))+1=KT s.1:=by
 obtain⟨h1,h2⟩:=h
 have h3:=n4 (l:=s.1) (n:=n.toNat) (v:=(s.2.length:Int)) (by omega) hneg (by omega)
 refine⟨⟨by simpa using h1,?_⟩,h3⟩
 simp only[List.length_append,List.length_singleton]
 omega
theorem jE (s:List (Int×Int)) (x:Int×Int):(Og s x).Perm (x :: s):=by
 unfold Og
 refine(List.perm_append_comm.append_right _).trans ?_
 simp
theorem KL:∀(l s:List (Int×Int)),(l.foldl Og s).Perm (l++s)
 | [],s=>List.Perm.refl _
 | x :: l,s=>by
  refine(KL l (Og s x)).trans ?_
  refine(List.Perm.append_left l (jE s x)).trans ?_
  exact List.perm_middle
theorem Fs (l:List (Int×Int)):(AZ l).Perm l:=by
 have:=KL l []
 simpa[AZ] using this
theorem K7 {f:List AN} (hf:El f) (n:Int):List.length (f.getD n.toNat (0,[])).2≤100000:=by
 by_cases h:n.toNat<f.length
 ·have hm:f.getD n.toNat (0,[])∈f:=by
   rw[List.getD_eq_getElem?_getD,List.getElem?_eq_getElem h];exact List.getElem_mem h
  exact(hf.2 _ hm).1
 ·rw[List.getD_eq_getElem?_getD,List.getElem?_eq_none (by omega)]
  simp
theorem Qd {f:List AN} (hf:El f) {n:Int} {a:Int×Int} (ha:a∈AZ (f.getD n.toNat (0,[])).2):0≤a.2∧a.2<f.length:=by
 have ha:=(Fs _).mem_iff.1 ha
 by_cases h:n.toNat<f.length
 ·have hm:f.getD n.toNat (0,[])∈f:=by
   rw[List.getD_eq_getElem?_getD,List.getElem?_eq_getElem h];exact List.getElem_mem h
  exact(hf.2 _ hm).2 a ha
 ·rw[List.getD_eq_getElem?_getD,List.getElem?_eq_none (by omega)]at ha
  simp at ha
def EH (f:List AN) (k:Nat) (s:List Int×List Int) (a:Int×Int):List Int×List Int:=if s.1.getD a.2.toNat 0<0 then Dl f k s a.2 else s
theorem FG (f:List AN) (k:Nat) (s:List Int×List Int) (n:Int):Dl f (k+1) s n=(AZ (f.getD n.toNat (0,[])).2).foldl (EH f k) (s.1.set n.toNat (s.2.length:Int),s.2++[n]):=rfl
theorem Qf {f:List AN} {k:Nat} (hv:∀(s:List Int×List Int) (n:Int),QF f s→0≤n→n<f.length→s.1.getD n.toNat 0<0→QF f (Dl f k s n)∧KT (Dl f k s n).1≤KT s.1) :
  ∀(l:List (Int×Int)) (t:List Int×List Int),(∀a∈l,0≤a.2∧a.2<(f.length:Int))→QF f t→QF f (l.foldl (EH f k) t)∧KT (l.foldl (EH f k) t).1≤KT t.1
 | [],t,_,ht=>⟨ht,Nat.le_refl _⟩
 | a :: l,t,hl,ht=>by
  simp only[List.foldl_cons]
  by_cases hc:t.1.getD a.2.toNat 0<0
  ·obtain⟨g1,g2⟩:=hv t a.2 ht (hl a (by simp)).1 (hl a (by simp)).2 hc
   have e:EH f k t a=Dl f k t a.2:=if_pos hc
   rw[e]
   obtain⟨g3,g4⟩:=Qf hv l _ (fun b hb=>hl b (by simp[hb])) g1
   exact⟨g3,Nat.le_trans g4 g2⟩
  ·have e:EH f k t a=t:=if_neg hc
   rw[e]
   exact Qf hv l t (fun b hb=>hl b (by simp[hb])) ht
theorem Oh {f:List AN} (hf:El f):∀(k:Nat) (s:List Int×List Int) (n:Int),QF f s→0≤n→n<f.length→s.1.getD n.toNat 0<0→QF f (Dl f k s n)∧KT (Dl f k s n).1≤KT s.1
 | 0,s,n,h,_,_,_=>⟨h,Nat.le_refl _⟩
 | k+1,s,n,h,h0,h1,h2=>by
  obtain⟨h3,h4⟩:=ZM h h0 h1 h2
  obtain⟨g1,g2⟩:=Qf (Oh hf k) _ _ (fun a ha=>Qd hf ha) h3
  rw[FG]
  exact⟨g1,by simp only at g2 h4;omega⟩
theorem Oi {α β:Type} (g:β→α→β) (l:List α) (d:α) (t:β) {i:Nat} (hi:i<l.length):(l.take (i+1)).foldl g t=g ((l.take i).foldl g t) (l.getD i d):=by
 rw[Au l d hi,List.foldl_append];rfl
def KM (f:List AN) (s:List Int×List Int):List (Nat×Obj):=[(1,.box 123 true [.p Gr f,.sr 2 T3 0 s.1.length,.sr 3 T3 0 s.2.length]),(2,.arr 3 T3 s.1),(3,.arr 3 T3 s.2)]
theorem n5 (f:List AN) (hf:El f):∀(k:Nat) (s:List Int×List Int) (n:Int),QF f s→0≤n→n<f.length→s.1.getD n.toNat 0<0→KT s.1≤k →
  BO Tryz.prog 78 [.bp 1 [] 0,.p T3 n] (KM f s) [1] (fun res objs'=>res=.raw (.tuple #[])∧objs'=KM f (Dl f k s n)):=by
 intro k
 induction k with
 | zero =>
  intro s n h0 h1 h2 h3 h4
  obtain⟨_,h5⟩:=ZM h0 h1 h2 h3
  omega
 | succ k ih =>
  intro s n htr hn0 hn1 hneg hk
  obtain⟨num,ord⟩:=s
  obtain⟨htr',hcnt⟩:=ZM htr hn0 hn1 hneg
  obtain⟨hl1,hl2⟩:=htr
  simp only at hl1 hl2 hneg htr' hcnt hk
  refine BL Tryz.func78 (by kernel_rfl) rfl Tryz.ntmps78 (by simp only[List.length_cons,List.length_nil];omega) (by kernel_rfl) rfl rfl (AF [(79,Jx)]) (AD UJ AI) ?_
  intro w0 K O0 ρ0 hc hok1 hok2
  simp only[KM,Al]
  repeat'(first|exact trivial|refine eS rfl ?_|refine AB ?_|refine rX [0,1,4,5,40,54] hc ?_ ?_|refine rC ?_ ?_<;>intro AA<;>try(cases AA;done))
  ·exact eV
  ·have:=hf.1
   simp only[AO];omega
  ·have hm:=K7 hf n
   exact⟨⟨hn0,hn1⟩,Nat.le_trans hm (by omega)⟩
  ·have harcs:=fun a (ha:a∈AZ (f.getD n.toNat (0,[])).2)=>Qd hf ha
   have hLlen:(AZ (f.getD n.toNat (0,[])).2).length≤100000:=by rw[CZ];exact K7 hf n
   generalize hL:AZ (f.getD n.toNat (0,[])).2=L at harcs hLlen
   generalize hs1:(num.set n.toNat (ord.length:Int),ord++[n])=s1 at htr'
   have hfold:∀i,QF f ((L.take i).foldl (EH f k) s1)∧KT ((L.take i).foldl (EH f k) s1).1≤KT s1.1:=fun i=>Qf (Oh hf k) _ _ (fun a ha=>harcs a (List.mem_of_mem_take ha)) htr'
   have hn1:num.set n.toNat (ord.length:Int)=s1.1:=by rw[←hs1]
   have ho1:ord++[n]=s1.2:=by rw[←hs1]
   rw[hn1]at hcnt
   refine AJ (ι:={i:Nat//i≤L.length}) (fun i=>⟨[(0,.bp 1 [] 0),(1,.p T3 n),(4,.p Iw L),(5,.p (.int .i64) (i.1:Int))],KM f ((L.take i.1).foldl (EH f k) s1)⟩) (fun i=>L.length-i.1) ⟨0,by omega⟩ (y3 [36] (AC [(1,.nm 1),(2,.nm 2),(3,.nm 3)] rfl rfl ?_ ?_)) (fun i=>?_)
   ·simp only[KM]
    first|exact eN|refine eM ?_
    simp only[List.foldl_nil]
    rw[←hs1]
    simp
   ·first|exact eN|refine eM ?_
   ·obtain⟨i,hi⟩:=i
    obtain⟨hti,hci⟩:=hfold i
    have hnext:=fun(h:i<L.length)=>Oi (EH f k) L (0,0) s1 h
    generalize hsi:(L.take i).foldl (EH f k) s1=si at hti hci hnext
    simp only[KM]
    repeat'(first|exact trivial|refine eS rfl ?_|refine AB ?_|refine rX [0,1,4,5,40,54] hc ?_ ?_|refine rC ?_ ?_<;>intro AA<;>try(cases AA;done))
    ·have hiL:i<L.length:=by exact eV
     have:=harcs _ (AE L (0,0) hiL)
     obtain⟨h1,h2⟩:=hti
     refine⟨by exact eV,this.1,?_⟩
     rw[h1]
     exact this.2
    ·have hiL:i<L.length:=by exact eV
     have hr:=harcs _ (AE L (0,0) hiL)
     refine cP 6 hc ?_ ?_
     ·exact eV
     ·refine rM hc (ih si (L.getD i (0,0)).2 hti hr.1 hr.2 (by simpa using AA) (by omega)) [(1,.nm 1),(2,.nm 2),(3,.nm 3)] [2,3] ?_ ?_ ?_
      ·first|exact eN|refine eM ?_
      ·simp only[KM]
       first|exact eN|refine eM ?_
      ·rintro _ _ ⟨rfl,rfl⟩
       refine⟨[(1,.nm 1),(2,.nm 2),(3,.nm 3)],.raw (.tuple #[]),KM f (Dl f k si (L.getD i (0,0)).2),rfl,rfl,?_,?_,rfl,rfl,Cm ?_⟩
       ·simp only[KM]
        first|exact eN|refine eM ?_
       ·first|exact eN|refine eM ?_
       ·repeat'(first|exact trivial|refine eS rfl ?_|refine AB ?_|refine rX [0,1,4,5,40,54] hc ?_ ?_|refine rC ?_ ?_<;>intro AA<;>try(cases AA;done))
        ·exact eV
        ·have e:EH f k si (L.getD i (0,0))=Dl f k si (L.getD i (0,0)).2:=if_pos (by simpa using AA)
         refine⟨⟨i+1,by omega⟩,by simp only;omega,AC [(1,.nm 1),(2,.nm 2),(3,.nm 3)] rfl rfl ?_ ?_⟩
         ·simp only[KM,hnext hiL,e]
          first|exact eN|refine eM ?_
         ·first|exact eN|refine eM ?_
    ·exact eV
    ·have hiL:i<L.length:=by exact eV
     have e:EH f k si (L.getD i (0,0))=si:=if_neg (by simpa using AA)
     refine⟨⟨i+1,by omega⟩,by simp only;omega,AC [(1,.nm 1),(2,.nm 2),(3,.nm 3)] rfl rfl ?_ ?_⟩
     ·simp only[hnext hiL,e]
      first|exact eN|refine eM ?_
     ·first|exact eN|refine eM ?_
    ·have hk:L.take i=L:=List.take_of_length_le (by exact eV)
     rw[hk]at hsi
     have h1:Dl f (k+1) (num,ord) n=si:=by rw[FG,hL,←hsi,←hs1]
     rw[h1]
     exact AU hc [] rfl (.inr rfl) (.raw (.tuple #[])) rfl ⟨rfl,rfl⟩
end
/- Functions of grammarlabref07: From. -/
section
attribute [local go_sem] Jx
def XR (f:List AN) (s:List Int×List Int):Prop:=∀n∈s.2,0≤n∧n<(f.length:Int)
theorem SA {f:List AN} (hf:El f):∀(k:Nat) (s:List Int×List Int) (n:Int),XR f s→0≤n→n<f.length→XR f (Dl f k s n)
 | 0,s,n,h,_,_=>h
 | k+1,s,n,h,h0,h1=>by
  rw[FG]
  have key:∀(l:List (Int×Int)) (t:List Int×List Int),(∀a∈l,0≤a.2∧a.2<(f.length:Int))→XR f t→XR f (l.foldl (EH f k) t):=by
   intro l
   induction l with
   | nil=>intro t _ ht;exact ht
   | cons a l ih =>
    intro t hl ht
    simp only[List.foldl_cons]
    refine ih _ (fun b hb=>hl b (by simp[hb])) ?_
    unfold EH
    split
    ·exact SA hf k t a.2 ht (hl a (by simp)).1 (hl a (by simp)).2
    ·exact ht
  refine key _ _ (fun a ha=>Qd hf ha) ?_
  intro m hm
  simp only[List.mem_append,List.mem_singleton]at hm
  rcases hm with hm|rfl
  ·exact h m hm
  ·exact⟨h0,h1⟩
def F3 (f:List AN) (root:Int):List Int×List Int:=Dl f f.length (List.replicate f.length (-1),[]) root
def S2 (num:List Int) (a:Int×Int):Int×Int:=(a.1,num.getD a.2.toNat 0)
def Lz (f:List AN) (num:List Int) (n:Int):AN:=((f.getD n.toNat (0,[])).1,(AZ (f.getD n.toNat (0,[])).2).map (S2 num))
def KN (f:List AN) (root:Int):List AN:=(F3 f root).2.map (Lz f (F3 f root).1)
theorem XS (m:Nat):KT (List.replicate m (-1))=m:=by
 induction m with
 | zero=>rfl
 | succ m ih=>simp only[KT,List.replicate_succ,List.countP_cons]at ih ⊢;simp[ih]
theorem tr0 (f:List AN):QF f (List.replicate f.length (-1),[]):=⟨by simp,by simp[XS]⟩
theorem fN {f:List AN} {n:Int} (h0:0≤n) (h1:n<f.length):(List.replicate f.length (-1:Int)).getD n.toNat 0<0:=by
 have:n.toNat<f.length:=by omega
 simp[List.getD_eq_getElem?_getD,List.getElem?_replicate,this]
theorem fO {f:List AN} (hf:El f) {n:Int} (h0:0≤n) (h1:n<f.length):QF f (F3 f n)∧XR f (F3 f n) :=
 ⟨(Oh hf _ _ n (tr0 f) h0 h1 (fN h0 h1)).1,SA hf _ _ n (fun m hm=>by simp at hm) h0 h1⟩
theorem SB {α β:Type} (g:α→β) (h:β→α) (L:List α) (d:α) {k:Nat} (hk:k<L.length) (u:α→α):((L.take k).map u++L.drop k).set k (u (L.getD k d))=(L.take (k+1)).map u++L.drop (k+1)∧((L.take k).map u++L.drop k).getD k d=L.getD k d:=by
 have h1:((L.take k).map u).length=k:=by simp;omega
 have h2:L.drop k=L.getD k d :: L.drop (k+1):=by
  rw[List.drop_eq_getElem_cons hk,List.getD_eq_getElem?_getD,List.getElem?_eq_getElem hk];rfl
 constructor
 ·rw[Au L d hk,List.set_append_right _ _ (by omega),h1,Nat.sub_self,h2]
  simp
 ·rw[List.getD_eq_getElem?_getD,List.getElem?_append_right (by omega),h1,Nat.sub_self,h2];rfl
def XT:Ah:={ ins:=[Gr,T3],pre:=fun(f,n,_)=>El f∧0≤n∧n<(List.length f:Int),out:=fun(f,n,_)=>[.p Gr (KN f n)] }
theorem uS:Ao Tryz.prog 54 XT:=by
 refine AW Tryz.func54 (by kernel_rfl) rfl Tryz.ntmps54 (by decide) (by kernel_rfl) (AF [(79,Jx)]) (AD UJ AI) ?_
 rintro w0 O0 ⟨f,root,u⟩ hc-⟨hf,hr0,hr1⟩
 simp only[XT,AM]
 have hfl:=hf.1
 repeat'(first|exact trivial|refine eS rfl ?_|refine AB ?_|refine rX [0,1,2,4,5,6,7,8,9,10,11,19,40,60] hc ?_ ?_|refine rC ?_ ?_<;>intro AA<;>try(cases AA;done))
 refine AJ (ι:={i:Nat//i≤f.length}) (fun i=>⟨[(1,.p T3 root),(2,.bp 2 [] 0),(4,.bp 4 [] 0),(5,.bp 14 [] 0),(6,.p (.int .i64) (i.1:Int))],[(2,.box 25 true [.p HR f]),(4,.box 25 true [.raw (.slice none 0 0)]),(14,.box 123 true [.p Gr f,.sr 10 T3 0 i.1,.raw (.slice none 0 0)]),(10,.arr 3 T3 (List.replicate i.1 (-1)))]⟩) (fun i=>f.length-i.1) ⟨0,by omega⟩ (AC [(2,.nm 2),(4,.nm 4),(14,.nm 14),(10,.nil)] rfl rfl ?_ ?_) (fun i=>?_)
 ·first|exact eN|refine eM ?_
  rfl
 ·first|exact eN|refine eM ?_
 ·obtain⟨i,hi⟩:=i
  repeat'(first|exact trivial|refine eS rfl ?_|refine AB ?_|refine rX [0,1,2,4,5,6,7,8,9,10,11,19,40,60] hc ?_ ?_|refine rC ?_ ?_<;>intro AA<;>try(cases AA;done))
  ·simp only[AO];omega
  ·exact eV
  ·have hi:i<List.length f:=by exact eV
   refine⟨⟨i+1,by omega⟩,by simp only;omega,AC [(2,.nm 2),(4,.nm 4),(14,.nm 14),(10,.nm 10)] rfl rfl ?_ ?_⟩
   ·first|exact eN|refine eM ?_
    rw[List.replicate_succ']
    simp
   ·first|exact eN|refine eM ?_
  ·have hif:i=List.length f:=by exact eV
   subst hif
   have hvo:=fO hf hr0 hr1
   refine cP 2 hc ?_ ?_
   ·trivial
   ·refine rM hc (n5 f hf (List.length f) (List.replicate (List.length f) (-1),[]) root (tr0 f) hr0 hr1 (fN hr0 hr1) (by rw[XS];exact Nat.le_refl _)) [(1,.nm 14),(2,.nm 10),(3,.nil)] [10] ?_ ?_ ?_
    ·first|exact eN|refine eM ?_
    ·simp only[KM]
     first|exact eN|refine eM ?_
     simp
    ·rintro _ _ ⟨rfl,rfl⟩
     refine⟨[(14,.nm 1),(101,.nm 2),(102,.nm 3)],.raw (.tuple #[]),[(14,.box 123 true [.p Gr f,.sr 101 T3 0 (F3 f root).1.length,.sr 102 T3 0 (F3 f root).2.length]),(101,.arr 3 T3 (F3 f root).1),(102,.arr 3 T3 (F3 f root).2)],rfl,rfl,?_,?_,rfl,rfl,Cm ?_⟩
     ·simp only[KM,F3]
      first|exact eN|refine eM ?_
     ·first|exact eN|refine eM ?_
     ·have hfrom:KN f root=(F3 f root).2.map (Lz f (F3 f root).1):=rfl
      rw[hfrom]
      generalize F3 f root=s at hvo
      obtain⟨num,ord⟩:=s
      obtain⟨⟨hn1,hn2⟩,hord⟩:=hvo
      simp only at hn1 hn2
      have hord:∀n∈ord,0≤n∧n<(List.length f:Int):=hord
      repeat'(first|exact trivial|refine eS rfl ?_|refine AB ?_|refine rX [0,1,2,4,5,6,7,8,9,10,11,19,40,60] hc ?_ ?_|refine rC ?_ ?_<;>intro AA<;>try(cases AA;done))
      refine AJ (ι:={i:Nat//i≤ord.length}) (fun i=>⟨[(2,.bp 2 [] 0),(4,.bp 4 [] 0),(5,.bp 14 [] 0),(7,.bp 7 [] 0),(8,.p (.int .i64) (i.1:Int))],[(2,.box 25 true [.p HR f]),(4,.box 25 true [.raw (.slice none 0 0)]),(14,.box 123 true [.p Gr f,.sr 101 T3 0 num.length,.sr 102 T3 0 ord.length]),(101,.arr 3 T3 num),(102,.arr 3 T3 ord),(7,.box 25 true [.sr 200 Rc 0 i.1]),(200,.arr 49 Rc ((ord.take i.1).map (Lz f num)))]⟩) (fun i=>ord.length-i.1) ⟨0,by omega⟩ (AC [(2,.nm 2),(4,.nm 4),(14,.nm 14),(101,.nm 101),(102,.nm 102),(7,.nm 7),(200,.nil)] rfl rfl ?_ ?_) (fun i=>?_)
      ·first|exact eN|refine eM ?_
      ·first|exact eN|refine eM ?_
      ·obtain⟨i,hi⟩:=i
       repeat'(first|exact trivial|refine eS rfl ?_|refine AB ?_|refine rX [0,1,2,4,5,6,7,8,9,10,11,19,40,60] hc ?_ ?_|refine rC ?_ ?_<;>intro AA<;>try(cases AA;done))
       ·have hi:i<ord.length:=by exact eV
        exact⟨by exact eV,hord _ (AE ord 0 hi)⟩
       ·exact Nat.le_trans (K7 hf _) (by omega)
       ·have hi:i<ord.length:=by exact eV
        have harcs:=fun a (ha:a∈AZ (f.getD (Int.toNat (ord.getD i 0)) (0,[])).2)=>Qd hf ha
        have hnode:Lz f num (ord.getD i 0)=((f.getD (Int.toNat (ord.getD i 0)) (0,[])).1,(AZ (f.getD (Int.toNat (ord.getD i 0)) (0,[])).2).map (S2 num)):=rfl
        have hxl:=K7 hf (ord.getD i 0)
        generalize List.getD f (Int.toNat (ord.getD i 0)) (0,[])=x at *
        obtain⟨xt,xa⟩:=x
        simp only at harcs hnode hxl
        have hLl:=CZ xa
        generalize AZ xa=L at *
        refine AJ (ι:={k:Nat//k≤L.length}) (fun k=>⟨[(2,.bp 2 [] 0),(4,.bp 4 [] 0),(5,.bp 14 [] 0),(7,.bp 7 [] 0),(8,.p (.int .i64) (i:Int)),(9,.bp 9 [] 0),(10,.sr 56 BC 0 L.length),(11,.p (.int .i64) (k.1:Int))],[(56,.arr 53 BC ((L.take k.1).map (S2 num)++L.drop k.1)),(9,.box 49 true [.p T3 xt,.p Iw xa]),(2,.box 25 true [.p HR f]),(4,.box 25 true [.raw (.slice none 0 0)]),(14,.box 123 true [.p Gr f,.sr 101 T3 0 num.length,.sr 102 T3 0 ord.length]),(101,.arr 3 T3 num),(102,.arr 3 T3 ord),(7,.box 25 true [.sr 200 Rc 0 i]),(200,.arr 49 Rc ((ord.take i).map (Lz f num)))]⟩) (fun k=>L.length-k.1) ⟨0,by omega⟩ (AC [(2,.nm 2),(4,.nm 4),(14,.nm 14),(101,.nm 101),(102,.nm 102),(7,.nm 7),(200,.nm 200),(9,.nm 9),(56,.nm 56)] rfl rfl ?_ ?_) (fun k=>?_)
        ·first|exact eN|refine eM ?_
        ·first|exact eN|refine eM ?_
        ·obtain⟨k,hk⟩:=k
         repeat'(first|exact trivial|refine eS rfl ?_|refine AB ?_|refine rX [0,1,2,4,5,6,7,8,9,10,11,19,40,60] hc ?_ ?_|refine rC ?_ ?_<;>intro AA<;>try(cases AA;done))
         ·have hkL:k<L.length:=by exact eV
          have e:=(SB (S2 num) (fun b=>b) L (0,0) hkL (S2 num)).2
          rw[e]
          have:=harcs _ (AE L (0,0) hkL)
          rw[hn1]
          exact⟨by exact eV,this,by exact eV⟩
         ·exact eV
         ·have hkL:k<L.length:=by exact eV
          have e:=SB (S2 num) (fun b=>b) L (0,0) hkL (S2 num)
          refine⟨⟨k+1,by omega⟩,by simp only;omega,AC [(2,.nm 2),(4,.nm 4),(14,.nm 14),(101,.nm 101),(102,.nm 102),(7,.nm 7),(200,.nm 200),(9,.nm 9),(56,.nm 56)] rfl rfl ?_ ?_⟩
          ·first|exact eN|refine eM ?_
           rw[e.2]
           exact e.1
          ·first|exact eN|refine eM ?_
         ·simp only[AO];have:=hn2;omega
         ·exact eV
         ·have hkL:L.take k=L:=List.take_of_length_le (by exact eV)
          have hdL:L.drop k=[]:=List.drop_eq_nil_of_le (by exact eV)
          refine⟨⟨i+1,by omega⟩,by simp only;omega,AC [(2,.nm 2),(4,.nm 4),(14,.nm 14),(101,.nm 101),(102,.nm 102),(7,.nm 7),(200,.nm 200)] rfl rfl ?_ ?_⟩
          ·first|exact eN|refine eM ?_
           rw[hkL,hdL,List.append_nil,Au ord 0 hi,List.map_append,List.map_cons,List.map_nil,hnode]
           have t1:List.take i ((ord.take i).map (Lz f num))=(ord.take i).map (Lz f num):=List.take_of_length_le (by rw[List.length_map,List.length_take];omega)
           have t2:List.take L.length (L.map (S2 num))=L.map (S2 num):=List.take_of_length_le (by rw[List.length_map];omega)
           rw[t1,t2]
          ·first|exact eN|refine eM ?_
       ·have hk:ord.take i=ord:=List.take_of_length_le (by exact eV)
        rw[hk]
        refine AG hc [.cell 4 25] rfl (.inl rfl) (by simp) (by first|exact eR|refine Av ?_;exact List.take_of_length_le (by rw[List.length_map];exact eV))
end
/- Functions of grammarlabref07: Canon, Sub; grammarlabref15: in, arc, canon. -/
section
attribute [local go_sem] fM XT
theorem SC {n:Int}:∀ {l seen:List (Int×Int)},Hz n seen l=0→∀a∈l,0≤a.1∧0≤a.2∧a.2<n
 | [],_,_,a,ha=>by cases ha
 | x :: l,seen,h,a,ha=>by
  simp only[Hz]at h
  split at h
  ·cases h
  ·split at h
   ·cases h
   ·rename_i h1 _
    rcases List.mem_cons.1 ha with rfl|ha
    ·omega
    ·exact SC h a ha
theorem Mg {m:Int}:∀ {f:List (Int×List (Int×Int))},JL m f=0→∀x∈f,0≤x.1∧∀a∈x.2,0≤a.1∧0≤a.2∧a.2<m
 | [],_,x,hx=>by cases hx
 | y :: f,h,x,hx=>by
  simp only[JL]at h
  split at h
  ·cases h
  ·split at h
   ·rename_i h1 h2;exact absurd h h2
   ·rename_i h1 h2
    have h2:Ia y.2 m=0:=Classical.byContradiction h2
    rcases List.mem_cons.1 hx with rfl|hx
    ·exact⟨by omega,SC h2⟩
    ·exact Mg h x hx
def VW (f:List (Int×List (Int×Int))):Prop:=∀x∈f,x.2.length≤100000
theorem Jy {f:List (Int×List (Int×Int))} (h:CT f=0) (hs:VW f):El f∧0<f.length:=by
 unfold CT at h
 split at h
 ·cases h
 ·split at h
  ·cases h
  ·refine⟨⟨by omega,fun x hx=>⟨hs x hx,fun a ha=>?_⟩⟩,by omega⟩
   have:=(Mg h x hx).2 a ha
   exact⟨this.2.1,this.2.2⟩
def BM (f:List AN):List AN×Int:=if CT f=0 then (KN f 0,0) else ([],CT f)
def SD:Ah:={ ins:=[Gr],pre:=fun(f,_)=>VW f,out:=fun(f,_)=>[.p Gr (BM f).1,.p Rb (BM f).2] }
theorem n6:Ao Tryz.prog 70 SD:=by
 refine AW Tryz.func70 (by kernel_rfl) rfl Tryz.ntmps70 (by decide) (by kernel_rfl) (AF [(108,fM),(54,XT)]) (AD uR (AD uS AI)) ?_
 rintro w0 O0 ⟨f,u⟩ hc-hs
 simp only[SD,AM]
 repeat'(first|exact trivial|refine eS rfl ?_|refine AB ?_|refine rX [0,1,2,3,4,8] hc ?_ ?_|refine rC ?_ ?_<;>intro AA<;>try(cases AA;done))
 ·have h:¬CT f=0:=by simpa using AA
  have e:BM f=([],CT f):=if_neg h
  exact AG hc [.cell 2 25,.tmp 3] rfl (.inl rfl) (by simp) (by rw[e];first|exact eR|refine Av ?_)
 ·have h:CT f=0:=by simpa using AA
  have:=Jy h hs
  exact⟨this.1,by exact eV⟩
 ·have h:CT f=0:=by simpa using AA
  have e:BM f=(KN f 0,0):=if_pos h
  exact AG hc [.cell 2 25,.tmp 3] rfl (.inl rfl) (by simp) (by rw[e];first|exact eR|refine Av ?_)
end
/- Functions of grammarlabref15: LightPaths; grammarlabref07.Atom. -/
section
def XU:Ah:={ ins:=[T3],pre:=fun _=>True,out:=fun(t,_)=>[.p Gr [(t,[])]] }
theorem uT:Ao Tryz.prog 35 XU:=by
 refine AW Tryz.func35 (by kernel_rfl) rfl Tryz.ntmps35 (by decide) (by kernel_rfl) (AF []) AI ?_
 rintro w0 O0 ⟨t,u⟩ hc - -
 simp only[XU,AM]
 repeat'(first|exact trivial|refine eS rfl ?_|refine AB ?_|refine rX [0,2] hc ?_ ?_|refine rC ?_ ?_<;>intro AA<;>try(cases AA;done))
 exact AG hc [.cell 2 25] rfl (.inl rfl) (by simp) (by first|exact eR|refine Av ?_)
end
/- Functions of grammarlabref15: Canonical. -/
section
attribute [local go_sem] Me SD K4
theorem XV {f:List AN} (h:Ir f=true):f.length≤12∧∀x∈f,x.2.length≤12:=by
 unfold Ir at h
 simp only[Bool.and_eq_true,decide_eq_true_eq,List.all_eq_true]at h
 exact h
theorem ZN {f:List AN} (hf:El f) {n:Int} (h0:0≤n) (h1:n<f.length):Cq (KN f n):=by
 obtain⟨⟨g1,g2⟩,_⟩:=fO hf h0 h1
 have hfl:=hf.1
 refine⟨?_,fun x hx=>?_⟩
 ·unfold KN
  rw[List.length_map]
  omega
 ·obtain⟨m,_,rfl⟩:=List.mem_map.1 hx
  unfold Lz
  simp only[List.length_map,CZ]
  exact K7 hf m
theorem Pj {f:List AN} (hs:VW f):Cq (BM f).1:=by
 unfold BM
 split
 ·rename_i h
  obtain⟨h1,h2⟩:=Jy h hs
  exact ZN h1 (by omega) (by omega)
 ·exact⟨by simp,fun x hx=>by cases hx⟩
end
/- Functions of grammarlabref07: Check. -/
section
attribute [local go_sem] SD K4
def kP (h:AR) (a:Int×Int):Bool:=decide (a.1<(h.2.length:Int))
def UK (h:AR) (x:AN):Bool:=decide (x.1<(h.1.length:Int))&&x.2.all (kP h)
def CX (h:AR) (f:List AN):Int:=if (BM f).2≠0 then (BM f).2 else if f.all (UK h)=false then 2 else if (DY f (BM f).1==0)=false then 3 else 0
def Lb:Ah:={ ins:=[Ml,Gr],pre:=fun(_,f,_)=>Cq f,out:=fun(h,f,_)=>[.p Rb (CX h f)] }
theorem jF:Ao Tryz.prog 40 Lb:=by
 refine AW Tryz.func40 (by kernel_rfl) rfl Tryz.ntmps40 (by decide) (by kernel_rfl) (AF [(70,SD),(20,K4)]) (AD n6 (AD XQ AI)) ?_
 rintro w0 O0 ⟨⟨ht,hf⟩,f,u⟩ hc-hs
 have hs:Cq f:=hs
 simp only[Lb,AM]
 repeat'(first|exact trivial|refine eS rfl ?_|refine AB ?_|refine rX [0,1,2,3,4,5,6,7,8,9,16,22,35,40,52,56] hc ?_ ?_|refine rC ?_ ?_<;>intro AA<;>try(cases AA;done))
 ·exact hs.2
 ·have h1:CX (ht,hf) f=(BM f).2:=by unfold CX;rw[if_pos AA]
  exact AG hc [.tmp 4] rfl (.inl rfl) (by simp) (by rw[h1];first|exact eR|refine Av ?_)
 ·have hz:(BM f).2=0:=by simpa using AA
  have hsc:=Pj hs.2
  have hfl:=hs.1
  have hr:CX (ht,hf) f=if f.all (UK (ht,hf))=false then 2 else if (DY f (BM f).1==0)=false then 3 else 0:=by unfold CX;rw[if_neg (by rw[hz];simp)]
  refine AJ (ι:={i:Nat//i≤f.length∧(f.take i).all (UK (ht,hf))=true}) (fun i=>⟨[(2,.bp 2 [] 0),(3,.bp 3 [] 0),(5,.bp 5 [] 0),(7,.p (.int .i64) (i.1:Int))],[(2,.box 31 true [.p Tf ht,.p Vp hf]),(3,.box 25 true [.p HR f]),(5,.box 25 true [.p HR (BM f).1])]⟩) (fun i=>f.length-i.1) ⟨0,by simp⟩ (AC [(2,.nm 2),(3,.nm 3),(5,.nm 5)] rfl rfl ?_ ?_) (fun i=>?_)
  ·first|exact eN|refine eM ?_
  ·first|exact eN|refine eM ?_
  ·obtain⟨i,hi,hall⟩:=i
   have hsn:=fun h:i<f.length=>GG f (0,[]) (UK (ht,hf)) h
   simp only
   repeat'(first|exact trivial|refine eS rfl ?_|refine AB ?_|refine rX [0,1,2,3,4,5,6,7,8,9,16,22,35,40,52,56] hc ?_ ?_|refine rC ?_ ?_<;>intro AA<;>try(cases AA;done))
   ·exact AA
   ·have hif:i<f.length:=Int.ofNat_lt.1 (by assumption)
    have e:f.all (UK (ht,hf))=false:=by
     rw[List.all_eq_false]
     refine⟨_,AE f (0,[]) hif,?_⟩
     unfold UK
     rw[decide_eq_false (Int.not_lt.2 AA)]
     simp
    rw[if_pos e]at hr
    exact AG hc [.tmp 4] rfl (.inl rfl) (by simp) (by rw[hr];first|exact eR|refine Av ?_)
   ·have hif:i<f.length:=Int.ofNat_lt.1 (by assumption)
    have hm:=AE f (0,[]) hif
    have hnd:UK (ht,hf) (f.getD i (0,[]))=(f.getD i (0,[])).2.all (kP (ht,hf)):=by
     unfold UK
     rw[decide_eq_true (show (f.getD i (0,[])).1<(ht.length:Int) from AA)]
     rfl
    have hal:(f.getD i (0,[])).2.length≤100000:=hs.2 _ hm
    refine AJ (ι:={k:Nat//k≤(f.getD i (0,[])).2.length∧((f.getD i (0,[])).2.take k).all (kP (ht,hf))=true}) (fun k=>⟨[(2,.bp 2 [] 0),(3,.bp 3 [] 0),(5,.bp 5 [] 0),(7,.p (.int .i64) (i:Int)),(8,.bp 8 [] 0),(9,.p (.int .i64) (k.1:Int))],[(2,.box 31 true [.p Tf ht,.p Vp hf]),(3,.box 25 true [.p HR f]),(5,.box 25 true [.p HR (BM f).1]),(8,.box 49 true [.p T3 (f.getD i (0,[])).1,.p Iw (f.getD i (0,[])).2])]⟩) (fun k=>(f.getD i (0,[])).2.length-k.1) ⟨0,by simp⟩ (AC [(2,.nm 2),(3,.nm 3),(5,.nm 5),(8,.nm 8)] rfl rfl ?_ ?_) (fun k=>?_)
    ·first|exact eN|refine eM ?_
    ·first|exact eN|refine eM ?_
    ·obtain⟨k,hk,hall2⟩:=k
     have hsn2:=fun h:k<(f.getD i (0,[])).2.length=>GG (f.getD i (0,[])).2 (0,0) (kP (ht,hf)) h
     simp only
     repeat'(first|exact trivial|refine eS rfl ?_|refine AB ?_|refine rX [0,1,2,3,4,5,6,7,8,9,16,22,35,40,52,56] hc ?_ ?_|refine rC ?_ ?_<;>intro AA<;>try(cases AA;done))
     ·exact AA
     ·have hkL:k<(f.getD i (0,[])).2.length:=Int.ofNat_lt.1 (by assumption)
      have e:f.all (UK (ht,hf))=false:=by
       rw[List.all_eq_false]
       refine⟨_,hm,?_⟩
       rw[hnd,List.all_eq_false.2 ⟨_,AE (f.getD i (0,[])).2 (0,0) hkL,by unfold kP;rw[decide_eq_false (Int.not_lt.2 AA)];simp⟩]
       simp
      rw[if_pos e]at hr
      exact AG hc [.tmp 4] rfl (.inl rfl) (by simp) (by rw[hr];first|exact eR|refine Av ?_)
     ·exact eV
     ·have hkL:k<(f.getD i (0,[])).2.length:=Int.ofNat_lt.1 (by assumption)
      refine⟨⟨k+1,hkL,?_⟩,by simp only;omega,AC [(2,.nm 2),(3,.nm 3),(5,.nm 5),(8,.nm 8)] rfl rfl ?_ ?_⟩
      ·rw[hsn2 hkL,hall2]
       unfold kP
       exact decide_eq_true AA
      ·first|exact eN|refine eM ?_
      ·first|exact eN|refine eM ?_
     ·exact eV
     ·have hkL:(f.getD i (0,[])).2.take k=(f.getD i (0,[])).2:=List.take_of_length_le (Int.ofNat_le.1 AA)
      rw[hkL]at hall2
      refine⟨⟨i+1,hif,?_⟩,by simp only;omega,AC [(2,.nm 2),(3,.nm 3),(5,.nm 5)] rfl rfl ?_ ?_⟩
      ·rw[hsn hif,hall,hnd,hall2]
       rfl
      ·first|exact eN|refine eM ?_
      ·first|exact eN|refine eM ?_
   ·exact⟨hs,hsc⟩
   ·have hif:f.take i=f:=List.take_of_length_le (Int.ofNat_le.1 (by assumption))
    rw[hif]at hall
    rw[if_neg (by rw[hall];simp),if_pos (by simpa using AA)]at hr
    exact AG hc [.tmp 4] rfl (.inl rfl) (by simp) (by rw[hr];first|exact eR|refine Av ?_)
   ·have hif:f.take i=f:=List.take_of_length_le (Int.ofNat_le.1 (by assumption))
    rw[hif]at hall
    rw[if_neg (by rw[hall];simp),if_neg (by rw[AA];simp)]at hr
    exact AG hc [.tmp 4] rfl (.inl rfl) (by simp) (by rw[hr];first|exact eR|refine Av ?_)
end
/- Functions of grammarlablaw11: hierarchy, fits, of; graph.Atom. -/
section
attribute [local go_sem] K3 K2 Me Lb
def DB (d:List AH):AR:=if d.length≤12∧(BB d).2=0 then (BB d).1 else (BB Hy).1
end
/- Functions of bits: word, Subset; hier: Subsumes. -/
section
def VX:Ah:={ ins:=[EC,T3],pre:=fun(_,i,_)=>(0:Int)≤i,out:=fun(b,i,_)=>[.p NE (F1 b i)],lend:=true }
attribute [local go_sem] VX
theorem n7:Ao Tryz.prog 107 VX:=by
 refine AW Tryz.func107 (by kernel_rfl) rfl Tryz.ntmps107 (by decide) (by kernel_rfl) (AF []) AI ?_
 rintro w0 O0 ⟨b,i,u⟩ hc-hi
 simp only[VX,AM]
 repeat'(first|exact trivial|refine eS rfl ?_|refine AB ?_|refine rX [0,1,4,8] hc ?_ ?_|refine rC ?_ ?_<;>intro AA<;>try(cases AA;done))
 ·exact⟨hi,AA⟩
 ·have h1:F1 b i=b.getD i.toNat 0:=by unfold F1;rw[if_pos AA]
  exact AG hc [.tmp 4] rfl (.inl rfl) (by simp) (by rw[h1];first|exact eR|refine Av ?_)
 ·have h1:F1 b i=0:=by unfold F1;rw[if_neg (Int.not_lt.2 AA)]
  exact AG hc [.tmp 4] rfl (.inl rfl) (by simp) (by rw[h1];first|exact eR|refine Av ?_)
def Na (a b:List Int):Bool:=(List.range a.length).all fun i=>Bt .andNot .u64 (a.getD i 0) (F1 b (i:Int))==0
def XW (a b:List Int) (n:Nat):Bool:=(List.range n).all fun i=>Bt .andNot .u64 (a.getD i 0) (F1 b (i:Int))==0
theorem ZO (a b:List Int) (n:Nat):XW a b (n+1)=(XW a b n&&Bt .andNot .u64 (a.getD n 0) (F1 b (n:Int))==0):=by
 unfold XW
 rw[List.range_succ,List.all_append]
 simp
def JM:Ah:={ ins:=[EC,EC],pre:=fun _=>True,out:=fun(a,b,_)=>[.p .bool (Na a b)],lend:=true }
attribute [local go_sem] JM
theorem SE:Ao Tryz.prog 69 JM:=by
 refine AW Tryz.func69 (by kernel_rfl) rfl Tryz.ntmps69 (by decide) (by kernel_rfl) (AF [(107,VX)]) (AD n7 AI) ?_
 rintro w0 O0 ⟨a,b,u⟩ hc ⟨⟨hal,-⟩,-⟩ -
 simp only[AO]at hal
 simp only[JM,AM]
 repeat'(first|exact trivial|refine eS rfl ?_|refine AB ?_|refine rX [0,1,4,5,6,7,8,9,10,19] hc ?_ ?_|refine rC ?_ ?_<;>intro AA<;>try(cases AA;done))
 have hfp:Na a b=XW a b a.length:=rfl
 refine AJ (ι:={n:Nat//n≤a.length∧XW a b n=true}) (fun n=>⟨[(1,.p EC b),(7,.p EC a),(8,.p (.int .i64) (a.length:Int)),(9,.p (.int .i64) (n.1:Int))],[]⟩) (fun n=>a.length-n.1) ⟨0,Nat.zero_le _,rfl⟩ (AC [] rfl rfl ?_ ?_) (fun n=>?_)
 ·first|exact eN|refine eM ?_
 ·first|exact eN|refine eM ?_
 ·obtain⟨n,hn,hall⟩:=n
  have hs:=ZO a b n
  simp only
  repeat'(first|exact trivial|refine eS rfl ?_|refine AB ?_|refine rX [0,1,4,5,6,7,8,9,10,19] hc ?_ ?_|refine rC ?_ ?_<;>intro AA<;>try(cases AA;done))
  ·exact AA
  ·have hn2:n<a.length:=by exact eV
   have h1:Na a b=false:=by
    unfold Na
    rw[List.all_eq_false]
    exact⟨n,List.mem_range.2 hn2,by simpa using AA⟩
   exact AG hc [.tmp 4] rfl (.inl rfl) (by simp) (by rw[h1];first|exact eR|refine Av ?_)
  ·exact eV
  ·have hn2:n<a.length:=by exact eV
   refine⟨⟨n+1,hn2,?_⟩,by simp only;omega,AC [] rfl rfl ?_ ?_⟩
   ·rw[hs,hall]
    simpa using AA
   ·first|exact eN|refine eM ?_
   ·first|exact eN|refine eM ?_
  ·have hn2:n=a.length:=by exact eV
   subst hn2
   exact AG hc [.tmp 4] rfl (.inl rfl) (by simp) (by rw[hfp,hall];first|exact eR|refine Av ?_)
abbrev Sn:KK:=(ByteArray.empty,[],[],[])
def Dx (h:AR) (a b:Int):Bool:=Na (h.1.getD b.toNat Sn).2.1 (h.1.getD a.toNat Sn).2.1
def SF:Ah:={ ins:=[Ml,T3,T3],pre:=fun(h,a,b,_)=>((0:Int)≤a∧a<(List.length (h:AR).1:Int))∧((0:Int)≤b∧b<(List.length (h:AR).1:Int)),out:=fun(h,a,b,_)=>[.p .bool (Dx h a b)],lend:=true }
theorem uU:Ao Tryz.prog 39 SF:=by
 refine AW Tryz.func39 (by kernel_rfl) rfl Tryz.ntmps39 (by decide) (by kernel_rfl) (AF [(69,JM)]) (AD SE AI) ?_
 rintro w0 O0 ⟨⟨ht,hf⟩,a,b,u⟩ hc-⟨ha,hb⟩
 simp only[SF,AM]
 repeat'(first|exact trivial|refine eS rfl ?_|refine AB ?_|refine rX [0,1,2,3,6] hc ?_ ?_|refine rC ?_ ?_<;>intro AA<;>try(cases AA;done))
 ·exact⟨hb,ha⟩
 ·exact AG hc [.tmp 6] rfl (.inl rfl) (by simp) (by unfold Dx;first|exact eR|refine Av ?_)
end
/- Functions of bits: normal, And, Equal; hier: Meet. -/
section
attribute [local go_sem] JM
def Nb:Ah:={ ins:=[EC],pre:=fun(b,_)=>List.length b≤100000,out:=fun(b,_)=>[.p EC (A7 b)] }
attribute [local go_sem] Nb
theorem ZP:Ao Tryz.prog 161 Nb:=by
 refine AW Tryz.func161 (by kernel_rfl) rfl Tryz.ntmps161 (by decide) (by kernel_rfl) (AF []) AI ?_
 rintro w0 O0 ⟨b,u⟩ hc-hb
 have hb:b.length≤100000:=hb
 simp only[Nb,AM]
 repeat'(first|exact trivial|refine eS rfl ?_|refine AB ?_|refine rX [0,2,3,15] hc ?_ ?_|refine rC ?_ ?_<;>intro AA<;>try(cases AA;done))
 refine AJ (ι:={n:Nat//n≤b.length∧CS b n=CS b b.length}) (fun n=>⟨[(0,.p EC b),(3,.p (.int .i64) (n.1:Int))],[]⟩) (fun n=>n.1) ⟨b.length,Nat.le_refl _,rfl⟩ (AC [] rfl rfl ?_ ?_) (fun n=>?_)
 ·first|exact eN|refine eM ?_
 ·first|exact eN|refine eM ?_
 ·obtain⟨n,hn,hg⟩:=n
  simp only
  repeat'(first|exact trivial|refine eS rfl ?_|refine AB ?_|refine rX [0,2,3,15] hc ?_ ?_|refine rC ?_ ?_<;>intro AA<;>try(cases AA;done))
  ·constructor
   ·exact eV
   ·intro h
    refine⟨?_,?_⟩<;>exact eV
  ·exact eV
  ·obtain⟨h1,h2⟩:=AA
   obtain⟨m,rfl⟩:∃m,n=m+1:=⟨n-1,by omega⟩
   have e:(((m+1:Nat):Int)-1)=(m:Int):=by omega
   rw[e]at h2
   have h2:b.getD m 0=0:=h2
   have hg2:CS b m=CS b b.length:=by
    rw[←hg]
    show _=if b.getD m 0=0 then CS b m else m+1
    rw[if_pos h2]
   refine⟨⟨m,by omega,hg2⟩,by simp,AC [] rfl rfl ?_ ?_⟩
   ·first|exact eN|refine eM ?_
   ·simp only[e]
    first|exact eN|refine eM ?_
  ·exact Int.ofNat_le.2 hn
  ·have hend:CS b n=n:=by
    cases n with
    | zero=>rfl
    | succ m =>
     have e:(((m+1:Nat):Int)-1)=(m:Int):=by omega
     rw[e]at AA
     have h2:=AA (by omega)
     have h2:¬b.getD m 0=0:=h2
     show (if b.getD m 0=0 then CS b m else m+1)=m+1
     rw[if_neg h2]
   have h1:A7 b=b.take n:=by unfold A7;rw[←hg,hend]
   rw[←h1]
   exact AG hc [.tmp 2] rfl (.inl rfl) (by simp) (by first|exact eR|refine Av ?_)
def Gc (g:Nat→Int) (n i:Nat):List Int:=(List.range n).map fun j=>if j<i then g j else 0
theorem UL (g:Nat→Int) (n i:Nat):(Gc g n i).length=n:=by simp[Gc]
theorem ZQ (g:Nat→Int) (n:Nat):Gc g n 0=List.replicate n 0:=by
 apply List.ext_getElem
 ·simp[Gc]
 ·intro j h1 h2
  simp[Gc]
theorem jG (g:Nat→Int) (n i:Nat):(Gc g n i).set i (g i)=Gc g n (i+1):=by
 apply List.ext_getElem
 ·simp[Gc]
 ·intro j h1 h2
  simp only[Gc,List.getElem_set,List.getElem_map,List.getElem_range]
  split
  ·rename_i e;rw[if_pos (by omega),e]
  ·rename_i e
   by_cases hj:j<i
   ·rw[if_pos hj,if_pos (by omega)]
   ·rw[if_neg hj,if_neg (by omega)]
def VY (a b:List Int) (i:Nat):Int:=Bt .and .u64 (a.getD i 0) (b.getD i 0)
def Ft (a b:List Int):List Int:=A7 (Gc (VY a b) (min a.length b.length) (min a.length b.length))
def fP:Ah:={ ins:=[EC,EC],pre:=fun(a,_,_)=>List.length a≤100000,out:=fun(a,b,_)=>[.p EC (Ft a b)] }
attribute [local go_sem] fP
theorem uV:Ao Tryz.prog 143 fP:=by
 refine AW Tryz.func143 (by kernel_rfl) rfl Tryz.ntmps143 (by decide) (by kernel_rfl) (AF [(161,Nb)]) (AD ZP AI) ?_
 rintro w0 O0 ⟨a,b,u⟩ hc-ha
 have ha:a.length≤100000:=ha
 simp only[fP,AM]
 repeat'(first|exact trivial|refine eS rfl ?_|refine AB ?_|refine rX [0,1,4,5,6,14,15,16] hc ?_ ?_|refine rC ?_ ?_<;>intro AA<;>try(cases AA;done))
 ·split<;>simp only[AO]<;>dsimp only[Ty.den]at *<;>omega
 ·have hmin:Int.toNat (if ((List.length b:Nat):Int)<((List.length a:Nat):Int) then ((List.length b:Nat):Int) else ((List.length a:Nat):Int))=min (List.length a) (List.length b):=by split<;>omega
  rw[hmin]
  have hr:Ft a b=A7 (Gc (VY a b) (min a.length b.length) (min a.length b.length)):=rfl
  have hma:min a.length b.length≤a.length:=Nat.min_le_left _ _
  have hmb:min a.length b.length≤b.length:=Nat.min_le_right _ _
  generalize min a.length b.length=n at *
  refine AJ (ι:={i:Nat//i≤n}) (fun i=>⟨[(0,.p EC a),(1,.p EC b),(5,.sr 12 NE 0 n),(14,.p (.int .i64) (n:Int)),(15,.p (.int .i64) (i.1:Int))],[(12,.arr 155 NE (Gc (VY a b) n i.1))]⟩) (fun i=>n-i.1) ⟨0,Nat.zero_le _⟩ (AC [(12,.nm 12)] rfl rfl ?_ ?_) (fun i=>?_)
  ·first|exact eN|refine eM ?_
   rw[ZQ]
  ·first|exact eN|refine eM ?_
  ·obtain⟨i,hi⟩:=i
   have hfl:=UL (VY a b) n i
   simp only
   repeat'(first|exact trivial|refine eS rfl ?_|refine AB ?_|refine rX [0,1,4,5,6,14,15,16] hc ?_ ?_|refine rC ?_ ?_<;>intro AA<;>try(cases AA;done))
   ·have hi2:i<n:=Int.ofNat_lt.1 AA
    exact⟨by exact eV,by exact eV,AA⟩
   ·exact eV
   ·have hi2:i<n:=Int.ofNat_lt.1 AA
    refine⟨⟨i+1,hi2⟩,by simp only;omega,AC [(12,.nm 12)] rfl rfl ?_ ?_⟩
    ·simp only[←jG]
     first|exact eN|refine eM ?_
     rfl
    ·first|exact eN|refine eM ?_
   ·have hi2:i=n:=by omega
    subst hi2
    have ht:(Gc (VY a b) i i).take i=Gc (VY a b) i i:=List.take_of_length_le (by rw[hfl];exact Nat.le_refl _)
    refine HQ [12] ?_
    repeat'(first|exact trivial|refine eS rfl ?_|refine AB ?_|refine rX [0,1,4,5,6,14,15,16] hc ?_ ?_|refine rC ?_ ?_<;>intro AA<;>try(cases AA;done))
    ·rw[ht,hfl]
     dsimp only[Ty.den]at *
     omega
    ·rw[ht]
     exact AG hc [.tmp 4] rfl (.inl rfl) (by simp) (by rw[hr];first|exact eR|refine Av ?_)
def Dm (a b:List Int):Bool:=Na a b&&Na b a
def Qg:Ah:={ ins:=[EC,EC],pre:=fun _=>True,out:=fun(a,b,_)=>[.p .bool (Dm a b)],lend:=true }
attribute [local go_sem] Qg
theorem jH:Ao Tryz.prog 146 Qg:=by
 refine AW Tryz.func146 (by kernel_rfl) rfl Tryz.ntmps146 (by decide) (by kernel_rfl) (AF [(69,JM)]) (AD SE AI) ?_
 rintro w0 O0 ⟨a,b,u⟩ hc - -
 simp only[Qg,AM]
 repeat'(first|exact trivial|refine eS rfl ?_|refine AB ?_|refine rX [0,1,4] hc ?_ ?_|refine rC ?_ ?_<;>intro AA<;>try(cases AA;done))
 exact AG hc [.tmp 4] rfl (.inl rfl) (by simp) (by unfold Dm;first|exact eR|refine Av ?_)
def Ec (c:List Int):Nat→List KK→Int
 | _,[]=>-1
 | k,t :: l=>if Dm t.2.1 c=true then (k:Int) else Ec c (k+1) l
theorem ZR (c:List Int) (l:List KK) {k:Nat} (h:k<l.length):Ec c k (l.drop k)=if Dm (l.getD k Sn).2.1 c=true then (k:Int) else Ec c (k+1) (l.drop (k+1)):=by
 rw[List.drop_eq_getElem_cons h]
 have e:l.getD k Sn=l[k]:=by simp[List.getD_eq_getElem?_getD,h]
 rw[e]
 rfl
theorem n8 (c:List Int) (t:KK):BO Tryz.prog 145 [.p x9 t,.bp 1 [] 0] [(1,.box 81 false [.p EC c])] [1] (fun res objs'=>res=.p .bool (Dm t.2.1 c)∧objs'=[(1,.box 81 false [.p EC c])]):=by
 refine BL Tryz.func145 (by kernel_rfl) rfl Tryz.ntmps145 (by simp only[List.length_cons,List.length_nil];omega) (by kernel_rfl) rfl rfl (AF [(146,Qg)]) (AD jH AI) ?_
 intro w0 K O0 ρ0 hc hok1 hok2
 simp only[Al]
 repeat'(first|exact trivial|refine eS rfl ?_|refine AB ?_|refine rX [0,1,2,3] hc ?_ ?_|refine rC ?_ ?_<;>intro AA<;>try(cases AA;done))
 refine Ev.ent (σ':=⟨[(3,.p .bool (Dm t.2.1 c))],[(1,.box 81 false [.p EC c])]⟩) ?_ (AC [(1,.nm 1)] rfl rfl ?_ ?_)
 ·exact AU hc [.tmp 3] rfl (.inl rfl) (.p .bool (Dm t.2.1 c)) eT ⟨rfl,rfl⟩
 ·first|exact eN|refine eM ?_
 ·first|exact eN|refine eM ?_
theorem jI (l:List KK) (c:List Int) (hl:l.length≤100000):BO Tryz.prog 144 [.p Tf l,.clo 145 [1]] [(1,.box 81 false [.p EC c])] [1] (fun res objs'=>res=.p T3 (Ec c 0 l)∧objs'=[(1,.box 81 false [.p EC c])]):=by
 refine BL Tryz.func144 (by kernel_rfl) rfl Tryz.ntmps144 (by simp only[List.length_cons,List.length_nil];omega) (by kernel_rfl) rfl rfl (AF []) AI ?_
 intro w0 K O0 ρ0 hc hok1 hok2
 simp only[Al]
 repeat'(first|exact trivial|refine eS rfl ?_|refine AB ?_|refine rX [0,1,4,5,7,8,9,16] hc ?_ ?_|refine rC ?_ ?_<;>intro AA<;>try(cases AA;done))
 refine AJ (ι:={k:Nat//k≤l.length∧Ec c k (l.drop k)=Ec c 0 l}) (fun k=>⟨[(0,.p Tf l),(1,.clo 145 [1]),(7,.p (.int .i64) (l.length:Int)),(8,.p (.int .i64) (k.1:Int))],[(1,.box 81 false [.p EC c])]⟩) (fun k=>l.length-k.1) ⟨0,Nat.zero_le _,rfl⟩ (AC [(1,.nm 1)] rfl rfl ?_ ?_) (fun k=>?_)
 ·first|exact eN|refine eM ?_
 ·first|exact eN|refine eM ?_
 ·obtain⟨k,hk,hf⟩:=k
  have hst:=fun h:k<l.length=>ZR c l h
  simp only
  repeat'(first|exact trivial|refine eS rfl ?_|refine AB ?_|refine rX [0,1,4,5,7,8,9,16] hc ?_ ?_|refine rC ?_ ?_<;>intro AA<;>try(cases AA;done))
  ·have hk2:k<l.length:=Int.ofNat_lt.1 AA
   have hs2:=hst hk2
   refine cP 5 hc ?_ ?_
   ·exact AA
   ·refine rM hc (n8 c (l.getD k Sn)) [(1,.nm 1)] [] ?_ ?_ ?_
    ·first|exact eN|refine eM ?_
    ·first|exact eN|refine eM ?_
    ·rintro _ _ ⟨rfl,rfl⟩
     refine⟨[(1,.nm 1)],.p .bool (Dm (l.getD k Sn).2.1 c),[(1,.box 81 false [.p EC c])],rfl,rfl,?_,?_,rfl,rfl,Cm ?_⟩
     ·first|exact eN|refine eM ?_
     ·first|exact eN|refine eM ?_
     ·repeat'(first|exact trivial|refine eS rfl ?_|refine AB ?_|refine rX [0,1,4,5,7,8,9,16] hc ?_ ?_|refine rC ?_ ?_<;>intro AA<;>try(cases AA;done))
      ·have AA:Dm (l.getD k Sn).2.1 c=true:=AA
       rw[if_pos AA,hf]at hs2
       refine Ev.ent (σ':=⟨[(4,.p (.int .i64) (k:Int))],[(1,.box 81 false [.p EC c])]⟩) ?_ (AC [(1,.nm 1)] rfl rfl ?_ ?_)
       ·exact AU hc [.tmp 4] rfl (.inl rfl) (.p T3 (k:Int)) eT ⟨by rw[hs2],rfl⟩
       ·first|exact eN|refine eM ?_
       ·first|exact eN|refine eM ?_
      ·omega
      ·have AA:Dm (l.getD k Sn).2.1 c=false:=AA
       rw[if_neg (by rw[AA];simp)]at hs2
       refine⟨⟨k+1,hk2,hs2.symm.trans hf⟩,by simp only;omega,AC [(1,.nm 1)] rfl rfl ?_ ?_⟩
       ·first|exact eN|refine eM ?_
       ·first|exact eN|refine eM ?_
  ·have hk2:l.drop k=[]:=List.drop_eq_nil_of_le (Int.ofNat_le.1 AA)
   rw[hk2]at hf
   have hf:(-1:Int)=Ec c 0 l:=hf
   refine Ev.ent (σ':=⟨[(4,.p (.int .i64) (-1))],[(1,.box 81 false [.p EC c])]⟩) ?_ (AC [(1,.nm 1)] rfl rfl ?_ ?_)
   ·exact AU hc [.tmp 4] rfl (.inl rfl) (.p T3 (-1)) eT ⟨by rw[hf],rfl⟩
   ·first|exact eN|refine eM ?_
   ·first|exact eN|refine eM ?_
def BT (h:AR) (t:Int):List Int:=(h.1.getD t.toNat Sn).2.1
def Dy (h:AR) (a b:Int):Int×Bool :=
 if (Ft (BT h a) (BT h b)).length=0 then (0,false) else if Ec (Ft (BT h a) (BT h b)) 0 h.1<0 then (0,false) else (Ec (Ft (BT h a) (BT h b)) 0 h.1,true)
def XX:Ah:={ ins:=[Ml,T3,T3],pre:=fun(h,a,b,_)=>((0:Int)≤a∧a<(List.length (h:AR).1:Int))∧((0:Int)≤b∧b<(List.length (h:AR).1:Int))∧List.length (h:AR).1≤100000∧(∀x∈(h:AR).1,x.2.1.length≤100000),out:=fun(h,a,b,_)=>[.p T3 (Dy h a b).1,.p .bool (Dy h a b).2],lend:=true }
theorem uW:Ao Tryz.prog 110 XX:=by
 refine AW Tryz.func110 (by kernel_rfl) rfl Tryz.ntmps110 (by decide) (by kernel_rfl) (AF [(143,fP)]) (AD uV AI) ?_
 rintro w0 O0 ⟨⟨ht,hf⟩,a,b,u⟩ hc-⟨ha,hb,hl,hx⟩
 simp only[XX,AM]
 refine Ev.ent (σ':=⟨[(0,.p Ml (ht,hf)),(1,.p T3 a),(2,.p T3 b)],[]⟩) ?_ (AC [] rfl rfl ?_ ?_)
 ·repeat'(first|exact trivial|refine eS rfl ?_|refine AB ?_|refine rX [0,1,2,3,6,7,8,9,25,31] hc ?_ ?_|refine rC ?_ ?_<;>intro AA<;>try(cases AA;done))
  ·refine⟨ha,hb,?_⟩
   have h1:Int.toNat a<List.length ht:=(Int.toNat_lt ha.1).2 ha.2
   exact hx _ (AE (ht:List KK) Sn h1)
  ·have hr:Dy (ht,hf) a b=(0,false):=by
    unfold Dy
    rw[if_pos (by unfold BT;exact Int.ofNat.inj AA)]
   exact AG hc [.tmp 6,.tmp 7] rfl (.inl rfl) (by simp) (by rw[hr];first|exact eR|refine Av ?_)
  ·have hcd:∀c,c=Ft (List.getD ht (Int.toNat a) (ByteArray.empty,[],[],[])).2.1 (List.getD ht (Int.toNat b) (ByteArray.empty,[],[],[])).2.1→c=Ft (BT (ht,hf) a) (BT (ht,hf) b):=fun c h=>h
   have hmf:Dy (ht,hf) a b=if Ec (Ft (BT (ht,hf) a) (BT (ht,hf) b)) 0 ht<0 then (0,false) else (Ec (Ft (BT (ht,hf) a) (BT (ht,hf) b)) 0 ht,true):=by
    unfold Dy
    rw[if_neg (fun h=>AA (by unfold BT at h;exact congrArg Int.ofNat h))]
   generalize hcg:Ft (List.getD ht (Int.toNat a) (ByteArray.empty,[],[],[])).2.1 (List.getD ht (Int.toNat b) (ByteArray.empty,[],[],[])).2.1=c at *
   rw[←hcd c rfl]at hmf
   refine cP 3 hc ?_ ?_
   ·trivial
   ·refine rM hc (jI ht c hl) [(1,.nm 8)] [] ?_ ?_ ?_
    ·first|exact eN|refine eM ?_
    ·first|exact eN|refine eM ?_
    ·rintro _ _ ⟨rfl,rfl⟩
     refine⟨[(8,.nm 1)],.p T3 (Ec c 0 ht),[(8,.box 81 false [.p EC c])],rfl,rfl,?_,?_,rfl,rfl,?_⟩
     ·first|exact eN|refine eM ?_
     ·first|exact eN|refine eM ?_
     ·generalize Ec c 0 ht=m at *
      refine rL [0,1,2,3,6,7,8,9,25,31] hc ?_ ?_
      ·trivial
      ·repeat'(first|exact trivial|refine eS rfl ?_|refine AB ?_|refine rX [0,1,2,3,6,7,8,9,25,31] hc ?_ ?_|refine rC ?_ ?_<;>intro AA<;>try(cases AA;done))
       ·rw[if_pos AA]at hmf
        exact AG hc [.tmp 6,.tmp 7] rfl (.inl rfl) (by simp) (by rw[hmf];first|exact eR|refine Av ?_)
       ·rw[if_neg (Int.not_lt.2 AA)]at hmf
        exact AG hc [.tmp 6,.tmp 7] rfl (.inl rfl) (by simp) (by rw[hmf];first|exact eR|refine Av ?_)
 ·first|exact eN|refine eM ?_
 ·first|exact eN|refine eM ?_
end
/- Plain: the codes of a hierarchy are closed under intersections. -/
section
theorem SG (l:List (List Int)) (i k:Nat):l <+: Gu l i k:=by
 unfold Gu
 split
 ·exact List.prefix_append _ _
 ·exact List.prefix_refl _
theorem SH (i:Nat):∀(n k:Nat) (l:List (List Int)),l <+: Gv i n k l
 | 0,_,l=>List.prefix_refl l
 | n+1,k,l=>by
  unfold Gv
  split
  ·exact(SG l i k).trans (SH i n (k+1) _)
  ·exact List.prefix_refl l
theorem SI:∀(n i:Nat) (l:List (List Int)),l <+: Ip n i l
 | 0,_,l=>List.prefix_refl l
 | n+1,i,l=>by
  unfold Ip
  split
  ·exact(SH i i 0 l).trans (SI n (i+1) _)
  ·exact List.prefix_refl l
theorem Nc {l m:List (List Int)} (h:l <+: m) {k:Nat} (hk:k<l.length):m.getD k []=l.getD k []:=by
 obtain⟨t,rfl⟩:=h
 simp only[List.getD_eq_getElem?_getD]
 rw[List.getElem?_append_left hk]
def KO (l:List (List Int)) (q p:Nat):Prop:=EY (l.getD q []) (l.getD p [])=[]∨EY (l.getD q []) (l.getD p [])∈l
theorem KO.pre {l m:List (List Int)} (h:l <+: m) {q p:Nat} (hq:q<l.length) (hp:p<l.length) (hm:KO l q p):KO m q p:=by
 unfold KO at hm ⊢
 rw[Nc h hq,Nc h hp]
 rcases hm with hm|hm
 ·exact .inl hm
 ·exact .inr (h.subset hm)
theorem uX {l:List (List Int)} {b:List Int} (h:Y2 l b=true):b∈l:=by
 obtain⟨x,hx,e⟩:=List.any_eq_true.1 h
 have:x=b:=by simpa[HE] using e
 rw[←this]
 exact hx
theorem ZS {l:List (List Int)} {i k:Nat} (hi:i<l.length) (hk:k<l.length):KO (Gu l i k) i k:=by
 have hp:=SG l i k
 unfold KO
 rw[Nc hp hi,Nc hp hk]
 unfold Gu
 split
 ·right;simp
 ·rename_i hc
  rw[Bool.and_eq_true,decide_eq_true_eq,Bool.not_eq_true']at hc
  by_cases h0:0<((EY (l.getD i []) (l.getD k [])).length:Int)
  ·right
   cases hh:Y2 l (EY (l.getD i []) (l.getD k [])) with
   | true=>exact uX hh
   | false=>exact absurd ⟨h0,hh⟩ hc
  ·left
   exact List.eq_nil_of_length_eq_zero (by omega)
theorem SJ {i:Nat}:∀ {n k:Nat} {l:List (List Int)},n+k=i→i<l.length→(Gv i n k l).length≤256→(∀p,p<k→KO l i p)→∀p,p<i→KO (Gv i n k l) i p
 | 0,k,l,hn,hi,hl,h=>fun p hp=>h p (by omega)
 | n+1,k,l,hn,hi,hl,h=>by
  unfold Gv at hl ⊢
  split at hl
  ·rename_i hc
   rw[if_pos hc]
   have hp:=SG l i k
   refine SJ (by omega) (Nat.lt_of_lt_of_le hi hp.length_le) hl fun p hpk=>?_
   by_cases e:p=k
   ·subst e
    exact ZS hi (by omega)
   ·exact(h p (by omega)).pre hp hi (by omega)
  ·rename_i hc
   exact absurd (by omega:l.length≤256) hc
theorem SK:∀ {n i:Nat} {l:List (List Int)},257≤n+i→(Ip n i l).length≤256→i≤l.length→(∀q p,p<q→q<i→KO l q p)→∀q p,p<q→q<(Ip n i l).length→KO (Ip n i l) q p
 | 0,i,l,hn,hl,hil,h=>fun q p hpq hq=>by
  have hl':l.length≤256:=hl
  omega
 | n+1,i,l,hn,hl,hil,h=>by
  unfold Ip at hl ⊢
  split at hl
  ·rename_i hc
   rw[if_pos hc]
   have hp:=SH i i 0 l
   have hpl:=hp.length_le
   have hgl:=(SI n (i+1) (Gv i i 0 l)).length_le
   refine SK (by omega) hl (by omega) fun q p hpq hq=>?_
   by_cases e:q=i
   ·subst e
    exact SJ (by omega) hc.1 (by omega) (fun p hp=>by omega) p hpq
   ·exact(h q p hpq (by omega)).pre hp (by omega) (by omega)
  ·rename_i hc
   rw[if_neg hc]
   intro q p hpq hq
   exact h q p hpq (by
    refine Classical.byContradiction fun hh=>hc ⟨by omega,hl⟩)
theorem VZ {c:List (List Int)} (hl:(A0 c).length≤256):∀q p,p<q→q<(A0 c).length→KO (A0 c) q p :=
 SK (by omega) hl (Nat.zero_le _) (fun q p _ h=>by omega)
/-! Bits -/
theorem n9 (a b:List Int) (k:Nat):(EY a b).getD k 0=if k<a.length then Bt .and .u64 (a.getD k 0) (b.getD k 0) else 0:=by
 unfold EY
 rw[NQ]
 split
 ·rename_i h;exact LU .and a b h
 ·rename_i h
  rw[List.getD_eq_getElem?_getD,List.getElem?_eq_none (by rw[EP];omega)]
  rfl
theorem Gd {b:List Int} {k:Nat} (h:¬k<b.length):b.getD k 0=0:=by
 rw[List.getD_eq_getElem?_getD,List.getElem?_eq_none (by omega)];rfl
theorem Qh {a b:List Int} (ha:H7 a) (hb:H7 b) (i:Nat):BA (EY a b) i=(BA a i&&BA b i):=by
 unfold BA
 rw[n9]
 split
 ·rw[Hu (A4 ha _) (A4 hb _),Int.toNat_natCast,Nat.testBit_and]
 ·rename_i h
  rw[Gd h]
  simp
theorem Qi {a b:List Int} (ha:H7 a) (hb:H7 b):H7 (EY a b):=by
 refine MV fun x hx=>?_
 unfold GF at hx
 obtain⟨i,-,rfl⟩:=List.mem_map.1 hx
 rw[JH,Hu (A4 ha _) (A4 hb _)]
 have h1:=A4 ha i
 have h2:(a.getD i 0).toNat &&& (b.getD i 0).toNat≤(a.getD i 0).toNat:=Nat.and_le_left
 have h3:=h1.1
 have h4:=h1.2
 exact⟨Int.natCast_nonneg _,by omega⟩
theorem Oj (b:List Int):∀n,CS b n=0∨b.getD (CS b n-1) 0≠0
 | 0=>.inl rfl
 | n+1=>by
  unfold CS
  split
  ·exact Oj b n
  ·rename_i h
   right
   simpa using h
theorem uY {n:Nat} (h0:n≠0) (h1:n<18446744073709551616):∃r,r<64∧n.testBit r=true:=by
 refine Classical.byContradiction fun hc=>h0 ?_
 refine Nat.eq_of_testBit_eq fun r=>?_
 rw[Nat.zero_testBit]
 by_cases hr:r<64
 ·cases hb:n.testBit r with
  | false=>rfl
  | true=>exact absurd ⟨r,hr,hb⟩ hc
 ·have e:(18446744073709551616:Nat)=2 ^ 64:=by decide
  rw[e]at h1
  exact Nat.testBit_lt_two_pow (Nat.lt_of_lt_of_le h1 (Nat.pow_le_pow_right (by decide) (by omega)))
theorem XY {b:List Int} (hb:H7 b) {k:Nat} (h:b.getD k 0≠0):∃i,BA b i=true:=by
 have hu:=A4 hb k
 have h1:=hu.1
 have h2:=hu.2
 obtain⟨r,hr,ht⟩:=uY (n:=(b.getD k 0).toNat) (by omega) (by omega)
 refine⟨64*k+r,?_⟩
 unfold BA
 rw[show (64*k+r) / 64=k by omega,show (64*k+r) % 64=r by omega]
 exact ht
theorem ZT {b:List Int} (hb:H7 b) (h:A7 b≠[]):∃i,BA b i=true:=by
 rcases Oj b b.length with h1|h1
 ·exact absurd (by unfold A7;rw[h1];rfl) h
 ·exact XY hb h1
theorem UM {a b:List Int} (ha:H7 a) (hb:H7 b) (h:∀i,BA a i=true→BA b i=true) (k:Nat):Bt .andNot .u64 (a.getD k 0) (b.getD k 0)=0:=by
 rw[OZ]
 have:(BitVec.ofInt 64 (a.getD k 0) &&& ~~~BitVec.ofInt 64 (b.getD k 0))=0#64:=by
  apply BitVec.eq_of_getLsbD_eq
  intro r hr
  rw[BitVec.getLsbD_and,BitVec.getLsbD_not,←BitVec.testBit_toNat,←BitVec.testBit_toNat,FD (A4 ha k),FD (A4 hb k)]
  have hk:=h (64*k+r)
  unfold BA at hk
  rw[show (64*k+r) / 64=k by omega,show (64*k+r) % 64=r by omega]at hk
  cases hx:(a.getD k 0).toNat.testBit r with
  | false=>simp
  | true=>rw[hk hx];simp
 rw[this]
 rfl
theorem Mh {a b:List Int} (ha:H7 a) (hb:H7 b):EZ a b=true↔∀i,BA a i=true→BA b i=true:=by
 constructor
 ·exact fun h i hi=>Ky ha hb h hi
 ·intro h
  unfold EZ OQ A7
  have h1:CS (GF .andNot a b a.length) (GF .andNot a b a.length).length=0:=by
   rw[EP]
   exact Oa fun k hk=>by rw[LU _ _ _ hk];exact UM ha hb h k
  rw[h1]
  rfl
end
/- Plain: hier.Meet finds the most general common subtype. -/
section
structure Lc (l:List (List Int)):Prop where
 wds:∀c∈l,H7 c
 some:∀c∈l,∃i,BA c i=true
 wid:∀c∈l,c.length≤64
 meet:∀a∈l,∀b∈l,(∃i,BA a i=true∧BA b i=true)→∃t∈l,∀i,BA t i=(BA a i&&BA b i)
structure Bs (l:List (List Int)):Prop where
 wds:∀c∈l,H7 c
 some:∀c∈l,∃i,BA c i=true
theorem UN {l:List (List Int)} {k:Nat} (h:¬k<l.length):l.getD k []=[]:=by
 rw[List.getD_eq_getElem?_getD,List.getElem?_eq_none (by omega)];rfl
theorem Bs.get {l:List (List Int)} (h:Bs l) (k:Nat):H7 (l.getD k []):=by
 by_cases hk:k<l.length
 ·exact h.wds _ (DA hk)
 ·rw[UN hk]
  intro x hx
  cases hx
theorem uZ {l:List (List Int)} (h:Bs l) (i k:Nat):Bs (Gu l i k):=by
 unfold Gu
 split
 ·rename_i hc
  rw[Bool.and_eq_true,decide_eq_true_eq]at hc
  refine⟨fun c hc'=>?_,fun c hc'=>?_⟩
  ·rcases List.mem_append.1 hc' with hc'|hc'
   ·exact h.wds c hc'
   ·have:c=EY (l.getD i []) (l.getD k []):=by simpa using hc'
    rw[this]
    exact Qi (h.get i) (h.get k)
  ·rcases List.mem_append.1 hc' with hc'|hc'
   ·exact h.some c hc'
   ·have:c=EY (l.getD i []) (l.getD k []):=by simpa using hc'
    rw[this]
    have hne:EY (l.getD i []) (l.getD k [])≠[]:=by
     intro e
     rw[e]at hc
     exact absurd hc.1 (by simp)
    have hz:H7 (GF .and (l.getD i []) (l.getD k []) (l.getD i []).length):=by
     intro x hx
     unfold GF at hx
     obtain⟨j,-,rfl⟩:=List.mem_map.1 hx
     rw[JH,Hu (A4 (h.get i) _) (A4 (h.get k) _)]
     have h1:=A4 (h.get i) j
     have h2:((l.getD i []).getD j 0).toNat &&& ((l.getD k []).getD j 0).toNat≤((l.getD i []).getD j 0).toNat:=Nat.and_le_left
     have h3:=h1.1
     have h4:=h1.2
     exact⟨Int.natCast_nonneg _,by omega⟩
    obtain⟨j,hj⟩:=ZT hz hne
    exact⟨j,by unfold EY;rw[MU];exact hj⟩
 ·exact h
theorem fQ {i:Nat}:∀ {n k:Nat} {l:List (List Int)},Bs l→Bs (Gv i n k l)
 | 0,_,_,h=>h
 | n+1,k,l,h=>by
  unfold Gv
  split
  ·exact fQ (uZ h i k)
  ·exact h
theorem fR:∀ {n i:Nat} {l:List (List Int)},Bs l→Bs (Ip n i l)
 | 0,_,_,h=>h
 | n+1,i,l,h=>by
  unfold Ip
  split
  ·exact fR (fQ h)
  ·exact h
theorem jJ {d:List AH} (h3:BG d=0):Bs (Ad d):=by
 obtain⟨-,h2,-⟩:=A3 h3
 have hnl:=Ew d d.length
 rw[List.take_length]at hnl
 have hal:(AQ d).length≤4096:=by omega
 refine⟨fun c hc=>?_,fun c hc=>?_⟩
 ·unfold Ad at hc
  obtain⟨s,-,rfl⟩:=List.mem_map.1 hc
  exact(ER (d:=d) hal s 0).2.1
 ·unfold Ad at hc
  obtain⟨s,hs,rfl⟩:=List.mem_map.1 hc
  obtain⟨j,hj,e⟩:=Ek ByteArray.empty hs
  have hsd:0≤A9 d s:=by
   obtain⟨x,hx,e⟩:=GH hs
   rw[←e];exact Ez hx
  exact⟨j,(ER (d:=d) hal s j).1.2 ⟨hj,by rw[e];exact MZ hsd⟩⟩
theorem ZU {d:List AH} (h3:BG d=0) (hl:(A0 (Ad d)).length≤256):Lc (A0 (Ad d)):=by
 obtain⟨-,h2,-⟩:=A3 h3
 have hb:Bs (A0 (Ad d)):=fR (jJ h3)
 have hm:=VZ hl
 refine⟨hb.wds,hb.some,NU (Mb h2),fun a ha b hb2 hi=>?_⟩
 obtain⟨q,hq,rfl⟩:=Ek [] ha
 obtain⟨p,hp,rfl⟩:=Ek [] hb2
 have key:∀q p,q<(A0 (Ad d)).length→p<(A0 (Ad d)).length→KO (A0 (Ad d)) q p→(∃i,BA ((A0 (Ad d)).getD q []) i=true∧BA ((A0 (Ad d)).getD p []) i=true) →
   ∃t∈A0 (Ad d),∀i,BA t i=(BA ((A0 (Ad d)).getD q []) i&&BA ((A0 (Ad d)).getD p []) i):=by
  intro q p hq hp hmm hi
  have hand:=Qh (hb.get q) (hb.get p)
  rcases hmm with hmm|hmm
  ·obtain⟨i,i1,i2⟩:=hi
   have:=hand i
   rw[hmm,i1,i2]at this
   unfold BA at this
   simp at this
  ·exact⟨_,hmm,hand⟩
 rcases Nat.lt_trichotomy p q with h|h|h
 ·exact key q p hq hp (hm q p h hq) hi
 ·subst h
  exact⟨_,DA hq,fun i=>by rw[Bool.and_self]⟩
 ·obtain⟨t,ht,e⟩:=key p q hp hq (hm p q h hp) (by obtain⟨i,i1,i2⟩:=hi;exact⟨i,i2,i1⟩)
  exact⟨t,ht,fun i=>by rw[e i,Bool.and_comm]⟩
def Ns (h:AR):Prop:=Lc (h.1.map fun t=>t.2.1)∧h.1.length≤256
theorem FH (d:List AH):Ns (BB d).1:=by
 unfold BB
 split
 ·exact⟨⟨fun c h=>(by cases h),fun c h=>(by cases h),fun c h=>(by cases h),fun c h=>(by cases h)⟩,by simp⟩
 ·rename_i hv
  have hv:(A8 d).2=0:=Classical.byContradiction hv
  have h5:Ax d=0:=by
   unfold A8 at hv
   split at hv
   ·rename_i h;exact absurd hv h
   ·rename_i h;exact Classical.byContradiction h
  obtain⟨hz,-,-⟩:=CY h5
  obtain⟨h3,hlen,-⟩:=Bk hz
  have hf:=ZU h3 hlen
  have hmem:∀c,c∈((Bz d).1.map fun t=>t.2.1)↔c∈A0 (Ad d):=by
   intro c
   have e:((Bz d).1.map fun t=>t.2.1)=(AL d).map fun x=>x.2:=by
    show ((ET _ _ _).map fun t=>t.2.1)=_
    unfold ET
    rw[List.map_map]
    apply List.ext_getElem
    ·simp
    ·intro i h1 h2
     simp[List.getD_eq_getElem?_getD,show i<(AL d).length by simpa using h1]
   rw[e]
   constructor
   ·intro h
    obtain⟨x,hx,rfl⟩:=List.mem_map.1 h
    obtain⟨b,hb,rfl⟩:=Dj.1 hx
    exact hb
   ·intro h
    exact List.mem_map.2 ⟨_,Dj.2 ⟨c,h,rfl⟩,rfl⟩
  refine⟨⟨fun c h=>hf.wds c ((hmem c).1 h),fun c h=>hf.some c ((hmem c).1 h),fun c h=>hf.wid c ((hmem c).1 h),fun a ha b hb hi=>?_⟩,?_⟩
  ·obtain⟨t,ht,e⟩:=hf.meet a ((hmem a).1 ha) b ((hmem b).1 hb) hi
   exact⟨t,(hmem t).2 ht,e⟩
  ·show (ET _ _ _).length≤256
   rw[La,Jr]
   exact hlen
/-! Subsumption and meets as sets -/
theorem CG {h:AR} {t:Int} (g0:0≤t) (g1:t<(h.1.length:Int)):BT h t∈h.1.map fun t=>t.2.1 :=
 List.mem_map.2 ⟨_,AE h.1 Sn (k:=t.toNat) (by omega),rfl⟩
theorem SL {a b:List Int} (ha:H7 a) (hb:H7 b):Na a b=true↔∀i,BA a i=true→BA b i=true:=by
 constructor
 ·intro h i hi
  by_cases hk:i / 64<a.length
  ·have h1:=List.all_eq_true.1 h (i / 64) (List.mem_range.2 hk)
   rw[beq_iff_eq,JH]at h1
   exact Pb (A4 ha _) (A4 hb _) h1 (Nat.mod_lt _ (by decide)) hi
  ·exfalso
   unfold BA at hi
   rw[Gd hk]at hi
   simp at hi
 ·intro h
  unfold Na
  rw[List.all_eq_true]
  intro k _
  rw[beq_iff_eq,JH]
  exact UM ha hb h k
theorem oA {a b:List Int} (ha:H7 a) (hb:H7 b) (i:Nat):BA (Ft a b) i=(BA a i&&BA b i):=by
 unfold Ft
 rw[MU]
 unfold BA
 have:(Gc (VY a b) (min a.length b.length) (min a.length b.length)).getD (i / 64) 0=Bt .and .u64 (a.getD (i / 64) 0) (b.getD (i / 64) 0):=by
  by_cases h:i / 64<min a.length b.length
  ·unfold Gc
   rw[List.getD_eq_getElem?_getD,List.getElem?_map,List.getElem?_range h]
   show (if i / 64<min a.length b.length then VY a b (i / 64) else 0)=_
   rw[if_pos h]
   rfl
  ·rw[Gd (by rw[UL];exact h),Hu (A4 ha _) (A4 hb _)]
   by_cases h1:i / 64<a.length
   ·rw[Gd (b:=b) (by omega)]
    simp
   ·rw[Gd (b:=a) h1]
    simp
 rw[this,Hu (A4 ha _) (A4 hb _),Int.toNat_natCast,Nat.testBit_and]
theorem oB {a b:List Int} (ha:H7 a) (hb:H7 b):H7 (Ft a b):=by
 refine MV fun x hx=>?_
 unfold Gc at hx
 obtain⟨j,-,rfl⟩:=List.mem_map.1 hx
 split
 ·unfold VY
  rw[Hu (A4 ha _) (A4 hb _)]
  have h1:=A4 ha j
  have h2:(a.getD j 0).toNat &&& (b.getD j 0).toNat≤(a.getD j 0).toNat:=Nat.and_le_left
  have h3:=h1.1
  have h4:=h1.2
  exact⟨Int.natCast_nonneg _,by omega⟩
 ·exact⟨by decide,by decide⟩
theorem SM (c:List Int):∀(l:List KK) (k:Nat),(Ec c k l=-1∧∀t∈l,Dm t.2.1 c=false)∨((k:Int)≤Ec c k l∧Ec c k l<(k:Int)+l.length∧Dm (l.getD ((Ec c k l).toNat-k) Sn).2.1 c=true)
 | [],k=>.inl ⟨rfl,fun t ht=>by cases ht⟩
 | x :: l,k=>by
  simp only[Ec]
  split
  ·rename_i h
   right
   refine⟨by omega,by simp only[List.length_cons];omega,?_⟩
   rw[show ((k:Int).toNat-k)=0 by omega]
   exact h
  ·rename_i h
   have h:Dm x.2.1 c=false:=by simpa using h
   rcases SM c l (k+1) with ⟨h1,h2⟩|⟨h1,h2,h3⟩
   ·left
    refine⟨h1,fun t ht=>?_⟩
    rcases List.mem_cons.1 ht with rfl|ht
    ·exact h
    ·exact h2 t ht
   ·right
    refine⟨by omega,by simp only[List.length_cons];omega,?_⟩
    rw[show ((Ec c (k+1) l).toNat-k)=((Ec c (k+1) l).toNat-(k+1))+1 by omega]
    exact h3
def u3 (h:AR) (t:Int) (i:Nat):Bool:=BA (BT h t) i
theorem Cf {h:AR} (hk:Ns h) {a b:Int} (a0:0≤a) (a1:a<(h.1.length:Int)) (b0:0≤b) (b1:b<(h.1.length:Int)):Dx h a b=true↔∀i,u3 h b i=true→u3 h a i=true :=
 SL (hk.1.wds _ (CG b0 b1)) (hk.1.wds _ (CG a0 a1))
theorem oC {h:AR} (hk:Ns h) {a b:Int} (a0:0≤a) (a1:a<(h.1.length:Int)) (b0:0≤b) (b1:b<(h.1.length:Int)) :
  ((Dy h a b).2=true→0≤(Dy h a b).1∧(Dy h a b).1<(h.1.length:Int)∧∀i,u3 h (Dy h a b).1 i=(u3 h a i&&u3 h b i))∧((∃i,u3 h a i=true∧u3 h b i=true)→(Dy h a b).2=true):=by
 have wa:=hk.1.wds _ (CG a0 a1)
 have wb:=hk.1.wds _ (CG b0 b1)
 have hbit:=oA wa wb
 have hwc:=oB wa wb
 have heq:∀t∈h.1,Dm t.2.1 (Ft (BT h a) (BT h b))=true↔∀i,BA t.2.1 i=BA (Ft (BT h a) (BT h b)) i:=by
  intro t ht
  have wt:=hk.1.wds t.2.1 (List.mem_map.2 ⟨t,ht,rfl⟩)
  unfold Dm
  rw[Bool.and_eq_true,SL wt hwc,SL hwc wt]
  constructor
  ·rintro⟨e1,e2⟩ i
   rw[Bool.eq_iff_iff]
   exact⟨e1 i,e2 i⟩
  ·intro e
   exact⟨fun i hi=>by rw[←e i];exact hi,fun i hi=>by rw[e i];exact hi⟩
 unfold Dy
 by_cases hz:(Ft (BT h a) (BT h b)).length=0
 ·rw[if_pos hz]
  refine⟨fun e=>(by cases e),?_⟩
  rintro⟨i,i1,i2⟩
  exfalso
  have:=hbit i
  rw[List.eq_nil_of_length_eq_zero hz]at this
  unfold u3 at i1 i2
  rw[i1,i2]at this
  unfold BA at this
  simp at this
 ·rw[if_neg hz]
  rcases SM (Ft (BT h a) (BT h b)) h.1 0 with ⟨h1,h2⟩|⟨h1,h2,h3⟩
  ·rw[if_pos (by omega)]
   refine⟨fun e=>(by cases e),fun hi=>?_⟩
   exfalso
   obtain⟨t,ht,e⟩:=hk.1.meet _ (CG a0 a1) _ (CG b0 b1) hi
   obtain⟨x,hx,rfl⟩:=List.mem_map.1 ht
   have:=(heq x hx).2 (fun i=>by rw[hbit i];exact e i)
   rw[h2 x hx]at this
   cases this
  ·have h1:0≤Ec (Ft (BT h a) (BT h b)) 0 h.1:=by omega
   rw[if_neg (by omega)]
   refine⟨fun _=>⟨h1,by simp only;omega,fun i=>?_⟩,fun _=>rfl⟩
   rw[Nat.sub_zero]at h3
   have hm:=AE h.1 Sn (k:=(Ec (Ft (BT h a) (BT h b)) 0 h.1).toNat) (by omega)
   have:=(heq _ hm).1 h3 i
   rw[hbit i]at this
   exact this
theorem oD {h:AR} (hk:Ns h) {a b:Int} (a0:0≤a) (a1:a<(h.1.length:Int)) (b0:0≤b) (b1:b<(h.1.length:Int)) :
  ((Dy h a b).2=true→0≤(Dy h a b).1∧(Dy h a b).1<(h.1.length:Int)∧Dx h a (Dy h a b).1=true∧Dx h b (Dy h a b).1=true) ∧
  ∀x,0≤x→x<(h.1.length:Int)→Dx h a x=true→Dx h b x=true→(Dy h a b).2=true∧Dx h (Dy h a b).1 x=true:=by
 obtain⟨m1,m2⟩:=oC hk a0 a1 b0 b1
 refine⟨fun e=>?_,fun x x0 x1 hax hbx=>?_⟩
 ·obtain⟨q0,q1,q2⟩:=m1 e
  refine⟨q0,q1,(Cf hk a0 a1 q0 q1).2 fun i hi=>?_,(Cf hk b0 b1 q0 q1).2 fun i hi=>?_⟩
  ·rw[q2 i,Bool.and_eq_true]at hi;exact hi.1
  ·rw[q2 i,Bool.and_eq_true]at hi;exact hi.2
 ·have ga:=(Cf hk a0 a1 x0 x1).1 hax
  have gb:=(Cf hk b0 b1 x0 x1).1 hbx
  obtain⟨i,hi⟩:=hk.1.some _ (CG x0 x1)
  have e:=m2 ⟨i,ga i hi,gb i hi⟩
  obtain⟨q0,q1,q2⟩:=m1 e
  refine⟨e,(Cf hk q0 q1 x0 x1).2 fun j hj=>?_⟩
  rw[q2 j,Bool.and_eq_true]
  exact⟨ga j hj,gb j hj⟩
end
/- Plain: types of one set are one. -/
section
def u4 (c:List Int):Prop:=c.length=0∨c.getD (c.length-1) 0≠0
theorem Mi (b:List Int):u4 (A7 b):=by
 unfold u4 A7
 have hl:=Rh b b.length
 rw[List.length_take,Nat.min_eq_left hl]
 rcases Oj b b.length with h|h
 ·exact .inl h
 ·by_cases h0:CS b b.length=0
  ·exact .inl h0
  ·right
   rw[List.getD_eq_getElem?_getD,List.getElem?_take_of_lt (by omega),←List.getD_eq_getElem?_getD]
   exact h
theorem u5 {a b:List Int} (ha:H7 a) (hb:H7 b) (h:∀i,BA a i=BA b i) (k:Nat):a.getD k 0=b.getD k 0:=by
 have ua:=A4 ha k
 have ub:=A4 hb k
 have ua1:=ua.1
 have ua2:=ua.2
 have ub1:=ub.1
 have ub2:=ub.2
 have e:(a.getD k 0).toNat=(b.getD k 0).toNat:=by
  refine Nat.eq_of_testBit_eq fun r=>?_
  by_cases hr:r<64
  ·have:=h (64*k+r)
   unfold BA at this
   rw[show (64*k+r) / 64=k by omega,show (64*k+r) % 64=r by omega]at this
   exact this
  ·have big:∀n:Nat,n<18446744073709551616→n.testBit r=false:=fun n hn=>by
    have e:(18446744073709551616:Nat)=2 ^ 64:=by decide
    rw[e]at hn
    exact Nat.testBit_lt_two_pow (Nat.lt_of_lt_of_le hn (Nat.pow_le_pow_right (by decide) (by omega)))
   rw[big _ (by omega),big _ (by omega)]
 omega
theorem fS {a b:List Int} (hw:∀k,a.getD k 0=b.getD k 0) (hb:u4 b):b.length≤a.length:=by
 rcases hb with h|h
 ·omega
 ·refine Classical.byContradiction fun hc=>h ?_
  rw[←hw]
  exact Gd (by omega)
theorem oE {a b:List Int} (ha:H7 a) (hb:H7 b) (na:u4 a) (nb:u4 b) (h:∀i,BA a i=BA b i):a=b:=by
 have hw:=u5 ha hb h
 have hl:a.length=b.length:=Nat.le_antisymm (fS (fun k=>(hw k).symm) na) (fS hw nb)
 refine List.ext_getElem hl fun i h1 h2=>?_
 have:=hw i
 simpa[List.getD_eq_getElem?_getD,h1,h2] using this
theorem XZ {α:Type} (l:List α) (x:α) (n:Nat):List.Perm (l.take n++[x]++l.drop n) (x :: l):=by
 have h:l.take n++[x]++l.drop n=l.take n++x :: l.drop n:=by simp
 rw[h]
 refine List.perm_middle.trans ?_
 rw[List.take_append_drop]
def Apt (l:List ByteArray):Prop:=l.Pairwise fun a b=>Am a b=false
theorem Pk {a b:ByteArray} (h:Am a b=false):Am b a=false:=by
 cases hh:Am b a with
 | false=>rfl
 | true=>rw[Ey hh]at h;cases h
theorem oG {l:List ByteArray} {s:ByteArray} (h:Apt l) (hs:∀x∈l,Am x s=false):Apt (EE l s):=by
 unfold EE
 split
 ·exact h
 ·refine(List.Perm.pairwise_iff (fun hxy=>Pk hxy) (XZ l s _)).2 ?_
  exact List.pairwise_cons.2 ⟨fun x hx=>Pk (hs x hx),h⟩
theorem ZV {d:List AH} (hn:Dg d=0):Apt (AQ d):=by
 have key:∀k,k≤d.length→Apt (AQ (d.take k))∧∀s∈AQ (d.take k),∃i,i<k∧(d.getD i d0).1=s:=by
  intro k
  induction k with
  | zero =>
   intro _
   exact⟨.nil,fun s hs=>by cases hs⟩
  | succ k ih =>
   intro hk
   obtain⟨h1,h2⟩:=ih (by omega)
   have e:AQ (d.take (k+1))=EE (AQ (d.take k)) (d.getD k d0).1:=by
    have:d.take (k+1)=d.take k++[d.getD k d0]:=Au d d0 (by omega)
    rw[this]
    unfold AQ
    rw[List.foldl_append]
    rfl
   rw[e]
   refine⟨oG h1 fun x hx=>?_,fun s hs=>?_⟩
   ·obtain⟨i,hi,rfl⟩:=h2 x hx
    cases hh:Am (d.getD i d0).1 (d.getD k d0).1 with
    | false=>rfl
    | true =>
     have g:=Pc d hh
     rw[NS hn (j:=i) (by omega),NS hn (j:=k) (by omega)]at g
     omega
   ·rcases K0 hs with hs|hs
    ·obtain⟨i,hi,e⟩:=h2 s hs
     exact⟨i,by omega,e⟩
    ·exact⟨k,by omega,hs.symm⟩
 have:=(key d.length (Nat.le_refl _)).1
 rwa [List.take_length]at this
structure Nd (l:List (List Int)):Prop where
 nd:l.Nodup
 nrm:∀c∈l,u4 c
theorem u6 {l:List (List Int)} {c:List Int} (h:Nd l) (hc:c∉l) (hn:u4 c):Nd (l++[c]):=by
 refine⟨?_,fun x hx=>?_⟩
 ·rw[List.nodup_append]
  refine⟨h.nd,by simp,fun x hx y hy e=>hc ?_⟩
  have:y=c:=by simpa using hy
  rw[←this,←e]
  exact hx
 ·rcases List.mem_append.1 hx with hx|hx
  ·exact h.nrm x hx
  ·have:x=c:=by simpa using hx
   rw[this]
   exact hn
theorem u7 {l:List (List Int)} (h:Nd l) (i k:Nat):Nd (Gu l i k):=by
 unfold Gu
 split
 ·rename_i hc
  rw[Bool.and_eq_true,Bool.not_eq_true']at hc
  refine u6 h (fun hm=>?_) (Mi _)
  have:Y2 l (EY (l.getD i []) (l.getD k []))=true:=List.any_eq_true.2 ⟨_,hm,by unfold HE;exact decide_eq_true rfl⟩
  rw[this]at hc
  cases hc.2
 ·exact h
theorem fT {i:Nat}:∀ {n k:Nat} {l:List (List Int)},Nd l→Nd (Gv i n k l)
 | 0,_,_,h=>h
 | n+1,k,l,h=>by
  unfold Gv
  split
  ·exact fT (u7 h i k)
  ·exact h
theorem Va:∀ {n i:Nat} {l:List (List Int)},Nd l→Nd (Ip n i l)
 | 0,_,_,h=>h
 | n+1,i,l,h=>by
  unfold Ip
  split
  ·exact Va (fT h)
  ·exact h
theorem UO {d:List AH} (h3:BG d=0):Nd (Ad d):=by
 obtain⟨-,h2,-,hn,hl⟩:=A3 h3
 have hnl:=Ew d d.length
 rw[List.take_length]at hnl
 have hap:=ZV hn
 refine⟨?_,fun c hc=>?_⟩
 ·unfold Ad List.Nodup
  rw[List.pairwise_map,List.pairwise_iff_getElem]
  intro i j hi hj hij e
  have h1:=(List.pairwise_iff_getElem.1 hap) i j hi hj hij
  have g:∀k,(hk:k<(AQ d).length)→(AQ d).getD k ByteArray.empty=(AQ d)[k]:=fun k hk=>by simp[List.getD_eq_getElem?_getD,hk]
  have hw:=(ER (d:=d) (all:=AQ d) (by omega) (AQ d)[j] 0).2.1
  have h5:=XA hn hl h2 hi hj (by
   rw[g i hi,g j hj,e]
   unfold Fm
   have:=(Mh hw hw).2 fun _ h=>h
   rw[this]
   rfl)
  rw[g i hi,g j hj,h1]at h5
  cases h5
 ·obtain⟨s,hs,rfl⟩:=List.mem_map.1 hc
  unfold HF p3
  split
  ·exact Mi _
  ·exact .inl rfl
theorem K8 {d:List AH}:∀ {l:List (List Int)} {o:List AP},(o.map (·.2)++l).Nodup→((l.foldl (Ob d) o).map (·.2)).Nodup
 | [],o,h=>by simpa using h
 | b :: l,o,h=>by
  rw[List.foldl_cons]
  refine K8 ?_
  unfold Ob GI VP
  have hp:=(XZ o (Hw d (AQ d) (Ad d) b,b) (FE (Hw d (AQ d) (Ad d) b,b) o o.length)).map (fun x:AP=>x.2)
  have hp2:List.Perm ((o.take (FE (Hw d (AQ d) (Ad d) b,b) o o.length)++[(Hw d (AQ d) (Ad d) b,b)]++o.drop (FE (Hw d (AQ d) (Ad d) b,b) o o.length)).map (fun x:AP=>x.2)++l) (o.map (·.2)++b :: l) :=
   (hp.append_right l).trans (List.perm_middle (a:=b)).symm
  exact hp2.nodup_iff.2 h
def Ol (h:AR):Prop:=∀a b,0≤a→a<(h.1.length:Int)→0≤b→b<(h.1.length:Int)→Dx h a b=true→Dx h b a=true→a=b
theorem xM {h:AR} (hk:Ns h) (hn:Nd (h.1.map fun t=>t.2.1)):Ol h:=by
 intro a b a0 a1 b0 b1 h1 h2
 have wa:=hk.1.wds _ (CG a0 a1)
 have wb:=hk.1.wds _ (CG b0 b1)
 have e:BT h a=BT h b:=oE wa wb (hn.nrm _ (CG a0 a1)) (hn.nrm _ (CG b0 b1)) fun i=>by
  rw[Bool.eq_iff_iff]
  exact⟨(Cf hk b0 b1 a0 a1).1 h2 i,(Cf hk a0 a1 b0 b1).1 h1 i⟩
 have hp:=List.pairwise_iff_getElem.1 hn.nd
 have g:∀k:Int,0≤k→(hk:k<(h.1.length:Int))→BT h k=(h.1.map fun t=>t.2.1)[k.toNat]'(by rw[List.length_map];omega):=fun k k0 k1=>by
  unfold BT
  simp[List.getD_eq_getElem?_getD,show k.toNat<h.1.length by omega]
 rw[g a a0 a1,g b b0 b1]at e
 rcases Int.lt_trichotomy a b with hlt|heq|hlt
 ·exact absurd e (hp a.toNat b.toNat (by rw[List.length_map];omega) (by rw[List.length_map];omega) (by omega))
 ·exact heq
 ·exact absurd e.symm (hp b.toNat a.toNat (by rw[List.length_map];omega) (by rw[List.length_map];omega) (by omega))
theorem Xa (d:List AH):Ol (BB d).1:=by
 refine xM (FH d) ?_
 unfold BB
 split
 ·exact⟨.nil,fun c h=>(by cases h)⟩
 ·rename_i hv
  have hv:(A8 d).2=0:=Classical.byContradiction hv
  have h5:Ax d=0:=by
   unfold A8 at hv
   split at hv
   ·rename_i h;exact absurd hv h
   ·rename_i h;exact Classical.byContradiction h
  obtain⟨hz,-,-⟩:=CY h5
  obtain⟨h3,hlen,-⟩:=Bk hz
  have hf:Nd (A0 (Ad d)):=Va (UO h3)
  have e:((Bz d).1.map fun t=>t.2.1)=(AL d).map fun x=>x.2:=by
   show ((ET _ _ _).map fun t=>t.2.1)=_
   unfold ET
   rw[List.map_map]
   apply List.ext_getElem
   ·simp
   ·intro i h1 h2
    simp[List.getD_eq_getElem?_getD,show i<(AL d).length by simpa using h1]
  show Nd ((Bz d).1.map fun t=>t.2.1)
  rw[e]
  refine⟨K8 (by simpa using hf.nd),fun c hc=>?_⟩
  obtain⟨x,hx,rfl⟩:=List.mem_map.1 hc
  obtain⟨b,hb,rfl⟩:=Dj.1 hx
  exact hf.nrm b hb
end
/- Functions of hier: Value; of typed: raise. -/
section
attribute [local go_sem] XX
def H2 (f:Int):List (Int×Int)→Int×Bool
 | []=>(0,false)
 | x :: l=>if x.1=f then (x.2,true) else H2 f l
theorem SN (f:Int) (l:List (Int×Int)) {k:Nat} (h:k<l.length):H2 f (l.drop k)=if (l.getD k (0,0)).1=f then ((l.getD k (0,0)).2,true) else H2 f (l.drop (k+1)):=by
 rw[List.drop_eq_getElem_cons h]
 have e:l.getD k (0,0)=l[k]:=by simp[List.getD_eq_getElem?_getD,h]
 rw[e]
 rfl
def It (h:AR) (t:Int):List (Int×Int):=(h.1.getD t.toNat Sn).2.2.2
def Em (h:AR) (t f:Int):Int×Bool:=H2 f (It h t)
def KP:Ah:={ ins:=[Ml,T3,T3],pre:=fun(h,t,_,_)=>(0:Int)≤t∧t<(List.length (h:AR).1:Int),out:=fun(h,t,f,_)=>[.p T3 (Em h t f).1,.p .bool (Em h t f).2],lend:=true }
attribute [local go_sem] KP
theorem fU:Ao Tryz.prog 26 KP:=by
 refine AW Tryz.func26 (by kernel_rfl) rfl Tryz.ntmps26 (by decide) (by kernel_rfl) (AF []) AI ?_
 rintro w0 O0 ⟨⟨ht,hf⟩,t,f,u⟩ hc hw ⟨t0,t1⟩
 simp only[KP,AM]
 refine Ev.ent (σ':=⟨[(0,.p Ml (ht,hf)),(1,.p T3 t),(2,.p T3 f)],[]⟩) ?_ (AC [] rfl rfl ?_ ?_)
 ·repeat'(first|exact trivial|refine eS rfl ?_|refine AB ?_|refine rX [0,1,2,3,6,7,9,15,16,17,18,26] hc ?_ ?_|refine rC ?_ ?_<;>intro AA<;>try(cases AA;done))
  ·exact⟨t0,t1⟩
  ·have hfe:∀l,l=(List.getD ht (Int.toNat t) (ByteArray.empty,[],[],[])).2.2.2→Em (ht,hf) t f=H2 f l:=fun l e=>by rw[e];rfl
   have hlb:List.length (List.getD ht (Int.toNat t) (ByteArray.empty,[],[],[])).2.2.2≤140737488355328:=(hw.1.1.2 _ (AE (ht:List KK) Sn ((Int.toNat_lt t0).2 t1))).2.2.2.1
   generalize (List.getD ht (Int.toNat t) (ByteArray.empty,[],[],[])).2.2.2=l at *
   rw[hfe l rfl]
   refine AJ (ι:={k:Nat//k≤List.length l∧H2 f l=H2 f (l.drop k)}) (fun k=>⟨[(2,.p T3 f),(15,.p Wg l),(16,.p (.int .i64) (List.length l:Int)),(17,.p (.int .i64) (k.1:Int))],[]⟩) (fun k=>List.length l-k.1) ⟨0,Nat.zero_le _,rfl⟩ (AC [] rfl rfl ?_ ?_) (fun k=>?_)
   ·first|exact eN|refine eM ?_
   ·first|exact eN|refine eM ?_
   ·obtain⟨k,hk,he⟩:=k
    have hst:=fun h:k<List.length l=>SN f l h
    simp only
    repeat'(first|exact trivial|refine eS rfl ?_|refine AB ?_|refine rX [0,1,2,3,6,7,9,15,16,17,18,26] hc ?_ ?_|refine rC ?_ ?_<;>intro AA<;>try(cases AA;done))
    ·exact AA
    ·refine cP 5 hc ?_ ?_
     ·trivial
     ·refine A1G hc ?_
      refine rL [0,1,2,3,6,7,9,15,16,17,18,26] hc ?_ ?_
      ·trivial
      ·repeat'(first|exact trivial|refine eS rfl ?_|refine AB ?_|refine rX [0,1,2,3,6,7,9,15,16,17,18,26] hc ?_ ?_|refine rC ?_ ?_<;>intro AA<;>try(cases AA;done))
       ·have hkl:k<List.length l:=by exact eV
        rw[hst hkl,if_pos AA]at he
        exact AG hc [.tmp 6,.tmp 7] rfl (.inl rfl) (by simp) (by rw[he];first|exact eR|refine Av ?_)
       ·omega
       ·have hkl:k<List.length l:=by exact eV
        rw[hst hkl,if_neg AA]at he
        refine⟨⟨k+1,hkl,he⟩,by simp only;omega,AC [] rfl rfl ?_ ?_⟩
        ·first|exact eN|refine eM ?_
        ·first|exact eN|refine eM ?_
    ·have hd:List.drop k (l:List (Int×Int))=[]:=List.drop_eq_nil_of_le (by exact eV)
     rw[hd]at he
     have he:H2 f l=(0,false):=he
     exact AG hc [.tmp 6,.tmp 7] rfl (.inl rfl) (by simp) (by rw[he];first|exact eR|refine Av ?_)
 ·first|exact eN|refine eM ?_
 ·first|exact eN|refine eM ?_
abbrev IC:=List Int×List Int
def Ef (h:AR) (s:IC) (n t:Int):Option IC :=
 if (Dy h (s.1.getD n.toNat 0) t).2=true then some (if (Dy h (s.1.getD n.toNat 0) t).1=s.1.getD n.toNat 0 then s else (s.1.set n.toNat (Dy h (s.1.getD n.toNat 0) t).1,s.2++[n])) else none
def Dn (h:AR) (s:IC):List (Nat×Obj):=[(1,.box 74 true [.p Ml h,.sr 2 T3 0 s.1.length,.p Jj s.2]),(2,.arr 3 T3 s.1)]
theorem Xb (h:AR) (hk:Ns h) (s:IC) {n t:Int} (n0:0≤n) (n1:n<(s.1.length:Int)) (ty0:0≤s.1.getD n.toNat 0) (xH:s.1.getD n.toNat 0<(h.1.length:Int)) (t0:0≤t) (t1:t<(h.1.length:Int)) (hw:s.2.length≤1000000000) :
  BO Tryz.prog 72 [.bp 1 [] 0,.p T3 n,.p T3 t] (Dn h s) [1]
  (fun res objs'=>(Ef h s n t=none∧res=.p .bool false∧objs'=Dn h s)∨∃s',Ef h s n t=some s'∧res=.p .bool true∧objs'=Dn h s'):=by
 obtain⟨ty,w⟩:=s
 simp only at n1 ty0 xH hw
 have hh:h.1.length≤100000:=Nat.le_trans hk.2 (by omega)
 have hhc:∀x∈h.1,x.2.1.length≤100000:=fun x hx=>Nat.le_trans (hk.1.wid x.2.1 (List.mem_map.2 ⟨x,hx,rfl⟩)) (by omega)
 refine BL Tryz.func72 (by kernel_rfl) rfl Tryz.ntmps72 (by simp only[List.length_cons,List.length_nil];omega) (by kernel_rfl) rfl rfl (AF [(110,XX)]) (AD uW AI) ?_
 intro w0 K O0 ρ0 hc hok1 hok2
 simp only[Dn,Al]
 repeat'(first|exact trivial|refine eS rfl ?_|refine AB ?_|refine rX [0,1,2,6,7,8,26,35] hc ?_ ?_|refine rC ?_ ?_<;>intro AA<;>try(cases AA;done))
 ·exact⟨⟨n0,n1⟩,⟨ty0,xH⟩,⟨t0,t1⟩,hh,hhc⟩
 ·have hr:Ef h (ty,w) n t=none:=by unfold Ef;rw[if_neg (by simp only;rw[AA];simp)]
  refine Ev.ent (σ':=⟨[(6,.p .bool false)],Dn h (ty,w)⟩) ?_ (AC [(1,.nm 1),(2,.nm 2)] rfl rfl ?_ ?_)
  ·exact AU hc [.tmp 6] rfl (.inl rfl) (.p .bool false) eT (.inl ⟨hr,rfl,rfl⟩)
  ·unfold Dn
   first|exact eN|refine eM ?_
  ·first|exact eN|refine eM ?_
 ·exact⟨n0,n1⟩
 ·exact⟨n0,n1⟩
 ·simp only[AO]
  omega
 ·have hr:Ef h (ty,w) n t=some (ty.set n.toNat (Dy h (ty.getD n.toNat 0) t).1,w++[n]):=by unfold Ef;rw[if_pos (by assumption),if_neg AA]
  generalize (Dy h (ty.getD n.toNat 0) t).1=m at *
  have hwt:(w++[n]).take (w.length+1)=w++[n]:=List.take_of_length_le (by simp)
  refine HQ [61] ?_
  refine Ev.ent (σ':=⟨[(6,.p .bool true)],Dn h (ty.set n.toNat m,w++[n])⟩) ?_ (AC [(1,.nm 1),(2,.nm 2)] rfl rfl ?_ ?_)
  ·exact AU hc [.tmp 6] rfl (.inl rfl) (.p .bool true) eT (.inr ⟨_,hr,rfl,rfl⟩)
  ·unfold Dn
   simp only[List.length_set]
   first|exact eN|refine eM ?_
  ·first|exact eN|refine eM ?_
 ·have hr:Ef h (ty,w) n t=some (ty,w):=by unfold Ef;rw[if_pos (by assumption),if_pos (by simpa using AA)]
  refine Ev.ent (σ':=⟨[(6,.p .bool true)],Dn h (ty,w)⟩) ?_ (AC [(1,.nm 1),(2,.nm 2)] rfl rfl ?_ ?_)
  ·exact AU hc [.tmp 6] rfl (.inl rfl) (.p .bool true) eT (.inr ⟨_,hr,rfl,rfl⟩)
  ·unfold Dn
   first|exact eN|refine eM ?_
  ·first|exact eN|refine eM ?_
end
/- Functions of Go's library under graph.canonical: isNaN, Compare, byFeature, the sort of what is sorted. -/
section
def Vb:Ah:={ ins:=[T3],pre:=fun _=>True,out:=fun _=>[.p .bool false] }
attribute [local go_sem] Vb
def FJ (a b:Int):Int:=if a<b then -1 else if b<a then 1 else 0
def DC:Ah:={ ins:=[T3,T3],pre:=fun _=>True,out:=fun(a,b,_)=>[.p T3 (FJ a b)] }
attribute [local go_sem] DC
def BN:Ah:={ ins:=[BC,BC],pre:=fun _=>True,out:=fun(a,b,_)=>[.p T3 (FJ (Prod.fst a) (Prod.fst b))] }
attribute [local go_sem] BN
theorem oH:Ao Tryz.prog 157 Vb:=by
 refine AW Tryz.func157 (by kernel_rfl) rfl Tryz.ntmps157 (by decide) (by kernel_rfl) (AF []) AI ?_
 rintro w0 O0 ⟨x,u⟩ hc - -
 simp only[Vb,AM]
 repeat'(first|exact trivial|refine eS rfl ?_|refine AB ?_|refine rX [0,2] hc ?_ ?_|refine rC ?_ ?_<;>intro AA<;>try(cases AA;done))
 exact AG hc [.tmp 2] rfl (.inl rfl) (by simp) (by first|exact eR|refine Av ?_)
theorem GS:Ao Tryz.prog 138 DC:=by
 refine AW Tryz.func138 (by kernel_rfl) rfl Tryz.ntmps138 (by decide) (by kernel_rfl) (AF [(157,Vb)]) (AD oH AI) ?_
 rintro w0 O0 ⟨a,b,u⟩ hc - -
 simp only[DC,AM]
 repeat'(first|exact trivial|refine eS rfl ?_|refine AB ?_|refine rX [0,1,4,5,6,11,12,13,16,19] hc ?_ ?_|refine rC ?_ ?_<;>intro AA<;>try(cases AA;done))
 ·have e:FJ a b=-1:=if_pos AA
  exact AG hc [.tmp 4] rfl (.inl rfl) (by simp) (by rw[e];first|exact eR|refine Av ?_)
 ·have e:FJ a b=1:=by unfold FJ;rw[if_neg (by omega),if_pos AA]
  exact AG hc [.tmp 4] rfl (.inl rfl) (by simp) (by rw[e];first|exact eR|refine Av ?_)
 ·have e:FJ a b=0:=by unfold FJ;rw[if_neg (by omega),if_neg (by omega)]
  exact AG hc [.tmp 4] rfl (.inl rfl) (by simp) (by rw[e];first|exact eR|refine Av ?_)
theorem Eb:Ao Tryz.prog 116 BN:=by
 refine AW Tryz.func116 (by kernel_rfl) rfl Tryz.ntmps116 (by decide) (by kernel_rfl) (AF [(138,DC)]) (AD GS AI) ?_
 rintro w0 O0 ⟨a,b,u⟩ hc - -
 simp only[BN,AM]
 repeat'(first|exact trivial|refine eS rfl ?_|refine AB ?_|refine rX [0,1,2,3,4] hc ?_ ?_|refine rC ?_ ?_<;>intro AA<;>try(cases AA;done))
 exact AG hc [.tmp 4] rfl (.inl rfl) (by simp) (by first|exact eR|refine Av ?_)
def u9 (l:List (Int×Int)):Prop:=∀i,i+1<l.length→(l.getD i (0,0)).1<(l.getD (i+1) (0,0)).1
end
/- The plain law under graph.canonical: the program's search and the reference's are one, where each node's arcs ascend. -/
section
def QG (f:List AN):Nat→List Int→Int→List Int
 | 0,o,_=>o
 | k+1,o,n=>(f.getD n.toNat (0,[])).2.foldl (fun o a=>if a.2∈o then o else QG f k o a.2) (o++[n])
def DJ (f:List AN) (k:Nat) (o:List Int) (a:Int×Int):List Int:=if a.2∈o then o else QG f k o a.2
theorem Nf (f:List AN) (k:Nat) (o:List Int) (n:Int):QG f (k+1) o n=(f.getD n.toNat (0,[])).2.foldl (DJ f k) (o++[n]):=rfl
structure Pl (f:List AN) (o:List Int):Prop where
 nd:o.Nodup
 rng:∀x∈o,0≤x∧x<(f.length:Int)
theorem Pl.len {f:List AN} {o:List Int} (h:Pl f o):o.length≤f.length:=by
 have h1:(o.map Int.toNat).Nodup:=by
  rw[List.Nodup,List.pairwise_map]
  refine h.nd.imp_of_mem fun {a b} ha hb hne e=>hne ?_
  have:=h.rng a ha
  have:=h.rng b hb
  omega
 have:=D8 f.length (o.map Int.toNat) h1 (fun j hj=>by
  obtain⟨x,hx,rfl⟩:=List.mem_map.1 hj
  have:=h.rng x hx
  omega)
 simpa using this
theorem Pl.snoc {f:List AN} {o:List Int} (h:Pl f o) {n:Int} (h0:0≤n) (h1:n<f.length) (hn:n∉o):Pl f (o++[n]):=by
 refine⟨?_,fun x hx=>?_⟩
 ·rw[List.nodup_append]
  refine⟨h.nd,by simp,fun a ha b hb=>?_⟩
  have:b=n:=by simpa using hb
  subst this
  intro e
  subst e
  exact hn ha
 ·rcases List.mem_append.1 hx with hx|hx
  ·exact h.rng x hx
  ·have:x=n:=by simpa using hx
   subst this
   exact⟨h0,h1⟩
theorem K9 {f:List AN} {k:Nat} (hv:∀(o:List Int) (n:Int),Pl f o→0≤n→n<f.length→n∉o→Pl f (QG f k o n)∧o <+: QG f k o n) :
  ∀(l:List (Int×Int)) (o:List Int),(∀a∈l,0≤a.2∧a.2<(f.length:Int))→Pl f o→Pl f (l.foldl (DJ f k) o)∧o <+: l.foldl (DJ f k) o
 | [],o,_,h=>⟨h,List.prefix_refl _⟩
 | a :: l,o,hl,h=>by
  simp only[List.foldl_cons]
  have hstep:Pl f (DJ f k o a)∧o <+: DJ f k o a:=by
   unfold DJ
   split
   ·exact⟨h,List.prefix_refl _⟩
   ·rename_i hn
    exact hv o a.2 h (hl a (by simp)).1 (hl a (by simp)).2 hn
  obtain⟨g1,g2⟩:=K9 hv l _ (fun b hb=>hl b (by simp[hb])) hstep.1
  exact⟨g1,hstep.2.trans g2⟩
theorem JN {f:List AN} (hf:El f) {n:Int} {a:Int×Int} (ha:a∈(f.getD n.toNat (0,[])).2):0≤a.2∧a.2<f.length:=by
 by_cases h:n.toNat<f.length
 ·have hm:f.getD n.toNat (0,[])∈f:=by
   rw[List.getD_eq_getElem?_getD,List.getElem?_eq_getElem h];exact List.getElem_mem h
  exact(hf.2 _ hm).2 a ha
 ·rw[List.getD_eq_getElem?_getD,List.getElem?_eq_none (by omega)]at ha
  simp at ha
theorem LA {f:List AN} (hf:El f):∀(k:Nat) (o:List Int) (n:Int),Pl f o→0≤n→n<f.length→n∉o→Pl f (QG f k o n)∧o <+: QG f k o n
 | 0,o,n,h,_,_,_=>⟨h,List.prefix_refl _⟩
 | k+1,o,n,h,h0,h1,h2=>by
  obtain⟨g1,g2⟩:=K9 (LA hf k) _ _ (fun a ha=>JN hf ha) (h.snoc h0 h1 h2)
  rw[Nf]
  exact⟨g1,(List.prefix_append o [n]).trans g2⟩
theorem SP {f:List AN} (hf:El f):∀(k:Nat) (o:List Int) (n:Int),Pl f o→0≤n→n<f.length→n∉o→f.length-o.length≤k →
  n∈QG f k o n∧∀x∈QG f k o n,x∈o∨∀a∈(f.getD x.toNat (0,[])).2,a.2∈QG f k o n
 | 0,o,n,h,h0,h1,h2,hk=>by
  have:=(h.snoc h0 h1 h2).len
  simp only[List.length_append,List.length_singleton]at this
  omega
 | k+1,o,n,h,h0,h1,h2,hk=>by
  have key:∀(l:List (Int×Int)) (t:List Int),(∀a∈l,0≤a.2∧a.2<(f.length:Int))→Pl f t→f.length-t.length≤k →
    (∀a∈l,a.2∈l.foldl (DJ f k) t)∧∀x∈l.foldl (DJ f k) t,x∈t∨∀a∈(f.getD x.toNat (0,[])).2,a.2∈l.foldl (DJ f k) t:=by
   intro l
   induction l with
   | nil=>exact fun t _ _ _=>⟨fun a ha=>(by cases ha),fun x hx=>.inl hx⟩
   | cons a l ih =>
    intro t hl ht hlen
    simp only[List.foldl_cons]
    have hstep:Pl f (DJ f k t a)∧t <+: DJ f k t a∧a.2∈DJ f k t a∧∀x∈DJ f k t a,x∈t∨∀b∈(f.getD x.toNat (0,[])).2,b.2∈DJ f k t a:=by
     unfold DJ
     split
     ·rename_i hn
      exact⟨ht,List.prefix_refl _,hn,fun x hx=>.inl hx⟩
     ·rename_i hn
      have q:=hl a (by simp)
      obtain⟨g1,g2⟩:=LA hf k t a.2 ht q.1 q.2 hn
      obtain⟨g3,g4⟩:=SP hf k t a.2 ht q.1 q.2 hn hlen
      exact⟨g1,g2,g3,g4⟩
    obtain⟨g1,g2,g3,g4⟩:=hstep
    have hle:=g2.length_le
    obtain⟨i1,i2⟩:=ih (DJ f k t a) (fun b hb=>hl b (by simp[hb])) g1 (by omega)
    obtain⟨_,j2⟩:=K9 (LA hf k) l (DJ f k t a) (fun b hb=>hl b (by simp[hb])) g1
    refine⟨fun b hb=>?_,fun x hx=>?_⟩
    ·rcases List.mem_cons.1 hb with rfl|hb
     ·exact j2.subset g3
     ·exact i1 b hb
    ·rcases i2 x hx with hx|hx
     ·rcases g4 x hx with hx|hx
      ·exact .inl hx
      ·exact .inr fun b hb=>j2.subset (hx b hb)
     ·exact .inr hx
  have hs:=h.snoc h0 h1 h2
  obtain⟨g1,g2⟩:=key (f.getD n.toNat (0,[])).2 (o++[n]) (fun a ha=>JN hf ha) hs (by simp only[List.length_append,List.length_singleton];omega)
  obtain⟨_,g3⟩:=K9 (LA hf k) (f.getD n.toNat (0,[])).2 (o++[n]) (fun a ha=>JN hf ha) hs
  rw[Nf]
  refine⟨g3.subset (by simp),fun x hx=>?_⟩
  rcases g2 x hx with hx|hx
  ·rcases List.mem_append.1 hx with hx|hx
   ·exact .inl hx
   ·have:x=n:=by simpa using hx
    subst this
    exact .inr g1
  ·exact .inr hx
def vA (o:List Int) (x:Int):Int:=if x∈o then (o.idxOf x:Int) else 0
def Xc (o:List Int) (a:Int×Int):Int×Int:=(a.1,vA o a.2)
def Pm (f:List AN) (o:List Int) (n:Int):AN:=((f.getD n.toNat (0,[])).1,(f.getD n.toNat (0,[])).2.map (Xc o))
def E0 (f:List AN) (root:Int):List AN:=(QG f f.length [] root).map (Pm f (QG f f.length [] root))
def vB (f:List AN):Prop:=∀x∈f,u9 x.2∧x.2.length≤200
theorem oI {f:List AN} (hf:vB f) (n:Int):u9 (f.getD n.toNat (0,[])).2∧(f.getD n.toNat (0,[])).2.length≤200:=by
 by_cases h:n.toNat<f.length
 ·have hm:f.getD n.toNat (0,[])∈f:=by
   rw[List.getD_eq_getElem?_getD,List.getElem?_eq_getElem h];exact List.getElem_mem h
  exact hf _ hm
 ·rw[List.getD_eq_getElem?_getD,List.getElem?_eq_none (by omega)]
  exact⟨fun i hi=>by simp at hi,by simp⟩
theorem LB {l:List (Int×Int)} (h:u9 l):AZ l=l:=by
 have key:∀i,i≤l.length→AZ (l.take i)=l.take i:=by
  intro i
  induction i with
  | zero=>intro _;rfl
  | succ i ih =>
   intro hi
   rw[Au l (0,0) (by omega),Jw,ih (by omega)]
   have hlen:(l.take i).length=i:=by rw[List.length_take];omega
   have hpos:K5 (l.getD i (0,0)) (l.take i) (l.take i).length=(l.take i).length:=by
    rw[hlen]
    cases i with
    | zero=>rfl
    | succ i =>
     have h1:=h i (by omega)
     have h2:(l.take (i+1)).getD i (0,0)=l.getD i (0,0):=by
      simp only[List.getD_eq_getElem?_getD]
      rw[List.getElem?_take];simp
     simp only[K5]
     rw[h2,if_neg (by omega)]
   unfold Og
   rw[hpos,List.take_length,List.drop_length,List.append_nil]
 have:=key l.length (Nat.le_refl _)
 rwa [List.take_length]at this
structure KQ (f:List AN) (num o:List Int):Prop where
 len:num.length=f.length
 get:∀j,j<f.length→num.getD j 0=if (j:Int)∈o then (o.idxOf (j:Int):Int) else -1
theorem KQ.neg {f:List AN} {num o:List Int} (h:KQ f num o) {n:Int} (h0:0≤n) (h1:n<f.length):num.getD n.toNat 0<0↔n∉o:=by
 have:=h.get n.toNat (by omega)
 rw[show ((n.toNat:Nat):Int)=n by omega]at this
 rw[this]
 split
 ·rename_i hm
  constructor
  ·intro e;omega
  ·intro e;exact absurd hm e
 ·rename_i hm
  exact⟨fun _=>hm,fun _=>by omega⟩
theorem UP {o:List Int} {x n:Int} (h:x∈o):(o++[n]).idxOf x=o.idxOf x:=by rw[List.idxOf_append,if_pos h]
theorem UQ {o:List Int} {n:Int} (h:n∉o):(o++[n]).idxOf n=o.length:=by rw[List.idxOf_append,if_neg h];simp
theorem KQ.snoc {f:List AN} {num o:List Int} (h:KQ f num o) {n:Int} (h0:0≤n) (h1:n<f.length) (hn:n∉o):KQ f (num.set n.toNat (o.length:Int)) (o++[n]):=by
 refine⟨by simpa using h.len,fun j hj=>?_⟩
 have hj':j<num.length:=by rw[h.len];exact hj
 by_cases e:j=n.toNat
 ·subst e
  have en:((n.toNat:Nat):Int)=n:=by omega
  rw[en]
  simp only[List.getD_eq_getElem?_getD]
  rw[List.getElem?_set_self hj',if_pos (by simp),UQ hn]
  simp
 ·have en:¬(j:Int)=n:=by omega
  simp only[List.getD_eq_getElem?_getD]
  rw[List.getElem?_set_ne (fun e'=>e e'.symm)]
  have:=h.get j hj
  simp only[List.getD_eq_getElem?_getD]at this
  rw[this]
  by_cases hm:(j:Int)∈o
  ·rw[if_pos hm,if_pos (by simp[hm]),UP hm]
  ·rw[if_neg hm,if_neg (by simp[hm,en])]
theorem SQ {f:List AN} (hf:El f) (hs:vB f):∀(k:Nat) (s:List Int×List Int) (n:Int),KQ f s.1 s.2→Pl f s.2→0≤n→n<f.length→n∉s.2→(Dl f k s n).2=QG f k s.2 n∧KQ f (Dl f k s n).1 (Dl f k s n).2
 | 0,s,n,h,_,_,_,_=>⟨rfl,h⟩
 | k+1,s,n,h,hd,h0,h1,h2=>by
  have key:∀(l:List (Int×Int)) (t:List Int×List Int),(∀a∈l,0≤a.2∧a.2<(f.length:Int))→KQ f t.1 t.2→Pl f t.2→(l.foldl (EH f k) t).2=l.foldl (DJ f k) t.2∧KQ f (l.foldl (EH f k) t).1 (l.foldl (EH f k) t).2:=by
   intro l
   induction l with
   | nil=>exact fun t _ ht _=>⟨rfl,ht⟩
   | cons a l ih =>
    intro t hl ht htd
    simp only[List.foldl_cons]
    have q:=hl a (by simp)
    have hq:=ht.neg q.1 q.2
    have hstep:(EH f k t a).2=DJ f k t.2 a∧KQ f (EH f k t a).1 (EH f k t a).2∧Pl f (EH f k t a).2:=by
     unfold EH DJ
     by_cases hm:a.2∈t.2
     ·rw[if_pos hm,if_neg (by rw[hq];exact fun e=>e hm)]
      exact⟨rfl,ht,htd⟩
     ·rw[if_neg hm,if_pos (by rw[hq];exact hm)]
      obtain⟨g1,g2⟩:=SQ hf hs k t a.2 ht htd q.1 q.2 hm
      exact⟨g1,g2,by rw[g1];exact(LA hf k t.2 a.2 htd q.1 q.2 hm).1⟩
    obtain⟨g1,g2,g3⟩:=hstep
    obtain⟨i1,i2⟩:=ih (EH f k t a) (fun b hb=>hl b (by simp[hb])) g2 g3
    rw[g1]at i1
    exact⟨i1,i2⟩
  rw[FG,Nf,LB (oI hs n).1]
  exact key _ (s.1.set n.toNat (s.2.length:Int),s.2++[n]) (fun a ha=>JN hf ha) (h.snoc h0 h1 h2) (hd.snoc h0 h1 h2)
theorem SR {f:List AN} (hf:El f) (hs:vB f) {root:Int} (h0:0≤root) (h1:root<f.length):KN f root=E0 f root:=by
 have hn0:KQ f (List.replicate f.length (-1)) []:=⟨by simp,fun j hj=>by simp[List.getD_eq_getElem?_getD,List.getElem?_replicate,hj]⟩
 have hd0:Pl f []:=⟨by simp,fun x hx=>by cases hx⟩
 obtain⟨g1,g2⟩:=SQ hf hs f.length (List.replicate f.length (-1),[]) root hn0 hd0 h0 h1 (by simp)
 have g1:(F3 f root).2=QG f f.length [] root:=g1
 have g2:KQ f (F3 f root).1 (F3 f root).2:=g2
 have hc:=(SP hf f.length [] root hd0 h0 h1 (by simp) (by simp)).2
 have ho:=(LA hf f.length [] root hd0 h0 h1 (by simp)).1
 unfold KN E0
 rw[g1]at g2 ⊢
 generalize QG f f.length [] root=o at *
 refine List.map_congr_left fun x hx=>?_
 unfold Lz Pm
 rw[LB (oI hs x).1]
 refine congrArg _ (List.map_congr_left fun a ha=>?_)
 unfold S2 Xc vA
 have hin:a.2∈o:=by
  rcases hc x hx with hx'|hx'
  ·cases hx'
  ·exact hx' a ha
 have hr:=JN hf ha
 have:=g2.get a.2.toNat (by omega)
 rw[show ((a.2.toNat:Nat):Int)=a.2 by omega]at this
 rw[this,if_pos hin,if_pos hin]
/-! The program's map of numbers -/
def kQ (o:List Int):List (Int×Int):=(List.range o.length).map fun i=>(o.getD i 0,(i:Int))
theorem Xd (o:List Int) (n:Int):kQ (o++[n])=kQ o++[(n,(o.length:Int))]:=by
 unfold kQ
 rw[List.length_append,List.length_singleton,List.range_succ,List.map_append]
 congr 1
 ·refine List.map_congr_left fun i hi=>?_
  have:i<o.length:=List.mem_range.1 hi
  simp only[List.getD_eq_getElem?_getD]
  rw[List.getElem?_append_left this]
 ·simp[List.getD_eq_getElem?_getD]
theorem jK (k:Int) (a b:List (Int×Int)):Ay T3 T3 k (a++b)=(Ay T3 T3 k a).or (Ay T3 T3 k b):=by
 induction a with
 | nil=>rfl
 | cons x a ih =>
  simp only[List.cons_append,Ay]
  split
  ·rfl
  ·exact ih
theorem Iu {α:Type} {p:List α→Prop} (h0:p []) (h1:∀l a,p l→p (l++[a])) (l:List α):p l:=by
 have:∀n (l:List α),l.length=n→p l:=by
  intro n
  induction n with
  | zero=>intro l hl;rw[List.length_eq_zero_iff.1 hl];exact h0
  | succ n ih =>
   intro l hl
   have hne:l≠[]:=by intro e;subst e;simp at hl
   rw[←List.dropLast_concat_getLast hne]
   exact h1 _ _ (ih _ (by simp[hl]))
 exact this _ l rfl
theorem Om (o:List Int) (x:Int):Ay T3 T3 x (kQ o)=if x∈o then some (o.idxOf x:Int) else none:=by
 induction o using Iu with
 | h0=>rfl
 | h1 o n ih =>
  rw[Xd,jK,ih]
  by_cases hx:x∈o
  ·rw[if_pos hx,if_pos (by simp[hx]),UP hx];rfl
  ·rw[if_neg hx]
   by_cases hn:x=n
   ·subst hn
    rw[if_pos (by simp),UQ hx]
    simp[Ay,IA]
   ·rw[if_neg (by simp[hx,hn])]
    have:((x==n)=true)↔False:=by simp[hn]
    simp[Ay,IA,hn]
theorem jL (k v:Int) (l:List (Int×Int)) (h:Ay T3 T3 k l=none):HU T3 T3 k v l=l++[(k,v)]:=by
 induction l with
 | nil=>rfl
 | cons x l ih =>
  simp only[Ay]at h
  simp only[HU,List.cons_append]
  split at h
  ·cases h
  ·rename_i hne
   rw[if_neg hne,ih h]
theorem oJ {o:List Int} {n:Int} (hn:n∉o):HU T3 T3 n (o.length:Int) (kQ o)=kQ (o++[n]):=by
 rw[jL _ _ _ (by rw[Om,if_neg hn]),Xd]
theorem vC (o:List Int) (x:Int):(Ay T3 T3 x (kQ o)).getD 0=vA o x:=by
 rw[Om]
 unfold vA
 split<;>rfl
theorem SS (o:List Int) (x:Int):(Ay T3 T3 x (kQ o)).isSome=decide (x∈o):=by
 rw[Om]
 split<;>simp[*]
end
/- Plain: sorting by exchanges. -/
section
section
variable {α:Type}
structure SO (o:α→α→Int):Prop where
 anti:∀a b,o b a=- o a b
 trans:∀ {a b c},o a b<0→o b c<0→o a c<0
variable {o:α→α→Int} {d:α}
def CH (d:α) (l:List α) (i j:Nat):List α:=(l.set i (l.getD j d)).set j (l.getD i d)
theorem H3 {l:List α} {i j:Nat} (hi:i<l.length) (hj:j<l.length) (k:Nat):(CH d l i j).getD k d=if k=j then l.getD i d else if k=i then l.getD j d else l.getD k d:=by
 unfold CH
 simp only[List.getD_eq_getElem?_getD,List.getElem?_set,List.length_set]
 by_cases e1:j=k
 ·rw[if_pos e1,if_pos (by omega),if_pos e1.symm];rfl
 ·rw[if_neg e1,if_neg (show ¬k=j by omega)]
  by_cases e2:i=k
  ·rw[if_pos e2,if_pos (by omega),if_pos e2.symm];rfl
  ·rw[if_neg e2,if_neg (show ¬k=i by omega)]
theorem jM {l:List α} {i j:Nat} (hi:i<l.length) (hj:j<l.length):(CH d l i j).Perm l:=by
 have e1:l.getD i d=l[i]:=by rw[List.getD_eq_getElem?_getD,List.getElem?_eq_getElem hi];rfl
 have e2:l.getD j d=l[j]:=by rw[List.getD_eq_getElem?_getD,List.getElem?_eq_getElem hj];rfl
 unfold CH
 rw[e1,e2]
 exact List.set_set_perm hi hj
structure Dq (d:α) (a b:Nat) (l r:List α):Prop where
 perm:r.Perm l
 out:∀k,k<a∨b≤k→r.getD k d=l.getD k d
 inn:∀i,a≤i→i<b→∃j,a≤j∧j<b∧r.getD i d=l.getD j d
theorem Dq.len {a b:Nat} {l r:List α} (h:Dq d a b l r):r.length=l.length:=h.perm.length_eq
theorem Dq.refl (a b:Nat) (l:List α):Dq d a b l l:=⟨List.Perm.refl _,fun _ _=>rfl,fun i h1 h2=>⟨i,h1,h2,rfl⟩⟩
theorem Dq.trans {a b:Nat} {l r s:List α} (h:Dq d a b l r) (h2:Dq d a b r s):Dq d a b l s:=⟨h2.perm.trans h.perm,fun k hk=>(h2.out k hk).trans (h.out k hk),fun i h1 h3=>by
 obtain⟨j,j1,j2,e⟩:=h2.inn i h1 h3
 obtain⟨k,k1,k2,e2⟩:=h.inn j j1 j2
 exact⟨k,k1,k2,e.trans e2⟩⟩
theorem Dq.mono {a b a' b':Nat} {l r:List α} (h:Dq d a b l r) (ha:a'≤a) (hb:b≤b'):Dq d a' b' l r:=⟨h.perm,fun k hk=>h.out k (by omega),fun i h1 h2=>by
 by_cases hi:a≤i∧i<b
 ·obtain⟨j,j1,j2,e⟩:=h.inn i hi.1 hi.2
  exact⟨j,by omega,by omega,e⟩
 ·exact⟨i,h1,h2,h.out i (by omega)⟩⟩
theorem Dq.swap {a b:Nat} (l:List α) {i j:Nat} (i1:a≤i) (i2:i<b) (j1:a≤j) (j2:j<b) (hb:b≤l.length):Dq d a b l (CH d l i j):=by
 have hg:=H3 (d:=d) (l:=l) (i:=i) (j:=j) (by omega) (by omega)
 refine⟨jM (by omega) (by omega),fun k hk=>?_,fun k k1 k2=>?_⟩
 ·rw[hg k,if_neg (by omega),if_neg (by omega)]
 ·rw[hg k]
  by_cases e1:k=j
  ·rw[if_pos e1];exact⟨i,i1,i2,rfl⟩
  ·rw[if_neg e1]
   by_cases e2:k=i
   ·rw[if_pos e2];exact⟨j,j1,j2,rfl⟩
   ·rw[if_neg e2];exact⟨k,k1,k2,rfl⟩
def YK (o:α→α→Int) (d:α) (l:List α):Prop:=∀i j,i<l.length→j<l.length→i≠j→o (l.getD i d) (l.getD j d)≠0
theorem fV (so:SO o) (l:List α):YK o d l↔l.Pairwise fun a b=>o a b≠0:=by
 have hg:∀i (h:i<l.length),l.getD i d=l[i]:=fun i h=>by rw[List.getD_eq_getElem?_getD,List.getElem?_eq_getElem h];rfl
 rw[List.pairwise_iff_getElem]
 constructor
 ·intro h i j hi hj hij
  have:=h i j hi hj (by omega)
  rwa [hg i hi,hg j hj]at this
 ·intro h i j hi hj hij
  rw[hg i hi,hg j hj]
  rcases Nat.lt_or_gt_of_ne hij with h1|h1
  ·exact h i j hi hj h1
  ·have h2:=h j i hj hi h1
   rw[so.anti]
   omega
theorem YK.perm (so:SO o) {l r:List α} (h:YK o d l) (hp:r.Perm l):YK o d r:=by
 rw[fV so]at h ⊢
 refine(hp.symm.pairwise_iff ?_).1 h
 intro a b hab
 rw[so.anti]
 omega
theorem YK.lt (so:SO o) {l:List α} (h:YK o d l) {i j:Nat} (hi:i<l.length) (hj:j<l.length) (hij:i≠j) (hn:¬o (l.getD i d) (l.getD j d)<0):o (l.getD j d) (l.getD i d)<0:=by
 have h1:=h i j hi hj hij
 rw[so.anti]
 omega
def Oo (o:α→α→Int) (d:α) (a b:Nat) (l:List α):Prop:=∀i j,a≤i→i<j→j<b→o (l.getD i d) (l.getD j d)<0
theorem Vc (a:Nat) (l:List α):Oo o d a (a+1) l:=fun i j h1 h2 h3=>by omega
theorem oK (so:SO o) {a b:Nat} {l:List α} (h:Oo o d a b l) (hab:a<b) (hl:o (l.getD (b-1) d) (l.getD b d)<0):Oo o d a (b+1) l:=by
 intro i j h1 h2 h3
 by_cases hj:j=b
 ·subst hj
  by_cases hi:i=j-1
  ·rw[hi];exact hl
  ·exact so.trans (h i (j-1) h1 (by omega) (by omega)) hl
 ·exact h i j h1 h2 (by omega)
theorem Ld {a b:Nat} {l r:List α} (h:Oo o d a b l) (e:∀k,a≤k→k<b→r.getD k d=l.getD k d):Oo o d a b r:=fun i j h1 h2 h3=>by
 rw[e i h1 (by omega),e j (by omega) h3]
 exact h i j h1 h2 h3
/-! Insertion -/
def ZW (o:α→α→Int) (d:α) (a i j:Nat) (m:List α):Prop:=(∀x y,a≤x→x<y→y≤i→x≠j→y≠j→o (m.getD x d) (m.getD y d)<0)∧∀y,j<y→y≤i→o (m.getD j d) (m.getD y d)<0
theorem ZX {a i:Nat} {m:List α} (h:Oo o d a i m):ZW o d a i i m:=⟨fun x y h0 h1 h2 h3 h4=>h x y h0 h1 (by omega),fun y h1 h2=>by omega⟩
theorem ST (so:SO o) {a i j:Nat} {m:List α} (h:ZW o d a i j m) (haj:a≤j) (hj:j≤i) (he:j=a∨o (m.getD (j-1) d) (m.getD j d)<0):Oo o d a (i+1) m:=by
 intro x y h0 h1 h2
 by_cases e1:x=j
 ·subst e1;exact h.2 y h1 (by omega)
 ·by_cases e2:y=j
  ·subst e2
   rcases he with he|he
   ·omega
   ·by_cases e3:x=y-1
    ·subst e3;exact he
    ·exact so.trans (h.1 x (y-1) h0 (by omega) (by omega) e1 (by omega)) he
  ·exact h.1 x y h0 h1 (by omega) e1 e2
theorem UR {a i j:Nat} {m:List α} (h:ZW o d a i j m) (h0:a<j) (hj:j≤i) (hi:i<m.length) (hlt:o (m.getD j d) (m.getD (j-1) d)<0):ZW o d a i (j-1) (CH d m j (j-1)):=by
 have hg:=H3 (d:=d) (l:=m) (i:=j) (j:=j-1) (by omega) (by omega)
 refine⟨fun x y hx h1 h2 h3 h4=>?_,fun y h1 h2=>?_⟩
 ·rw[hg x,hg y,if_neg h3,if_neg h4]
  by_cases e1:x=j
  ·subst e1
   rw[if_pos rfl,if_neg (by omega)]
   exact h.1 (x-1) y (by omega) (by omega) h2 (by omega) (by omega)
  ·rw[if_neg e1]
   by_cases e2:y=j
   ·rw[if_pos e2]
    exact h.1 x (j-1) hx (by omega) (by omega) e1 (by omega)
   ·rw[if_neg e2]
    exact h.1 x y hx h1 h2 e1 e2
 ·rw[hg (j-1),hg y,if_pos rfl,if_neg (by omega)]
  by_cases e2:y=j
  ·rw[if_pos e2];exact hlt
  ·rw[if_neg e2]
   exact h.2 y (by omega) h2
/-! Heaps -/
def Hp (o:α→α→Int) (d:α) (f hi lo:Nat) (m:List α):Prop:=∀k c,lo≤k→(c=2*k+1∨c=2*k+2)→c<hi→o (m.getD (f+c) d) (m.getD (f+k) d)<0
structure wD (o:α→α→Int) (d:α) (f hi lo root:Nat) (m:List α):Prop where
 le:lo≤root
 hp:∀k c,lo≤k→k≠root→(c=2*k+1∨c=2*k+2)→c<hi→o (m.getD (f+c) d) (m.getD (f+k) d)<0
 up:∀p c,lo≤p→(root=2*p+1∨root=2*p+2)→(c=2*root+1∨c=2*root+2)→c<hi→o (m.getD (f+c) d) (m.getD (f+p) d)<0
theorem jN {f hi lo:Nat} {m:List α} (h:Hp o d f hi (lo+1) m):wD o d f hi lo lo m:=⟨Nat.le_refl _,fun k c h1 h2 h3 h4=>h k c (by omega) h3 h4,fun p c h1 h2=>by omega⟩
theorem oL {f hi lo root:Nat} {m:List α} (h:wD o d f hi lo root m) (hl:hi≤2*root+1):Hp o d f hi lo m:=fun k c h1 h2 h3=>h.hp k c h1 (by omega) h2 h3
theorem Xe (so:SO o) {f hi lo root ch:Nat} {m:List α} (h:wD o d f hi lo root m) (hc:ch=2*root+1∨ch=2*root+2) (hlt:o (m.getD (f+ch) d) (m.getD (f+root) d)<0)
  (hs:∀c,(c=2*root+1∨c=2*root+2)→c<hi→c≠ch→o (m.getD (f+c) d) (m.getD (f+ch) d)<0):Hp o d f hi lo m:=fun k c h1 h2 h3=>by
 by_cases hk:k=root
 ·subst hk
  by_cases hcc:c=ch
  ·rw[hcc];exact hlt
  ·exact so.trans (hs c h2 h3 hcc) hlt
 ·exact h.hp k c h1 hk h2 h3
theorem Xf {f hi lo root ch:Nat} {m:List α} (h:wD o d f hi lo root m) (hch:ch<hi) (hf:f+hi≤m.length) (hc:ch=2*root+1∨ch=2*root+2) (hlt:o (m.getD (f+root) d) (m.getD (f+ch) d)<0)
  (hs:∀c,(c=2*root+1∨c=2*root+2)→c<hi→c≠ch→o (m.getD (f+c) d) (m.getD (f+ch) d)<0):wD o d f hi lo ch (CH d m (f+root) (f+ch)):=by
 have hg:=H3 (d:=d) (l:=m) (i:=f+root) (j:=f+ch) (by omega) (by omega)
 have hle:=h.le
 refine⟨by omega,fun k c h1 h2 h3 h4=>?_,fun p c h1 h2 h3 h4=>?_⟩
 ·rw[hg,hg]
  by_cases hk:k=root
  ·subst hk
   rw[if_neg (show ¬f+k=f+ch by omega),if_pos rfl]
   by_cases hcc:c=ch
   ·rw[if_pos (by omega)];exact hlt
   ·rw[if_neg (by omega),if_neg (by omega)]
    exact hs c h3 h4 hcc
  ·rw[if_neg (show ¬f+k=f+ch by omega),if_neg (show ¬f+k=f+root by omega)]
   by_cases hcr:c=root
   ·subst hcr
    rw[if_neg (by omega),if_pos rfl]
    exact h.up k ch h1 h3 hc hch
   ·rw[if_neg (by omega),if_neg (by omega)]
    exact h.hp k c h1 hk h3 h4
 ·have hp:p=root:=by omega
  subst hp
  rw[hg,hg,if_neg (by omega),if_neg (by omega),if_neg (by omega),if_pos rfl]
  exact h.hp ch c (by omega) (by omega) h3 h4
theorem Xg (so:SO o) {f hi:Nat} {m:List α} (h:Hp o d f hi 0 m):∀(n k:Nat),k≤n→0<k→k<hi→o (m.getD (f+k) d) (m.getD f d)<0
 | 0,k,h1,h2,_=>by omega
 | n+1,k,h1,h2,h3=>by
  have hpar:=h ((k-1) / 2) k (by omega) (by omega) h3
  by_cases hz:(k-1) / 2=0
  ·rw[hz]at hpar;exact hpar
  ·exact so.trans hpar (Xg so h n ((k-1) / 2) (by omega) (by omega) (by omega))
structure jO (o:α→α→Int) (d:α) (f n i:Nat) (m:List α):Prop where
 heap:Hp o d f i 0 m
 srt:Oo o d (f+i) (f+n) m
 big:∀x y,x<i→i≤y→y<n→o (m.getD (f+x) d) (m.getD (f+y) d)<0
theorem ZY {f n:Nat} {m:List α} (h:Hp o d f n 0 m):jO o d f n n m:=⟨h,fun i j h1 h2 h3=>by omega,fun x y h1 h2 h3=>by omega⟩
theorem jP (so:SO o) {f n i:Nat} {m:List α} (h:jO o d f n (i+1) m) (hi:i<n) (hl:f+n≤m.length) :
  wD o d f i 0 0 (CH d m f (f+i))∧Oo o d (f+i) (f+n) (CH d m f (f+i))∧∀x y,x<i→i≤y→y<n→o ((CH d m f (f+i)).getD (f+x) d) ((CH d m f (f+i)).getD (f+y) d)<0:=by
 have hg:=H3 (d:=d) (l:=m) (i:=f) (j:=f+i) (by omega) (by omega)
 have hmax:=Xg so h.heap i
 refine⟨⟨Nat.le_refl _,fun k c h1 h2 h3 h4=>?_,fun p c h1 h2=>by omega⟩,fun x y h1 h2 h3=>?_,fun x y h1 h2 h3=>?_⟩
 ·rw[hg,hg,if_neg (by omega),if_neg (by omega),if_neg (by omega),if_neg (by omega)]
  exact h.heap k c h1 h3 (by omega)
 ·rw[hg,hg,if_neg (show ¬y=f+i by omega),if_neg (show ¬y=f by omega)]
  by_cases hx:x=f+i
  ·rw[if_pos hx]
   have:=h.big 0 (y-f) (by omega) (by omega) (by omega)
   rwa [show f+0=f by omega,show f+(y-f)=y by omega]at this
  ·rw[if_neg hx,if_neg (by omega)]
   exact h.srt x y (by omega) h2 h3
 ·have key:∀z,z<i+1→i+1≤y→o (m.getD (f+z) d) (m.getD (f+y) d)<0:=fun z hz hy=>h.big z y hz hy h3
  rw[hg,hg,if_neg (show ¬f+x=f+i by omega)]
  by_cases hy:y=i
  ·rw[if_pos (show f+y=f+i by omega)]
   by_cases hx:x=0
   ·rw[if_pos (show f+x=f by omega)]
    exact hmax i (by omega) (by omega) (by omega)
   ·rw[if_neg (show ¬f+x=f by omega)]
    exact hmax x (by omega) (by omega) (by omega)
  ·rw[if_neg (show ¬f+y=f+i by omega),if_neg (show ¬f+y=f by omega)]
   by_cases hx:x=0
   ·rw[if_pos (show f+x=f by omega)]
    exact key i (by omega) (by omega)
   ·rw[if_neg (show ¬f+x=f by omega)]
    exact key x (by omega) (by omega)
theorem jQ {f n i:Nat} {m r:List α} (hp:Dq d f (f+i) m r) (hh:Hp o d f i 0 r) (hs:Oo o d (f+i) (f+n) m) (hb:∀x y,x<i→i≤y→y<n→o (m.getD (f+x) d) (m.getD (f+y) d)<0):jO o d f n i r :=
 ⟨hh,Ld hs fun k h1 h2=>hp.out k (by omega),fun x y h1 h2 h3=>by
  rw[hp.out (f+y) (by omega)]
  obtain⟨j,j1,j2,e⟩:=hp.inn (f+x) (by omega) (by omega)
  rw[e]
  have:=hb (j-f) y (by omega) h2 h3
  rwa [show f+(j-f)=j by omega]at this⟩
theorem oM {f n:Nat} {m:List α} (h:jO o d f n 0 m):Oo o d f (f+n) m:=h.srt
/-! Parts -/
structure wE (o:α→α→Int) (d:α) (a b i j:Nat) (m:List α):Prop where
 lo:∀x,a<x→x<i→o (m.getD x d) (m.getD a d)<0
 hi:∀x,j<x→x<b→o (m.getD a d) (m.getD x d)<0
theorem Xh {a b i j:Nat} {m:List α} (h:wE o d a b i j m) (hai:a<i) (hij:i<j) (hj:j<b) (hb:b≤m.length) (h1:o (m.getD a d) (m.getD i d)<0) (h2:o (m.getD j d) (m.getD a d)<0):wE o d a b (i+1) (j-1) (CH d m i j):=by
 have hg:=H3 (d:=d) (l:=m) (i:=i) (j:=j) (by omega) (by omega)
 refine⟨fun x x1 x2=>?_,fun x x1 x2=>?_⟩
 ·rw[hg x,hg a,if_neg (show ¬x=j by omega),if_neg (show ¬a=j by omega),if_neg (show ¬a=i by omega)]
  by_cases e:x=i
  ·rw[if_pos e];exact h2
  ·rw[if_neg e];exact h.lo x x1 (by omega)
 ·rw[hg x,hg a,if_neg (show ¬a=j by omega),if_neg (show ¬a=i by omega)]
  by_cases e:x=j
  ·rw[if_pos e];exact h1
  ·rw[if_neg e,if_neg (by omega)]
   exact h.hi x (by omega) x2
structure kR (o:α→α→Int) (d:α) (a b p:Nat) (m:List α):Prop where
 l:a≤p
 r:p<b
 lo:∀x,a≤x→x<p→o (m.getD x d) (m.getD p d)<0
 hi:∀x,p<x→x<b→o (m.getD p d) (m.getD x d)<0
theorem fW {a b j:Nat} {m:List α} (h:wE o d a b (j+1) j m) (haj:a≤j) (hj:j<b) (hb:b≤m.length):kR o d a b j (CH d m j a):=by
 have hg:=H3 (d:=d) (l:=m) (i:=j) (j:=a) (by omega) (by omega)
 refine⟨haj,hj,fun x x1 x2=>?_,fun x x1 x2=>?_⟩
 ·rw[hg x,hg j,if_neg (show ¬j=a by omega),if_pos rfl]
  by_cases e:x=a
  ·rw[if_pos e];exact h.lo j (by omega) (by omega)
  ·rw[if_neg e,if_neg (by omega)]
   exact h.lo x (by omega) (by omega)
 ·rw[hg x,hg j,if_neg (show ¬x=a by omega),if_neg (show ¬x=j by omega)]
  by_cases e:j=a
  ·rw[if_pos e];rw[e];exact h.hi x (by omega) x2
  ·rw[if_neg e,if_pos rfl];exact h.hi x (by omega) x2
/-! The whole -/
structure jR (o:α→α→Int) (d:α) (a0 b0 a b:Nat) (m:List α):Prop where
 s1:Oo o d a0 a m
 s2:Oo o d b b0 m
 c1:∀x y,a0≤x→x<a→a≤y→y<b0→o (m.getD x d) (m.getD y d)<0
 c2:∀x y,a0≤x→x<b→b≤y→y<b0→o (m.getD x d) (m.getD y d)<0
 ab:a0≤a∧a≤b∧b≤b0
theorem jS {a b:Nat} (hab:a≤b) (m:List α):jR o d a b a b m:=⟨fun i j h1 h2 h3=>by omega,fun i j h1 h2 h3=>by omega,fun x y h1 h2=>by omega,fun x y h1 h2 h3 h4=>by omega,by omega⟩
theorem jR.pin {a0 b0 a b:Nat} {m r:List α} (h:jR o d a0 b0 a b m) (hp:Dq d a b m r):jR o d a0 b0 a b r:=by
 obtain⟨q1,q2,q3⟩:=h.ab
 have key:∀(P:α→Prop) (lo hi:Nat),lo≤a→b≤hi→(∀y,lo≤y→y<hi→P (m.getD y d))→∀y,lo≤y→y<hi→P (r.getD y d):=fun P lo hi h1 h2 hm y y1 y2=>by
  obtain⟨j,j1,j2,e⟩:=(hp.mono h1 h2).inn y y1 y2
  rw[e];exact hm j j1 j2
 refine⟨Ld h.s1 fun k k1 k2=>hp.out k (by omega),Ld h.s2 fun k k1 k2=>hp.out k (by omega),fun x y x1 x2 y1 y2=>?_,fun x y x1 x2 y1 y2=>?_,h.ab⟩
 ·rw[hp.out x (by omega)]
  exact key (fun z=>o (m.getD x d) z<0) a b0 (Nat.le_refl _) q3 (fun y y1 y2=>h.c1 x y x1 x2 y1 y2) y y1 y2
 ·rw[hp.out y (by omega)]
  exact key (fun z=>o z (m.getD y d)<0) a0 b q1 (Nat.le_refl _) (fun x x1 x2=>h.c2 x y x1 x2 y1 y2) x x1 x2
theorem jR.done {a0 b0 a b:Nat} {m:List α} (h:jR o d a0 b0 a b m) (hs:Oo o d a b m):Oo o d a0 b0 m:=by
 obtain⟨q1,q2,q3⟩:=h.ab
 intro i j h1 h2 h3
 by_cases hi:i<a
 ·by_cases hj:j<a
  ·exact h.s1 i j h1 h2 hj
  ·exact h.c1 i j h1 hi (by omega) h3
 ·by_cases hj:j<b
  ·exact hs i j (by omega) h2 hj
  ·by_cases hib:i<b
   ·exact h.c2 i j h1 hib (by omega) h3
   ·exact h.s2 i j (by omega) h2 h3
theorem jR.left (so:SO o) {a0 b0 a b p:Nat} {m:List α} (h:jR o d a0 b0 a b m) (hp:kR o d a b p m) (hs:Oo o d a p m):jR o d a0 b0 (p+1) b m:=by
 obtain⟨q1,q2,q3⟩:=h.ab
 have hl:=hp.l
 have hr:=hp.r
 refine⟨fun i j h1 h2 h3=>?_,h.s2,fun x y x1 x2 y1 y2=>?_,h.c2,by omega⟩
 ·by_cases hi:i<a
  ·by_cases hj:j<a
   ·exact h.s1 i j h1 h2 hj
   ·exact h.c1 i j h1 hi (by omega) (by omega)
  ·by_cases hj:j=p
   ·rw[hj];exact hp.lo i (by omega) (by omega)
   ·exact hs i j (by omega) h2 (by omega)
 ·by_cases hx:x<a
  ·exact h.c1 x y x1 hx (by omega) y2
  ·by_cases hy:y<b
   ·by_cases hxp:x=p
    ·rw[hxp];exact hp.hi y (by omega) hy
    ·exact so.trans (hp.lo x (by omega) (by omega)) (hp.hi y (by omega) hy)
   ·exact h.c2 x y x1 (by omega) (by omega) y2
theorem jR.right (so:SO o) {a0 b0 a b p:Nat} {m:List α} (h:jR o d a0 b0 a b m) (hp:kR o d a b p m) (hs:Oo o d (p+1) b m):jR o d a0 b0 a p m:=by
 obtain⟨q1,q2,q3⟩:=h.ab
 have hl:=hp.l
 have hr:=hp.r
 refine⟨h.s1,fun i j h1 h2 h3=>?_,fun x y x1 x2 y1 y2=>h.c1 x y x1 x2 y1 y2,fun x y x1 x2 y1 y2=>?_,by omega⟩
 ·by_cases hj:j<b
  ·by_cases hi:i=p
   ·rw[hi];exact hp.hi j (by omega) hj
   ·exact hs i j (by omega) h2 hj
  ·by_cases hib:i<b
   ·exact h.c2 i j (by omega) hib (by omega) h3
   ·exact h.s2 i j (by omega) h2 h3
 ·by_cases hy:y<b
  ·by_cases hx:x<a
   ·exact h.c1 x y x1 hx (by omega) y2
   ·by_cases hyp:y=p
    ·rw[hyp];exact hp.lo x (by omega) x2
    ·exact so.trans (hp.lo x (by omega) x2) (hp.hi y (by omega) hy)
  ·exact h.c2 x y x1 (by omega) (by omega) y2
theorem kR.pinL {a b p:Nat} {m r:List α} (h:kR o d a b p m) (hp:Dq d a p m r):kR o d a b p r:=by
 have hl:=h.l
 have hr:=h.r
 refine⟨hl,hr,fun x x1 x2=>?_,fun x x1 x2=>?_⟩
 ·rw[hp.out p (by omega)]
  obtain⟨j,j1,j2,e⟩:=hp.inn x x1 x2
  rw[e];exact h.lo j j1 j2
 ·rw[hp.out p (by omega),hp.out x (by omega)]
  exact h.hi x x1 x2
theorem kR.pinR {a b p:Nat} {m r:List α} (h:kR o d a b p m) (hp:Dq d (p+1) b m r):kR o d a b p r:=by
 have hl:=h.l
 have hr:=h.r
 refine⟨hl,hr,fun x x1 x2=>?_,fun x x1 x2=>?_⟩
 ·rw[hp.out p (by omega),hp.out x (by omega)]
  exact h.lo x x1 x2
 ·rw[hp.out p (by omega)]
  obtain⟨j,j1,j2,e⟩:=hp.inn x (by omega) x2
  rw[e];exact h.hi j (by omega) j2
def Bf (o:α→α→Int) (d:α) (a b:Nat) (m:List α):Prop:=a=0∨∀y,a≤y→y<b→o (m.getD (a-1) d) (m.getD y d)<0
theorem Bf.pin {a b:Nat} {m r:List α} (h:Bf o d a b m) (hp:Dq d a b m r):Bf o d a b r:=by
 rcases h with h|h
 ·exact .inl h
 ·by_cases h0:a=0
  ·exact .inl h0
  ·right
   intro y y1 y2
   rw[hp.out (a-1) (by omega)]
   obtain⟨j,j1,j2,e⟩:=hp.inn y y1 y2
   rw[e];exact h j j1 j2
theorem Bf.sub {a b b':Nat} {m:List α} (h:Bf o d a b m) (hb:b'≤b):Bf o d a b' m:=h.imp id fun h y y1 y2=>h y y1 (by omega)
theorem kR.bf {a b p:Nat} {m:List α} (h:kR o d a b p m):Bf o d (p+1) b m:=.inr fun y y1 y2=>by
 rw[show p+1-1=p by omega]
 exact h.hi y (by omega) y2
end
end
/- The sort of arcs: insertion sort. -/
section
attribute [local go_sem] BN
def Bu (a b:Int×Int):Int:=FJ a.1 b.1
theorem B3:SO Bu:=⟨fun a b=>by unfold Bu FJ;(repeat' split)<;>omega,fun {a b c} h1 h2=>by
 unfold Bu FJ at *
 (repeat' split at h1)<;>(repeat' split at h2)<;>(repeat' split)<;>omega⟩
theorem vD (l:List (Int×Int)) (hl:l.length≤100000) (hD:YK Bu (0,0) l) (a b:Nat) (ha0:a≤100000) (hb:b≤l.length):BO Tryz.prog 166 [.sr 1000000 BC 0 l.length,.p T3 (a:Int),.p T3 (b:Int),.fn 116] [(1000000,.arr 53 BC l)] [1000000] (fun res objs'=>res=.raw (.tuple #[])∧∃r,objs'=[(1000000,.arr 53 BC r)]∧Dq (0,0) a b l r∧Oo Bu (0,0) a b r):=by
 refine BL Tryz.func166 (by kernel_rfl) rfl Tryz.ntmps166 (by simp only[List.length_cons,List.length_nil];omega) (by kernel_rfl) rfl rfl (AF [(116,BN)]) (AD Eb AI) ?_
 intro w0 K O0 ρ0 hc hok1 hok2
 simp only[Al]
 repeat'(first|exact trivial|refine eS rfl ?_|refine AB ?_|refine rX [0,1,2,3,8,9,14,34] hc ?_ ?_|refine rC ?_ ?_<;>intro AA<;>try(cases AA;done))
 ·omega
 ·refine AJ (ι:={s:Nat×List (Int×Int)//a+1≤s.1∧(s.1=a+1∨s.1≤b)∧Dq (0,0) a b l s.2∧Oo Bu (0,0) a s.1 s.2}) (fun s=>⟨[(0,.sr 1000000 BC 0 l.length),(1,.p T3 (a:Int)),(2,.p T3 (b:Int)),(3,.fn 116),(8,.p (.int .i64) (s.1.1:Int))],[(1000000,.arr 53 BC s.1.2)]⟩) (fun s=>b-s.1.1) ⟨(a+1,l),Nat.le_refl _,.inl rfl,Dq.refl a b l,Vc a l⟩ (AC [(1000000,.nm 1000000)] rfl rfl ?_ ?_) (fun s=>?_)
  ·first|exact eN|refine eM ?_
  ·first|exact eN|refine eM ?_
  ·obtain⟨⟨i,m⟩,hi1,hi2,hp,hs⟩:=s
   simp only at hi1 hi2 hp hs ⊢
   have hml:=hp.len
   repeat'(first|exact trivial|refine eS rfl ?_|refine AB ?_|refine rX [0,1,2,3,8,9,14,34] hc ?_ ?_|refine rC ?_ ?_<;>intro AA<;>try(cases AA;done))
   ·have hil:i<b:=by exact eV
    refine AJ (ι:={t:Nat×List (Int×Int)//a≤t.1∧t.1≤i∧Dq (0,0) a b l t.2∧ZW Bu (0,0) a i t.1 t.2}) (fun t=>⟨[(0,.sr 1000000 BC 0 l.length),(1,.p T3 (a:Int)),(2,.p T3 (b:Int)),(3,.fn 116),(8,.p (.int .i64) (i:Int)),(9,.p (.int .i64) (t.1.1:Int))],[(1000000,.arr 53 BC t.1.2)]⟩) (fun t=>t.1.1) ⟨(i,m),by omega,Nat.le_refl i,hp,ZX hs⟩ (AC [(1000000,.nm 1000000)] rfl rfl ?_ ?_) (fun t=>?_)
    ·first|exact eN|refine eM ?_
    ·first|exact eN|refine eM ?_
    ·obtain⟨⟨j,c⟩,ha,hj,hcp,hcs⟩:=t
     simp only at ha hj hcp hcs ⊢
     have hcl:=hcp.len
     have hcD:=hD.perm B3 hcp.perm
     repeat'(first|exact trivial|refine eS rfl ?_|refine AB ?_|refine rX [0,1,2,3,8,9,14,34] hc ?_ ?_)
     ·dsimp only[Ty.den]at *
      exact⟨fun _=>by omega,fun _=>⟨by omega,by omega⟩,fun _=>⟨by omega,by omega⟩⟩
     ·have ej:a<j→((j:Int)-1).toNat=j-1:=fun _=>by omega
      refine DV (by simp only[go_sem,Nat.reduceEqDiff,reduceCtorEq,Nat.reduceAdd,Nat.reduceSub,Nat.reduceMul,Nat.reduceLeDiff,Nat.reduceLT,Int.reduceLE,Int.reduceToNat,Int.reduceNeg,↓reduceIte];rfl) ?_ ?_
      ·intro hc2
       simp only[Bool.and_eq_true,decide_eq_true_eq]at hc2
       have hj0:a<j:=by omega
       have hlt:Bu (c.getD j (0,0)) (c.getD ((j:Int)-1).toNat (0,0))<0:=hc2.2
       rw[ej hj0]at hlt
       have hsw:CH (0,0) c j (j-1)=(c.set j (c.getD (j-1) (0,0))).set (j-1) (c.getD j (0,0)):=rfl
       repeat'(first|exact trivial|refine eS rfl ?_|refine AB ?_|refine rP [0,1,2,3,8,9,14,34] hc ?_ ?_|fail)
       (refine Cp drawsAny hc 16 [([0,1,5,6,7,8,9,10,11,12,13,14],15)] [2,3,4] (by kernel_rfl) (RW ?_ ?_);(next=>exact CJ);refine Sx hc [] ?_ ?_;(next=>exact CJ);refine Sm [0,1,2,3,8,9,14,34] hc ?_ ?_ ?_;(next=>exact CJ);(next=>exact CJ))
       rw[ej hj0]
       repeat'(first|exact trivial|refine eS rfl ?_|refine AB ?_|refine rX [0,1,2,3,8,9,14,34] hc ?_ ?_|refine rC ?_ ?_<;>intro AA<;>try(cases AA;done))
       ·dsimp only[Ty.den]at *
        omega
       ·refine⟨⟨(j-1,CH (0,0) c j (j-1)),by simp only;omega,by simp only;omega,hcp.trans (Dq.swap c (by omega) (by omega) (by omega) (by omega) (by omega)),UR hcs hj0 hj (by omega) hlt⟩,by simp only;omega,AC [(1000000,.nm 1000000)] rfl rfl ?_ ?_⟩
        ·simp only
         rw[hsw]
         first|exact eN|refine eM ?_
        ·simp only
         rw[show ((j-1:Nat):Int)=(j:Int)-1 by omega]
         first|exact eN|refine eM ?_
      ·intro hc2
       have hd:j=a∨Bu (c.getD (j-1) (0,0)) (c.getD j (0,0))<0:=by
        by_cases hj0:j=a
        ·exact .inl hj0
        ·right
         simp only[Bool.and_eq_false_iff,decide_eq_false_iff_not]at hc2
         rw[ej (by omega)]at hc2
         rcases hc2 with h|h
         ·omega
         ·exact hcD.lt B3 (by omega) (by omega) (by omega) h
       repeat'(first|exact trivial|refine eS rfl ?_|refine AB ?_|refine rX [0,1,2,3,8,9,14,34] hc ?_ ?_|refine rC ?_ ?_<;>intro AA<;>try(cases AA;done))
       ·exact eV
       ·refine⟨⟨(i+1,c),by simp only;omega,.inr hil,hcp,ST B3 hcs ha hj hd⟩,by simp only;omega,AC [(1000000,.nm 1000000)] rfl rfl ?_ ?_⟩
        ·first|exact eN|refine eM ?_
        ·first|exact eN|refine eM ?_
   ·have hib:b≤i:=by exact eV
    exact AU hc [] rfl (.inr rfl) (.raw (.tuple #[])) rfl ⟨rfl,m,rfl,hp,fun x y h1 h2 h3=>hs x y h1 h2 (by omega)⟩
end
/- The sort of arcs: other parts. -/
section
attribute [local go_sem] BN
theorem vE (l:List (Int×Int)) (hl:l.length≤100000) (a b:Nat) (hab:a<b) (hb:b≤l.length):BO Tryz.prog 170 [.sr 1000000 BC 0 l.length,.p T3 (a:Int),.p T3 (b:Int),.fn 116] [(1000000,.arr 53 BC l)] [1000000] (fun res objs'=>res=.raw (.tuple #[])∧∃r,objs'=[(1000000,.arr 53 BC r)]∧Dq (0,0) a b l r):=by
 refine BL Tryz.func170 (by kernel_rfl) rfl Tryz.ntmps170 (by simp only[List.length_cons,List.length_nil];omega) (by kernel_rfl) rfl rfl (AF []) AI ?_
 intro w0 K O0 ρ0 hc hok1 hok2
 simp only[Al]
 repeat'(first|exact trivial|refine eS rfl ?_|refine AB ?_|refine rX [0,1,2,8,9,15] hc ?_ ?_|refine rC ?_ ?_<;>intro AA<;>try(cases AA;done))
 ·omega
 ·rw[show (b:Int)-1=((b-1:Nat):Int) by omega]
  refine AJ (ι:={s:Nat×Nat×List (Int×Int)//a≤s.1∧s.2.1<b∧Dq (0,0) a b l s.2.2}) (fun s=>⟨[(0,.sr 1000000 BC 0 l.length),(8,.p (.int .i64) (s.1.1:Int)),(9,.p (.int .i64) (s.1.2.1:Int))],[(1000000,.arr 53 BC s.1.2.2)]⟩) (fun s=>s.1.2.1-s.1.1) ⟨(a,b-1,l),Nat.le_refl _,by simp only;omega,Dq.refl a b l⟩ (AC [(1000000,.nm 1000000)] rfl rfl ?_ ?_) (fun s=>?_)
  ·first|exact eN|refine eM ?_
  ·first|exact eN|refine eM ?_
  ·obtain⟨⟨i,j,m⟩,hi,hj,hp⟩:=s
   simp only at hi hj hp ⊢
   have hml:=hp.len
   repeat'(first|exact trivial|refine eS rfl ?_|refine AB ?_|refine rX [0,1,2,8,9,15] hc ?_ ?_)
   refine rC (fun AA=>?_) (fun AA=>?_)
   ·repeat'(first|exact trivial|refine eS rfl ?_|refine AB ?_|refine rP [0,1,2,8,9,15] hc ?_ ?_|fail)
    have hij:i<j:=by omega
    have hsw:CH (0,0) m i j=(m.set i (m.getD j (0,0))).set j (m.getD i (0,0)):=rfl
    (refine Cp drawsAny hc 14 [([0,1,4,5,6,7,8,9,10,11,12],13)] [2,3] (by kernel_rfl) (RW ?_ ?_);(next=>exact CJ);refine Sx hc [] ?_ ?_;(next=>exact CJ);refine Sm [0,1,2,8,9,15] hc ?_ ?_ ?_;(next=>exact CJ);(next=>exact CJ))
    repeat'(first|exact trivial|refine eS rfl ?_|refine AB ?_|refine rX [0,1,2,8,9,15] hc ?_ ?_|refine rC ?_ ?_<;>intro AA<;>try(cases AA;done))
    ·omega
    ·omega
    ·refine⟨⟨(i+1,j-1,CH (0,0) m i j),by simp only;omega,by simp only;omega,hp.trans (Dq.swap m (by omega) (by omega) (by omega) (by omega) (by omega))⟩,by simp only;omega,AC [(1000000,.nm 1000000)] rfl rfl ?_ ?_⟩
     ·simp only
      rw[hsw]
      first|exact eN|refine eM ?_
     ·simp only
      rw[show ((j-1:Nat):Int)=(j:Int)-1 by omega]
      first|exact eN|refine eM ?_
   ·repeat'(first|exact trivial|refine eS rfl ?_|refine AB ?_|refine rX [0,1,2,8,9,15] hc ?_ ?_|refine rC ?_ ?_<;>intro AA<;>try(cases AA;done))
    exact AU hc [] rfl (.inr rfl) (.raw (.tuple #[])) rfl ⟨rfl,m,rfl,hp⟩
theorem Xi (l:List (Int×Int)) (hl:l.length≤100000) (hD:YK Bu (0,0) l) (lo hi f:Nat) (hlo:lo≤100000) (hf:f+hi≤l.length) (hX:wD Bu (0,0) f hi lo lo l):BO Tryz.prog 178 [.sr 1000000 BC 0 l.length,.p T3 (lo:Int),.p T3 (hi:Int),.p T3 (f:Int),.fn 116] [(1000000,.arr 53 BC l)] [1000000] (fun res objs'=>res=.raw (.tuple #[])∧∃r,objs'=[(1000000,.arr 53 BC r)]∧Dq (0,0) f (f+hi) l r∧Hp Bu (0,0) f hi lo r):=by
 refine BL Tryz.func178 (by kernel_rfl) rfl Tryz.ntmps178 (by simp only[List.length_cons,List.length_nil];omega) (by kernel_rfl) rfl rfl (AF [(116,BN)]) (AD Eb AI) ?_
 intro w0 K O0 ρ0 hc hok1 hok2
 simp only[Al]
 repeat'(first|exact trivial|refine eS rfl ?_|refine AB ?_|refine rX [0,1,2,3,4,10,11,18,40,58] hc ?_ ?_|refine rC ?_ ?_<;>intro AA<;>try(cases AA;done))
 refine AJ (ι:={s:Nat×List (Int×Int)//s.1≤lo+hi∧Dq (0,0) f (f+hi) l s.2∧wD Bu (0,0) f hi lo s.1 s.2}) (fun s=>⟨[(0,.sr 1000000 BC 0 l.length),(2,.p T3 (hi:Int)),(3,.p T3 (f:Int)),(4,.fn 116),(10,.p (.int .i64) (s.1.1:Int))],[(1000000,.arr 53 BC s.1.2)]⟩) (fun s=>lo+hi-s.1.1) ⟨(lo,l),by omega,Dq.refl _ _ l,hX⟩ (AC [(1000000,.nm 1000000)] rfl rfl ?_ ?_) (fun s=>?_)
 ·first|exact eN|refine eM ?_
 ·first|exact eN|refine eM ?_
 ·obtain⟨⟨root,m⟩,hr,hp,hx⟩:=s
  simp only at hr hp hx ⊢
  have hml:=hp.len
  have hmD:=hD.perm B3 hp.perm
  repeat'(first|exact trivial|refine eS rfl ?_|refine AB ?_|refine rX [0,1,2,3,4,10,11,18,40,58] hc ?_ ?_)
  ·omega
  ·refine rC (fun AA=>?_) (fun AA=>?_)
   ·have hl:hi≤2*root+1:=by omega
    repeat'(first|exact trivial|refine eS rfl ?_|refine AB ?_|refine rX [0,1,2,3,4,10,11,18,40,58] hc ?_ ?_|refine rC ?_ ?_<;>intro AA<;>try(cases AA;done))
    exact AU hc [] rfl (.inr rfl) (.raw (.tuple #[])) rfl ⟨rfl,m,rfl,hp,oL hx hl⟩
   ·have hl:2*root+1<hi:=by omega
    have e1:((f:Int)+(2*(root:Int)+1)).toNat=f+(2*root+1):=by omega
    have e2:((f:Int)+(2*(root:Int)+1+1)).toNat=f+(2*root+2):=by omega
    have e3:((f:Int)+(2*(root:Int)+1)+1).toNat=f+(2*root+2):=by omega
    have e4:((f:Int)+(root:Int)).toNat=f+root:=by omega
    repeat'(first|exact trivial|refine eS rfl ?_|refine AB ?_|refine rX [0,1,2,3,4,10,11,18,40,58] hc ?_ ?_)
    ·dsimp only[Ty.den]
     exact⟨by omega,fun _=>by omega,fun _=>by omega,fun _=>by omega,fun _=>by omega,fun _=>by omega⟩
    ·refine DV (by simp only[go_sem,Nat.reduceEqDiff,reduceCtorEq,Nat.reduceAdd,Nat.reduceSub,Nat.reduceMul,Nat.reduceLeDiff,Nat.reduceLT,Int.reduceLE,Int.reduceToNat,Int.reduceNeg,↓reduceIte];rfl) ?_ ?_
     ·intro hc2
      simp only[Bool.and_eq_true,decide_eq_true_eq]at hc2
      obtain⟨hh,hc2⟩:=hc2
      have hlt:Bu (m.getD (f+(2*root+1)) (0,0)) (m.getD (f+(2*root+2)) (0,0))<0:=by rw[←e1,←e3];exact hc2
      have hch:2*root+2<hi:=by omega
      have hs:∀c,(c=2*root+1∨c=2*root+2)→c<hi→c≠2*root+2→Bu (m.getD (f+c) (0,0)) (m.getD (f+(2*root+2)) (0,0))<0:=fun c h1 h2 h3=>by
       rw[show c=2*root+1 by omega];exact hlt
      repeat'(first|exact trivial|refine eS rfl ?_|refine AB ?_|refine rX [0,1,2,3,4,10,11,18,40,58] hc ?_ ?_)
      ·omega
      ·exact CJ
      ·refine DV (by simp only[go_sem,Nat.reduceEqDiff,reduceCtorEq,Nat.reduceAdd,Nat.reduceSub,Nat.reduceMul,Nat.reduceLeDiff,Nat.reduceLT,Int.reduceLE,Int.reduceToNat,Int.reduceNeg,↓reduceIte];rfl) ?_ ?_
       ·intro hc3
        simp only[Bool.not_eq_true',decide_eq_false_iff_not]at hc3
        rw[e4,e2]at hc3
        have hst:=hmD.lt B3 (i:=f+root) (j:=f+(2*root+2)) (by omega) (by omega) (by omega) hc3
        repeat'(first|exact trivial|refine eS rfl ?_|refine AB ?_|refine rX [0,1,2,3,4,10,11,18,40,58] hc ?_ ?_|refine rC ?_ ?_<;>intro AA<;>try(cases AA;done))
        exact AU hc [] rfl (.inl rfl) (.raw (.tuple #[])) rfl ⟨rfl,m,rfl,hp,Xe B3 hx (.inr rfl) hst hs⟩
       ·intro hc3
        simp only[Bool.not_eq_false',decide_eq_true_eq]at hc3
        rw[e4,e2]at hc3
        have hsw:CH (0,0) m (f+root) (f+(2*root+2))=(m.set (f+root) (m.getD (f+(2*root+2)) (0,0))).set (f+(2*root+2)) (m.getD (f+root) (0,0)):=rfl
        repeat'(first|exact trivial|refine eS rfl ?_|refine AB ?_|refine rP [0,1,2,3,4,10,11,18,40,58] hc ?_ ?_|fail)
        (refine Cp drawsAny hc 22 [([0,1,2,3,8,9,10,11,12,13,14,15,16,17,18,19,20],21)] [4,5,6,7] (by kernel_rfl) (RW ?_ ?_);(next=>exact CJ);refine Sx hc [] ?_ ?_;(next=>exact CJ);refine Sm [0,1,2,3,4,10,11,18,40,58] hc ?_ ?_ ?_;(next=>exact CJ);(next=>exact CJ))
        rw[e4,e2]
        repeat'(first|exact trivial|refine eS rfl ?_|refine AB ?_|refine rX [0,1,2,3,4,10,11,18,40,58] hc ?_ ?_|refine rC ?_ ?_<;>intro AA<;>try(cases AA;done))
        refine⟨⟨(2*root+2,CH (0,0) m (f+root) (f+(2*root+2))),by simp only;omega,hp.trans (Dq.swap m (by omega) (by omega) (by omega) (by omega) (by omega)),Xf hx hch (by omega) (.inr rfl) hc3 hs⟩,by simp only;omega,AC [(1000000,.nm 1000000)] rfl rfl ?_ ?_⟩
        ·simp only
         rw[hsw]
         first|exact eN|refine eM ?_
        ·simp only
         rw[show ((2*root+2:Nat):Int)=2*(root:Int)+1+1 by omega]
         first|exact eN|refine eM ?_
     ·intro hc2
      have hs:∀c,(c=2*root+1∨c=2*root+2)→c<hi→c≠2*root+1→Bu (m.getD (f+c) (0,0)) (m.getD (f+(2*root+1)) (0,0))<0:=fun c h1 h2 h3=>by
       simp only[Bool.and_eq_false_iff,decide_eq_false_iff_not]at hc2
       have hc:c=2*root+2:=by omega
       subst hc
       rcases hc2 with h|h
       ·omega
       ·rw[e1,e3]at h
        exact hmD.lt B3 (by omega) (by omega) (by omega) h
      repeat'(first|exact trivial|refine eS rfl ?_|refine AB ?_|refine rX [0,1,2,3,4,10,11,18,40,58] hc ?_ ?_)
      ·exact CJ
      ·refine DV (by simp only[go_sem,Nat.reduceEqDiff,reduceCtorEq,Nat.reduceAdd,Nat.reduceSub,Nat.reduceMul,Nat.reduceLeDiff,Nat.reduceLT,Int.reduceLE,Int.reduceToNat,Int.reduceNeg,↓reduceIte];rfl) ?_ ?_
       ·intro hc3
        simp only[Bool.not_eq_true',decide_eq_false_iff_not]at hc3
        rw[e4,e1]at hc3
        have hst:=hmD.lt B3 (i:=f+root) (j:=f+(2*root+1)) (by omega) (by omega) (by omega) hc3
        repeat'(first|exact trivial|refine eS rfl ?_|refine AB ?_|refine rX [0,1,2,3,4,10,11,18,40,58] hc ?_ ?_|refine rC ?_ ?_<;>intro AA<;>try(cases AA;done))
        exact AU hc [] rfl (.inl rfl) (.raw (.tuple #[])) rfl ⟨rfl,m,rfl,hp,Xe B3 hx (.inl rfl) hst hs⟩
       ·intro hc3
        simp only[Bool.not_eq_false',decide_eq_true_eq]at hc3
        rw[e4,e1]at hc3
        have hsw:CH (0,0) m (f+root) (f+(2*root+1))=(m.set (f+root) (m.getD (f+(2*root+1)) (0,0))).set (f+(2*root+1)) (m.getD (f+root) (0,0)):=rfl
        repeat'(first|exact trivial|refine eS rfl ?_|refine AB ?_|refine rP [0,1,2,3,4,10,11,18,40,58] hc ?_ ?_|fail)
        (refine Cp drawsAny hc 22 [([0,1,2,3,8,9,10,11,12,13,14,15,16,17,18,19,20],21)] [4,5,6,7] (by kernel_rfl) (RW ?_ ?_);(next=>exact CJ);refine Sx hc [] ?_ ?_;(next=>exact CJ);refine Sm [0,1,2,3,4,10,11,18,40,58] hc ?_ ?_ ?_;(next=>exact CJ);(next=>exact CJ))
        rw[e4,e1]
        repeat'(first|exact trivial|refine eS rfl ?_|refine AB ?_|refine rX [0,1,2,3,4,10,11,18,40,58] hc ?_ ?_|refine rC ?_ ?_<;>intro AA<;>try(cases AA;done))
        refine⟨⟨(2*root+1,CH (0,0) m (f+root) (f+(2*root+1))),by simp only;omega,hp.trans (Dq.swap m (by omega) (by omega) (by omega) (by omega) (by omega)),Xf hx hl (by omega) (.inl rfl) hc3 hs⟩,by simp only;omega,AC [(1000000,.nm 1000000)] rfl rfl ?_ ?_⟩
        ·simp only
         rw[hsw]
         first|exact eN|refine eM ?_
        ·simp only
         rw[show ((2*root+1:Nat):Int)=2*(root:Int)+1 by omega]
         first|exact eN|refine eM ?_
end
/- The sort of arcs: by a heap. -/
section
attribute [local go_sem] BN
theorem oO (l:List (Int×Int)) (hl:l.length≤100000) (hD:YK Bu (0,0) l) (a b:Nat) (hab:a≤b) (hb:b≤l.length):BO Tryz.prog 167 [.sr 1000000 BC 0 l.length,.p T3 (a:Int),.p T3 (b:Int),.fn 116] [(1000000,.arr 53 BC l)] [1000000] (fun res objs'=>res=.raw (.tuple #[])∧∃r,objs'=[(1000000,.arr 53 BC r)]∧Dq (0,0) a b l r∧Oo Bu (0,0) a b r):=by
 refine BL Tryz.func167 (by kernel_rfl) rfl Tryz.ntmps167 (by simp only[List.length_cons,List.length_nil];omega) (by kernel_rfl) rfl rfl (AF []) AI ?_
 intro w0 K O0 ρ0 hc hok1 hok2
 simp only[Al]
 obtain⟨n,hn⟩:∃n,b=a+n:=⟨b-a,by omega⟩
 subst hn
 have ek:(((a+n:Nat):Int)-(a:Int)-1).tdiv 2=(((n-1) / 2+1:Nat):Int)-1:=by
  by_cases h0:n=0
  ·subst h0
   rw[show ((a+0:Nat):Int)-(a:Int)-1=-1 by omega]
   decide
  ·rw[Int.tdiv_eq_ediv_of_nonneg (by omega)]
   omega
 have en:((a+n:Nat):Int)-(a:Int)=(n:Int):=by omega
 repeat'(first|exact trivial|refine eS rfl ?_|refine AB ?_|refine rX [0,1,2,3,8,9,10,11,12,21,33] hc ?_ ?_|refine rC ?_ ?_<;>intro AA<;>try(cases AA;done))
 ·omega
 ·rw[ek]
  exact⟨by omega,by decide,by omega⟩
 ·rw[ek,en]
  refine AJ (ι:={s:Nat×List (Int×Int)//s.1≤n+1∧Dq (0,0) a (a+n) l s.2∧Hp Bu (0,0) a n s.1 s.2}) (fun s=>⟨[(0,.sr 1000000 BC 0 l.length),(3,.fn 116),(8,.p T3 (a:Int)),(9,.p (.int .i64) (0:Int)),(10,.p (.int .i64) (n:Int)),(11,.p (.int .i64) ((s.1.1:Int)-1))],[(1000000,.arr 53 BC s.1.2)]⟩) (fun s=>s.1.1) ⟨((n-1) / 2+1,l),by simp only;omega,Dq.refl _ _ l,fun k c h1 h2 h3=>by simp only at h1;omega⟩ (AC [(1000000,.nm 1000000)] rfl rfl ?_ ?_) (fun s=>?_)
  ·first|exact eN|refine eM ?_
  ·first|exact eN|refine eM ?_
  ·obtain⟨⟨k,m⟩,hk,hp,hx⟩:=s
   simp only at hk hp hx ⊢
   have hml:=hp.len
   have hmD:=hD.perm B3 hp.perm
   repeat'(first|exact trivial|refine eS rfl ?_|refine AB ?_|refine rX [0,1,2,3,8,9,10,11,12,21,33] hc ?_ ?_)
   refine rC (fun AA=>?_) (fun AA=>?_)
   ·have hk0:0<k:=by omega
    have key:=Xi m (by omega) hmD (k-1) n a (by omega) (by omega) (jN (by rw[show k-1+1=k by omega];exact hx))
    rw[hml,show ((k-1:Nat):Int)=(k:Int)-1 by omega]at key
    repeat'(first|exact trivial|refine eS rfl ?_|refine AB ?_|refine rX [0,1,2,3,8,9,10,11,12,21,33] hc ?_ ?_)
    refine cP 5 hc ?_ ?_
    ·trivial
    ·refine rM hc (key) [(1000000,.nm 1000000)] [] ?_ ?_ ?_
     ·first|exact eN|refine eM ?_
     ·first|exact eN|refine eM ?_
     ·rintro _ _ ⟨rfl,r,rfl,hpr,hhr⟩
      refine⟨[(1000000,.nm 1000000)],.raw (.tuple #[]),[(1000000,.arr 53 BC r)],rfl,rfl,?_,?_,rfl,rfl,Cm ?_⟩
      ·first|exact eN|refine eM ?_
      ·first|exact eN|refine eM ?_
      ·repeat'(first|exact trivial|refine eS rfl ?_|refine AB ?_|refine rX [0,1,2,3,8,9,10,11,12,21,33] hc ?_ ?_|refine rC ?_ ?_<;>intro AA<;>try(cases AA;done))
       ·omega
       ·refine⟨⟨(k-1,r),by simp only;omega,hp.trans hpr,hhr⟩,by simp only;omega,AC [(1000000,.nm 1000000)] rfl rfl ?_ ?_⟩
        ·simp only
         first|exact eN|refine eM ?_
        ·simp only
         rw[show ((k-1:Nat):Int)=(k:Int)-1 by omega]
         first|exact eN|refine eM ?_
   ·have hk0:k=0:=by omega
    subst hk0
    repeat'(first|exact trivial|refine eS rfl ?_|refine AB ?_|refine rX [0,1,2,3,8,9,10,11,12,21,33] hc ?_ ?_)
    ·omega
    ·refine AJ (ι:={s:Nat×List (Int×Int)//s.1≤n∧Dq (0,0) a (a+n) l s.2∧jO Bu (0,0) a n s.1 s.2}) (fun s=>⟨[(0,.sr 1000000 BC 0 l.length),(3,.fn 116),(8,.p T3 (a:Int)),(9,.p (.int .i64) (0:Int)),(12,.p (.int .i64) ((s.1.1:Int)-1))],[(1000000,.arr 53 BC s.1.2)]⟩) (fun s=>s.1.1) ⟨(n,m),Nat.le_refl _,hp,ZY hx⟩ (AC [(1000000,.nm 1000000)] rfl rfl ?_ ?_) (fun s=>?_)
     ·first|exact eN|refine eM ?_
     ·first|exact eN|refine eM ?_
     ·obtain⟨⟨k,c⟩,hk,hpc,hpi⟩:=s
      simp only at hk hpc hpi ⊢
      have hcl:=hpc.len
      repeat'(first|exact trivial|refine eS rfl ?_|refine AB ?_|refine rX [0,1,2,3,8,9,10,11,12,21,33] hc ?_ ?_)
      refine rC (fun AA=>?_) (fun AA=>?_)
      ·have hk0:0<k:=by omega
       have hpi:jO Bu (0,0) a n (k-1+1) c:=by rw[show k-1+1=k by omega];exact hpi
       obtain⟨q1,q2,q3⟩:=jP B3 hpi (by omega) (by omega)
       have hps:Dq (0,0) a (a+n) c (CH (0,0) c a (a+(k-1))):=Dq.swap c (by omega) (by omega) (by omega) (by omega) (by omega)
       have hsl:=hps.len
       have hsD:=hD.perm B3 (hpc.trans hps).perm
       have e1:((a:Int)+((k:Int)-1)).toNat=a+(k-1):=by omega
       have hsw:CH (0,0) c a (a+(k-1))=(c.set a (c.getD (a+(k-1)) (0,0))).set (a+(k-1)) (c.getD a (0,0)):=rfl
       have key:=Xi (CH (0,0) c a (a+(k-1))) (by omega) hsD 0 (k-1) a (by omega) (by omega) q1
       rw[hsl,hcl,show ((k-1:Nat):Int)=(k:Int)-1 by omega]at key
       repeat'(first|exact trivial|refine eS rfl ?_|refine AB ?_|refine rP [0,1,2,3,8,9,10,11,12,21,33] hc ?_ ?_|fail)
       (refine Cp drawsAny hc 18 [([0,1,6,7,8,9,10,11,12,13,14,15,16],17)] [2,3,4,5] (by kernel_rfl) (RW ?_ ?_);(next=>exact CJ);refine Sx hc [] ?_ ?_;(next=>exact CJ);refine Sm [0,1,2,3,8,9,10,11,12,21,33] hc ?_ ?_ ?_;(next=>exact CJ);(next=>exact CJ))
       rw[e1,←hsw]
       repeat'(first|exact trivial|refine eS rfl ?_|refine AB ?_|refine rP [0,1,2,3,8,9,10,11,12,21,33] hc ?_ ?_|fail)
       refine cP 5 hc ?_ ?_
       ·trivial
       ·refine rM hc (key) [(1000000,.nm 1000000)] [] ?_ ?_ ?_
        ·first|exact eN|refine eM ?_
        ·first|exact eN|refine eM ?_
        ·rintro _ _ ⟨rfl,r,rfl,hpr,hhr⟩
         refine⟨[(1000000,.nm 1000000)],.raw (.tuple #[]),[(1000000,.arr 53 BC r)],rfl,rfl,?_,?_,rfl,rfl,Cm ?_⟩
         ·first|exact eN|refine eM ?_
         ·first|exact eN|refine eM ?_
         ·repeat'(first|exact trivial|refine eS rfl ?_|refine AB ?_|refine rX [0,1,2,3,8,9,10,11,12,21,33] hc ?_ ?_|refine rC ?_ ?_<;>intro AA<;>try(cases AA;done))
          ·omega
          ·refine⟨⟨(k-1,r),by simp only;omega,(hpc.trans hps).trans (hpr.mono (Nat.le_refl _) (by omega)),jQ hpr hhr q2 q3⟩,by simp only;omega,AC [(1000000,.nm 1000000)] rfl rfl ?_ ?_⟩
           ·simp only
            first|exact eN|refine eM ?_
           ·simp only
            rw[show ((k-1:Nat):Int)=(k:Int)-1 by omega]
            first|exact eN|refine eM ?_
      ·have hk0:k=0:=by omega
       subst hk0
       repeat'(first|exact trivial|refine eS rfl ?_|refine AB ?_|refine rX [0,1,2,3,8,9,10,11,12,21,33] hc ?_ ?_|refine rC ?_ ?_<;>intro AA<;>try(cases AA;done))
       exact AU hc [] rfl (.inr rfl) (.raw (.tuple #[])) rfl ⟨rfl,c,rfl,hpc,oM hpi⟩
end
/- The sort of arcs: partition. -/
section
attribute [local go_sem] BN
theorem vF (l:List (Int×Int)) (hl:l.length≤100000) (hD:YK Bu (0,0) l) (a b p:Nat) (hap:a≤p) (hpb:p<b) (hb:b≤l.length):BO Tryz.prog 173 [.sr 1000000 BC 0 l.length,.p T3 (a:Int),.p T3 (b:Int),.p T3 (p:Int),.fn 116] [(1000000,.arr 53 BC l)] [1000000] (fun res objs'=>∃(q:Nat) (w:Bool) (r:List (Int×Int)),res=.tup [.p T3 (q:Int),.p .bool w]∧objs'=[(1000000,.arr 53 BC r)]∧Dq (0,0) a b l r∧kR Bu (0,0) a b q r):=by
 refine BL Tryz.func173 (by kernel_rfl) rfl Tryz.ntmps173 (by simp only[List.length_cons,List.length_nil];omega) (by kernel_rfl) rfl rfl (AF [(116,BN)]) (AD Eb AI) ?_
 intro w0 K O0 ρ0 hc hok1 hok2
 simp only[Al]
 have hp0:Dq (0,0) a b l (CH (0,0) l a p):=Dq.swap l (Nat.le_refl _) (by omega) hap hpb hb
 have hsw:CH (0,0) l a p=(l.set a (l.getD p (0,0))).set p (l.getD a (0,0)):=rfl
 repeat'(first|exact trivial|refine eS rfl ?_|refine AB ?_|refine rP [0,1,2,3,4,10,11,12,13,47,66,71,120,139,144] hc ?_ ?_|fail)
 (refine Cp drawsAny hc 14 [([0,1,4,5,6,7,8,9,10,11,12],13)] [2,3] (by kernel_rfl) (RW ?_ ?_);(next=>exact CJ);refine Sx hc [] ?_ ?_;(next=>exact CJ);refine Sm [0,1,2,3,4,10,11,12,13,47,66,71,120,139,144] hc ?_ ?_ ?_;(next=>exact CJ);(next=>exact CJ))
 rw[←hsw]
 have hmD:=hD.perm B3 hp0.perm
 have hml:=hp0.len
 clear hsw
 generalize CH (0,0) l a p=m at *
 repeat'(first|exact trivial|refine eS rfl ?_|refine AB ?_|refine rP [0,1,2,3,4,10,11,12,13,47,66,71,120,139,144] hc ?_ ?_|fail)
 ·exact CJ
 ·rw[show (a:Int)+1=((a+1:Nat):Int) by omega,show (b:Int)-1=((b-1:Nat):Int) by omega]
  refine AJ (ι:={i:Nat//a<i∧i≤b∧wE Bu (0,0) a b i (b-1) m}) (fun s=>⟨[(0,.sr 1000000 BC 0 l.length),(1,.p T3 (a:Int)),(4,.fn 116),(12,.p (.int .i64) (s.1:Int)),(13,.p (.int .i64) ((b-1:Nat):Int))],[(1000000,.arr 53 BC m)]⟩) (fun s=>b-s.1) ⟨a+1,by omega,by omega,⟨fun x h1 h2=>by omega,fun x h1 h2=>by omega⟩⟩ (AC [(1000000,.nm 1000000)] rfl rfl ?_ ?_) (fun s=>?_)
  ·first|exact eN|refine eM ?_
  ·first|exact eN|refine eM ?_
  ·obtain⟨i,hi1,hi2,hpt⟩:=s
   simp only at hi1 hi2 hpt ⊢
   repeat'(first|exact trivial|refine eS rfl ?_|refine AB ?_|refine rX [0,1,2,3,4,10,11,12,13,47,66,71,120,139,144] hc ?_ ?_)
   ·dsimp only[Ty.den]
    exact⟨fun _=>by omega,fun _=>by omega⟩
   ·refine DV (by simp only[go_sem,Nat.reduceEqDiff,reduceCtorEq,Nat.reduceAdd,Nat.reduceSub,Nat.reduceMul,Nat.reduceLeDiff,Nat.reduceLT,Int.reduceLE,Int.reduceToNat,Int.reduceNeg,↓reduceIte];rfl) ?_ ?_
    ·intro hc2
     simp only[Bool.and_eq_true,decide_eq_true_eq]at hc2
     obtain⟨h1,h2⟩:=hc2
     repeat'(first|exact trivial|refine eS rfl ?_|refine AB ?_|refine rX [0,1,2,3,4,10,11,12,13,47,66,71,120,139,144] hc ?_ ?_)
     ·exact CJ
     ·refine⟨⟨i+1,by omega,by omega,⟨fun x x1 x2=>?_,hpt.hi⟩⟩,by simp only;omega,AC [(1000000,.nm 1000000)] rfl rfl ?_ ?_⟩
      ·by_cases e:x=i
       ·rw[e];exact h2
       ·exact hpt.lo x x1 (by omega)
      ·first|exact eN|refine eM ?_
      ·first|exact eN|refine eM ?_
    ·intro hc2
     have hci:i≤b-1→Bu (m.getD a (0,0)) (m.getD i (0,0))<0:=fun h1=>hmD.lt B3 (by omega) (by omega) (by omega) fun h2=>by
      simp only[Bool.and_eq_false_iff,decide_eq_false_iff_not]at hc2
      rcases hc2 with h|h
      ·omega
      ·exact h h2
     have hi3:i≤b-1+1:=by omega
     repeat'(first|exact trivial|refine eS rfl ?_|refine AB ?_|refine rX [0,1,2,3,4,10,11,12,13,47,66,71,120,139,144] hc ?_ ?_)
     refine AJ (ι:={j:Nat//a≤j∧j<b∧i≤j+1∧wE Bu (0,0) a b i j m}) (fun s=>⟨[(0,.sr 1000000 BC 0 l.length),(1,.p T3 (a:Int)),(4,.fn 116),(12,.p (.int .i64) (i:Int)),(13,.p (.int .i64) (s.1:Int))],[(1000000,.arr 53 BC m)]⟩) (fun s=>s.1) ⟨b-1,by omega,by omega,by omega,hpt⟩ (AC [(1000000,.nm 1000000)] rfl rfl ?_ ?_) (fun s=>?_)
     ·first|exact eN|refine eM ?_
     ·first|exact eN|refine eM ?_
     ·obtain⟨j,hj1,hj2,hij,hpj⟩:=s
      simp only at hj1 hj2 hij hpj ⊢
      clear hc2
      repeat'(first|exact trivial|refine eS rfl ?_|refine AB ?_|refine rX [0,1,2,3,4,10,11,12,13,47,66,71,120,139,144] hc ?_ ?_)
      ·dsimp only[Ty.den]
       exact⟨fun _=>by omega,fun _=>by omega⟩
      ·refine DV (by simp only[go_sem,Nat.reduceEqDiff,reduceCtorEq,Nat.reduceAdd,Nat.reduceSub,Nat.reduceMul,Nat.reduceLeDiff,Nat.reduceLT,Int.reduceLE,Int.reduceToNat,Int.reduceNeg,↓reduceIte];rfl) ?_ ?_
       ·intro hc2
        simp only[Bool.and_eq_true,decide_eq_true_eq,Bool.not_eq_true',decide_eq_false_iff_not]at hc2
        obtain⟨h1,h2⟩:=hc2
        have h2:=hmD.lt B3 (i:=j) (j:=a) (by omega) (by omega) (by omega) h2
        repeat'(first|exact trivial|refine eS rfl ?_|refine AB ?_|refine rX [0,1,2,3,4,10,11,12,13,47,66,71,120,139,144] hc ?_ ?_)
        ·exact CJ
        ·refine⟨⟨j-1,by omega,by omega,by omega,⟨hpj.lo,fun x x1 x2=>?_⟩⟩,by simp only;omega,AC [(1000000,.nm 1000000)] rfl rfl ?_ ?_⟩
         ·by_cases e:x=j
          ·rw[e];exact h2
          ·exact hpj.hi x (by omega) x2
         ·first|exact eN|refine eM ?_
         ·simp only
          rw[show ((j-1:Nat):Int)=(j:Int)-1 by omega]
          first|exact eN|refine eM ?_
       ·intro hc2
        have hcj:i≤j→Bu (m.getD j (0,0)) (m.getD a (0,0))<0:=fun h1=>by
         simp only[Bool.and_eq_false_iff,decide_eq_false_iff_not,Bool.not_eq_false',decide_eq_true_eq]at hc2
         rcases hc2 with h|h
         ·omega
         ·exact h
        repeat'(first|exact trivial|refine eS rfl ?_|refine AB ?_|refine rX [0,1,2,3,4,10,11,12,13,47,66,71,120,139,144] hc ?_ ?_)
        refine rC (fun AA=>?_) (fun AA=>?_)
        ·have hji:i=j+1:=by omega
         subst hji
         have hps:Dq (0,0) a b m (CH (0,0) m j a):=Dq.swap m hj1 hj2 (Nat.le_refl _) (by omega) (by omega)
         have hsw:CH (0,0) m j a=(m.set j (m.getD a (0,0))).set a (m.getD j (0,0)):=rfl
         repeat'(first|exact trivial|refine eS rfl ?_|refine AB ?_|refine rP [0,1,2,3,4,10,11,12,13,47,66,71,120,139,144] hc ?_ ?_|fail)
         (refine Cp drawsAny hc 14 [([0,1,4,5,6,7,8,9,10,11,12],13)] [2,3] (by kernel_rfl) (RW ?_ ?_);(next=>exact CJ);refine Sx hc [] ?_ ?_;(next=>exact CJ);refine Sm [0,1,2,3,4,10,11,12,13,47,66,71,120,139,144] hc ?_ ?_ ?_;(next=>exact CJ);(next=>exact CJ))
         rw[←hsw]
         repeat'(first|exact trivial|refine eS rfl ?_|refine AB ?_|refine rX [0,1,2,3,4,10,11,12,13,47,66,71,120,139,144] hc ?_ ?_|refine rC ?_ ?_<;>intro AA<;>try(cases AA;done))
         exact AU hc [.tmp 10,.tmp 11] rfl (.inl rfl) (.tup [.p T3 (j:Int),.p .bool true]) eT ⟨j,true,_,rfl,rfl,hp0.trans hps,fW hpj hj1 hj2 (by omega)⟩
        ·have hne:i≠j:=fun e=>by
          have q1:=hci (by omega)
          have q2:=hcj (by omega)
          rw[e,B3.anti]at q1
          omega
         have hij2:i<j:=by omega
         have hps:Dq (0,0) a b m (CH (0,0) m i j):=Dq.swap m (by omega) (by omega) hj1 hj2 (by omega)
         have hsw:CH (0,0) m i j=(m.set i (m.getD j (0,0))).set j (m.getD i (0,0)):=rfl
         have hpn:=Xh hpj hi1 hij2 hj2 (by omega) (hci (by omega)) (hcj (by omega))
         repeat'(first|exact trivial|refine eS rfl ?_|refine AB ?_|refine rP [0,1,2,3,4,10,11,12,13,47,66,71,120,139,144] hc ?_ ?_|fail)
         (refine Cp drawsAny hc 14 [([0,1,4,5,6,7,8,9,10,11,12],13)] [2,3] (by kernel_rfl) (RW ?_ ?_);(next=>exact CJ);refine Sx hc [] ?_ ?_;(next=>exact CJ);refine Sm [0,1,2,3,4,10,11,12,13,47,66,71,120,139,144] hc ?_ ?_ ?_;(next=>exact CJ);(next=>exact CJ))
         rw[←hsw]
         have hp1:=hp0.trans hps
         have hmD:=hD.perm B3 hp1.perm
         have hml:=hp1.len
         clear hsw hps hpj hpt hci hcj hc2 hp0
         generalize CH (0,0) m i j=m2 at *
         repeat'(first|exact trivial|refine eS rfl ?_|refine AB ?_|refine rX [0,1,2,3,4,10,11,12,13,47,66,71,120,139,144] hc ?_ ?_)
         ·exact CJ
         ·exact CJ
         ·rw[show (i:Int)+1=((i+1:Nat):Int) by omega,show (j:Int)-1=((j-1:Nat):Int) by omega]
          refine AJ (ι:={s:Nat×Nat×List (Int×Int)//(a<s.1∧s.1≤s.2.1+1)∧(a≤s.2.1∧s.2.1<b)∧Dq (0,0) a b l s.2.2∧wE Bu (0,0) a b s.1 s.2.1 s.2.2}) (fun s=>⟨[(0,.sr 1000000 BC 0 l.length),(1,.p T3 (a:Int)),(4,.fn 116),(12,.p (.int .i64) (s.1.1:Int)),(13,.p (.int .i64) (s.1.2.1:Int))],[(1000000,.arr 53 BC s.1.2.2)]⟩) (fun s=>s.1.2.1+1-s.1.1) ⟨(i+1,j-1,m2),by simp only;omega,by simp only;omega,hp1,hpn⟩ (AC [(1000000,.nm 1000000)] rfl rfl ?_ ?_) (fun s=>?_)
          ·first|exact eN|refine eM ?_
          ·first|exact eN|refine eM ?_
          ·clear hpn hmD hml hp1
           obtain⟨⟨i,j,m⟩,⟨hi1,hi2⟩,⟨hj1,hj2⟩,hp0,hpt⟩:=s
           simp only at hi1 hi2 hj1 hj2 hp0 hpt ⊢
           have hmD:=hD.perm B3 hp0.perm
           have hml:=hp0.len
           repeat'(first|exact trivial|refine eS rfl ?_|refine AB ?_|refine rX [0,1,2,3,4,10,11,12,13,47,66,71,120,139,144] hc ?_ ?_)
           refine AJ (ι:={k:Nat//a<k∧i≤k∧k≤j+1∧wE Bu (0,0) a b k j m}) (fun s=>⟨[(0,.sr 1000000 BC 0 l.length),(1,.p T3 (a:Int)),(4,.fn 116),(12,.p (.int .i64) (s.1:Int)),(13,.p (.int .i64) (j:Int))],[(1000000,.arr 53 BC m)]⟩) (fun s=>j+1-s.1) ⟨i,hi1,Nat.le_refl _,hi2,hpt⟩ (AC [(1000000,.nm 1000000)] rfl rfl ?_ ?_) (fun s=>?_)
           ·first|exact eN|refine eM ?_
           ·first|exact eN|refine eM ?_
           ·obtain⟨k,hk1,hik,hk2,hpk⟩:=s
            simp only at hk1 hk2 hik hpk ⊢
            repeat'(first|exact trivial|refine eS rfl ?_|refine AB ?_|refine rX [0,1,2,3,4,10,11,12,13,47,66,71,120,139,144] hc ?_ ?_)
            ·dsimp only[Ty.den]
             exact⟨fun _=>by omega,fun _=>by omega⟩
            ·refine DV (by simp only[go_sem,Nat.reduceEqDiff,reduceCtorEq,Nat.reduceAdd,Nat.reduceSub,Nat.reduceMul,Nat.reduceLeDiff,Nat.reduceLT,Int.reduceLE,Int.reduceToNat,Int.reduceNeg,↓reduceIte];rfl) ?_ ?_
             ·intro hc2
              simp only[Bool.and_eq_true,decide_eq_true_eq]at hc2
              obtain⟨h1,h2⟩:=hc2
              repeat'(first|exact trivial|refine eS rfl ?_|refine AB ?_|refine rX [0,1,2,3,4,10,11,12,13,47,66,71,120,139,144] hc ?_ ?_)
              ·exact CJ
              ·refine⟨⟨k+1,by omega,by omega,by omega,⟨fun x x1 x2=>?_,hpk.hi⟩⟩,by simp only;omega,AC [(1000000,.nm 1000000)] rfl rfl ?_ ?_⟩
               ·by_cases e:x=k
                ·rw[e];exact h2
                ·exact hpk.lo x x1 (by omega)
               ·first|exact eN|refine eM ?_
               ·first|exact eN|refine eM ?_
             ·intro hc2
              have hci:k≤j→Bu (m.getD a (0,0)) (m.getD k (0,0))<0:=fun h1=>hmD.lt B3 (by omega) (by omega) (by omega) fun h2=>by
               simp only[Bool.and_eq_false_iff,decide_eq_false_iff_not]at hc2
               rcases hc2 with h|h
               ·omega
               ·exact h h2
              repeat'(first|exact trivial|refine eS rfl ?_|refine AB ?_|refine rX [0,1,2,3,4,10,11,12,13,47,66,71,120,139,144] hc ?_ ?_)
              refine AJ (ι:={z:Nat//a≤z∧z≤j∧k≤z+1∧wE Bu (0,0) a b k z m}) (fun s=>⟨[(0,.sr 1000000 BC 0 l.length),(1,.p T3 (a:Int)),(4,.fn 116),(12,.p (.int .i64) (k:Int)),(13,.p (.int .i64) (s.1:Int))],[(1000000,.arr 53 BC m)]⟩) (fun s=>s.1) ⟨j,hj1,Nat.le_refl _,hk2,hpk⟩ (AC [(1000000,.nm 1000000)] rfl rfl ?_ ?_) (fun s=>?_)
              ·first|exact eN|refine eM ?_
              ·first|exact eN|refine eM ?_
              ·obtain⟨z,hz1,hz2,hkz,hpz⟩:=s
               simp only at hz1 hz2 hkz hpz ⊢
               clear hc2
               repeat'(first|exact trivial|refine eS rfl ?_|refine AB ?_|refine rX [0,1,2,3,4,10,11,12,13,47,66,71,120,139,144] hc ?_ ?_)
               ·dsimp only[Ty.den]
                exact⟨fun _=>by omega,fun _=>by omega⟩
               ·refine DV (by simp only[go_sem,Nat.reduceEqDiff,reduceCtorEq,Nat.reduceAdd,Nat.reduceSub,Nat.reduceMul,Nat.reduceLeDiff,Nat.reduceLT,Int.reduceLE,Int.reduceToNat,Int.reduceNeg,↓reduceIte];rfl) ?_ ?_
                ·intro hc2
                 simp only[Bool.and_eq_true,decide_eq_true_eq,Bool.not_eq_true',decide_eq_false_iff_not]at hc2
                 obtain⟨h1,h2⟩:=hc2
                 have h2:=hmD.lt B3 (i:=z) (j:=a) (by omega) (by omega) (by omega) h2
                 repeat'(first|exact trivial|refine eS rfl ?_|refine AB ?_|refine rX [0,1,2,3,4,10,11,12,13,47,66,71,120,139,144] hc ?_ ?_)
                 ·exact CJ
                 ·refine⟨⟨z-1,by omega,by omega,by omega,⟨hpz.lo,fun x x1 x2=>?_⟩⟩,by simp only;omega,AC [(1000000,.nm 1000000)] rfl rfl ?_ ?_⟩
                  ·by_cases e:x=z
                   ·rw[e];exact h2
                   ·exact hpz.hi x (by omega) x2
                  ·first|exact eN|refine eM ?_
                  ·simp only
                   rw[show ((z-1:Nat):Int)=(z:Int)-1 by omega]
                   first|exact eN|refine eM ?_
                ·intro hc2
                 have hcj:k≤z→Bu (m.getD z (0,0)) (m.getD a (0,0))<0:=fun h1=>by
                  simp only[Bool.and_eq_false_iff,decide_eq_false_iff_not,Bool.not_eq_false',decide_eq_true_eq]at hc2
                  rcases hc2 with h|h
                  ·omega
                  ·exact h
                 repeat'(first|exact trivial|refine eS rfl ?_|refine AB ?_|refine rX [0,1,2,3,4,10,11,12,13,47,66,71,120,139,144] hc ?_ ?_)
                 refine rC (fun AA=>?_) (fun AA=>?_)
                 ·have hji:k=z+1:=by omega
                  subst hji
                  have hps:Dq (0,0) a b m (CH (0,0) m z a):=Dq.swap m hz1 (by omega) (Nat.le_refl _) (by omega) (by omega)
                  have hsw:CH (0,0) m z a=(m.set z (m.getD a (0,0))).set a (m.getD z (0,0)):=rfl
                  repeat'(first|exact trivial|refine eS rfl ?_|refine AB ?_|refine rP [0,1,2,3,4,10,11,12,13,47,66,71,120,139,144] hc ?_ ?_|fail)
                  (refine Cp drawsAny hc 14 [([0,1,4,5,6,7,8,9,10,11,12],13)] [2,3] (by kernel_rfl) (RW ?_ ?_);(next=>exact CJ);refine Sx hc [] ?_ ?_;(next=>exact CJ);refine Sm [0,1,2,3,4,10,11,12,13,47,66,71,120,139,144] hc ?_ ?_ ?_;(next=>exact CJ);(next=>exact CJ))
                  rw[←hsw]
                  repeat'(first|exact trivial|refine eS rfl ?_|refine AB ?_|refine rX [0,1,2,3,4,10,11,12,13,47,66,71,120,139,144] hc ?_ ?_|refine rC ?_ ?_<;>intro AA<;>try(cases AA;done))
                  exact AU hc [.tmp 10,.tmp 11] rfl (.inl rfl) (.tup [.p T3 (z:Int),.p .bool false]) eT ⟨z,false,_,rfl,rfl,hp0.trans hps,fW hpz hz1 (by omega) (by omega)⟩
                 ·have hne:k≠z:=fun e=>by
                   have q1:=hci (by omega)
                   have q2:=hcj (by omega)
                   rw[e,B3.anti]at q1
                   omega
                  have hij2:k<z:=by omega
                  have hps:Dq (0,0) a b m (CH (0,0) m k z):=Dq.swap m (by omega) (by omega) hz1 (by omega) (by omega)
                  have hsw:CH (0,0) m k z=(m.set k (m.getD z (0,0))).set z (m.getD k (0,0)):=rfl
                  have hpn:=Xh hpz hk1 hij2 (by omega) (by omega) (hci (by omega)) (hcj (by omega))
                  repeat'(first|exact trivial|refine eS rfl ?_|refine AB ?_|refine rP [0,1,2,3,4,10,11,12,13,47,66,71,120,139,144] hc ?_ ?_|fail)
                  (refine Cp drawsAny hc 14 [([0,1,4,5,6,7,8,9,10,11,12],13)] [2,3] (by kernel_rfl) (RW ?_ ?_);(next=>exact CJ);refine Sx hc [] ?_ ?_;(next=>exact CJ);refine Sm [0,1,2,3,4,10,11,12,13,47,66,71,120,139,144] hc ?_ ?_ ?_;(next=>exact CJ);(next=>exact CJ))
                  rw[←hsw]
                  repeat'(first|exact trivial|refine eS rfl ?_|refine AB ?_|refine rX [0,1,2,3,4,10,11,12,13,47,66,71,120,139,144] hc ?_ ?_)
                  ·exact CJ
                  ·exact CJ
                  ·refine⟨⟨(k+1,z-1,CH (0,0) m k z),by simp only;omega,by simp only;omega,hp0.trans hps,hpn⟩,by simp only;omega,AC [(1000000,.nm 1000000)] rfl rfl ?_ ?_⟩
                   ·first|exact eN|refine eM ?_
                   ·simp only
                    rw[show ((z-1:Nat):Int)=(z:Int)-1 by omega]
                    first|exact eN|refine eM ?_
end
/- The sort of arcs: a few insertions. -/
section
attribute [local go_sem] BN
theorem vG (l:List (Int×Int)) (hl:l.length≤100000) (hD:YK Bu (0,0) l) (a b:Nat) (hab:a<b) (hb:b≤l.length) (hB:Bf Bu (0,0) a b l):BO Tryz.prog 171 [.sr 1000000 BC 0 l.length,.p T3 (a:Int),.p T3 (b:Int),.fn 116] [(1000000,.arr 53 BC l)] [1000000] (fun res objs'=>∃(w:Bool) (r:List (Int×Int)),res=.p .bool w∧objs'=[(1000000,.arr 53 BC r)]∧Dq (0,0) a b l r∧(w=true→Oo Bu (0,0) a b r)):=by
 refine BL Tryz.func171 (by kernel_rfl) rfl Tryz.ntmps171 (by simp only[List.length_cons,List.length_nil];omega) (by kernel_rfl) rfl rfl (AF [(116,BN)]) (AD Eb AI) ?_
 intro w0 K O0 ρ0 hc hok1 hok2
 simp only[Al]
 repeat'(first|exact trivial|refine eS rfl ?_|refine AB ?_|refine rX [0,1,2,3,8,9,10,11,12,16,36,41,45,65,69,84,104,109,124] hc ?_ ?_|refine rC ?_ ?_<;>intro AA<;>try(cases AA;done))
 ·exact CJ
 ·refine AJ (ι:={s:Nat×Nat×List (Int×Int)//(a+1≤s.1∧s.1≤b)∧s.2.1≤5∧Dq (0,0) a b l s.2.2∧Oo Bu (0,0) a s.1 s.2.2}) (fun s=>⟨[(0,.sr 1000000 BC 0 l.length),(1,.p T3 (a:Int)),(2,.p T3 (b:Int)),(3,.fn 116),(9,.p (.int .i64) (s.1.1:Int)),(10,.p (.int .i64) (s.1.2.1:Int))],[(1000000,.arr 53 BC s.1.2.2)]⟩) (fun s=>5-s.1.2.1) ⟨(a+1,0,l),by simp only;omega,Nat.zero_le _,Dq.refl a b l,Vc a l⟩ (AC [(1000000,.nm 1000000)] rfl rfl ?_ ?_) (fun s=>?_)
  ·first|exact eN|refine eM ?_
  ·first|exact eN|refine eM ?_
  ·obtain⟨⟨i,t,m⟩,⟨hi1,hi2⟩,ht,hp0,hs0⟩:=s
   simp only at hi1 hi2 ht hp0 hs0 ⊢
   have hmD:=hD.perm B3 hp0.perm
   have hml:=hp0.len
   repeat'(first|exact trivial|refine eS rfl ?_|refine AB ?_|refine rX [0,1,2,3,8,9,10,11,12,16,36,41,45,65,69,84,104,109,124] hc ?_ ?_)
   refine rC (fun AA=>?_) (fun AA=>?_)
   ·repeat'(first|exact trivial|refine eS rfl ?_|refine AB ?_|refine rX [0,1,2,3,8,9,10,11,12,16,36,41,45,65,69,84,104,109,124] hc ?_ ?_)
    refine AJ (ι:={k:Nat//i≤k∧k≤b∧Oo Bu (0,0) a k m}) (fun s=>⟨[(0,.sr 1000000 BC 0 l.length),(1,.p T3 (a:Int)),(2,.p T3 (b:Int)),(3,.fn 116),(9,.p (.int .i64) (s.1:Int)),(10,.p (.int .i64) (t:Int))],[(1000000,.arr 53 BC m)]⟩) (fun s=>b-s.1) ⟨i,Nat.le_refl _,hi2,hs0⟩ (AC [(1000000,.nm 1000000)] rfl rfl ?_ ?_) (fun s=>?_)
    ·first|exact eN|refine eM ?_
    ·first|exact eN|refine eM ?_
    ·obtain⟨k,hk1,hk2,hsk⟩:=s
     simp only at hk1 hk2 hsk ⊢
     have ek:((k:Int)-1).toNat=k-1:=by omega
     repeat'(first|exact trivial|refine eS rfl ?_|refine AB ?_|refine rX [0,1,2,3,8,9,10,11,12,16,36,41,45,65,69,84,104,109,124] hc ?_ ?_)
     ·dsimp only[Ty.den]
      exact⟨fun _=>by omega,fun _=>by omega,fun _=>by omega⟩
     ·refine DV (by simp only[go_sem,Nat.reduceEqDiff,reduceCtorEq,Nat.reduceAdd,Nat.reduceSub,Nat.reduceMul,Nat.reduceLeDiff,Nat.reduceLT,Int.reduceLE,Int.reduceToNat,Int.reduceNeg,↓reduceIte];rfl) ?_ ?_
      ·intro hc2
       simp only[Bool.and_eq_true,decide_eq_true_eq,Bool.not_eq_true',decide_eq_false_iff_not]at hc2
       obtain⟨h1,h2⟩:=hc2
       rw[ek]at h2
       have h2:=hmD.lt B3 (i:=k) (j:=k-1) (by omega) (by omega) (by omega) h2
       repeat'(first|exact trivial|refine eS rfl ?_|refine AB ?_|refine rX [0,1,2,3,8,9,10,11,12,16,36,41,45,65,69,84,104,109,124] hc ?_ ?_)
       ·exact CJ
       ·refine⟨⟨k+1,by omega,by omega,oK B3 hsk (by omega) h2⟩,by simp only;omega,AC [(1000000,.nm 1000000)] rfl rfl ?_ ?_⟩
        ·first|exact eN|refine eM ?_
        ·first|exact eN|refine eM ?_
      ·intro hc2
       clear hc2
       repeat'(first|exact trivial|refine eS rfl ?_|refine AB ?_|refine rX [0,1,2,3,8,9,10,11,12,16,36,41,45,65,69,84,104,109,124] hc ?_ ?_)
       refine rC (fun hcond2=>?_) (fun hcond2=>?_)
       ·have hkb:k=b:=by omega
        subst hkb
        repeat'(first|exact trivial|refine eS rfl ?_|refine AB ?_|refine rX [0,1,2,3,8,9,10,11,12,16,36,41,45,65,69,84,104,109,124] hc ?_ ?_|refine rC ?_ ?_<;>intro AA<;>try(cases AA;done))
        exact AU hc [.tmp 8] rfl (.inl rfl) (.p .bool true) eT ⟨true,m,rfl,rfl,hp0,fun _=>hsk⟩
       ·have hkb:k<b:=by omega
        repeat'(first|exact trivial|refine eS rfl ?_|refine AB ?_|refine rX [0,1,2,3,8,9,10,11,12,16,36,41,45,65,69,84,104,109,124] hc ?_ ?_)
        ·exact CJ
        ·refine rC (fun hcond3=>?_) (fun hcond3=>?_)
         ·repeat'(first|exact trivial|refine eS rfl ?_|refine AB ?_|refine rX [0,1,2,3,8,9,10,11,12,16,36,41,45,65,69,84,104,109,124] hc ?_ ?_|refine rC ?_ ?_<;>intro AA<;>try(cases AA;done))
          exact AU hc [.tmp 8] rfl (.inl rfl) (.p .bool false) eT ⟨false,m,rfl,rfl,hp0,fun h=>by cases h⟩
         ·have hps:Dq (0,0) a b m (CH (0,0) m k (k-1)):=Dq.swap m (by omega) (by omega) (by omega) (by omega) (by omega)
          have hsw:CH (0,0) m k (k-1)=(m.set k (m.getD (k-1) (0,0))).set (k-1) (m.getD k (0,0)):=rfl
          have hsy:ZW Bu (0,0) a (k-1) (k-1) (CH (0,0) m k (k-1)):=⟨fun x y h0 h1 h2 h3 h4=>by
           have hg:=H3 (d:=(0,0)) (l:=m) (i:=k) (j:=k-1) (by omega) (by omega)
           rw[hg x,hg y,if_neg h3,if_neg (show ¬x=k by omega),if_neg h4,if_neg (show ¬y=k by omega)]
           exact hsk x y h0 h1 (by omega),fun y h1 h2=>by omega⟩
          repeat'(first|exact trivial|refine eS rfl ?_|refine AB ?_|refine rP [0,1,2,3,8,9,10,11,12,16,36,41,45,65,69,84,104,109,124] hc ?_ ?_|fail)
          (refine Cp drawsAny hc 16 [([0,1,5,6,7,8,9,10,11,12,13,14],15)] [2,3,4] (by kernel_rfl) (RW ?_ ?_);(next=>exact CJ);refine Sx hc [] ?_ ?_;(next=>exact CJ);refine Sm [0,1,2,3,8,9,10,11,12,16,36,41,45,65,69,84,104,109,124] hc ?_ ?_ ?_;(next=>exact CJ);(next=>exact CJ))
          rw[ek,←hsw]
          have hp1:=hp0.trans hps
          clear hsw hps hmD hml
          generalize CH (0,0) m k (k-1)=c0 at *
          refine He ?_
          refine M5 (ι:={c:List (Int×Int)//Dq (0,0) a b l c∧Oo Bu (0,0) a k c}) (fun s=>⟨[(0,.sr 1000000 BC 0 l.length),(1,.p T3 (a:Int)),(2,.p T3 (b:Int)),(3,.fn 116),(9,.p (.int .i64) (k:Int)),(10,.p (.int .i64) (t:Int))],[(1000000,.arr 53 BC s.1)]⟩) ?_ (fun s=>?_)
          ·repeat'(first|exact trivial|refine eS rfl ?_|refine AB ?_|refine rX [0,1,2,3,8,9,10,11,12,16,36,41,45,65,69,84,104,109,124] hc ?_ ?_)
           ·exact CJ
           ·refine rC (fun hcond4=>?_) (fun hcond4=>?_)
            ·repeat'(first|exact trivial|refine eS rfl ?_|refine AB ?_|refine rX [0,1,2,3,8,9,10,11,12,16,36,41,45,65,69,84,104,109,124] hc ?_ ?_)
             ·exact CJ
             ·rw[show (k:Int)-1=((k-1:Nat):Int) by omega]
              refine AJ (ι:={s:Nat×List (Int×Int)//(a≤s.1∧s.1≤k-1)∧Dq (0,0) a b l s.2∧ZW Bu (0,0) a (k-1) s.1 s.2}) (fun s=>⟨[(0,.sr 1000000 BC 0 l.length),(1,.p T3 (a:Int)),(2,.p T3 (b:Int)),(3,.fn 116),(9,.p (.int .i64) (k:Int)),(10,.p (.int .i64) (t:Int)),(11,.p (.int .i64) (s.1.1:Int))],[(1000000,.arr 53 BC s.1.2)]⟩) (fun s=>s.1.1) ⟨(k-1,c0),by simp only;omega,hp1,hsy⟩ (AC [(1000000,.nm 1000000)] rfl rfl ?_ ?_) (fun s=>?_)
              ·first|exact eN|refine eM ?_
              ·first|exact eN|refine eM ?_
              ·obtain⟨⟨j,c⟩,⟨hj1,hj2⟩,hpc,hsc⟩:=s
               simp only at hj1 hj2 hpc hsc ⊢
               have hcD:=hD.perm B3 hpc.perm
               have hcl:=hpc.len
               have ej:((j:Int)-1).toNat=j-1:=by omega
               have hBc:=hB.pin hpc
               repeat'(first|exact trivial|refine eS rfl ?_|refine AB ?_|refine rX [0,1,2,3,8,9,10,11,12,16,36,41,45,65,69,84,104,109,124] hc ?_ ?_)
               refine rC (fun hcond5=>?_) (fun hcond5=>?_)
               ·repeat'(first|exact trivial|refine eS rfl ?_|refine AB ?_|refine rX [0,1,2,3,8,9,10,11,12,16,36,41,45,65,69,84,104,109,124] hc ?_ ?_)
                ·exact CJ
                ·refine DV (by simp only[go_sem,Nat.reduceEqDiff,reduceCtorEq,Nat.reduceAdd,Nat.reduceSub,Nat.reduceMul,Nat.reduceLeDiff,Nat.reduceLT,Int.reduceLE,Int.reduceToNat,Int.reduceNeg,↓reduceIte];rfl) ?_ ?_
                 ·intro hc2
                  simp only[Bool.not_eq_true',decide_eq_false_iff_not]at hc2
                  rw[ej]at hc2
                  have hc2:=hcD.lt B3 (i:=j) (j:=j-1) (by omega) (by omega) (by omega) hc2
                  have hse:=ST B3 hsc hj1 hj2 (.inr hc2)
                  rw[show k-1+1=k by omega]at hse
                  repeat'(first|exact trivial|refine eS rfl ?_|refine AB ?_|refine rX [0,1,2,3,8,9,10,11,12,16,36,41,45,65,69,84,104,109,124] hc ?_ ?_)
                  refine⟨⟨c,hpc,hse⟩,AC [(1000000,.nm 1000000)] rfl rfl ?_ ?_⟩
                  ·first|exact eN|refine eM ?_
                  ·first|exact eN|refine eM ?_
                 ·intro hc2
                  simp only[Bool.not_eq_false',decide_eq_true_eq]at hc2
                  rw[ej]at hc2
                  have hc2:Bu (c.getD j (0,0)) (c.getD (j-1) (0,0))<0:=hc2
                  have haj:a<j:=by
                   refine Classical.byContradiction fun hn=>?_
                   have e:j=a:=by omega
                   subst e
                   rcases hBc with h|h
                   ·omega
                   ·have:=h j (Nat.le_refl _) (by omega)
                    rw[B3.anti]at this
                    omega
                  have hps:Dq (0,0) a b c (CH (0,0) c j (j-1)):=Dq.swap c (by omega) (by omega) (by omega) (by omega) (by omega)
                  have hsw:CH (0,0) c j (j-1)=(c.set j (c.getD (j-1) (0,0))).set (j-1) (c.getD j (0,0)):=rfl
                  repeat'(first|exact trivial|refine eS rfl ?_|refine AB ?_|refine rP [0,1,2,3,8,9,10,11,12,16,36,41,45,65,69,84,104,109,124] hc ?_ ?_|fail)
                  (refine Cp drawsAny hc 16 [([0,1,5,6,7,8,9,10,11,12,13,14],15)] [2,3,4] (by kernel_rfl) (RW ?_ ?_);(next=>exact CJ);refine Sx hc [] ?_ ?_;(next=>exact CJ);refine Sm [0,1,2,3,8,9,10,11,12,16,36,41,45,65,69,84,104,109,124] hc ?_ ?_ ?_;(next=>exact CJ);(next=>exact CJ))
                  rw[ej,←hsw]
                  repeat'(first|exact trivial|refine eS rfl ?_|refine AB ?_|refine rX [0,1,2,3,8,9,10,11,12,16,36,41,45,65,69,84,104,109,124] hc ?_ ?_)
                  ·exact CJ
                  ·refine⟨⟨(j-1,CH (0,0) c j (j-1)),by simp only;omega,hpc.trans hps,UR hsc haj hj2 (by omega) hc2⟩,by simp only;omega,AC [(1000000,.nm 1000000)] rfl rfl ?_ ?_⟩
                   ·first|exact eN|refine eM ?_
                   ·simp only
                    rw[show ((j-1:Nat):Int)=(j:Int)-1 by omega]
                    first|exact eN|refine eM ?_
               ·have hja:j=a:=by omega
                have hse:=ST B3 hsc hj1 hj2 (.inl hja)
                rw[show k-1+1=k by omega]at hse
                repeat'(first|exact trivial|refine eS rfl ?_|refine AB ?_|refine rX [0,1,2,3,8,9,10,11,12,16,36,41,45,65,69,84,104,109,124] hc ?_ ?_)
                refine⟨⟨c,hpc,hse⟩,AC [(1000000,.nm 1000000)] rfl rfl ?_ ?_⟩
                ·first|exact eN|refine eM ?_
                ·first|exact eN|refine eM ?_
            ·have hka:k=a+1:=by omega
             repeat'(first|exact trivial|refine eS rfl ?_|refine AB ?_|refine rX [0,1,2,3,8,9,10,11,12,16,36,41,45,65,69,84,104,109,124] hc ?_ ?_)
             refine⟨⟨c0,hp1,by rw[hka];exact Vc a c0⟩,AC [(1000000,.nm 1000000)] rfl rfl ?_ ?_⟩
             ·first|exact eN|refine eM ?_
             ·first|exact eN|refine eM ?_
          ·obtain⟨c,hpc,hsc⟩:=s
           simp only
           clear hp1 hsy
           repeat'(first|exact trivial|refine eS rfl ?_|refine AB ?_|refine rX [0,1,2,3,8,9,10,11,12,16,36,41,45,65,69,84,104,109,124] hc ?_ ?_)
           ·exact CJ
           ·refine rC (fun hcond4=>?_) (fun hcond4=>?_)
            ·repeat'(first|exact trivial|refine eS rfl ?_|refine AB ?_|refine rX [0,1,2,3,8,9,10,11,12,16,36,41,45,65,69,84,104,109,124] hc ?_ ?_)
             ·exact CJ
             ·rw[show (k:Int)+1=((k+1:Nat):Int) by omega]
              refine AJ (ι:={s:Nat×List (Int×Int)//(k+1≤s.1∧s.1≤b)∧Dq (0,0) a b l s.2∧Oo Bu (0,0) a k s.2}) (fun s=>⟨[(0,.sr 1000000 BC 0 l.length),(1,.p T3 (a:Int)),(2,.p T3 (b:Int)),(3,.fn 116),(9,.p (.int .i64) (k:Int)),(10,.p (.int .i64) (t:Int)),(12,.p (.int .i64) (s.1.1:Int))],[(1000000,.arr 53 BC s.1.2)]⟩) (fun s=>b-s.1.1) ⟨(k+1,c),by simp only;omega,hpc,hsc⟩ (AC [(1000000,.nm 1000000)] rfl rfl ?_ ?_) (fun s=>?_)
              ·first|exact eN|refine eM ?_
              ·first|exact eN|refine eM ?_
              ·clear hpc hsc
               obtain⟨⟨j,c⟩,⟨hj1,hj2⟩,hpc,hsc⟩:=s
               simp only at hj1 hj2 hpc hsc ⊢
               have hcl:=hpc.len
               have ej:((j:Int)-1).toNat=j-1:=by omega
               repeat'(first|exact trivial|refine eS rfl ?_|refine AB ?_|refine rX [0,1,2,3,8,9,10,11,12,16,36,41,45,65,69,84,104,109,124] hc ?_ ?_)
               refine rC (fun hcond5=>?_) (fun hcond5=>?_)
               ·repeat'(first|exact trivial|refine eS rfl ?_|refine AB ?_|refine rX [0,1,2,3,8,9,10,11,12,16,36,41,45,65,69,84,104,109,124] hc ?_ ?_)
                ·exact CJ
                ·refine DV (by simp only[go_sem,Nat.reduceEqDiff,reduceCtorEq,Nat.reduceAdd,Nat.reduceSub,Nat.reduceMul,Nat.reduceLeDiff,Nat.reduceLT,Int.reduceLE,Int.reduceToNat,Int.reduceNeg,↓reduceIte];rfl) ?_ ?_
                 ·intro hc2
                  clear hc2
                  repeat'(first|exact trivial|refine eS rfl ?_|refine AB ?_|refine rX [0,1,2,3,8,9,10,11,12,16,36,41,45,65,69,84,104,109,124] hc ?_ ?_)
                  ·exact CJ
                  ·refine⟨⟨(k,t+1,c),by simp only;omega,by simp only;omega,hpc,hsc⟩,by simp only;omega,AC [(1000000,.nm 1000000)] rfl rfl ?_ ?_⟩
                   ·first|exact eN|refine eM ?_
                   ·first|exact eN|refine eM ?_
                 ·intro hc2
                  clear hc2
                  have hps:Dq (0,0) k b c (CH (0,0) c j (j-1)):=Dq.swap c (by omega) (by omega) (by omega) (by omega) (by omega)
                  have hsw:CH (0,0) c j (j-1)=(c.set j (c.getD (j-1) (0,0))).set (j-1) (c.getD j (0,0)):=rfl
                  repeat'(first|exact trivial|refine eS rfl ?_|refine AB ?_|refine rP [0,1,2,3,8,9,10,11,12,16,36,41,45,65,69,84,104,109,124] hc ?_ ?_|fail)
                  (refine Cp drawsAny hc 16 [([0,1,5,6,7,8,9,10,11,12,13,14],15)] [2,3,4] (by kernel_rfl) (RW ?_ ?_);(next=>exact CJ);refine Sx hc [] ?_ ?_;(next=>exact CJ);refine Sm [0,1,2,3,8,9,10,11,12,16,36,41,45,65,69,84,104,109,124] hc ?_ ?_ ?_;(next=>exact CJ);(next=>exact CJ))
                  rw[ej,←hsw]
                  repeat'(first|exact trivial|refine eS rfl ?_|refine AB ?_|refine rX [0,1,2,3,8,9,10,11,12,16,36,41,45,65,69,84,104,109,124] hc ?_ ?_)
                  ·exact CJ
                  ·refine⟨⟨(j+1,CH (0,0) c j (j-1)),by simp only;omega,hpc.trans (hps.mono (by omega) (Nat.le_refl _)),Ld hsc fun x x1 x2=>hps.out x (by omega)⟩,by simp only;omega,AC [(1000000,.nm 1000000)] rfl rfl ?_ ?_⟩
                   ·first|exact eN|refine eM ?_
                   ·first|exact eN|refine eM ?_
               ·repeat'(first|exact trivial|refine eS rfl ?_|refine AB ?_|refine rX [0,1,2,3,8,9,10,11,12,16,36,41,45,65,69,84,104,109,124] hc ?_ ?_)
                ·exact CJ
                ·refine⟨⟨(k,t+1,c),by simp only;omega,by simp only;omega,hpc,hsc⟩,by simp only;omega,AC [(1000000,.nm 1000000)] rfl rfl ?_ ?_⟩
                 ·first|exact eN|refine eM ?_
                 ·first|exact eN|refine eM ?_
            ·repeat'(first|exact trivial|refine eS rfl ?_|refine AB ?_|refine rX [0,1,2,3,8,9,10,11,12,16,36,41,45,65,69,84,104,109,124] hc ?_ ?_)
             ·exact CJ
             ·refine⟨⟨(k,t+1,c),by simp only;omega,by simp only;omega,hpc,hsc⟩,by simp only;omega,AC [(1000000,.nm 1000000)] rfl rfl ?_ ?_⟩
              ·first|exact eN|refine eM ?_
              ·first|exact eN|refine eM ?_
   ·repeat'(first|exact trivial|refine eS rfl ?_|refine AB ?_|refine rX [0,1,2,3,8,9,10,11,12,16,36,41,45,65,69,84,104,109,124] hc ?_ ?_|refine rC ?_ ?_<;>intro AA<;>try(cases AA;done))
    exact AU hc [.tmp 8] rfl (.inl rfl) (.p .bool false) eT ⟨false,m,rfl,rfl,hp0,fun h=>by cases h⟩
end
end Go.Proofs.YtdapahgnpbehbaaGreat.Fw
