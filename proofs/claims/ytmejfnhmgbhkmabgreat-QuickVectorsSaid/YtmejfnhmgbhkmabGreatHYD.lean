/- Contracts of the program's and the reference's functions, and the plain laws of what they compute: Q7 R08b Q8 Q9 C37 W6 W7 U17 Q17 Q11 Q12 Q13 Q14 Q16 C36 W8 N9 U16 Q18 Q19 C38 Q15 Q10 U13 L14 L15 L16. -/
/- grammarlabref16.with. -/
import Derived.Test.YtmejfnhmgbhkmabGreatHYC
import Derived.Test.YtmejfnhmgbhkmabGreatHYB
import Derived.Test.YtmejfnhmgbhkmabGreatHZI
set_option linter.unusedVariables false
set_option linter.unusedSimpArgs false
namespace Go.Proofs.YtmejfnhmgbhkmabGreat.Fw
open Go
attribute [local irreducible] Ev
attribute [local go_sem] YO AM List.toList_toArray Bk evG evK UG EF I9 F6 FG Hk QD Lu Ci Cp K8 CC Cd frz aV F1 Co Az E7 BL AV.frz AV.frzs AV.drp AV.drps AV.names AV.namess aq F3 Jg I1 Qx H5 BM BV IV Dr Hd Ds Hf He Hg Rm NG GL I2 E9 Dl Rn Ox qG IW Hh J5 Eo Dt Qy Cs Du EX Oy Hi Oz J6 H8 I3 Dv DD GU DF Gp Ct EY Cu Dw FB CC CP P0 Ow MO Fy H7 H6 J3 NJ QB Lt KA J8 I6 QC J9 I7 WU NL NK AV.trn AV.trns ER Cg Obj.trn Ik Yi DE Dy Dm Dx CG EZ Aq lk GX F2 Gl wL aU UH aX QA mF mG wP AV.cells Bz IT NF I5 NI B7 Lr Ty.cell1 Hc ET DC FU MN Em I0 J1 Ou F0 Fa Lo Qv Rk Jz H4 WR X0 P6 Ls Cc IU RV.flat Ty.flat Ty.size St.add upd UF BR Value.oneCell' Jv Ty.dflt Hb Nf Gy Np List.take_succ_cons List.take_zero List.length_cons YX YY Nn Ih KP Gj Ii rI FH LH LI LJ LK PB PC LL Hn R4 Option.map_some Option.map_none Option.bind_some Option.getD_some Option.getD_none Option.isNone_none Option.isNone_some Bool.and_true Bool.true_and Bool.and_false Bool.false_and Bool.not_true Bool.not_false if_true if_false List.length_cons List.length_nil and_true true_and and_self List.all_cons List.all_nil List.append_nil List.nil_append List.cons_append List.getElem?_cons_zero List.getElem?_cons_succ List.getElem?_nil List.map_cons List.map_nil List.set_cons_zero List.set_cons_succ List.isEmpty_nil List.isEmpty_cons decide_true decide_false beq_self_eq_true bne_self_eq_false Nat.zero_add Nat.add_zero Nat.sub_zero Int.toNat_natCast Int.toNat_zero Int.toNat_one List.take_length List.length_append List.length_singleton true_or or_true or_self false_or or_false Ty.agg.injEq Ty.slice.injEq Ty.prod.injEq Ty.int.injEq Option.some.injEq beq_iff_eq Jw evMG evMQ rO G0 KM Bo Ig GM Nh Id Gz Ho JF Jl MZ L0 Ma RA KN Ni Nj Ie AW Ah Op.operands Call.operands List.filterMap_cons List.filterMap_nil List.append_eq Bool.cond_false_right Bool.cond_true_left cond_true cond_false implies_true decide_eq_true_eq beq_true beq_false Bool.or_true Bool.or_false Bool.true_or Bool.false_or Option.isSome_some E8 K9 Ea Gm WT NH FA Fc Fb Hj Gn I4 J7 UI aW UY inB I8 FC Fz IX BU YZ List.drop_zero DK G7 Wr B1 JK Bi AV.fgt AV.fgts Obj.fgt Ak Ag AW Cl Ha BA F7 List.any_cons List.any_nil bV Yc Ws Yd KR PH qs List.flatMap_cons List.flatMap_nil List.cons_append tn Wv Il List.take_succ_cons List.drop_succ_cons Wz HA Bg fU LQ Bv B9 Ab FF JE BX Ec DI Gw Hm Fg Gx
attribute [local go_sem] ty1 ty2 ty3 ty4 ty5 ty9 xY xZ x4 x5 x6 x7 x8 x9 yA yB yC yD yE yF yG yH yI yJ yK yL yM yN yO yP yQ yR yS yT yU yV yW yX yY yZ y3 y4 y5 y6 y7 y8 y9 zA zB zC zD zE zF zG zH zI zJ zK zL zM zN zO zP zQ zR zS zT zU zV zW zX zY zZ z0 z1 z2 z3 z4 z5 z6 z7 z8 fY fZ f6 f7 gB gC gD gE gF gG gH gI gJ gK gL gM gN gP gQ gR gS gT gU gV gW gX gY gZ hC hD hH hZ iA iB iC iD iE iG iH iI iJ iK iL iM iO iP iQ iR iT iU iV iW iX iY iZ i4 i5 i6 i7 i8 i9 jA jB jC jD jE jF jG jH jI jJ jK jL jM jN jO jP jQ jR jS jT jU jV jW jX jY jZ j3 j4 j5 j6 j7 j8 j9 kA kB kC kD kE kF kG kH kI kJ kK kL kM kN kO kP kQ
set_option maxRecDepth 100000
set_option maxHeartbeats 4000000
section
attribute [local go_sem] WB NA
def GW (p:List Int):Bool→List (List Int)→List (List Int)
 | done,[]=>if done=true then [] else [p]
 | done,q :: l=>(if done=false∧¬Bu q p<0 then [p] else [])++((if q=p then [] else [q])++GW p (done||!decide (Bu q p<0)) l)
theorem Ex (p q:List Int) (d:Bool) (l:List (List Int)):GW p d (q :: l)=(if d=false∧¬Bu q p<0 then [p] else [])++((if q=p then [] else [q])++GW p (d||!decide (Bu q p<0)) l):=rfl
theorem d5 {l:List (List Int)} {k:Nat} (h:k<l.length):l.drop k=l.getD k [] :: l.drop (k+1):=by
 rw[List.drop_eq_getElem_cons h]
 simp[List.getD_eq_getElem?_getD,h]
def aF:Ac:={ ins:=[PN,Bx],pre:=fun(l,_,_)=>List.length l≤1000,out:=fun(l,p,_)=>[.p PN (GW p false l)] }
attribute [local go_sem] aF
theorem A0P:Ai Tryz.prog 44 aF:=by
 refine AP Tryz.func44 (by kernel_rfl) rfl Tryz.ntmps44 (by decide) (by kernel_rfl) (AH [(68,WB),(40,NA)]) (AE mB (AE aB AI)) ?_
 rintro w0 O0 ⟨l,p,u⟩ hc-hl
 have hl:List.length l≤1000:=hl
 simp only[aF,AM]
 repeat'(first|exact trivial|refine eS rfl ?_|refine AB ?_|refine rX [0,1,4,5,6,7,11,24,35,44] hc ?_ ?_|refine rC ?_ ?_<;>intro AA<;>try(cases AA;done))
 refine AK (ι:={s:Nat×Bool×List (List Int)//s.1≤List.length l∧s.2.2.length≤2*s.1∧s.2.2++GW p s.2.1 ((l:List (List Int)).drop s.1)=GW p false l}) (fun s=>⟨[(0,.p PN l),(1,.p Bx p),(5,.sr 28 Bx 0 s.1.2.2.length),(6,.p .bool s.1.2.1),(7,.p (.int .i64) (s.1.1:Int))],[(28,.arr 30 Bx s.1.2.2)]⟩) (fun s=>List.length l-s.1.1) ⟨(0,false,[]),Nat.zero_le _,Nat.le_refl 0,rfl⟩ (AC [(28,.nil)] rfl rfl ?_ ?_) (fun s=>?_)
 ·first|exact eN|refine eM ?_
 ·first|exact eN|refine eM ?_
 ·obtain⟨⟨k,d,o⟩,hk,ho,he⟩:=s
  simp only at hk ho he ⊢
  have hst:=fun(h:k<List.length l)=>d5 h
  have hto:o.take o.length=o:=List.take_length
  repeat'(first|exact trivial|refine eS rfl ?_|refine AB ?_|refine rX [0,1,4,5,6,7,11,24,35,44] hc ?_ ?_|refine rC ?_ ?_<;>intro AA<;>try(cases AA;done))
  ·exact fun _=>AA
  ·simp only[AO]
   dsimp only[Ty.den]at *
   omega
  ·assumption
  ·refine⟨by assumption,?_⟩
   simp only[AO]
   dsimp only[Ty.den]at *
   omega
  ·exact eV
  ·have hkl:k<List.length l:=by exact eV
   rename_i hA
   have he2:=he
   rw[hst hkl,Ex,if_pos (⟨hA.1,Int.not_lt.2 hA.2⟩:d=false∧¬Bu (List.getD l k []) p<0),if_neg AA,show (d||!decide (Bu (List.getD l k []) p<0))=true by (have hT:=hA.2;rw[decide_eq_false (Int.not_lt.2 hT)];simp)]at he2
   refine⟨⟨(k+1,true,o++[p]++[List.getD l k []]),hkl,by simp;omega,by rw[←he2];simp⟩,by simp only;omega,AC [(28,.nm 28)] rfl rfl ?_ ?_⟩
   ·simp only
    first|exact eN|refine eM ?_
    all_goals simp
   ·simp only
    first|exact eN|refine eM ?_
    all_goals simp
  ·exact eV
  ·have hkl:k<List.length l:=by exact eV
   rename_i hA
   have he2:=he
   rw[hst hkl,Ex,if_pos (⟨hA.1,Int.not_lt.2 hA.2⟩:d=false∧¬Bu (List.getD l k []) p<0),if_pos AA,show (d||!decide (Bu (List.getD l k []) p<0))=true by (have hT:=hA.2;rw[decide_eq_false (Int.not_lt.2 hT)];simp)]at he2
   refine⟨⟨(k+1,true,o++[p]),hkl,by simp;omega,by rw[←he2];simp⟩,by simp only;omega,AC [(28,.nm 28)] rfl rfl ?_ ?_⟩
   ·simp only
    first|exact eN|refine eM ?_
    all_goals simp
   ·simp only
    first|exact eN|refine eM ?_
    all_goals simp
  ·assumption
  ·refine⟨by assumption,?_⟩
   simp only[AO]
   dsimp only[Ty.den]at *
   omega
  ·exact eV
  ·have hkl:k<List.length l:=by exact eV
   rename_i hA
   have he2:=he
   rw[hst hkl,Ex,if_neg (fun h:d=false∧¬Bu (List.getD l k []) p<0=>h.2 (hA h.1)),if_neg AA,show (d||!decide (Bu (List.getD l k []) p<0))=d by (cases hd:d with|true=>rfl|false=>rw[decide_eq_true (hA hd)];rfl)]at he2
   refine⟨⟨(k+1,d,o++[List.getD l k []]),hkl,by simp;omega,by rw[←he2];simp⟩,by simp only;omega,AC [(28,.nm 28)] rfl rfl ?_ ?_⟩
   ·simp only
    first|exact eN|refine eM ?_
    all_goals simp
   ·simp only
    first|exact eN|refine eM ?_
    all_goals simp
  ·exact eV
  ·have hkl:k<List.length l:=by exact eV
   rename_i hA
   have he2:=he
   rw[hst hkl,Ex,if_neg (fun h:d=false∧¬Bu (List.getD l k []) p<0=>h.2 (hA h.1)),if_pos AA,show (d||!decide (Bu (List.getD l k []) p<0))=d by (cases hd:d with|true=>rfl|false=>rw[decide_eq_true (hA hd)];rfl)]at he2
   refine⟨⟨(k+1,d,o),hkl,by simp;omega,by rw[←he2];simp⟩,by simp only;omega,AC [(28,.nm 28)] rfl rfl ?_ ?_⟩
   ·simp only
    first|exact eN|refine eM ?_
    all_goals simp
   ·simp only
    first|exact eN|refine eM ?_
    all_goals simp
  ·simp only[AO]
   dsimp only[Ty.den]at *
   omega
  ·have hkl:(l:List (List Int)).drop k=[]:=List.drop_eq_nil_of_le (by exact eV)
   rw[hkl,AA]at he
   have he:o++[p]=GW p false l:=he
   exact AG hc [.tmp 4] rfl (.inl rfl) (by simp) (by rw[←he];first|exact eR|refine Ap ?_;exact List.take_of_length_le (by simp))
  ·have hkl:(l:List (List Int)).drop k=[]:=List.drop_eq_nil_of_le (by exact eV)
   rw[hkl,AA]at he
   have he:o++[]=GW p false l:=he
   rw[List.append_nil]at he
   exact AG hc [.tmp 4] rfl (.inl rfl) (by simp) (by rw[←he];first|exact eR|refine Ap ?_;exact hto)
end
/- Functions of grammarlabref08: First. -/
section
def Pt:Ac:={ ins:=[FW],pre:=fun(f,_)=>AY f∧0<f.length,out:=fun(f,_)=>[.p PN (Aj f)] }
theorem aG:Ai Tryz.prog 27 Pt:=by
 refine AP Tryz.func27 (by kernel_rfl) rfl Tryz.ntmps27 (by decide) (by kernel_rfl) (AH []) AI ?_
 rintro w0 O0 ⟨f,u⟩ hc-⟨hs,h0⟩
 simp only[Pt,AM]
 have hfl:f.length≤100000:=hs.1
 have hb0:=lM h0
 repeat'(first|exact trivial|refine eS rfl ?_|refine AB ?_|refine rX [0,1,2,3,4,5,6,7,8,23,38,49] hc ?_ ?_|refine rC ?_ ?_<;>intro AA<;>try(cases AA;done))
 ·simp only[AO];omega
 ·simp only[AO];omega
 ·exact eV
 ·refine AK (ι:={x:Nat×Qp//BOk f x.2∧x.1≤x.2.2.2.length∧o4 f (f.length-x.1) x.1 x.2=o4 f f.length 0 (GG f.length)}) (fun x=>⟨[(1,.bp 1 [] 0),(3,.sr 12 Bx 0 x.1.2.1.length),(4,.sr 16 T4 0 x.1.2.2.1.length),(5,.sr 19 T3 0 x.1.2.2.2.length),(6,.p (.int .i64) (x.1.1:Int))],[(1,.box 24 true [.p Jm f]),(12,.arr 30 Bx x.1.2.1),(16,.arr 4 T4 x.1.2.2.1),(19,.arr 3 T3 x.1.2.2.2)]⟩) (fun x=>f.length-x.1.1) ⟨(0,GG f.length),hb0,by simp[GG],rfl⟩ (AC [(1,.nm 1),(12,.nm 12),(16,.nm 16),(19,.nm 19)] rfl rfl ?_ ?_) (fun x=>?_)
  ·simp only[GG]
   first|exact eN|refine eM ?_
  ·simp only[GG,List.length_replicate,List.length_set]
   first|exact eN|refine eM ?_
  ·obtain⟨⟨i,s⟩,hb,hi,hbfs⟩:=x
   simp only at hb hi hbfs
   obtain⟨out,seen,todo⟩:=s
   have hb1:=hb.l1
   have hb2:=hb.l2
   simp only at hb1 hb2 hi
   show Ev _ _ _ _ ⟨[(1,.bp 1 [] 0),(3,.sr 12 Bx 0 out.length),(4,.sr 16 T4 0 seen.length),(5,.sr 19 T3 0 todo.length),(6,.p (.int .i64) (i:Int))],[(1,.box 24 true [.p Jm f]),(12,.arr 30 Bx out),(16,.arr 4 T4 seen),(19,.arr 3 T3 todo)]⟩
   repeat'(first|exact trivial|refine eS rfl ?_|refine AB ?_|refine rX [0,1,2,3,4,5,6,7,8,23,38,49] hc ?_ ?_|refine rC ?_ ?_<;>intro AA<;>try(cases AA;done))
   ·exact⟨AA,hb.rng _ (AD todo 0 (by exact eV))⟩
   ·have hit:i<todo.length:=by exact eV
    have hn:=hb.rng _ (AD todo 0 hit)
    have hLlen:=HR hs (todo.getD i 0)
    have hLin:=fun a (ha:a∈(f.getD (todo.getD i 0).toNat (0,[])).2)=>JY hs ha
    have hbN:o4 f (f.length-(i+1)) (i+1) (uL f (out,seen,todo) (todo.getD i 0))=o4 f f.length 0 (GG f.length):=by
     rw[←hbfs]
     refine(Zg (s:=(out,seen,todo)) hit ?_).symm
     have:=hb.cnt
     simp only at this ⊢
     omega
    have hNN:uL f (out,seen,todo) (todo.getD i 0)=(f.getD (todo.getD i 0).toNat (0,[])).2.foldl (CF (todo.getD i 0)) (out,seen,todo):=rfl
    rw[hNN]at hbN
    obtain⟨s0,hs0⟩:∃s0:Qp,s0=(out,seen,todo):=⟨_,rfl⟩
    have hb':BOk f s0:=by rw[hs0];exact hb
    have hpre:=fun l=>TS (n:=todo.getD i 0) (i:=i) (l:=l) (s:=s0) (by rw[hs0];exact hit)
    have ht0:s0.2.2.getD i 0=todo.getD i 0:=by rw[hs0]
    rw[ht0]at hpre
    rw[←hs0]at hbN
    clear hNN
    generalize hnd:todo.getD i 0=n at *
    generalize (f.getD n.toNat (0,[])).2=L at *
    have hfold:=fun k=>lL (n:=n) (l:=L.take k) (fun a ha=>hLin a (List.mem_of_mem_take ha)) hb'
    refine AK (ι:={k:Nat//k≤L.length}) (fun k=>⟨[(1,.bp 1 [] 0),(3,.sr 12 Bx 0 ((L.take k.1).foldl (CF n) s0).1.length),(4,.sr 16 T4 0 ((L.take k.1).foldl (CF n) s0).2.1.length),(5,.sr 19 T3 0 ((L.take k.1).foldl (CF n) s0).2.2.length),(6,.p (.int .i64) (i:Int)),(7,.p Ee L),(8,.p (.int .i64) (k.1:Int))],[(1,.box 24 true [.p Jm f]),(12,.arr 30 Bx ((L.take k.1).foldl (CF n) s0).1),(16,.arr 4 T4 ((L.take k.1).foldl (CF n) s0).2.1),(19,.arr 3 T3 ((L.take k.1).foldl (CF n) s0).2.2)]⟩) (fun k=>L.length-k.1) ⟨0,by omega⟩ (AC [(1,.nm 1),(12,.nm 12),(16,.nm 16),(19,.nm 19)] rfl rfl ?_ ?_) (fun k=>?_)
    ·first|exact eN|refine eM ?_
     simp only[List.foldl_nil]
     rw[hs0]
     exact⟨rfl,rfl,rfl⟩
    ·first|exact eN|refine eM ?_
     simp only[List.foldl_nil]
     rw[hs0]
     exact⟨rfl,rfl,rfl⟩
    ·obtain⟨k,hk⟩:=k
     have hbk:=hfold k
     have hpk:=hpre (L.take k)
     have hnext:=fun(h:k<L.length)=>Ld (CF n) L (0,0) s0 h
     simp only
     generalize hsk:(L.take k).foldl (CF n) s0=sk at hbk hpk hnext ⊢
     obtain⟨out1,seen1,todo1⟩:=sk
     simp only at hpk ⊢
     have hl1:=hbk.l1
     have hl2:=hbk.l2
     have hl3:=hbk.cnt
     simp only at hl1 hl2 hl3
     have hto:∀(h:k<L.length),0≤(L.getD k (0,0)).2∧(L.getD k (0,0)).2<(seen1.length:Int):=fun h=>by
      have:=hLin _ (AD L (0,0) h)
      dsimp only[Ty.den]at *
      omega
     have hpl:=TR hbk.pl n.toNat
     simp only at hpl
     repeat'(first|exact trivial|refine eS rfl ?_|refine AB ?_|refine rX [0,1,2,3,4,5,6,7,8,23,38,49] hc ?_ ?_|refine rC ?_ ?_<;>intro AA<;>try(cases AA;done))
     ·exact⟨AA,hto (by exact eV)⟩
     ·refine⟨?_,hto ?_⟩<;>exact eV
     ·rename_i hkL _
      have hkL:k<L.length:=by dsimp only[Ty.den]at *;omega
      have hst:(L.take (k+1)).foldl (CF n) s0=(out1.set (L.getD k (0,0)).2.toNat (out1.getD n.toNat []++[(L.getD k (0,0)).1]),seen1.set (L.getD k (0,0)).2.toNat true,todo1++[(L.getD k (0,0)).2]):=by
       rw[hnext hkL]
       unfold CF
       rw[if_neg (by simp only;rw[AA];simp)]
      have htk:=hto hkL
      refine IH drawsAny hc 22 [([6,7,8,9,10,11,12,13],14),([15,16,17,18,19,20],21)] [0,1,2,3,4,5] (by kernel_rfl) (UN ?_ ?_)
      ·rw[hpk.2]
       dsimp only[Ty.den]at *
       refine⟨by omega,⟨by omega,by omega⟩,by omega⟩
      ·refine Xw hc [63] ?_ ?_
       ·rw[hpk.2]
        simp only[AO]
        dsimp only[Ty.den]at *
        omega
       ·refine UN ?_ ?_
        ·exact eV
        ·refine Xw hc [63] ?_ ?_
         ·rw[hpk.2]
          simp only[AO]
          dsimp only[Ty.den]at *
          omega
         ·refine wM [0,1,2,3,4,5,6,7,8,23,38,49] hc ?_ ?_ ?_
          ·exact eV
          ·dsimp only[Ty.den]at *
           exact⟨by omega,by omega⟩
          ·repeat'(first|exact trivial|refine eS rfl ?_|refine AB ?_|refine rX [0,1,2,3,4,5,6,7,8,23,38,49] hc ?_ ?_|refine rC ?_ ?_<;>intro AA<;>try(cases AA;done))
           ·simp only[AO]
            dsimp only[Ty.den]at *
            exact⟨by omega,by omega⟩
           ·exact eV
           ·refine⟨⟨k+1,by omega⟩,by simp only;omega,AC [(1,.nm 1),(12,.nm 12),(16,.nm 16),(19,.nm 19)] rfl rfl ?_ ?_⟩
            ·simp only
             rw[hst]
             first|exact eN|refine eM ?_
             rw[hpk.2]
            ·simp only
             rw[hst]
             first|exact eN|refine eM ?_
             simp
     ·exact eV
     ·rename_i hkL _
      have hkL:k<L.length:=by dsimp only[Ty.den]at *;omega
      have hst:(L.take (k+1)).foldl (CF n) s0=(out1,seen1,todo1):=by
       rw[hnext hkL]
       unfold CF
       rw[if_pos (by simp only;rw[AA])]
      refine⟨⟨k+1,by omega⟩,by simp only;omega,AC [(1,.nm 1),(12,.nm 12),(16,.nm 16),(19,.nm 19)] rfl rfl ?_ ?_⟩
      ·simp only
       rw[hst]
       first|exact eN|refine eM ?_
      ·simp only
       rw[hst]
       first|exact eN|refine eM ?_
     ·exact eV
     ·have hkL:L.take k=L:=List.take_of_length_le (by exact eV)
      rw[hkL]at hsk
      rw[hsk]at hbN
      have htl:todo1.length≤f.length:=by omega
      refine⟨⟨(i+1,(out1,seen1,todo1)),hbk,by simp only;omega,hbN⟩,by simp only;dsimp only[Ty.den]at *;omega,AC [(1,.nm 1),(12,.nm 12),(16,.nm 16),(19,.nm 19)] rfl rfl ?_ ?_⟩
      ·first|exact eN|refine eM ?_
      ·first|exact eN|refine eM ?_
   ·have h1:Aj f=out:=by
     unfold Aj
     rw[←hbfs,Xd (by exact eV)]
    exact AG hc [.tmp 2] rfl (.inl rfl) (by simp) (by rw[h1];first|exact eR|refine Ap ?_)
end
/- grammarlabref16.Clashes. -/
section
attribute [local go_sem] Pt l9 MI Lk aF
theorem WE (p:List Int):∀(d:Bool) (l:List (List Int)),(GW p d l).length≤l.length+(if d=true then 0 else 1)
 | d,[]=>by
  unfold GW
  split<;>simp
 | d,q :: l=>by
  rw[Ex,List.length_append,List.length_append]
  have ih:=WE p (d||!decide (Bu q p<0)) l
  have h2:(if q=p then ([]:List (List Int)) else [q]).length≤1:=by split<;>simp
  simp only[List.length_cons]
  cases d with
  | true =>
   rw[if_neg (by simp)]
   simp only[Bool.true_or,if_true]at ih
   simp only[List.length_nil,if_true]
   simp only[Bool.true_or]
   omega
  | false =>
   by_cases hq:Bu q p<0
   ·rw[if_neg (fun h=>h.2 hq)]
    rw[decide_eq_true hq]at ih ⊢
    simp at ih ⊢
    omega
   ·rw[if_pos ⟨rfl,hq⟩]
    rw[decide_eq_false hq]at ih ⊢
    simp at ih ⊢
    omega
def aH (h:AN) (a b:List AF) (n:Nat):Bool:=(Dp b ((Aj a).getD n [])).2&&!(Ju h (a.getD n (0,[])).1 (Dp b ((Aj a).getD n [])).1)
def Cw (h:AN) (a b:List AF):Nat→List (List Int)
 | 0=>[]
 | k+1=>if aH h a b k=true then GW ((Aj a).getD k []) false (Cw h a b k) else Cw h a b k
theorem Qt (h:AN) (a b:List AF):∀k,(Cw h a b k).length≤k
 | 0=>Nat.le_refl 0
 | k+1=>by
  have ih:=Qt h a b k
  unfold Cw
  split
  ·have:=WE ((Aj a).getD k []) false (Cw h a b k)
   rw[if_neg (show ¬false=true by decide)]at this
   omega
  ·omega
def Ky:Ac:={ ins:=[II,FW,FW],pre:=fun(h,a,b,_)=>WdH h∧(AY a∧0<List.length a∧Ge h a∧List.length a≤12)∧AY b∧0<List.length b∧Ge h b,out:=fun(h,a,b,_)=>[.p PN (Cw h a b (List.length a))] }
attribute [local go_sem] Ky
theorem d6:Ai Tryz.prog 23 Ky:=by
 refine AP Tryz.func23 (by kernel_rfl) rfl Tryz.ntmps23 (by decide) (by kernel_rfl) (AH [(27,Pt),(34,l9),(38,Lk),(44,aF)]) (AE aG (AE mA (AE V0 (AE A0P AI)))) ?_
 rintro w0 O0 ⟨⟨ht,hf⟩,a,b,u⟩ hc-⟨hw,⟨ga,pa,ta,la⟩,gb,pb,tb⟩
 simp only[Ky,AM]
 have hfl:(Aj a).length=List.length a:=Fq ga pa
 repeat'(first|exact trivial|refine eS rfl ?_|refine AB ?_|refine rX [0,1,2,3,4,5,6,7,8,9,10,11,17,41] hc ?_ ?_|refine rC ?_ ?_<;>intro AA<;>try(cases AA;done))
 ·exact⟨ga,pa⟩
 ·refine AK (ι:={k:Nat//k≤List.length a}) (fun k=>⟨[(3,.bp 3 [] 0),(4,.bp 4 [] 0),(5,.bp 5 [] 0),(7,.p PN (Cw (ht,hf) a b k.1)),(8,.p PN (Aj a)),(9,.p (.int .i64) (k.1:Int))],[(5,.box 24 true [.p Jm b]),(4,.box 24 true [.p Jm a]),(3,.box 37 true [.p Xx ht,.p Yq hf])]⟩) (fun k=>List.length a-k.1) ⟨0,Nat.zero_le _⟩ (AC [(5,.nm 5),(4,.nm 4),(3,.nm 3)] rfl rfl ?_ ?_) (fun k=>?_)
  ·first|exact eN|refine eM ?_
  ·first|exact eN|refine eM ?_
   rfl
  ·obtain⟨k,hk⟩:=k
   have hcl:=Qt (ht,hf) a b k
   have hs1:Cw (ht,hf) a b (k+1)=if aH (ht,hf) a b k=true then GW ((Aj a).getD k []) false (Cw (ht,hf) a b k) else Cw (ht,hf) a b k:=rfl
   have htr:=fun p=>HZ (p:=p) gb pb tb
   simp only
   generalize hcc:Cw (ht,hf) a b k=cl at *
   repeat'(first|exact trivial|refine eS rfl ?_|refine AB ?_|refine rX [0,1,2,3,4,5,6,7,8,9,10,11,17,41] hc ?_ ?_|refine rC ?_ ?_<;>intro AA<;>try(cases AA;done))
   ·exact⟨AA,gb,pb⟩
   ·have hkl:k<List.length a:=by omega
    exact⟨fun _=>Int.ofNat_lt.2 hkl,fun h=>⟨hw,(ta _ (AD (a:List AF) (0,[]) hkl)).2,(htr _ h).2⟩⟩
   ·exact⟨by assumption,by omega⟩
   ·omega
   ·have hkl:k<List.length a:=by omega
    have hb:aH (ht,hf) a b k=true:=by unfold aH;rw[AA.1,AA.2];rfl
    refine⟨⟨k+1,hkl⟩,by simp only;omega,AC [(5,.nm 5),(4,.nm 4),(3,.nm 3)] rfl rfl ?_ ?_⟩
    ·first|exact eN|refine eM ?_
    ·simp only
     rw[hs1,if_pos hb]
     first|exact eN|refine eM ?_
   ·omega
   ·have hkl:k<List.length a:=by omega
    have hb:¬aH (ht,hf) a b k=true:=by
     unfold aH
     intro h
     rw[Bool.and_eq_true]at h
     rw[AA h.1]at h
     cases h.2
    refine⟨⟨k+1,hkl⟩,by simp only;omega,AC [(5,.nm 5),(4,.nm 4),(3,.nm 3)] rfl rfl ?_ ?_⟩
    ·first|exact eN|refine eM ?_
    ·simp only
     rw[hs1,if_neg hb]
     first|exact eN|refine eM ?_
   ·have hka:k=List.length a:=by omega
    subst hka
    exact AG hc [.tmp 6] rfl (.inl rfl) (by simp) (by first|exact eR|refine Ap ?_;exact hcc.symm)
end
/- Plain: both ways find the same clashes. -/
section
theorem pS {h:AN} (hk:UQ h) (hn:Xp h) {a b:Int} (a0:0≤a) (a1:a<(h.1.length:Int)) (b0:0≤b) (b1:b<(h.1.length:Int)):(CX h a b).2=(Ba h a b).2:=by
 obtain⟨p1,p2⟩:=pO hk hn a0 a1 b0 b1
 obtain⟨q1,q2⟩:=HO hk a0 a1 b0 b1
 cases h6:(CX h a b).2 with
 | true =>
  obtain⟨x0,x1,x2,x3⟩:=p1 h6
  exact(q2 _ x0 x1 x2 x3).1.symm
 | false =>
  cases hm:(Ba h a b).2 with
  | false=>rfl
  | true =>
   obtain⟨x0,x1,x2,x3⟩:=q1 hm
   have:=(p2 _ x0 x1 x2 x3).1
   rw[h6]at this
   cases this
theorem WF {h:AN} (hk:UQ h) (hn:Xp h) {a b:Int} (a1:a<(h.1.length:Int)) (b1:b<(h.1.length:Int)):Ju h a b=CA h a b:=by
 unfold Ju CA
 by_cases a0:a<0
 ·rw[decide_eq_true a0];rfl
 ·by_cases b0:b<0
  ·rw[decide_eq_true b0];simp
  ·rw[pS hk hn (by omega) a1 (by omega) b1]
theorem WG {h:AN} (hk:UQ h) (hn:Xp h):∀ {a b:List Int},aQ h a→aQ h b→Bl (Ju h) a b=Bl (CA h) a b
 | [],_,_,_=>by simp[Bl]
 | _ :: _,[],_,_=>by simp[Bl]
 | x :: a,y :: b,ha,hb=>by
  unfold Bl
  rw[WF hk hn (ha x (by simp)) (hb y (by simp)),WG hk hn (fun z hz=>ha z (by simp[hz])) (fun z hz=>hb z (by simp[hz]))]
theorem d7 {h:AN} (hk:UQ h) {a b:Int} (a1:a<(h.1.length:Int)) (b1:b<(h.1.length:Int)):CA h a b=CA h b a:=by
 unfold CA
 by_cases a0:a<0
 ·rw[decide_eq_true a0];simp
 ·by_cases b0:b<0
  ·rw[decide_eq_true b0];simp
  ·have e:(Ba h a b).2=(Ba h b a).2:=by
    obtain⟨p1,p2⟩:=HO hk (a:=a) (b:=b) (by omega) a1 (by omega) b1
    obtain⟨q1,q2⟩:=HO hk (a:=b) (b:=a) (by omega) b1 (by omega) a1
    cases h6:(Ba h a b).2 with
    | true =>
     obtain⟨x0,x1,x2,x3⟩:=p1 h6
     exact(q2 _ x0 x1 x3 x2).1.symm
    | false =>
     cases hm:(Ba h b a).2 with
     | false=>rfl
     | true =>
      obtain⟨x0,x1,x2,x3⟩:=q1 hm
      have:=(p2 _ x0 x1 x3 x2).1
      rw[h6]at this
      cases this
   rw[decide_eq_false a0,decide_eq_false b0,e]
theorem WH {h:AN} (hk:UQ h):∀ {a b:List Int},aQ h a→aQ h b→Bl (CA h) a b=Bl (CA h) b a
 | [],[],_,_=>rfl
 | [],_ :: _,_,_=>rfl
 | _ :: _,[],_,_=>rfl
 | x :: a,y :: b,ha,hb=>by
  unfold Bl
  rw[d7 hk (ha x (by simp)) (hb y (by simp)),WH hk (fun z hz=>ha z (by simp[hz])) (fun z hz=>hb z (by simp[hz]))]
theorem WJ (c:Int→Int→Bool):∀(a b:List Int) (n:Nat),Bl c a b=true→Bl c (a.take n) b=true
 | [],b,n,_=>by simp[Bl]
 | _ :: _,[],n,_=>by cases n<;>simp[Bl]
 | x :: a,y :: b,0,_=>by simp[Bl]
 | x :: a,y :: b,n+1,h=>by
  unfold Bl at h
  rw[Bool.and_eq_true]at h
  rw[List.take_succ_cons]
  unfold Bl
  rw[h.1,WJ c a b n h.2]
  rfl
theorem Tr {p:List Int}:∀ {l:List (List Int)},p∉l→GW p true l=l
 | [],_=>rfl
 | q :: l,h=>by
  rw[Ex,if_neg (by simp),if_neg (fun e=>h (by simp[e])),Bool.true_or,Tr (fun hm=>h (by simp[hm]))]
  rfl
theorem WK {p:List Int}:∀ {l:List (List Int)},p∉l→GW p false l=aC p l
 | [],_=>rfl
 | q :: l,h=>by
  have ha:=Fu q p
  unfold aC
  rw[Ex,if_neg (fun e:q=p=>h (by simp[e]))]
  by_cases hq:Bu q p<0
  ·rw[if_neg (fun e=>e.2 hq),if_neg (by omega),decide_eq_true hq]
   show []++([q]++GW p false l)=_
   rw[WK (fun hm=>h (by simp[hm]))]
   rfl
  ·rw[if_pos ⟨rfl,hq⟩,if_pos (by omega),decide_eq_false hq]
   show [p]++([q]++GW p true l)=_
   rw[Tr (fun hm=>h (by simp[hm]))]
   rfl
theorem Jd {h:AN} (h64:h.2.length≤64) {f:List AF} (vf:VF h f) (hs:Ew f):∀(k:Nat) (i:Int),i.toNat≤k→0≤i→i<(f.length:Int)→Cb f 0 ((Aj f).getD i.toNat [])=some i:=by
 obtain⟨C,c0,c1,c2,-⟩:=Vj vf.good hs vf.pos
 have key:∀(k:Nat) (i:Int),i.toNat≤k→0≤i→i<(f.length:Int)→i∈C:=by
  intro k
  induction k with
  | zero =>
   intro i hk i0 i1
   rw[show i=0 by omega]
   exact c0
  | succ k ih =>
   intro i hk i0 i1
   by_cases hi:i=0
   ·rw[hi];exact c0
   ·obtain⟨j,j0,j1,a,ha,e⟩:=vf.ro i (by omega) i1
    rw[←e]
    exact c1 j (ih j (by omega) j0 (by omega)) a ha
 exact fun k i hk i0 i1=>c2 i (key k i hk i0 i1)
theorem pT {h:AN} (h64:h.2.length≤64) {f:List AF} (vf:VF h f) (hs:Ew f) {i j:Nat} (hi:i<f.length) (hj:j<f.length) (e:(Aj f).getD i []=(Aj f).getD j []):i=j:=by
 have h1:=Jd h64 vf hs i (i:Int) (by omega) (by omega) (by omega)
 have h2:=Jd h64 vf hs j (j:Int) (by omega) (by omega) (by omega)
 rw[Int.toNat_natCast]at h1 h2
 rw[e,h2]at h1
 have:=Option.some.inj h1
 omega
theorem d8 {h:AN} (hk:UQ h) (hn:Xp h) (h64:h.2.length≤64) {a b:List AF} (va:VF h a) (hs:Ew a) (vb:VF h b):Cw h a b a.length=B6 h a b:=by
 have hB:∀k,k<a.length→aH h a b k=aR h a b k:=fun k hkl=>by
  unfold aH aR
  cases ht:(Dp b ((Aj a).getD k [])).2 with
  | false=>rfl
  | true =>
   have hr:=HZ vb.good vb.pos vb.ty ht
   have h1:=va.ty _ (AD a (0,[]) hkl)
   rw[WF hk hn h1.2 hr.2]
   unfold CA
   rw[decide_eq_false (Int.not_lt.2 h1.1),decide_eq_false (Int.not_lt.2 hr.1)]
   rfl
 have key:∀k,k≤a.length→(Cw h a b k).Perm (DU h a b k)∧(Cw h a b k).Pairwise (fun x y=>Bu x y≤0):=by
  intro k
  induction k with
  | zero=>exact fun _=>⟨List.Perm.refl _,List.Pairwise.nil⟩
  | succ k ih =>
   intro hkl
   obtain⟨i1,i2⟩:=ih (by omega)
   unfold Cw
   rw[hB k hkl]
   cases hb:aR h a b k with
   | false =>
    rw[if_neg (by simp),aE hb]
    exact⟨i1,i2⟩
   | true =>
    have hno:(Aj a).getD k []∉Cw h a b k:=fun hm=>by
     have hm:=i1.mem_iff.1 hm
     unfold DU at hm
     obtain⟨j,hj,e⟩:=List.mem_map.1 hm
     have hjk:=List.mem_range.1 (List.mem_filter.1 hj).1
     have:=pT h64 va hs (by omega) hkl e
     omega
    rw[if_pos rfl,aD hb,WK hno]
    refine⟨?_,Tp _ i2⟩
    exact((Lm _ _).trans (i1.cons _)).trans (List.perm_append_singleton _ _).symm
 obtain⟨k1,k2⟩:=key a.length (Nat.le_refl _)
 unfold B6
 refine List.Perm.eq_of_pairwise (le:=fun a b=>Bu a b≤0) (fun x y _ _ h1 h2=>?_) k2 (Ps _) (k1.trans (Fv _).symm)
 have:=Fu x y
 exact Ft.1 (by omega)
end
/- Functions of grammarlabref07: Check. -/
section
attribute [local go_sem] Ph Mx
def ftR (h:AN) (a:Int×Int):Bool:=decide (a.1<(h.2.length:Int))
def pU (h:AN) (x:AF):Bool:=decide (x.1<(h.1.length:Int))&&x.2.all (ftR h)
def Je (h:AN) (f:List AF):Int:=if (B4 f).2≠0 then (B4 f).2 else if f.all (pU h)=false then 2 else if (CU f (B4 f).1==0)=false then 3 else 0
def Rj:Ac:={ ins:=[II,FW],pre:=fun(_,f,_)=>HP f,out:=fun(h,f,_)=>[.p Yp (Je h f)] }
theorem pV:Ai Tryz.prog 39 Rj:=by
 refine AP Tryz.func39 (by kernel_rfl) rfl Tryz.ntmps39 (by decide) (by kernel_rfl) (AH [(31,Ph),(32,Mx)]) (AE Zd (AE ZY AI)) ?_
 rintro w0 O0 ⟨⟨ht,hf⟩,f,u⟩ hc-hs
 have hs:HP f:=hs
 simp only[Rj,AM]
 repeat'(first|exact trivial|refine eS rfl ?_|refine AB ?_|refine rX [0,1,2,3,4,5,6,7,8,9,16,22,35,40,52,56] hc ?_ ?_|refine rC ?_ ?_<;>intro AA<;>try(cases AA;done))
 ·exact hs.2
 ·have h1:Je (ht,hf) f=(B4 f).2:=by unfold Je;rw[if_pos AA]
  exact AG hc [.tmp 4] rfl (.inl rfl) (by simp) (by rw[h1];first|exact eR|refine Ap ?_)
 ·have hz:(B4 f).2=0:=by simpa using AA
  have hsc:=Qm hs.2
  have hfl:=hs.1
  have hr:Je (ht,hf) f=if f.all (pU (ht,hf))=false then 2 else if (CU f (B4 f).1==0)=false then 3 else 0:=by unfold Je;rw[if_neg (by rw[hz];simp)]
  refine AK (ι:={i:Nat//i≤f.length∧(f.take i).all (pU (ht,hf))=true}) (fun i=>⟨[(2,.bp 2 [] 0),(3,.bp 3 [] 0),(5,.bp 5 [] 0),(7,.p (.int .i64) (i.1:Int))],[(2,.box 37 true [.p Xx ht,.p Yq hf]),(3,.box 24 true [.p Jm f]),(5,.box 24 true [.p Jm (B4 f).1])]⟩) (fun i=>f.length-i.1) ⟨0,by simp⟩ (AC [(2,.nm 2),(3,.nm 3),(5,.nm 5)] rfl rfl ?_ ?_) (fun i=>?_)
  ·first|exact eN|refine eM ?_
  ·first|exact eN|refine eM ?_
  ·obtain⟨i,hi,hall⟩:=i
   have hsn:=fun h:i<f.length=>Io f (0,[]) (pU (ht,hf)) h
   simp only
   repeat'(first|exact trivial|refine eS rfl ?_|refine AB ?_|refine rX [0,1,2,3,4,5,6,7,8,9,16,22,35,40,52,56] hc ?_ ?_|refine rC ?_ ?_<;>intro AA<;>try(cases AA;done))
   ·exact AA
   ·have hif:i<f.length:=Int.ofNat_lt.1 (by assumption)
    have e:f.all (pU (ht,hf))=false:=by
     rw[List.all_eq_false]
     refine⟨_,AD f (0,[]) hif,?_⟩
     unfold pU
     rw[decide_eq_false (Int.not_lt.2 AA)]
     simp
    rw[if_pos e]at hr
    exact AG hc [.tmp 4] rfl (.inl rfl) (by simp) (by rw[hr];first|exact eR|refine Ap ?_)
   ·have hif:i<f.length:=Int.ofNat_lt.1 (by assumption)
    have hm:=AD f (0,[]) hif
    have hnd:pU (ht,hf) (f.getD i (0,[]))=(f.getD i (0,[])).2.all (ftR (ht,hf)):=by
     unfold pU
     rw[decide_eq_true (show (f.getD i (0,[])).1<(ht.length:Int) from AA)]
     rfl
    have hal:(f.getD i (0,[])).2.length≤100000:=hs.2 _ hm
    refine AK (ι:={k:Nat//k≤(f.getD i (0,[])).2.length∧((f.getD i (0,[])).2.take k).all (ftR (ht,hf))=true}) (fun k=>⟨[(2,.bp 2 [] 0),(3,.bp 3 [] 0),(5,.bp 5 [] 0),(7,.p (.int .i64) (i:Int)),(8,.bp 8 [] 0),(9,.p (.int .i64) (k.1:Int))],[(2,.box 37 true [.p Xx ht,.p Yq hf]),(3,.box 24 true [.p Jm f]),(5,.box 24 true [.p Jm (B4 f).1]),(8,.box 61 true [.p T3 (f.getD i (0,[])).1,.p Ee (f.getD i (0,[])).2])]⟩) (fun k=>(f.getD i (0,[])).2.length-k.1) ⟨0,by simp⟩ (AC [(2,.nm 2),(3,.nm 3),(5,.nm 5),(8,.nm 8)] rfl rfl ?_ ?_) (fun k=>?_)
    ·first|exact eN|refine eM ?_
    ·first|exact eN|refine eM ?_
    ·obtain⟨k,hk,hall2⟩:=k
     have hsn2:=fun h:k<(f.getD i (0,[])).2.length=>Io (f.getD i (0,[])).2 (0,0) (ftR (ht,hf)) h
     simp only
     repeat'(first|exact trivial|refine eS rfl ?_|refine AB ?_|refine rX [0,1,2,3,4,5,6,7,8,9,16,22,35,40,52,56] hc ?_ ?_|refine rC ?_ ?_<;>intro AA<;>try(cases AA;done))
     ·exact AA
     ·have hkL:k<(f.getD i (0,[])).2.length:=Int.ofNat_lt.1 (by assumption)
      have e:f.all (pU (ht,hf))=false:=by
       rw[List.all_eq_false]
       refine⟨_,hm,?_⟩
       rw[hnd,List.all_eq_false.2 ⟨_,AD (f.getD i (0,[])).2 (0,0) hkL,by unfold ftR;rw[decide_eq_false (Int.not_lt.2 AA)];simp⟩]
       simp
      rw[if_pos e]at hr
      exact AG hc [.tmp 4] rfl (.inl rfl) (by simp) (by rw[hr];first|exact eR|refine Ap ?_)
     ·exact eV
     ·have hkL:k<(f.getD i (0,[])).2.length:=Int.ofNat_lt.1 (by assumption)
      refine⟨⟨k+1,hkL,?_⟩,by simp only;omega,AC [(2,.nm 2),(3,.nm 3),(5,.nm 5),(8,.nm 8)] rfl rfl ?_ ?_⟩
      ·rw[hsn2 hkL,hall2]
       unfold ftR
       exact decide_eq_true AA
      ·first|exact eN|refine eM ?_
      ·first|exact eN|refine eM ?_
     ·exact eV
     ·have hkL:(f.getD i (0,[])).2.take k=(f.getD i (0,[])).2:=List.take_of_length_le (Int.ofNat_le.1 AA)
      rw[hkL]at hall2
      refine⟨⟨i+1,hif,?_⟩,by simp only;omega,AC [(2,.nm 2),(3,.nm 3),(5,.nm 5)] rfl rfl ?_ ?_⟩
      ·rw[hsn hif,hall,hnd,hall2]
       rfl
      ·first|exact eN|refine eM ?_
      ·first|exact eN|refine eM ?_
   ·exact⟨hs,hsc⟩
   ·have hif:f.take i=f:=List.take_of_length_le (Int.ofNat_le.1 (by assumption))
    rw[hif]at hall
    rw[if_neg (by rw[hall];simp),if_pos (by simpa using AA)]at hr
    exact AG hc [.tmp 4] rfl (.inl rfl) (by simp) (by rw[hr];first|exact eR|refine Ap ?_)
   ·have hif:f.take i=f:=List.take_of_length_le (Int.ofNat_le.1 (by assumption))
    rw[hif]at hall
    rw[if_neg (by rw[hall];simp),if_neg (by rw[AA];simp)]at hr
    exact AG hc [.tmp 4] rfl (.inl rfl) (by simp) (by rw[hr];first|exact eR|refine Ap ?_)
def Kz (h:AN) (f:List AF):Bool:=GR f&&Je h f==0
end
/- Plain: what is valid for a hierarchy is canonical. -/
section
theorem K0 (d:List AJ):(A8 d).1.1.length≤256∧(A8 d).1.2.length≤64:=by
 unfold A8
 split
 ·exact⟨by simp,by simp⟩
 ·rename_i hv
  have hv:(BJ d).2=0:=Classical.byContradiction hv
  have h5:BH d=0:=by
   unfold BJ at hv
   split at hv
   ·rename_i h;exact absurd hv h
   ·rename_i h;exact Classical.byContradiction h
  obtain⟨hz,hf64,-⟩:=CK h5
  obtain⟨-,hlen,-⟩:=Be hz
  refine⟨?_,?_⟩
  ·show (Eg _ _ _).length≤256
   rw[Lc,HL]
   exact hlen
  ·show (EM d).1.length≤64
   unfold EM
   rw[if_neg (by rw[h5];simp)]
   show ((DP d).map (S5 d)).length≤64
   rw[List.length_map]
   exact hf64
theorem aI {H:AN} (hb1:H.1.length≤256) (hb2:H.2.length≤64) {f:List AF} (h:Kz H f=true):AY f∧Ew f∧0<f.length∧Ge H f∧BB f=true∧f.length≤12∧∀x∈f,∀a∈x.2,0≤a.1∧a.1<(H.2.length:Int):=by
 unfold Kz at h
 rw[Bool.and_eq_true,beq_iff_eq]at h
 obtain⟨hl,hc⟩:=h
 unfold Je at hc
 split at hc
 ·rename_i h1;exact absurd hc h1
 ·rename_i h1
  split at hc
  ·cases hc
  ·rename_i h2
   split at hc
   ·cases hc
   ·rename_i h3
    have h1:(B4 f).2=0:=Classical.byContradiction h1
    have h2:f.all (pU H)=true:=by simpa using h2
    have h3:CU f (B4 f).1=0:=by simpa using h3
    have hcan:BB f=true:=by
     unfold BB
     simp only[Bool.and_eq_true,beq_iff_eq]
     refine⟨⟨hl,?_⟩,h1,?_⟩
     ·rw[List.all_eq_true]at h2 ⊢
      intro x hx
      have:=h2 x hx
      unfold pU at this
      rw[Bool.and_eq_true,decide_eq_true_eq,List.all_eq_true]at this
      unfold wO
      rw[Bool.and_eq_true,decide_eq_true_eq,List.all_eq_true]
      refine⟨by omega,fun a ha=>?_⟩
      have:=this.2 a ha
      unfold ftR at this
      rw[decide_eq_true_eq]at this
      unfold ftB
      rw[decide_eq_true_eq]
      omega
     ·rw[←Kr h3]
      exact UU f
    obtain⟨g1,g2,g3,-⟩:=HV hcan
    have hz:D7 f=0:=by
     unfold B4 at h1
     split at h1
     ·rename_i hh;exact hh
     ·exact h1
    have hzg:Jq (f.length:Int) f=0:=by
     unfold D7 at hz
     split at hz
     ·cases hz
     ·split at hz
      ·cases hz
      ·exact hz
    refine⟨g1,g2,g3,fun x hx=>?_,hcan,(Hx hl).1,fun x hx a ha=>?_⟩
    ·have h5:=List.all_eq_true.1 h2 x hx
     unfold pU at h5
     rw[Bool.and_eq_true,decide_eq_true_eq]at h5
     exact⟨(JW hzg x hx).1,h5.1⟩
    ·have h5:=List.all_eq_true.1 h2 x hx
     unfold pU at h5
     rw[Bool.and_eq_true,List.all_eq_true]at h5
     have h6:=h5.2 a ha
     unfold ftR at h6
     rw[decide_eq_true_eq]at h6
     exact⟨((JW hzg x hx).2 a ha).1,h6⟩
end
/- Plain: what is valid for a hierarchy, and the laws of unification. -/
section
theorem A1Z {f:List AF} (hf:AY f) (hs:Ew f) (h0:0<f.length) (hc:BB f=true):RO f:=by
 have h1:=A0s hf hs h0 (fun _ _=>true)
 rwa [dJ hc fun _ _ _ _=>rfl]at h1
theorem v5 {h:AN} (hb1:h.1.length≤256) (hb2:h.2.length≤64) {f:List AF} (hv:Kz h f=true):VF h f∧f.length≤12:=by
 obtain⟨g1,g2,g3,g4,g5,g6,g7⟩:=aI hb1 hb2 hv
 exact⟨⟨g1,g3,g4,fun x hx=>(Iu _).1 (g2 x hx).1,g7,MF g5,A1Z g1 g2 g3 g5⟩,g6⟩
theorem VF.srt {h:AN} (hu:HU h) {f:List AF} (hv:VF h f):Ew f:=fun x hx=>by
 have:=dV (hv.str x hx) (hv.ft64 hu x hx)
 exact⟨(Iu _).2 (hv.str x hx),by omega⟩
theorem Oj {h:AN} {a b:List AF} (ha:VF h a) (hb:VF h b):OZ h a b=true↔∃m,Qr h a b m :=
 ⟨fun g=>A1L ha.good ha.pos hb.good hb.pos g,fun⟨m,hm⟩=>A0r ha.good ha.pos ha.ro hm⟩
end
/- Plain: there is a unification if there is a structure that both subsume. -/
section
/-! What the statements ask -/
structure H11 (h:AN):Prop where
 hu:HU h
 top:A4e h
 b1:h.1.length≤256
theorem Qu (d:List AJ):H11 (A8 d).1:=⟨⟨Kp d,Zw d,(K0 d).2⟩,Z7 d,(K0 d).1⟩
theorem pW {h:AN} {a b:List AF} (va:VF h a) (vb:VF h b) (ho:(EW h a b).2=true):VF h (EW h a b).1∧OZ h a (EW h a b).1=true∧OZ h b (EW h a b).1=true∧(EW h a b).1.length≤a.length+b.length:=by
 have hU:=Z1 ho
 exact⟨hU.vf,(Oj va hU.vf).2 hU.left,(Oj vb hU.vf).2 hU.right,hU.len⟩
end
/- Plain: vectors, clashes and unification. -/
section
theorem Ts {h:AN} (h64:h.2.length≤64) {f:List AF} (vf:VF h f) (p:List Int):Dp f p=match Cb f 0 p with|some m=>((f.getD m.toNat (0,[])).1,true)|none=>(0,false):=by
 unfold Dp
 rw[Z8 vf.good vf.str]
 cases Cb f 0 p<;>rfl
theorem Pu {h:AN} (h64:h.2.length≤64) {a:List AF} (va:VF h a) (hs:Ew a) {i:Nat} (hi:i<a.length):Dp a ((Aj a).getD i [])=((a.getD i (0,[])).1,true):=by
 have h1:=Jd h64 va hs i (i:Int) (by omega) (by omega) (by omega)
 rw[Int.toNat_natCast]at h1
 rw[Ts h64 va,h1]
 rfl
theorem Pv (c:Int→Int→Bool):∀(a b:List Int),a.length=b.length→(Bl c a b=true↔∀i,i<a.length→c (a.getD i 0) (b.getD i 0)=true)
 | [],[],_=>by simp[Bl]
 | x :: a,y :: b,hl=>by
  unfold Bl
  rw[Bool.and_eq_true,Pv c a b (by simpa using hl)]
  constructor
  ·rintro⟨h1,h2⟩ i hi
   cases i with
   | zero=>exact h1
   | succ i=>exact h2 i (by simpa using hi)
  ·intro hh
   exact⟨hh 0 (by simp),fun i hi=>hh (i+1) (by simpa using hi)⟩
 | [],_ :: _,hl=>by simp at hl
 | _ :: _,[],hl=>by simp at hl
theorem Iy (f:List AF) (ps:List (List Int)) {i:Nat} (hi:i<ps.length):(Ei f ps).getD i 0=if (Dp f (ps.getD i [])).2=true then (Dp f (ps.getD i [])).1 else -1:=by
 unfold Ei
 rw[List.getD_eq_getElem?_getD,List.getElem?_map,List.getElem?_eq_getElem hi,List.getD_eq_getElem?_getD,List.getElem?_eq_getElem hi]
 rfl
theorem Iz (f:List AF) (ps:List (List Int)):(Ei f ps).length=ps.length:=by simp[Ei]
theorem Tt {h:AN} (h64:h.2.length≤64) {a b:List AF} (va:VF h a) (hs:Ew a) (vb:VF h b) {i:Nat} (hi:i<a.length) :
  CA h (if (Dp a ((Aj a).getD i [])).2=true then (Dp a ((Aj a).getD i [])).1 else -1) (if (Dp b ((Aj a).getD i [])).2=true then (Dp b ((Aj a).getD i [])).1 else -1)=!aR h a b i:=by
 have ht:=Pu h64 va hs hi
 have h0:=va.ty _ (AD a (0,[]) hi)
 rw[ht]
 unfold aR
 cases hb:(Dp b ((Aj a).getD i [])).2 with
 | false=>simp[CA]
 | true =>
  have hr:=HZ vb.good vb.pos vb.ty hb
  simp only[if_true,CA]
  rw[decide_eq_false (Int.not_lt.2 h0.1),decide_eq_false (Int.not_lt.2 hr.1)]
  simp
theorem Pw {h:AN} {a b:List AF}:B6 h a b=[]↔∀i,i<a.length→aR h a b i=false:=by
 have e:B6 h a b=[]↔DU h a b a.length=[]:=by
  unfold B6
  have:=Fv (DU h a b a.length)
  constructor
  ·intro e
   rw[e]at this
   exact this.symm.eq_nil
  ·intro e
   rw[e]
   rfl
 rw[e]
 unfold DU
 rw[List.map_eq_nil_iff,List.filter_eq_nil_iff]
 simp
theorem pX {h:AN} (h64:h.2.length≤64) {a b:List AF} (va:VF h a) (hs:Ew a) (vb:VF h b):Bl (CA h) (Ei a (Aj a)) (Ei b (Aj a))=decide (((B6 h a b).length:Int)=0):=by
 have hfl:(Aj a).length=a.length:=Fq va.good va.pos
 have key:Bl (CA h) (Ei a (Aj a)) (Ei b (Aj a))=true↔B6 h a b=[]:=by
  rw[Pv _ _ _ (by rw[Iz,Iz]),Pw,Iz,hfl]
  constructor
  ·intro hh i hi
   have:=hh i hi
   rw[Iy _ _ (by omega),Iy _ _ (by omega),Tt h64 va hs vb hi]at this
   simpa using this
  ·intro hh i hi
   rw[Iy _ _ (by omega),Iy _ _ (by omega),Tt h64 va hs vb hi,hh i hi]
   rfl
 cases hf:Bl (CA h) (Ei a (Aj a)) (Ei b (Aj a)) with
 | true=>rw[key.1 hf];rfl
 | false =>
  symm
  rw[decide_eq_false_iff_not]
  intro e
  have:B6 h a b=[]:=List.eq_nil_of_length_eq_zero (by omega)
  rw[key.2 this]at hf
  cases hf
theorem WL {h:AN} {a b:List AF} {p:List Int} (hp:p∈B6 h a b):∃i,i<a.length∧aR h a b i=true∧p=(Aj a).getD i []:=by
 have:=(Fv (DU h a b a.length)).mem_iff.1 hp
 unfold DU at this
 obtain⟨i,hi,rfl⟩:=List.mem_map.1 this
 rw[List.mem_filter,List.mem_range]at hi
 exact⟨i,hi.1,hi.2,rfl⟩
theorem pY {h:AN} (h64:h.2.length≤64) {a b:List AF} (va:VF h a) (hs:Ew a) (vb:VF h b) {p:List Int} (hp:p∈B6 h a b):Bl (CA h) (Ei a [p]) (Ei b [p])=false:=by
 obtain⟨i,hi,hc,rfl⟩:=WL hp
 have:=Tt h64 va hs vb hi
 rw[hc]at this
 simp only[Ei,List.map_cons,List.map_nil,Bl]
 rw[this]
 rfl
theorem d9 {h:AN} (hk:UQ h) (h64:h.2.length≤64) {a:List AF} (va:VF h a) (hs:Ew a):B6 h a a=[]:=by
 rw[Pw]
 intro i hi
 unfold aR
 have h0:=va.ty _ (AD a (0,[]) hi)
 rw[Pu h64 va hs hi]
 have:=((HO hk h0.1 h0.2 h0.1 h0.2).2 _ h0.1 h0.2 (Lf h _) (Lf h _)).1
 simp only[this]
 rfl
theorem WM {h:AN} (hu:HU h) {a b U:List AF} (va:VF h a) (vb:VF h b) (vU:VF h U) (g1:OZ h a U=true) (g2:OZ h b U=true) (p:List Int) (ha:(Dp a p).2=true) (hb:(Dp b p).2=true):(Ba h (Dp a p).1 (Dp b p).1).2=true:=by
 obtain⟨m1,h1⟩:=(Oj va vU).1 g1
 obtain⟨m2,h2⟩:=(Oj vb vU).1 g2
 have r1:=HZ va.good va.pos va.ty ha
 have r2:=HZ vb.good vb.pos vb.ty hb
 have w1:=Ts hu.ft va p
 have w2:=Ts hu.ft vb p
 cases e1:Cb a 0 p with
 | none=>rw[e1]at w1;rw[w1]at ha;cases ha
 | some n1 =>
  cases e2:Cb b 0 p with
  | none=>rw[e2]at w2;rw[w2]at hb;cases hb
  | some n2 =>
   rw[e1]at w1
   rw[e2]at w2
   obtain⟨a0,a1,k1⟩:=Zn va.good vU.good (vU.srt hu) h1 va.pos p n1 e1
   obtain⟨b0,b1,k2⟩:=Zn vb.good vU.good (vU.srt hu) h2 vb.pos p n2 e2
   rw[k1]at k2
   have k3:=Option.some.inj k2
   have t1:=h1.ty n1 a0 a1
   have t2:=h2.ty n2 b0 b1
   rw[←k3]at t2
   obtain⟨q0,q1⟩:=h1.rng n1 a0 a1
   have hx:=vU.ty _ (AD U (0,[]) (show (m1 n1).toNat<U.length by omega))
   rw[w1]at r1 ⊢
   rw[w2]at r2 ⊢
   exact((HO hu.ok r1.1 r1.2 r2.1 r2.2).2 _ hx.1 hx.2 t1 t2).1
theorem pZ {h:AN} (hu:HU h) {a b:List AF} (va:VF h a) (vb:VF h b) (ho:(EW h a b).2=true) (ps:List (List Int)):Bl (CA h) (Ei a ps) (Ei b ps)=true∧B6 h a b=[]:=by
 obtain⟨vU,g1,g2,-⟩:=pW va vb ho
 constructor
 ·rw[Pv _ _ _ (by rw[Iz,Iz]),Iz]
  intro i hi
  rw[Iy _ _ hi,Iy _ _ hi]
  unfold CA
  cases ha:(Dp a (ps.getD i [])).2 with
  | false=>simp
  | true =>
   cases hb:(Dp b (ps.getD i [])).2 with
   | false=>simp
   | true =>
    simp only[if_true]
    rw[WM hu va vb vU g1 g2 _ ha hb]
    simp
 ·rw[Pw]
  intro i hi
  unfold aR
  cases hb:(Dp b ((Aj a).getD i [])).2 with
  | false=>rfl
  | true =>
   have ht:=Pu hu.ft va (va.srt hu) hi
   have:=WM hu va vb vU g1 g2 ((Aj a).getD i []) (by rw[ht]) hb
   rw[ht]at this
   rw[this]
   rfl
theorem A0Q {h:AN} {f:List AF} (vf:VF h f) {p:List Int} {n:Int} (hw:Cb f 0 p=some n):∀x∈p,0≤x∧x<(h.2.length:Int):=by
 intro x hx
 obtain⟨k,hk,rfl⟩:=List.mem_iff_getElem.1 hx
 obtain⟨m,hm⟩:=vO hw (k+1)
 rw[List.take_add_one,List.getElem?_eq_getElem hk]at hm
 obtain⟨y,_,a,ha,e,_⟩:=Vk hm
 unfold AU at ha
 by_cases hy:y.toNat<f.length
 ·rw[←e]
  exact vf.ft _ (AD f (0,[]) hy) a ha
 ·rw[List.getD_eq_getElem?_getD,List.getElem?_eq_none (by omega)]at ha
  cases ha
theorem p3 {h:AN} (h64:h.2.length≤64) {a:List AF} (va:VF h a) (hs:Ew a) {p:List Int} (hp:p∈Aj a):p.length<a.length∧∀x∈p,0≤x∧x<64:=by
 obtain⟨C,-,-,-,c3⟩:=Vj va.good hs va.pos
 refine⟨c3 p hp,fun x hx=>?_⟩
 have hfl:(Aj a).length=a.length:=Fq va.good va.pos
 obtain⟨i,hi,e⟩:=List.mem_iff_getElem.1 hp
 have h1:=Jd h64 va hs i (i:Int) (by omega) (by omega) (by omega)
 rw[Int.toNat_natCast,List.getD_eq_getElem?_getD,List.getElem?_eq_getElem hi,Option.getD_some,e]at h1
 have:=A0Q va h1 x hx
 omega
theorem p4 {h:AN} (h64:h.2.length≤64) {a b:List AF} (va:VF h a) (hs:Ew a) {p:List Int} (hp:p∈B6 h a b):p.length<a.length∧∀x∈p,0≤x∧x<64:=by
 obtain⟨i,hi,_,rfl⟩:=WL hp
 have hfl:(Aj a).length=a.length:=Fq va.good va.pos
 exact p3 h64 va hs (AD (Aj a) [] (by omega))
theorem WN {h:AN} {a b:List AF}:(B6 h a b).length≤a.length:=by
 unfold B6
 rw[(Fv _).length_eq]
 exact Tq h a b a.length
end
/- quick.key. -/
section
def Tu (p:List Int):List Int:=p.flatMap fun x=>[Rl .i64 x 8,x]
theorem p5 {p:List Int} {k:Nat} (h:k<p.length):Tu (p.take (k+1))=Tu (p.take k)++[Rl .i64 (p.getD k 0) 8,p.getD k 0]:=by
 unfold Tu
 rw[Ae p 0 h,List.flatMap_append]
 rfl
theorem v6 (p:List Int):(Tu p).length=2*p.length:=by
 unfold Tu
 induction p with
 | nil=>rfl
 | cons x p ih=>rw[List.flatMap_cons,List.length_append,ih];simp;omega
theorem A4N {x:Int} (h0:0≤x) (h1:x<64):Rl .i64 x 8=0:=by
 show x.fdiv 256=0
 rw[Int.fdiv_eq_ediv_of_nonneg _ (by decide)]
 omega
def aJ:Ac:={ ins:=[Bx],pre:=fun(p,_)=>List.length p≤1000∧∀x∈(p:List Int),0≤x∧x<64,out:=fun(p,_)=>[.p .str (J4 (Tu p))] }
attribute [local go_sem] aJ
theorem A0R:Ai Tryz.prog 45 aJ:=by
 refine AP Tryz.func45 (by kernel_rfl) rfl Tryz.ntmps45 (by decide) (by kernel_rfl) (AH []) AI ?_
 rintro w0 O0 ⟨p,u⟩ hc-⟨hl,hx⟩
 have hl:List.length p≤1000:=hl
 simp only[aJ,AM]
 repeat'(first|exact trivial|refine eS rfl ?_|refine AB ?_|refine rX [0,2,3,5,6,7,8,9] hc ?_ ?_|refine rC ?_ ?_<;>intro AA<;>try(cases AA;done))
 refine AK (ι:={k:Nat//k≤List.length p}) (fun k=>⟨[(3,.sr 19 (.int .u8) 0 (2*k.1)),(6,.p Bx p),(7,.p (.int .i64) (List.length p:Int)),(8,.p (.int .i64) (k.1:Int))],[(19,.arr 5 (.int .u8) (Tu ((p:List Int).take k.1)))]⟩) (fun k=>List.length p-k.1) ⟨0,Nat.zero_le _⟩ (AC [(19,.nil)] rfl rfl ?_ ?_) (fun k=>?_)
 ·first|exact eN|refine eM ?_
  rfl
 ·first|exact eN|refine eM ?_
 ·obtain⟨k,hk⟩:=k
  have hkl:=v6 ((p:List Int).take k)
  rw[List.length_take,Nat.min_eq_left hk]at hkl
  have hks:=fun(h:k<List.length p)=>p5 h
  have htk:(Tu ((p:List Int).take k)).take (2*k)=Tu ((p:List Int).take k):=List.take_of_length_le (by omega)
  repeat'(first|exact trivial|refine eS rfl ?_|refine AB ?_|refine rX [0,2,3,5,6,7,8,9] hc ?_ ?_|refine rC ?_ ?_<;>intro AA<;>try(cases AA;done))
  ·exact AA
  ·have hkp:k<List.length p:=by exact eV
   have hg:=hx (List.getD p k 0) (AD (p:List Int) 0 hkp)
   rw[A4N hg.1 hg.2]
   simp only[AO]
   refine⟨⟨by decide,by decide⟩,⟨by decide,by decide⟩,⟨hg.1,Int.le_trans (Int.le_of_lt hg.2) (by decide)⟩,by omega⟩
  ·exact eV
  ·have hkp:k<List.length p:=by exact eV
   refine⟨⟨k+1,hkp⟩,by simp only;omega,AC [(19,.nm 19)] rfl rfl ?_ ?_⟩
   ·simp only
    rw[hks hkp]
    first|exact eN|refine eM ?_
    all_goals rw[htk]
   ·simp only
    rw[show 2*(k+1)=2*k+2 by omega]
    first|exact eN|refine eM ?_
  ·have hkp:(p:List Int).take k=p:=List.take_of_length_le (by exact eV)
   rw[hkp]at htk ⊢
   refine Gb [19] ?_
   rw[htk]
   repeat'(first|exact trivial|refine eS rfl ?_|refine AB ?_|refine rX [0,2,3,5,6,7,8,9] hc ?_ ?_|refine rC ?_ ?_<;>intro AA<;>try(cases AA;done))
   exact AG hc [.tmp 2] rfl (.inl rfl) (by simp) (by first|exact eR|refine Ap ?_)
end
/- The order of counted paths: quick.Train$1. -/
section
attribute [local go_sem] DB Jb
def FP (a b:List Int×Int):Int:=if a.2=b.2 then Bu a.1 b.1 else E6 b.2 a.2
def aK:Ac:={ ins:=[Lq,Lq],pre:=fun _=>True,out:=fun(a,b,_)=>[.p T3 (FP a b)],lend:=true }
attribute [local go_sem] aK
theorem A0S:Ai Tryz.prog 47 aK:=by
 refine AP Tryz.func47 (by kernel_rfl) rfl Tryz.ntmps47 (by decide) (by kernel_rfl) (AH [(48,DB),(43,Jb)]) (AE IP (AE WA AI)) ?_
 rintro w0 O0 ⟨⟨ap,an⟩,⟨bp,bn⟩,u⟩ hc - -
 simp only[aK,AM]
 repeat'(first|exact trivial|refine eS rfl ?_|refine AB ?_|refine rX [0,1,2,3,4,9] hc ?_ ?_|refine rC ?_ ?_<;>intro AA<;>try(cases AA;done))
 ·have h1:FP (ap,an) (bp,bn)=E6 bn an:=if_neg AA
  exact AG hc [.tmp 4] rfl (.inl rfl) (by simp) (by rw[h1];first|exact eR|refine Ap ?_)
 ·have h1:FP (ap,an) (bp,bn)=Bu ap bp:=if_pos (by simpa using AA)
  exact AG hc [.tmp 4] rfl (.inl rfl) (by simp) (by rw[h1];first|exact eR|refine Ap ?_)
theorem Px {a b:List Int×Int}:FP a b=0↔a=b:=by
 unfold FP
 split
 ·rename_i h
  rw[Ft]
  exact⟨fun e=>Prod.ext e h,fun e=>by rw[e]⟩
 ·rename_i h
  rw[CB]
  exact⟨fun e=>absurd e.symm h,fun e=>absurd (by rw[e]) h⟩
theorem Py (a b:List Int×Int):FP b a=- FP a b:=by
 unfold FP
 by_cases h:a.2=b.2
 ·rw[if_pos h,if_pos h.symm,Fu]
 ·rw[if_neg h,if_neg (fun e=>h e.symm),Pr]
theorem eB {a b c:List Int×Int} (h1:FP a b<0) (h2:FP b c<0):FP a c<0:=by
 unfold FP at h1 h2 ⊢
 by_cases e1:a.2=b.2
 ·rw[if_pos e1]at h1
  by_cases e2:b.2=c.2
  ·rw[if_pos e2]at h2
   rw[if_pos (e1.trans e2)]
   exact Tn h1 h2
  ·rw[if_neg e2]at h2
   rw[if_neg (fun e=>e2 (e1.symm.trans e)),e1]
   exact h2
 ·rw[if_neg e1]at h1
  have h1:=Cm.1 h1
  by_cases e2:b.2=c.2
  ·rw[if_neg (fun e=>e1 (e.trans e2.symm)),←e2]
   exact Cm.2 h1
  ·rw[if_neg e2]at h2
   have h2:=Cm.1 h2
   rw[if_neg (by omega)]
   exact Cm.2 (by omega)
end
/- The insertion sort of counted paths. -/
section
attribute [local go_sem] aK
theorem MK {p q r:List Int×Int} (h1:FP p q≤0) (h2:FP q r≤0):FP p r≤0:=by
 by_cases e1:FP p q=0
 ·rw[Px.1 e1];exact h2
 ·by_cases e2:FP q r=0
  ·rw[←Px.1 e2];exact h1
  ·have:=eB (a:=p) (b:=q) (c:=r) (by omega) (by omega)
   omega
def aL (m:List (List Int×Int)) (i j:Nat):Prop:=(∀a b,a<b→b≤i→a≠j→b≠j→FP (m.getD a ([],0)) (m.getD b ([],0))≤0)∧∀b,j<b→b≤i→FP (m.getD j ([],0)) (m.getD b ([],0))≤0
def Tv (m:List (List Int×Int)) (i:Nat):Prop:=∀a b,a<b→b<i→FP (m.getD a ([],0)) (m.getD b ([],0))≤0
theorem aM {m:List (List Int×Int)} {i:Nat} (h:Tv m i):aL m i i:=⟨fun a b h1 h2 h3 h4=>h a b h1 (by omega),fun b h1 h2=>by omega⟩
theorem p6 {m:List (List Int×Int)} {i j:Nat} (h:aL m i j) (hj:j≤i) (he:j=0∨0≤FP (m.getD j ([],0)) (m.getD (j-1) ([],0))):Tv m (i+1):=by
 intro a b h1 h2
 by_cases e1:a=j
 ·subst e1
  exact h.2 b h1 (by omega)
 ·by_cases e2:b=j
  ·subst e2
   have he:FP (m.getD (b-1) ([],0)) (m.getD b ([],0))≤0:=by
    rw[Py (m.getD b ([],0)) (m.getD (b-1) ([],0))]
    omega
   by_cases e3:a=b-1
   ·subst e3;exact he
   ·exact MK (h.1 a (b-1) (by omega) (by omega) e1 (by omega)) he
  ·exact h.1 a b h1 (by omega) e1 e2
def eC (m:List (List Int×Int)) (j:Nat):List (List Int×Int):=(m.set j (m.getD (j-1) ([],0))).set (j-1) (m.getD j ([],0))
theorem p7 {m:List (List Int×Int)} {j:Nat} (h:j<m.length):(eC m j).Perm m:=by
 have h2:j-1<m.length:=by omega
 have e1:m.getD (j-1) ([],0)=m[j-1]:=by rw[List.getD_eq_getElem?_getD,List.getElem?_eq_getElem h2];rfl
 have e2:m.getD j ([],0)=m[j]:=by rw[List.getD_eq_getElem?_getD,List.getElem?_eq_getElem h];rfl
 unfold eC
 rw[e1,e2]
 exact List.set_set_perm h h2
theorem v7 {m:List (List Int×Int)} {j:Nat} (h0:0<j) (h:j<m.length) (k:Nat):(eC m j).getD k ([],0)=if k=j-1 then m.getD j ([],0) else if k=j then m.getD (j-1) ([],0) else m.getD k ([],0):=by
 unfold eC
 simp only[List.getD_eq_getElem?_getD,List.getElem?_set,List.length_set]
 by_cases e1:j-1=k
 ·rw[if_pos e1,if_pos (by omega),if_pos e1.symm]
  rfl
 ·rw[if_neg e1]
  by_cases e2:j=k
  ·rw[if_pos e2,if_pos (by omega),if_neg (show ¬k=j-1 by omega),if_pos e2.symm]
   rfl
  ·rw[if_neg e2,if_neg (show ¬k=j-1 by omega),if_neg (show ¬k=j by omega)]
theorem eD {m:List (List Int×Int)} {i j:Nat} (h:aL m i j) (h0:0<j) (hj:j≤i) (hi:i<m.length) (hlt:FP (m.getD j ([],0)) (m.getD (j-1) ([],0))<0):aL (eC m j) i (j-1):=by
 have hg:=v7 h0 (show j<m.length by omega)
 refine⟨fun a b h1 h2 h3 h4=>?_,fun b h1 h2=>?_⟩
 ·rw[hg a,hg b,if_neg h3,if_neg h4]
  by_cases e1:a=j
  ·subst e1
   rw[if_pos rfl,if_neg (by omega)]
   exact h.1 (a-1) b (by omega) h2 (by omega) (by omega)
  ·rw[if_neg e1]
   by_cases e2:b=j
   ·rw[if_pos e2]
    exact h.1 a (j-1) (by omega) (by omega) e1 (by omega)
   ·rw[if_neg e2]
    exact h.1 a b h1 h2 e1 e2
 ·rw[hg (j-1),hg b,if_pos rfl,if_neg (by omega)]
  by_cases e2:b=j
  ·rw[if_pos e2]
   omega
  ·rw[if_neg e2]
   exact h.2 b (by omega) h2
theorem A0T (l:List (List Int×Int)) (hl:l.length≤100000):Ca Tryz.prog 113 [.sr 1000000 Lq 0 l.length,.p T3 (0:Int),.p T3 (l.length:Int),.fn 47] [(1000000,.arr 82 Lq l)] [1000000] (fun res objs'=>res=.raw (.tuple #[])∧∃r,objs'=[(1000000,.arr 82 Lq r)]∧List.Perm r l∧Tv r l.length):=by
 refine DJ Tryz.func113 (by kernel_rfl) rfl Tryz.ntmps113 (by simp only[List.length_cons,List.length_nil];omega) (by kernel_rfl) rfl rfl (AH [(47,aK)]) (AE A0S AI) ?_
 intro w0 K O0 ρ0 hc hok1 hok2
 simp only[BU]
 repeat'(first|exact trivial|refine eS rfl ?_|refine AB ?_|refine rX [0,1,2,3,8,9,14,34] hc ?_ ?_|refine rC ?_ ?_<;>intro AA<;>try(cases AA;done))
 ·omega
 ·refine AK (ι:={s:Nat×List (List Int×Int)//1≤s.1∧(s.1=1∨s.1≤l.length)∧List.Perm s.2 l∧Tv s.2 s.1}) (fun s=>⟨[(0,.sr 1000000 Lq 0 l.length),(1,.p T3 (0:Int)),(2,.p T3 (l.length:Int)),(3,.fn 47),(8,.p (.int .i64) (s.1.1:Int))],[(1000000,.arr 82 Lq s.1.2)]⟩) (fun s=>l.length-s.1.1) ⟨(1,l),Nat.le_refl 1,.inl rfl,List.Perm.refl l,fun a b h1 h2=>by omega⟩ (AC [(1000000,.nm 1000000)] rfl rfl ?_ ?_) (fun s=>?_)
  ·first|exact eN|refine eM ?_
  ·first|exact eN|refine eM ?_
  ·obtain⟨⟨i,m⟩,hi1,hi2,hp,hs⟩:=s
   simp only at hi1 hi2 hp hs ⊢
   have hml:=hp.length_eq
   repeat'(first|exact trivial|refine eS rfl ?_|refine AB ?_|refine rX [0,1,2,3,8,9,14,34] hc ?_ ?_|refine rC ?_ ?_<;>intro AA<;>try(cases AA;done))
   ·have hil:i<l.length:=by exact eV
    refine AK (ι:={t:Nat×List (List Int×Int)//t.1≤i∧List.Perm t.2 l∧aL t.2 i t.1}) (fun t=>⟨[(0,.sr 1000000 Lq 0 l.length),(1,.p T3 (0:Int)),(2,.p T3 (l.length:Int)),(3,.fn 47),(8,.p (.int .i64) (i:Int)),(9,.p (.int .i64) (t.1.1:Int))],[(1000000,.arr 82 Lq t.1.2)]⟩) (fun t=>t.1.1) ⟨(i,m),Nat.le_refl i,hp,aM hs⟩ (AC [(1000000,.nm 1000000)] rfl rfl ?_ ?_) (fun t=>?_)
    ·first|exact eN|refine eM ?_
    ·first|exact eN|refine eM ?_
    ·obtain⟨⟨j,c⟩,hj,hcp,hcs⟩:=t
     simp only at hj hcp hcs ⊢
     have hcl:=hcp.length_eq
     repeat'(first|exact trivial|refine eS rfl ?_|refine AB ?_|refine rX [0,1,2,3,8,9,14,34] hc ?_ ?_)
     ·dsimp only[Ty.den]at *
      exact⟨fun _=>by omega,fun _=>⟨by omega,by omega⟩,fun _=>⟨by omega,by omega⟩⟩
     ·have ej:0<j→((j:Int)-1).toNat=j-1:=fun _=>by omega
      refine R3 (by simp only[go_sem,Nat.reduceEqDiff,reduceCtorEq,Nat.reduceAdd,Nat.reduceSub,Nat.reduceMul,Nat.reduceLeDiff,Nat.reduceLT,Int.reduceLE,Int.reduceToNat,Int.reduceNeg,↓reduceIte];rfl) ?_ ?_
      ·intro hc2
       simp only[Bool.and_eq_true,decide_eq_true_eq]at hc2
       have hj0:0<j:=by omega
       have hlt:=hc2.2
       rw[ej hj0]at hlt
       have hsw:eC c j=(c.set j (c.getD (j-1) ([],0))).set (j-1) (c.getD j ([],0)):=rfl
       repeat'(first|exact trivial|refine eS rfl ?_|refine AB ?_|refine rP [0,1,2,3,8,9,14,34] hc ?_ ?_|fail)
       refine IH drawsAny hc 16 [([0,1,5,6,7,8,9,10,11,12,13,14],15)] [2,3,4] (by kernel_rfl) (UN ?_ ?_)
       ·dsimp only[Ty.den]at *
        omega
       ·refine Xw hc [] ?_ ?_
        ·trivial
        ·refine wM [0,1,2,3,8,9,14,34] hc ?_ ?_ ?_
         ·dsimp only[Ty.den]at *
          omega
         ·dsimp only[Ty.den]at *
          omega
         ·rw[ej hj0]
          repeat'(first|exact trivial|refine eS rfl ?_|refine AB ?_|refine rX [0,1,2,3,8,9,14,34] hc ?_ ?_|refine rC ?_ ?_<;>intro AA<;>try(cases AA;done))
          ·dsimp only[Ty.den]at *
           omega
          ·refine⟨⟨(j-1,eC c j),by simp only;omega,(p7 (by omega)).trans hcp,eD hcs hj0 hj (by omega) hlt⟩,by simp only;omega,AC [(1000000,.nm 1000000)] rfl rfl ?_ ?_⟩
           ·simp only
            rw[hsw]
            first|exact eN|refine eM ?_
           ·simp only
            rw[show ((j-1:Nat):Int)=(j:Int)-1 by omega]
            first|exact eN|refine eM ?_
      ·intro hc2
       have hd:j=0∨0≤FP (c.getD j ([],0)) (c.getD (j-1) ([],0)):=by
        by_cases hj0:j=0
        ·exact .inl hj0
        ·right
         simp only[Bool.and_eq_false_iff,decide_eq_false_iff_not]at hc2
         rw[ej (by omega)]at hc2
         rcases hc2 with h|h
         ·omega
         ·omega
       repeat'(first|exact trivial|refine eS rfl ?_|refine AB ?_|refine rX [0,1,2,3,8,9,14,34] hc ?_ ?_|refine rC ?_ ?_<;>intro AA<;>try(cases AA;done))
       ·exact eV
       ·refine⟨⟨(i+1,c),by simp only;omega,.inr hil,hcp,p6 hcs hj hd⟩,by simp only;omega,AC [(1000000,.nm 1000000)] rfl rfl ?_ ?_⟩
        ·first|exact eN|refine eM ?_
        ·first|exact eN|refine eM ?_
   ·have hin:l.length≤i:=by exact eV
    refine Bp hc [] rfl (.inr rfl) (.raw (.tuple #[])) rfl ⟨rfl,m,rfl,hp,fun a b h1 h2=>hs a b h1 (by omega)⟩
end
/- slices.SortFunc of at most 12 counted paths. -/
section
theorem A0U (l:List (List Int×Int)) (lim:Int) (hl:l.length≤12):Ca Tryz.prog 73 [.sr 1000000 Lq 0 l.length,.p T3 (0:Int),.p T3 (l.length:Int),.p T3 lim,.fn 47] [(1000000,.arr 82 Lq l)] [1000000] (fun res objs'=>res=.raw (.tuple #[])∧∃r,objs'=[(1000000,.arr 82 Lq r)]∧List.Perm r l∧Tv r l.length):=by
 refine DJ Tryz.func73 (by kernel_rfl) rfl Tryz.ntmps73 (by simp only[List.length_cons,List.length_nil];omega) (by kernel_rfl) rfl rfl (AH []) AI ?_
 intro w0 K O0 ρ0 hc hok1 hok2
 simp only[BU]
 repeat'(first|exact trivial|refine eS rfl ?_|refine AB ?_|refine rX [0,1,2,3,4,10,11,12,13,14,15,16,17,18,19,20,25,32,39,56,75,80,97,125] hc ?_ ?_|refine rC ?_ ?_<;>intro AA<;>try(cases AA;done))
 refine AK (ι:=Unit) (fun x=>⟨[(0,.sr 1000000 Lq 0 l.length),(1,.p T3 (0:Int)),(2,.p T3 (l.length:Int)),(3,.p T3 lim),(4,.fn 47),(10,.p .bool true),(11,.p .bool true)],[(1000000,.arr 82 Lq l)]⟩) (fun x=>0) () (AC [(1000000,.nm 1000000)] rfl rfl ?_ ?_) (fun x=>?_)
 ·first|exact eN|refine eM ?_
 ·first|exact eN|refine eM ?_
 ·repeat'(first|exact trivial|refine eS rfl ?_|refine AB ?_|refine rX [0,1,2,3,4,10,11,12,13,14,15,16,17,18,19,20,25,32,39,56,75,80,97,125] hc ?_ ?_)
  ·omega
  ·refine rC (fun AA=>?_) (fun AA=>?_)
   ·repeat'(first|exact trivial|refine eS rfl ?_|refine AB ?_|refine rX [0,1,2,3,4,10,11,12,13,14,15,16,17,18,19,20,25,32,39,56,75,80,97,125] hc ?_ ?_)
    refine cP 4 hc ?_ ?_
    ·trivial
    ·refine rM hc (A0T l (by omega)) [(1000000,.nm 1000000)] [] ?_ ?_ ?_
     ·first|exact eN|refine eM ?_
     ·first|exact eN|refine eM ?_
     ·rintro _ _ ⟨rfl,r,rfl,hp,hs⟩
      have hrl:=hp.length_eq
      refine⟨[(1000000,.nm 1000000)],.raw (.tuple #[]),[(1000000,.arr 82 Lq r)],rfl,rfl,?_,?_,rfl,rfl,EJ ?_⟩
      ·first|exact eN|refine eM ?_
      ·first|exact eN|refine eM ?_
      ·repeat'(first|exact trivial|refine eS rfl ?_|refine AB ?_|refine rX [0,1,2,3,4,10,11,12,13,14,15,16,17,18,19,20,25,32,39,56,75,80,97,125] hc ?_ ?_)
       exact Bp hc [] rfl (.inl rfl) (.raw (.tuple #[])) rfl ⟨rfl,r,rfl,hp,hs⟩
   ·exfalso
    have h:=Int.not_le.2 AA
    omega
theorem v8 (l:List (List Int×Int)) (hl:l.length≤12):Ca Tryz.prog 46 [.sr 1000000 Lq 0 l.length,.fn 47] [(1000000,.arr 82 Lq l)] [1000000] (fun res objs'=>res=.raw (.tuple #[])∧∃r,objs'=[(1000000,.arr 82 Lq r)]∧List.Perm r l∧Tv r l.length):=by
 refine DJ Tryz.func46 (by kernel_rfl) rfl Tryz.ntmps46 (by simp only[List.length_cons,List.length_nil];omega) (by kernel_rfl) rfl rfl (AH []) AI ?_
 intro w0 K O0 ρ0 hc hok1 hok2
 simp only[BU]
 repeat'(first|exact trivial|refine eS rfl ?_|refine AB ?_|refine rX [0,1,4] hc ?_ ?_|refine rC ?_ ?_<;>intro AA<;>try(cases AA;done))
 refine cP 4 hc ?_ ?_
 ·exact eV
 ·refine rM hc (uJ (l.length:Int) (by omega) (by omega)) [] [] ?_ ?_ ?_
  ·first|exact eN|refine eM ?_
  ·first|exact eN|refine eM ?_
  ·rintro _ _ ⟨⟨n,rfl,hnz⟩,rfl⟩
   refine⟨[],.p T3 n,[],rfl,rfl,?_,?_,rfl,rfl,?_⟩
   ·first|exact eN|refine eM ?_
   ·first|exact eN|refine eM ?_
   ·refine Nm hc 1 (by simp only[go_sem,Nat.reduceEqDiff,reduceCtorEq,Nat.reduceAdd,Nat.reduceSub,Nat.reduceMul,Nat.reduceLeDiff,Nat.reduceLT,Int.reduceLE,Int.reduceToNat,Int.reduceNeg,↓reduceIte];rfl) ?_ ?_
    ·trivial
    ·refine rM hc (A0U l n hl) [(1000000,.nm 1000000)] [] ?_ ?_ ?_
     ·first|exact eN|refine eM ?_
     ·first|exact eN|refine eM ?_
     ·rintro _ _ ⟨rfl,r,rfl,hp,hs⟩
      refine⟨[(1000000,.nm 1000000)],.raw (.tuple #[]),[(1000000,.arr 82 Lq r)],rfl,rfl,?_,?_,rfl,rfl,EJ ?_⟩
      ·first|exact eN|refine eM ?_
      ·first|exact eN|refine eM ?_
      ·repeat'(first|exact trivial|refine eS rfl ?_|refine AB ?_|refine rX [0,1,4] hc ?_ ?_|refine rC ?_ ?_<;>intro AA<;>try(cases AA;done))
       exact Bp hc [] rfl (.inr rfl) (.raw (.tuple #[])) rfl ⟨rfl,r,rfl,hp,hs⟩
def WO (p:List Int×Int):List (List Int×Int)→List (List Int×Int)
 | []=>[p]
 | q :: l=>if FP p q≤0 then p :: q :: l else q :: WO p l
def Tw (l:List (List Int×Int)):List (List Int×Int):=l.foldr WO []
theorem NB (p:List Int×Int):∀l:List (List Int×Int),(WO p l).Perm (p :: l)
 | []=>List.Perm.refl _
 | q :: l=>by
  unfold WO
  split
  ·exact List.Perm.refl _
  ·exact((NB p l).cons q).trans (List.Perm.swap p q l)
theorem WP (p:List Int×Int):∀ {l:List (List Int×Int)},l.Pairwise (fun a b=>FP a b≤0)→(WO p l).Pairwise (fun a b=>FP a b≤0)
 | [],_=>List.pairwise_singleton _ _
 | q :: l,h=>by
  unfold WO
  rw[List.pairwise_cons]at h
  split
  ·rename_i hpq
   rw[List.pairwise_cons]
   refine⟨fun x hx=>?_,List.pairwise_cons.2 h⟩
   rcases List.mem_cons.1 hx with rfl|hx
   ·exact hpq
   ·exact MK hpq (h.1 x hx)
  ·rename_i hpq
   rw[List.pairwise_cons]
   refine⟨fun x hx=>?_,WP p h.2⟩
   rcases List.mem_cons.1 ((NB p l).mem_iff.1 hx) with rfl|hx
   ·have:=Py x q
    omega
   ·exact h.1 x hx
theorem Tx:∀l:List (List Int×Int),(Tw l).Perm l
 | []=>List.Perm.refl _
 | p :: l=>(NB p (Tw l)).trans ((Tx l).cons p)
theorem WQ:∀l:List (List Int×Int),(Tw l).Pairwise (fun a b=>FP a b≤0)
 | []=>List.Pairwise.nil
 | p :: l=>WP p (WQ l)
theorem v9 {l r:List (List Int×Int)} (hp:r.Perm l) (hs:Tv r l.length):r=Tw l:=by
 refine List.Perm.eq_of_pairwise (le:=fun a b=>FP a b≤0) (fun a b _ _ h1 h2=>?_) ?_ (WQ l) (hp.trans (Tx l).symm)
 ·have:=Py a b
  exact Px.1 (by omega)
 ·rw[List.pairwise_iff_getElem]
  intro i j hi hj hij
  have:=hs i j hij (by rw[←hp.length_eq];exact hj)
  rwa [List.getD_eq_getElem?_getD,List.getElem?_eq_getElem hi,List.getD_eq_getElem?_getD,List.getElem?_eq_getElem hj]at this
end
/- quick.Train, where few paths clash. -/
section
attribute [local go_sem] Fx aJ
abbrev Ol:=List (ByteArray×(List Int×Int))
def A0V (p:List Int):ByteArray:=J4 (Tu p)
def H1 (m:Ol) (p:List Int):Ol:=Qw .str Lq (A0V p) (p,(((J2 .str Lq (A0V p) m).getD ([],0):List Int×Int)).2+1) m
def A20 (h:AN) (a b:List AF) (m:Ol):Ol:=(B6 h a b).foldl H1 m
def Tz (h:AN) (ps:List (List AF×List AF)):Ol:=ps.foldl (fun m x=>A20 h x.1 x.2 m) []
def NC (k:Int) (n:Nat):Nat:=min (min (if k<0 then 0 else k).toNat 256) n
def Xr (h:AN) (ps:List (List AF×List AF)) (k:Int):List (List Int):=((Tw ((Tz h ps).map (·.2))).take (NC k (Tz h ps).length)).map (·.1)
def T6:Ac:={ ins:=[II,T46,T3],pre:=fun(h,ps,k,_)=>(WdH h∧List.length (h:AN).2≤64)∧List.length ps≤1000∧(∀x∈(ps:List (List AF×List AF)),(VF h x.1∧Ew x.1∧x.1.length≤12)∧VF h x.2)∧(Tz h ps).length≤12,out:=fun(h,ps,k,_)=>[.p PN (Xr h ps k)] }
attribute [local go_sem] T6
abbrev CT:=Lq
def T7 (n:Int) (m:Ol):Prop:=∀x∈m,0≤x.2.2∧x.2.2≤n
theorem T8 {n:Int} {k:ByteArray}:∀ {m:Ol},0≤n→T7 n m→0≤(((J2 .str CT k m).getD ([],0):List Int×Int)).2∧(((J2 .str CT k m).getD ([],0):List Int×Int)).2≤n
 | [],hn,_=>⟨Int.le_refl 0,hn⟩
 | x :: m,hn,h=>by
  unfold J2
  split
  ·exact h x (by simp)
  ·exact T8 hn fun y hy=>h y (by simp[hy])
theorem mC {n:Int} {k:ByteArray} {v:List Int×Int}:∀ {m:Ol},T7 n m→0≤v.2→v.2≤n→T7 n (Qw .str CT k v m)
 | [],_,h0,h1=>by
  intro x hx
  have hx:x=(k,v):=by simpa[Qw] using hx
  rw[hx];exact⟨h0,h1⟩
 | y :: m,h,h0,h1=>by
  intro x hx
  unfold Qw at hx
  split at hx
  ·rcases List.mem_cons.1 hx with rfl|hx
   ·exact⟨h0,h1⟩
   ·exact h x (by simp[hx])
  ·rcases List.mem_cons.1 hx with rfl|hx
   ·exact h _ (by simp)
   ·exact mC (fun z hz=>h z (by simp[hz])) h0 h1 x hx
theorem eE {n:Int} {m:Ol} (hn:0≤n) (h:T7 n m) (p:List Int):T7 (n+1) (H1 m p):=by
 obtain⟨q1,q2⟩:=T8 (k:=A0V p) hn h
 exact mC (fun x hx=>by have:=h x hx;omega) (Int.add_nonneg q1 (by decide)) (Int.add_le_add_right q2 1)
theorem UA {α β:Type} (f:β→α→β) (b:β) (l:List α) (d:α) {k:Nat} (h:k<l.length):(l.take (k+1)).foldl f b=f ((l.take k).foldl f b) (l.getD k d):=by
 rw[Ae l d h,List.foldl_append]
 rfl
def UX (h:AN) (ps:List (List AF×List AF)) (k:Nat):Ol:=(ps.take k).foldl (fun m x=>A20 h x.1 x.2 m) []
def Xs (m:Ol) (ys:List (List Int×Int)) (left:List Nat):Prop:=(ys++left.map fun i=>(m.getD i (⟨#[]⟩,([],0))).2).Perm (m.map (·.2))
theorem p8 (m:Ol):Xs m [] (List.range m.length):=by
 unfold Xs
 have:(List.range m.length).map (fun i=>(m.getD i (⟨#[]⟩,([],0))).2)=m.map (·.2):=by
  apply List.ext_getElem
  ·simp
  ·intro i h1 h2
   have hi:i<m.length:=by simpa using h1
   simp[List.getD_eq_getElem?_getD,List.getElem?_eq_getElem hi]
 rw[this]
 exact List.Perm.refl _
theorem p9 {m:Ol} {ys:List (List Int×Int)} {left:List Nat} (h:Xs m ys left) {i:Nat} (hi:i∈left) {e:ByteArray×(List Int×Int)} (he:m[i]?=some e):Xs m (ys++[e.2]) (left.erase i):=by
 unfold Xs at h ⊢
 have h1:=(List.perm_cons_erase hi).map fun i=>(m.getD i (⟨#[]⟩,([],0))).2
 have h2:(m.getD i (⟨#[]⟩,([],0))).2=e.2:=by rw[List.getD_eq_getElem?_getD,he];rfl
 rw[List.map_cons,h2]at h1
 have h3:=(h1.append_left ys).symm.trans h
 rw[List.append_assoc]
 exact h3
theorem wA {m:Ol} {ys:List (List Int×Int)} (h:Xs m ys []):ys.Perm (m.map (·.2)):=by
 unfold Xs at h
 simpa using h
abbrev UB (k:Int) (n:Nat):Int:=if (n:Int)<(if (256:Int)<(if k<0 then 0 else k) then 256 else if k<0 then 0 else k) then (n:Int) else if (256:Int)<(if k<0 then 0 else k) then 256 else if k<0 then 0 else k
theorem qA (k:Int) (n:Nat):0≤UB k n∧UB k n≤(n:Int):=by
 unfold UB
 (repeat' split)<;>omega
theorem qB (k:Int) (n:Nat):(UB k n).toNat=NC k n:=by
 unfold UB NC
 (repeat' split)<;>omega
theorem wB:Ai Tryz.prog 25 T6:=by
 refine AP Tryz.func25 (by kernel_rfl) rfl Tryz.ntmps25 (by decide) (by kernel_rfl) (AH [(22,Fx),(45,aJ)]) (AE Kx (AE A0R AI)) ?_
 rintro w0 O0 ⟨⟨ht,hf⟩,ps,kk,u⟩ hc-⟨⟨hw,h64⟩,hps,hv,h12⟩
 simp only[T6,AM]
 have hps:List.length ps≤1000:=hps
 repeat'(first|exact trivial|refine eS rfl ?_|refine AB ?_|refine rX [0,1,2,3,6,7,9,11,12,13,15,16,18,20,21,22,23,31,32,33,34,51,53,68,69,70,71] hc ?_ ?_|refine rC ?_ ?_<;>intro AA<;>try(cases AA;done))
 refine AK (ι:={k:Nat//k≤List.length ps∧T7 (12*(k:Int)) (UX (ht,hf) ps k)}) (fun k=>⟨[(2,.p T3 kk),(3,.bp 3 [] 0),(7,.mp 19),(20,.p T46 ps),(21,.p (.int .i64) (List.length ps:Int)),(22,.p (.int .i64) (k.1:Int))],[(3,.box 37 true [.p Xx ht,.p Yq hf]),(19,.mapo .str Lq (UX (ht,hf) ps k.1))]⟩) (fun k=>List.length ps-k.1) ⟨0,Nat.zero_le _,fun x hx=>by cases hx⟩ (AC [(3,.nm 3),(19,.nm 19)] rfl rfl ?_ ?_) (fun k=>?_)
 ·first|exact eN|refine eM ?_
  rfl
 ·first|exact eN|refine eM ?_
 ·obtain⟨k,hk,hle⟩:=k
  simp only
  have hks:∀h:k<List.length ps,UX (ht,hf) ps (k+1)=(B6 (ht,hf) (List.getD (ps:List (List AF×List AF)) k ([],[])).1 (List.getD (ps:List (List AF×List AF)) k ([],[])).2).foldl H1 (UX (ht,hf) ps k):=fun h=>UA _ _ _ _ h
  repeat'(first|exact trivial|refine eS rfl ?_|refine AB ?_|refine rX [0,1,2,3,6,7,9,11,12,13,15,16,18,20,21,22,23,31,32,33,34,51,53,68,69,70,71] hc ?_ ?_|refine rC ?_ ?_<;>intro AA<;>try(cases AA;done))
  ·exact AA
  ·have hk1:k<List.length ps:=by omega
   obtain⟨⟨va,sa,la⟩,vb⟩:=hv _ (AD (ps:List (List AF×List AF)) ([],[]) hk1)
   exact⟨hw,⟨va.good,va.pos,va.ty,la⟩,vb.good,vb.pos,vb.ty⟩
  ·have hk1:k<List.length ps:=by omega
   obtain⟨⟨va,sa,la⟩,vb⟩:=hv _ (AD (ps:List (List AF×List AF)) ([],[]) hk1)
   have hks:=hks hk1
   have hcr:=fun p hp=>p4 (h:=(ht,hf)) (a:=(List.getD (ps:List (List AF×List AF)) k ([],[])).1) (b:=(List.getD (ps:List (List AF×List AF)) k ([],[])).2) (p:=p) h64 va sa hp
   have hcl:=WN (h:=(ht,hf)) (a:=(List.getD (ps:List (List AF×List AF)) k ([],[])).1) (b:=(List.getD (ps:List (List AF×List AF)) k ([],[])).2)
   generalize B6 (ht,hf) (List.getD ps k ([],[])).1 (List.getD ps k ([],[])).2=cl at *
   generalize (List.getD ps k ([],[])).1=ga at *
   have hcl:cl.length≤12:=by omega
   refine AK (ι:={j:Nat//j≤List.length cl∧T7 (12*(k:Int)+(j:Int)) ((cl.take j).foldl H1 (UX (ht,hf) ps k))}) (fun j=>⟨[(2,.p T3 kk),(3,.bp 3 [] 0),(7,.mp 19),(20,.p T46 ps),(21,.p (.int .i64) (List.length ps:Int)),(22,.p (.int .i64) (k:Int)),(31,.p PN cl),(32,.p (.int .i64) (List.length cl:Int)),(33,.p (.int .i64) (j.1:Int))],[(3,.box 37 true [.p Xx ht,.p Yq hf]),(19,.mapo .str Lq ((cl.take j.1).foldl H1 (UX (ht,hf) ps k)))]⟩) (fun j=>List.length cl-j.1) ⟨0,Nat.zero_le _,by simpa using hle⟩ (AC [(3,.nm 3),(19,.nm 19)] rfl rfl ?_ ?_) (fun j=>?_)
   ·first|exact eN|refine eM ?_
    rfl
   ·first|exact eN|refine eM ?_
   ·obtain⟨j,hj,hlj⟩:=j
    simp only
    have hjs:∀h:j<cl.length,(cl.take (j+1)).foldl H1 (UX (ht,hf) ps k)=H1 ((cl.take j).foldl H1 (UX (ht,hf) ps k)) (List.getD cl j []):=fun h=>UA _ _ _ _ h
    have hk0:(0:Int)≤12*(k:Int)+(j:Int):=by omega
    have hfm:=fun p=>T8 (k:=A0V p) hk0 hlj
    have hst:=fun p=>eE hk0 hlj p
    repeat'(first|exact trivial|refine eS rfl ?_|refine AB ?_|refine rX [0,1,2,3,6,7,9,11,12,13,15,16,18,20,21,22,23,31,32,33,34,51,53,68,69,70,71] hc ?_ ?_|refine rC ?_ ?_<;>intro AA<;>try(cases AA;done))
    ·exact AA
    ·have hj1:j<cl.length:=by omega
     obtain⟨q1,q2⟩:=hcr _ (AD cl [] hj1)
     exact⟨by omega,q2⟩
    ·have hj1:j<cl.length:=by omega
     have hjs:=hjs hj1
     obtain⟨f1,f2⟩:=hfm (cl.getD j [])
     refine cP 6 hc ?_ ?_
     ·trivial
     ·refine A4H hc Tryz.underlying82 ?_
      refine rL [0,1,2,3,6,7,9,11,12,13,15,16,18,20,21,22,23,31,32,33,34,51,53,68,69,70,71] hc ?_ ?_
      ·refine⟨?_,?_⟩
       ·exact Int.le_trans (by decide) (Int.add_nonneg f1 (by decide))
       ·exact Int.le_trans (Int.add_le_add_right f2 1) (by omega)
      ·repeat'(first|exact trivial|refine eS rfl ?_|refine AB ?_|refine rX [0,1,2,3,6,7,9,11,12,13,15,16,18,20,21,22,23,31,32,33,34,51,53,68,69,70,71] hc ?_ ?_|refine rC ?_ ?_<;>intro AA<;>try(cases AA;done))
       ·omega
       ·have hlj2:=hst (cl.getD j [])
        rw[←hjs]at hlj2
        refine⟨⟨j+1,hj1,fun x hx=>by have:=hlj2 x hx;omega⟩,by simp only;omega,AC [(3,.nm 3),(19,.nm 19)] rfl rfl ?_ ?_⟩
        ·simp only
         rw[hjs]
         first|exact eN|refine eM ?_
         rfl
        ·first|exact eN|refine eM ?_
    ·omega
    ·have hj1:j=cl.length:=by omega
     subst hj1
     rw[List.take_length]at hlj hst ⊢
     rw[←hks]at hlj ⊢
     refine⟨⟨k+1,hk1,fun x hx=>by have:=hlj x hx;omega⟩,by simp only;omega,AC [(3,.nm 3),(19,.nm 19)] rfl rfl ?_ ?_⟩
     ·first|exact eN|refine eM ?_
     ·first|exact eN|refine eM ?_
  ·have hk1:k=List.length ps:=by omega
   subst hk1
   have hce:UX (ht,hf) ps (List.length ps)=Tz (ht,hf) ps:=by unfold UX Tz;rw[List.take_length]
   rw[hce]at hle ⊢
   refine cP 1 hc ?_ ?_
   ·trivial
   ·refine A4I hc Tryz.underlying79 ?_
    refine rL [0,1,2,3,6,7,9,11,12,13,15,16,18,20,21,22,23,31,32,33,34,51,53,68,69,70,71] hc ?_ ?_
    ·trivial
    ·repeat'(first|exact trivial|refine eS rfl ?_|refine AB ?_|refine rX [0,1,2,3,6,7,9,11,12,13,15,16,18,20,21,22,23,31,32,33,34,51,53,68,69,70,71] hc ?_ ?_|refine rC ?_ ?_<;>intro AA<;>try(cases AA;done))
     have htr:Xr (ht,hf) ps kk=((Tw ((Tz (ht,hf) ps).map (·.2))).take (NC kk (Tz (ht,hf) ps).length)).map (·.1):=rfl
     rw[htr]
     clear htr
     generalize Tz (ht,hf) ps=m at *
     have h12:m.length≤12:=h12
     refine AK (ι:={x:List Nat×Option Nat×List (List Int×Int)//Xs m x.2.2 x.1}) (fun x=>⟨[(2,.p T3 kk),(13,.sr 59 Lq 0 (List.length x.1.2.2)),(51,.bp 51 [] 0)],[(51,.itr .str Lq m x.1.1 x.1.2.1),(59,.arr 82 Lq x.1.2.2)]⟩) (fun x=>List.length x.1.1) ⟨(List.range m.length,none,[]),p8 m⟩ (AC [(51,.nm 51),(59,.nil)] rfl rfl ?_ ?_) (fun x=>?_)
     ·first|exact eN|refine eM ?_
     ·first|exact eN|refine eM ?_
     ·obtain⟨⟨left,cur,ys⟩,hg⟩:=x
      have hg:Xs m ys left:=hg
      have hyl:ys.length+left.length=m.length:=by have:=hg.length_eq;simpa using this
      simp only
      repeat'(first|exact trivial|refine eS rfl ?_|refine AB ?_|refine rP [0,1,2,3,6,7,9,11,12,13,15,16,18,20,21,22,23,31,32,33,34,51,53,68,69,70,71] hc ?_ ?_|fail)
      refine cP 0 hc ?_ ?_
      ·trivial
      ·refine A4J hc (fun h0=>?_) (fun i hi e he=>?_)
       ·subst h0
        refine rL [0,1,2,3,6,7,9,11,12,13,15,16,18,20,21,22,23,31,32,33,34,51,53,68,69,70,71] hc ?_ ?_
        ·trivial
        ·repeat'(first|exact trivial|refine eS rfl ?_|refine AB ?_|refine rX [0,1,2,3,6,7,9,11,12,13,15,16,18,20,21,22,23,31,32,33,34,51,53,68,69,70,71] hc ?_ ?_|refine rC ?_ ?_<;>intro AA<;>try(cases AA;done))
         have hp:=wA hg
         have hpl:=hp.length_eq
         rw[List.length_map]at hpl
         refine cP 1 hc ?_ ?_
         ·trivial
         ·refine rM hc (v8 ys (by omega)) [(1000000,.nm 59)] [] ?_ ?_ ?_
          ·first|exact eN|refine eM ?_
          ·first|exact eN|refine eM ?_
          ·rintro _ _ ⟨rfl,r,rfl,hpr,hs⟩
           have hr:r=Tw (m.map (·.2)):=v9 (hpr.trans hp) (by rw[List.length_map,←hpl];exact hs)
           have hrl:r.length=m.length:=by rw[hpr.length_eq,hpl]
           rw[←hr]
           clear hr hs hpr
           refine⟨[(59,.nm 1000000)],.raw (.tuple #[]),[(59,.arr 82 Lq r)],rfl,rfl,?_,?_,rfl,rfl,EJ ?_⟩
           ·first|exact eN|refine eM ?_
           ·first|exact eN|refine eM ?_
           ·have hyr:ys.length=r.length:=by omega
            repeat'(first|exact trivial|refine eS rfl ?_|refine AB ?_|refine rX [0,1,2,3,6,7,9,11,12,13,15,16,18,20,21,22,23,31,32,33,34,51,53,68,69,70,71] hc ?_ ?_|refine rC ?_ ?_<;>intro AA<;>try(cases AA;done))
            ·exact qA kk ys.length
            ·have hz:Int.toNat (if (ys.length:Int)<(if (256:Int)<(if kk<0 then 0 else kk) then 256 else if kk<0 then 0 else kk) then (ys.length:Int) else if (256:Int)<(if kk<0 then 0 else kk) then 256 else if kk<0 then 0 else kk)=NC kk m.length:=by
              rw[←hpl]
              exact qB kk ys.length
             have hzl:NC kk m.length≤r.length:=by
              rw[hrl]
              exact Nat.min_le_right _ _
             rw[hz]
             generalize NC kk m.length=z at *
             refine AK (ι:={j:Nat//j≤z}) (fun j=>⟨[(16,.sr 78 Bx 0 j.1),(68,.sr 59 Lq 0 z),(69,.p (.int .i64) (z:Int)),(70,.p (.int .i64) (j.1:Int))],[(59,.arr 82 Lq r),(78,.arr 30 Bx ((r.take j.1).map (·.1)))]⟩) (fun j=>z-j.1) ⟨0,Nat.zero_le _⟩ (AC [(59,.nm 59),(78,.nil)] rfl rfl ?_ ?_) (fun j=>?_)
             ·first|exact eN|refine eM ?_
             ·first|exact eN|refine eM ?_
             ·obtain⟨j,hj⟩:=j
              simp only
              have hjl:((r.take j).map (·.1)).length=j:=by rw[List.length_map,List.length_take];omega
              have hjs:∀h:j<r.length,(r.take (j+1)).map (·.1)=(r.take j).map (·.1)++[(r.getD j ([],0)).1]:=fun h=>by rw[Ae r ([],0) h,List.map_append];rfl
              have hjt:((r.take j).map (·.1)).take j=(r.take j).map (·.1):=List.take_of_length_le (by omega)
              repeat'(first|exact trivial|refine eS rfl ?_|refine AB ?_|refine rX [0,1,2,3,6,7,9,11,12,13,15,16,18,20,21,22,23,31,32,33,34,51,53,68,69,70,71] hc ?_ ?_|refine rC ?_ ?_<;>intro AA<;>try(cases AA;done))
              ·exact AA
              ·simp only[AO]
               omega
              ·omega
              ·have hj1:j<z:=by omega
               refine⟨⟨j+1,hj1⟩,by simp only;omega,AC [(59,.nm 59),(78,.nm 78)] rfl rfl ?_ ?_⟩
               ·simp only
                rw[hjs (by omega)]
                first|exact eN|refine eM ?_
                rw[hjt]
               ·first|exact eN|refine eM ?_
              ·have hj1:j=z:=by omega
               subst hj1
               exact AG hc [.tmp 6] rfl (.inl rfl) (by simp) (by first|exact eR|refine Ap ?_;exact hjt)
       ·refine rL [0,1,2,3,6,7,9,11,12,13,15,16,18,20,21,22,23,31,32,33,34,51,53,68,69,70,71] hc ?_ ?_
        ·trivial
        ·repeat'(first|exact trivial|refine eS rfl ?_|refine AB ?_|refine rP [0,1,2,3,6,7,9,11,12,13,15,16,18,20,21,22,23,31,32,33,34,51,53,68,69,70,71] hc ?_ ?_|fail)
         refine rC (fun AA=>?_) (fun AA=>?_)<;>try(cases AA;done)
         repeat'(first|exact trivial|refine eS rfl ?_|refine AB ?_|refine rP [0,1,2,3,6,7,9,11,12,13,15,16,18,20,21,22,23,31,32,33,34,51,53,68,69,70,71] hc ?_ ?_|fail)
         refine cP 0 hc ?_ ?_
         ·trivial
         ·refine A4K hc he ?_
          refine rL [0,1,2,3,6,7,9,11,12,13,15,16,18,20,21,22,23,31,32,33,34,51,53,68,69,70,71] hc ?_ ?_
          ·trivial
          ·repeat'(first|exact trivial|refine eS rfl ?_|refine AB ?_|refine rX [0,1,2,3,6,7,9,11,12,13,15,16,18,20,21,22,23,31,32,33,34,51,53,68,69,70,71] hc ?_ ?_|refine rC ?_ ?_<;>intro AA<;>try(cases AA;done))
           ·simp only[AO]
            have hll:=List.length_pos_of_mem hi
            omega
           ·have hll:=List.length_erase_of_mem hi
            have hlp:=List.length_pos_of_mem hi
            refine⟨⟨(left.erase i,some i,ys++[e.2]),p9 hg hi he⟩,by simp only;omega,AC [(51,.nm 51),(59,.nm 59)] rfl rfl ?_ ?_⟩
            ·first|exact eN|refine eM ?_
            ·first|exact eN|refine eM ?_
end
/- Functions of grammarlabref15: Hier. -/
section
attribute [local go_sem] OO OM
def K2:Ac:={ ins:=[EK],pre:=fun _=>True,out:=fun(d,_)=>[.p II (CL d)] }
theorem Om:Ai Tryz.prog 16 K2:=by
 refine AP Tryz.func16 (by kernel_rfl) rfl Tryz.ntmps16 (by decide) (by kernel_rfl) (AH [(35,OO),(36,OM)]) (AE c6 (AE cX AI)) ?_
 rintro w0 O0 ⟨d,u⟩ hc - -
 simp only[K2,AM]
 repeat'(first|exact trivial|refine eS rfl ?_|refine AB ?_|refine rX [0,2,3,4,5,9,16] hc ?_ ?_|refine rC ?_ ?_<;>intro AA<;>try(cases AA;done))
 ·have h1:CL d=(A8 d).1:=by unfold CL;rw[if_pos ⟨by exact eV,AA⟩]
  exact AG hc [.cell 2 37] rfl (.inl rfl) (by simp) (by rw[h1];first|exact eR|refine Ap ?_)
 ·have h1:CL d=(A8 HN).1:=by unfold CL;rw[if_neg (fun h=>AA h.2)]
  exact AG hc [.cell 2 37] rfl (.inl rfl) (by simp) (by rw[h1];first|exact eR|refine Ap ?_)
 ·have h1:CL d=(A8 HN).1:=by
   unfold CL
   rw[if_neg]
   intro h
   have:=h.1
   exact eV
  exact AG hc [.cell 2 37] rfl (.inl rfl) (by simp) (by rw[h1];first|exact eR|refine Ap ?_)
end
/- Plain: a part of what is valid is valid; parts of what unifies unify. -/
section
theorem Oo (d:List AJ):H11 (CL d):=by
 unfold CL
 split
 ·exact Qu d
 ·exact Qu HN
end
/- The types of a compiled hierarchy have different, normal codes. -/
section
theorem eF (d:List AJ):Nd ((A8 d).1.1.map fun t=>t.2.1):=by
 unfold A8
 split
 ·exact⟨.nil,fun c h=>(by cases h)⟩
 ·rename_i hv
  have hv:(BJ d).2=0:=Classical.byContradiction hv
  have h5:BH d=0:=by
   unfold BJ at hv
   split at hv
   ·rename_i h;exact absurd hv h
   ·rename_i h;exact Classical.byContradiction h
  obtain⟨hz,-,-⟩:=CK h5
  obtain⟨h3,hlen,-⟩:=Be hz
  have hf:Nd (A0 (Ad d)):=Xk (Vu h3)
  have e:((GD d).1.map fun t=>t.2.1)=(Ax d).map fun x=>x.2:=by
   show ((Eg _ _ _).map fun t=>t.2.1)=_
   unfold Eg
   rw[List.map_map]
   apply List.ext_getElem
   ·simp
   ·intro i h1 h2
    simp[List.getD_eq_getElem?_getD,show i<(Ax d).length by simpa using h1]
  show Nd ((GD d).1.map fun t=>t.2.1)
  rw[e]
  refine⟨Kv (by simpa using hf.nd),fun c hc=>?_⟩
  obtain⟨x,hx,rfl⟩:=List.mem_map.1 hc
  obtain⟨b,hb,rfl⟩:=DQ.1 hx
  exact hf.nrm b hb
end
/- Plain: unifications that can be computed. -/
section
/-! What is valid can be computed -/
def roB (f:List AF):Bool:=(List.range f.length).all fun(i:Nat)=>i==0||(List.range i).any fun j=>(f.getD j (0,[])).2.any fun a=>a.2==(i:Int)
def A0W:List (Int×Int)→Bool
 | a :: b :: l=>decide (a.1<b.1)&&A0W (b :: l)
 | _=>true
theorem mD:∀ {l:List (Int×Int)},A0W l=true→Rg l
 | [],_=>.nil
 | [a],_=>List.pairwise_singleton _ _
 | a :: b :: l,h=>by
  simp only[A0W,Bool.and_eq_true,decide_eq_true_eq]at h
  have ih:=mD h.2
  refine List.pairwise_cons.2 ⟨fun c hc=>?_,ih⟩
  rcases List.mem_cons.1 hc with rfl|hc
  ·exact h.1
  ·have:=(List.pairwise_cons.1 ih).1 c hc
   omega
def vfB (h:AN) (f:List AF):Bool :=
 decide (0<f.length)&&decide (f.length≤100)&&roB f&&(AX f 0==f)&&f.all fun x=>decide (0≤x.1)&&decide (x.1<(h.1.length:Int))&&decide (x.2.length≤100)&&A0W x.2&&x.2.all fun a=>decide (0≤a.1)&&decide (a.1<(h.2.length:Int))&&decide (0≤a.2)&&decide (a.2<(f.length:Int))
theorem wC {h:AN} {f:List AF} (hb:vfB h f=true):VF h f:=by
 unfold vfB at hb
 simp only[Bool.and_eq_true,decide_eq_true_eq,List.all_eq_true,beq_iff_eq]at hb
 obtain⟨⟨⟨⟨h1,h2⟩,h3⟩,h4⟩,h5⟩:=hb
 refine⟨⟨by omega,fun x hx=>⟨by have:=(h5 x hx).1.1.2;omega,fun a ha=>?_⟩⟩,h1,fun x hx=>?_,fun x hx=>?_,fun x hx a ha=>?_,h4,fun i i0 i1=>?_⟩
 ·have:=(h5 x hx).2 a ha
  exact⟨this.1.2,this.2⟩
 ·exact(h5 x hx).1.1.1
 ·exact mD (h5 x hx).1.2
 ·exact((h5 x hx).2 a ha).1.1
 ·unfold roB at h3
  rw[List.all_eq_true]at h3
  have:=h3 i.toNat (List.mem_range.2 (by omega))
  rw[Bool.or_eq_true,beq_iff_eq]at this
  rcases this with e|e
  ·omega
  ·obtain⟨j,hj,e⟩:=List.any_eq_true.1 e
   obtain⟨a,ha,e⟩:=List.any_eq_true.1 e
   have hj:=List.mem_range.1 hj
   refine⟨(j:Int),by omega,by omega,a,by rw[AU,Int.toNat_natCast];exact ha,?_⟩
   have e:a.2=(i.toNat:Int):=by simpa using e
   omega
end
/- The example of layer 16: the kernel's part. -/
section
abbrev pH:AN:=CL []
def aN:List AF:=[(0,[(2,1),(10,2)]),(1,[]),(6,[])]
def qxB:List AF:=[(0,[(2,1),(10,2)]),(6,[]),(7,[])]
theorem ML:H11 pH:=Oo []
theorem mE {h:AN} (hk:UQ h) (hb:h.1.length≤256):WdH h:=⟨by omega,fun x hx=>Nat.le_trans (hk.1.wid x.2.1 (List.mem_map.2 ⟨x,hx,rfl⟩)) (by omega)⟩
theorem wD (d:List AJ):Xp (CL d):=by
 have key:∀d:List AJ,Xp (A8 d).1:=fun d t ht=>(eF d).nrm _ (List.mem_map.2 ⟨t,ht,rfl⟩)
 unfold CL
 split
 ·exact key d
 ·exact key HN
theorem A21:pH.1.length=13:=by decide +kernel
theorem Xt:VF pH aN:=wC (by decide +kernel)
theorem wE:VF pH qxB:=wC (by decide +kernel)
theorem qx1:B6 pH aN qxB=[[10]]:=by decide +kernel
theorem qx2:B6 pH qxB aN=[[10]]:=by decide +kernel
theorem qx3:B6 pH aN aN=[]:=by decide +kernel
theorem qx4:Bl (CA pH) [6,-1] [7,6]=false:=by decide +kernel
theorem qx5:Bl (CA pH) [-1,6] [7,1]=true:=by decide +kernel
theorem qx6:Tz pH [(aN,qxB),(qxB,aN),(aN,aN)]=[(J4 (Tu [10]),([10],2))]:=by
 simp only[Tz,List.foldl_cons,List.foldl_nil,A20,qx1,qx2,qx3]
 decide +kernel
theorem qx7:Xr pH [(aN,qxB),(qxB,aN),(aN,aN)] 1=[[10]]:=by
 unfold Xr
 rw[qx6]
 decide +kernel
theorem qx8:Ei aN [[10],[5],[]]=[6,-1,0]:=by decide +kernel
end
/- Of grammarlablaw16: exampleHolds. -/
section
theorem Xu (h:AN):(h.1,h.2)=h:=rfl
attribute [local go_sem] K2 Fx T6 Og Jc M9 HY
def MM:Ac:={ ins:=[],pre:=fun _=>True,out:=fun _=>[.p .bool true] }
theorem Oq:Ai Tryz.prog 12 MM:=by
 refine AP Tryz.func12 (by kernel_rfl) rfl Tryz.ntmps12 (by decide) (by kernel_rfl) (AH [(16,K2),(22,Fx),(25,T6),(14,Og),(21,Jc),(13,M9),(18,HY)] [10,14,18,22,38,41,42,43,44,47,48,52,53,58,63,64,70,71,76]) (AE Om (AE Kx (AE wB (AE Xo (AE WC (AE Z9 (AE Oi AI))))))) ?_
 rintro w0 O0 u hc - -
 simp only[MM,AM]
 repeat'(first|exact trivial|refine eS rfl ?_|refine AB ?_|refine rP [0,1,2,3,4,5,6] hc ?_ ?_|fail)
 ·exact⟨mE ML.hu.ok ML.b1,⟨Xt.good,Xt.ty⟩,wE.good,wE.ty⟩
 ·refine⟨⟨mE ML.hu.ok ML.b1,ML.hu.ft⟩,fun x hx=>?_,?_⟩
  ·simp only[List.mem_cons,List.not_mem_nil,or_false]at hx
   rcases hx with rfl|rfl|rfl
   ·exact⟨⟨Xt,Xt.srt ML.hu,by decide⟩,wE⟩
   ·exact⟨⟨wE,wE.srt ML.hu,by decide⟩,Xt⟩
   ·exact⟨⟨Xt,Xt.srt ML.hu,by decide⟩,Xt⟩
  ·have h6:=qx6
   unfold aN qxB at h6
   show List.length (Tz (CL []) _)≤12
   rw[h6]
   decide
 ·exact Xt.good
 ·have h1:=qx1
  have h7:=qx7
  have h8:=qx8
  have hl:(CL []).1.length=13:=A21
  have h4:Bl (CA (CL [])) [6,-1] [7,6]=false:=qx4
  have h5:Bl (CA (CL [])) [-1,6] [7,1]=true:=qx5
  have hw:WdH (CL []):=mE ML.hu.ok ML.b1
  unfold aN qxB at h1 h7
  unfold aN at h8
  have he:((CL []).1,(CL []).2)=CL []:=rfl
  simp only[he]
  rw[h1,h7,h8]
  clear h1 h7 h8
  generalize CL []=h at *
  repeat'(first|exact trivial|refine eS rfl ?_|refine AB ?_|refine rX [0,1,2,3,4,5,6] hc ?_ ?_|refine rC ?_ ?_<;>intro AA<;>try(cases AA;done))
  ·simp only[Xu h]
   have t1:aQ h [6,-1]:=fun x hx=>by simp only[List.mem_cons,List.not_mem_nil,or_false]at hx;rcases hx with rfl|rfl<;>omega
   have t2:aQ h [7,6]:=fun x hx=>by simp only[List.mem_cons,List.not_mem_nil,or_false]at hx;rcases hx with rfl|rfl<;>omega
   have t3:aQ h [-1,6]:=fun x hx=>by simp only[List.mem_cons,List.not_mem_nil,or_false]at hx;rcases hx with rfl|rfl<;>omega
   have t4:aQ h [7,1]:=fun x hx=>by simp only[List.mem_cons,List.not_mem_nil,or_false]at hx;rcases hx with rfl|rfl<;>omega
   have t5:aQ h [3]:=fun x hx=>by simp only[List.mem_cons,List.not_mem_nil,or_false]at hx;subst hx;omega
   have t6:aQ h []:=fun x hx=>by cases hx
   exact⟨fun _=>⟨hw,t1,t2⟩,fun _=>⟨hw,t3,t4⟩,fun _=>⟨hw,t6,t5⟩⟩
  ·simp only[Xu h,h4,h5]
   have h9:Bl (CA h) [] [3]=true:=rfl
   rw[h9]
   exact AG hc [.tmp 0] rfl (.inl rfl) (by simp) (by first|exact eR|refine Ap ?_)
end
/- Functions of grammarlabref15: Valid. -/
section
attribute [local go_sem] Pc Rj
def K3:Ac:={ ins:=[II,FW],pre:=fun _=>True,out:=fun(h,f,_)=>[.p .bool (Kz h f)],lend:=true }
theorem UC:Ai Tryz.prog 20 K3:=by
 refine AP Tryz.func20 (by kernel_rfl) rfl Tryz.ntmps20 (by decide) (by kernel_rfl) (AH [(30,Pc),(39,Rj)]) (AE ZW (AE pV AI)) ?_
 rintro w0 O0 ⟨⟨ht,hf⟩,f,u⟩ hc - -
 simp only[K3,AM]
 repeat'(first|exact trivial|refine eS rfl ?_|refine AB ?_|refine rX [0,1,2,3,4] hc ?_ ?_|refine rC ?_ ?_<;>intro AA<;>try(cases AA;done))
 ·intro h
  obtain⟨h1,h2⟩:=Hx h
  exact⟨Nat.le_trans h1 (by decide),fun x hx=>Nat.le_trans (h2 x hx) (by decide)⟩
 ·exact AG hc [.tmp 4] rfl (.inl rfl) (by simp) (by unfold Kz;first|exact eR|refine Ap ?_)
end
/- Of grammarlablaw16: light. -/
section
attribute [local go_sem] K3 E3
def K4 (h:AN) (a b:List AF) (ps:List (List Int)):Bool:=(Kz h a&&Kz h b)&&CM ps
def K5:Ac:={ ins:=[II,T54],pre:=fun _=>True,out:=fun(h,(_,a,b,ps),_)=>[.p .bool (K4 h a b ps)],lend:=true }
attribute [local go_sem] K5
theorem eG:Ai Tryz.prog 28 K5:=by
 refine AP Tryz.func28 (by kernel_rfl) rfl Tryz.ntmps28 (by decide) (by kernel_rfl) (AH [(20,K3),(11,E3)]) (AE UC (AE MC AI)) ?_
 rintro w0 O0 ⟨⟨ht,hf⟩,⟨d,a,b,ps⟩,u⟩ hc - -
 simp only[K5,AM]
 repeat'(first|exact trivial|refine eS rfl ?_|refine AB ?_|refine rX [0,1,2,3,4] hc ?_ ?_|refine rC ?_ ?_<;>intro AA<;>try(cases AA;done))
 exact AG hc [.tmp 4] rfl (.inl rfl) (by simp) (by unfold K4;first|exact eR|refine Ap ?_)
end
/- Of grammarlablaw16: types; of grammarlabref16: has. -/
section
attribute [local go_sem] NA
def FQ (h:AN) (l:List Int):Bool:=decide (l.length≤20)&&l.all fun x=>decide (x<(h.1.length:Int))
def K6:Ac:={ ins:=[II,Bx],pre:=fun _=>True,out:=fun(h,l,_)=>[.p .bool (FQ h l)],lend:=true }
attribute [local go_sem] K6
theorem eH:Ai Tryz.prog 17 K6:=by
 refine AP Tryz.func17 (by kernel_rfl) rfl Tryz.ntmps17 (by decide) (by kernel_rfl) (AH []) AI ?_
 rintro w0 O0 ⟨⟨ht,hf⟩,l,u⟩ hc - -
 simp only[K6,AM]
 repeat'(first|exact trivial|refine eS rfl ?_|refine AB ?_|refine rX [0,1,2,4,5,8,12,22] hc ?_ ?_|refine rC ?_ ?_<;>intro AA<;>try(cases AA;done))
 ·have h1:FQ (ht,hf) l=false:=by
   unfold FQ
   rw[decide_eq_false (by omega)]
   rfl
  exact AG hc [.tmp 4] rfl (.inl rfl) (by simp) (by rw[h1];first|exact eR|refine Ap ?_)
 ·have hl20:List.length l≤20:=by omega
  refine AK (ι:={k:Nat//k≤List.length l∧((l:List Int).take k).all (fun x=>decide (x<(List.length ht:Int)))=true}) (fun k=>⟨[(1,.p Bx l),(2,.bp 2 [] 0),(5,.p (.int .i64) (k.1:Int))],[(2,.box 37 true [.p Xx ht,.p Yq hf])]⟩) (fun k=>List.length l-k.1) ⟨0,Nat.zero_le _,rfl⟩ (AC [(2,.nm 2)] rfl rfl ?_ ?_) (fun k=>?_)
  ·first|exact eN|refine eM ?_
  ·first|exact eN|refine eM ?_
  ·obtain⟨k,hk,he⟩:=k
   repeat'(first|exact trivial|refine eS rfl ?_|refine AB ?_|refine rX [0,1,2,4,5,8,12,22] hc ?_ ?_|refine rC ?_ ?_<;>intro AA<;>try(cases AA;done))
   ·exact AA
   ·have hkl:k<List.length l:=by exact eV
    have h1:FQ (ht,hf) l=false:=by
     unfold FQ
     rw[Bool.and_eq_false_iff]
     right
     rw[List.all_eq_false]
     exact⟨_,AD (l:List Int) 0 hkl,by simpa using AA⟩
    exact AG hc [.tmp 4] rfl (.inl rfl) (by simp) (by rw[h1];first|exact eR|refine Ap ?_)
   ·exact eV
   ·have hkl:k<List.length l:=by exact eV
    refine⟨⟨k+1,hkl,?_⟩,by simp only;omega,AC [(2,.nm 2)] rfl rfl ?_ ?_⟩
    ·rw[Ae (l:List Int) 0 hkl,List.all_append,he]
     simpa using AA
    ·first|exact eN|refine eM ?_
    ·first|exact eN|refine eM ?_
   ·have hkl:(l:List Int).take k=l:=List.take_of_length_le (by exact eV)
    rw[hkl]at he
    have h1:FQ (ht,hf) l=true:=by
     unfold FQ
     rw[decide_eq_true hl20]
     exact he
    exact AG hc [.tmp 4] rfl (.inl rfl) (by simp) (by rw[h1];first|exact eR|refine Ap ?_)
end
/- Functions of unify: Unify. -/
section
noncomputable def UD:Ac:={ ins:=[II,FW,FW],pre:=fun(h,a,b,_)=>HU h∧VF h a∧VF h b∧List.length a+List.length b≤10000,out:=fun(h,a,b,_)=>[.p FW (EW h a b).1,.p .bool (EW h a b).2] }
attribute [local go_sem] UD
theorem wF:Ai Tryz.prog 29 UD:=by
 refine AP Tryz.func29 (by kernel_rfl) rfl Tryz.ntmps29 (by decide) (by kernel_rfl) (AH []) AI ?_
 rintro w0 O0 ⟨h,a,b,u⟩ hc-⟨hu,va,vb,hab⟩
 simp only[UD,AM]
 repeat'(first|exact trivial|refine eS rfl ?_|refine AB ?_|refine rX [0,1,2,3,4,5,6,7,8,25] hc ?_ ?_|refine rC ?_ ?_<;>intro AA<;>try(cases AA;done))
 refine cP 3 hc ?_ ?_
 ·trivial
 ·refine rM hc (uY h [] [] [] a va.good (by simp) rfl rfl) [(1,.nm 11),(2,.nil),(3,.nil),(4,.nil)] [] ?_ ?_ ?_
  ·first|exact eN|refine eM ?_
  ·simp only[Vn]
   first|exact eN|refine eM ?_
  ·rintro _ _ ⟨rfl,rfl⟩
   refine⟨[(11,.nm 1),(102,.nm 2),(103,.nm 3),(104,.nm 4)],.raw (.tuple #[]),[(11,.box 93 true [.p II h,.sr 102 T3 0 (CV 0 a.length).length,.sr 103 T3 0 (Ce a a.length).length,.sr 104 Ee 0 (E4 0 a a.length).length]),(102,.arr 3 T3 (CV 0 a.length)),(103,.arr 3 T3 (Ce a a.length)),(104,.arr 59 Ee (E4 0 a a.length))],rfl,rfl,?_,?_,rfl,rfl,EJ ?_⟩
   ·simp only[Vn]
    first|exact eN|refine eM ?_
   ·first|exact eN|refine eM ?_
   ·have la:(CV 0 a.length).length=a.length:=Ix 0 a.length
    have lt:(Ce a a.length).length=a.length:=by unfold Ce;rw[List.length_map,List.take_length]
    have lr:(E4 0 a a.length).length=a.length:=by unfold E4;rw[List.length_map,List.take_length]
    repeat'(first|exact trivial|refine eS rfl ?_|refine AB ?_|refine rX [0,1,2,3,4,5,6,7,8,25] hc ?_ ?_|refine rC ?_ ?_<;>intro AA<;>try(cases AA;done))
    refine cP 3 hc ?_ ?_
    ·trivial
    ·refine rM hc (uY h (CV 0 a.length) (Ce a a.length) (E4 0 a a.length) b vb.good (by omega) (by omega) (by omega)) [(1,.nm 11),(2,.nm 102),(3,.nm 103),(4,.nm 104)] [102,103,104] ?_ ?_ ?_
     ·first|exact eN|refine eM ?_
     ·simp only[Vn]
      first|exact eN|refine eM ?_
     ·rintro _ _ ⟨rfl,rfl⟩
      rw[la,pG,dT,pJ]
      rw[show a.length+b.length=(CW a b).length from (Fs a b).symm]
      have hN:=Fs a b
      have hgN:=dU va.good vb.good (by omega)
      have hji:=A0H hgN (vJ va.ty vb.ty) (Vv va.str vb.str)
      have hft:=vK (va.ft64 hu) (vb.ft64 hu)
      have hfl:=dW (N:=CW a b) fun x hx=>dV (Vv va.str vb.str x hx) (hft x hx)
      have hap:=va.pos
      have hbp:=vb.pos
      have hof:=fun p ty ar hj hQ=>A0G va vb (p:=p) (ty:=ty) (ar:=ar) hj hQ
      have hno:=pF va vb
      generalize CV 0 (CW a b).length=p0 at *
      generalize M7 (CW a b)=t0 at *
      generalize Th (CW a b)=r0 at *
      refine⟨[(11,.nm 1),(102,.nm 2),(103,.nm 3),(104,.nm 4)],.raw (.tuple #[]),[(11,.box 93 true [.p II h,.sr 102 T3 0 p0.length,.sr 103 T3 0 t0.length,.sr 104 Ee 0 r0.length]),(102,.arr 3 T3 p0),(103,.arr 3 T3 t0),(104,.arr 59 Ee r0)],rfl,rfl,?_,?_,rfl,rfl,EJ ?_⟩
      ·simp only[Vn]
       first|exact eN|refine eM ?_
      ·first|exact eN|refine eM ?_
      ·repeat'(first|exact trivial|refine eS rfl ?_|refine AB ?_|refine rX [0,1,2,3,4,5,6,7,8,25] hc ?_ ?_|refine rC ?_ ?_<;>intro AA<;>try(cases AA;done))
       refine cP 4 hc ?_ ?_
       ·trivial
       ·refine rM hc (A0z h hu.ok hji (a:=0) (b:=(a.length:Int)) (by omega) (by omega) (by omega) (by omega)) [(101,.nm 11),(102,.nm 102),(103,.nm 103),(104,.nm 104)] [102,103,104] ?_ ?_ ?_
        ·first|exact eN|refine eM ?_
        ·simp only[lV]
         first|exact eN|refine eM ?_
        ·rintro res objs' (⟨rfl,p1,t1,r1,rfl,hj1⟩|⟨rfl,⟨p1,t1,r1,rfl⟩,hno1⟩)
         ·have hQ:=vL hj1 (by omega) hft
          have hUn:=Zz hu (hof p1 t1 r1 hj1 hQ)
          refine⟨[(11,.nm 101),(102,.nm 102),(103,.nm 103),(104,.nm 104)],.p .bool true,[(11,.box 93 true [.p II h,.sr 102 T3 0 p1.length,.sr 103 T3 0 t1.length,.sr 104 Ee 0 r1.length]),(102,.arr 3 T3 p1),(103,.arr 3 T3 t1),(104,.arr 59 Ee r1)],rfl,rfl,?_,?_,rfl,rfl,?_⟩
          ·simp only[lV]
           first|exact eN|refine eM ?_
          ·first|exact eN|refine eM ?_
          ·refine rL [0,1,2,3,4,5,6,7,8,25] hc ?_ ?_
           ·trivial
           ·repeat'(first|exact trivial|refine eS rfl ?_|refine AB ?_|refine rX [0,1,2,3,4,5,6,7,8,25] hc ?_ ?_|refine rC ?_ ?_<;>intro AA<;>try(cases AA;done))
            refine cP 1 hc ?_ ?_
            ·trivial
            ·refine rM hc (vC h hj1.fo hQ (by rw[hj1.lt,hj1.lp]) (by rw[hj1.la,hj1.lp]) (fun k x hx=>by rw[hj1.lp];exact(hj1.arr k x hx).1) (r:=0) (by omega) (by rw[hj1.lp];omega)) [(101,.nm 11),(102,.nm 102),(103,.nm 103),(104,.nm 104)] [11,102,103,104] ?_ ?_ ?_
             ·first|exact eN|refine eM ?_
             ·simp only[lV]
              first|exact eN|refine eM ?_
             ·rintro _ objs' rfl
              refine⟨[],.p FW (AX (quo p1 t1 r1) (ED p1 0)),[],rfl,rfl,?_,?_,rfl,rfl,?_⟩
              ·first|exact eN|refine eM ?_
              ·first|exact eN|refine eM ?_
              ·refine rL [0,1,2,3,4,5,6,7,8,25] hc ?_ ?_
               ·trivial
               ·repeat'(first|exact trivial|refine eS rfl ?_|refine AB ?_|refine rX [0,1,2,3,4,5,6,7,8,25] hc ?_ ?_|refine rC ?_ ?_<;>intro AA<;>try(cases AA;done))
                exact AG hc [.cell 6 24,.tmp 7] rfl (.inl rfl) (by simp) (by rw[hUn];first|exact eR|refine Ap ?_)
         ·have hUn:=hno (fun X v hX hv=>hno1 X v hX hv)
          refine⟨[(11,.nm 101),(102,.nm 102),(103,.nm 103),(104,.nm 104)],.p .bool false,[(11,.box 93 true [.p II h,.sr 102 T3 0 p1.length,.sr 103 T3 0 t1.length,.sr 104 Ee 0 r1.length]),(102,.arr 3 T3 p1),(103,.arr 3 T3 t1),(104,.arr 59 Ee r1)],rfl,rfl,?_,?_,rfl,rfl,?_⟩
          ·simp only[lV]
           first|exact eN|refine eM ?_
          ·first|exact eN|refine eM ?_
          ·refine rL [0,1,2,3,4,5,6,7,8,25] hc ?_ ?_
           ·trivial
           ·repeat'(first|exact trivial|refine eS rfl ?_|refine AB ?_|refine rX [0,1,2,3,4,5,6,7,8,25] hc ?_ ?_|refine rC ?_ ?_<;>intro AA<;>try(cases AA;done))
            exact AG hc [.cell 6 24,.tmp 7] rfl (.inl rfl) (by simp) (by rw[hUn];first|exact eR|refine Ap ?_)
end
/- The laws QuickVectors, QuickFits, QuickClashes. -/
section
structure HQ (h:AN):Prop where
 h11:H11 h
 nrm:Xp h
 wd:WdH h
theorem UE (d:List AJ):HQ (CL d):=⟨Oo d,wD d,mE (Oo d).hu.ok (Oo d).b1⟩
theorem HQ.vf {h:AN} (hh:HQ h) {f:List AF} (hv:Kz h f=true):(VF h f∧Ew f)∧f.length≤12:=by
 have:=v5 hh.h11.b1 hh.h11.hu.ft hv
 exact⟨⟨this.1,this.1.srt hh.h11.hu⟩,this.2⟩
theorem qC {h:AN} {l:List Int} (e:FQ h l=true):l.length≤20∧aQ h l:=by
 unfold FQ at e
 rw[Bool.and_eq_true,decide_eq_true_eq,List.all_eq_true]at e
 exact⟨e.1,fun x hx=>by simpa using e.2 x hx⟩
attribute [local go_sem] Gc E3 MM Og dY M9 K2 K6 HY Oh K3 Fx Ky Jc
def eI:Ac:={ ins:=[FW,PN],pre:=fun _=>True,out:=fun _=>[.p .bool true] }
attribute [local go_sem] eI
theorem wG:Ai Tryz.prog 3 eI:=by
 refine AP Tryz.func3 (by kernel_rfl) rfl Tryz.ntmps3 (by decide) (by kernel_rfl) (AH [(10,Gc),(11,E3),(12,MM),(14,Og),(15,dY),(13,M9)]) (AE TG (AE MC (AE Oq (AE Xo (AE vS (AE Z9 AI)))))) ?_
 rintro w0 O0 ⟨f,ps,u⟩ hc - -
 simp only[eI,AM]
 repeat'(first|exact trivial|refine eS rfl ?_|refine AB ?_|refine rX [0,1,2,4,12] hc ?_ ?_|refine rC ?_ ?_<;>intro AA<;>try(cases AA;done))
 ·exact AG hc [.tmp 4] rfl (.inl rfl) (by simp) (by first|exact eR|refine Ap ?_)
 ·obtain⟨h1,_,h2,_⟩:=HV AA.1
  have hl:=AA.2
  unfold CM at hl
  rw[Bool.and_eq_true,decide_eq_true_eq]at hl
  exact⟨h1,h2,by have:=hl.1;omega⟩
 ·exact AG hc [.tmp 4] rfl (.inl rfl) (by simp) (by first|exact eR|refine Ap ?_)
def eJ:Ac:={ ins:=[EK,Bx,Bx],pre:=fun _=>True,out:=fun _=>[.p .bool true] }
attribute [local go_sem] eJ
theorem wH:Ai Tryz.prog 4 eJ:=by
 refine AP Tryz.func4 (by kernel_rfl) rfl Tryz.ntmps4 (by decide) (by kernel_rfl) (AH [(16,K2),(17,K6),(12,MM),(18,HY),(19,Oh)]) (AE Om (AE eH (AE Oq (AE Oi (AE pP AI))))) ?_
 rintro w0 O0 ⟨d,a,b,u⟩ hc - -
 simp only[eJ,AM]
 have hh:=UE d
 have ht:=fun(l:List Int)=>qC (h:=CL d) (l:=l)
 repeat'(first|exact trivial|refine eS rfl ?_|refine AB ?_|refine rX [0,1,2,6,7,8,9,21,40,47,56] hc ?_ ?_|refine rC ?_ ?_<;>intro AA<;>try(cases AA;done))
 all_goals try simp only[Xu (CL d)]at *
 all_goals generalize CL d=h at *
 ·exact AG hc [.tmp 6] rfl (.inl rfl) (by simp) (by first|exact eR|refine Ap ?_)
 ·exact⟨hh.wd,(ht a AA.1).2,(ht b AA.2).2⟩
 ·exact⟨⟨hh.wd,(ht a AA.1).2,(ht b AA.2).2⟩,fun _=>⟨hh.wd,(ht b AA.2).2,(ht a AA.1).2⟩⟩
 ·rename_i hp
  exfalso
  have t1:=(ht a hp.1).2
  have t2:=(ht b hp.2).2
  rw[WG hh.h11.hu.ok hh.nrm t1 t2,WH hh.h11.hu.ok t1 t2]at AA
  simp at AA
 ·rename_i hp
  obtain⟨l1,t1⟩:=ht a hp.1
  obtain⟨l2,t2⟩:=ht b hp.2
  have hfk:=fun n=>WJ (CA h) a b n
  refine AK (ι:={k:Nat//k≤List.length a+1}) (fun k=>⟨[(0,.p EK d),(1,.p Bx a),(2,.p Bx b),(7,.bp 7 [] 0),(8,.p .bool (Bl (CA h) a b)),(9,.p (.int .i64) (k.1:Int))],[(7,.box 37 true [.p Xx h.1,.p Yq h.2])]⟩) (fun k=>List.length a+1-k.1) ⟨0,by omega⟩ (AC [(7,.nm 7)] rfl rfl ?_ ?_) (fun k=>?_)
  ·first|exact eN|refine eM ?_
  ·first|exact eN|refine eM ?_
  ·obtain⟨k,hk⟩:=k
   simp only
   repeat'(first|exact trivial|refine eS rfl ?_|refine AB ?_|refine rX [0,1,2,6,7,8,9,21,40,47,56] hc ?_ ?_|refine rC ?_ ?_<;>intro AA<;>try(cases AA;done))
   ·exact⟨AA.2,hh.wd,fun x hx=>t1 x (List.mem_of_mem_take hx),t2⟩
   ·rename_i hq
    exfalso
    rw[Xu h,hfk k hq.1]at AA
    cases AA
   ·rename_i hq
    have:=hq.2
    omega
   ·rename_i hq
    have hka:k≤List.length a:=Int.ofNat_le.1 hq.2
    refine⟨⟨k+1,by omega⟩,by simp only;omega,AC [(7,.nm 7)] rfl rfl ?_ ?_⟩
    ·first|exact eN|refine eM ?_
    ·first|exact eN|refine eM ?_
   ·exact AG hc [.tmp 6] rfl (.inl rfl) (by simp) (by first|exact eR|refine Ap ?_)
def eK:Ac:={ ins:=[EK,FW,FW],pre:=fun _=>True,out:=fun _=>[.p .bool true] }
attribute [local go_sem] eK
theorem wI:Ai Tryz.prog 5 eK:=by
 refine AP Tryz.func5 (by kernel_rfl) rfl Tryz.ntmps5 (by decide) (by kernel_rfl) (AH [(16,K2),(20,K3),(12,MM),(22,Fx),(23,Ky),(21,Jc)]) (AE Om (AE UC (AE Oq (AE Kx (AE d6 (AE WC AI)))))) ?_
 rintro w0 O0 ⟨d,a,b,u⟩ hc - -
 simp only[eK,AM]
 have hh:=UE d
 have hv:=fun f=>(UE d).vf (f:=f)
 repeat'(first|exact trivial|refine eS rfl ?_|refine AB ?_|refine rX [0,1,2,4,5,6,7,19] hc ?_ ?_|refine rC ?_ ?_<;>intro AA<;>try(cases AA;done))
 all_goals try simp only[Xu (CL d)]at *
 all_goals generalize CL d=h at *
 ·exact AG hc [.tmp 6] rfl (.inl rfl) (by simp) (by first|exact eR|refine Ap ?_)
 ·obtain⟨⟨va,sa⟩,la⟩:=hv a AA.1
  obtain⟨⟨vb,sb⟩,lb⟩:=hv b AA.2
  exact⟨hh.wd,⟨va.good,va.pos,va.ty,la⟩,vb.good,vb.pos,vb.ty⟩
 ·obtain⟨⟨va,sa⟩,la⟩:=hv a AA.1
  obtain⟨⟨vb,sb⟩,lb⟩:=hv b AA.2
  rw[d8 hh.h11.hu.ok hh.nrm hh.h11.hu.ft va sa vb]
  exact AG hc [.tmp 6] rfl (.inl rfl) (by simp) (by first|exact eR|refine Ap ?_)
end
/- The law QuickAgrees. -/
section
theorem Ln {h:AN} {f:List AF} (vf:VF h f) (ps:List (List Int)):aQ h (Ei f ps):=by
 intro x hx
 unfold Ei at hx
 obtain⟨p,hp,rfl⟩:=List.mem_map.1 hx
 split
 ·rename_i hs
  exact(HZ vf.good vf.pos vf.ty hs).2
 ·omega
attribute [local go_sem] MM Og K2 HY K3 Fx Pt
def eL:Ac:={ ins:=[EK,FW,FW],pre:=fun _=>True,out:=fun _=>[.p .bool true] }
attribute [local go_sem] eL
theorem wJ:Ai Tryz.prog 8 eL:=by
 refine AP Tryz.func8 (by kernel_rfl) rfl Tryz.ntmps8 (by decide) (by kernel_rfl) (AH [(16,K2),(20,K3),(12,MM),(22,Fx),(27,Pt),(14,Og),(18,HY)]) (AE Om (AE UC (AE Oq (AE Kx (AE aG (AE Xo (AE Oi AI))))))) ?_
 rintro w0 O0 ⟨d,a,b,u⟩ hc - -
 simp only[eL,AM]
 have hh:=UE d
 have hv:=fun f=>(UE d).vf (f:=f)
 repeat'(first|exact trivial|refine eS rfl ?_|refine AB ?_|refine rX [0,1,2,4,5,6,7,8,9,10,22,41,45,63] hc ?_ ?_|refine rC ?_ ?_<;>intro AA<;>try(cases AA;done))
 all_goals try simp only[Xu (CL d)]at *
 all_goals generalize CL d=h at *
 ·exact AG hc [.tmp 6] rfl (.inl rfl) (by simp) (by first|exact eR|refine Ap ?_)
 ·obtain⟨⟨va,sa⟩,la⟩:=hv a AA.1
  exact⟨va.good,va.pos⟩
 ·obtain⟨⟨va,sa⟩,la⟩:=hv a AA.1
  obtain⟨⟨vb,sb⟩,lb⟩:=hv b AA.2
  exact⟨hh.wd,⟨va.good,va.pos,va.ty,la⟩,vb.good,vb.pos,vb.ty⟩
 ·obtain⟨⟨va,sa⟩,la⟩:=hv a AA.1
  obtain⟨⟨vb,sb⟩,lb⟩:=hv b AA.2
  have hfl:(Aj a).length=List.length a:=Fq va.good va.pos
  have hl1:(Aj a).length≤1000:=by rw[hfl];exact Nat.le_trans la (by decide)
  exact⟨⟨va.good,va.pos,hl1⟩,⟨vb.good,vb.pos,hl1⟩,hh.wd,Ln va _,Ln vb _⟩
 ·rename_i hp
  obtain⟨⟨va,sa⟩,la⟩:=hv a hp.1
  obtain⟨⟨vb,sb⟩,lb⟩:=hv b hp.2
  exfalso
  refine AA ?_
  rw[pX hh.h11.hu.ft va sa vb]
  rfl
 ·rename_i hp
  obtain⟨⟨va,sa⟩,la⟩:=hv a hp.1
  obtain⟨⟨vb,sb⟩,lb⟩:=hv b hp.2
  have hcn:=fun p hp=>pY (p:=p) hh.h11.hu.ft va sa vb hp
  have hcs:=d9 hh.h11.hu.ok hh.h11.hu.ft va sa
  have hll:(B6 h a b).length≤12:=Nat.le_trans WN la
  have hvt:=fun ps=>Ln va ps
  have hvu:=fun ps=>Ln vb ps
  generalize B6 h a b=cl at *
  refine AK (ι:={k:Nat//k≤cl.length}) (fun k=>⟨[(9,.p PN cl),(10,.p (.int .i64) (k.1:Int)),(7,.bp 7 [] 0),(5,.bp 5 [] 0),(4,.bp 4 [] 0)],[(7,.box 37 true [.p Xx h.1,.p Yq h.2]),(5,.box 24 true [.p Jm b]),(4,.box 24 true [.p Jm a])]⟩) (fun k=>cl.length-k.1) ⟨0,Nat.zero_le _⟩ (AC [(7,.nm 7),(5,.nm 5),(4,.nm 4)] rfl rfl ?_ ?_) (fun k=>?_)
  ·first|exact eN|refine eM ?_
  ·first|exact eN|refine eM ?_
  ·obtain⟨k,hk⟩:=k
   simp only
   have hsb:∀h:k<cl.length,sub cl k ((k:Int)+1).toNat=[cl.getD k []]:=fun h=>by
    unfold sub
    rw[show ((k:Int)+1).toNat-k=1 by omega,List.drop_eq_getElem_cons h,List.getD_eq_getElem?_getD,List.getElem?_eq_getElem h]
    rfl
   repeat'(first|exact trivial|refine eS rfl ?_|refine AB ?_|refine rX [0,1,2,4,5,6,7,8,9,10,22,41,45,63] hc ?_ ?_|refine rC ?_ ?_<;>intro AA<;>try(cases AA;done))
   ·have hk1:k<cl.length:=by omega
    rw[hsb hk1]
    have hi:((k:Int)≤(k:Int)+1∧(k:Int)+1≤(cl.length:Int)):=by omega
    have h1:[cl.getD k []].length≤1000:=by simp
    exact⟨by omega,hi,⟨va.good,va.pos,h1⟩,by omega,hi,⟨vb.good,vb.pos,h1⟩,hh.wd,hvt _,hvu _⟩
   ·rename_i hq
    have hk1:k<cl.length:=by omega
    exfalso
    rw[hsb hk1,Xu h,hcn _ (AD cl [] hk1)]at AA
    cases AA
   ·omega
   ·rename_i hq
    have hk1:k<cl.length:=by omega
    refine⟨⟨k+1,hk1⟩,by simp only;omega,AC [(7,.nm 7),(5,.nm 5),(4,.nm 4)] rfl rfl ?_ ?_⟩
    ·first|exact eN|refine eM ?_
    ·first|exact eN|refine eM ?_
   ·exact⟨hh.wd,⟨va.good,va.pos,va.ty,la⟩,va.good,va.pos,va.ty⟩
   ·rw[Xu h,hcs]
    exact AG hc [.tmp 6] rfl (.inl rfl) (by simp) (by first|exact eR|refine Ap ?_)
end
/- The law QuickSound. -/
section
theorem eO {h:AN} (hh:HQ h) {a b:List AF} {ps:List (List Int)} (e:K4 h a b ps=true):(VF h a∧a.length≤12)∧(VF h b∧b.length≤12)∧ps.length≤1000:=by
 unfold K4 CM at e
 simp only[Bool.and_eq_true,decide_eq_true_eq]at e
 obtain⟨⟨ea,eb⟩,ep,_⟩:=e
 have va:=hh.vf ea
 have vb:=hh.vf eb
 exact⟨⟨va.1.1,va.2⟩,⟨vb.1.1,vb.2⟩,by omega⟩
attribute [local go_sem] MM Og K2 HY Fx K5 UD
def eQ:Ac:={ ins:=[T54],pre:=fun _=>True,out:=fun _=>[.p .bool true] }
attribute [local go_sem] eQ
theorem wK:Ai Tryz.prog 9 eQ:=by
 refine AP Tryz.func9 (by kernel_rfl) rfl Tryz.ntmps9 (by decide) (by kernel_rfl) (AH [(16,K2),(28,K5),(12,MM),(22,Fx),(14,Og),(18,HY),(29,UD)]) (AE Om (AE eG (AE Oq (AE Kx (AE Xo (AE Oi (AE wF AI))))))) ?_
 rintro w0 O0 ⟨⟨d,a,b,ps⟩,u⟩ hc - -
 simp only[eQ,AM]
 have hh:=UE d
 have hlt:=fun(e:K4 (CL d) a b ps=true)=>eO (UE d) e
 repeat'(first|exact trivial|refine eS rfl ?_|refine AB ?_|refine rX [0,1,2,3,5,12,24] hc ?_ ?_|refine rC ?_ ?_<;>intro AA<;>try(cases AA;done))
 all_goals try simp only[Xu (CL d)]at *
 all_goals generalize CL d=h at *
 ·exact AG hc [.tmp 2] rfl (.inl rfl) (by simp) (by first|exact eR|refine Ap ?_)
 ·obtain⟨⟨va,la⟩,⟨vb,lb⟩,lp⟩:=hlt AA
  exact⟨hh.h11.hu,va,vb,by exact eV⟩
 ·exact AG hc [.tmp 2] rfl (.inl rfl) (by simp) (by first|exact eR|refine Ap ?_)
 ·rename_i hp
  obtain⟨⟨va,la⟩,⟨vb,lb⟩,lp⟩:=hlt hp
  exact⟨⟨va.good,va.pos,lp⟩,⟨vb.good,vb.pos,lp⟩,⟨hh.wd,Ln va _,Ln vb _⟩,fun _=>⟨hh.wd,⟨va.good,va.pos,va.ty,la⟩,vb.good,vb.pos,vb.ty⟩⟩
 ·rename_i hp
  obtain⟨⟨va,la⟩,⟨vb,lb⟩,lp⟩:=hlt hp
  obtain⟨s1,s2⟩:=pZ hh.h11.hu va vb AA ps
  rw[s1,s2]
  exact AG hc [.tmp 2] rfl (.inl rfl) (by simp) (by first|exact eR|refine Ap ?_)
end
end Go.Proofs.YtmejfnhmgbhkmabGreat.Fw
