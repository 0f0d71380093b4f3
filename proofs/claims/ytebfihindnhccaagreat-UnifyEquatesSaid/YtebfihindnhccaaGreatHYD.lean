/- Contracts of the program's and the reference's functions, and the plain laws of what they compute: H3 V19 V3 V7 V8 V20 H1 LC U13 U15 U16 H4 H5 L9 L13. -/
/- Functions of path: At; of grammarlablaw11: short. -/
import Derived.Test.YtebfihindnhccaaGreatHYC
import Derived.Test.YtebfihindnhccaaGreatHYB
import Derived.Test.YtebfihindnhccaaGreatHZI
import Derived.Test.YtebfihindnhccaaGreatHYA
set_option linter.unusedVariables false
set_option linter.unusedSimpArgs false
namespace Go.Proofs.YtebfihindnhccaaGreat.Fw
open Go
attribute [local irreducible] Ev
attribute [local go_sem] Xz AN List.toList_toArray Bd evG evK T7 D8 I2 F1 FG FC NF Jj Bv Cq LA B4 CO frz Z3 Fx Cp A3 E6 Bb AV.frz AV.frzs AV.drp AV.drps AV.names AV.namess aq Fz Ji Iu Qs Hq BN BP IK EL HY EM Ha HZ Hb Ri M9 GD Iv E8 Dl Rj Oi qS IL Hc J2 Eh Ds Qt CA Dt ET Oj Ol J3 Ht Iw Cd CU Er DL Gm DJ EU DK Du FA B4 CM Qr Oh MO Ft Hs Hr J1 L3 NC J5 J8 J6 Iz Px J7 I0 Vy NE ND AV.trn AV.trns Dg B9 Obj.trn Ia YK Cf Cy Ce Dv CN EV Ap lk GW Fy Gj w9 Z2 UA Z5 Pw nL nM xC AV.cells Bo II M8 Iy NB B2 L1 Ty.cell1 HX EK DI FX MN Eg It J0 Pt Fv GC Lv Qq Rh Jy Ir Vu Xc Pu L2 CY IJ RV.flat Ty.flat Ty.size St.add upd T6 BT Value.oneCell' Jv Ty.dflt HW Nc Gt Np List.take_succ_cons List.take_zero List.length_cons X8 X9 Nn IX KN Gg IY rW FH LM LN LO LP Oy Oz LQ Hh Rz Option.map_some Option.map_none Option.bind_some Option.getD_some Option.getD_none Option.isNone_none Option.isNone_some Bool.and_true Bool.true_and Bool.and_false Bool.false_and Bool.not_true Bool.not_false if_true if_false List.length_cons List.length_nil and_true true_and and_self List.all_cons List.all_nil List.append_nil List.nil_append List.cons_append List.getElem?_cons_zero List.getElem?_cons_succ List.getElem?_nil List.map_cons List.map_nil List.set_cons_zero List.set_cons_succ List.isEmpty_nil List.isEmpty_cons decide_true decide_false beq_self_eq_true bne_self_eq_false Nat.zero_add Nat.add_zero Nat.sub_zero Int.toNat_natCast Int.toNat_zero Int.toNat_one List.take_length List.length_append List.length_singleton true_or or_true or_self false_or or_false Ty.agg.injEq Ty.slice.injEq Ty.prod.injEq Ty.int.injEq Option.some.injEq beq_iff_eq KL evMG evMQ r7 Gv KJ Bh IW F2 Nh IU Gu Hi JA Jn MX L8 MY Qw KK Nj Nk IV AZ Af Op.operands Call.operands List.filterMap_cons List.filterMap_nil List.append_eq Bool.cond_false_right Bool.cond_true_left cond_true cond_false implies_true decide_eq_true_eq beq_true beq_false Bool.or_true Bool.or_false Bool.true_or Bool.false_or Option.isSome_some E7 LB EW Gk Vx NA E9 Fd Fc Hd Gl Ix J4 UB Z4 UN inB I1 FB Fu IM Ca YB List.drop_zero DP Gx WT EO JG Co AV.fgt AV.fgts Obj.fgt BD Av AZ Cj JF BW F3 List.any_cons List.any_nil aX YE WU YF KO O3 qs List.flatMap_cons List.flatMap_nil List.cons_append tn WW GR List.take_succ_cons List.drop_succ_cons yJ SM RI e7 LV Cu DZ Au FF I9 CB EZ Dm Hy Hg Fg Gr
attribute [local go_sem] ty1 ty2 ty3 ty4 ty5 ty9 yM yN yO yP yQ yR yS yT yU yV yW yX yY yZ y3 y4 y5 y6 y7 y8 y9 zA zB zC zD zE zF zG zH zI zJ zK zL zM zN zO zP zQ zR zS zT zU zV zW zX zY zZ z4 z5 z6 z7 z8 z9 A00 A01 A02 A03 A04 A05 A06 A07 A08 A09 A0a A0b A0c A0d A0e A0f A0g A0h A0i A0j A0k A0l A0m A0n A0o fC fD fE fF fG fH fI fJ fK fL fM fO fP fQ fR fS fT fU fV fW fX fY fZ f6 f7 f8 f9 gB gC gD gE gF gG gH gI gJ gK gL gM gP gQ gR gS gT gU gV gW gX gY gZ g9 hC hD hH hY hZ iA iB iC iD iE iG iH iI iJ iK iL iM iO iP iQ iR iT iU iV iW iX iY iZ i3 i4 i5 i6 i7 i8 i9 jA jB jC jD jE jF jG jH jI jJ jK jL jM jN jO jP jQ jR jS jT jU jV jW jX jY jZ j4 j5 j6 j7 j8 j9 kA kB kC kD kE kF kG kH kI kJ kK kL kM kN kO kP kQ kR kS kT kU kV kW kX kY kZ k4 k5 k6 k7 k8 k9 lA lB lC lD lF lG lH lI lJ lK lL lM lO lQ lR lS lU lV lW
set_option maxRecDepth 100000
set_option maxHeartbeats 4000000
section
theorem Vo {p:List Int} {k:Nat} (h:k<p.length):p.drop k=p.getD k 0 :: p.drop (k+1):=by
 rw[List.drop_eq_getElem_cons h]
 simp[List.getD_eq_getElem?_getD,h]
def ftP (h:AM) (x:Int):Bool:=decide (0≤x)&&decide (x<(h.2.length:Int))
def M5 (h:AM) (p:List Int):Bool:=decide (p.length≤8)&&p.all (ftP h)
def GB (h:AM) (l:List (List Int)):Bool:=l.all (M5 h)
def Od:Ak:={ ins:=[GS,xA],pre:=fun _=>True,out:=fun(h,l,_)=>[.p .bool (GB h l)],lend:=true }
theorem dG:Ao Tryz.prog 23 Od:=by
 refine AX Tryz.func23 (by kernel_rfl) rfl Tryz.ntmps23 (by decide) (by kernel_rfl) (AJ []) AL ?_
 rintro w0 O0 ⟨⟨ht,hf⟩,l,u⟩ hc ⟨-,⟨hl,-⟩,-⟩ -
 simp only[AP]at hl
 simp only[Od,AN]
 repeat'(first|exact trivial|refine eS rfl ?_|refine AB ?_|refine rX [0,1,2,4,6,8,9,10,11,12,17,18,19,20,21,32] hc ?_ ?_|refine rC ?_ ?_<;>intro AA<;>try(cases AA;done))
 refine AK (ι:={k:Nat//k≤l.length∧(l.take k).all (M5 (ht,hf))=true}) (fun k=>⟨[(2,.bp 2 [] 0),(9,.p xA l),(10,.p (.int .i64) (l.length:Int)),(11,.p (.int .i64) (k.1:Int))],[(2,.box 29 true [.p fB ht,.p oL hf])]⟩) (fun k=>l.length-k.1) ⟨0,by simp⟩ (AC [(2,.nm 2)] rfl rfl ?_ ?_) (fun k=>?_)
 ·first|exact eN|refine eM ?_
 ·first|exact eN|refine eM ?_
 ·obtain⟨k,hk,hall⟩:=k
  repeat'(first|exact trivial|refine eS rfl ?_|refine AB ?_|refine rX [0,1,2,4,6,8,9,10,11,12,17,18,19,20,21,32] hc ?_ ?_|refine rC ?_ ?_<;>intro AA<;>try(cases AA;done))
  ·exact AA
  ·have hkl:k<l.length:=Int.ofNat_lt.1 (by assumption)
   have h1:GB (ht,hf) l=false:=by
    unfold GB
    rw[List.all_eq_false]
    refine⟨_,AD l [] hkl,?_⟩
    unfold M5
    rw[Bool.and_eq_true,decide_eq_true_eq]
    rintro⟨h2,-⟩
    omega
   exact AH hc [.tmp 4] rfl (.inl rfl) (by simp) (by rw[h1];first|exact eR|refine Ax ?_)
  ·have hkl:k<l.length:=Int.ofNat_lt.1 (by assumption)
   have h8:(l.getD k []).length≤8:=by omega
   have hmem:=AD l [] hkl
   generalize hp:l.getD k []=p at *
   refine AK (ι:={j:Nat//j≤p.length∧(p.take j).all (ftP (ht,hf))=true}) (fun j=>⟨[(2,.bp 2 [] 0),(9,.p xA l),(10,.p (.int .i64) (l.length:Int)),(11,.p (.int .i64) (k:Int)),(18,.p Ez p),(19,.p (.int .i64) (p.length:Int)),(20,.p (.int .i64) (j.1:Int))],[(2,.box 29 true [.p fB ht,.p oL hf])]⟩) (fun j=>p.length-j.1) ⟨0,by simp⟩ (AC [(2,.nm 2)] rfl rfl ?_ ?_) (fun j=>?_)
   ·first|exact eN|refine eM ?_
   ·first|exact eN|refine eM ?_
   ·obtain⟨j,hj,hja⟩:=j
    repeat'(first|exact trivial|refine eS rfl ?_|refine AB ?_|refine rX [0,1,2,4,6,8,9,10,11,12,17,18,19,20,21,32] hc ?_ ?_|refine rC ?_ ?_<;>intro AA<;>try(cases AA;done))
    ·exact AA
    ·have hjl:j<p.length:=Int.ofNat_lt.1 (by assumption)
     have h1:GB (ht,hf) l=false:=by
      unfold GB
      rw[List.all_eq_false]
      refine⟨_,hmem,?_⟩
      unfold M5
      rw[Bool.and_eq_true,List.all_eq_true]
      rintro⟨-,h2⟩
      have h3:=h2 _ (AD p 0 hjl)
      unfold ftP at h3
      rw[Bool.and_eq_true,decide_eq_true_eq,decide_eq_true_eq]at h3
      rcases AA with h|h
      ·exact absurd h3.1 (Int.not_le.2 h)
      ·exact absurd h3.2 (Int.not_lt.2 h)
     exact AH hc [.tmp 4] rfl (.inl rfl) (by simp) (by rw[h1];first|exact eR|refine Ax ?_)
    ·omega
    ·have hjl:j<p.length:=Int.ofNat_lt.1 (by assumption)
     refine⟨⟨j+1,hjl,?_⟩,by simp only;omega,AC [(2,.nm 2)] rfl rfl ?_ ?_⟩
     ·rw[Ab p 0 hjl,List.all_append,hja]
      have h3:ftP (ht,hf) (p.getD j 0)=true:=by
       unfold ftP
       rw[Bool.and_eq_true,decide_eq_true_eq,decide_eq_true_eq]
       exact AA
      simpa using h3
     ·first|exact eN|refine eM ?_
     ·first|exact eN|refine eM ?_
    ·omega
    ·have hjl:p.take j=p:=List.take_of_length_le (Int.ofNat_le.1 AA)
     rw[hjl]at hja
     refine⟨⟨k+1,hkl,?_⟩,by simp only;omega,AC [(2,.nm 2)] rfl rfl ?_ ?_⟩
     ·rw[Ab l [] hkl,List.all_append,hall,hp]
      have h3:M5 (ht,hf) p=true:=by
       unfold M5
       rw[hja,decide_eq_true h8]
       rfl
      simpa using h3
     ·first|exact eN|refine eM ?_
     ·first|exact eN|refine eM ?_
  ·have hk:l.take k=l:=List.take_of_length_le (Int.ofNat_le.1 AA)
   rw[hk]at hall
   have h1:GB (ht,hf) l=true:=hall
   exact AH hc [.tmp 4] rfl (.inl rfl) (by simp) (by rw[h1];first|exact eR|refine Ax ?_)
theorem qJ {h:AM} {l:List (List Int)} (hs:GB h l=true):∀p∈l,L0 h p∧p.length≤8:=fun p hp=>by
 have:=List.all_eq_true.1 hs p hp
 unfold M5 at this
 rw[Bool.and_eq_true,decide_eq_true_eq,List.all_eq_true]at this
 refine⟨fun e he=>?_,this.1⟩
 have h2:=this.2 e he
 unfold ftP at h2
 rw[Bool.and_eq_true,decide_eq_true_eq,decide_eq_true_eq]at h2
 exact h2
end
/- grammarlabref07.Atom as a row of its own; grammarlabref11.grow. -/
section
attribute [local go_sem] Mv
attribute [local go_sem] SQ bC ne_eq not_false_eq_true
theorem wP (t:Int):FI Tryz.prog 59 [.p T3 t] [] [] (fun res objs'=>res=.ag [.sr 5 JK 0 1]∧objs'=[(5,.nest 88 108 T3 ED [(t,[])] none),(2,.box 25 true [.sr 5 JK 0 1])]):=by
 refine Gw Tryz.func59 (by kernel_rfl) rfl Tryz.ntmps59 (by simp only[List.length_cons,List.length_nil];omega) (by kernel_rfl) rfl rfl (AJ [] [] [(5,108)]) AL ?_
 intro w0 K O0 ρ0 hc hok1 hok2
 simp only[Ca]
 repeat'(first|exact trivial|refine eS rfl ?_|refine AB ?_|refine rX [0,2] hc ?_ ?_|refine rC ?_ ?_<;>intro AA<;>try(cases AA;done))
 exact DN hc [.cell 2 25] rfl (.inl rfl) (.ag [.sr 5 JK 0 1]) eT ⟨rfl,rfl⟩
def Zq (h:AM) (N:List AE) (p:List Int) (s:Nat×List AE×Int):Prop:=s.1≤p.length∧DE N 0 p=DE s.2.1 s.2.2 (p.drop s.1)∧(∃π,Pm h s.2.1 π)∧(0≤s.2.2∧s.2.2<(s.2.1.length:Int))∧s.2.1.length≤N.length+s.1
theorem A1e {h:AM} {N f:List AE} {p:List Int} {k:Nat} {n:Int} (hI:Zq h N p (k,f,n)) (hk:k<p.length) (ht:(CK (f.getD n.toNat (0,[])).2 (p.getD k 0)).2=true):Zq h N p (k+1,f,(CK (f.getD n.toNat (0,[])).2 (p.getD k 0)).1):=by
 obtain⟨h1,h2,⟨π,h3⟩,h4,h5⟩:=hI
 simp only at h1 h2 h4 h5 h3
 rw[Vo hk,DE]at h2
 rw[if_pos ht]at h2
 have:=(h3.arc n h4.1 h4.2 (p.getD k 0,(CK (f.getD n.toNat (0,[])).2 (p.getD k 0)).1) (LW ht)).1
 exact⟨hk,h2,⟨π,h3⟩,this,by simp only;omega⟩
theorem A1f {h:AM} {N f:List AE} {p:List Int} {k:Nat} {n:Int} (hI:Zq h N p (k,f,n)) (hk:k<p.length) (fp:L0 h p) (ht:(CK (f.getD n.toNat (0,[])).2 (p.getD k 0)).2=false):Zq h N p (k+1,UM f n (p.getD k 0),(f.length:Int)):=by
 obtain⟨h1,h2,⟨π,h3⟩,h4,h5⟩:=hI
 simp only at h1 h2 h4 h5 h3
 rw[Vo hk,DE]at h2
 rw[if_neg (by rw[ht];simp)]at h2
 have hl:=Tt f n (p.getD k 0)
 exact⟨hk,h2,⟨_,Zp h3 h4.1 h4.2 (fp _ (DA hk)) ht⟩,by simp only;omega,by simp only;omega⟩
theorem nD {h:AM} (N:List AE) (p:List Int) {π:Int→List Int} (ht:Pm h N π) (h64:h.2.length≤64) (fp:L0 h p) (lp:p.length≤20) (lN:N.length≤100):FI Tryz.prog 109 [.ag [.sr 501 JK 0 N.length],.p Ez p] [(501,.nest 88 108 T3 ED N none)] [] (fun res objs'=>res=.tup [.ag [.sr 501 JK 0 (DE N 0 p).1.length],.p T3 (DE N 0 p).2]∧objs'=[(4,.box 25 true [.sr 501 JK 0 (DE N 0 p).1.length]),(2,.box 25 true [.sr 501 JK 0 (DE N 0 p).1.length]),(501,.nest 88 108 T3 ED (DE N 0 p).1 none)]):=by
 refine Gw Tryz.func109 (by kernel_rfl) rfl Tryz.ntmps109 (by simp only[List.length_cons,List.length_nil];omega) (by kernel_rfl) rfl rfl (AJ [(106,Mv)] [] [(34,108)]) (AF ZE AL) ?_
 intro w0 K O0 ρ0 hc hok1 hok2
 simp only[Ca]
 repeat'(first|exact trivial|refine eS rfl ?_|refine AB ?_|refine rX [0,1,2,4,5,6,7,8,9,13,27] hc ?_ ?_|refine rC ?_ ?_<;>intro AA<;>try(cases AA;done))
 refine AK (ι:={s:Nat×List AE×Int//Zq h N p s}) (fun s=>⟨[(1,.p Ez p),(2,.bp 2 [] 0),(4,.bp 4 [] 0),(6,.p (.int .i64) s.1.2.2),(7,.p (.int .i64) (s.1.1:Int))],[(4,.box 25 true [.raw (.slice none 0 0)]),(2,.box 25 true [.sr 501 JK 0 s.1.2.1.length]),(501,.nest 88 108 T3 ED s.1.2.1 none)]⟩) (fun s=>p.length-s.1.1) ⟨(0,N,0),Nat.zero_le _,rfl,⟨π,ht⟩,⟨Int.le_refl 0,by have:=ht.pos;show (0:Int)<(N.length:Int);omega⟩,Nat.le_refl _⟩ (AC [(4,.nm 4),(2,.nm 2),(501,.nm 501)] rfl rfl ?_ ?_) (fun s=>?_)
 ·first|exact eN|refine eM ?_
 ·first|exact eN|refine eM ?_
 ·obtain⟨⟨k,f,n⟩,hI⟩:=s
  have hI2:=hI
  obtain⟨h1,h2,⟨π2,h3⟩,h4,h5⟩:=hI2
  simp only at h1 h2 h3 h4 h5 ⊢
  repeat'(first|exact trivial|refine eS rfl ?_|refine AB ?_|refine rX [0,1,2,4,5,6,7,8,9,13,27] hc ?_ ?_|refine rC ?_ ?_<;>intro AA<;>try(cases AA;done))
  ·exact⟨AA,h4⟩
  ·have:k<p.length:=by exact eV
   simp only[AP]
   omega
  ·have hk:k<p.length:=by exact eV
   have hI2:=A1f hI hk fp AA
   have hGl:(f++[((0:Int),([]:List (Int×Int)))]).length=f.length+1:=by simp
   have hGn:(f++[((0:Int),([]:List (Int×Int)))]).getD n.toNat (0,[])=f.getD n.toNat (0,[]):=by
    rw[List.getD_eq_getElem?_getD,List.getD_eq_getElem?_getD,List.getElem?_append_left (by omega)]
   have hrow:(f.getD n.toNat (0,[])).2.length≤64:=(Pn h64 h3 (by omega)).2.2 _ (AD f (0,[]) (by omega))
   have hadd:UM f n (p.getD k 0)=(f++[((0:Int),([]:List (Int×Int)))]).set n.toNat ((f.getD n.toNat (0,[])).1,(f.getD n.toNat (0,[])).2++[(p.getD k 0,(f.length:Int))]):=rfl
   refine GE drawsAny hc 17 [([3,4,5,6,7,8,9,10,11,12,13,14,15],16)] [0,1,2] (by kernel_rfl) (Uq ?_ ?_)
   ·exact⟨⟨h4.1,Int.lt_add_one_of_le (Int.le_of_lt h4.2)⟩,by assumption⟩
   ·refine mxN hc 501 ?_ ?_
    ·rw[hGn]
     simp only[AP]
     dsimp only[Ty.den]at *
     omega
    ·refine qN [0,1,2,4,5,6,7,8,9,13,27] hc ?_ ?_ ?_
     ·trivial
     ·exact⟨h4.1,Int.lt_add_one_of_le (Int.le_of_lt h4.2)⟩
     ·repeat'(first|exact trivial|refine eS rfl ?_|refine AB ?_|refine rX [0,1,2,4,5,6,7,8,9,13,27] hc ?_ ?_|refine rC ?_ ?_<;>intro AA<;>try(cases AA;done))
      ·exact eV
      ·refine⟨⟨_,hI2⟩,by simp only;omega,AC [(4,.nm 4),(2,.nm 2),(501,.nm 501)] rfl rfl ?_ ?_⟩
       ·simp only
        rw[hadd]
        first|exact eN|refine eM ?_
        rw[hGn]
        exact⟨by rw[List.length_set,hGl],rfl⟩
       ·first|exact eN|refine eM ?_
  ·exact eV
  ·have hk:k<p.length:=by exact eV
   refine⟨⟨_,A1e hI hk AA⟩,by simp only;omega,AC [(4,.nm 4),(2,.nm 2),(501,.nm 501)] rfl rfl ?_ ?_⟩
   ·first|exact eN|refine eM ?_
   ·first|exact eN|refine eM ?_
  ·have hk:p.drop k=[]:=List.drop_eq_nil_of_le (Int.ofNat_le.1 AA)
   rw[hk]at h2
   have h2:DE N 0 p=(f,n):=h2
   rw[h2]
   exact DN hc [.cell 4 25,.tmp 5] rfl (.inl rfl) (.tup [.ag [.sr 501 JK 0 f.length],.p T3 n]) eT ⟨rfl,rfl⟩
end
/- Functions of grammarlabref11: Close. -/
section
attribute [local go_sem] We Wf
def M6:Ak:={ ins:=[Ib,Ez],pre:=fun(l,c,_)=>Ag l∧List.length c=List.length l∧(∀x∈(c:List Int),0≤x∧x<(List.length l:Int)),out:=fun(l,c,_)=>[.p Ez (JP l c)] }
attribute [local go_sem] M6
def arI (l:List AE) (i:Nat):List (List (Int×Int)):=FY (l.take i)++List.replicate (l.length-i) []
theorem nE {l:List AE} {i:Nat} (h:i<l.length):(arI l i).set i (l.getD i (0,[])).2=arI l (i+1):=by
 unfold arI
 have hl:(FY (l.take i)).length=i:=by simp[FY];omega
 rw[List.set_append_right _ _ (by omega),hl,Nat.sub_self,show l.length-i=(l.length-(i+1))+1 by omega,List.replicate_succ,List.set_cons_zero,Ab l (0,[]) h]
 simp[FY]
theorem wQ (l:List AE):arI l l.length=FY l:=by
 unfold arI
 simp
theorem wR (l:List AE):arI l 0=List.replicate l.length []:=by
 unfold arI
 simp[FY]
def wS (o:List Int) (hi lo:Int) (k:Nat):List Int:=(o.take k).map (GF hi lo)++o.drop k
theorem nF {o:List Int} {hi lo:Int} {k:Nat} (h:k<o.length):(wS o hi lo k).getD k 0=o.getD k 0:=by
 unfold wS
 rw[List.getD_eq_getElem?_getD,List.getElem?_append_right (by simp;omega)]
 simp only[List.length_map,List.length_take,Nat.min_eq_left (Nat.le_of_lt h),Nat.sub_self,List.getElem?_drop,Nat.add_zero]
 rw[List.getD_eq_getElem?_getD]
theorem wT {o:List Int} {hi lo:Int} {k:Nat} (h:k<o.length) (e:o.getD k 0≠hi):wS o hi lo (k+1)=wS o hi lo k:=by
 unfold wS
 rw[Ab o 0 h,List.map_append,List.map_singleton,GG e,List.append_assoc]
 congr 1
 rw[List.drop_eq_getElem_cons h,List.getD_eq_getElem?_getD,List.getElem?_eq_getElem h];rfl
theorem A1g {o:List Int} {hi lo:Int} {k:Nat} (h:k<o.length) (e:o.getD k 0=hi):wS o hi lo (k+1)=(wS o hi lo k).set k lo:=by
 unfold wS
 rw[List.set_append_right _ _ (by simp;omega)]
 simp only[List.length_map,List.length_take,Nat.min_eq_left (Nat.le_of_lt h),Nat.sub_self]
 rw[List.drop_eq_getElem_cons h,List.set_cons_zero,Ab o 0 h,List.map_append,List.map_singleton,e,G8,List.append_assoc];rfl
theorem wU (o:List Int) (hi lo:Int):wS o hi lo o.length=o.map (GF hi lo):=by
 unfold wS
 simp
theorem Zr:Ao Tryz.prog 64 M6:=by
 refine AX Tryz.func64 (by kernel_rfl) rfl Tryz.ntmps64 (by decide) (by kernel_rfl) (AJ [(66,We),(104,Wf)]) (AF tK (AF tL AL)) ?_
 rintro w0 O0 ⟨l,c,u⟩ hc-⟨hg,hcl,hcr⟩
 simp only[M6,AN]
 have hl1:=hg.1
 repeat'(first|exact trivial|refine eS rfl ?_|refine AB ?_|refine rX [0,1,4,5,6,7,8,9,10,11,12,13,14,15,16,17,27,43,56,95,99,107,124,144] hc ?_ ?_|refine rC ?_ ?_<;>intro AA<;>try(cases AA;done))
 ·exact eV
 ·simp only[AP];exact eV
 ·rw[←wR]
  rw[Bp]
  refine AK (ι:={i:Nat//i≤l.length}) (fun i=>⟨[(0,.p Ib l),(1,.p Ez c),(5,.sr 20 T3 0 l.length),(6,.sr 23 Cb 0 l.length),(7,.sr 52 H7 0 (Dz c i.1).length),(8,.p (.int .i64) (i.1:Int))],[(20,.arr 3 T3 (Al l.length)),(23,.arr 86 Cb (arI l i.1)),(52,.arr 158 H7 (Dz c i.1))]⟩) (fun i=>l.length-i.1) ⟨0,by omega⟩ (AC [(20,.nm 20),(23,.nm 23),(52,.nil)] rfl rfl ?_ ?_) (fun i=>?_)
  ·first|exact eN|refine eM ?_
   rfl
  ·first|exact eN|refine eM ?_
   rfl
  ·obtain⟨i,hi⟩:=i
   have htl:=oU c i
   repeat'(first|exact trivial|refine eS rfl ?_|refine AB ?_|refine rX [0,1,4,5,6,7,8,9,10,11,12,13,14,15,16,17,27,43,56,95,99,107,124,144] hc ?_ ?_|refine rC ?_ ?_<;>intro AA<;>try(cases AA;done))
   ·exact AA
   ·rw[hcl];exact AA
   ·refine⟨by rw[hcl];assumption,?_⟩
    simp only[AP];omega
   ·exact eV
   ·have hil:i<l.length:=by exact eV
    have hne:c.getD i 0≠(i:Int):=AA
    refine⟨⟨i+1,by omega⟩,by simp only;omega,AC [(20,.nm 20),(23,.nm 23),(52,.nm 52)] rfl rfl ?_ ?_⟩
    ·simp only
     rw[Yb hne,←nE hil]
     first|exact eN|refine eM ?_
    ·first|exact eN|refine eM ?_
     rw[Yb hne,List.length_append];rfl
   ·exact eV
   ·have hil:i<l.length:=by exact eV
    have he:c.getD i 0=(i:Int):=by simpa using AA
    refine⟨⟨i+1,by omega⟩,by simp only;omega,AC [(20,.nm 20),(23,.nm 23),(52,.nm 52)] rfl rfl ?_ ?_⟩
    ·simp only
     rw[Yc he,←nE hil]
     first|exact eN|refine eM ?_
    ·first|exact eN|refine eM ?_
     rw[Yc he]
   ·have hil:i=l.length:=by exact eV
    subst hil
    rw[wQ]
    have hci:=Yd hg hcr hcl
    have hw0:=bK hg
    have hcf:H8 (Me (Al l.length) (FY l)+(Dz c l.length).length) (Al l.length) (FY l) (Dz c l.length)=JP l c:=rfl
    generalize Dz c l.length=T0 at *
    generalize Al l.length=o0 at *
    generalize FY l=ar0 at *
    generalize JP l c=res at *
    generalize List.length l=n at *
    refine AK (ι:={s:(List Int×List (List (Int×Int)))×(List (Int×Int)×Nat)//CI n s.1.1 s.1.2 s.2.1∧s.2.2≤s.2.1.length∧s.2.1.length+Me s.1.1 s.1.2≤10000100000∧H8 (Me s.1.1 s.1.2+(s.2.1.length-s.2.2)) s.1.1 s.1.2 (s.2.1.drop s.2.2)=res}) (fun s=>⟨[(5,.sr 20 T3 0 n),(6,.sr 23 Cb 0 n),(7,.sr 52 H7 0 s.1.2.1.length),(9,.p (.int .i64) (s.1.2.2:Int))],[(20,.arr 3 T3 s.1.1.1),(23,.arr 86 Cb s.1.1.2),(52,.arr 158 H7 s.1.2.1)]⟩) (fun s=>Me s.1.1.1 s.1.1.2+(s.1.2.1.length-s.1.2.2)) ⟨((o0,ar0),(T0,0)),hci,by simp,by simp only;omega,by simpa using hcf⟩ (AC [(20,.nm 20),(23,.nm 23),(52,.nm 52)] rfl rfl ?_ ?_) (fun s=>?_)
    ·first|exact eN|refine eM ?_
    ·first|exact eN|refine eM ?_
    ·obtain⟨⟨⟨o,ar⟩,⟨T,i⟩⟩,hI,hi,hM,hcl⟩:=s
     simp only at hI hi hM hcl
     simp only
     have ho:=hI.lo
     have ha:=hI.la
     have hwr:i<T.length→(0≤(T.getD i (0,0)).1∧(T.getD i (0,0)).1<(n:Int))∧(0≤(T.getD i (0,0)).2∧(T.getD i (0,0)).2<(n:Int)):=fun h=>hI.wr _ (AD T (0,0) h)
     have hdr:i<T.length→T.drop i=T.getD i (0,0) :: T.drop (i+1):=fun h=>by
      rw[List.drop_eq_getElem_cons h,List.getD_eq_getElem?_getD,List.getElem?_eq_getElem h];rfl
     have hfu:i<T.length→Me o ar+(T.length-i)=(Me o ar+(T.length-(i+1)))+1:=fun h=>by omega
     generalize hw:T.getD i (0,0)=w at *
     have hlo:(if o.getD (Int.toNat w.2) 0<o.getD (Int.toNat w.1) 0 then o.getD (Int.toNat w.2) 0 else o.getD (Int.toNat w.1) 0)=Dc o w.1 w.2:=rfl
     have hhi:(if o.getD (Int.toNat w.1) 0<o.getD (Int.toNat w.2) 0 then o.getD (Int.toNat w.2) 0 else o.getD (Int.toNat w.1) 0)=B3 o w.1 w.2:=rfl
     repeat'(first|exact trivial|refine eS rfl ?_|refine AB ?_|refine rX [0,1,4,5,6,7,8,9,10,11,12,13,14,15,16,17,27,43,56,95,99,107,124,144] hc ?_ ?_|refine rC ?_ ?_<;>intro AA<;>try(cases AA;done))
     ·have h1:i<T.length:=by exact eV
      rw[hw]
      have:=hwr h1
      exact⟨AA,this.1,AA,this.2⟩
     ·have h1:i<T.length:=by exact eV
      rw[hw]
      have:=hwr h1
      exact⟨AA,this.1,AA,this.2⟩
     ·have h1:i<T.length:=by exact eV
      have:T.length≤10000100000:=by omega
      omega
     ·have h1:i<T.length:=by exact eV
      rw[hw,hlo,hhi]at AA
      refine⟨⟨((o,ar),(T,i+1)),hI,by simp only;omega,hM,?_⟩,by simp only;omega,AC [(20,.nm 20),(23,.nm 23),(52,.nm 52)] rfl rfl ?_ ?_⟩
      ·simp only
       rw[hdr h1,hfu h1]at hcl
       simp only[H8]at hcl
       rw[if_pos AA]at hcl
       exact hcl
      ·first|exact eN|refine eM ?_
      ·first|exact eN|refine eM ?_
     ·have h1:i<T.length:=by exact eV
      rw[hw,hlo,hhi]at AA ⊢
      have hwr:=hwr h1
      have hLH:=tP hI hwr.1.1 hwr.1.2 hwr.2.1 hwr.2.2 AA
      have hCI:=Ya hI hLH
      have hws:=Sc hI hLH
      have hw2:=tQ hI hLH
      rw[hdr h1,hfu h1]at hcl
      simp only[H8]at hcl
      rw[if_neg AA]at hcl
      have hmg:Bc o w.1 w.2=o.map (GF (B3 o w.1 w.2) (Dc o w.1 w.2)):=rfl
      have hml:=Gh o w.1 w.2
      generalize Dc o w.1 w.2=lo at *
      generalize B3 o w.1 w.2=hh at *
      refine AK (ι:={k:Nat//k≤o.length}) (fun k=>⟨[(5,.sr 20 T3 0 n),(6,.sr 23 Cb 0 n),(7,.sr 52 H7 0 T.length),(9,.p (.int .i64) (i:Int)),(10,.p T3 lo),(11,.p T3 hh),(12,.p (.int .i64) (k.1:Int))],[(20,.arr 3 T3 (wS o hh lo k.1)),(23,.arr 86 Cb ar),(52,.arr 158 H7 T)]⟩) (fun k=>o.length-k.1) ⟨0,by omega⟩ (AC [(20,.nm 20),(23,.nm 23),(52,.nm 52)] rfl rfl ?_ ?_) (fun k=>?_)
      ·first|exact eN|refine eM ?_
       rfl
      ·first|exact eN|refine eM ?_
      ·obtain⟨k,hk⟩:=k
       simp only
       repeat'(first|exact trivial|refine eS rfl ?_|refine AB ?_|refine rX [0,1,4,5,6,7,8,9,10,11,12,13,14,15,16,17,27,43,56,95,99,107,124,144] hc ?_ ?_|refine rC ?_ ?_<;>intro AA<;>try(cases AA;done))
       ·exact AA
       ·assumption
       ·exact eV
       ·have hko:k<o.length:=by rw[ho];exact eV
        rw[nF hko]at AA
        refine⟨⟨k+1,by omega⟩,by simp only;omega,AC [(20,.nm 20),(23,.nm 23),(52,.nm 52)] rfl rfl ?_ ?_⟩
        ·simp only
         rw[A1g hko AA]
         first|exact eN|refine eM ?_
        ·first|exact eN|refine eM ?_
       ·exact eV
       ·have hko:k<o.length:=by rw[ho];exact eV
        rw[nF hko]at AA
        refine⟨⟨k+1,by omega⟩,by simp only;omega,AC [(20,.nm 20),(23,.nm 23),(52,.nm 52)] rfl rfl ?_ ?_⟩
        ·simp only
         rw[wT hko AA]
         first|exact eN|refine eM ?_
        ·first|exact eN|refine eM ?_
       ·refine⟨⟨hLH.l0,Int.lt_trans hLH.lt hLH.h1⟩,?_⟩
        simp only[AP]
        dsimp only[Ty.den]at *
        omega
       ·have hkn:k=o.length:=by rw[ho]at hk ⊢;exact eV
        subst hkn
        rw[wU,←hmg]
        have hb0:E1 (ar.getD lo.toNat []) ((ar.getD hh.toNat []).take 0)=ar.getD lo.toNat []:=by simp[E1]
        have hd0:Di (ar.getD lo.toNat []) ((ar.getD hh.toNat []).take 0)=[]:=by simp[Di]
        have hbl:=Sa (ar.getD lo.toNat []) (ar.getD hh.toNat [])
        refine AK (ι:={k:Nat//k≤(ar.getD hh.toNat []).length}) (fun k=>⟨[(5,.sr 20 T3 0 n),(6,.sr 23 Cb 0 n),(7,.sr 52 H7 0 (T++Di (ar.getD lo.toNat []) ((ar.getD hh.toNat []).take k.1)).length),(9,.p (.int .i64) (i:Int)),(10,.p T3 lo),(11,.p T3 hh),(13,.sr 112 ED 0 (E1 (ar.getD lo.toNat []) ((ar.getD hh.toNat []).take k.1)).length),(14,.p (.int .i64) (k.1:Int))],[(20,.arr 3 T3 (Bc o w.1 w.2)),(23,.arr 86 Cb ar),(52,.arr 158 H7 (T++Di (ar.getD lo.toNat []) ((ar.getD hh.toNat []).take k.1))),(112,.arr 108 ED (E1 (ar.getD lo.toNat []) ((ar.getD hh.toNat []).take k.1)))]⟩) (fun k=>(ar.getD hh.toNat []).length-k.1) ⟨0,by omega⟩ (AC [(20,.nm 20),(23,.nm 23),(52,.nm 52),(112,.nm 112)] rfl rfl ?_ ?_) (fun k=>?_)
        ·simp only
         rw[hb0,hd0,List.append_nil]
         first|exact eN|refine eM ?_
        ·simp only
         rw[hb0,hd0,List.append_nil]
         first|exact eN|refine eM ?_
        ·obtain⟨k,hk⟩:=k
         simp only
         have hbk:=Sa (ar.getD lo.toNat []) ((ar.getD hh.toNat []).take k)
         have htk:=List.length_take_le k (ar.getD hh.toNat [])
         have hsn:=fun(h:k<(ar.getD hh.toNat []).length)=>Ab (ar.getD hh.toNat []) (0,0) h
         have hst:=fun(x:Int×Int) (h:(CK (ar.getD lo.toNat []) x.1).2=true)=>Wg (h:=(ar.getD hh.toNat []).take k) h
         have hsf:=fun(x:Int×Int) (h:(CK (ar.getD lo.toNat []) x.1).2=false)=>Wh (h:=(ar.getD hh.toNat []).take k) h
         have hh0:0≤hh∧hh<(n:Int):=⟨Int.le_trans hLH.l0 (Int.le_of_lt hLH.lt),hLH.h1⟩
         have hl0:0≤lo∧lo<(n:Int):=⟨hLH.l0,Int.lt_trans hLH.lt hLH.h1⟩
         repeat'(first|exact trivial|refine eS rfl ?_|refine AB ?_|refine rX [0,1,4,5,6,7,8,9,10,11,12,13,14,15,16,17,27,43,56,95,99,107,124,144] hc ?_ ?_|refine rC ?_ ?_<;>intro AA<;>try(cases AA;done))
         ·exact hh0
         ·exact⟨hh0,AA⟩
         ·exact hl0
         ·simp only[AP]
          dsimp only[Ty.den]at *
          omega
         ·exact eV
         ·have hk1:k<(ar.getD hh.toNat []).length:=by exact eV
          refine⟨⟨k+1,by omega⟩,by simp only;omega,AC [(20,.nm 20),(23,.nm 23),(52,.nm 52),(112,.nm 112)] rfl rfl ?_ ?_⟩
          ·simp only
           rw[hsn hk1,(hst _ AA).1,(hst _ AA).2,←List.append_assoc]
           first|exact eN|refine eM ?_
          ·simp only
           rw[hsn hk1,(hst _ AA).1,(hst _ AA).2,←List.append_assoc]
           first|exact eN|refine eM ?_
         ·simp only[AP]
          dsimp only[Ty.den]at *
          omega
         ·exact eV
         ·have hk1:k<(ar.getD hh.toNat []).length:=by exact eV
          refine⟨⟨k+1,by omega⟩,by simp only;omega,AC [(20,.nm 20),(23,.nm 23),(52,.nm 52),(112,.nm 112)] rfl rfl ?_ ?_⟩
          ·simp only
           rw[hsn hk1,(hsf _ AA).1,(hsf _ AA).2]
           first|exact eN|refine eM ?_
          ·simp only
           rw[hsn hk1,(hsf _ AA).1,(hsf _ AA).2]
           first|exact eN|refine eM ?_
         ·exact hl0
         ·have h1:i<T.length:=by exact eV
          have:T.length≤10000100000:=by omega
          omega
         ·have h1:i<T.length:=by exact eV
          have hkf:(ar.getD hh.toNat []).take k=ar.getD hh.toNat []:=List.take_of_length_le (by exact eV)
          rw[hkf]
          refine⟨⟨((Bc o w.1 w.2,ar.set lo.toNat (E1 (ar.getD lo.toNat []) (ar.getD hh.toNat []))),(T++Di (ar.getD lo.toNat []) (ar.getD hh.toNat []),i+1)),hCI,by simp only[List.length_append];omega,by simp only[List.length_append];omega,?_⟩,by simp only[List.length_append];omega,AC [(20,.nm 20),(23,.nm 23),(52,.nm 52)] rfl rfl ?_ ?_⟩
          ·simp only
           rw[List.drop_append_of_le_length (by omega),←hcl]
           congr 1
           simp only[List.length_append]
           omega
          ·first|exact eN|refine eM ?_
          ·first|exact eN|refine eM ?_
     ·have hdn:T.drop i=[]:=List.drop_eq_nil_of_le (by exact eV)
      rw[hdn,bJ]at hcl
      subst hcl
      have hot:o.take n=o:=List.take_of_length_le (by omega)
      exact AH hc [.tmp 4] rfl (.inl rfl) (by simp) (by first|exact eR|refine Ax ?_;exact hot)
end
/- Functions of grammarlabref11: Both. -/
section
theorem dH (k:Nat) (l:List (Int×Int)):(BA k l).length=l.length:=by simp[BA]
theorem Zs {k:Nat} {l:List (Int×Int)} {j:Nat} (h:j<l.length):BA k (l.take (j+1))=BA k (l.take j)++[((l.getD j (0,0)).1,(l.getD j (0,0)).2+(k:Int))]:=by
 rw[Ab l (0,0) h]
 simp[BA]
theorem dI {f g:List AE} {j:Nat} (h:j<g.length):AO f (g.take (j+1))=AO f (g.take j)++[((g.getD j (0,[])).1,BA f.length (g.getD j (0,[])).2)]:=by
 rw[Ab g (0,[]) h]
 simp[AO]
def Vp:Ak:={ ins:=[Ib,Ib],pre:=fun(f,g,_)=>Ag f∧Ag g,out:=fun(f,g,_)=>[.p Ib (AO f g)] }
attribute [local go_sem] Vp
theorem A1h:Ao Tryz.prog 63 Vp:=by
 refine AX Tryz.func63 (by kernel_rfl) rfl Tryz.ntmps63 (by decide) (by kernel_rfl) (AJ []) AL ?_
 rintro w0 O0 ⟨f,g,u⟩ hc-⟨hf,hg⟩
 simp only[Vp,AN]
 have hf1:=hf.1
 have hg1:=hg.1
 repeat'(first|exact trivial|refine eS rfl ?_|refine AB ?_|refine rX [0,1,4,5,6,7,8,15,31] hc ?_ ?_|refine rC ?_ ?_<;>intro AA<;>try(cases AA;done))
 ·simp only[AP];exact eV
 ·have hj0:AO f (List.take 0 g)=f:=by simp[AO]
  have hjl:=fun i:Nat=>BB f (List.take i g)
  refine AK (ι:={i:Nat//i≤List.length g}) (fun i=>⟨[(0,.p Ib f),(1,.p Ib g),(5,.sr 9 JK 0 (AO f (List.take i.1 g)).length),(6,.p (.int .i64) (i.1:Int))],[(9,.arr 88 JK (AO f (List.take i.1 g)))]⟩) (fun i=>List.length g-i.1) ⟨0,by omega⟩ (AC [(9,.nm 9)] rfl rfl ?_ ?_) (fun i=>?_)
  ·simp only
   rw[hj0]
   first|exact eN|refine eM ?_
  ·simp only
   rw[hj0]
   first|exact eN|refine eM ?_
  ·obtain⟨i,hi⟩:=i
   simp only
   repeat'(first|exact trivial|refine eS rfl ?_|refine AB ?_|refine rX [0,1,4,5,6,7,8,15,31] hc ?_ ?_|refine rC ?_ ?_<;>intro AA<;>try(cases AA;done))
   ·exact eV
   ·have hil:i<List.length g:=by exact eV
    have hm:=hg.2 _ (AD (g:List AE) (0,[]) hil)
    have hgn:=dI (f:=f) hil
    refine AK (ι:={k:Nat//k≤(List.getD g i (0,[])).2.length}) (fun k=>⟨[(0,.p Ib f),(1,.p Ib g),(5,.sr 9 JK 0 (AO f (List.take i g)).length),(6,.p (.int .i64) (i:Int)),(7,.bp 7 [] 0),(8,.p (.int .i64) (k.1:Int))],[(9,.arr 88 JK (AO f (List.take i g))),(7,.box 88 true [.p T3 (List.getD g i (0,[])).1,.sr 59 ED 0 (BA (List.length f) ((List.getD g i (0,[])).2.take k.1)).length]),(59,.arr 108 ED (BA (List.length f) ((List.getD g i (0,[])).2.take k.1)))]⟩) (fun k=>(List.getD g i (0,[])).2.length-k.1) ⟨0,by omega⟩ (AC [(9,.nm 9),(7,.nm 7),(59,.nil)] rfl rfl ?_ ?_) (fun k=>?_)
    ·first|exact eN|refine eM ?_
     exact⟨rfl,rfl⟩
    ·first|exact eN|refine eM ?_
    ·obtain⟨k,hk⟩:=k
     simp only
     repeat'(first|exact trivial|refine eS rfl ?_|refine AB ?_|refine rX [0,1,4,5,6,7,8,15,31] hc ?_ ?_|refine rC ?_ ?_<;>intro AA<;>try(cases AA;done))
     ·exact AA
     ·have hkl:k<(List.getD g i (0,[])).2.length:=by exact eV
      have ha:=hm.2 _ (AD (List.getD g i (0,[])).2 (0,0) hkl)
      have h5:=List.length_take_le k (List.getD g i (0,[])).2
      have h6:=hm.1
      refine⟨by assumption,AA,by assumption,AA,⟨by exact eV,by exact eV⟩,?_⟩
      rw[dH]
      simp only[AP]
      dsimp only[Ty.den]at *
      omega
     ·exact eV
     ·have hkl:k<(List.getD g i (0,[])).2.length:=by exact eV
      refine⟨⟨k+1,by omega⟩,by simp only;omega,AC [(9,.nm 9),(7,.nm 7),(59,.nm 59)] rfl rfl ?_ ?_⟩
      ·simp only
       rw[Zs hkl]
       first|exact eN|refine eM ?_
      ·simp only
       first|exact eN|refine eM ?_
     ·rw[hjl]
      have:=List.length_take_le i g
      simp only[AP]
      dsimp only[Ty.den]at *
      omega
     ·exact eV
     ·have hkl:(List.getD g i (0,[])).2.take k=(List.getD g i (0,[])).2:=List.take_of_length_le (by exact eV)
      rw[hkl]
      refine⟨⟨i+1,by omega⟩,by simp only;omega,AC [(9,.nm 9)] rfl rfl ?_ ?_⟩
      ·simp only
       rw[hgn]
       first|exact eN|refine eM ?_
      ·simp only
       rw[hgn]
       first|exact eN|refine eM ?_
   ·have hil:List.take i g=g:=List.take_of_length_le (by exact eV)
    rw[hil]
    exact AH hc [.tmp 4] rfl (.inl rfl) (by simp) (by first|exact eR|refine Ax ?_)
end
/- Functions of grammarlabref11: Unify, All. -/
section
attribute [local go_sem] Vp PB M6 TB TC
def Lu:Ak:={ ins:=[T3],pre:=fun(n,_)=>(0:Int)≤n∧n≤(100000:Int),out:=fun(n,_)=>[.p Ez (Al (Int.toNat n))] }
attribute [local go_sem] Lu
theorem Vq:Ao Tryz.prog 66 Lu:=by
 refine AX Tryz.func66 (by kernel_rfl) rfl Tryz.ntmps66 (by decide) (by kernel_rfl) (AJ []) AL ?_
 rintro w0 O0 ⟨n,u⟩ hc-⟨h0,h1⟩
 simp only[Lu,AN]
 repeat'(first|exact trivial|refine eS rfl ?_|refine AB ?_|refine rX [0,2,3,4,7] hc ?_ ?_|refine rC ?_ ?_<;>intro AA<;>try(cases AA;done))
 refine AK (ι:={i:Nat//i≤n.toNat}) (fun i=>⟨[(0,.p T3 n),(3,.sr 13 T3 0 i.1),(4,.p (.int .i64) (i.1:Int))],[(13,.arr 3 T3 (Al i.1))]⟩) (fun i=>n.toNat-i.1) ⟨0,by omega⟩ (AC [(13,.nil)] rfl rfl ?_ ?_) (fun i=>?_)
 ·first|exact eN|refine eM ?_
  rfl
 ·first|exact eN|refine eM ?_
 ·obtain⟨i,hi⟩:=i
  repeat'(first|exact trivial|refine eS rfl ?_|refine AB ?_|refine rX [0,2,3,4,7] hc ?_ ?_|refine rC ?_ ?_<;>intro AA<;>try(cases AA;done))
  ·simp only[AP];exact eV
  ·exact eV
  ·have hlen:(Al i).take i=Al i:=List.take_of_length_le (by rw[Bp];exact Nat.le_refl i)
   refine⟨⟨i+1,by exact eV⟩,by simp only;exact eV,AC [(13,.nm 13)] rfl rfl ?_ ?_⟩
   ·simp only
    rw[hlen,QT]
    first|exact eN|refine eM ?_
   ·first|exact eN|refine eM ?_
  ·have hn:i=n.toNat:=by exact eV
   have hlen:(Al i).take i=Al i:=List.take_of_length_le (by rw[Bp];exact Nat.le_refl i)
   subst hn
   exact AH hc [.tmp 2] rfl (.inl rfl) (by simp) (by first|exact eR|refine Ax ?_;exact hlen)
noncomputable def Po:Ak:={ ins:=[GS,Ei,Ei],pre:=fun(h,a,b,_)=>HU h∧VF h a∧VF h b∧List.length a+List.length b≤100,out:=fun(h,a,b,_)=>[.p Ei (M2 h a b).1,.p .bool (M2 h a b).2] }
attribute [local go_sem] Po
theorem wV:Ao Tryz.prog 19 Po:=by
 refine AX Tryz.func19 (by kernel_rfl) rfl Tryz.ntmps19 (by decide) (by kernel_rfl) (AJ [(63,Vp),(66,Lu),(65,PB),(64,M6),(67,TB),(68,TC)]) (AF A1h (AF Vq (AF YX (AF Zr (AF uY (AF mQ AL)))))) ?_
 rintro w0 O0 ⟨⟨ht,hf⟩,a,b,u⟩ hc-⟨hu,va,vb,hab⟩
 simp only[Po,AN]
 have hl:=BB a b
 have pa:=va.pos
 have pb:=vb.pos
 have hg:=CT va.good vb.good (by omega)
 have hty:=QQX va.ty vb.ty
 have hft:=FT (va.ft64 hu) (vb.ft64 hu)
 have hst:=DD va.str vb.str
 obtain⟨ar,hj⟩:=Vl va vb hab
 have hrep:=XO hj
 have hml:=Gh (Al (AO a b).length) 0 (a.length:Int)
 rw[Bp]at hml
 have h0:0<List.length ht:=by
  have:=Qn hty (x:=0) (by omega)
  have h2:(0:Int)<(List.length ht:Int):=by
   have:=this.2
   exact Int.lt_of_le_of_lt (Qn hty (x:=0) (by omega)).1 this
  omega
 have hwd:∀x∈(ht:List HL),x.2.1.length≤100000:=fun x hx=>Nat.le_trans (hu.ok.1.wid x.2.1 (List.mem_map.2 ⟨x,hx,rfl⟩)) (by omega)
 have hcr:∀x∈IG a b,0≤x∧x<((AO a b).length:Int):=fun x hx=>by
  obtain⟨k,hk,rfl⟩:=List.mem_iff_getElem.1 hx
  have hr:=hrep.2 k (by rw[←hrep.1];exact hk)
  rw[List.getD_eq_getElem?_getD,List.getElem?_eq_getElem hk]at hr
  simp only[Option.getD_some]at hr
  have:=hrep.1
  omega
 have hmr:∀x∈Bc (Al (AO a b).length) 0 (a.length:Int),0≤x∧x<((AO a b).length:Int):=fun x hx=>by
  obtain⟨hlh,hmg⟩:=Ku (n:=(AO a b).length) (x:=0) (y:=(a.length:Int)) (by omega) (by omega) (by omega) (by omega)
  obtain⟨k,hk,rfl⟩:=List.mem_iff_getElem.1 hx
  have:=hmg k (by omega)
  rw[List.getD_eq_getElem?_getD,List.getElem?_eq_getElem hk]at this
  simp only[Option.getD_some]at this
  rw[this]
  unfold GF
  split
  ·rcases hlh with ⟨e,_⟩|⟨e,_⟩<;>rw[e]<;>omega
  ·omega
 have htl:(HN (ht,hf) (AO a b) (IG a b)).2=true→(HN (ht,hf) (AO a b) (IG a b)).1.length=(AO a b).length:=fun h=>by
  unfold HN at h ⊢
  cases hp:HV (ht,hf) (AO a b) (IG a b) (AO a b).length with
  | none=>rw[hp]at h;cases h
  | some p=>simp
 have hu1:M2 (ht,hf) a b=if (HN (ht,hf) (AO a b) (IG a b)).2=true then (OU (AO a b) (IG a b) (HN (ht,hf) (AO a b) (IG a b)).1 0,true) else ([],false):=rfl
 have hcl:JP (AO a b) (Bc (Al (AO a b).length) 0 (a.length:Int))=IG a b:=rfl
 repeat'(first|exact trivial|refine eS rfl ?_|refine AB ?_|refine rX [0,1,2,3,4,5,6,7,8,9,10,11,34] hc ?_ ?_|refine rC ?_ ?_<;>intro AA<;>try(cases AA;done))
 ·exact⟨va.good,vb.good⟩
 ·rw[Bp]
  refine⟨by exact eV,⟨by exact eV,by exact eV,by exact eV⟩,hg,hml,hmr⟩
 ·rw[hcl]
  exact⟨hrep,hty,h0,by exact eV,hwd⟩
 ·rw[hcl]at AA
  rw[if_neg (by rw[AA];simp)]at hu1
  exact AH hc [.cell 6 25,.tmp 7] rfl (.inl rfl) (by simp) (by rw[hu1];first|exact eR|refine Ax ?_)
 ·rw[hcl]at AA ⊢
  refine⟨hg,hrep.1,htl AA,hcr,by exact eV,by exact eV,fun x hx=>Nat.le_trans (M0 (hst x hx) (hft x hx)) (by omega)⟩
 ·rw[hcl]at AA ⊢
  rw[if_pos AA]at hu1
  exact AH hc [.cell 6 25,.tmp 7] rfl (.inl rfl) (by simp) (by rw[hu1];first|exact eR|refine Ax ?_)
end
/- grammarlabref11.Equation, Equate. -/
section
attribute [local go_sem] Vp Lu PB M6 TC Po
def A1i:Ak:={ ins:=[Ez,Ez],pre:=fun(p,q,_)=>∃h:AM,h.2.length≤64∧L0 h p∧L0 h q∧List.length p≤20∧List.length q≤20,out:=fun(p,q,_)=>[.p Ei (Q6 p q)] }
attribute [local go_sem] A1i
theorem A2v:Ao Tryz.prog 72 A1i:=by
 refine AX Tryz.func72 (by kernel_rfl) rfl Tryz.ntmps72 (by decide) (by kernel_rfl) (AJ [(66,Lu),(65,PB),(64,M6),(68,TC)]) (AF Vq (AF YX (AF Zr (AF mQ AL)))) ?_
 rintro w0 O0 ⟨p,q,u⟩ hc-⟨h,h64,fp,fq,lp,lq⟩
 simp only[A1i,AN]
 obtain⟨⟨π,ht,-,hm,hq,hpm,hpq⟩,hl,⟨π1,ht1⟩,hl1⟩:=wL (h:=h) fp fq (fun _=>True) (fun _ _=>trivial) (fun _ _=>trivial)
 obtain⟨hg,-,h64r⟩:=Pn h64 ht (by omega)
 obtain⟨ar,hj⟩:=Pb (h:=h) hg ht.nd hm.1 hm.2 hq.1 hq.2
 have hrep:OT (BC p q).1.length (Jh p q):=XO hj
 have hml:=Gh (Al (BC p q).1.length) (HT p).2 (BC p q).2
 rw[Bp]at hml
 have hmr:∀x∈Bc (Al (BC p q).1.length) (HT p).2 (BC p q).2,0≤x∧x<((BC p q).1.length:Int):=fun x hx=>by
  obtain⟨hlh,hmg⟩:=Ku hm.1 hm.2 hq.1 hq.2
  obtain⟨k,hk,rfl⟩:=Bn 0 hx
  rw[hmg k (by omega)]
  unfold GF
  split
  ·rcases hlh with ⟨e,_⟩|⟨e,_⟩<;>rw[e]
   ·exact hm
   ·exact hq
  ·omega
 have hcr:∀x∈Jh p q,0≤x∧x<((BC p q).1.length:Int):=fun x hx=>by
  obtain⟨k,hk,rfl⟩:=Bn 0 hx
  have hkl:k<(BC p q).1.length:=by rw[←hrep.1];exact hk
  have hr:=hrep.2 k hkl
  omega
 clear hj
 repeat'(first|exact trivial|refine eS rfl ?_|refine AB ?_|refine rX [0,1,4,5,6,7,8,9] hc ?_ ?_|refine rC ?_ ?_<;>intro AA<;>try(cases AA;done))
 refine cP 0 hc ?_ ?_
 ·trivial
 ·refine rM hc (wP 0) [] [] ?_ ?_ ?_
  ·first|exact eN|refine eM ?_
  ·first|exact eN|refine eM ?_
  ·rintro _ _ ⟨rfl,rfl⟩
   refine⟨[(301,.nm 5)],.ag [.sr 301 JK 0 1],[(301,.nest 88 108 T3 ED [(0,[])] none)],rfl,rfl,?_,?_,rfl,rfl,?_⟩
   ·first|exact eN|refine eM ?_
   ·first|exact eN|refine eM ?_
   ·refine RF hc 1 (by simp only[go_sem,Nat.reduceEqDiff,reduceCtorEq,Nat.reduceAdd,Nat.reduceSub,Nat.reduceMul,Nat.reduceLeDiff,Nat.reduceLT,Int.reduceLE,Int.reduceToNat,Int.reduceNeg,↓reduceIte];rfl) ?_ ?_
    ·trivial
    ·refine rM hc (nD [((0:Int),[])] p Vn h64 fp lp (by simp)) [(501,.nm 301)] [301] ?_ ?_ ?_
     ·first|exact eN|refine eM ?_
     ·first|exact eN|refine eM ?_
     ·rintro _ _ ⟨rfl,rfl⟩
      have e2:BC p q=DE (HT p).1 0 q:=rfl
      have ee:Q6 p q=OU (BC p q).1 (Jh p q) (List.replicate (BC p q).1.length 0) 0:=rfl
      have ec:Jh p q=JP (BC p q).1 (Bc (Al (BC p q).1.length) (HT p).2 (BC p q).2):=rfl
      generalize BC p q=t2 at *
      generalize Jh p q=cl at *
      rw[show DE [((0:Int),[])] 0 p=HT p from rfl]
      generalize HT p=t1 at *
      obtain⟨F,m⟩:=t1
      simp only at *
      refine⟨[(302,.nm 501)],.tup [.ag [.sr 302 JK 0 F.length],.p T3 m],[(302,.nest 88 108 T3 ED F none)],rfl,rfl,?_,?_,rfl,rfl,?_⟩
      ·first|exact eN|refine eM ?_
      ·first|exact eN|refine eM ?_
      ·refine Nr [0,1,4,5,6,7,8,9] hc (by simp only[go_sem,Nat.reduceEqDiff,reduceCtorEq,Nat.reduceAdd,Nat.reduceSub,Nat.reduceMul,Nat.reduceLeDiff,Nat.reduceLT,Int.reduceLE,Int.reduceToNat,Int.reduceNeg,↓reduceIte];rfl) ?_ ?_
       ·trivial
       ·repeat'(first|exact trivial|refine eS rfl ?_|refine AB ?_|refine rX [0,1,4,5,6,7,8,9] hc ?_ ?_|refine rC ?_ ?_<;>intro AA<;>try(cases AA;done))
        refine cP 2 hc ?_ ?_
        ·trivial
        ·refine rM hc (nD F q ht1 h64 fq lq (by omega)) [(501,.nm 302)] [302] ?_ ?_ ?_
         ·first|exact eN|refine eM ?_
         ·first|exact eN|refine eM ?_
         ·rintro _ _ ⟨rfl,rfl⟩
          rw[←e2]
          refine⟨[(303,.nm 501)],.tup [.ag [.sr 303 JK 0 t2.1.length],.p T3 t2.2],[(303,.nest 88 108 T3 ED t2.1 none)],rfl,rfl,?_,?_,rfl,rfl,?_⟩
          ·first|exact eN|refine eM ?_
          ·first|exact eN|refine eM ?_
          ·refine Nr [0,1,4,5,6,7,8,9] hc (by simp only[go_sem,Nat.reduceEqDiff,reduceCtorEq,Nat.reduceAdd,Nat.reduceSub,Nat.reduceMul,Nat.reduceLeDiff,Nat.reduceLT,Int.reduceLE,Int.reduceToNat,Int.reduceNeg,↓reduceIte];rfl) ?_ ?_
           ·trivial
           ·repeat'(first|exact trivial|refine eS rfl ?_|refine AB ?_|refine rX [0,1,4,5,6,7,8,9] hc ?_ ?_|refine rC ?_ ?_<;>intro AA<;>try(cases AA;done))
            refine Gb [303] ?_
            repeat'(first|exact trivial|refine eS rfl ?_|refine AB ?_|refine rX [0,1,4,5,6,7,8,9] hc ?_ ?_|refine rC ?_ ?_<;>intro AA<;>try(cases AA;done))
            ·rw[Bp]
             exact⟨by exact eV,⟨by exact eV,hm,hq⟩,hg,hml,hmr⟩
            ·rw[←ec]
             have hNl:t2.1.length≤41:=by omega
             refine GE drawsAny hc 7 [([3,4,5],6)] [0,1,2] (by kernel_rfl) (Uq ?_ ?_)
             ·trivial
             ·refine mxF 38 hc [] ?_ ?_
              ·simp only[AP]
               dsimp only[Ty.den]at *
               omega
              ·refine qN [0,1,4,5,6,7,8,9] hc ?_ ?_ ?_
               ·trivial
               ·refine⟨hg,hrep.1,?_,hcr,by exact eV,by omega,fun x hx=>Nat.le_trans (h64r x hx) (by omega)⟩
                rw[List.take_of_length_le (by rw[List.length_replicate];exact Nat.le_refl _),List.length_replicate]
               ·rw[List.take_of_length_le (by rw[List.length_replicate];exact Nat.le_refl _)]
                repeat'(first|exact trivial|refine eS rfl ?_|refine AB ?_|refine rX [0,1,4,5,6,7,8,9] hc ?_ ?_|refine rC ?_ ?_<;>intro AA<;>try(cases AA;done))
                exact AH hc [.cell 4 25] rfl (.inl rfl) (by simp) (by rw[ee];first|exact eR|refine Ax ?_)
--.take_of_length_le (by rw [List.length_replicate]; exact Nat.le_refl _)])
noncomputable def nG:Ak:={ ins:=[GS,Ei,Ez,Ez],pre:=fun(h,f,p,q,_)=>(HU h∧Q5 h∧Je h)∧VF h f∧L0 h p∧L0 h q∧List.length p≤20∧List.length q≤20∧List.length f≤50,out:=fun(h,f,p,q,_)=>[.p Ei (HS h f p q).1,.p .bool (HS h f p q).2] }
theorem A1j:Ao Tryz.prog 25 nG:=by
 refine AX Tryz.func25 (by kernel_rfl) rfl Tryz.ntmps25 (by decide) (by kernel_rfl) (AJ [(72,A1i),(19,Po)]) (AF A2v (AF wV AL)) ?_
 rintro w0 O0 ⟨⟨ht,hf⟩,f,p,q,u⟩ hc-⟨⟨hu,hn,htop⟩,vf,fp,fq,lp,lq,lf⟩
 obtain⟨vE,lE,he⟩:=qI hu hn htop vf fp fq lp lq lf
 have hE:=wD hu hn htop vf vE (by omega)
 rw[he]at hE
 simp only[nG,AN]
 repeat'(first|exact trivial|refine eS rfl ?_|refine AB ?_|refine rX [0,1,2,3,4,5,8,9] hc ?_ ?_|refine rC ?_ ?_<;>intro AA<;>try(cases AA;done))
 ·exact⟨⟨_,hu.ft,fp,fq,lp,lq⟩,hu,vf,vE,by omega⟩
 ·exact AH hc [.cell 8 25,.tmp 9] rfl (.inl rfl) (by simp) (by rw[hE];first|exact eR|refine Ax ?_)
end
/- Functions of grammarlablaw11: hierarchy, fits, of; graph.Atom. -/
section
attribute [local go_sem] Ii OP TM Rf
def Cm (d:List AI):AM:=if d.length≤12∧(AY d).2=0 then (AY d).1 else (AY HK).1
def Oe:Ak:={ ins:=[EI],pre:=fun _=>True,out:=fun(d,_)=>[.p GS (Cm d)] }
theorem qK:Ao Tryz.prog 15 Oe:=by
 refine AX Tryz.func15 (by kernel_rfl) rfl Tryz.ntmps15 (by decide) (by kernel_rfl) (AJ [(52,Ii),(53,OP)]) (AF S8 (AF cE AL)) ?_
 rintro w0 O0 ⟨d,u⟩ hc - -
 simp only[Oe,AN]
 repeat'(first|exact trivial|refine eS rfl ?_|refine AB ?_|refine rX [0,2,3,4,5,9,16] hc ?_ ?_|refine rC ?_ ?_<;>intro AA<;>try(cases AA;done))
 ·have h1:Cm d=(AY d).1:=by unfold Cm;rw[if_pos ⟨by exact eV,AA⟩]
  exact AH hc [.cell 2 29] rfl (.inl rfl) (by simp) (by rw[h1];first|exact eR|refine Ax ?_)
 ·have h1:Cm d=(AY HK).1:=by unfold Cm;rw[if_neg (fun h=>AA h.2)]
  exact AH hc [.cell 2 29] rfl (.inl rfl) (by simp) (by rw[h1];first|exact eR|refine Ax ?_)
 ·have h1:Cm d=(AY HK).1:=by
   unfold Cm
   rw[if_neg]
   intro h
   have:=h.1
   exact eV
  exact AH hc [.cell 2 29] rfl (.inl rfl) (by simp) (by rw[h1];first|exact eR|refine Ax ?_)
def Zt (h:AM) (l:List (List AE)):Bool:=l.all (K4 h)
def Zu:Ak:={ ins:=[GS,T37],pre:=fun _=>True,out:=fun(h,l,_)=>[.p .bool (Zt h l)],lend:=true }
theorem A1k:Ao Tryz.prog 16 Zu:=by
 refine AX Tryz.func16 (by kernel_rfl) rfl Tryz.ntmps16 (by decide) (by kernel_rfl) (AJ [(54,TM),(55,Rf)]) (AF vC (AF qG AL)) ?_
 rintro w0 O0 ⟨⟨ht,hf⟩,l,u⟩ hc ⟨-,⟨hl,-⟩,-⟩ -
 simp only[AP]at hl
 simp only[Zu,AN]
 repeat'(first|exact trivial|refine eS rfl ?_|refine AB ?_|refine rX [0,1,2,4,6,7,8,9,10,21] hc ?_ ?_|refine rC ?_ ?_<;>intro AA<;>try(cases AA;done))
 refine AK (ι:={k:Nat//k≤l.length∧(l.take k).all (K4 (ht,hf))=true}) (fun k=>⟨[(2,.bp 2 [] 0),(7,.p T37 l),(8,.p (.int .i64) (l.length:Int)),(9,.p (.int .i64) (k.1:Int))],[(2,.box 29 true [.p fB ht,.p oL hf])]⟩) (fun k=>l.length-k.1) ⟨0,by simp⟩ (AC [(2,.nm 2)] rfl rfl ?_ ?_) (fun k=>?_)
 ·first|exact eN|refine eM ?_
 ·first|exact eN|refine eM ?_
 ·obtain⟨k,hk,hall⟩:=k
  repeat'(first|exact trivial|refine eS rfl ?_|refine AB ?_|refine rX [0,1,2,4,6,7,8,9,10,21] hc ?_ ?_|refine rC ?_ ?_<;>intro AA<;>try(cases AA;done))
  ·exact AA
  ·intro h
   obtain⟨h1,h2⟩:=Kn (f:=l.getD k []) (by simpa using h)
   exact⟨Nat.le_trans h1 (by decide),fun x hx=>Nat.le_trans (h2 x hx) (by decide)⟩
  ·have hkl:k<l.length:=Int.ofNat_lt.1 (by assumption)
   have h1:Zt (ht,hf) l=false:=by
    unfold Zt
    rw[List.all_eq_false]
    refine⟨_,AD l [] hkl,?_⟩
    unfold K4
    rw[Bool.and_eq_true,beq_iff_eq]
    rintro⟨h2,h3⟩
    rcases AA with h|h
    ·rw[h2]at h;cases h
    ·exact h h3
   exact AH hc [.tmp 4] rfl (.inl rfl) (by simp) (by rw[h1];first|exact eR|refine Ax ?_)
  ·omega
  ·have hkl:k<l.length:=Int.ofNat_lt.1 (by assumption)
   refine⟨⟨k+1,hkl,?_⟩,by simp only;omega,AC [(2,.nm 2)] rfl rfl ?_ ?_⟩
   ·have h:K4 (ht,hf) (l.getD k [])=true:=by
     have h2:=AA.2
     unfold K4
     rw[AA.1,Bool.true_and,beq_iff_eq]
     simpa using h2
    rw[Ab l [] hkl,List.all_append,hall]
    simpa using h
   ·first|exact eN|refine eM ?_
   ·first|exact eN|refine eM ?_
  ·have hk:l.take k=l:=List.take_of_length_le (Int.ofNat_le.1 AA)
   rw[hk]at hall
   have h1:Zt (ht,hf) l=true:=hall
   exact AH hc [.tmp 4] rfl (.inl rfl) (by simp) (by rw[h1];first|exact eR|refine Ax ?_)
def nH:Ak:={ ins:=[Ib],pre:=fun _=>True,out:=fun(l,_)=>[.p Ei l] }
theorem A1l:Ao Tryz.prog 57 nH:=by
 refine AX Tryz.func57 (by kernel_rfl) rfl Tryz.ntmps57 (by decide) (by kernel_rfl) (AJ []) AL ?_
 rintro w0 O0 ⟨t,u⟩ hc - -
 simp only[nH,AN]
 repeat'(first|exact trivial|refine eS rfl ?_|refine AB ?_|refine rX [0,2] hc ?_ ?_|refine rC ?_ ?_<;>intro AA<;>try(cases AA;done))
 exact AH hc [.cell 2 25] rfl (.inl rfl) (by simp) (by first|exact eR|refine Ax ?_)
def Pp:Ak:={ ins:=[T3],pre:=fun _=>True,out:=fun(t,_)=>[.p Ei [(t,[])]] }
theorem Zv:Ao Tryz.prog 70 Pp:=by
 refine AX Tryz.func70 (by kernel_rfl) rfl Tryz.ntmps70 (by decide) (by kernel_rfl) (AJ []) AL ?_
 rintro w0 O0 ⟨t,u⟩ hc - -
 simp only[Pp,AN]
 repeat'(first|exact trivial|refine eS rfl ?_|refine AB ?_|refine rX [0,2] hc ?_ ?_|refine rC ?_ ?_<;>intro AA<;>try(cases AA;done))
 exact AH hc [.cell 2 25] rfl (.inl rfl) (by simp) (by first|exact eR|refine Ax ?_)
end
/- What the laws of layer 11 share. -/
section
theorem Zw (d:List AI):H11 (Cm d):=by
 unfold Cm
 split
 ·exact Qp d
 ·exact Qp HK
theorem A1m {d:List AI} {l:List (List AE)} (h:Zt (Cm d) l=true):∀x∈l,VF (Cm d) x∧x.length≤12:=fun x hx=>by
 have hh:=Zw d
 exact wG hh.b1 hh.hu.ft (List.all_eq_true.1 h x hx)
theorem he2 (h:AM):(h.1,h.2)=h:=rfl
theorem dJ (d:List AI):Nd ((AY d).1.1.map fun t=>t.2.1):=by
 unfold AY
 split
 ·exact⟨.nil,fun c h=>(by cases h)⟩
 ·rename_i hv
  have hv:(BK d).2=0:=Classical.byContradiction hv
  have h5:BJ d=0:=by
   unfold BK at hv
   split at hv
   ·rename_i h;exact absurd hv h
   ·rename_i h;exact Classical.byContradiction h
  obtain⟨hz,-,-⟩:=CG h5
  obtain⟨h3,hlen,-⟩:=BZ hz
  have hf:Nd (Ay (Ac d)):=XK (Vf h3)
  have e:((F6 d).1.map fun t=>t.2.1)=(Aw d).map fun x=>x.2:=by
   show ((Eb _ _ _).map fun t=>t.2.1)=_
   unfold Eb
   rw[List.map_map]
   apply List.ext_getElem
   ·simp
   ·intro i h1 h2
    simp[List.getD_eq_getElem?_getD,show i<(Aw d).length by simpa using h1]
  show Nd ((F6 d).1.map fun t=>t.2.1)
  rw[e]
  refine⟨Kz (by simpa using hf.nd),fun c hc=>?_⟩
  obtain⟨x,hx,rfl⟩:=List.mem_map.1 hc
  obtain⟨b,hb,rfl⟩:=DV.1 hx
  exact hf.nrm b hb
end
/- Functions of unify: Unify. -/
section
noncomputable def K6:Ak:={ ins:=[GS,Ei,Ei],pre:=fun(h,a,b,_)=>HU h∧VF h a∧VF h b∧List.length a+List.length b≤10000,out:=fun(h,a,b,_)=>[.p Ei (Bq h a b).1,.p .bool (Bq h a b).2] }
attribute [local go_sem] K6
theorem Zx:Ao Tryz.prog 18 K6:=by
 refine AX Tryz.func18 (by kernel_rfl) rfl Tryz.ntmps18 (by decide) (by kernel_rfl) (AJ []) AL ?_
 rintro w0 O0 ⟨h,a,b,u⟩ hc-⟨hu,va,vb,hab⟩
 simp only[K6,AN]
 repeat'(first|exact trivial|refine eS rfl ?_|refine AB ?_|refine rX [0,1,2,3,4,5,6,7,8,25] hc ?_ ?_|refine rC ?_ ?_<;>intro AA<;>try(cases AA;done))
 refine cP 3 hc ?_ ?_
 ·trivial
 ·refine rM hc (TV h [] [] [] a va.good (by simp) rfl rfl) [(1,.nm 11),(2,.nil),(3,.nil),(4,.nil)] [] ?_ ?_ ?_
  ·first|exact eN|refine eM ?_
  ·simp only[Qj]
   first|exact eN|refine eM ?_
  ·rintro _ _ ⟨rfl,rfl⟩
   refine⟨[(11,.nm 1),(102,.nm 2),(103,.nm 3),(104,.nm 4)],.raw (.tuple #[]),[(11,.box 94 true [.p GS h,.sr 102 T3 0 (BF 0 a.length).length,.sr 103 T3 0 (BS a a.length).length,.sr 104 Cb 0 (Cl 0 a a.length).length]),(102,.arr 3 T3 (BF 0 a.length)),(103,.arr 3 T3 (BS a a.length)),(104,.arr 86 Cb (Cl 0 a a.length))],rfl,rfl,?_,?_,rfl,rfl,Ga ?_⟩
   ·simp only[Qj]
    first|exact eN|refine eM ?_
   ·first|exact eN|refine eM ?_
   ·have la:(BF 0 a.length).length=a.length:=Fs 0 a.length
    have lt:(BS a a.length).length=a.length:=by unfold BS;rw[List.length_map,List.take_length]
    have lr:(Cl 0 a a.length).length=a.length:=by unfold Cl;rw[List.length_map,List.take_length]
    repeat'(first|exact trivial|refine eS rfl ?_|refine AB ?_|refine rX [0,1,2,3,4,5,6,7,8,25] hc ?_ ?_|refine rC ?_ ?_<;>intro AA<;>try(cases AA;done))
    refine cP 3 hc ?_ ?_
    ·trivial
    ·refine rM hc (TV h (BF 0 a.length) (BS a a.length) (Cl 0 a a.length) b vb.good (by omega) (by omega) (by omega)) [(1,.nm 11),(2,.nm 102),(3,.nm 103),(4,.nm 104)] [102,103,104] ?_ ?_ ?_
     ·first|exact eN|refine eM ?_
     ·simp only[Qj]
      first|exact eN|refine eM ?_
     ·rintro _ _ ⟨rfl,rfl⟩
      rw[la,Pf,Tk,Vg]
      rw[show a.length+b.length=(AO a b).length from (BB a b).symm]
      have hN:=BB a b
      have hgN:=CT va.good vb.good (by omega)
      have hji:=Rc hgN (QQX va.ty vb.ty) (DD va.str vb.str)
      have hft:=FT (va.ft64 hu) (vb.ft64 hu)
      have hfl:=Tm (N:=AO a b) fun x hx=>M0 (DD va.str vb.str x hx) (hft x hx)
      have hap:=va.pos
      have hbp:=vb.pos
      have hof:=fun p ty ar hj hQ=>Rb va vb (p:=p) (ty:=ty) (ar:=ar) hj hQ
      have hno:=Pe va vb
      generalize BF 0 (AO a b).length=p0 at *
      generalize DC (AO a b)=t0 at *
      generalize E4 (AO a b)=r0 at *
      refine⟨[(11,.nm 1),(102,.nm 2),(103,.nm 3),(104,.nm 4)],.raw (.tuple #[]),[(11,.box 94 true [.p GS h,.sr 102 T3 0 p0.length,.sr 103 T3 0 t0.length,.sr 104 Cb 0 r0.length]),(102,.arr 3 T3 p0),(103,.arr 3 T3 t0),(104,.arr 86 Cb r0)],rfl,rfl,?_,?_,rfl,rfl,Ga ?_⟩
      ·simp only[Qj]
       first|exact eN|refine eM ?_
      ·first|exact eN|refine eM ?_
      ·repeat'(first|exact trivial|refine eS rfl ?_|refine AB ?_|refine rX [0,1,2,3,4,5,6,7,8,25] hc ?_ ?_|refine rC ?_ ?_<;>intro AA<;>try(cases AA;done))
       refine cP 4 hc ?_ ?_
       ·trivial
       ·refine rM hc (Ra h hu.ok hji (a:=0) (b:=(a.length:Int)) (by omega) (by omega) (by omega) (by omega)) [(101,.nm 11),(102,.nm 102),(103,.nm 103),(104,.nm 104)] [102,103,104] ?_ ?_ ?_
        ·first|exact eN|refine eM ?_
        ·simp only[RZ]
         first|exact eN|refine eM ?_
        ·rintro res objs' (⟨rfl,p1,t1,r1,rfl,hj1⟩|⟨rfl,⟨p1,t1,r1,rfl⟩,hno1⟩)
         ·have hQ:=Ip hj1 (by omega) hft
          have hUn:=K1 hu (hof p1 t1 r1 hj1 hQ)
          refine⟨[(11,.nm 101),(102,.nm 102),(103,.nm 103),(104,.nm 104)],.p .bool true,[(11,.box 94 true [.p GS h,.sr 102 T3 0 p1.length,.sr 103 T3 0 t1.length,.sr 104 Cb 0 r1.length]),(102,.arr 3 T3 p1),(103,.arr 3 T3 t1),(104,.arr 86 Cb r1)],rfl,rfl,?_,?_,rfl,rfl,?_⟩
          ·simp only[RZ]
           first|exact eN|refine eM ?_
          ·first|exact eN|refine eM ?_
          ·refine rL [0,1,2,3,4,5,6,7,8,25] hc ?_ ?_
           ·trivial
           ·repeat'(first|exact trivial|refine eS rfl ?_|refine AB ?_|refine rX [0,1,2,3,4,5,6,7,8,25] hc ?_ ?_|refine rC ?_ ?_<;>intro AA<;>try(cases AA;done))
            refine cP 1 hc ?_ ?_
            ·trivial
            ·refine rM hc (ZT h hj1.fo hQ (by rw[hj1.lt,hj1.lp]) (by rw[hj1.la,hj1.lp]) (fun k x hx=>by rw[hj1.lp];exact(hj1.arr k x hx).1) (r:=0) (by omega) (by rw[hj1.lp];omega)) [(101,.nm 11),(102,.nm 102),(103,.nm 103),(104,.nm 104)] [11,102,103,104] ?_ ?_ ?_
             ·first|exact eN|refine eM ?_
             ·simp only[RZ]
              first|exact eN|refine eM ?_
             ·rintro _ objs' rfl
              refine⟨[],.p Ei (AR (quo p1 t1 r1) (DF p1 0)),[],rfl,rfl,?_,?_,rfl,rfl,?_⟩
              ·first|exact eN|refine eM ?_
              ·first|exact eN|refine eM ?_
              ·refine rL [0,1,2,3,4,5,6,7,8,25] hc ?_ ?_
               ·trivial
               ·repeat'(first|exact trivial|refine eS rfl ?_|refine AB ?_|refine rX [0,1,2,3,4,5,6,7,8,25] hc ?_ ?_|refine rC ?_ ?_<;>intro AA<;>try(cases AA;done))
                exact AH hc [.cell 6 25,.tmp 7] rfl (.inl rfl) (by simp) (by rw[hUn];first|exact eR|refine Ax ?_)
         ·have hUn:=hno (fun X v hX hv=>hno1 X v hX hv)
          refine⟨[(11,.nm 101),(102,.nm 102),(103,.nm 103),(104,.nm 104)],.p .bool false,[(11,.box 94 true [.p GS h,.sr 102 T3 0 p1.length,.sr 103 T3 0 t1.length,.sr 104 Cb 0 r1.length]),(102,.arr 3 T3 p1),(103,.arr 3 T3 t1),(104,.arr 86 Cb r1)],rfl,rfl,?_,?_,rfl,rfl,?_⟩
          ·simp only[RZ]
           first|exact eN|refine eM ?_
          ·first|exact eN|refine eM ?_
          ·refine rL [0,1,2,3,4,5,6,7,8,25] hc ?_ ?_
           ·trivial
           ·repeat'(first|exact trivial|refine eS rfl ?_|refine AB ?_|refine rX [0,1,2,3,4,5,6,7,8,25] hc ?_ ?_|refine rC ?_ ?_<;>intro AA<;>try(cases AA;done))
            exact AH hc [.cell 6 25,.tmp 7] rfl (.inl rfl) (by simp) (by rw[hUn];first|exact eR|refine Ax ?_)
end
/- Functions of unify: Equate. -/
section
attribute [local go_sem] Pp XS
theorem Zy (N g:List AE):DC N++BS g g.length=DC (AO N g):=by
 unfold BS DC AO
 rw[List.take_length,List.map_append,List.map_map]
 rfl
theorem dK (N g:List AE):E4 N++Cl N.length g g.length=E4 (AO N g):=by
 unfold Cl E4 AO
 rw[List.take_length,List.map_append,List.map_map]
 rfl
theorem Tu (p:List Int):M3 p [((0:Int),[])]=CH p:=rfl
theorem wW {h:AM} (ht:Je h) {f:List AE} {p q:List Int} (hf:VF h f) (hp:p.length≤1000) (hq:q.length≤1000) (hl:f.length≤10000) {P:List (Int×Int)} (hP:∀r∈P,r∈eqP f p q) (hno:∀X v,EH h X→¬RW h (qE f p q) P X v):HS h f p q=([],false):=by
 refine Pl fun X hX m1 h1 n hn1 hn2=>?_
 obtain⟨v,hv,-⟩:=XQ ht hf hp hq hl hX h1 hn1 hn2
 exact hno X v hX.ty ⟨hv.rng,hv.ty,hv.arc,fun r hr=>hv.eq r (hP r hr)⟩
noncomputable def dL:Ak:={ ins:=[GS,Ei,Ez,Ez],pre:=fun(h,f,p,q,_)=>HU h∧Je h∧VF h f∧L0 h p∧L0 h q∧List.length p≤1000∧List.length q≤1000∧List.length f≤1000,out:=fun(h,f,p,q,_)=>[.p Ei (HS h f p q).1,.p .bool (HS h f p q).2] }
attribute [local go_sem] dL
theorem wX:Ao Tryz.prog 24 dL:=by
  refine AX Tryz.func24 (by kernel_rfl) rfl Tryz.ntmps24 (by decide) (by kernel_rfl) (AJ [(70,Pp),(71,XS)]) (AF Zv (AF wO AL)) ?_
  rintro w0 O0 ⟨h,f,p,q,u⟩ hc-⟨hu,ht,vf,fp,fq,hp,hq,hfl⟩
  simp only[dL,AN]
  have gA:Ag ([((0:Int),[])]:List AE):=⟨by simp,by simp⟩
  have hp2:p.length≤1000:=hp
  have hq2:q.length≤1000:=hq
  have hfl2:f.length≤1000:=hfl
  have gp:=Ep hp2
  have gq:=Ep hq2
  have lpp:=Br p
  have lpq:=Br q
  have h10:0<h.1.length:=by
    have:=vf.ty _ (AD f (0,[]) vf.pos)
    omega
  have pos:=vf.pos
  have hNl:=XP f p q
  have j1:=BB f (CH p)
  rw[lpp]at j1
  have gN1:=CT vf.good gp (by omega)
  have gN:=CT gN1 gq (by omega)
  have tN:=QQX (QQX vf.ty (Oc h10 p)) (Oc h10 q)
  have sN:=DD (DD vf.str (Lr p)) (Lr q)
  have h64:∀g:List AE,(∀x∈g,∀a∈x.2,0≤a.1∧a.1<(h.2.length:Int))→Tl g:=fun g hg x hx a ha=>by
    have h1:=hg x hx a ha
    have h2:=hu.ft
    omega
  have fN:=FT (FT (vf.ft64 hu) (h64 _ (Iq fp))) (h64 _ (Iq fq))
  have hji:=Rc gN tN sN
  have hfn:=Tm (N:=qE f p q) fun x hx=>M0 (sN x hx) (fN x hx)
  have hof:=fun P ty ar hj hQ=>wF ht vf fp fq hp2 hq2 (by omega) (P:=P) (ty:=ty) (ar:=ar) hj hQ
  have hno:=fun P hP=>wW ht vf hp2 hq2 (by omega) (P:=P) hP
  have hpa:=Tu p
  have hqa:=Tu q
  repeat'(first|exact trivial|refine eS rfl ?_|refine AB ?_|refine rX [0,1,2,3,4,5,8,9,10,11,12,13,14,69] hc ?_ ?_|refine rC ?_ ?_<;>intro AA<;>try(cases AA;done))
  · exact⟨⟨hp2,gA⟩,hq2,gA⟩
  · rw[hpa,hqa]
    unfold qE at hNl hfn hof hno
    generalize hA:CH p=A at *
    generalize hB:CH q=B at *
    have eT1:BS f f.length++BS A A.length=DC (AO f A):=Tk f A
    have eR1:Cl 0 f f.length++Cl f.length A A.length=E4 (AO f A):=Vg f A
    have eN1:BF 0 f.length++BF f.length A.length=BF 0 (AO f A).length:=by rw[Pf,BB]
    have eT2:=Zy (AO f A) B
    have eR2:=dK (AO f A) B
    have eN2:BF 0 (AO f A).length++BF (AO f A).length B.length=BF 0 (AO (AO f A) B).length:=by rw[Pf,←BB]
    refine cP 3 hc ?_ ?_
    · trivial
    · refine rM hc (TV h [] [] [] f vf.good (by simp) rfl rfl) [(1,.nm 23),(2,.nil),(3,.nil),(4,.nil)] [] ?_ ?_ ?_
      · first|exact eN|refine eM ?_
      · simp only[Qj]
        first|exact eN|refine eM ?_
      · rintro _ _ ⟨rfl,rfl⟩
        refine ⟨[(23, .nm 1), (102, .nm 2), (103, .nm 3), (104, .nm 4)], .raw (.tuple #[]),
                [(23,.box 94 true [.p GS h,.sr 102 T3 0 (BF 0 f.length).length,.sr 103 T3 0 (BS f f.length).length,.sr 104 Cb 0 (Cl 0 f f.length).length]),(102,.arr 3 T3 (BF 0 f.length)),(103,.arr 3 T3 (BS f f.length)),(104,.arr 86 Cb (Cl 0 f f.length))]
          ,rfl,rfl,?_,?_,rfl,rfl,Ga ?_⟩
        · simp only[Qj]
          first|exact eN|refine eM ?_
        · first|exact eN|refine eM ?_
        · have la:(BF 0 f.length).length=f.length:=Fs 0 f.length
          have lt:(BS f f.length).length=f.length:=by unfold BS;rw[List.length_map,List.take_length]
          have lr:(Cl 0 f f.length).length=f.length:=by unfold Cl;rw[List.length_map,List.take_length]
          repeat'(first|exact trivial|refine eS rfl ?_|refine AB ?_|refine rX [0,1,2,3,4,5,8,9,10,11,12,13,14,69] hc ?_ ?_|refine rC ?_ ?_<;>intro AA<;>try(cases AA;done))
          refine cP 3 hc ?_ ?_
          · trivial
          · refine rM hc (TV h (BF 0 f.length) (BS f f.length) (Cl 0 f f.length) A gp (by omega) (by omega) (by omega)) [(1,.nm 23),(2,.nm 102),(3,.nm 103),(4,.nm 104)] [102,103,104] ?_ ?_ ?_
            · first|exact eN|refine eM ?_
            · simp only[Qj]
              first|exact eN|refine eM ?_
            · rintro _ _ ⟨rfl,rfl⟩
              rw[la,eN1,eT1,eR1]
              have la1:(BF 0 (AO f A).length).length=(AO f A).length:=Fs 0 _
              have lt1:(DC (AO f A)).length=(AO f A).length:=by unfold DC;rw[List.length_map]
              have lr1:(E4 (AO f A)).length=(AO f A).length:=by unfold E4;rw[List.length_map]
              refine⟨[(23,.nm 1),(102,.nm 2),(103,.nm 3),(104,.nm 4)],.raw (.tuple #[]),
                [(23,.box 94 true [.p GS h,.sr 102 T3 0 (BF 0 (AO f A).length).length,.sr 103 T3 0 (DC (AO f A)).length,.sr 104 Cb 0 (E4 (AO f A)).length]),(102,.arr 3 T3 (BF 0 (AO f A).length)),(103,.arr 3 T3 (DC (AO f A))),(104,.arr 86 Cb (E4 (AO f A)))]
                ,rfl,rfl,?_,?_,rfl,rfl,Ga ?_⟩
              · simp only[Qj]
                first|exact eN|refine eM ?_
              · first|exact eN|refine eM ?_
              · repeat'(first|exact trivial|refine eS rfl ?_|refine AB ?_|refine rX [0,1,2,3,4,5,8,9,10,11,12,13,14,69] hc ?_ ?_|refine rC ?_ ?_<;>intro AA<;>try(cases AA;done))
                refine cP 3 hc ?_ ?_
                · trivial
                · refine rM hc (TV h (BF 0 (AO f A).length) (DC (AO f A)) (E4 (AO f A)) B gq (by omega) (by omega) (by omega)) [(1,.nm 23),(2,.nm 102),(3,.nm 103),(4,.nm 104)] [102,103,104] ?_ ?_ ?_
                  · first|exact eN|refine eM ?_
                  · simp only[Qj]
                    first|exact eN|refine eM ?_
                  · rintro _ _ ⟨rfl,rfl⟩
                    rw[la1,eN2,eT2,eR2]
                    have e14:(((AO f A).length:Nat):Int)=((f.length+(p.length+1):Nat):Int):=by omega
                    refine⟨[(23,.nm 1),(102,.nm 2),(103,.nm 3),(104,.nm 4)],.raw (.tuple #[]),
                [(23, .box 94 true [.p GS h, .sr 102 T3 0 (BF 0 (AO (AO f A) B).length).length, .sr 103 T3 0 (DC (AO (AO f A) B)).length, .sr 104 Cb 0 (E4 (AO (AO f A) B)).length]), (102, .arr 3 T3 (BF 0 (AO (AO f A) B).length)), (103, .arr 3 T3 (DC (AO (AO f A) B))), (104, .arr 86 Cb (E4 (AO (AO f A) B)))]
                      ,rfl,rfl,?_,?_,rfl,rfl,Ga ?_⟩
                    · simp only[Qj]
                      first|exact eN|refine eM ?_
                    · first|exact eN|refine eM ?_
                    · clear la lt lr la1 lt1 lr1 eT1 eR1 eN1 eT2 eR2 eN2
                      rw[e14]
                      have hlA:A.length=p.length+1:=lpp
                      have hlB:B.length=q.length+1:=lpq
                      generalize AO (AO f A) B=NN at *
                      generalize BF 0 NN.length=p0 at *
                      generalize DC NN=t0 at *
                      generalize E4 NN=r0 at *
                      have k1:0<NN.length:=by omega
                      repeat'(first|exact trivial|refine eS rfl ?_|refine AB ?_|refine rX [0,1,2,3,4,5,8,9,10,11,12,13,14,69] hc ?_ ?_|refine rC ?_ ?_<;>intro AA<;>try(cases AA;done))
                      refine evP hc 2 ?_ ?_
                      · trivial
                      · refine clG hc (Ra h hu.ok hji (a:=0) (b:=(f.length:Int)) (by omega) (by omega) (by omega) (by omega)) [(101,.nm 23),(102,.nm 102),(103,.nm 103),(104,.nm 104)] [102,103,104] ?_ ?_ ?_
                        · first|exact eN|refine eM ?_
                        · simp only[RZ]
                          first|exact eN|refine eM ?_
                        · rintro res objs' (⟨rfl,p1,t1,r1,rfl,hj1⟩|⟨rfl,⟨p1,t1,r1,rfl⟩,hno1⟩)
                          · refine⟨[(23,.nm 101),(102,.nm 102),(103,.nm 103),(104,.nm 104)],.p .bool true,
                [(23, .box 94 true [.p GS h, .sr 102 T3 0 p1.length, .sr 103 T3 0 t1.length, .sr 104 Cb 0 r1.length]), (102, .arr 3 T3 p1), (103, .arr 3 T3 t1), (104, .arr 86 Cb r1)]
                              ,rfl,rfl,?_,?_,rfl,rfl,?_⟩
                            · simp only[RZ]
                              first|exact eN|refine eM ?_
                            · first|exact eN|refine eM ?_
                            · refine rN 5 hc ?_ ?_
                              · trivial
                              · refine clG hc (Ra h hu.ok hj1 (a:=(f.length:Int)) (b:=((f.length+(p.length+1):Nat):Int)) (by omega) (by omega) (by omega) (by omega)) [(101,.nm 23),(102,.nm 102),(103,.nm 103),(104,.nm 104)] [102,103,104] ?_ ?_ ?_
                                · first|exact eN|refine eM ?_
                                · simp only[RZ]
                                  first|exact eN|refine eM ?_
                                · rintro res objs' (⟨rfl,p2,t2,r2,rfl,hj2⟩|⟨rfl,⟨p2,t2,r2,rfl⟩,hno2⟩)
                                  · refine⟨[(23,.nm 101),(102,.nm 102),(103,.nm 103),(104,.nm 104)],.p .bool true,
                [(23, .box 94 true [.p GS h, .sr 102 T3 0 p2.length, .sr 103 T3 0 t2.length, .sr 104 Cb 0 r2.length]), (102, .arr 3 T3 p2), (103, .arr 3 T3 t2), (104, .arr 86 Cb r2)]
                                      ,rfl,rfl,?_,?_,rfl,rfl,?_⟩
                                    · simp only[RZ]
                                      first|exact eN|refine eM ?_
                                    · first|exact eN|refine eM ?_
                                    · refine rN 12 hc ?_ ?_
                                      · exact eV
                                      · refine clG hc (Ra h hu.ok hj2 (a:=(f.length:Int)+(p.length:Int)) (b:=((f.length+(p.length+1):Nat):Int)+(q.length:Int)) (by omega) (by omega) (by omega) (by omega)) [(101,.nm 23),(102,.nm 102),(103,.nm 103),(104,.nm 104)] [102,103,104] ?_ ?_ ?_
                                        · first|exact eN|refine eM ?_
                                        · simp only[RZ]
                                          first|exact eN|refine eM ?_
                                        · have eP:[]++[(0,(f.length:Int))]++[((f.length:Int),((f.length+(p.length+1):Nat):Int))]++[((f.length:Int)+(p.length:Int),((f.length+(p.length+1):Nat):Int)+(q.length:Int))]=eqP f p q:=by
                                            rw[show (f.length:Int)+(p.length:Int)=((f.length+p.length:Nat):Int) by omega,show ((f.length+(p.length+1):Nat):Int)+(q.length:Int)=((f.length+(p.length+1)+q.length:Nat):Int) by omega]
                                            rfl
                                          rw[eP]
                                          rintro res objs' (⟨rfl,p3,t3,r3,rfl,hj3⟩|⟨rfl,⟨p3,t3,r3,rfl⟩,hno3⟩)
                                          · have hQ:=Ip hj3 (by omega) fN
                                            have hUn:=Pk hu (hof p3 t3 r3 hj3 hQ)
                                            refine⟨[(23,.nm 101),(102,.nm 102),(103,.nm 103),(104,.nm 104)],.p .bool true,
                [(23, .box 94 true [.p GS h, .sr 102 T3 0 p3.length, .sr 103 T3 0 t3.length, .sr 104 Cb 0 r3.length]), (102, .arr 3 T3 p3), (103, .arr 3 T3 t3), (104, .arr 86 Cb r3)]
                                              ,rfl,rfl,?_,?_,rfl,rfl,?_⟩
                                            · simp only[RZ]
                                              first|exact eN|refine eM ?_
                                            · first|exact eN|refine eM ?_
                                            · refine rL [0,1,2,3,4,5,8,9,10,11,12,13,14,69] hc ?_ ?_
                                              · trivial
                                              · repeat'(first|exact trivial|refine eS rfl ?_|refine AB ?_|refine rX [0,1,2,3,4,5,8,9,10,11,12,13,14,69] hc ?_ ?_|refine rC ?_ ?_<;>intro AA<;>try(cases AA;done))
                                                refine cP 1 hc ?_ ?_
                                                · trivial
                                                · refine rM hc (ZT h hj3.fo hQ (by rw[hj3.lt,hj3.lp]) (by rw[hj3.la,hj3.lp]) (fun k x hx=>by rw[hj3.lp];exact(hj3.arr k x hx).1) (r:=0) (by omega) (by rw[hj3.lp];omega)) [(101,.nm 23),(102,.nm 102),(103,.nm 103),(104,.nm 104)] [23,102,103,104] ?_ ?_ ?_
                                                  · first|exact eN|refine eM ?_
                                                  · simp only[RZ]
                                                    first|exact eN|refine eM ?_
                                                  · rintro _ objs' rfl
                                                    refine⟨[],.p Ei (AR (quo p3 t3 r3) (DF p3 0)),[],rfl,rfl,?_,?_,rfl,rfl,?_⟩
                                                    · first|exact eN|refine eM ?_
                                                    · first|exact eN|refine eM ?_
                                                    · refine rL [0,1,2,3,4,5,8,9,10,11,12,13,14,69] hc ?_ ?_
                                                      · trivial
                                                      · repeat'(first|exact trivial|refine eS rfl ?_|refine AB ?_|refine rX [0,1,2,3,4,5,8,9,10,11,12,13,14,69] hc ?_ ?_|refine rC ?_ ?_<;>intro AA<;>try(cases AA;done))
                                                        exact AH hc [.cell 8 25,.tmp 9] rfl (.inl rfl) (by simp) (by rw[hUn];first|exact eR|refine Ax ?_)
                                          · have hUn:=hno (eqP f p q) (fun _ h=>h) hno3
                                            refine⟨[(23,.nm 101),(102,.nm 102),(103,.nm 103),(104,.nm 104)],.p .bool false,
                [(23, .box 94 true [.p GS h, .sr 102 T3 0 p3.length, .sr 103 T3 0 t3.length, .sr 104 Cb 0 r3.length]), (102, .arr 3 T3 p3), (103, .arr 3 T3 t3), (104, .arr 86 Cb r3)]
                                              ,rfl,rfl,?_,?_,rfl,rfl,?_⟩
                                            · simp only[RZ]
                                              first|exact eN|refine eM ?_
                                            · first|exact eN|refine eM ?_
                                            · refine rL [0,1,2,3,4,5,8,9,10,11,12,13,14,69] hc ?_ ?_
                                              · trivial
                                              · repeat'(first|exact trivial|refine eS rfl ?_|refine AB ?_|refine rX [0,1,2,3,4,5,8,9,10,11,12,13,14,69] hc ?_ ?_|refine rC ?_ ?_<;>intro AA<;>try(cases AA;done))
                                                exact AH hc [.cell 8 25,.tmp 9] rfl (.inl rfl) (by simp) (by rw[hUn];first|exact eR|refine Ax ?_)
                                  · have hUn:=hno [(0,(f.length:Int)),((f.length:Int),((f.length+(p.length+1):Nat):Int))] (by simp) hno2
                                    refine⟨[(23,.nm 101),(102,.nm 102),(103,.nm 103),(104,.nm 104)],.p .bool false,
                [(23, .box 94 true [.p GS h, .sr 102 T3 0 p2.length, .sr 103 T3 0 t2.length, .sr 104 Cb 0 r2.length]), (102, .arr 3 T3 p2), (103, .arr 3 T3 t2), (104, .arr 86 Cb r2)]
                                      ,rfl,rfl,?_,?_,rfl,rfl,?_⟩
                                    · simp only[RZ]
                                      first|exact eN|refine eM ?_
                                    · first|exact eN|refine eM ?_
                                    · refine rL [0,1,2,3,4,5,8,9,10,11,12,13,14,69] hc ?_ ?_
                                      · trivial
                                      · repeat'(first|exact trivial|refine eS rfl ?_|refine AB ?_|refine rX [0,1,2,3,4,5,8,9,10,11,12,13,14,69] hc ?_ ?_|refine rC ?_ ?_<;>intro AA<;>try(cases AA;done))
                                        exact AH hc [.cell 8 25,.tmp 9] rfl (.inl rfl) (by simp) (by rw[hUn];first|exact eR|refine Ax ?_)
                          · have hUn:=hno [(0,(f.length:Int))] (by simp) hno1
                            refine⟨[(23,.nm 101),(102,.nm 102),(103,.nm 103),(104,.nm 104)],.p .bool false,
                [(23, .box 94 true [.p GS h, .sr 102 T3 0 p1.length, .sr 103 T3 0 t1.length, .sr 104 Cb 0 r1.length]), (102, .arr 3 T3 p1), (103, .arr 3 T3 t1), (104, .arr 86 Cb r1)]
                              ,rfl,rfl,?_,?_,rfl,rfl,?_⟩
                            · simp only[RZ]
                              first|exact eN|refine eM ?_
                            · first|exact eN|refine eM ?_
                            · refine rL [0,1,2,3,4,5,8,9,10,11,12,13,14,69] hc ?_ ?_
                              · trivial
                              · repeat'(first|exact trivial|refine eS rfl ?_|refine AB ?_|refine rX [0,1,2,3,4,5,8,9,10,11,12,13,14,69] hc ?_ ?_|refine rC ?_ ?_<;>intro AA<;>try(cases AA;done))
                                exact AH hc [.cell 8 25,.tmp 9] rfl (.inl rfl) (by simp) (by rw[hUn];first|exact eR|refine Ax ?_)
end
/- Plain: unifications that can be computed. -/
section
def CJ:Nat→List Int→Int→Int
 | 0,_,n=>n
 | k+1,p,n=>if par p n=n then n else CJ k p (par p n)
def Tv (p:List Int) (n:Int):Bool:=par p (CJ 100 p n)==CJ 100 p n
theorem Zz {p:List Int}:∀ {k:Nat} {n:Int},par p (CJ k p n)=CJ k p n→Rt p n (CJ k p n)
 | 0,n,h=>.base h
 | k+1,n,h=>by
  unfold CJ at h ⊢
  split
  ·rename_i e
   exact .base e
  ·rename_i e
   rw[if_neg e]at h
   exact .step e (Zz h)
theorem Tw {p:List Int} {n:Int} (h:Tv p n=true):Rt p n (CJ 100 p n):=Zz (by unfold Tv at h;simpa using h)
abbrev wY:=List Int×List Int×List (List (Int×Int))
def Vr (h:AM):Nat→wY→List (Int×Int)→Option (Option wY)
 | 0,_,_=>none
 | k+1,s,W=>match W.getLast? with
  | none=>some (some s)
  | some w =>
   if (Tv s.1 w.1&&Tv s.1 w.2)=true then
    if CJ 100 s.1 w.1=CJ 100 s.1 w.2 then Vr h k s W.dropLast
    else if (Bt h (s.2.1.getD (CJ 100 s.1 w.1).toNat 0) (s.2.1.getD (CJ 100 s.1 w.2).toNat 0)).2=false then some none
    else Vr h k (s.1.set (CJ 100 s.1 w.2).toNat (CJ 100 s.1 w.1),s.2.1.set (CJ 100 s.1 w.1).toNat (Bt h (s.2.1.getD (CJ 100 s.1 w.1).toNat 0) (s.2.1.getD (CJ 100 s.1 w.2).toNat 0)).1,s.2.2.set (CJ 100 s.1 w.1).toNat (Ba (s.2.2.getD (CJ 100 s.1 w.1).toNat []) (s.2.2.getD (CJ 100 s.1 w.2).toNat [])).1)
     (W.dropLast++(Ba (s.2.2.getD (CJ 100 s.1 w.1).toNat []) (s.2.2.getD (CJ 100 s.1 w.2).toNat [])).2)
   else none
theorem A1n {α:Type} {W:List α} {w:α} (h:W.getLast?=some w):W=W.dropLast++[w]:=by
 obtain⟨hne,e⟩:=List.getLast?_eq_some_iff.1 h
 rw[e]
 simp
theorem Tx {h:AM} (hk:T8 h) {N:List AE} {P:List (Int×Int)}:∀(k:Nat) (s:wY) (W:List (Int×Int)),JI h N P s.1 s.2.1 s.2.2 W →
  (∀t,Vr h k s W=some (some t)→JI h N P t.1 t.2.1 t.2.2 [])∧(Vr h k s W=some none→∀X v,EH h X→¬RW h N P X v)
 | 0,s,W,hj=>⟨fun t e=>(by cases e),fun e=>(by cases e)⟩
 | k+1,s,W,hj=>by
  unfold Vr
  cases hw:W.getLast? with
  | none =>
   have:W=[]:=List.getLast?_eq_none_iff.1 hw
   subst this
   refine⟨fun t e=>?_,fun e=>(by cases e)⟩
   have e:s=t:=by simpa using e
   rw[←e]
   exact hj
  | some w =>
   simp only
   have hW:=A1n hw
   obtain⟨x,y⟩:=w
   rw[hW]at hj
   by_cases hr:(Tv s.1 x&&Tv s.1 y)=true
   ·rw[if_pos hr]
    rw[Bool.and_eq_true]at hr
    have ha:=Tw hr.1
    have hb:=Tw hr.2
    by_cases he:CJ 100 s.1 x=CJ 100 s.1 y
    ·rw[if_pos he]
     rw[←he]at hb
     exact Tx hk k s _ (XG hj ha hb)
    ·rw[if_neg he]
     by_cases hm:(Bt h (s.2.1.getD (CJ 100 s.1 x).toNat 0) (s.2.1.getD (CJ 100 s.1 y).toNat 0)).2=false
     ·rw[if_pos hm]
      refine⟨fun t e=>(by cases e),fun _ X v hX hv=>?_⟩
      have:=(RY hk hj ha hb hX hv).2.1
      rw[hm]at this
      cases this
     ·rw[if_neg hm]
      have hm:(Bt h (s.2.1.getD (CJ 100 s.1 x).toNat 0) (s.2.1.getD (CJ 100 s.1 y).toNat 0)).2=true:=by simpa using hm
      exact Tx hk k _ _ (TW hk hj ha hb he hm)
   ·rw[if_neg hr]
    exact⟨fun t e=>(by cases e),fun e=>(by cases e)⟩
def Pq (h:AM):wY→List (Int×Int)→Option (Option wY)
 | s,[]=>some (some s)
 | s,q :: P=>match Vr h 1000 s [q] with
  | some (some t)=>Pq h t P
  | r=>r
theorem Vs {h:AM} (hk:T8 h) {N:List AE}:∀(R P:List (Int×Int)) (s:wY),(∀q∈R,(0≤q.1∧q.1<(N.length:Int))∧(0≤q.2∧q.2<(N.length:Int)))→JI h N P s.1 s.2.1 s.2.2 [] →
  (∀t,Pq h s R=some (some t)→JI h N (P++R) t.1 t.2.1 t.2.2 [])∧(Pq h s R=some none→∀X v,EH h X→¬RW h N (P++R) X v)
 | [],P,s,hr,hj=>⟨fun t e=>by
   have e:s=t:=by simpa[Pq] using e
   rw[←e,List.append_nil]
   exact hj,fun e=>(by cases e)⟩
 | q :: R,P,s,hr,hj=>by
  obtain⟨a,b⟩:=q
  have hq:=hr (a,b) (by simp)
  obtain⟨k1,k2⟩:=Tx hk 1000 s [(a,b)] (TX hj hq.1 hq.2)
  have hP:P++(a,b) :: R=P++[(a,b)]++R:=by simp
  unfold Pq
  rw[hP]
  split
  ·rename_i t ht
   exact Vs hk R (P++[(a,b)]) t (fun q hq=>hr q (by simp[hq])) (k1 t ht)
  ·rename_i r hno
   refine⟨fun t e=>absurd e (hno t),fun e X v hX hv=>k2 e X v hX ⟨hv.rng,hv.ty,hv.arc,fun q hq=>hv.eq q (List.mem_append_left _ hq)⟩⟩
def A1o (s:wY):List AE:=(List.range s.1.length).map fun k=>(s.2.1.getD k 0,(s.2.2.getD k []).map fun a=>(a.1,CJ 100 s.1 a.2))
def XT (s:wY):Bool:=(List.range s.1.length).all fun(k:Nat)=>Tv s.1 (k:Int)
theorem Vt {h:AM} {N:List AE} {P:List (Int×Int)} {s:wY} (hj:JI h N P s.1 s.2.1 s.2.2 []) (hr:XT s=true) {x:Int} (x0:0≤x) (x1:x<(N.length:Int)):CJ 100 s.1 x=DF s.1 x:=by
 unfold XT at hr
 rw[List.all_eq_true]at hr
 have hl:=hj.lp
 have:=hr x.toNat (List.mem_range.2 (by omega))
 rw[Int.toNat_of_nonneg x0]at this
 rw[TY (Tw this)]
theorem A1p {h:AM} {N:List AE} {P:List (Int×Int)} {s:wY} (hj:JI h N P s.1 s.2.1 s.2.2 []) (hr:XT s=true):A1o s=quo s.1 s.2.1 s.2.2:=by
 unfold A1o quo
 refine List.map_congr_left fun k _=>?_
 congr 1
 refine List.map_congr_left fun a ha=>?_
 have:=(hj.arr k a ha).1
 rw[Vt hj hr this.1 this.2]
def wZ (N:List AE):wY:=(BF 0 N.length,DC N,E4 N)
def w3 (h:AM) (N:List AE) (P:List (Int×Int)):Option (List AE×Bool):=match Pq h (wZ N) P with
 | some (some s)=>if XT s=true then some (AR (A1o s) (CJ 100 s.1 0),true) else none
 | some none=>some ([],false)
 | none=>none
theorem nI {h:AM} (hk:T8 h) {N:List AE} (hg:Ag N) (ht:EH h N) (hs:∀x∈N,Oa x.2) (h0:0<N.length) {P:List (Int×Int)} (hP:∀q∈P,(0≤q.1∧q.1<(N.length:Int))∧(0≤q.2∧q.2<(N.length:Int))) :
  (∀U,w3 h N P=some (U,true)→∃p ty ar,JI h N P p ty ar []∧U=AR (quo p ty ar) (DF p 0))∧(∀U,w3 h N P=some (U,false)→U=[]∧∀X v,EH h X→¬RW h N P X v):=by
 obtain⟨k1,k2⟩:=Vs hk P [] (wZ N) hP (Rc hg ht hs)
 rw[List.nil_append]at k1 k2
 unfold w3
 split
 ·rename_i s hs2
  have hj:=k1 s hs2
  split
  ·rename_i hr
   refine⟨fun U e=>⟨s.1,s.2.1,s.2.2,hj,?_⟩,fun U e=>(by cases e)⟩
   have e:AR (A1o s) (CJ 100 s.1 0)=U:=by simpa using e
   rw[←e,A1p hj hr,Vt hj hr (by omega) (by omega)]
  ·exact⟨fun U e=>(by cases e),fun U e=>(by cases e)⟩
 ·rename_i hs2
  refine⟨fun U e=>(by cases e),fun U e=>⟨?_,k2 hs2⟩⟩
  have e:[]=U:=by simpa using e
  exact e.symm
 ·exact⟨fun U e=>(by cases e),fun U e=>(by cases e)⟩
def A2w (h:AM) (a b:List AE):Option (List AE×Bool):=w3 h (AO a b) [(0,(a.length:Int))]
theorem Pr {h:AM} (hu:HU h) {a b:List AE} (va:VF h a) (vb:VF h b) (hl:a.length+b.length≤10000) {r:List AE×Bool} (hr:A2w h a b=some r):Bq h a b=r:=by
 have hN:=BB a b
 have hap:=va.pos
 have hbp:=vb.pos
 obtain⟨U,z⟩:=r
 have hgN:=CT va.good vb.good (by omega)
 obtain⟨k1,k2⟩:=nI hu.ok (N:=AO a b) hgN (QQX va.ty vb.ty) (DD va.str vb.str) (by omega) (P:=[(0,(a.length:Int))]) (fun q hq=>by
  have e:q=(0,(a.length:Int)):=by simpa using hq
  subst e
  simp only
  omega)
 cases z with
 | true =>
  obtain⟨p,ty,ar,hj,rfl⟩:=k1 U hr
  exact K1 hu (Rb va vb hj (Ip hj (by omega) (FT (va.ft64 hu) (vb.ft64 hu))))
 | false =>
  obtain⟨rfl,hno⟩:=k2 U hr
  exact Pe va vb hno
def A6a (h:AM) (f:List AE) (p q:List Int):Option (List AE×Bool):=w3 h (qE f p q) (eqP f p q)
theorem XU {h:AM} (hu:HU h) (ht:Je h) {f:List AE} {p q:List Int} (vf:VF h f) (fp:L0 h p) (fq:L0 h q) (hp:p.length≤1000) (hq:q.length≤1000) (hl:f.length≤1000) {r:List AE×Bool} (hr:A6a h f p q=some r):HS h f p q=r:=by
 have hN:=XP f p q
 have hfp:=vf.pos
 obtain⟨U,z⟩:=r
 have j1:=BB f (CH p)
 have lpp:=Br p
 have lpq:=Br q
 have gN1:=CT vf.good (Ep hp) (by omega)
 have gN:=CT gN1 (Ep hq) (by omega)
 have h10:0<h.1.length:=by
  have:=vf.ty _ (AD f (0,[]) vf.pos)
  omega
 have tN:=QQX (QQX vf.ty (Oc h10 p)) (Oc h10 q)
 have sN:=DD (DD vf.str (Lr p)) (Lr q)
 have h64:∀g:List AE,(∀x∈g,∀a∈x.2,0≤a.1∧a.1<(h.2.length:Int))→Tl g:=fun g hg x hx a ha=>by
  have h1:=hg x hx a ha
  have h2:=hu.ft
  omega
 have fN:=FT (FT (vf.ft64 hu) (h64 _ (Iq fp))) (h64 _ (Iq fq))
 obtain⟨k1,k2⟩:=nI hu.ok (N:=qE f p q) gN tN sN (by omega) (P:=eqP f p q) (fun r hr=>by
  simp only[List.mem_cons,List.not_mem_nil,or_false]at hr
  rcases hr with rfl|rfl|rfl<;>simp only<;>omega)
 cases z with
 | true =>
  obtain⟨p',ty,ar,hj,rfl⟩:=k1 U hr
  exact Pk hu (wF ht vf fp fq hp hq (by omega) hj (Ip hj (by omega) fN))
 | false =>
  obtain⟨rfl,hno⟩:=k2 U hr
  refine Pl fun X hX m1 h1 n hn1 hn2=>?_
  obtain⟨v,hv,-⟩:=XQ ht vf hp hq (by omega) hX h1 hn1 hn2
  exact hno X v hX.ty hv
/-! What is valid can be computed -/
def roB (f:List AE):Bool:=(List.range f.length).all fun(i:Nat)=>i==0||(List.range i).any fun j=>(f.getD j (0,[])).2.any fun a=>a.2==(i:Int)
def A1q:List (Int×Int)→Bool
 | a :: b :: l=>decide (a.1<b.1)&&A1q (b :: l)
 | _=>true
theorem nJ:∀ {l:List (Int×Int)},A1q l=true→Oa l
 | [],_=>.nil
 | [a],_=>List.pairwise_singleton _ _
 | a :: b :: l,h=>by
  simp only[A1q,Bool.and_eq_true,decide_eq_true_eq]at h
  have ih:=nJ h.2
  refine List.pairwise_cons.2 ⟨fun c hc=>?_,ih⟩
  rcases List.mem_cons.1 hc with rfl|hc
  ·exact h.1
  ·have:=(List.pairwise_cons.1 ih).1 c hc
   omega
def vfB (h:AM) (f:List AE):Bool :=
 decide (0<f.length)&&decide (f.length≤100)&&roB f&&(AR f 0==f)&&f.all fun x=>decide (0≤x.1)&&decide (x.1<(h.1.length:Int))&&decide (x.2.length≤100)&&A1q x.2&&x.2.all fun a=>decide (0≤a.1)&&decide (a.1<(h.2.length:Int))&&decide (0≤a.2)&&decide (a.2<(f.length:Int))
theorem Ps {h:AM} {f:List AE} (hb:vfB h f=true):VF h f:=by
 unfold vfB at hb
 simp only[Bool.and_eq_true,decide_eq_true_eq,List.all_eq_true,beq_iff_eq]at hb
 obtain⟨⟨⟨⟨h1,h2⟩,h3⟩,h4⟩,h5⟩:=hb
 refine⟨⟨by omega,fun x hx=>⟨by have:=(h5 x hx).1.1.2;omega,fun a ha=>?_⟩⟩,h1,fun x hx=>?_,fun x hx=>?_,fun x hx a ha=>?_,h4,fun i i0 i1=>?_⟩
 ·have:=(h5 x hx).2 a ha
  exact⟨this.1.2,this.2⟩
 ·exact(h5 x hx).1.1.1
 ·exact nJ (h5 x hx).1.2
 ·exact((h5 x hx).2 a ha).1.1
 ·unfold roB at h3
  rw[List.all_eq_true]at h3
  have:=h3 i.toNat (List.mem_range.2 (by omega))
  rw[Bool.or_eq_true,beq_iff_eq]at this
  rcases this with e|e
  ·omega
  ·obtain⟨j,hj,e⟩:=List.any_eq_true.1 e
   obtain⟨a,ha,e⟩:=List.any_eq_true.1 e
   have hj:=List.mem_range.1 hj
   refine⟨(j:Int),by omega,by omega,a,by rw[AW,Int.toNat_natCast];exact ha,?_⟩
   have e:a.2=(i.toNat:Int):=by simpa using e
   omega
end
/- Functions of unify: All; of grammarlablaw11: node, small. -/
section
attribute [local go_sem] K6 Pp Ii cs1 cs3
noncomputable def K7 (h:AM):List AE→List (List AE)→List AE×Bool
 | f,[]=>(f,true)
 | f,x :: l=>if (Bq h f x).2=true then K7 h (Bq h f x).1 l else ([],false)
noncomputable def A1r (h:AM):List (List AE)→List AE×Bool
 | []=>([((0:Int),[])],true)
 | f :: l=>K7 h f l
noncomputable def A1s:Ak:={ ins:=[GS,T37],pre:=fun(h,l,_)=>HU h∧List.length l≤50∧∀x∈(l:List (List AE)),VF h x∧x.length≤100,out:=fun(h,l,_)=>[.p Ei (A1r h l).1,.p .bool (A1r h l).2] }
theorem A2x:Ao Tryz.prog 21 A1s:=by
 refine AX Tryz.func21 (by kernel_rfl) rfl Tryz.ntmps21 (by decide) (by kernel_rfl) (AJ [(70,Pp),(18,K6)]) (AF Zv (AF Zx AL)) ?_
 rintro w0 O0 ⟨h,l,u⟩ hc-⟨hu,hl,hx⟩
 simp only[A1s,AN]
 repeat'(first|exact trivial|refine eS rfl ?_|refine AB ?_|refine rX [0,1,2,4,5,6,8,9,10,13,19,20,21,22,33] hc ?_ ?_|refine rC ?_ ?_<;>intro AA<;>try(cases AA;done))
 ·have hl0:l=[]:=List.eq_nil_of_length_eq_zero (by omega)
  subst hl0
  exact AH hc [.cell 4 25,.tmp 5] rfl (.inl rfl) (by simp) (by first|exact eR|refine Ax ?_;exact⟨rfl,rfl⟩)
 ·have h1:(List.length l:Int)≠0:=AA
  have h2:0≤(List.length l:Int):=Int.natCast_nonneg _
  dsimp only[Ty.den]at *
  omega
 ·have h1:(List.length l:Int)≠0:=AA
  have h2:0≤(List.length l:Int):=Int.natCast_nonneg _
  dsimp only[Ty.den]at *
  omega
 ·obtain⟨g0,r,rfl⟩:∃g r,l=g :: r:=by
   cases l with
   | nil=>exact absurd rfl AA
   | cons g r=>exact⟨g,r,rfl⟩
  have e0:(g0 :: r).getD 0 []=g0:=rfl
  have hg0:=hx g0 (by simp)
  have hr:∀x∈r,VF h x∧x.length≤100:=fun x hx2=>hx x (by simp[hx2])
  have hrl:r.length≤49:=by
   have h:(g0 :: r).length≤50:=hl
   rw[List.length_cons]at h
   omega
  have hall:A1r h (g0 :: r)=K7 h g0 r:=rfl
  rw[hall,e0]
  simp only[List.drop_succ_cons,List.drop_zero]
  refine AK (ι:={s:Nat×List AE//s.1≤r.length∧(VF h s.2∧s.2.length≤100*(s.1+1))∧K7 h g0 r=K7 h s.2 (r.drop s.1)}) (fun s=>⟨[(2,.bp 2 [] 0),(4,.bp 4 [] 0),(6,.bp 6 [] 0),(19,.p T37 r),(20,.p (.int .i64) (r.length:Int)),(21,.p (.int .i64) (s.1.1:Int))],[(2,.box 29 true [.p fB h.1,.p oL h.2]),(4,.box 25 true [.raw (.slice none 0 0)]),(6,.box 25 true [.p Ib s.1.2])]⟩) (fun s=>r.length-s.1.1) ⟨(0,g0),Nat.zero_le _,⟨hg0.1,by simp only;omega⟩,rfl⟩ (AC [(2,.nm 2),(4,.nm 4),(6,.nm 6)] rfl rfl ?_ ?_) (fun s=>?_)
  ·first|exact eN|refine eM ?_
  ·first|exact eN|refine eM ?_
  ·obtain⟨⟨k,g⟩,hk,⟨hg,hgl⟩,he⟩:=s
   simp only at hk hg hgl he ⊢
   have hrd:=fun h:k<r.length=>hr _ (AD r [] h)
   repeat'(first|exact trivial|refine eS rfl ?_|refine AB ?_|refine rX [0,1,2,4,5,6,8,9,10,13,19,20,21,22,33] hc ?_ ?_|refine rC ?_ ?_<;>intro AA<;>try(cases AA;done))
   ·exact AA
   ·have h1:=hrd (Int.ofNat_lt.1 (by assumption))
    exact⟨hu,hg,h1.1,by omega⟩
   ·have hk2:k<r.length:=Int.ofNat_lt.1 (by assumption)
    have h1:K7 h g0 r=([],false):=by
     rw[he,List.drop_eq_getElem_cons hk2]
     simp only[K7]
     have e:r.getD k []=r[k]:=by simp[List.getD_eq_getElem?_getD,hk2]
     rw[←e]
     have AA:(Bq h g (r.getD k [])).2=false:=AA
     rw[if_neg (by rw[AA];simp)]
    exact AH hc [.cell 4 25,.tmp 5] rfl (.inl rfl) (by simp) (by rw[h1];first|exact eR|refine Ax ?_)
   ·omega
   ·have hk2:k<r.length:=Int.ofNat_lt.1 (by assumption)
    have AA:(Bq h g (r.getD k [])).2=true:=AA
    have hU:=Za AA
    have h1:=hrd hk2
    have hul:=hU.len
    refine⟨⟨(k+1,(Bq h g (r.getD k [])).1),hk2,⟨hU.vf,by simp only;omega⟩,?_⟩,by simp only;omega,AC [(2,.nm 2),(4,.nm 4),(6,.nm 6)] rfl rfl ?_ ?_⟩
    ·rw[he,List.drop_eq_getElem_cons hk2]
     simp only[K7]
     have e:r.getD k []=r[k]:=by simp[List.getD_eq_getElem?_getD,hk2]
     rw[←e,if_pos AA]
    ·first|exact eN|refine eM ?_
    ·first|exact eN|refine eM ?_
   ·have hk2:r.drop k=[]:=List.drop_eq_nil_of_le (Int.ofNat_le.1 AA)
    rw[hk2]at he
    rw[he]
    exact AH hc [.cell 4 25,.tmp 5] rfl (.inl rfl) (by simp) (by first|exact eR|refine Ax ?_;exact⟨rfl,rfl⟩)
def FU (l:List Int) (n:Nat):List (Int×Int):=(List.range n).map fun i=>(l.getD (2*i) 0,l.getD (2*i+1) 0)
theorem Z0 (l:List Int) (n:Nat):FU l (n+1)=FU l n++[(l.getD (2*n) 0,l.getD (2*n+1) 0)]:=by simp[FU,List.range_succ]
theorem dM (l:List Int) (n:Nat):(FU l n).length=n:=by simp[FU]
def Rg:Ak:={ ins:=[T3,Ez],pre:=fun(_,l,_)=>List.length l≤1000,out:=fun(t,l,_)=>[.p JK (t,FU l (List.length l / 2))] }
theorem qL:Ao Tryz.prog 58 Rg:=by
 refine AX Tryz.func58 (by kernel_rfl) rfl Tryz.ntmps58 (by decide) (by kernel_rfl) (AJ []) AL ?_
 rintro w0 O0 ⟨t,l,u⟩ hc-hl
 simp only[Rg,AN]
 repeat'(first|exact trivial|refine eS rfl ?_|refine AB ?_|refine rX [0,1,4,5,6,13] hc ?_ ?_|refine rC ?_ ?_<;>intro AA<;>try(cases AA;done))
 have hl:l.length≤1000:=hl
 refine AK (ι:={k:Nat//k≤l.length / 2}) (fun k=>⟨[(1,.p Ez l),(4,.bp 4 [] 0),(5,.bp 5 [] 0),(6,.p (.int .i64) (2*(k.1:Int)))],[(4,.box 88 true [.p T3 (0:Int),.raw (.slice none 0 0)]),(5,.box 88 true [.p T3 t,.sr 29 ED 0 (FU l k.1).length]),(29,.arr 108 ED (FU l k.1))]⟩) (fun k=>l.length / 2-k.1) ⟨0,Nat.zero_le _⟩ (AC [(4,.nm 4),(5,.nm 5),(29,.nil)] rfl rfl ?_ ?_) (fun k=>?_)
 ·first|exact eN|refine eM ?_
  exact⟨rfl,rfl⟩
 ·first|exact eN|refine eM ?_
  rfl
 ·obtain⟨k,hk⟩:=k
  have hpl:=dM l k
  have hps:=Z0 l k
  simp only
  repeat'(first|exact trivial|refine eS rfl ?_|refine AB ?_|refine rX [0,1,4,5,6,13] hc ?_ ?_|refine rC ?_ ?_<;>intro AA<;>try(cases AA;done))
  ·omega
  ·rw[hpl]
   simp only[AP]
   exact eV
  ·omega
  ·refine⟨⟨k+1,by omega⟩,by simp only;omega,AC [(4,.nm 4),(5,.nm 5),(29,.nm 29)] rfl rfl ?_ ?_⟩
   ·simp only[hps]
    first|exact eN|refine eM ?_
    rw[show (2*(k:Int)).toNat=2*k by omega,show (2*(k:Int)+1).toNat=2*k+1 by omega]
   ·first|exact eN|refine eM ?_
    show (2*(k:Int)+2)=2*((k:Int)+1)
    omega
  ·have hke:k=l.length / 2:=by omega
   subst hke
   exact AH hc [.cell 4 88] rfl (.inl rfl) (by simp) (by first|exact eR|refine Ax ?_)
def B5:List AI:=[(ByteArray.mk #[116,111,112],[],[(ByteArray.mk #[70],ByteArray.mk #[116,111,112]),(ByteArray.mk #[71],ByteArray.mk #[116,111,112])]),(ByteArray.mk #[120],[ByteArray.mk #[116,111,112]],[]),(ByteArray.mk #[121],[ByteArray.mk #[116,111,112]],[])]
def Og:Ak:={ ins:=[],pre:=fun _=>True,out:=fun _=>[.p GS (AY B5).1] }
theorem dN:Ao Tryz.prog 56 Og:=by
 refine AX Tryz.func56 (by kernel_rfl) rfl Tryz.ntmps56 (by decide) (by kernel_rfl) (AJ [(52,Ii)] [6,8,10,12]) (AF S8 AL) ?_
 rintro w0 O0 u hc - -
 simp only[Og,AN]
 repeat'(first|exact trivial|refine eS rfl ?_|refine AB ?_|refine rX [0,1] hc ?_ ?_|refine rC ?_ ?_<;>intro AA<;>try(cases AA;done))
 exact AH hc [.cell 0 29] rfl (.inl rfl) (by simp) (by unfold B5;first|exact eR|refine Ax ?_)
end
/- Functions of grammarlablaw11: exampleHolds. -/
section
attribute [local go_sem] Og Rg nH K6 ZK dL A1s G0
abbrev sH:AM:=(AY B5).1
theorem A5C:sH.2.length≤64:=by decide +kernel
theorem Tz:HU sH:=⟨Ho B5,Ql B5,A5C⟩
theorem XV:Je sH:=Qm B5
def A5D:List AE:=[(0,[(0,1),(1,2)]),(1,[]),(0,[])]
def A5E:List AE:=[(0,[(0,1),(1,2)]),(1,[]),(2,[])]
def exB:List AE:=[(0,[(0,1),(1,1)]),(0,[])]
def A5F:List AE:=[(0,[(0,1)]),(0,[(0,2)]),(1,[])]
def A5G:List AE:=[(0,[(0,0)])]
def exT:List AE:=[(0,[])]
theorem w4:VF sH A5D:=Ps (by decide +kernel)
theorem w5:VF sH A5E:=Ps (by decide +kernel)
theorem w6:VF sH exB:=Ps (by decide +kernel)
theorem w7:VF sH A5F:=Ps (by decide +kernel)
theorem w8:VF sH A5G:=Ps (by decide +kernel)
theorem nK:VF sH exT:=Ps (by decide +kernel)
theorem A6c:Bq sH A5D exB=([(0,[(0,1),(1,1)]),(1,[])],true):=Pr Tz w4 w6 (by decide) (by decide +kernel)
theorem A6d:Bq sH A5E exB=([],false):=Pr Tz w5 w6 (by decide) (by decide +kernel)
theorem A6e:Bq sH A5F A5G=([(1,[(0,0)])],true):=Pr Tz w7 w8 (by decide) (by decide +kernel)
theorem XW {p:List Int} (h:p.all (fun x=>decide (0≤x)&&decide (x<(sH.2.length:Int)))=true):L0 sH p:=fun e he=>by
 have:=List.all_eq_true.1 h e he
 rw[Bool.and_eq_true,decide_eq_true_eq,decide_eq_true_eq]at this
 exact this
theorem A5H:L0 sH [0,0]:=XW (by decide +kernel)
theorem A1t:L0 sH [0]:=XW (by decide +kernel)
theorem A5I:L0 sH [1]:=XW (by decide +kernel)
theorem A5J:L0 sH []:=XW (by decide +kernel)
theorem A6f:HS sH exT [0,0] [0]=([(0,[(0,1)]),(0,[(0,1)])],true):=XU Tz XV nK A5H A1t (by decide) (by decide) (by decide) (by decide +kernel)
theorem A6g:HS sH exT [0] [1]=([(0,[(0,1),(1,1)]),(0,[])],true):=XU Tz XV nK A1t A5I (by decide) (by decide) (by decide) (by decide +kernel)
theorem A6h:HS sH exT [0] []=([(0,[(0,0)])],true):=XU Tz XV nK A1t A5J (by decide) (by decide) (by decide) (by decide +kernel)
def Z1:Ak:={ ins:=[],pre:=fun _=>True,out:=fun _=>[.p .bool true] }
theorem A1u:Ao Tryz.prog 17 Z1:=by
 refine AX Tryz.func17 (by kernel_rfl) rfl Tryz.ntmps17 (by decide) (by kernel_rfl) (AJ [(56,Og),(58,Rg),(57,nH),(18,K6),(59,ZK),(24,dL),(21,A1s),(20,G0)] [19,22,26,30,38,42,50,52,55,57,59,68,69,76,77,84,103,106,112,114,132,134,136,147,149]) (AF dN (AF qL (AF A1l (AF Zx (AF A0O (AF wX (AF A2x (AF SW AL)))))))) ?_
 rintro w0 O0 u hc - -
 simp only[Z1,AN]
 repeat'(first|exact trivial|refine eS rfl ?_|refine AB ?_|refine rP [0,1,2,3,4,6,7,8,9,10,11,12,13,14,15,16,17] hc ?_ ?_|fail)
 have hu:HU (AY B5).1:=Tz
 have ht:Je (AY B5).1:=XV
 have q1:Bq (AY B5).1 [(0,[(0,1),(1,2)]),(1,[]),(0,[])] [(0,[(0,1),(1,1)]),(0,[])]=([(0,[(0,1),(1,1)]),(1,[])],true):=A6c
 have q2:Bq (AY B5).1 [(0,[(0,1),(1,2)]),(1,[]),(2,[])] [(0,[(0,1),(1,1)]),(0,[])]=([],false):=A6d
 have q3:Bq (AY B5).1 [(0,[(0,1)]),(0,[(0,2)]),(1,[])] [(0,[(0,0)])]=([(1,[(0,0)])],true):=A6e
 have r1:HS (AY B5).1 [(0,[])] [0,0] [0]=([(0,[(0,1)]),(0,[(0,1)])],true):=A6f
 have r2:HS (AY B5).1 [(0,[])] [0] [1]=([(0,[(0,1),(1,1)]),(0,[])],true):=A6g
 have r3:HS (AY B5).1 [(0,[])] [0] []=([(0,[(0,0)])],true):=A6h
 have v1:VF (AY B5).1 [(0,[(0,1),(1,2)]),(1,[]),(0,[])]:=w4
 have v2:VF (AY B5).1 [(0,[(0,1),(1,2)]),(1,[]),(2,[])]:=w5
 have v3:VF (AY B5).1 [(0,[(0,1)]),(0,[(0,2)]),(1,[])]:=w7
 have v4:VF (AY B5).1 [(0,[(0,1),(1,1)]),(0,[])]:=w6
 have v5:VF (AY B5).1 [(0,[(0,0)])]:=w8
 have v6:VF (AY B5).1 [(0,[])]:=nK
 have f1:L0 (AY B5).1 [0,0]:=A5H
 have f2:L0 (AY B5).1 [0]:=A1t
 have f3:L0 (AY B5).1 [1]:=A5I
 have f4:L0 (AY B5).1 []:=A5J
 generalize (AY B5).1=h at *
 have pe0:FU [] (0 / 2)=[]:=rfl
 have pe1:FU [0,1,1,2] (4 / 2)=[(0,1),(1,2)]:=rfl
 have pe2:FU [0,1,1,1] (4 / 2)=[(0,1),(1,1)]:=rfl
 have pe3:FU [0,1] (2 / 2)=[(0,1)]:=rfl
 have pe4:FU [0,2] (2 / 2)=[(0,2)]:=rfl
 have pe5:FU [0,0] (2 / 2)=[(0,0)]:=rfl
 have he:(h.1,h.2)=h:=rfl
 have ra:A1r h []=([((0:Int),[])],true):=rfl
 simp only[he,pe0,pe1,pe2,pe3,pe4,pe5]
 refine GE drawsAny hc 14 [([0,1,2,3,4,5,6,7,8,9,10,12],13)] [11] (by kernel_rfl) (Uq ?_ ?_)
 ·exact⟨hu,v1,v4⟩
 ·refine fA hc [] ?_ ?_
  ·trivial
  ·refine qN [0,1,2,3,4,6,7,8,9,10,11,12,13,14,15,16,17] hc ?_ ?_ ?_
   ·trivial
   ·trivial
   ·simp only[he,pe0,pe1,pe2,pe3,pe4,pe5,q1,q2,q3]
    repeat'(first|exact trivial|refine eS rfl ?_|refine AB ?_|refine rP [0,1,2,3,4,6,7,8,9,10,11,12,13,14,15,16,17] hc ?_ ?_|fail)
    refine GE drawsAny hc 14 [([0,1,2,3,4,5,6,7,8,9,10,12],13)] [11] (by kernel_rfl) (Uq ?_ ?_)
    ·exact⟨hu,v2,v4⟩
    ·refine fA hc [] ?_ ?_
     ·trivial
     ·refine qN [0,1,2,3,4,6,7,8,9,10,11,12,13,14,15,16,17] hc ?_ ?_ ?_
      ·trivial
      ·trivial
      ·simp only[he,pe0,pe1,pe2,pe3,pe4,pe5,q1,q2,q3]
       repeat'(first|exact trivial|refine eS rfl ?_|refine AB ?_|refine rP [0,1,2,3,4,6,7,8,9,10,11,12,13,14,15,16,17] hc ?_ ?_|fail)
       refine GE drawsAny hc 18 [([0,1,2,3,4,5,6,7,8,9,10,11,12,13,14,16],17)] [15] (by kernel_rfl) (Uq ?_ ?_)
       ·exact⟨hu,v3,v5⟩
       ·refine fA hc [] ?_ ?_
        ·trivial
        ·refine qN [0,1,2,3,4,6,7,8,9,10,11,12,13,14,15,16,17] hc ?_ ?_ ?_
         ·trivial
         ·trivial
         ·simp only[he,pe0,pe1,pe2,pe3,pe4,pe5,q1,q2,q3]
          repeat'(first|exact trivial|refine eS rfl ?_|refine AB ?_|refine rP [0,1,2,3,4,6,7,8,9,10,11,12,13,14,15,16,17] hc ?_ ?_|fail)
          ·exact⟨hu,ht,v6,f1,f2⟩
          ·exact⟨hu,ht,v6,f2,f3⟩
          ·exact⟨hu,ht,v6,f2,f4⟩
          ·exact⟨hu,fun x hx=>by cases hx⟩
          ·simp only[he,r1,r2,r3,ra]
           repeat'(first|exact trivial|refine eS rfl ?_|refine AB ?_|refine rX [0,1,2,3,4,6,7,8,9,10,11,12,13,14,15,16,17] hc ?_ ?_|refine rC ?_ ?_<;>intro AA<;>try(cases AA;done))
           ·repeat'(first|(refine(?_:FJ _);unfold FJ;decide +kernel)|decide +kernel|intro _|apply And.intro)
           ·refine Ev.ent (σ':=⟨[(0,.p .bool true)],[]⟩) ?_ (AC [] rfl rfl ?_ ?_)
            ·exact AH hc [.tmp 0] rfl (.inl rfl) (by simp) (by first|exact eR|refine Ax ?_)
            ·first|exact eN|refine eM ?_
            ·first|exact eN|refine eM ?_
             decide +kernel
end
/- The law UnifyMakes. -/
section
attribute [local go_sem] Oe Zu Z1 K6 Po G0
theorem dP (d:List AI):Q5 (Cm d):=by
 have key:∀d:List AI,Q5 (AY d).1:=fun d t ht=>(dJ d).nrm _ (List.mem_map.2 ⟨t,ht,rfl⟩)
 unfold Cm
 split
 ·exact key d
 ·exact key HK
end
/- The law UnifyEquates. -/
section
attribute [local go_sem] Oe Zu Od Z1 dL nG G0
theorem qM {h:AM} {f:List AE} {p q:List Int}:FJ (HS h f p q).1:=by
 cases ho:(HS h f p q).2 with
 | true=>exact(qD ho).vf.small
 | false =>
  unfold HS at ho ⊢
  split at ho
  ·cases ho
  ·rename_i H
   rw[dif_neg H]
   exact⟨by simp,by simp⟩
def XX:Ak:={ ins:=[EI,Ei,T41],pre:=fun _=>True,out:=fun _=>[.p .bool true] }
attribute [local go_sem] XX
theorem A1v:Ao Tryz.prog 5 XX:=by
 refine AX Tryz.func5 (by kernel_rfl) rfl Tryz.ntmps5 (by decide) (by kernel_rfl) (AJ [(15,Oe),(16,Zu),(23,Od),(17,Z1),(24,dL),(25,nG),(20,G0)] [16,25]) (AF qK (AF A1k (AF dG (AF A1u (AF wX (AF A1j (AF SW AL))))))) ?_
 rintro w0 O0 ⟨d,f,⟨p,q⟩,u⟩ hc - -
 simp only[XX,AN]
 have hh:=Zw d
 have hn:=dP d
 have hv:=fun g=>A1m (d:=d) (l:=[f]) g f (by simp)
 have hpc:=fun(g:GB (Cm d) [p,q]=true)=>let r:=qJ g;(⟨r p (by simp),r q (by simp)⟩:(L0 (Cm d) p∧p.length≤8)∧(L0 (Cm d) q∧q.length≤8))
 repeat'(first|exact trivial|refine eS rfl ?_|refine AB ?_|refine rX [0,1,2,4,5,6,7,8,9,10,11,28] hc ?_ ?_|refine rC ?_ ?_<;>intro AA<;>try(cases AA;done))
 all_goals try simp only[he2 (Cm d)]at *
 ·exact AH hc [.tmp 6] rfl (.inl rfl) (by simp) (by first|exact eR|refine Ax ?_)
 ·obtain⟨vf,lf⟩:=hv AA.1
  obtain⟨⟨fp,lp⟩,fq,lq⟩:=hpc AA.2
  exact⟨hh.hu,hh.top,vf,fp,fq,by omega,by omega,by omega⟩
 ·obtain⟨vf,lf⟩:=hv AA.1
  obtain⟨⟨fp,lp⟩,fq,lq⟩:=hpc AA.2
  exact⟨⟨hh.hu,hn,hh.top⟩,vf,fp,fq,by omega,by omega,by omega⟩
 ·exact fun _=>qM
 ·rw[ML]
  exact AH hc [.tmp 6] rfl (.inl rfl) (by simp) (by first|exact eR|refine Ax ?_)
end
end Go.Proofs.YtebfihindnhccaaGreat.Fw
