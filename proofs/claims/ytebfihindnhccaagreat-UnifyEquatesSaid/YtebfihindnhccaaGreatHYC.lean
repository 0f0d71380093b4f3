/- Contracts of the program's and the reference's functions, and the plain laws of what they compute: U4 U5 U6 U7 U8 V9 U9 U10 N7 U11 U12 N8 V10 SN V11 U14 C37 W6 W7 U17 V17 V18 H2. -/
/- Functions of unify.classes: join's merge. -/
import Derived.Test.YtebfihindnhccaaGreatHYB
import Derived.Test.YtebfihindnhccaaGreatHZI
import Derived.Test.YtebfihindnhccaaGreatHYA
set_option linter.unusedVariables false
set_option linter.unusedSimpArgs false
namespace Go.Proofs.YtebfihindnhccaaGreat.Fw
open Go
attribute [local irreducible] Ev
attribute [local go_sem] Xz AN List.toList_toArray Bd evG evK T7 D8 I2 F1 FG FC NF Jj Bv Cq LA B4 CO frz Z3 Fx Cp A3 E6 Bb AV.frz AV.frzs AV.drp AV.drps AV.names AV.namess aq Fz Ji Iu Qs Hq BN BP IK EL HY EM Ha HZ Hb Ri M9 GD Iv E8 Dl Rj Oi qS IL Hc J2 Eh Ds Qt CA Dt ET Oj Ol J3 Ht Iw Cd CU Er DL Gm DJ EU DK Du FA B4 CM Qr Oh MO Ft Hs Hr J1 L3 NC J5 J8 J6 Iz Px J7 I0 Vy NE ND AV.trn AV.trns Dg B9 Obj.trn Ia YK Cf Cy Ce Dv CN EV Ap lk GW Fy Gj w9 Z2 UA Z5 Pw nL nM xC AV.cells Bo II M8 Iy NB B2 L1 Ty.cell1 HX EK DI FX MN Eg It J0 Pt Fv GC Lv Qq Rh Jy Ir Vu Xc Pu L2 CY IJ RV.flat Ty.flat Ty.size St.add upd T6 BT Value.oneCell' Jv Ty.dflt HW Nc Gt Np List.take_succ_cons List.take_zero List.length_cons X8 X9 Nn IX KN Gg IY rW FH LM LN LO LP Oy Oz LQ Hh Rz Option.map_some Option.map_none Option.bind_some Option.getD_some Option.getD_none Option.isNone_none Option.isNone_some Bool.and_true Bool.true_and Bool.and_false Bool.false_and Bool.not_true Bool.not_false if_true if_false List.length_cons List.length_nil and_true true_and and_self List.all_cons List.all_nil List.append_nil List.nil_append List.cons_append List.getElem?_cons_zero List.getElem?_cons_succ List.getElem?_nil List.map_cons List.map_nil List.set_cons_zero List.set_cons_succ List.isEmpty_nil List.isEmpty_cons decide_true decide_false beq_self_eq_true bne_self_eq_false Nat.zero_add Nat.add_zero Nat.sub_zero Int.toNat_natCast Int.toNat_zero Int.toNat_one List.take_length List.length_append List.length_singleton true_or or_true or_self false_or or_false Ty.agg.injEq Ty.slice.injEq Ty.prod.injEq Ty.int.injEq Option.some.injEq beq_iff_eq KL evMG evMQ r7 Gv KJ Bh IW F2 Nh IU Gu Hi JA Jn MX L8 MY Qw KK Nj Nk IV AZ Af Op.operands Call.operands List.filterMap_cons List.filterMap_nil List.append_eq Bool.cond_false_right Bool.cond_true_left cond_true cond_false implies_true decide_eq_true_eq beq_true beq_false Bool.or_true Bool.or_false Bool.true_or Bool.false_or Option.isSome_some E7 LB EW Gk Vx NA E9 Fd Fc Hd Gl Ix J4 UB Z4 UN inB I1 FB Fu IM Ca YB List.drop_zero DP Gx WT EO JG Co AV.fgt AV.fgts Obj.fgt BD Av AZ Cj JF BW F3 List.any_cons List.any_nil aX YE WU YF KO O3 qs List.flatMap_cons List.flatMap_nil List.cons_append tn WW GR List.take_succ_cons List.drop_succ_cons yJ SM RI e7 LV Cu DZ Au FF I9 CB EZ Dm Hy Hg Fg Gr
attribute [local go_sem] ty1 ty2 ty3 ty4 ty5 ty9 yM yN yO yP yQ yR yS yT yU yV yW yX yY yZ y3 y4 y5 y6 y7 y8 y9 zA zB zC zD zE zF zG zH zI zJ zK zL zM zN zO zP zQ zR zS zT zU zV zW zX zY zZ z4 z5 z6 z7 z8 z9 A00 A01 A02 A03 A04 A05 A06 A07 A08 A09 A0a A0b A0c A0d A0e A0f A0g A0h A0i A0j A0k A0l A0m A0n A0o fC fD fE fF fG fH fI fJ fK fL fM fO fP fQ fR fS fT fU fV fW fX fY fZ f6 f7 f8 f9 gB gC gD gE gF gG gH gI gJ gK gL gM gP gQ gR gS gT gU gV gW gX gY gZ g9 hC hD hH hY hZ iA iB iC iD iE iG iH iI iJ iK iL iM iO iP iQ iR iT iU iV iW iX iY iZ i3 i4 i5 i6 i7 i8 i9 jA jB jC jD jE jF jG jH jI jJ jK jL jM jN jO jP jQ jR jS jT jU jV jW jX jY jZ j4 j5 j6 j7 j8 j9 kA kB kC kD kE kF kG kH kI kJ kK kL kM kN kO kP kQ kR kS kT kU kV kW kX kY kZ k4 k5 k6 k7 k8 k9 lA lB lC lD lF lG lH lI lJ lK lL lM lO lQ lR lS lU lV lW
set_option maxRecDepth 100000
set_option maxHeartbeats 4000000
section
attribute [local go_sem] mP
def Ba:List (Int×Int)→List (Int×Int)→List (Int×Int)×List (Int×Int)
 | [],y=>(y,[])
 | a :: x,[]=>(a :: x,[])
 | a :: x,b :: y =>
  if a.1<b.1 then (a :: (Ba x (b :: y)).1,(Ba x (b :: y)).2)
  else if b.1<a.1 then (b :: (Ba (a :: x) y).1,(Ba (a :: x) y).2)
  else (a :: (Ba x y).1,(a.2,b.2) :: (Ba x y).2)
termination_by x y=>x.length+y.length
structure c7 (xs ys:List (Int×Int)) (W0:List (Int×Int)) (s:(List (Int×Int)×List (Int×Int))×(List (Int×Int)×List (Int×Int)×Nat)):Prop where
 hi:s.2.2.2≤s.2.2.1.length
 both:s.2.1++(Ba s.1.1 s.1.2).1=(Ba xs ys).1
 wait:s.2.2.1.take s.2.2.2++(Ba s.1.1 s.1.2).2=W0++(Ba xs ys).2
 len:s.2.1.length+s.1.1.length+s.1.2.length≤xs.length+ys.length
 num:s.2.2.2+s.1.1.length≤W0.length+xs.length
theorem A5v {x y:List (Int×Int)} (h0:0<x.length) (h:y.length=0∨(x.getD 0 (0,0)).1<(y.getD 0 (0,0)).1):Ba x y=(x.getD 0 (0,0) :: (Ba (x.drop 1) y).1,(Ba (x.drop 1) y).2):=by
 cases x with
 | nil=>simp at h0
 | cons a x =>
  cases y with
  | nil =>
   simp only[List.drop_succ_cons,List.drop_zero]
   cases x<;>simp[Ba]
  | cons b y =>
   have h:a.1<b.1:=by simpa using h
   simp only[List.drop_succ_cons,List.drop_zero]
   rw[Ba,if_pos h]
   rfl
theorem A5w {x y:List (Int×Int)} (h0:0<y.length) (h:x.length=0∨(y.getD 0 (0,0)).1<(x.getD 0 (0,0)).1):Ba x y=(y.getD 0 (0,0) :: (Ba x (y.drop 1)).1,(Ba x (y.drop 1)).2):=by
 cases y with
 | nil=>simp at h0
 | cons b y =>
  cases x with
  | nil=>simp[Ba]
  | cons a x =>
   have h:b.1<a.1:=by simpa using h
   simp only[List.drop_succ_cons,List.drop_zero]
   rw[Ba,if_neg (by omega),if_pos h]
   rfl
theorem A2i {x y:List (Int×Int)} (h0:0<x.length) (h1:0<y.length) (h:(x.getD 0 (0,0)).1=(y.getD 0 (0,0)).1):Ba x y=(x.getD 0 (0,0) :: (Ba (x.drop 1) (y.drop 1)).1,((x.getD 0 (0,0)).2,(y.getD 0 (0,0)).2) :: (Ba (x.drop 1) (y.drop 1)).2):=by
 cases x with
 | nil=>simp at h0
 | cons a x =>
  cases y with
  | nil=>simp at h1
  | cons b y =>
   have h:a.1=b.1:=by simpa using h
   simp only[List.drop_succ_cons,List.drop_zero]
   rw[Ba,if_neg (by omega),if_neg (by omega)]
   rfl
section
variable {xs ys W0 x y bo V:List (Int×Int)} {k:Nat}
theorem A2j (h:c7 xs ys W0 ((x,y),bo,V,k)) (h0:0<x.length) (hc:y.length=0∨(x.getD 0 (0,0)).1<(y.getD 0 (0,0)).1):c7 xs ys W0 ((x.drop 1,y),bo++[x.getD 0 (0,0)],V,k):=by
 have e:=A5v h0 hc
 obtain⟨h1,h2,h3,h4,h5⟩:=h
 simp only at h1 h2 h3 h4 h5
 rw[e]at h2 h3
 exact⟨h1,by rw[List.append_assoc];exact h2,h3,by simp only[List.length_append,List.length_singleton,List.length_drop];omega,by simp only[List.length_drop];omega⟩
theorem A2k (h:c7 xs ys W0 ((x,y),bo,V,k)) (h0:0<y.length) (hc:x.length=0∨(y.getD 0 (0,0)).1<(x.getD 0 (0,0)).1):c7 xs ys W0 ((x,y.drop 1),bo++[y.getD 0 (0,0)],V,k):=by
 have e:=A5w h0 hc
 obtain⟨h1,h2,h3,h4,h5⟩:=h
 simp only at h1 h2 h3 h4 h5
 rw[e]at h2 h3
 exact⟨h1,by rw[List.append_assoc];exact h2,h3,by simp only[List.length_append,List.length_singleton,List.length_drop];omega,h5⟩
theorem A0T (h:c7 xs ys W0 ((x,y),bo,V,k)) (h0:0<x.length) (h1:0<y.length) (hc:(x.getD 0 (0,0)).1=(y.getD 0 (0,0)).1):c7 xs ys W0 ((x.drop 1,y.drop 1),bo++[x.getD 0 (0,0)],V.take k++[((x.getD 0 (0,0)).2,(y.getD 0 (0,0)).2)],k+1):=by
 have e:=A2i h0 h1 hc
 obtain⟨g1,h2,h3,h4,h5⟩:=h
 simp only at g1 h2 h3 h4 h5
 rw[e]at h2 h3
 have hl:(V.take k++[((x.getD 0 (0,0)).2,(y.getD 0 (0,0)).2)]).length=k+1:=by simp only[List.length_append,List.length_singleton,List.length_take];omega
 exact⟨by simp only[hl];omega,by rw[List.append_assoc];exact h2,by simp only;rw[List.take_of_length_le (by omega),List.append_assoc];exact h3,by simp only[List.length_append,List.length_singleton,List.length_drop];omega,by simp only[List.length_drop];omega⟩
end
def vM (h:AM) (p ty:List Int) (ar:List (List (Int×Int))) (W:List (Int×Int)) (hi:Nat):List (Nat×Obj) :=
 [(1,.box 94 true [.p GS h,.sr 2 T3 0 p.length,.sr 3 T3 0 ty.length,.sr 4 Cb 0 ar.length]),(2,.arr 3 T3 p),(3,.arr 3 T3 ty),(4,.arr 86 Cb ar),(5,.box 91 false [.bp 1 [] 0]),(6,.box 159 false [.sr 7 H7 0 hi]),(7,.arr 158 H7 W)]
theorem vN (h:AM) (hh:h.1.length≤100000) (hhc:∀x∈h.1,x.2.1.length≤100000) (p ty:List Int) (ar:List (List (Int×Int))) (W:List (Int×Int)) (hi:Nat) (hhi:hi≤W.length) (hhb:hi≤100000000000) {a b:Int} (a0:0≤a) (a1:a<(p.length:Int)) (b0:0≤b) (b1:b<(p.length:Int)) (htl:ty.length=p.length) (hal:ar.length=p.length)
  (ta:0≤ty.getD a.toNat 0∧ty.getD a.toNat 0<(h.1.length:Int)) (tb:0≤ty.getD b.toNat 0∧ty.getD b.toNat 0<(h.1.length:Int)) (hla:(ar.getD a.toNat []).length≤10000000) (hlb:(ar.getD b.toNat []).length≤10000000) :
  FI Tryz.prog 101 [.p T3 a,.p T3 b,.bp 5 [] 0,.bp 6 [] 0] (vM h p ty ar W hi) [1,5,6]
  (fun res objs'=>((Bt h (ty.getD a.toNat 0) (ty.getD b.toNat 0)).2=false∧res=.p .bool false∧objs'=vM h p ty ar W hi) ∨
   ((Bt h (ty.getD a.toNat 0) (ty.getD b.toNat 0)).2=true∧res=.p .bool true∧∃W' hi',hi'≤W'.length∧W'.take hi'=W.take hi++(Ba (ar.getD a.toNat []) (ar.getD b.toNat [])).2 ∧
    objs'=vM h (p.set b.toNat a) (ty.set a.toNat (Bt h (ty.getD a.toNat 0) (ty.getD b.toNat 0)).1) (ar.set a.toNat (Ba (ar.getD a.toNat []) (ar.getD b.toNat [])).1) W' hi')):=by
 refine Gw Tryz.func101 (by kernel_rfl) rfl Tryz.ntmps101 (by simp only[List.length_cons,List.length_nil];omega) (by kernel_rfl) rfl rfl (AJ [(76,mP)]) (AF A0K AL) ?_
 intro w0 K O0 ρ0 hc hok1 hok2
 have a1t:a<(ty.length:Int):=by omega
 have b1t:b<(ty.length:Int):=by omega
 have a1r:a<(ar.length:Int):=by omega
 have b1r:b<(ar.length:Int):=by omega
 simp only[vM,Ca]
 repeat'(first|exact trivial|refine eS rfl ?_|refine AB ?_|refine rX [0,1,2,3,6,7,8,9,10,11,35,71,94,122] hc ?_ ?_|refine rC ?_ ?_<;>intro AA<;>try(cases AA;done))
 ·refine⟨⟨a0,a1t⟩,⟨b0,b1t⟩,ta,tb,hh,hhc⟩
 ·refine Ev.ent (σ':=⟨[(6,.p .bool false)],vM h p ty ar W hi⟩) ?_ (AC [(1,.nm 1),(2,.nm 2),(3,.nm 3),(4,.nm 4),(5,.nm 5),(6,.nm 6),(7,.nm 7)] rfl rfl ?_ ?_)
  ·exact DN hc [.tmp 6] rfl (.inl rfl) (.p .bool false) eT (.inl ⟨AA,rfl,rfl⟩)
  ·unfold vM
   first|exact eN|refine eM ?_
  ·first|exact eN|refine eM ?_
 ·exact⟨b0,b1⟩
 ·exact⟨a0,a1t⟩
 ·exact⟨⟨a0,a1r⟩,b0,b1r⟩
 ·generalize ht:(Bt h (ty.getD a.toNat 0) (ty.getD b.toNat 0)).1=t at *
  generalize hxs:ar.getD a.toNat []=xs at *
  generalize hys:ar.getD b.toNat []=ys at *
  refine AK (ι:={s:(List (Int×Int)×List (Int×Int))×(List (Int×Int)×List (Int×Int)×Nat)//c7 xs ys (W.take hi) s}) (fun s=>⟨[(0,.p T3 a),(1,.p T3 b),(2,.bp 5 [] 0),(3,.bp 6 [] 0),(9,.p Cb s.1.1.1),(10,.p Cb s.1.1.2),(11,.sr 11 ED 0 s.1.2.1.length)],[(1,.box 94 true [.p GS h,.sr 2 T3 0 p.length,.sr 3 T3 0 ty.length,.sr 4 Cb 0 ar.length]),(2,.arr 3 T3 (p.set b.toNat a)),(3,.arr 3 T3 (ty.set a.toNat t)),(4,.arr 86 Cb ar),(5,.box 91 false [.bp 1 [] 0]),(6,.box 159 false [.sr 7 H7 0 s.1.2.2.2]),(7,.arr 158 H7 s.1.2.2.1),(11,.arr 108 ED s.1.2.1)]⟩) (fun s=>s.1.1.1.length+s.1.1.2.length) ⟨((xs,ys),([],W,hi)),hhi,rfl,rfl,by simp,by simp only[List.length_take];omega⟩ (AC [(1,.nm 1),(2,.nm 2),(3,.nm 3),(4,.nm 4),(5,.nm 5),(6,.nm 6),(7,.nm 7),(11,.nil)] rfl rfl ?_ ?_) (fun s=>?_)
  ·first|exact eN|refine eM ?_
  ·first|exact eN|refine eM ?_
  ·obtain⟨⟨⟨x,y⟩,bo,V,k⟩,hm⟩:=s
   have hk1:=hm.len
   have hk2:=hm.num
   have hk3:=hm.hi
   simp only[List.length_take]at hk1 hk2 hk3 ⊢
   repeat'(first|exact trivial|refine eS rfl ?_|refine AB ?_|refine rX [0,1,2,3,6,7,8,9,10,11,35,71,94,122] hc ?_ ?_|refine rC ?_ ?_<;>intro AA<;>try(cases AA;done))
   ·refine⟨fun h=>?_,fun h=>?_⟩
    ·rw[Bool.and_eq_true,decide_eq_true_eq]at h
     exact h.2
    ·rw[Bool.and_eq_true,Bool.not_eq_true',beq_eq_false_iff_ne]at h
     have h9:=h.1
     have h8:y.length≠0:=fun e=>h9 (by rw[e];rfl)
     exact Int.ofNat_lt.2 (Nat.pos_of_ne_zero h8)
   ·have hx0:0<x.length:=by
     rcases AA with AA|AA
     ·omega
     ·exact Int.ofNat_lt.1 AA.1
    have hcx:y.length=0∨(x.getD 0 (0,0)).1<(y.getD 0 (0,0)).1:=by
     rcases AA with AA|AA
     ·exact .inl (Int.ofNat.inj AA)
     ·exact .inr AA.2
    refine GE drawsAny hc 9 [([0,1,2,3,4],5),([],8)] [6,7] (by kernel_rfl) (Uq ?_ ?_)
    ·exact⟨Int.ofNat_lt.2 hx0,Int.ofNat_le.2 hx0⟩
    ·refine fA hc [11] ?_ ?_
     ·simp only[AP];omega
     ·refine Uq ?_ ?_
      ·exact Int.ofNat_le.2 hx0
      ·refine fA hc [] ?_ ?_
       ·trivial
       ·refine qN [0,1,2,3,6,7,8,9,10,11,35,71,94,122] hc ?_ ?_ ?_
        ·exact Int.ofNat_le.2 hx0
        ·trivial
        ·repeat'(first|exact trivial|refine eS rfl ?_|refine AB ?_|refine rX [0,1,2,3,6,7,8,9,10,11,35,71,94,122] hc ?_ ?_|refine rC ?_ ?_<;>intro AA<;>try(cases AA;done))
         refine⟨⟨((x.drop 1,y),bo++[x.getD 0 (0,0)],V,k),A2j hm hx0 hcx⟩,by simp only[List.length_drop];omega,AC [(1,.nm 1),(2,.nm 2),(3,.nm 3),(4,.nm 4),(5,.nm 5),(6,.nm 6),(7,.nm 7),(11,.nm 11)] rfl rfl ?_ ?_⟩
         ·first|exact eN|refine eM ?_
         ·first|exact eN|refine eM ?_
   ·have h8:y.length≠0:=fun e=>AA.1 (by rw[e];rfl)
    have h7:0<y.length:=Nat.pos_of_ne_zero h8
    refine⟨fun h=>Int.ofNat_lt.2 h7,fun h=>?_⟩
    ·rw[Bool.not_eq_true',beq_eq_false_iff_ne]at h
     have h8:x.length≠0:=fun e=>h (by rw[e];rfl)
     exact Int.ofNat_lt.2 (Nat.pos_of_ne_zero h8)
   ·have hy0:0<y.length:=Nat.pos_of_ne_zero fun e=>(by assumption:¬_∧_).1 (by rw[e];rfl)
    have hcy:x.length=0∨(y.getD 0 (0,0)).1<(x.getD 0 (0,0)).1:=by
     rcases AA with AA|AA
     ·exact .inl (Int.ofNat.inj AA)
     ·exact .inr AA
    refine GE drawsAny hc 9 [([0,1,2,3,4],5),([],8)] [6,7] (by kernel_rfl) (Uq ?_ ?_)
    ·exact⟨Int.ofNat_lt.2 hy0,Int.ofNat_le.2 hy0⟩
    ·refine fA hc [11] ?_ ?_
     ·simp only[AP];omega
     ·refine Uq ?_ ?_
      ·exact Int.ofNat_le.2 hy0
      ·refine fA hc [] ?_ ?_
       ·trivial
       ·refine qN [0,1,2,3,6,7,8,9,10,11,35,71,94,122] hc ?_ ?_ ?_
        ·exact Int.ofNat_le.2 hy0
        ·trivial
        ·repeat'(first|exact trivial|refine eS rfl ?_|refine AB ?_|refine rX [0,1,2,3,6,7,8,9,10,11,35,71,94,122] hc ?_ ?_|refine rC ?_ ?_<;>intro AA<;>try(cases AA;done))
         refine⟨⟨((x,y.drop 1),bo++[y.getD 0 (0,0)],V,k),A2k hm hy0 hcy⟩,by simp only[List.length_drop];omega,AC [(1,.nm 1),(2,.nm 2),(3,.nm 3),(4,.nm 4),(5,.nm 5),(6,.nm 6),(7,.nm 7),(11,.nm 11)] rfl rfl ?_ ?_⟩
         ·first|exact eN|refine eM ?_
         ·first|exact eN|refine eM ?_
   ·rename_i hcy
    have hx0:0<x.length:=Nat.pos_of_ne_zero fun e=>AA.1 (by rw[e];rfl)
    have hy0:0<y.length:=Nat.pos_of_ne_zero fun e=>hcy.1 (by rw[e];rfl)
    refine⟨Int.ofNat_lt.2 hx0,Int.ofNat_lt.2 hy0,?_⟩
    simp only[AP]
    omega
   ·rename_i hcy
    have hx0:0<x.length:=Nat.pos_of_ne_zero fun e=>AA.1 (by rw[e];rfl)
    have hy0:0<y.length:=Nat.pos_of_ne_zero fun e=>hcy.1 (by rw[e];rfl)
    have he:(x.getD 0 (0,0)).1=(y.getD 0 (0,0)).1:=Int.le_antisymm AA.2 (hcy.2 (Int.ofNat_lt.2 hx0))
    refine GE drawsAny hc 12 [([0,1,2,3,4],5),([],10),([6,7],11)] [8,9] (by kernel_rfl) (Uq ?_ ?_)
    ·exact⟨Int.ofNat_lt.2 hx0,Int.ofNat_le.2 hx0,Int.ofNat_le.2 hy0⟩
    ·refine fA hc [11] ?_ ?_
     ·simp only[AP];omega
     ·refine Uq ?_ ?_
      ·exact⟨Int.ofNat_le.2 hx0,Int.ofNat_le.2 hy0⟩
      ·refine fA hc [] ?_ ?_
       ·trivial
       ·refine Uq ?_ ?_
        ·exact⟨Int.ofNat_le.2 hx0,Int.ofNat_le.2 hy0⟩
        ·refine fA hc [] ?_ ?_
         ·trivial
         ·refine qN [0,1,2,3,6,7,8,9,10,11,35,71,94,122] hc ?_ ?_ ?_
          ·exact Int.ofNat_le.2 hy0
          ·trivial
          ·repeat'(first|exact trivial|refine eS rfl ?_|refine AB ?_|refine rX [0,1,2,3,6,7,8,9,10,11,35,71,94,122] hc ?_ ?_|refine rC ?_ ?_<;>intro AA<;>try(cases AA;done))
           refine⟨⟨((x.drop 1,y.drop 1),bo++[x.getD 0 (0,0)],V.take k++[((x.getD 0 (0,0)).2,(y.getD 0 (0,0)).2)],k+1),A0T hm hx0 hy0 he⟩,by simp only[List.length_drop];omega,AC [(1,.nm 1),(2,.nm 2),(3,.nm 3),(4,.nm 4),(5,.nm 5),(6,.nm 6),(7,.nm 7),(11,.nm 11)] rfl rfl ?_ ?_⟩
           ·first|exact eN|refine eM ?_
           ·first|exact eN|refine eM ?_
   ·exact⟨a0,a1r⟩
   ·have hx0:x=[]:=List.eq_nil_of_length_eq_zero (by omega)
    have hy0:y=[]:=List.eq_nil_of_length_eq_zero (by omega)
    subst hx0 hy0
    have hb:=hm.both
    have hw:=hm.wait
    simp only[Ba,List.append_nil]at hb hw
    refine Ev.ent (σ':=⟨[(6,.p .bool true)],vM h (p.set b.toNat a) (ty.set a.toNat t) (ar.set a.toNat bo) V k⟩) ?_ (AC [(1,.nm 1),(2,.nm 2),(3,.nm 3),(4,.nm 4),(5,.nm 5),(6,.nm 6),(7,.nm 7)] rfl rfl ?_ ?_)
    ·exact DN hc [.tmp 6] rfl (.inl rfl) (.p .bool true) eT (.inr ⟨by assumption,rfl,V,k,hk3,hw,by rw[hb];rfl⟩)
    ·unfold vM
     simp only[List.length_set]
     first|exact eN|refine eM ?_
    ·first|exact eN|refine eM ?_
end
/- Plain: what join keeps: the classes are the least that make the pairs equal, and what they have is asked by all. -/
section
theorem JZ {h:AM} (hk:T8 h) {a b c:Int} (a0:0≤a) (a1:a<(h.1.length:Int)) (b0:0≤b) (b1:b<(h.1.length:Int)) (c0:0≤c) (c1:c<(h.1.length:Int)) (h1:DB h a b=true) (h2:DB h b c=true):DB h a c=true :=
 (B8 hk a0 a1 c0 c1).2 fun i hi=>(B8 hk a0 a1 b0 b1).1 h1 i ((B8 hk b0 b1 c0 c1).1 h2 i hi)
/-! Merged arcs -/
theorem OX:∀ {x y:List (Int×Int)} {a:Int×Int},a∈x→a∈(Ba x y).1
 | [],_,_,h=>by cases h
 | b :: x,[],a,h=>by simpa[Ba] using h
 | b :: x,c :: y,a,h=>by
  rw[Ba]
  split
  ·rcases List.mem_cons.1 h with rfl|h
   ·simp
   ·exact List.mem_cons_of_mem _ (OX h)
  ·split
   ·exact List.mem_cons_of_mem _ (OX h)
   ·rcases List.mem_cons.1 h with rfl|h
    ·simp
    ·exact List.mem_cons_of_mem _ (OX h)
termination_by x y=>x.length+y.length
theorem Ll:∀ {x y:List (Int×Int)} {a:Int×Int},a∈y→a∈(Ba x y).1∨∃t,(a.1,t)∈(Ba x y).1∧(t,a.2)∈(Ba x y).2
 | [],y,a,h=>by
  left
  simpa[Ba] using h
 | b :: x,[],a,h=>by cases h
 | b :: x,c :: y,a,h=>by
  rw[Ba]
  split
  ·rcases Ll (x:=x) h with g|⟨t,g1,g2⟩
   ·exact .inl (List.mem_cons_of_mem _ g)
   ·exact .inr ⟨t,List.mem_cons_of_mem _ g1,g2⟩
  ·split
   ·rcases List.mem_cons.1 h with rfl|h
    ·left;simp
    ·rcases Ll (x:=b :: x) h with g|⟨t,g1,g2⟩
     ·exact .inl (List.mem_cons_of_mem _ g)
     ·exact .inr ⟨t,List.mem_cons_of_mem _ g1,g2⟩
   ·rcases List.mem_cons.1 h with rfl|h
    ·right
     exact⟨b.2,by rw[show a.1=b.1 by omega];simp,by simp⟩
    ·rcases Ll (x:=x) h with g|⟨t,g1,g2⟩
     ·exact .inl (List.mem_cons_of_mem _ g)
     ·exact .inr ⟨t,List.mem_cons_of_mem _ g1,List.mem_cons_of_mem _ g2⟩
termination_by x y=>x.length+y.length
theorem Hp:∀ {x y:List (Int×Int)} {a:Int×Int},a∈(Ba x y).1→a∈x∨a∈y
 | [],y,a,h=>by
  right
  simpa[Ba] using h
 | b :: x,[],a,h=>by
  left
  simpa[Ba] using h
 | b :: x,c :: y,a,h=>by
  rw[Ba]at h
  split at h
  ·rcases List.mem_cons.1 h with rfl|h
   ·left;simp
   ·rcases Hp h with g|g
    ·exact .inl (List.mem_cons_of_mem _ g)
    ·exact .inr g
  ·split at h
   ·rcases List.mem_cons.1 h with rfl|h
    ·right;simp
    ·rcases Hp h with g|g
     ·exact .inl g
     ·exact .inr (List.mem_cons_of_mem _ g)
   ·rcases List.mem_cons.1 h with rfl|h
    ·left;simp
    ·rcases Hp h with g|g
     ·exact .inl (List.mem_cons_of_mem _ g)
     ·exact .inr (List.mem_cons_of_mem _ g)
termination_by x y=>x.length+y.length
theorem OY:∀ {x y:List (Int×Int)} {q:Int×Int},q∈(Ba x y).2→∃e,(e,q.1)∈x∧(e,q.2)∈y
 | [],y,q,h=>by simp[Ba]at h
 | b :: x,[],q,h=>by simp[Ba]at h
 | b :: x,c :: y,q,h=>by
  rw[Ba]at h
  split at h
  ·obtain⟨e,h1,h2⟩:=OY h
   exact⟨e,List.mem_cons_of_mem _ h1,h2⟩
  ·split at h
   ·obtain⟨e,h1,h2⟩:=OY h
    exact⟨e,h1,List.mem_cons_of_mem _ h2⟩
   ·rcases List.mem_cons.1 h with rfl|h
    ·exact⟨b.1,by simp,by rw[show b.1=c.1 by omega];simp⟩
    ·obtain⟨e,h1,h2⟩:=OY h
     exact⟨e,List.mem_cons_of_mem _ h1,List.mem_cons_of_mem _ h2⟩
termination_by x y=>x.length+y.length
theorem OZ:∀ {x y:List (Int×Int)},(Ba x y).2.length≤x.length
 | [],y=>by simp[Ba]
 | b :: x,[]=>by simp[Ba]
 | b :: x,c :: y=>by
  rw[Ba]
  split
  ·have:=OZ (x:=x) (y:=c :: y)
   simp only[List.length_cons]
   omega
  ·split
   ·exact OZ (x:=b :: x) (y:=y)
   ·have:=OZ (x:=x) (y:=y)
    simp only[List.length_cons]
    omega
termination_by x y=>x.length+y.length
abbrev Oa (l:List (Int×Int)):Prop:=l.Pairwise (fun a b=>a.1<b.1)
theorem RU:∀ {x y:List (Int×Int)},Oa x→Oa y→Oa (Ba x y).1
 | [],y,_,h=>by simpa[Ba] using h
 | b :: x,[],h,_=>by simpa[Ba] using h
 | b :: x,c :: y,hx,hy=>by
  have hx2:=List.pairwise_cons.1 hx
  have hy2:=List.pairwise_cons.1 hy
  rw[Ba]
  split
  ·rename_i hc
   refine List.pairwise_cons.2 ⟨fun a ha=>?_,RU hx2.2 hy⟩
   rcases Hp ha with g|g
   ·exact hx2.1 a g
   ·rcases List.mem_cons.1 g with rfl|g
    ·exact hc
    ·have:=hy2.1 a g
     omega
  ·split
   ·rename_i hc
    refine List.pairwise_cons.2 ⟨fun a ha=>?_,RU hx hy2.2⟩
    rcases Hp ha with g|g
    ·rcases List.mem_cons.1 g with rfl|g
     ·exact hc
     ·have:=hx2.1 a g
      omega
    ·exact hy2.1 a g
   ·refine List.pairwise_cons.2 ⟨fun a ha=>?_,RU hx2.2 hy2.2⟩
    rcases Hp ha with g|g
    ·exact hx2.1 a g
    ·have:=hy2.1 a g
     omega
termination_by x y=>x.length+y.length
/-! Classes joined -/
theorem A0U {p:List Int} {rk:Int→Nat} (hp:Fo p rk) {a b:Int} (a0:0≤a) (b0:0≤b) (b1:b<(p.length:Int)) (ha:par p a=a) (hb:par p b=b) (hab:a≠b) {x r:Int} (x0:0≤x) (x1:x<(p.length:Int)) (h:Rt p x r):Rt (p.set b.toNat a) x (if r=b then a else r):=by
 have hbase:Rt (p.set b.toNat a) a a:=.base (by rw[CV b0 b1 a a0,if_neg hab];exact ha)
 induction h with
 | @base n hn =>
  split
  ·rename_i e
   rw[e]
   exact .step (by rw[CV b0 b1 b b0,if_pos rfl];exact hab) (by rw[CV b0 b1 b b0,if_pos rfl];exact hbase)
  ·rename_i e
   exact .base (by rw[CV b0 b1 n x0,if_neg e];exact hn)
 | @step n r hn _ ih =>
  have hnb:n≠b:=fun e=>hn (e▸hb)
  have hr:=hp.rng n x0 x1
  exact .step (by rw[CV b0 b1 n x0,if_neg hnb];exact hn) (by rw[CV b0 b1 n x0,if_neg hnb];exact ih hr.1 hr.2)
theorem A0V {p:List Int} {rk:Int→Nat} (hp:Fo p rk) {a b:Int} (a0:0≤a) (a1:a<(p.length:Int)) (b0:0≤b) (b1:b<(p.length:Int)) (ha:par p a=a) (hb:par p b=b) (hab:a≠b):∃rk',Fo (p.set b.toNat a) rk':=by
 classical
 refine⟨fun x=>if Rt p x b then rk x+rk a+1 else rk x,fun n n0 n1=>?_,fun n n0 n1 hn=>?_⟩
 ·rw[List.length_set]at n1 ⊢
  rw[CV b0 b1 n n0]
  split
  ·exact⟨a0,a1⟩
  ·exact hp.rng n n0 n1
 ·rw[List.length_set]at n1
  rw[CV b0 b1 n n0]at hn ⊢
  by_cases e:n=b
  ·subst e
   rw[if_pos rfl]
   have h1:¬Rt p a n:=fun g=>hab (g.det (.base ha)).symm
   rw[if_neg h1,if_pos (.base hb)]
   omega
  ·rw[if_neg e]at hn ⊢
   have hd:=hp.dec n n0 n1 hn
   have hiff:Rt p n b↔Rt p (par p n) b:=by
    constructor
    ·intro g
     cases g with
     | base g=>exact absurd g hn
     | step _ g=>exact g
    ·exact fun g=>.step hn g
   by_cases g:Rt p n b
   ·rw[if_pos g,if_pos (hiff.1 g)]
    omega
   ·rw[if_neg g,if_neg (fun g2=>g (hiff.2 g2))]
    exact hd
inductive EG (n:Nat) (p:List Int) (W:List (Int×Int)):Int→Int→Prop
 | cls {x y r:Int} (x0:0≤x) (x1:x<(n:Int)) (y0:0≤y) (y1:y<(n:Int)) (h:Rt p x r) (g:Rt p y r):EG n p W x y
 | wt {x y:Int} (h:(x,y)∈W):EG n p W x y
 | symm {x y:Int} (h:EG n p W x y):EG n p W y x
 | trans {x y z:Int} (h:EG n p W x y) (g:EG n p W y z):EG n p W x z
theorem EG.mono {n:Nat} {p q:List Int} {W V:List (Int×Int)} (h1:∀x y r,0≤x→x<(n:Int)→0≤y→y<(n:Int)→Rt p x r→Rt p y r→EG n q V x y) (h2:∀x y,(x,y)∈W→EG n q V x y) {x y:Int} (h:EG n p W x y):EG n q V x y:=by
 induction h with
 | cls x0 x1 y0 y1 h g=>exact h1 _ _ _ x0 x1 y0 y1 h g
 | wt h=>exact h2 _ _ h
 | symm _ ih=>exact .symm ih
 | trans _ _ ih1 ih2=>exact .trans ih1 ih2
structure RW (h:AM) (N:List AE) (P:List (Int×Int)) (X:List AE) (v:Int→Int):Prop where
 rng:∀x,0≤x→x<(N.length:Int)→0≤v x∧v x<(X.length:Int)
 ty:∀x,0≤x→x<(N.length:Int)→DB h (N.getD x.toNat (0,[])).1 (X.getD (v x).toNat (0,[])).1=true
 arc:∀x,0≤x→x<(N.length:Int)→∀a∈AW N x,Ly (AW X (v x)) a.1=v a.2
 eq:∀q∈P,v q.1=v q.2
structure JX (h:AM) (X:List AE) (v:Int→Int) (n:Nat) (p ty:List Int) (ar:List (List (Int×Int))) (W:List (Int×Int)):Prop where
 cls:∀x r,0≤x→x<(n:Int)→Rt p x r→v x=v r
 wt:∀w∈W,v w.1=v w.2
 ty:∀r,0≤r→r<(n:Int)→par p r=r→DB h (ty.getD r.toNat 0) (X.getD (v r).toNat (0,[])).1=true
 arc:∀r,0≤r→r<(n:Int)→par p r=r→∀a∈ar.getD r.toNat [],Ly (AW X (v r)) a.1=v a.2
def CE (N:List AE):List Int:=N.flatMap fun x=>x.2.map (·.1)
structure JI (h:AM) (N:List AE) (P:List (Int×Int)) (p ty:List Int) (ar:List (List (Int×Int))) (W:List (Int×Int)):Prop where
 nty:EH h N
 fo:∃rk,Fo p rk
 lp:p.length=N.length
 lt:ty.length=N.length
 la:ar.length=N.length
 wr:∀w∈W,(0≤w.1∧w.1<(N.length:Int))∧(0≤w.2∧w.2<(N.length:Int))
 tyr:∀x,0≤x→x<(N.length:Int)→0≤ty.getD x.toNat 0∧ty.getD x.toNat 0<(h.1.length:Int)
 arr:∀k,∀a∈ar.getD k [],(0≤a.2∧a.2<(N.length:Int))∧a.1∈CE N
 srt:∀k,Oa (ar.getD k [])
 sp:∀q∈P,EG N.length p W q.1 q.2
 st:∀x r,0≤x→x<(N.length:Int)→Rt p x r→DB h (N.getD x.toNat (0,[])).1 (ty.getD r.toNat 0)=true
 sa:∀x r,0≤x→x<(N.length:Int)→Rt p x r→∀a∈AW N x,∃t,(a.1,t)∈ar.getD r.toNat []∧EG N.length p W a.2 t
 co:∀X v,EH h X→RW h N P X v→JX h X v N.length p ty ar W
theorem FQ {p:List Int} {rk:Int→Nat} (hp:Fo p rk) {x r:Int} (x0:0≤x) (x1:x<(p.length:Int)) (h:Rt p x r):0≤r∧r<(p.length:Int):=by
 obtain⟨s,hs,s0,s1⟩:=hp.root x0 x1
 rw[h.det hs]
 exact⟨s0,s1⟩
theorem PZ {p q:List Int} (h:D7 p q) {r:Int} (r0:0≤r) (r1:r<(p.length:Int)):par p r=r↔par q r=r :=
 ⟨fun e=>((h.2 r r r0 r1).1 (.base e)).root,fun e=>((h.2 r r r0 r1).2 (.base e)).root⟩
theorem A0W {h:AM} {N:List AE} {P:List (Int×Int)} {p q ty:List Int} {ar:List (List (Int×Int))} {W:List (Int×Int)} (hs:D7 p q) (hq:∃rk,Fo q rk) (hj:JI h N P p ty ar W):JI h N P q ty ar W:=by
 obtain⟨nty,fo,lp,lt,la,wr,tyr,arr,srt,sp,st,sa,co⟩:=hj
 have hiff:∀x r,0≤x→x<(N.length:Int)→(Rt p x r↔Rt q x r):=fun x r x0 x1=>hs.2 x r x0 (by rw[lp];exact x1)
 have hE:∀ {x y},EG N.length p W x y→EG N.length q W x y:=fun {x y} g=>g.mono (fun x y r x0 x1 y0 y1 h1 h2=>.cls x0 x1 y0 y1 ((hiff x r x0 x1).1 h1) ((hiff y r y0 y1).1 h2)) (fun _ _ h=>.wt h)
 refine⟨nty,hq,by rw[←hs.1];exact lp,lt,la,wr,tyr,arr,srt,fun q hq=>hE (sp q hq),fun x r x0 x1 hr=>st x r x0 x1 ((hiff x r x0 x1).2 hr),fun x r x0 x1 hr a ha=>?_,fun X v hX hv=>?_⟩
 ·obtain⟨t,h1,h2⟩:=sa x r x0 x1 ((hiff x r x0 x1).2 hr) a ha
  exact⟨t,h1,hE h2⟩
 ·obtain⟨c1,c2,c3,c4⟩:=co X v hX hv
  exact⟨fun x r x0 x1 hr=>c1 x r x0 x1 ((hiff x r x0 x1).2 hr),c2,fun r r0 r1 hr=>c3 r r0 r1 ((PZ hs r0 (by rw[lp];exact r1)).2 hr),fun r r0 r1 hr=>c4 r r0 r1 ((PZ hs r0 (by rw[lp];exact r1)).2 hr)⟩
section
variable {h:AM} {N:List AE} {P:List (Int×Int)} {p ty:List Int} {ar:List (List (Int×Int))} {W:List (Int×Int)} {s t a b:Int}
theorem XG (hj:JI h N P p ty ar (W++[(s,t)])) (hs:Rt p s a) (ht:Rt p t a):JI h N P p ty ar W:=by
 obtain⟨nty,fo,lp,lt,la,wr,tyr,arr,srt,sp,st,sa,co⟩:=hj
 have hw:=wr (s,t) (by simp)
 have hE:∀ {x y},EG N.length p (W++[(s,t)]) x y→EG N.length p W x y:=fun {x y} g=>g.mono (fun x y r x0 x1 y0 y1 h1 h2=>.cls x0 x1 y0 y1 h1 h2) (fun x y hxy=>by
  rcases List.mem_append.1 hxy with hxy|hxy
  ·exact .wt hxy
  ·have e:(x,y)=(s,t):=by simpa using hxy
   cases e
   exact .cls hw.1.1 hw.1.2 hw.2.1 hw.2.2 hs ht)
 refine⟨nty,fo,lp,lt,la,fun w hw=>wr w (List.mem_append_left _ hw),tyr,arr,srt,fun q hq=>hE (sp q hq),st,fun x r x0 x1 hr a ha=>?_,fun X v hX hv=>?_⟩
 ·obtain⟨u,h1,h2⟩:=sa x r x0 x1 hr a ha
  exact⟨u,h1,hE h2⟩
 ·obtain⟨c1,c2,c3,c4⟩:=co X v hX hv
  exact⟨c1,fun w hw=>c2 w (List.mem_append_left _ hw),c3,c4⟩
theorem RY (hk:T8 h) (hj:JI h N P p ty ar (W++[(s,t)])) (hs:Rt p s a) (ht:Rt p t b) {X:List AE} {v:Int→Int} (hX:EH h X) (hv:RW h N P X v) :
  v a=v b∧(Bt h (ty.getD a.toNat 0) (ty.getD b.toNat 0)).2=true∧DB h (Bt h (ty.getD a.toNat 0) (ty.getD b.toNat 0)).1 (X.getD (v a).toNat (0,[])).1=true:=by
 obtain⟨rk,fo⟩:=hj.fo
 obtain⟨⟨s0,s1⟩,t0,t1⟩:=hj.wr (s,t) (by simp)
 simp only at s0 s1 t0 t1
 have ra:=FQ fo s0 (by rw[hj.lp];exact s1) hs
 have rb:=FQ fo t0 (by rw[hj.lp];exact t1) ht
 rw[hj.lp]at ra rb
 obtain⟨c1,c2,c3,c4⟩:=hj.co X v hX hv
 have e1:=c1 s a s0 s1 hs
 have e2:=c1 t b t0 t1 ht
 have e3:v s=v t:=c2 (s,t) (by simp)
 have e:v a=v b:=by rw[←e1,←e2,e3]
 have g1:=c3 a ra.1 ra.2 hs.root
 have g2:=c3 b rb.1 rb.2 ht.root
 rw[←e]at g2
 have hva:=hv.rng a ra.1 ra.2
 have hx:=hX _ (AD X (0,[]) (k:=(v a).toNat) (by omega))
 have ta:=hj.tyr a ra.1 ra.2
 have tb:=hj.tyr b rb.1 rb.2
 obtain⟨m1,m2⟩:=(ZJ hk ta.1 ta.2 tb.1 tb.2).2 _ hx.1 hx.2 g1 g2
 exact⟨e,m1,m2⟩
theorem Vb {α:Type} {l:List α} {d v:α} {a r:Int} (a0:0≤a) (a1:a<(l.length:Int)) (r0:0≤r):(l.set a.toNat v).getD r.toNat d=if r=a then v else l.getD r.toNat d:=by
 by_cases e:r=a
 ·subst e
  rw[if_pos rfl,IE _ _ _ (by omega)]
 ·rw[if_neg e,getD_set_ne _ _ _ (by omega)]
theorem TW (hk:T8 h) (hj:JI h N P p ty ar (W++[(s,t)])) (hs:Rt p s a) (ht:Rt p t b) (hab:a≠b) (hm:(Bt h (ty.getD a.toNat 0) (ty.getD b.toNat 0)).2=true) :
  JI h N P (p.set b.toNat a) (ty.set a.toNat (Bt h (ty.getD a.toNat 0) (ty.getD b.toNat 0)).1) (ar.set a.toNat (Ba (ar.getD a.toNat []) (ar.getD b.toNat [])).1) (W++(Ba (ar.getD a.toNat []) (ar.getD b.toNat [])).2):=by
 have hmt:=fun X v hX hv=>RY (X:=X) (v:=v) hk hj hs ht hX hv
 obtain⟨nty,⟨rk,fo⟩,lp,lt,la,wr,tyr,arr,srt,sp,st,sa,co⟩:=hj
 obtain⟨⟨s0,s1⟩,t0,t1⟩:=wr (s,t) (by simp)
 simp only at s0 s1 t0 t1
 have ra:=FQ fo s0 (by rw[lp];exact s1) hs
 have rb:=FQ fo t0 (by rw[lp];exact t1) ht
 have ha:=hs.root
 have hb:=ht.root
 have hnew:=fun {x r:Int} (x0:0≤x) (x1:x<(N.length:Int)) (hx:Rt p x r)=>A0U fo ra.1 rb.1 rb.2 ha hb hab x0 (by rw[lp];exact x1) hx
 have hold:∀ {x r:Int},0≤x→x<(N.length:Int)→Rt (p.set b.toNat a) x r→∃r',Rt p x r'∧r=if r'=b then a else r':=fun {x r} x0 x1 hx=>by
  obtain⟨r',h1,-,-⟩:=fo.root x0 (by rw[lp];exact x1)
  exact⟨r',h1,hx.det (hnew x0 x1 h1)⟩
 have ta:=tyr a ra.1 (by rw[←lp];exact ra.2)
 have tb:=tyr b rb.1 (by rw[←lp];exact rb.2)
 obtain⟨q0,q1,q2,q3⟩:=(ZJ hk ta.1 ta.2 tb.1 tb.2).1 hm
 generalize hmt0:(Bt h (ty.getD a.toNat 0) (ty.getD b.toNat 0)).1=m at *
 generalize hxs:ar.getD a.toNat []=xs at *
 generalize hys:ar.getD b.toNat []=ys at *
 have hst:EG N.length (p.set b.toNat a) (W++(Ba xs ys).2) s t:=by
  have h1:=hnew s0 s1 hs
  have h2:=hnew t0 t1 ht
  rw[if_neg hab]at h1
  rw[if_pos rfl]at h2
  exact .cls s0 s1 t0 t1 h1 h2
 have hE:∀ {x y},EG N.length p (W++[(s,t)]) x y→EG N.length (p.set b.toNat a) (W++(Ba xs ys).2) x y:=fun {x y} g=>g.mono (fun x y r x0 x1 y0 y1 h1 h2=>.cls x0 x1 y0 y1 (hnew x0 x1 h1) (hnew y0 y1 h2)) (fun x y hxy=>by
  rcases List.mem_append.1 hxy with hxy|hxy
  ·exact .wt (List.mem_append_left _ hxy)
  ·have e:(x,y)=(s,t):=by simpa using hxy
   cases e
   exact hst)
 have hty:=fun {r:Int} (r0:0≤r)=>Vb (l:=ty) (d:=0) (v:=m) ra.1 (by rw[lt,←lp];exact ra.2) r0
 have har:=fun {r:Int} (r0:0≤r)=>Vb (l:=ar) (d:=[]) (v:=(Ba xs ys).1) ra.1 (by rw[la,←lp];exact ra.2) r0
 refine⟨nty,A0V fo ra.1 ra.2 rb.1 rb.2 ha hb hab,by rw[List.length_set];exact lp,by rw[List.length_set];exact lt,by rw[List.length_set];exact la,fun w hw=>?_,fun x x0 x1=>?_,fun k y hy=>?_,fun k=>?_,fun q hq=>hE (sp q hq),fun x r x0 x1 hr=>?_,fun x r x0 x1 hr y hy=>?_,fun X v hX hv=>?_⟩
 ·rcases List.mem_append.1 hw with hw|hw
  ·exact wr w (List.mem_append_left _ hw)
  ·obtain⟨e,e1,e2⟩:=OY hw
   rw[←hxs]at e1
   rw[←hys]at e2
   exact⟨(arr _ _ e1).1,(arr _ _ e2).1⟩
 ·rw[hty x0]
  split
  ·exact⟨q0,q1⟩
  ·exact tyr x x0 x1
 ·have h1:=har (r:=(k:Int)) (by omega)
  rw[Int.toNat_natCast]at h1
  rw[h1]at hy
  split at hy
  ·rcases Hp hy with hy|hy
   ·rw[←hxs]at hy;exact arr _ _ hy
   ·rw[←hys]at hy;exact arr _ _ hy
  ·exact arr _ _ hy
 ·have h1:=har (r:=(k:Int)) (by omega)
  rw[Int.toNat_natCast]at h1
  rw[h1]
  split
  ·exact RU (by rw[←hxs];exact srt _) (by rw[←hys];exact srt _)
  ·exact srt k
 ·obtain⟨r',h1,rfl⟩:=hold x0 x1 hr
  have hx:=nty _ (AD N (0,[]) (k:=x.toNat) (by omega))
  have hrr:=FQ fo x0 (by rw[lp];exact x1) h1
  by_cases e:r'=b
  ·rw[if_pos e,hty ra.1,if_pos rfl]
   exact JZ hk hx.1 hx.2 tb.1 tb.2 q0 q1 (by rw[←e];exact st x r' x0 x1 h1) q3
  ·rw[if_neg e,hty hrr.1]
   split
   ·rename_i e2
    exact JZ hk hx.1 hx.2 ta.1 ta.2 q0 q1 (by rw[←e2];exact st x r' x0 x1 h1) q2
   ·exact st x r' x0 x1 h1
 ·obtain⟨r',h1,rfl⟩:=hold x0 x1 hr
  have hrr:=FQ fo x0 (by rw[lp];exact x1) h1
  obtain⟨u,u1,u2⟩:=sa x r' x0 x1 h1 y hy
  by_cases e:r'=b
  ·rw[if_pos e,har ra.1,if_pos rfl]
   rw[e,hys]at u1
   rcases Ll (x:=xs) u1 with g|⟨w,g1,g2⟩
   ·exact⟨u,g,hE u2⟩
   ·exact⟨w,g1,.trans (hE u2) (.symm (.wt (List.mem_append_right _ g2)))⟩
  ·rw[if_neg e,har hrr.1]
   split
   ·rename_i e2
    rw[e2,hxs]at u1
    exact⟨u,OX u1,hE u2⟩
   ·exact⟨u,u1,hE u2⟩
 ·obtain⟨c1,c2,c3,c4⟩:=co X v hX hv
  obtain⟨e,-,m2⟩:=hmt X v hX hv
  have hroot:∀r,0≤r→r<(N.length:Int)→par (p.set b.toNat a) r=r→r≠b∧par p r=r:=fun r r0 r1 hr=>by
   rw[CV rb.1 rb.2 r r0]at hr
   split at hr
   ·rename_i e;rw[e]at hr;exact absurd hr hab
   ·rename_i e;exact⟨e,hr⟩
  refine⟨fun x r x0 x1 hr=>?_,fun w hw=>?_,fun r r0 r1 hr=>?_,fun r r0 r1 hr y hy=>?_⟩
  ·obtain⟨r',h1,rfl⟩:=hold x0 x1 hr
   have:=c1 x r' x0 x1 h1
   split
   ·rename_i e2
    rw[this,e2,e]
   ·exact this
  ·rcases List.mem_append.1 hw with hw|hw
   ·exact c2 w (List.mem_append_left _ hw)
   ·obtain⟨f,e1,e2⟩:=OY hw
    rw[←hxs]at e1
    rw[←hys]at e2
    have g1:=c4 a ra.1 (by rw[←lp];exact ra.2) ha _ e1
    have g2:=c4 b rb.1 (by rw[←lp];exact rb.2) hb _ e2
    rw[←g1,←g2,e]
  ·obtain⟨-,h2⟩:=hroot r r0 r1 hr
   rw[hty r0]
   split
   ·rename_i e2;rw[e2];exact m2
   ·exact c3 r r0 r1 h2
  ·obtain⟨-,h2⟩:=hroot r r0 r1 hr
   rw[har r0]at hy
   split at hy
   ·rename_i e2
    rw[e2]
    rcases Hp hy with hy|hy
    ·exact c4 a ra.1 (by rw[←lp];exact ra.2) ha y (by rw[hxs];exact hy)
    ·rw[e]
     exact c4 b rb.1 (by rw[←lp];exact rb.2) hb y (by rw[hys];exact hy)
   ·exact c4 r r0 r1 h2 y hy
end
end
/- Functions of unify.classes: join. -/
section
theorem ZR {l:List Nat} {f g:Nat→Bool} {b:Nat} (hn:l.Nodup) (hb:b∈l) (h1:f b=true) (h2:g b=false) (h:∀x∈l,x≠b→g x=f x):(l.filter g).length+1=(l.filter f).length:=by
 induction l with
 | nil=>cases hb
 | cons x l ih =>
  obtain⟨hx,hn2⟩:=List.nodup_cons.1 hn
  by_cases e:x=b
  ·subst e
   have:l.filter g=l.filter f:=List.filter_congr fun y hy=>h y (by simp[hy]) (fun e=>hx (e▸hy))
   rw[List.filter_cons,List.filter_cons,if_neg (by rw[h2];simp),if_pos h1,this]
   rfl
  ·have hb2:b∈l:=by
    rcases List.mem_cons.1 hb with g|g
    ·exact absurd g.symm e
    ·exact g
   have ih2:=ih hn2 hb2 (fun y hy=>h y (by simp[hy]))
   rw[List.filter_cons,List.filter_cons,h x (by simp) e]
   split
   ·simp only[List.length_cons];omega
   ·exact ih2
def nR (p:List Int):Nat:=((List.range p.length).filter fun k=>p.getD k 0==(k:Int)).length
theorem A5x (p:List Int):nR p≤p.length:=by
 have:=List.length_filter_le (fun k=>p.getD k 0==(k:Int)) (List.range p.length)
 rw[List.length_range]at this
 exact this
theorem mV {p q:List Int} (h:D7 p q):nR q=nR p:=by
 unfold nR
 rw[←h.1]
 refine congrArg List.length (List.filter_congr fun k hk=>?_)
 have hk2:=List.mem_range.1 hk
 have:=PZ h (r:=(k:Int)) (by omega) (by omega)
 unfold par at this
 rw[Int.toNat_natCast]at this
 rw[Bool.eq_iff_iff,beq_iff_eq,beq_iff_eq]
 exact this.symm
theorem mW {p:List Int} {a b:Int} (b0:0≤b) (b1:b<(p.length:Int)) (hb:par p b=b) (hab:a≠b):nR (p.set b.toNat a)+1=nR p:=by
 unfold nR
 rw[List.length_set]
 refine ZR (b:=b.toNat) List.nodup_range (List.mem_range.2 (by omega)) ?_ ?_ fun x _ hx=>?_
 ·rw[beq_iff_eq]
  unfold par at hb
  omega
 ·rw[IE _ _ _ (by omega),beq_eq_false_iff_ne]
  omega
 ·rw[getD_set_ne _ _ _ (by omega)]
theorem Pa {α:Type} [DecidableEq α]:∀ {l l':List α},l.Nodup→(∀x∈l,x∈l')→l.length≤l'.length
 | [],_,_,_=>by simp
 | x :: l,l',hn,h=>by
  obtain⟨hx,hn2⟩:=List.nodup_cons.1 hn
  have hm:=h x (by simp)
  have:=Pa (l:=l) (l':=l'.erase x) hn2 (fun y hy=>(List.mem_erase_of_ne (fun e:y=x=>hx (by rw[←e];exact hy))).2 (h y (by simp[hy])))
  rw[List.length_erase_of_mem hm]at this
  have:=List.length_pos_of_mem hm
  simp only[List.length_cons]
  omega
theorem XH {l:List (Int×Int)} (h:Oa l) {S:List Int} (hs:∀a∈l,a.1∈S):l.length≤S.length:=by
 have hn:(l.map (·.1)).Nodup:=by
  unfold List.Nodup
  rw[List.pairwise_map]
  exact h.imp fun g=>by omega
 have:=Pa hn (l':=S) (fun x hx=>by
  obtain⟨a,ha,rfl⟩:=List.mem_map.1 hx
  exact hs a ha)
 rwa [List.length_map]at this
theorem TX {h:AM} {N:List AE} {P:List (Int×Int)} {p ty:List Int} {ar:List (List (Int×Int))} (hj:JI h N P p ty ar []) {a b:Int} (ha:0≤a∧a<(N.length:Int)) (hb:0≤b∧b<(N.length:Int)):JI h N (P++[(a,b)]) p ty ar [(a,b)]:=by
 obtain⟨nty,fo,lp,lt,la,wr,tyr,arr,srt,sp,st,sa,co⟩:=hj
 have hE:∀ {x y},EG N.length p [] x y→EG N.length p [(a,b)] x y:=fun {x y} g=>g.mono (fun x y r x0 x1 y0 y1 h1 h2=>.cls x0 x1 y0 y1 h1 h2) (fun x y hxy=>by cases hxy)
 refine⟨nty,fo,lp,lt,la,fun w hw=>?_,tyr,arr,srt,fun q hq=>?_,st,fun x r x0 x1 hr y hy=>?_,fun X v hX hv=>?_⟩
 ·have e:w=(a,b):=by simpa using hw
  subst e
  exact⟨ha,hb⟩
 ·rcases List.mem_append.1 hq with hq|hq
  ·exact hE (sp q hq)
  ·have e:q=(a,b):=by simpa using hq
   subst e
   exact .wt (by simp)
 ·obtain⟨u,h1,h2⟩:=sa x r x0 x1 hr y hy
  exact⟨u,h1,hE h2⟩
 ·obtain⟨c1,c2,c3,c4⟩:=co X v hX ⟨hv.rng,hv.ty,hv.arc,fun q hq=>hv.eq q (List.mem_append_left _ hq)⟩
  refine⟨c1,fun w hw=>?_,c3,c4⟩
  have e:w=(a,b):=by simpa using hw
  subst e
  exact hv.eq _ (by simp)
def RZ (h:AM) (p ty:List Int) (ar:List (List (Int×Int))):List (Nat×Obj):=[(101,.box 94 true [.p GS h,.sr 102 T3 0 p.length,.sr 103 T3 0 ty.length,.sr 104 Cb 0 ar.length]),(102,.arr 3 T3 p),(103,.arr 3 T3 ty),(104,.arr 86 Cb ar)]
theorem Ra (h:AM) (hk:T8 h) {N:List AE} {P:List (Int×Int)} {p ty:List Int} {ar:List (List (Int×Int))} (hj:JI h N P p ty ar []) {a b:Int} (ha:0≤a∧a<(N.length:Int)) (hb:0≤b∧b<(N.length:Int)) (hN:N.length≤10000) (hF:(CE N).length≤1000000) :
  FI Tryz.prog 61 [.bp 101 [] 0,.p T3 a,.p T3 b] (RZ h p ty ar) [101]
  (fun res objs'=>(res=.p .bool true∧∃p' ty' ar',objs'=RZ h p' ty' ar'∧JI h N (P++[(a,b)]) p' ty' ar' [])∨(res=.p .bool false∧(∃p' ty' ar',objs'=RZ h p' ty' ar')∧∀X v,EH h X→¬RW h N (P++[(a,b)]) X v)):=by
 refine Gw Tryz.func61 (by kernel_rfl) rfl Tryz.ntmps61 (by simp only[List.length_cons,List.length_nil];omega) (by kernel_rfl) rfl rfl (AJ []) AL ?_
 intro w0 K O0 ρ0 hc hok1 hok2
 have hh:h.1.length≤100000:=Nat.le_trans hk.2 (by omega)
 have hhc:∀x∈h.1,x.2.1.length≤100000:=fun x hx=>Nat.le_trans (hk.1.wid x.2.1 (List.mem_map.2 ⟨x,hx,rfl⟩)) (by omega)
 have hj0:=TX hj ha hb
 generalize hQ:P++[(a,b)]=Q at *
 have hBB:N.length*((CE N).length+1)≤10000*1000001:=Nat.mul_le_mul hN (by omega)
 simp only[RZ,Ca]
 repeat'(first|exact trivial|refine eS rfl ?_|refine AB ?_|refine rX [0,1,2,3,6,7,8,9,10,11,19,48] hc ?_ ?_|refine rC ?_ ?_<;>intro AA<;>try(cases AA;done))
 refine AK (ι:={s:(List Int×List Int×List (List (Int×Int)))×(List (Int×Int)×Nat)//JI h N Q s.1.1 s.1.2.1 s.1.2.2 (s.2.1.take s.2.2)∧s.2.2≤s.2.1.length∧nR s.1.1*((CE N).length+1)+s.2.2≤N.length*((CE N).length+1)+1}) (fun s=>⟨[(3,.bp 3 [] 0),(7,.bp 7 [] 0),(8,.clo 101 [3,7])],[(101,.box 94 true [.p GS h,.sr 102 T3 0 s.1.1.1.length,.sr 103 T3 0 s.1.1.2.1.length,.sr 104 Cb 0 s.1.1.2.2.length]),(102,.arr 3 T3 s.1.1.1),(103,.arr 3 T3 s.1.1.2.1),(104,.arr 86 Cb s.1.1.2.2),(3,.box 91 false [.bp 101 [] 0]),(7,.box 159 false [.sr 15 H7 0 s.1.2.2]),(15,.arr 158 H7 s.1.2.1)]⟩) (fun s=>nR s.1.1.1*((CE N).length+1)+s.1.2.2) ⟨((p,ty,ar),([(a,b)],1)),hj0,by simp,by have:=Nat.mul_le_mul_right ((CE N).length+1) (A5x p);rw[hj.lp]at this;simp only;omega⟩ (AC [(101,.nm 101),(102,.nm 102),(103,.nm 103),(104,.nm 104),(3,.nm 3),(7,.nm 7),(15,.nm 15)] rfl rfl ?_ ?_) (fun s=>?_)
 ·first|exact eN|refine eM ?_
 ·first|exact eN|refine eM ?_
 ·obtain⟨⟨⟨q,tq,aq⟩,V,k⟩,hJ,hkl,hB⟩:=s
  simp only at hJ hkl hB ⊢
  repeat'(first|exact trivial|refine eS rfl ?_|refine AB ?_|refine rX [0,1,2,3,6,7,8,9,10,11,19,48] hc ?_ ?_|refine rC ?_ ?_<;>intro AA<;>try(cases AA;done))
  ·exact eV
  ·exact eV
  ·have hk0:0<k:=Int.ofNat_lt.1 AA
   have hkm:((k:Int)-1).toNat=k-1:=by omega
   have hV:=Ab V (0,0) (k:=k-1) (by omega)
   rw[show k-1+1=k by omega]at hV
   rw[hkm]
   generalize hst:V.getD (k-1) (0,0)=st at *
   obtain⟨s,t⟩:=st
   rw[hV]at hJ
   obtain⟨⟨s0,s1⟩,t0,t1⟩:=hJ.wr (s,t) (by simp)
   simp only at s0 s1 t0 t1
   obtain⟨rk,fo⟩:=hJ.fo
   have ql:=hJ.lp
   refine GE drawsAny hc 8 [([0,1,2],3),([4,5,6],7)] [] (by kernel_rfl) (Uq ?_ ?_)
   ·trivial
   ·refine mxC hc (XF h tq aq rk fo s0 (by rw[ql];exact s1)) [(1,.nm 101),(2,.nm 102),(3,.nm 103),(4,.nm 104)] [102,103,104] ?_ ?_ ?_
    ·first|exact eN|refine eM ?_
    ·simp only[Qj]
     first|exact eN|refine eM ?_
    ·rintro _ _ ⟨q1,r1,rfl,rfl,fo1,sm1,rt1⟩
     refine⟨[(101,.nm 1),(102,.nm 2),(103,.nm 3),(104,.nm 4)],.p T3 r1,[(101,.box 94 true [.p GS h,.sr 102 T3 0 q1.length,.sr 103 T3 0 tq.length,.sr 104 Cb 0 aq.length]),(102,.arr 3 T3 q1),(103,.arr 3 T3 tq),(104,.arr 86 Cb aq)],rfl,rfl,?_,?_,rfl,rfl,rfl,?_⟩
     ·simp only[Qj]
      first|exact eN|refine eM ?_
     ·first|exact eN|refine eM ?_
     ·refine Uq ?_ ?_
      ·trivial
      ·refine mxC hc (XF h tq aq rk fo1 t0 (by rw[←sm1.1,ql];exact t1)) [(1,.nm 101),(2,.nm 102),(3,.nm 103),(4,.nm 104)] [102,103,104] ?_ ?_ ?_
       ·first|exact eN|refine eM ?_
       ·simp only[Qj]
        first|exact eN|refine eM ?_
       ·rintro _ _ ⟨q2,r2,rfl,rfl,fo2,sm2,rt2⟩
        refine⟨[(101,.nm 1),(102,.nm 2),(103,.nm 3),(104,.nm 4)],.p T3 r2,[(101,.box 94 true [.p GS h,.sr 102 T3 0 q2.length,.sr 103 T3 0 tq.length,.sr 104 Cb 0 aq.length]),(102,.arr 3 T3 q2),(103,.arr 3 T3 tq),(104,.arr 86 Cb aq)],rfl,rfl,?_,?_,rfl,rfl,rfl,?_⟩
        ·simp only[Qj]
         first|exact eN|refine eM ?_
        ·first|exact eN|refine eM ?_
        ·refine qN [0,1,2,3,6,7,8,9,10,11,19,48] hc ?_ ?_ ?_
         ·trivial
         ·trivial
         ·repeat'(first|exact trivial|refine eS rfl ?_|refine AB ?_|refine rX [0,1,2,3,6,7,8,9,10,11,19,48] hc ?_ ?_|refine rC ?_ ?_<;>intro AA<;>try(cases AA;done))
          have hJ2:=A0W (sm1.trans sm2) ⟨rk,fo2⟩ hJ
          have sm:=sm1.trans sm2
          have hs2:=(sm.2 s r1 s0 (by rw[ql];exact s1)).1 rt1
          have ht2:=(sm2.2 t r2 t0 (by rw[←sm1.1,ql];exact t1)).1 rt2
          have q2l:=hJ2.lp
          have g1:=FQ fo2 s0 (by rw[q2l];exact s1) hs2
          have g2:=FQ fo2 t0 (by rw[q2l];exact t1) ht2
          refine evP hc 4 ?_ ?_
          ·trivial
          ·by_cases he:r1=r2
           ·subst he
            rw[show (r1 != r1)=false from bne_self_eq_false r1]
            refine rL [0,1,2,3,6,7,8,9,10,11,19,48] hc ?_ ?_
            ·trivial
            ·repeat'(first|exact trivial|refine eS rfl ?_|refine AB ?_|refine rX [0,1,2,3,6,7,8,9,10,11,19,48] hc ?_ ?_|refine rC ?_ ?_<;>intro AA<;>try(cases AA;done))
             have hJ3:=XG hJ2 hs2 ht2
             have hn:=mV sm
             refine⟨⟨((q2,tq,aq),V,k-1),hJ3,by simp only;omega,by simp only;rw[hn];omega⟩,by simp only;rw[hn];omega,AC [(101,.nm 101),(102,.nm 102),(103,.nm 103),(104,.nm 104),(3,.nm 3),(7,.nm 7),(15,.nm 15)] rfl rfl ?_ ?_⟩
             ·first|exact eN|refine eM ?_
             ·first|exact eN|refine eM ?_
           ·rw[show (r1 != r2)=true by simpa using he]
            refine rN 3 hc ?_ ?_
            ·trivial
            ·have hla:=fun r:Int=>XH (hJ2.srt r.toNat) (fun a ha=>(hJ2.arr r.toNat a ha).2)
             refine clG hc (vN h hh hhc q2 tq aq V (k-1) (by omega) (by omega) g1.1 g1.2 g2.1 g2.2 (by rw[hJ2.lt,q2l]) (by rw[hJ2.la,q2l]) (hJ2.tyr r1 g1.1 (by rw[←q2l];exact g1.2)) (hJ2.tyr r2 g2.1 (by rw[←q2l];exact g2.2)) (Nat.le_trans (hla r1) (by omega)) (Nat.le_trans (hla r2) (by omega))) [(1,.nm 101),(2,.nm 102),(3,.nm 103),(4,.nm 104),(5,.nm 3),(6,.nm 7),(7,.nm 15)] [102,103,104,15] ?_ ?_ ?_
             ·first|exact eN|refine eM ?_
             ·simp only[vM]
              first|exact eN|refine eM ?_
             ·rintro res objs' (⟨e1,rfl,rfl⟩|⟨e1,rfl,W',hi',hw1,hw2,rfl⟩)
              ·refine⟨[(101,.nm 1),(102,.nm 2),(103,.nm 3),(104,.nm 4),(3,.nm 5),(7,.nm 6),(15,.nm 7)],.p .bool false,[(101,.box 94 true [.p GS h,.sr 102 T3 0 q2.length,.sr 103 T3 0 tq.length,.sr 104 Cb 0 aq.length]),(102,.arr 3 T3 q2),(103,.arr 3 T3 tq),(104,.arr 86 Cb aq),(3,.box 91 false [.bp 101 [] 0]),(7,.box 159 false [.sr 15 H7 0 (k-1)]),(15,.arr 158 H7 V)],rfl,rfl,?_,?_,rfl,rfl,?_⟩
               ·simp only[vM]
                first|exact eN|refine eM ?_
               ·first|exact eN|refine eM ?_
               ·refine rL [0,1,2,3,6,7,8,9,10,11,19,48] hc ?_ ?_
                ·trivial
                ·repeat'(first|exact trivial|refine eS rfl ?_|refine AB ?_|refine rX [0,1,2,3,6,7,8,9,10,11,19,48] hc ?_ ?_|refine rC ?_ ?_<;>intro AA<;>try(cases AA;done))
                 refine Ev.ent (σ':=⟨[(6,.p .bool false)],RZ h q2 tq aq⟩) ?_ (AC [(101,.nm 101),(102,.nm 102),(103,.nm 103),(104,.nm 104)] rfl rfl ?_ ?_)
                 ·exact DN hc [.tmp 6] rfl (.inl rfl) (.p .bool false) eT (.inr ⟨rfl,⟨q2,tq,aq,rfl⟩,fun X v hX hv=>by
                   have:=(RY hk hJ2 hs2 ht2 hX hv).2.1
                   rw[e1]at this
                   cases this⟩)
                 ·unfold RZ
                  first|exact eN|refine eM ?_
                 ·first|exact eN|refine eM ?_
              ·refine⟨[(101,.nm 1),(102,.nm 2),(103,.nm 3),(104,.nm 4),(3,.nm 5),(7,.nm 6),(15,.nm 7)],.p .bool true,[(101,.box 94 true [.p GS h,.sr 102 T3 0 (q2.set r2.toNat r1).length,.sr 103 T3 0 (tq.set r1.toNat (Bt h (tq.getD r1.toNat 0) (tq.getD r2.toNat 0)).1).length,.sr 104 Cb 0 (aq.set r1.toNat (Ba (aq.getD r1.toNat []) (aq.getD r2.toNat [])).1).length]),(102,.arr 3 T3 (q2.set r2.toNat r1)),(103,.arr 3 T3 (tq.set r1.toNat (Bt h (tq.getD r1.toNat 0) (tq.getD r2.toNat 0)).1)),(104,.arr 86 Cb (aq.set r1.toNat (Ba (aq.getD r1.toNat []) (aq.getD r2.toNat [])).1)),(3,.box 91 false [.bp 101 [] 0]),(7,.box 159 false [.sr 15 H7 0 hi']),(15,.arr 158 H7 W')],rfl,rfl,?_,?_,rfl,rfl,?_⟩
               ·simp only[vM]
                first|exact eN|refine eM ?_
               ·first|exact eN|refine eM ?_
               ·refine rL [0,1,2,3,6,7,8,9,10,11,19,48] hc ?_ ?_
                ·trivial
                ·repeat'(first|exact trivial|refine eS rfl ?_|refine AB ?_|refine rX [0,1,2,3,6,7,8,9,10,11,19,48] hc ?_ ?_|refine rC ?_ ?_<;>intro AA<;>try(cases AA;done))
                 have hJ3:=TW hk hJ2 hs2 ht2 he e1
                 rw[←hw2]at hJ3
                 have hn:=mV sm
                 have hn2:=mW (a:=r1) g2.1 g2.2 ht2.root he
                 have hpr:(Ba (aq.getD r1.toNat []) (aq.getD r2.toNat [])).2.length≤(CE N).length:=Nat.le_trans OZ (hla r1)
                 have hwl:=congrArg List.length hw2
                 rw[List.length_append,List.length_take,List.length_take]at hwl
                 have hm:nR q2*((CE N).length+1)=nR (q2.set r2.toNat r1)*((CE N).length+1)+((CE N).length+1):=by rw[←hn2,Nat.add_mul,Nat.one_mul]
                 rw[hn]at hm
                 refine⟨⟨((q2.set r2.toNat r1,tq.set r1.toNat (Bt h (tq.getD r1.toNat 0) (tq.getD r2.toNat 0)).1,aq.set r1.toNat (Ba (aq.getD r1.toNat []) (aq.getD r2.toNat [])).1),W',hi'),hJ3,hw1,by simp only;omega⟩,by simp only;omega,AC [(101,.nm 101),(102,.nm 102),(103,.nm 103),(104,.nm 104),(3,.nm 3),(7,.nm 7),(15,.nm 15)] rfl rfl ?_ ?_⟩
                 ·first|exact eN|refine eM ?_
                 ·first|exact eN|refine eM ?_
  ·have hk0:k=0:=by
    have:=Int.ofNat_le.1 AA
    omega
   subst hk0
   rw[List.take_zero]at hJ
   refine Ev.ent (σ':=⟨[(6,.p .bool true)],RZ h q tq aq⟩) ?_ (AC [(101,.nm 101),(102,.nm 102),(103,.nm 103),(104,.nm 104)] rfl rfl ?_ ?_)
   ·exact DN hc [.tmp 6] rfl (.inl rfl) (.p .bool true) eT (.inl ⟨rfl,q,tq,aq,rfl,hJ⟩)
   ·unfold RZ
    first|exact eN|refine eM ?_
   ·first|exact eN|refine eM ?_
end
/- Plain: the graph of the classes. -/
section
open Classical in
/-- The node that stands for a node. -/
noncomputable def DF (p:List Int) (x:Int):Int:=if h:∃r,Rt p x r then h.choose else x
theorem TY {p:List Int} {x r:Int} (h:Rt p x r):DF p x=r:=by
 unfold DF
 rw[dif_pos ⟨r,h⟩]
 exact(Exists.choose_spec (p:=fun r=>Rt p x r) ⟨r,h⟩).det h
theorem Mw {p:List Int} {rk:Int→Nat} (hp:Fo p rk) {x:Int} (x0:0≤x) (x1:x<(p.length:Int)):Rt p x (DF p x):=by
 obtain⟨r,h,-,-⟩:=hp.root x0 x1
 rw[TY h]
 exact h
noncomputable def quo (p ty:List Int) (ar:List (List (Int×Int))):List AE:=(List.range p.length).map fun k=>(ty.getD k 0,(ar.getD k []).map fun a=>(a.1,DF p a.2))
theorem DY (p ty:List Int) (ar:List (List (Int×Int))):(quo p ty ar).length=p.length:=by simp[quo]
theorem Ja {p ty:List Int} {ar:List (List (Int×Int))} {n:Int} (n0:0≤n) (n1:n<(p.length:Int)):(quo p ty ar).getD n.toNat (0,[])=(ty.getD n.toNat 0,(ar.getD n.toNat []).map fun a=>(a.1,DF p a.2)):=by
 unfold quo
 rw[List.getD_eq_getElem?_getD,List.getElem?_map,List.getElem?_range (by omega)]
 rfl
def Jb (len:Nat) (o:List Int):List Int:=(List.range len).map fun(k:Nat)=>if (k:Int)∈o then ((o.idxOf (k:Int):Nat):Int) else -1
theorem TZ (len:Nat) (o:List Int):(Jb len o).length=len:=by simp[Jb]
theorem Ta {len:Nat} {o:List Int} {n:Int} (n0:0≤n) (n1:n<(len:Int)):(Jb len o).getD n.toNat 0=if n∈o then (o.idxOf n:Int) else -1:=by
 unfold Jb
 rw[List.getD_eq_getElem?_getD,List.getElem?_map,List.getElem?_range (by omega)]
 simp only[Option.map_some,Option.getD_some]
 rw[show ((n.toNat:Nat):Int)=n by omega]
theorem Tc {o:List Int} {n:Int} (h:n∉o):(o++[n]).idxOf n=o.length:=by
 rw[List.idxOf_append,if_neg h]
 simp
theorem Vc {o t:List Int} {n:Int} (h:n∈o):(o++t).idxOf n=o.idxOf n:=by
 rw[List.idxOf_append,if_pos h]
theorem vO {len:Nat} {o:List Int} {n:Int} (n0:0≤n) (n1:n<(len:Int)) (h:n∉o):(Jb len o).set n.toNat (o.length:Int)=Jb len (o++[n]):=by
 apply List.ext_getElem
 ·simp[Jb]
 ·intro i h1 h2
  rw[List.getElem_set]
  simp only[Jb,List.getElem_map,List.getElem_range]
  by_cases e:n.toNat=i
  ·rw[if_pos e]
   have e2:(i:Int)=n:=by omega
   rw[e2,if_pos (by simp),Tc h]
  ·rw[if_neg e]
   have e2:(i:Int)≠n:=by omega
   by_cases h3:(i:Int)∈o
   ·rw[if_pos h3,if_pos (by simp[h3]),Vc h3]
   ·rw[if_neg h3,if_neg (by simp[h3,e2])]
theorem Td {o t:List Int} {x:Int} (h:x∈o):Bw (o++t) x=Bw o x:=by
 unfold Bw
 rw[if_pos (List.mem_append_left _ h),if_pos h,Vc h]
theorem Ob {f:List AE} (hf:Ag f) (k:Nat):∀(l:List (Int×Int)) (t:List Int),(∀a∈l,0≤a.2∧a.2<(f.length:Int))→MJ f t→f.length-t.length≤k →
  (∀a∈l,a.2∈l.foldl (Ai f k) t)∧∀x∈l.foldl (Ai f k) t,x∈t∨∀a∈(f.getD x.toNat (0,[])).2,a.2∈l.foldl (Ai f k) t:=by
 intro l
 induction l with
 | nil=>exact fun t _ _ _=>⟨fun a ha=>(by cases ha),fun x hx=>.inl hx⟩
 | cons a l ih =>
  intro t hl ht hlen
  simp only[List.foldl_cons]
  have hstep:MJ f (Ai f k t a)∧t <+: Ai f k t a∧a.2∈Ai f k t a∧∀x∈Ai f k t a,x∈t∨∀b∈(f.getD x.toNat (0,[])).2,b.2∈Ai f k t a:=by
   unfold Ai
   split
   ·rename_i hn
    exact⟨ht,List.prefix_refl _,hn,fun x hx=>.inl hx⟩
   ·rename_i hn
    have q:=hl a (by simp)
    obtain⟨g1,g2⟩:=D6 hf k t a.2 ht q.1 q.2 hn
    obtain⟨g3,g4⟩:=HP hf k t a.2 ht q.1 q.2 hn hlen
    exact⟨g1,g2,g3,g4⟩
  obtain⟨g1,g2,g3,g4⟩:=hstep
  have hle:=g2.length_le
  obtain⟨i1,i2⟩:=ih (Ai f k t a) (fun b hb=>hl b (by simp[hb])) g1 (by omega)
  obtain⟨_,j2⟩:=Ed (D6 hf k) l (Ai f k t a) (fun b hb=>hl b (by simp[hb])) g1
  refine⟨fun b hb=>?_,fun x hx=>?_⟩
  ·rcases List.mem_cons.1 hb with rfl|hb
   ·exact j2.subset g3
   ·exact i1 b hb
  ·rcases i2 x hx with hx|hx
   ·rcases g4 x hx with hx|hx
    ·exact .inl hx
    ·exact .inr fun b hb=>j2.subset (hx b hb)
   ·exact .inr hx
def GL (f:List AE) (o o':List Int):List AE:=(o'.drop o.length).map (F9 f o')
theorem p6 {f:List AE} {o t:List Int} {x:Int} (h:∀a∈(f.getD x.toNat (0,[])).2,a.2∈o):F9 f (o++t) x=F9 f o x:=by
 unfold F9
 refine congrArg _ (List.map_congr_left fun a ha=>?_)
 unfold XE
 rw[Td (h a ha)]
theorem vP {f:List AE} {o1 o2 o3:List Int} (h12:o1 <+: o2) (h23:o2 <+: o3) (hc:∀x∈o2,x∈o1∨∀a∈(f.getD x.toNat (0,[])).2,a.2∈o2) (hn:o2.Nodup):GL f o1 o2++GL f o2 o3=GL f o1 o3:=by
 obtain⟨t,rfl⟩:=h12
 obtain⟨s,rfl⟩:=h23
 unfold GL
 rw[List.drop_left,List.drop_left,List.append_assoc,List.drop_left,←List.append_assoc,List.map_append]
 congr 1
 refine List.map_congr_left fun x hx=>?_
 refine(p6 fun a ha=>?_).symm
 rcases hc x (List.mem_append_right _ hx) with h|h
 ·exact absurd rfl ((List.nodup_append.1 hn).2.2 x h x hx)
 ·exact h a ha
theorem Vd (f:List AE) (o:List Int):GL f o o=[]:=by
 unfold GL
 rw[List.drop_length]
 rfl
theorem Ve {α β:Type} (f:α→β) {l:List α} (d:α) (e:β) {i:Nat} (h:i<l.length):(l.map f).getD i e=f (l.getD i d):=by
 simp[List.getD_eq_getElem?_getD,List.getElem?_eq_getElem h]
structure A5y (Q:List AE) (o1:List Int) (L:List (Int×Int)) (j:Nat) (oo:Nat→List Int):Prop where
 zero:oo 0=o1
 succ:∀i,i<L.length→oo (i+1)=Ai Q j (oo i) (0,(L.getD i (0,0)).2)
 dok:∀i,MJ Q (oo i)
 pre:∀i,o1 <+: oo i
 nxt:∀i,oo i <+: oo (i+1)
 tgt:∀i,∀a∈L.take i,a.2∈oo i
 cls:∀i,∀x∈oo i,x∈o1∨∀a∈(Q.getD x.toNat (0,[])).2,a.2∈oo i
 last:oo L.length=L.foldl (Ai Q j) o1
theorem A0X {Q:List AE} (hQ:Ag Q) {o1:List Int} {L:List (Int×Int)} {j:Nat} (hL:∀a∈L,0≤a.2∧a.2<(Q.length:Int)) (h1:MJ Q o1) (hj:Q.length-o1.length≤j):A5y Q o1 L j (fun i=>(L.take i).foldl (Ai Q j) o1):=by
 have hl:=fun i=>fun a (ha:a∈L.take i)=>hL a (List.mem_of_mem_take ha)
 have hs:∀i,i<L.length→(L.take (i+1)).foldl (Ai Q j) o1=Ai Q j ((L.take i).foldl (Ai Q j) o1) (0,(L.getD i (0,0)).2):=fun i hi=>Ux (Ai Q j) L (0,0) o1 hi
 have hd:=fun i=>Ed (D6 hQ j) (L.take i) o1 (hl i) h1
 refine⟨rfl,hs,fun i=>(hd i).1,fun i=>(hd i).2,fun i=>?_,fun i=>(Ob hQ j _ o1 (hl i) h1 hj).1,fun i=>(Ob hQ j _ o1 (hl i) h1 hj).2,by simp only[List.take_length]⟩
 by_cases h:i<L.length
 ·show _ <+: (L.take (i+1)).foldl (Ai Q j) o1
  rw[hs i h]
  have hr:=hL _ (AD L (0,0) h)
  exact(Ed (D6 hQ j) [(0,(L.getD i (0,0)).2)] _ (fun a ha=>by
   have e:a=(0,(L.getD i (0,0)).2):=by simpa using ha
   subst e
   exact hr) (hd i).1).2
 ·show (L.take i).foldl (Ai Q j) o1 <+: (L.take (i+1)).foldl (Ai Q j) o1
  rw[List.take_of_length_le (by omega),List.take_of_length_le (by omega)]
  exact List.prefix_refl _
theorem A0Y {α:Type} (l:List α) (x y:α) (t:List α) {k:Nat} (hk:k=l.length):(l++[x]++t).set k y=l++y :: t:=by
 subst hk
 rw[List.append_assoc,List.set_append_right _ _ (by omega),Nat.sub_self]
 rfl
theorem p7 {Q:List AE} {o o':List Int} {n:Int} (h:o++[n] <+: o'):GL Q o o'=F9 Q o' n :: GL Q (o++[n]) o':=by
 obtain⟨t,rfl⟩:=h
 unfold GL
 rw[List.drop_left,List.append_assoc,List.drop_left]
 rfl
end
/- Functions of unify.classes: graph's visit. -/
section
def uO (h:AM) (p ty:List Int) (ar:List (List (Int×Int))) (M:List Int) (out:List AE):List (Nat×Obj):=[(101,.box 94 true [.p GS h,.sr 102 T3 0 p.length,.sr 103 T3 0 ty.length,.sr 104 Cb 0 ar.length]),(102,.arr 3 T3 p),(103,.arr 3 T3 ty),(104,.arr 86 Cb ar),(105,.box 91 false [.bp 101 [] 0]),(106,.box 40 false [.sr 107 T3 0 M.length]),(107,.arr 3 T3 M),(108,.box 25 true [.sr 109 JK 0 out.length]),(109,.arr 88 JK out),(110,.box 160 false [.clo 103 [105,106,108,110]])]
def A2l (h:AM) (p0 ty:List Int) (ar:List (List (Int×Int))) (k:Nat):Prop:=∀(p o:List Int) (out:List AE) (n:Int),(∃rk,Fo p rk)→D7 p0 p→MJ (quo p0 ty ar) o→out.length=o.length→0≤n→n<(p0.length:Int)→p0.length-o.length≤k →
 FI Tryz.prog 103 [.p T3 n,.bp 105 [] 0,.bp 106 [] 0,.bp 108 [] 0,.bp 110 [] 0] (uO h p ty ar (Jb p0.length o) out) [101,105,106,108,110]
  (fun res objs'=>∃p',(∃rk,Fo p' rk)∧D7 p0 p'∧res=.p T3 (Bw (Ai (quo p0 ty ar) k o (0,DF p0 n)) (DF p0 n))∧objs'=uO h p' ty ar (Jb p0.length (Ai (quo p0 ty ar) k o (0,DF p0 n))) (out++GL (quo p0 ty ar) o (Ai (quo p0 ty ar) k o (0,DF p0 n))))
theorem ZS (h:AM) {p0 ty:List Int} {ar:List (List (Int×Int))} (hf0:∃rk,Fo p0 rk) (hQ:Ag (quo p0 ty ar)) (htl:ty.length=p0.length) (hal:ar.length=p0.length) (har:∀k,∀a∈ar.getD k [],0≤a.2∧a.2<(p0.length:Int)) (k:Nat) (ih:∀j,k=j+1→A2l h p0 ty ar j):A2l h p0 ty ar k:=by
 intro p o out n hfo hsm hdo hol n0 n1 hk
 obtain⟨rk,fo⟩:=hfo
 obtain⟨rk0,fo0⟩:=hf0
 have hr0:=Mw fo0 n0 n1
 have hr1:=FQ fo0 n0 n1 hr0
 have hp:=hQ.1
 rw[DY]at hp
 have hml:=TZ p0.length o
 generalize hn2:DF p0 n=n2 at *
 refine Gw Tryz.func103 (by kernel_rfl) rfl Tryz.ntmps103 (by simp only[List.length_cons,List.length_nil];omega) (by kernel_rfl) rfl rfl (AJ []) AL ?_
 intro w0 K O0 ρ0 hc hok1 hok2
 simp only[uO,Ca]
 repeat'(first|exact trivial|refine eS rfl ?_|refine AB ?_|refine rX [0,1,2,3,4,6,7,8,10,18,49,50,51,52] hc ?_ ?_|refine rC ?_ ?_<;>intro AA<;>try(cases AA;done))
 refine cP 2 hc ?_ ?_
 ·trivial
 ·refine rM hc (XF h ty ar rk fo n0 (by rw[←hsm.1];exact n1)) [(1,.nm 101),(2,.nm 102),(3,.nm 103),(4,.nm 104)] [102,103,104] ?_ ?_ ?_
  ·first|exact eN|refine eM ?_
  ·simp only[Qj]
   first|exact eN|refine eM ?_
  ·rintro _ _ ⟨p1,r1,rfl,rfl,fo1,sm1,rt1⟩
   have sm2:=hsm.trans sm1
   have e:=((hsm.2 n n2 n0 n1).1 hr0).det rt1
   subst e
   refine⟨[(101,.nm 1),(102,.nm 2),(103,.nm 3),(104,.nm 4)],.p T3 n2,[(101,.box 94 true [.p GS h,.sr 102 T3 0 p1.length,.sr 103 T3 0 ty.length,.sr 104 Cb 0 ar.length]),(102,.arr 3 T3 p1),(103,.arr 3 T3 ty),(104,.arr 86 Cb ar)],rfl,rfl,?_,?_,rfl,rfl,?_⟩
   ·simp only[Qj]
    first|exact eN|refine eM ?_
   ·first|exact eN|refine eM ?_
   ·refine rL [0,1,2,3,4,6,7,8,10,18,49,50,51,52] hc ?_ ?_
    ·trivial
    ·repeat'(first|exact trivial|refine eS rfl ?_|refine AB ?_|refine rX [0,1,2,3,4,6,7,8,10,18,49,50,51,52] hc ?_ ?_|refine rC ?_ ?_<;>intro AA<;>try(cases AA;done))
     ·exact⟨hr1.1,by rw[hml];exact hr1.2⟩
     ·exact⟨hr1.1,by rw[hml];exact hr1.2⟩
     ·rw[Ta hr1.1 hr1.2]at AA
      have hin:n2∈o:=Classical.byContradiction fun e=>by rw[if_neg e]at AA;omega
      have hst:Ai (quo p0 ty ar) k o (0,n2)=o:=if_pos hin
      have hid:Bw o n2=(Jb p0.length o).getD n2.toNat 0:=by
       rw[Ta hr1.1 hr1.2,if_pos hin]
       unfold Bw
       rw[if_pos hin]
      refine Ev.ent (σ':=⟨[(6,.p T3 (Bw o n2))],uO h p1 ty ar (Jb p0.length o) out⟩) ?_ (AC [(101,.nm 101),(102,.nm 102),(103,.nm 103),(104,.nm 104),(105,.nm 105),(106,.nm 106),(107,.nm 107),(108,.nm 108),(109,.nm 109),(110,.nm 110)] rfl rfl ?_ ?_)
      ·refine DN hc [.tmp 6] rfl (.inl rfl) (.p T3 (Bw o n2)) eT ⟨p1,⟨rk,fo1⟩,sm2,by rw[hst],?_⟩
       rw[hst,Vd,List.append_nil]
       rfl
      ·unfold uO
       first|exact eN|refine eM ?_
      ·first|exact eN|refine eM ?_
       exact hid.symm
     ·exact⟨hr1.1,by rw[hml];exact hr1.2⟩
     ·refine⟨⟨hr1.1,by rw[htl];exact hr1.2⟩,?_⟩
      have:=hdo.len
      rw[DY]at this
      simp only[AP]
      omega
     ·exact⟨hr1.1,by rw[hal];exact hr1.2⟩
     ·rw[Ta hr1.1 hr1.2]at AA
      have hno:n2∉o:=fun e=>by rw[if_pos e]at AA;omega
      have hd1:=hdo.snoc hr1.1 (by rw[DY];exact hr1.2) hno
      have hl1:=hd1.len
      rw[DY,List.length_append,List.length_singleton]at hl1
      obtain⟨j,rfl⟩:∃j,k=j+1:=⟨k-1,by omega⟩
      have hih:=ih j rfl
      have hnode:=Ja (p:=p0) (ty:=ty) (ar:=ar) hr1.1 hr1.2
      have hxr:=fun a (ha:a∈ar.getD n2.toNat [])=>har n2.toNat a ha
      have hxl:(ar.getD n2.toNat []).length≤100000:=by
       have:=(hQ.2 _ (AD (quo p0 ty ar) (0,[]) (k:=n2.toNat) (by rw[DY];omega))).1
       rw[hnode,List.length_map]at this
       exact this
      have hLr:∀a∈((ar.getD n2.toNat []).map fun a=>(a.1,DF p0 a.2)),0≤a.2∧a.2<((quo p0 ty ar).length:Int):=fun a ha=>by
       refine Bi hQ (n:=n2) ?_
       rw[hnode]
       exact ha
      obtain⟨oo,hplan⟩:∃oo,A5y (quo p0 ty ar) (o++[n2]) ((ar.getD n2.toNat []).map fun a=>(a.1,DF p0 a.2)) j oo:=⟨_,A0X hQ (j:=j) hLr hd1 (by rw[DY,List.length_append,List.length_singleton];omega)⟩
      have hstep:Ai (quo p0 ty ar) (j+1) o (0,n2)=((ar.getD n2.toNat []).map fun a=>(a.1,DF p0 a.2)).foldl (Ai (quo p0 ty ar) j) (o++[n2]):=by
       unfold Ai
       rw[if_neg hno]
       show FW (quo p0 ty ar) (j+1) o n2=_
       rw[Dd,hnode]
       rfl
      rw[←hplan.last,List.length_map]at hstep
      have hlg:=fun(i:Nat) (hi:i<(ar.getD n2.toNat []).length)=>show (((ar.getD n2.toNat []).map fun a=>(a.1,DF p0 a.2)).getD i (0,0))=(((ar.getD n2.toNat []).getD i (0,0)).1,DF p0 ((ar.getD n2.toNat []).getD i (0,0)).2) by
       exact Ve (fun a:Int×Int=>(a.1,DF p0 a.2)) (0,0) (0,0) hi
      rw[hol,vO hr1.1 hr1.2 hno]
      generalize hxs:ar.getD n2.toNat []=xs at *
      refine AK (ι:={s:Nat×List Int//s.1≤xs.length∧(∃rk,Fo s.2 rk)∧D7 p0 s.2}) (fun s=>⟨[(0,.p T3 n2),(1,.bp 105 [] 0),(2,.bp 106 [] 0),(3,.bp 108 [] 0),(4,.bp 110 [] 0),(7,.p (.int .i64) (o.length:Int)),(8,.sr 64 ED 0 ((xs.take s.1.1).map fun a=>(a.1,Bw (oo s.1.1) (DF p0 a.2))).length),(49,.p Cb xs),(50,.p (.int .i64) (xs.length:Int)),(51,.p (.int .i64) (s.1.1:Int))],uO h s.1.2 ty ar (Jb p0.length (oo s.1.1)) (out++[(ty.getD n2.toNat 0,[])]++GL (quo p0 ty ar) (o++[n2]) (oo s.1.1))++[(64,.arr 108 ED ((xs.take s.1.1).map fun a=>(a.1,Bw (oo s.1.1) (DF p0 a.2))))]⟩) (fun s=>xs.length-s.1.1) ⟨(0,p1),Nat.zero_le _,⟨rk,fo1⟩,sm2⟩ (AC [(101,.nm 101),(102,.nm 102),(103,.nm 103),(104,.nm 104),(105,.nm 105),(106,.nm 106),(107,.nm 107),(108,.nm 108),(109,.nm 109),(110,.nm 110),(64,.nil)] rfl rfl ?_ ?_) (fun s=>?_)
      ·unfold uO
       simp only[hplan.zero,Vd,List.append_nil]
       first|exact eN|refine eM ?_
       exact⟨by rw[TZ,TZ],hol.symm⟩
      ·first|exact eN|refine eM ?_
      ·obtain⟨⟨i,q⟩,hi,⟨rkq,hfq⟩,hsq⟩:=s
       have hpre:=hplan.pre i
       have hdi:=hplan.dok i
       have hple:=hpre.length_le
       have hdl:=hdi.len
       rw[List.length_append,List.length_singleton]at hple
       rw[DY]at hdl
       have hlen:(out++[(ty.getD n2.toNat 0,[])]++GL (quo p0 ty ar) (o++[n2]) (oo i)).length=(oo i).length:=by
        unfold GL
        simp only[List.length_append,List.length_singleton,List.length_map,List.length_drop]
        omega
       have hlen2:out.length+1+(GL (quo p0 ty ar) (o++[n2]) (oo i)).length=(oo i).length:=by
        rw[←hlen,List.length_append,List.length_append,List.length_singleton]
       simp only[uO]
       repeat'(first|exact trivial|refine eS rfl ?_|refine AB ?_|refine rX [0,1,2,3,4,6,7,8,10,18,49,50,51,52] hc ?_ ?_|refine rC ?_ ?_<;>intro AA<;>try(cases AA;done))
       ·exact AA
       ·have hiL:i<xs.length:=Int.ofNat_lt.1 AA
        have hxi:=hxr _ (AD xs (0,0) hiL)
        have hsuc:=hplan.succ i (by rw[List.length_map];exact hiL)
        rw[hlg i hiL]at hsuc
        have happ:=vP hpre (hplan.nxt i) (hplan.cls i) hdi.nd
        have hpre2:=hplan.pre (i+1)
        have hlen3:out.length+1+(GL (quo p0 ty ar) (o++[n2]) (oo (i+1))).length=(oo (i+1)).length:=by
         have h1:=hpre2.length_le
         rw[List.length_append,List.length_singleton]at h1
         unfold GL
         simp only[List.length_append,List.length_singleton,List.length_map,List.length_drop]
         omega
        have eA:((xs.take i).map fun a=>(a.1,Bw (oo i) (DF p0 a.2)))++[((xs.getD i (0,0)).1,Bw (oo (i+1)) (DF p0 (xs.getD i (0,0)).2))]=(xs.take (i+1)).map fun a=>(a.1,Bw (oo (i+1)) (DF p0 a.2)):=by
         rw[Df _ xs (0,0) hiL]
         congr 1
         refine List.map_congr_left fun a ha=>?_
         obtain⟨t,ht⟩:=hplan.nxt i
         rw[←ht,Td (hplan.tgt i (a.1,DF p0 a.2) (by rw[←List.map_take];exact List.mem_map.2 ⟨a,ha,rfl⟩))]
        rw[hlen2]
        refine GE drawsAny hc 10 [([3,4,5],6),([1,2],7),([],8),([0],9)] [] (by kernel_rfl) (Uq ?_ ?_)
        ·trivial
        ·refine mxC hc (hih q (oo i) (out++[(ty.getD n2.toNat 0,[])]++GL (quo p0 ty ar) (o++[n2]) (oo i)) (xs.getD i (0,0)).2 ⟨rkq,hfq⟩ hsq hdi hlen hxi.1 hxi.2 (by omega)) [(101,.nm 101),(102,.nm 102),(103,.nm 103),(104,.nm 104),(105,.nm 105),(106,.nm 106),(107,.nm 107),(108,.nm 108),(109,.nm 109),(110,.nm 110)] [102,103,104,107,109] ?_ ?_ ?_
         ·first|exact eN|refine eM ?_
         ·simp only[uO]
          first|exact eN|refine eM ?_
          exact hlen2.symm
         ·rintro _ _ ⟨p',⟨rk',fo'⟩,sm',rfl,rfl⟩
          rw[←hsuc,List.append_assoc _ _ (GL _ (oo i) _),happ]
          refine⟨[(101,.nm 101),(102,.nm 102),(103,.nm 103),(104,.nm 104),(105,.nm 105),(106,.nm 106),(107,.nm 107),(108,.nm 108),(109,.nm 109),(110,.nm 110)],.p T3 (Bw (oo (i+1)) (DF p0 (xs.getD i (0,0)).2)),[(101,.box 94 true [.p GS h,.sr 102 T3 0 p'.length,.sr 103 T3 0 ty.length,.sr 104 Cb 0 ar.length]),(102,.arr 3 T3 p'),(103,.arr 3 T3 ty),(104,.arr 86 Cb ar),(105,.box 91 false [.bp 101 [] 0]),(106,.box 40 false [.sr 107 T3 0 (Jb p0.length (oo (i+1))).length]),(107,.arr 3 T3 (Jb p0.length (oo (i+1)))),(108,.box 25 true [.sr 109 JK 0 (oo (i+1)).length]),(109,.arr 88 JK (out++[(ty.getD n2.toNat 0,[])]++GL (quo p0 ty ar) (o++[n2]) (oo (i+1)))),(110,.box 160 false [.clo 103 [105,106,108,110]])],rfl,rfl,?_,?_,rfl,rfl,rfl,?_⟩
          ·simp only[uO]
           first|exact eN|refine eM ?_
           exact hlen3
          ·first|exact eN|refine eM ?_
          ·refine Uq ?_ ?_
           ·trivial
           ·refine fA hc [] ?_ ?_
            ·trivial
            ·refine Uq ?_ ?_
             ·trivial
             ·refine fA hc [] ?_ ?_
              ·trivial
              ·refine Uq ?_ ?_
               ·trivial
               ·refine fA hc [64] ?_ ?_
                ·rw[List.length_map,List.length_take]
                 simp only[AP]
                 omega
                ·refine qN [0,1,2,3,4,6,7,8,10,18,49,50,51,52] hc ?_ ?_ ?_
                 ·trivial
                 ·trivial
                 ·repeat'(first|exact trivial|refine eS rfl ?_|refine AB ?_|refine rX [0,1,2,3,4,6,7,8,10,18,49,50,51,52] hc ?_ ?_|refine rC ?_ ?_<;>intro AA<;>try(cases AA;done))
                  ·exact eV
                  ·refine⟨⟨(i+1,p'),hiL,⟨rk',fo'⟩,sm'⟩,by simp only;omega,AC [(101,.nm 101),(102,.nm 102),(103,.nm 103),(104,.nm 104),(105,.nm 105),(106,.nm 106),(107,.nm 107),(108,.nm 108),(109,.nm 109),(110,.nm 110),(64,.nm 64)] rfl rfl ?_ ?_⟩
                   ·simp only[uO,←eA]
                    first|exact eN|refine eM ?_
                    exact hlen3.symm
                   ·simp only[←eA]
                    first|exact eN|refine eM ?_
       ·exact Int.ofNat_lt.2 (by omega)
       ·have hie:i=xs.length:=by
         have:=Int.ofNat_le.1 AA
         omega
        subst hie
        obtain⟨t,ht⟩:=hpre
        have hid:Bw (oo xs.length) n2=(o.length:Int):=by
         rw[←ht,Td (by simp)]
         unfold Bw
         rw[if_pos (by simp),Tc hno]
        have hnd:F9 (quo p0 ty ar) (oo xs.length) n2=(ty.getD n2.toNat 0,xs.map fun a=>(a.1,Bw (oo xs.length) (DF p0 a.2))):=by
         unfold F9
         rw[hnode]
         simp only[List.map_map]
         rfl
        have hgd:(out++[(ty.getD n2.toNat 0,([]:List (Int×Int)))]++GL (quo p0 ty ar) (o++[n2]) (oo xs.length)).getD o.length (0,[])=(ty.getD n2.toNat 0,[]):=by
         rw[←hol]
         simp[List.getD_eq_getElem?_getD]
        have hout:=p7 (Q:=quo p0 ty ar) (hplan.pre xs.length)
        rw[hnd]at hout
        rw[List.take_length,hgd,A0Y out _ _ _ hol.symm,←hout]
        have hlen4:out.length+1+(GL (quo p0 ty ar) (o++[n2]) (oo xs.length)).length=(out++GL (quo p0 ty ar) o (oo xs.length)).length:=by
         rw[hout]
         simp only[List.length_append,List.length_cons]
         omega
        rw[hlen4]
        refine Ev.ent (σ':=⟨[(6,.p T3 (Bw (oo xs.length) n2))],uO h q ty ar (Jb p0.length (oo xs.length)) (out++GL (quo p0 ty ar) o (oo xs.length))⟩) ?_ (AC [(101,.nm 101),(102,.nm 102),(103,.nm 103),(104,.nm 104),(105,.nm 105),(106,.nm 106),(107,.nm 107),(108,.nm 108),(109,.nm 109),(110,.nm 110)] rfl rfl ?_ ?_)
        ·exact DN hc [.tmp 6] rfl (.inl rfl) (.p T3 (Bw (oo xs.length) n2)) eT ⟨q,⟨rkq,hfq⟩,hsq,by rw[hstep],by rw[hstep];rfl⟩
        ·unfold uO
         first|exact eN|refine eM ?_
        ·first|exact eN|refine eM ?_
         exact hid.symm
theorem vQ (h:AM) {p0 ty:List Int} {ar:List (List (Int×Int))} (hf0:∃rk,Fo p0 rk) (hQ:Ag (quo p0 ty ar)) (htl:ty.length=p0.length) (hal:ar.length=p0.length) (har:∀k,∀a∈ar.getD k [],0≤a.2∧a.2<(p0.length:Int)):∀k,A2l h p0 ty ar k
 | 0=>ZS h hf0 hQ htl hal har 0 (fun j e=>by cases e)
 | k+1=>ZS h hf0 hQ htl hal har (k+1) (fun j e=>by cases e;exact vQ h hf0 hQ htl hal har k)
end
/- Plain: grammarlabref11.Close finds the least closed relation. -/
section
inductive EQ (n:Nat) (o:List Int) (W:List (Int×Int)):Int→Int→Prop
 | cls {x y:Int} (x0:0≤x) (x1:x<(n:Int)) (y0:0≤y) (y1:y<(n:Int)) (h:o.getD x.toNat 0=o.getD y.toNat 0):EQ n o W x y
 | wt {x y:Int} (h:(x,y)∈W):EQ n o W x y
 | symm {x y:Int} (h:EQ n o W x y):EQ n o W y x
 | trans {x y z:Int} (h:EQ n o W x y) (g:EQ n o W y z):EQ n o W x z
theorem EQ.mono {n:Nat} {o o':List Int} {W W':List (Int×Int)} (h1:∀x y,0≤x→x<(n:Int)→0≤y→y<(n:Int)→o.getD x.toNat 0=o.getD y.toNat 0→EQ n o' W' x y) (h2:∀x y,(x,y)∈W→EQ n o' W' x y) {x y:Int} (h:EQ n o W x y):EQ n o' W' x y:=by
 induction h with
 | cls x0 x1 y0 y1 h=>exact h1 _ _ x0 x1 y0 y1 h
 | wt h=>exact h2 _ _ h
 | symm _ ih=>exact .symm ih
 | trans _ _ ih1 ih2=>exact .trans ih1 ih2
theorem EQ.nil {n:Nat} {o:List Int} {x y:Int} (h:EQ n o [] x y):o.getD x.toNat 0=o.getD y.toNat 0:=by
 induction h with
 | cls _ _ _ _ h=>exact h
 | wt h=>cases h
 | symm _ ih=>exact ih.symm
 | trans _ _ ih1 ih2=>exact ih1.trans ih2
structure JC (h:AM) (N:List AE) (P:List (Int×Int)) (o:List Int) (ar:List (List (Int×Int))) (W:List (Int×Int)):Prop where
 ci:CI N.length o ar W
 nd:∀k,((ar.getD k []).map (·.1)).Nodup
 sp:∀q∈P,EQ N.length o W q.1 q.2
 sa:∀x,0≤x→x<(N.length:Int)→∀a∈AW N x,∃t,(a.1,t)∈ar.getD (o.getD x.toNat 0).toNat []∧EQ N.length o W a.2 t
 co:∀X v,RW h N P X v→(∀x,0≤x→x<(N.length:Int)→v x=v (o.getD x.toNat 0))∧(∀w∈W,v w.1=v w.2)∧(∀r,0≤r→r<(N.length:Int)→o.getD r.toNat 0=r→∀a∈ar.getD r.toNat [],Ly (AW X (v r)) a.1=v a.2)
section
variable {h:AM} {N:List AE} {P:List (Int×Int)} {o:List Int} {ar:List (List (Int×Int))} {W:List (Int×Int)} {w:Int×Int}
theorem XI (o:List Int) (x y:Int):(Dc o x y=o.getD x.toNat 0∧B3 o x y=o.getD y.toNat 0)∨(Dc o x y=o.getD y.toNat 0∧B3 o x y=o.getD x.toNat 0):=by
 unfold Dc B3
 by_cases e1:o.getD y.toNat 0<o.getD x.toNat 0
 ·rw[if_pos e1,if_neg (by omega)];exact .inr ⟨rfl,rfl⟩
 ·rw[if_neg e1]
  by_cases e2:o.getD x.toNat 0<o.getD y.toNat 0
  ·rw[if_pos e2];exact .inl ⟨rfl,rfl⟩
  ·rw[if_neg e2];exact .inl ⟨rfl,by omega⟩
theorem A0Z (hj:JC h N P o ar (w :: W)) (he:Dc o w.1 w.2=B3 o w.1 w.2):JC h N P o ar W:=by
 have hw:=hj.ci.wr w (by simp)
 have hee:o.getD w.1.toNat 0=o.getD w.2.toNat 0:=by
  rcases XI o w.1 w.2 with ⟨h1,h2⟩|⟨h1,h2⟩
  ·rw[←h1,←h2,he]
  ·rw[←h1,←h2,he]
 have hm:∀ {x y},EQ N.length o (w :: W) x y→EQ N.length o W x y:=fun {x y} g=>g.mono (fun x y x0 x1 y0 y1 e=>.cls x0 x1 y0 y1 e) fun x y hxy=>by
  rcases List.mem_cons.1 hxy with e|e
  ·subst e;exact .cls hw.1.1 hw.1.2 hw.2.1 hw.2.2 hee
  ·exact .wt e
 refine⟨l9 hj.ci,hj.nd,fun q hq=>hm (hj.sp q hq),fun x x0 x1 a ha=>?_,fun X v hv=>?_⟩
 ·obtain⟨t,h1,h2⟩:=hj.sa x x0 x1 a ha
  exact⟨t,h1,hm h2⟩
 ·obtain⟨h1,h2,h3⟩:=hj.co X v hv
  exact⟨h1,fun u hu=>h2 u (List.mem_cons_of_mem _ hu),h3⟩
theorem A10 {l g:List (Int×Int)} (hl:(l.map (·.1)).Nodup) (hg:(g.map (·.1)).Nodup):((E1 l g).map (·.1)).Nodup:=by
 unfold E1
 rw[List.map_append,List.nodup_append]
 refine⟨hl,(hg.sublist ((List.filter_sublist).map _)),fun x hx y hy e=>?_⟩
 obtain⟨a,ha,rfl⟩:=List.mem_map.1 hx
 obtain⟨b,hb,rfl⟩:=List.mem_map.1 hy
 have hb:=(List.mem_filter.1 hb).2
 rw[Sb a ha e]at hb
 cases hb
theorem vR (hj:JC h N P o ar (w :: W)) (hne:Dc o w.1 w.2≠B3 o w.1 w.2) :
  JC h N P (Bc o w.1 w.2) (ar.set (Dc o w.1 w.2).toNat (E1 (ar.getD (Dc o w.1 w.2).toNat []) (ar.getD (B3 o w.1 w.2).toNat []))) (W++Di (ar.getD (Dc o w.1 w.2).toNat []) (ar.getD (B3 o w.1 w.2).toNat [])):=by
 have hw:=hj.ci.wr w (by simp)
 have hLH:=tP hj.ci hw.1.1 hw.1.2 hw.2.1 hw.2.2 hne
 have hci:=Ya (l9 hj.ci) hLH
 have hg:=fun(k:Nat) (hk:k<N.length)=>LX (m:=w.1) (n:=w.2) (show k<o.length by rw[hj.ci.lo];exact hk)
 have hlh:=XI o w.1 w.2
 have hla:=hj.ci.la
 have hrng:=fun x=>hj.ci.rng (x:=x)
 generalize Bc o w.1 w.2=o' at *
 generalize Dc o w.1 w.2=lo at *
 generalize B3 o w.1 w.2=hi at *
 obtain⟨l0,lt,h1,rl,rh⟩:=hLH
 have hgx:∀x,0≤x→x<(N.length:Int)→o'.getD x.toNat 0=GF hi lo (o.getD x.toNat 0):=fun x x0 x1=>hg _ (by omega)
 have hww:o'.getD w.1.toNat 0=o'.getD w.2.toNat 0:=by
  rw[hgx _ hw.1.1 hw.1.2,hgx _ hw.2.1 hw.2.2]
  rcases hlh with ⟨e1,e2⟩|⟨e1,e2⟩
  ·rw[←e1,←e2,G8,GG (by omega)]
  ·rw[←e1,←e2,G8,GG (by omega)]
 generalize hW':W++Di (ar.getD lo.toNat []) (ar.getD hi.toNat [])=W' at *
 have hm:∀ {x y},EQ N.length o (w :: W) x y→EQ N.length o' W' x y:=fun {x y} g=>g.mono (fun x y x0 x1 y0 y1 e=>.cls x0 x1 y0 y1 (by rw[hgx x x0 x1,hgx y y0 y1,e])) fun x y hxy=>by
  rcases List.mem_cons.1 hxy with e|e
  ·subst e;exact .cls hw.1.1 hw.1.2 hw.2.1 hw.2.2 hww
  ·exact .wt (by rw[←hW'];exact List.mem_append_left _ e)
 have hadd:∀x∈ar.getD hi.toNat [],(CK (ar.getD lo.toNat []) x.1).2=true→((CK (ar.getD lo.toNat []) x.1).1,x.2)∈W':=fun x hx ht=>by
  rw[←hW']
  exact List.mem_append_right _ (List.mem_filterMap.2 ⟨x,hx,by rw[if_pos ht]⟩)
 refine⟨hci,fun k=>?_,fun q hq=>hm (hj.sp q hq),fun x x0 x1 a ha=>?_,fun X v hv=>?_⟩
 ·rw[G7 _ _ _ _ (by omega)]
  split
  ·exact A10 (hj.nd _) (hj.nd _)
  ·exact hj.nd k
 ·obtain⟨t,g1,g2⟩:=hj.sa x x0 x1 a ha
  have g2:=hm g2
  rw[hgx x x0 x1]
  obtain⟨r0,r1,r2⟩:=hrng x x0 x1
  by_cases e:o.getD x.toNat 0=hi
  ·rw[e,G8]
   rw[e]at g1
   rw[G7 _ _ _ _ (by omega),if_pos rfl]
   cases ht:(CK (ar.getD lo.toNat []) a.1).2 with
   | true=>exact⟨_,List.mem_append_left _ (LW ht),g2.trans (.symm (.wt (hadd (a.1,t) g1 ht)))⟩
   | false=>exact⟨t,List.mem_append_right _ (List.mem_filter.2 ⟨g1,by show (!(CK (ar.getD lo.toNat []) a.1).2)=true;rw[ht];rfl⟩),g2⟩
  ·rw[GG e,G7 _ _ _ _ (by omega)]
   split
   ·rename_i e2
    refine⟨t,List.mem_append_left _ ?_,g2⟩
    rw[←e2];exact g1
   ·exact⟨t,g1,g2⟩
 ·obtain⟨c1,c2,c3⟩:=hj.co X v hv
  have hv1:v lo=v hi:=by
   have e:=c2 w (by simp)
   have e1:=c1 w.1 hw.1.1 hw.1.2
   have e2:=c1 w.2 hw.2.1 hw.2.2
   rcases hlh with ⟨e3,e4⟩|⟨e3,e4⟩
   ·rw[e3,e4,←e1,←e2,e]
   ·rw[e3,e4,←e1,←e2,e]
  refine⟨fun x x0 x1=>?_,fun u hu=>?_,fun r r0 r1 hr a ha=>?_⟩
  ·rw[hgx x x0 x1,c1 x x0 x1]
   by_cases e:o.getD x.toNat 0=hi
   ·rw[e,G8,hv1]
   ·rw[GG e]
  ·rw[←hW']at hu
   rcases List.mem_append.1 hu with hu|hu
   ·exact c2 u (List.mem_cons_of_mem _ hu)
   ·obtain⟨a,ha,he⟩:=List.mem_filterMap.1 hu
    split at he
    ·rename_i ht
     cases he
     have e1:=c3 lo l0 (by omega) rl _ (LW ht)
     have e2:=c3 hi (by omega) h1 rh a ha
     rw[←hv1,e1]at e2
     exact e2
    ·cases he
  ·rw[G7 _ _ _ _ (by omega)]at ha
   rw[hgx r r0 r1]at hr
   have hro:o.getD r.toNat 0=r:=by
    by_cases e:o.getD r.toNat 0=hi
    ·rw[e,G8]at hr
     rw[←hr];exact rl
    ·rw[GG e]at hr;exact hr
   split at ha
   ·rename_i e2
    have e2:r=lo:=by omega
    rcases List.mem_append.1 ha with ha|ha
    ·rw[e2];exact c3 lo l0 (by omega) rl a ha
    ·rw[e2,hv1];exact c3 hi (by omega) h1 rh a (List.mem_filter.1 ha).1
   ·exact c3 r r0 r1 hro a ha
end
theorem Te {h:AM} {N:List AE} {P:List (Int×Int)}:∀(k:Nat) {o:List Int} {ar:List (List (Int×Int))} {W:List (Int×Int)},JC h N P o ar W→Me o ar+W.length≤k→∃ar',JC h N P (H8 k o ar W) ar' []
 | 0,o,ar,W,hj,hk=>by
  have:W=[]:=List.eq_nil_of_length_eq_zero (by omega)
  subst this
  exact⟨ar,hj⟩
 | k+1,o,ar,[],hj,hk=>⟨ar,hj⟩
 | k+1,o,ar,w :: W,hj,hk=>by
  simp only[H8]
  simp only[List.length_cons]at hk
  split
  ·rename_i he
   exact Te k (A0Z hj he) (by omega)
  ·rename_i hne
   have hw:=hj.ci.wr w (by simp)
   have hLH:=tP hj.ci hw.1.1 hw.1.2 hw.2.1 hw.2.2 hne
   have hws:=Sc hj.ci hLH
   exact Te k (vR hj hne) (by rw[List.length_append];omega)
theorem vS {c:List Int} {n:Nat} {w:Int×Int} (hw:w∈Dz c n):∃k:Nat,k<n∧c.getD k 0≠(k:Int)∧w=((k:Int),c.getD k 0):=by
 unfold Dz at hw
 obtain⟨k,hk,rfl⟩:=List.mem_map.1 hw
 obtain⟨h1,h2⟩:=List.mem_filter.1 hk
 exact⟨k,List.mem_range.1 h1,by simpa using h2,rfl⟩
theorem vT {c:List Int} {n k:Nat} (hk:k<n) (h:c.getD k 0≠(k:Int)):((k:Int),c.getD k 0)∈Dz c n:=by
 unfold Dz
 exact List.mem_map.2 ⟨k,List.mem_filter.2 ⟨List.mem_range.2 hk,by simpa using h⟩,rfl⟩
theorem Ku {n:Nat} {x y:Int} (x0:0≤x) (x1:x<(n:Int)) (y0:0≤y) (y1:y<(n:Int)):((Dc (Al n) x y=x∧B3 (Al n) x y=y)∨(Dc (Al n) x y=y∧B3 (Al n) x y=x))∧∀k:Nat,k<n→(Bc (Al n) x y).getD k 0=GF (B3 (Al n) x y) (Dc (Al n) x y) (k:Int):=by
 have e1:(Al n).getD x.toNat 0=x:=by rw[Ej (by omega)];omega
 have e2:(Al n).getD y.toNat 0=y:=by rw[Ej (by omega)];omega
 refine⟨?_,fun k hk=>?_⟩
 ·have:=XI (Al n) x y
  rw[e1,e2]at this
  exact this
 ·rw[LX (by rw[Bp];exact hk),Ej hk]
theorem vU {h:AM} {N:List AE} (hg:Ag N) (hs:∀k,((N.getD k (0,[])).2.map (·.1)).Nodup) {x y:Int} (x0:0≤x) (x1:x<(N.length:Int)) (y0:0≤y) (y1:y<(N.length:Int)):JC h N [(x,y)] (Al N.length) (FY N) (Dz (Bc (Al N.length) x y) N.length):=by
 obtain⟨hlh,hmg⟩:=Ku x0 x1 y0 y1
 have hml:=Gh (Al N.length) x y
 rw[Bp]at hml
 generalize Bc (Al N.length) x y=c at *
 generalize Dc (Al N.length) x y=lo at *
 generalize B3 (Al N.length) x y=hi at *
 have hcr:∀z∈c,0≤z∧z<(N.length:Int):=fun z hz=>by
  obtain⟨k,hk,rfl⟩:=List.mem_iff_getElem.1 hz
  have:=hmg k (by omega)
  rw[List.getD_eq_getElem?_getD,List.getElem?_eq_getElem hk]at this
  simp only[Option.getD_some]at this
  rw[this]
  unfold GF
  split
  ·rcases hlh with ⟨e,_⟩|⟨e,_⟩<;>rw[e]<;>omega
  ·omega
 have hxy:lo≠hi→(hi,lo)∈Dz c N.length:=fun hne=>by
  have h0:0≤hi∧hi<(N.length:Int):=by rcases hlh with ⟨_,e⟩|⟨_,e⟩<;>rw[e]<;>omega
  have e1:((hi.toNat:Nat):Int)=hi:=by omega
  have e2:=hmg hi.toNat (by omega)
  rw[e1,G8]at e2
  have:=vT (c:=c) (n:=N.length) (k:=hi.toNat) (by omega) (by rw[e2,e1];exact hne)
  rw[e1,e2]at this
  exact this
 refine⟨Yd hg hcr hml,fun k=>?_,fun q hq=>?_,fun z z0 z1 a ha=>?_,fun X v hv=>?_⟩
 ·rw[Ie]
  exact hs k
 ·have:q=(x,y):=by simpa using hq
  subst this
  simp only
  by_cases e:lo=hi
  ·have:x=y:=by rcases hlh with ⟨e1,e2⟩|⟨e1,e2⟩<;>omega
   subst this
   exact .cls x0 x1 x0 x1 rfl
  ·rcases hlh with ⟨e1,e2⟩|⟨e1,e2⟩
   ·rw[←e1,←e2];exact .symm (.wt (hxy e))
   ·rw[←e1,←e2];exact .wt (hxy e)
 ·refine⟨a.2,?_,?_⟩
  ·rw[Ej (by omega),Ie,Int.toNat_natCast]
   exact ha
  ·have:=(hg.2 _ (AD N (0,[]) (k:=z.toNat) (by omega))).2 a ha
   exact .cls this.1 this.2 this.1 this.2 rfl
 ·refine⟨fun z z0 z1=>?_,fun w hw=>?_,fun r r0 r1 _ a ha=>?_⟩
  ·rw[Ej (by omega)]
   congr 1
   omega
  ·obtain⟨k,hk,hne,rfl⟩:=vS hw
   simp only
   rw[hmg k hk]at hne ⊢
   by_cases e:(k:Int)=hi
   ·rw[e,G8]
    have hq:=hv.eq (x,y) (by simp)
    simp only at hq
    rcases hlh with ⟨e1,e2⟩|⟨e1,e2⟩
    ·rw[e1,e2];exact hq.symm
    ·rw[e1,e2];exact hq
   ·rw[GG e]at hne
    exact absurd rfl hne
  ·rw[Ie]at ha
   exact hv.arc r r0 r1 a ha
theorem A2m {N:List AE} (hs:∀x∈N,Oa x.2) (k:Nat):((N.getD k (0,[])).2.map (·.1)).Nodup:=by
 have:Oa (N.getD k (0,[])).2:=by
  by_cases hk:k<N.length
  ·exact hs _ (AD N (0,[]) hk)
  ·rw[List.getD_eq_getElem?_getD,List.getElem?_eq_none (by omega)];exact List.Pairwise.nil
 rw[List.Nodup,List.pairwise_map]
 exact this.imp fun h e=>by omega
theorem Pb {h:AM} {N:List AE} (hg:Ag N) (hs:∀k,((N.getD k (0,[])).2.map (·.1)).Nodup) {x y:Int} (x0:0≤x) (x1:x<(N.length:Int)) (y0:0≤y) (y1:y<(N.length:Int)):∃ar,JC h N [(x,y)] (JP N (Bc (Al N.length) x y)) ar [] :=
 Te _ (vU hg hs x0 x1 y0 y1) (Nat.le_refl _)
end
/- Functions of unify.classes: graph. -/
section
theorem vV (len:Nat):Jb len []=List.replicate len (-1):=by
 unfold Jb
 apply List.ext_getElem
 ·simp
 ·intro i h1 h2
  simp
theorem vW {α:Type} (x y:α) {n i:Nat} (h:i<n):(List.replicate i x++List.replicate (n-i) y).set i x=List.replicate (i+1) x++List.replicate (n-(i+1)) y:=by
 obtain⟨m,hm⟩:∃m,n-i=m+1:=⟨n-i-1,by omega⟩
 have hm2:n-(i+1)=m:=by omega
 rw[hm,hm2,List.set_append_right _ _ (by simp),List.length_replicate,Nat.sub_self,List.replicate_succ,List.set_cons_zero,List.replicate_succ',List.append_assoc]
 rfl
theorem ZT (h:AM) {p ty:List Int} {ar:List (List (Int×Int))} (hf0:∃rk,Fo p rk) (hQ:Ag (quo p ty ar)) (htl:ty.length=p.length) (hal:ar.length=p.length) (har:∀k,∀a∈ar.getD k [],0≤a.2∧a.2<(p.length:Int)) {r:Int} (r0:0≤r) (r1:r<(p.length:Int)) :
  FI Tryz.prog 62 [.bp 101 [] 0,.p T3 r] (RZ h p ty ar) [101]
  (fun res _=>res=.p Ei (AR (quo p ty ar) (DF p r))):=by
 have hvis:=vQ h hf0 hQ htl hal har p.length p [] [] r hf0 (D7.refl p) ⟨by simp,fun x hx=>by cases hx⟩ rfl r0 r1 (by simp)
 have hcan:GL (quo p ty ar) [] (Ai (quo p ty ar) p.length [] (0,DF p r))=AR (quo p ty ar) (DF p r):=by
  have e:Ai (quo p ty ar) p.length [] (0,DF p r)=FW (quo p ty ar) p.length [] (DF p r):=if_neg (by simp)
  rw[e]
  unfold GL AR
  rw[DY]
  rfl
 rw[List.nil_append,hcan,vV]at hvis
 have hpl:=hQ.1
 rw[DY]at hpl
 generalize AR (quo p ty ar) (DF p r)=G at *
 generalize Bw _ _=z at hvis
 generalize Jb _ _=M at hvis
 refine Gw Tryz.func62 (by kernel_rfl) rfl Tryz.ntmps62 (by simp only[List.length_cons,List.length_nil];omega) (by kernel_rfl) rfl rfl (AJ []) AL ?_
 intro w0 K O0 ρ0 hc hok1 hok2
 simp only[RZ,Ca]
 repeat'(first|exact trivial|refine eS rfl ?_|refine AB ?_|refine rX [0,1,2,4,5,6,7,8,16,17,18] hc ?_ ?_|refine rC ?_ ?_<;>intro AA<;>try(cases AA;done))
 ·simp only[AP];omega
 ·refine AK (ι:={i:Nat//i≤p.length}) (fun i=>⟨[(0,.bp 101 [] 0),(1,.p T3 r),(2,.bp 2 [] 0),(4,.bp 4 [] 0),(5,.bp 5 [] 0),(16,.p (.int .i64) (p.length:Int)),(17,.p (.int .i64) (i.1:Int))],[(5,.box 40 false [.sr 14 T3 0 p.length]),(14,.arr 3 T3 (List.replicate i.1 (-1)++List.replicate (p.length-i.1) 0)),(4,.box 25 true [.raw (.slice none 0 0)]),(2,.box 91 false [.bp 101 [] 0]),(101,.box 94 true [.p GS h,.sr 102 T3 0 p.length,.sr 103 T3 0 ty.length,.sr 104 Cb 0 ar.length]),(102,.arr 3 T3 p),(103,.arr 3 T3 ty),(104,.arr 86 Cb ar)]⟩) (fun i=>p.length-i.1) ⟨0,by omega⟩ (AC [(5,.nm 5),(14,.nm 14),(4,.nm 4),(2,.nm 2),(101,.nm 101),(102,.nm 102),(103,.nm 103),(104,.nm 104)] rfl rfl ?_ ?_) (fun i=>?_)
  ·first|exact eN|refine eM ?_
   rfl
  ·first|exact eN|refine eM ?_
  ·obtain⟨i,hi⟩:=i
   simp only
   repeat'(first|exact trivial|refine eS rfl ?_|refine AB ?_|refine rX [0,1,2,4,5,6,7,8,16,17,18] hc ?_ ?_|refine rC ?_ ?_<;>intro AA<;>try(cases AA;done))
   ·exact AA
   ·exact eV
   ·have hip:i<p.length:=Int.ofNat_lt.1 AA
    refine⟨⟨i+1,hip⟩,by simp only;omega,AC [(5,.nm 5),(14,.nm 14),(4,.nm 4),(2,.nm 2),(101,.nm 101),(102,.nm 102),(103,.nm 103),(104,.nm 104)] rfl rfl ?_ ?_⟩
    ·first|exact eN|refine eM ?_
     exact vW _ _ hip
    ·first|exact eN|refine eM ?_
   ·have hie:i=p.length:=by
     have:=Int.ofNat_le.1 AA
     omega
    subst hie
    rw[Nat.sub_self,List.replicate_zero,List.append_nil]
    refine cP 2 hc ?_ ?_
    ·trivial
    ·refine rM hc (hvis) [(101,.nm 101),(102,.nm 102),(103,.nm 103),(104,.nm 104),(105,.nm 2),(106,.nm 5),(107,.nm 14),(108,.nm 7),(109,.nil),(110,.nm 8)] [102,103,104,14] ?_ ?_ ?_
     ·first|exact eN|refine eM ?_
     ·simp only[uO]
      first|exact eN|refine eM ?_
      exact List.length_replicate.symm
     ·rintro _ _ ⟨p',hfo',sm',rfl,rfl⟩
      refine⟨[(101,.nm 101),(102,.nm 102),(103,.nm 103),(104,.nm 104),(2,.nm 105),(5,.nm 106),(14,.nm 107),(7,.nm 108),(120,.nm 109),(8,.nm 110)],.p T3 z,[(101,.box 94 true [.p GS h,.sr 102 T3 0 p'.length,.sr 103 T3 0 ty.length,.sr 104 Cb 0 ar.length]),(102,.arr 3 T3 p'),(103,.arr 3 T3 ty),(104,.arr 86 Cb ar),(2,.box 91 false [.bp 101 [] 0]),(5,.box 40 false [.sr 14 T3 0 M.length]),(14,.arr 3 T3 M),(7,.box 25 true [.sr 120 JK 0 G.length]),(120,.arr 88 JK G),(8,.box 160 false [.clo 103 [2,5,7,8]])],rfl,rfl,?_,?_,rfl,rfl,Ga ?_⟩
      ·simp only[uO]
       first|exact eN|refine eM ?_
      ·first|exact eN|refine eM ?_
      ·refine Gb [120] ?_
       repeat'(first|exact trivial|refine eS rfl ?_|refine AB ?_|refine rX [0,1,2,4,5,6,7,8,16,17,18] hc ?_ ?_|refine rC ?_ ?_<;>intro AA<;>try(cases AA;done))
       exact DN hc [.cell 4 25] rfl (.inl rfl) (.p Ei G) eT rfl
end
/- Plain: the graph of the classes is the most general structure into which the nodes go so that the pairs are one. -/
section
structure A5z (f:List AE) (r:Int) (o:List Int):Prop where
 ok:MJ f o
 zero:o.getD 0 0=r∧0<o.length
 cl:∀n∈o,∀a∈AW f n,a.2∈o
theorem mX {f:List AE} (hf:Ag f) {r:Int} (r0:0≤r) (r1:r<(f.length:Int)):A5z f r (FW f f.length [] r):=by
 have h1:=D6 hf f.length [] r (Gc f) r0 r1 (by simp)
 have h2:=HP hf f.length [] r (Gc f) r0 r1 (by simp) (by simp)
 have h3:[r] <+: FW f f.length [] r:=by
  obtain⟨k,hk⟩:∃k,f.length=k+1:=⟨f.length-1,by omega⟩
  rw[hk,Dd]
  exact(Ed (D6 hf k) _ _ (fun a ha=>Bi hf ha) ((Gc f).snoc r0 r1 (by simp))).2
 refine⟨h1.1,?_,fun n hn a ha=>?_⟩
 ·obtain⟨t,ht⟩:=h3
  rw[←ht]
  exact⟨rfl,by simp⟩
 ·rcases h2.2 n hn with h|h
  ·cases h
  ·exact h a ha
theorem ZU {f:List AE} {r:Int} {i:Nat} (hi:i<(FW f f.length [] r).length):(AR f r).getD i (0,[])=F9 f (FW f f.length [] r) ((FW f f.length [] r).getD i 0):=by
 unfold AR
 simp[List.getD_eq_getElem?_getD,hi]
theorem ZV (f:List AE) (r:Int):(AR f r).length=(FW f f.length [] r).length:=by simp[AR]
def AO (f g:List AE):List AE:=f++g.map fun x=>(x.1,BA f.length x.2)
theorem BB (f g:List AE):(AO f g).length=f.length+g.length:=by simp[AO]
theorem Mx {f g:List AE} {x:Int} (x0:0≤x) (x1:x<(f.length:Int)):(AO f g).getD x.toNat (0,[])=f.getD x.toNat (0,[]):=by
 unfold AO
 rw[List.getD_eq_getElem?_getD,List.getD_eq_getElem?_getD,List.getElem?_append_left (by omega)]
theorem Kv {f g:List AE} {y:Int} (y0:0≤y) (y1:y<(g.length:Int)):(AO f g).getD ((f.length:Int)+y).toNat (0,[])=((g.getD y.toNat (0,[])).1,BA f.length (g.getD y.toNat (0,[])).2):=by
 unfold AO
 have e:((f.length:Int)+y).toNat=f.length+y.toNat:=by omega
 rw[e,List.getD_eq_getElem?_getD,List.getElem?_append_right (by omega),Nat.add_sub_cancel_left]
 rw[←List.getD_eq_getElem?_getD]
 exact Ve (fun x:AE=>(x.1,BA f.length x.2)) (0,[]) (0,[]) (by omega)
theorem mY {n:Nat} {p:List Int} {x y:Int} (h:EG n p [] x y):DF p x=DF p y:=by
 induction h with
 | cls _ _ _ _ h g=>rw[TY h,TY g]
 | wt h=>cases h
 | symm _ ih=>exact ih.symm
 | trans _ _ ih1 ih2=>exact ih1.trans ih2
noncomputable abbrev Kw (p ty:List Int) (ar:List (List (Int×Int))):List Int:=FW (quo p ty ar) (quo p ty ar).length [] (DF p 0)
structure vY (h:AM) (N:List AE) (P:List (Int×Int)) (U:List AE) (v:Int→Int):Prop where
 good:Ag U
 pos:0<U.length
 str:∀x∈U,Oa x.2
 feat:∀x∈U,∀a∈x.2,a.1∈CE N
 ty:EH h U
 ro:RO U
 zero:v 0=0
 proj:RW h N P U v
 least:∀X w,EH h X→RW h N P X w→w 0=0→∃m,Lz h U X m
 len:U.length≤N.length
section
variable {h:AM} {N:List AE} {P:List (Int×Int)} {p ty:List Int} {ar:List (List (Int×Int))}
theorem Pc (hj:JI h N P p ty ar []) (hQ:Ag (quo p ty ar)) (hN:0<N.length):A5z (quo p ty ar) (DF p 0) (Kw p ty ar):=by
 obtain⟨rk,fo⟩:=hj.fo
 have lp:=hj.lp
 have:=FQ fo (x:=0) (by omega) (by omega) (Mw fo (by omega) (by omega))
 exact mX hQ this.1 (by rw[DY];exact this.2)
theorem Jc (hj:JI h N P p ty ar []) (hQ:Ag (quo p ty ar)) (hN:0<N.length):DF p 0∈Kw p ty ar:=by
 have ho:=Pc hj hQ hN
 have:=AD (Kw p ty ar) 0 ho.zero.2
 rw[ho.zero.1]at this
 exact this
theorem Tf (hj:JI h N P p ty ar []) {x y:Int} (hq:(x,y)∈P) (hx:DF p x∈Kw p ty ar):DF p y∈Kw p ty ar:=by
 rw[←mY (hj.sp (x,y) hq)]
 exact hx
theorem Tg (hj:JI h N P p ty ar []) (hQ:Ag (quo p ty ar)) (hN:0<N.length) {x:Int} (x0:0≤x) (x1:x<(N.length:Int)) (hx:DF p x∈Kw p ty ar) {a:Int×Int} (ha:a∈AW N x):DF p a.2∈Kw p ty ar:=by
 obtain⟨rk,fo⟩:=hj.fo
 have lp:=hj.lp
 obtain⟨t,ht,he⟩:=hj.sa x _ x0 x1 (Mw fo x0 (by omega)) a ha
 rw[mY he]
 have hr:=FQ fo x0 (by omega) (Mw fo x0 (by omega))
 refine(Pc hj hQ hN).cl _ hx (a.1,DF p t) ?_
 rw[AW,Ja hr.1 hr.2]
 exact List.mem_map.2 ⟨(a.1,t),ht,rfl⟩
def XJ (N:List AE) (k:Nat) (g:List AE):Prop:=∀i:Int,0≤i→i<(g.length:Int)→(k:Int)+i<(N.length:Int)∧N.getD ((k:Int)+i).toNat (0,[])=((g.getD i.toNat (0,[])).1,BA k (g.getD i.toNat (0,[])).2)
theorem HQ (hj:JI h N P p ty ar []) (hQ:Ag (quo p ty ar)) (hN:0<N.length) {k:Nat} {g:List AE} (hc:XJ N k g) (rg:RO g) (hk:DF p (k:Int)∈Kw p ty ar):∀(n:Nat) (i:Int),i.toNat≤n→0≤i→i<(g.length:Int)→DF p ((k:Int)+i)∈Kw p ty ar:=by
 intro n
 induction n with
 | zero =>
  intro i hn i0 i1
  have:i=0:=by omega
  subst this
  rw[Int.add_zero]
  exact hk
 | succ n ih =>
  intro i hn i0 i1
  by_cases hi:i=0
  ·subst hi
   rw[Int.add_zero]
   exact hk
  ·obtain⟨j,j0,j1,a,ha,rfl⟩:=rg i (by omega) i1
   have hcj:=hc j j0 (by omega)
   have:=Tg hj hQ hN (x:=(k:Int)+j) (by omega) hcj.1 (ih j (by omega) j0 (by omega)) (a:=(a.1,a.2+(k:Int))) (by
    rw[AW,hcj.2]
    exact List.mem_map.2 ⟨a,ha,rfl⟩)
   rw[Int.add_comm]
   exact this
end
theorem Kx {h:AM} {N:List AE} {P:List (Int×Int)} {U:List AE} {v:Int→Int} (hx:RW h N P U v) {k:Nat} {g:List AE} (hc:XJ N k g) (hz:v (k:Int)=0):Lz h g U fun i=>v ((k:Int)+i):=by
 refine⟨by show v ((k:Int)+0)=0;rw[Int.add_zero];exact hz,fun i i0 i1=>?_,fun i i0 i1=>?_,fun i i0 i1 a ha=>?_⟩
 ·exact hx.rng _ (by omega) (hc i i0 i1).1
 ·have:=hx.ty _ (by omega) (hc i i0 i1).1
  rw[(hc i i0 i1).2]at this
  exact this
 ·have:=hx.arc _ (by omega) (hc i i0 i1).1 (a.1,a.2+(k:Int)) (by
   rw[AW,(hc i i0 i1).2]
   exact List.mem_map.2 ⟨a,ha,rfl⟩)
  rw[Int.add_comm (k:Int) a.2]
  exact this
theorem Gd {h:AM} {g X:List AE} {m:Int→Int} (hm:Lz h g X m):RW h g [] X m:=⟨hm.rng,hm.ty,hm.arc,fun q hq=>by cases hq⟩
theorem Ky {h:AM} {f g X:List AE} (hf:Ag f) (hg:Ag g) {v w:Int→Int} (h1:RW h f [] X v) (h2:RW h g [] X w):RW h (AO f g) [] X (fun x=>if x<(f.length:Int) then v x else w (x-(f.length:Int))):=by
 have hl:=BB f g
 refine⟨fun x x0 x1=>?_,fun x x0 x1=>?_,fun x x0 x1 a ha=>?_,fun q hq=>by cases hq⟩
 ·rw[hl]at x1
  show _∧_
  try simp only
  split
  ·exact h1.rng x x0 (by assumption)
  ·exact h2.rng _ (by omega) (by omega)
 ·rw[hl]at x1
  try simp only
  by_cases hx:x<(f.length:Int)
  ·rw[if_pos hx,Mx x0 hx]
   exact h1.ty x x0 hx
  ·rw[if_neg hx]
   have:=Kv (f:=f) (g:=g) (y:=x-(f.length:Int)) (by omega) (by omega)
   rw[show (f.length:Int)+(x-(f.length:Int))=x by omega]at this
   rw[this]
   exact h2.ty _ (by omega) (by omega)
 ·rw[hl]at x1
  try simp only
  by_cases hx:x<(f.length:Int)
  ·rw[if_pos hx]
   rw[AW,Mx x0 hx]at ha
   have hr:=Bi hf ha
   rw[if_pos hr.2]
   exact h1.arc x x0 hx a ha
  ·rw[if_neg hx]
   have:=Kv (f:=f) (g:=g) (y:=x-(f.length:Int)) (by omega) (by omega)
   rw[show (f.length:Int)+(x-(f.length:Int))=x by omega]at this
   rw[AW,this]at ha
   obtain⟨b,hb,rfl⟩:=List.mem_map.1 ha
   have hr:=Bi hg hb
   rw[if_neg (by simp only;omega)]
   try simp only
   rw[show b.2+(f.length:Int)-(f.length:Int)=b.2 by omega]
   exact h2.arc _ (by omega) (by omega) b hb
theorem Th {h:AM} {N X:List AE} {P:List (Int×Int)} {v:Int→Int} (h1:RW h N [] X v) (he:∀q∈P,v q.1=v q.2):RW h N P X v:=⟨h1.rng,h1.ty,h1.arc,he⟩
theorem Io {N f g:List AE} {k:Nat} (h:XJ f k N):XJ (AO f g) k N:=by
 intro i i0 i1
 have:=h i i0 i1
 rw[BB,Mx (by omega) this.1]
 exact⟨by omega,this.2⟩
theorem Pd {f:List AE}:XJ f 0 f:=by
 intro i i0 i1
 rw[show ((0:Nat):Int)+i=i by omega]
 refine⟨i1,?_⟩
 have:BA 0 (f.getD i.toNat (0,[])).2=(f.getD i.toNat (0,[])).2:=by
  unfold BA
  rw[List.map_congr_left (g:=id) (fun a _=>by show (a.1,a.2+((0:Nat):Int))=a;rw[Int.natCast_zero,Int.add_zero]),List.map_id]
 rw[this]
theorem Jd {f g:List AE}:XJ (AO f g) f.length g:=by
 intro i i0 i1
 rw[BB,Kv i0 i1]
 exact⟨by omega,rfl⟩
set_option maxHeartbeats 1000000 in
theorem c8 {h:AM} {N:List AE} {P:List (Int×Int)} {p ty:List Int} {ar:List (List (Int×Int))} (hj:JI h N P p ty ar []) (hQ:Ag (quo p ty ar)) (hN:0<N.length) (hall:∀x,0≤x→x<(N.length:Int)→DF p x∈Kw p ty ar) :
  vY h N P (AR (quo p ty ar) (DF p 0)) (fun x=>Bw (Kw p ty ar) (DF p x)):=by
 have ho:=Pc hj hQ hN
 have hin0:=Jc hj hQ hN
 obtain⟨nty,⟨rk,fo⟩,lp,lt,la,wr,tyr,arr,srt,sp,st,sa,co⟩:=hj
 have hql:=DY p ty ar
 have hrt:=fun {x:Int} (x0:0≤x) (x1:x<(N.length:Int))=>Mw fo x0 (by rw[lp];exact x1)
 have hrr:=fun {x:Int} (x0:0≤x) (x1:x<(N.length:Int))=>FQ fo x0 (by rw[lp];exact x1) (hrt x0 x1)
 have hUl:=ZV (quo p ty ar) (DF p 0)
 have hUg:=fun i=>ZU (f:=quo p ty ar) (r:=DF p 0) (i:=i)
 have hqa:∀x:Int,0≤x→x<(N.length:Int)→AW (quo p ty ar) x=(ar.getD x.toNat []).map fun a=>(a.1,DF p a.2):=fun x x0 x1=>by
  rw[AW,Ja x0 (by rw[lp];exact x1)]
 have hroots:∀x∈Kw p ty ar,(0≤x∧x<(N.length:Int))∧par p x=x:=by
  have hiso:Iso (quo p ty ar) (quo p ty ar) id (fun x=>(0≤x∧x<(N.length:Int))∧par p x=x):=by
   refine⟨fun i _=>by simp,fun i hi a ha=>?_,fun i j _ _ e=>e⟩
   rw[hqa i hi.1.1 hi.1.2]at ha
   obtain⟨b,hb,rfl⟩:=List.mem_map.1 ha
   have hr:=(arr _ b hb).1
   have:=hrr hr.1 hr.2
   rw[lp]at this
   exact⟨this,(hrt hr.1 hr.2).root⟩
  have hr0:=hrr (x:=0) (by omega) (by omega)
  rw[lp]at hr0
  exact(RT hiso _ [] _ (fun x hx=>by cases hx) ⟨hr0,(hrt (x:=0) (by omega) (by omega)).root⟩).2
 have hlead:=fun(q:Nat)=>TU hQ (quo p ty ar).length [] (DF p 0) (Gc _) (hrr (x:=0) (by omega) (by omega)).1 (by rw[hql];exact(hrr (x:=0) (by omega) (by omega)).2) (by simp) q
 unfold Kw at ho hin0 hall hroots ⊢
 generalize hU:AR (quo p ty ar) (DF p 0)=U at *
 generalize hod:FW (quo p ty ar) (quo p ty ar).length [] (DF p 0)=o at *
 have hmem:∀i:Int,0≤i→i<(o.length:Int)→o.getD i.toNat 0∈o∧Bw o (o.getD i.toNat 0)=i:=fun i i0 i1=>by
  refine⟨AD o 0 (by omega),?_⟩
  rw[Im ho.ok.nd (by omega)]
  omega
 have hnode:∀x∈o,U.getD (Bw o x).toNat (0,[])=(ty.getD x.toNat 0,(ar.getD x.toNat []).map fun a=>(a.1,Bw o (DF p a.2))):=fun x hx=>by
  have hz:=GA hx
  have hr:=(hroots x hx).1
  rw[hUg _ (by omega),hz.2.2]
  unfold F9
  rw[Ja hr.1 (by rw[lp];exact hr.2),List.map_map]
  rfl
 have hcl:∀x∈o,∀a∈ar.getD x.toNat [],DF p a.2∈o:=fun x hx a ha=>by
  have hr:=(hroots x hx).1
  exact ho.cl x hx (a.1,DF p a.2) (by rw[hqa x hr.1 hr.2];exact List.mem_map.2 ⟨a,ha,rfl⟩)
 have hstr:∀k,Oa ((ar.getD k []).map fun a=>(a.1,Bw o (DF p a.2))):=fun k=>by
  unfold Oa
  rw[List.pairwise_map]
  exact srt k
 have hUm:∀x∈U,∃y∈o,x=(ty.getD y.toNat 0,(ar.getD y.toNat []).map fun a=>(a.1,Bw o (DF p a.2))):=fun x hx=>by
  obtain⟨i,hi,rfl⟩:=Bn (0,[]) hx
  have h1:=hmem (i:Int) (by omega) (by omega)
  refine⟨_,h1.1,?_⟩
  rw[←hnode _ h1.1,h1.2]
  rw[Int.toNat_natCast]
 have hi0:Bw o (DF p 0)=0:=by
  have:=Im ho.ok.nd ho.zero.2
  rw[ho.zero.1]at this
  exact this
 have hlen:=ho.ok.len
 have hQ1:=hQ.1
 refine⟨⟨by omega,fun x hx=>?_⟩,by rw[hUl];exact ho.zero.2,fun x hx=>?_,fun x hx a ha=>?_,fun x hx=>?_,fun i i0 i1=>?_,hi0,⟨fun i i0 i1=>?_,fun i i0 i1=>?_,fun i i0 i1 a ha=>?_,fun q hq=>?_⟩,fun X v hX hv hv0=>?_,by omega⟩
 ·obtain⟨y,hy,rfl⟩:=hUm x hx
  have hr:=(hroots y hy).1
  refine⟨?_,fun a ha=>?_⟩
  ·have:=(hQ.2 _ (AD (quo p ty ar) (0,[]) (k:=y.toNat) (by omega))).1
   rw[Ja hr.1 (by rw[lp];exact hr.2),List.length_map]at this
   simp only[List.length_map]
   exact this
  ·obtain⟨b,hb,rfl⟩:=List.mem_map.1 ha
   have:=GA (hcl y hy b hb)
   rw[hUl]
   exact⟨this.1,this.2.1⟩
 ·obtain⟨y,hy,rfl⟩:=hUm x hx
  exact hstr _
 ·obtain⟨y,hy,rfl⟩:=hUm x hx
  obtain⟨b,hb,rfl⟩:=List.mem_map.1 ha
  exact(arr _ b hb).2
 ·obtain⟨y,hy,rfl⟩:=hUm x hx
  have hr:=(hroots y hy).1
  exact tyr y hr.1 hr.2
 · -- in order
  obtain⟨j,j1,a,ha,e⟩:=hlead i.toNat (by simp only[List.length_nil];omega) (by omega)
  have h1:=hmem (j:Int) (by omega) (by omega)
  have h2:=hmem i (by omega) (by omega)
  rw[Int.toNat_natCast]at h1
  have hr:=(hroots _ h1.1).1
  rw[hqa _ hr.1 hr.2]at ha
  obtain⟨b,hb,rfl⟩:=List.mem_map.1 ha
  refine⟨(j:Int),by omega,by omega,(b.1,Bw o (DF p b.2)),?_,?_⟩
  ·have:=hnode _ h1.1
   rw[h1.2]at this
   rw[AW,this]
   exact List.mem_map.2 ⟨b,hb,rfl⟩
  ·show Bw o (DF p b.2)=i
   simp only at e
   rw[e,h2.2]
 ·have:=GA (hall i i0 i1)
  rw[hUl]
  exact⟨this.1,this.2.1⟩
 ·show DB h _ (U.getD (Bw o (DF p i)).toNat (0,[])).1=true
  rw[hnode _ (hall i i0 i1)]
  exact st i _ i0 i1 (hrt i0 i1)
 ·obtain⟨t,ht,he⟩:=sa i _ i0 i1 (hrt i0 i1) a ha
  have e:=mY he
  show Ly (AW U (Bw o (DF p i))) a.1=Bw o (DF p a.2)
  rw[e,AW,hnode _ (hall i i0 i1)]
  exact Kt (hstr _) (a:=(a.1,Bw o (DF p t))) (List.mem_map.2 ⟨(a.1,t),ht,rfl⟩)
 ·show Bw o (DF p q.1)=Bw o (DF p q.2)
  rw[mY (sp q hq)]
 ·obtain⟨c1,c2,c3,c4⟩:=co X v hX hv
  refine⟨fun i=>v (o.getD i.toNat 0),?_,fun i i0 i1=>?_,fun i i0 i1=>?_,fun i i0 i1 a ha=>?_⟩
  ·show v (o.getD 0 0)=0
   rw[ho.zero.1,←c1 0 _ (by omega) (by omega) (hrt (by omega) (by omega))]
   exact hv0
  ·have h3:=hmem i i0 (by omega)
   have hr:=(hroots _ h3.1).1
   exact hv.rng _ hr.1 hr.2
  ·have h3:=hmem i i0 (by omega)
   have hr:=hroots _ h3.1
   have hn:=hnode _ h3.1
   rw[h3.2]at hn
   rw[hn]
   exact c3 _ hr.1.1 hr.1.2 hr.2
  ·have h3:=hmem i i0 (by omega)
   have hr:=hroots _ h3.1
   have hn:=hnode _ h3.1
   rw[h3.2]at hn
   rw[AW,hn]at ha
   obtain⟨b,hb,rfl⟩:=List.mem_map.1 ha
   have h4:=c4 _ hr.1.1 hr.1.2 hr.2 b hb
   have hbr:=(arr _ b hb).1
   have h5:=GA (hcl _ h3.1 b hb)
   simp only
   rw[h5.2.2,←c1 b.2 _ hbr.1 hbr.2 (hrt hbr.1 hbr.2)]
   exact h4
end
/- Plain: types of one set are one. -/
section
def Nrm (c:List Int):Prop:=c.length=0∨c.getD (c.length-1) 0≠0
theorem My (b:List Int):Nrm (BE b):=by
 unfold Nrm BE
 have hl:=Sh b b.length
 rw[List.length_take,Nat.min_eq_left hl]
 rcases PT b b.length with h|h
 ·exact .inl h
 ·by_cases h0:CQ b b.length=0
  ·exact .inl h0
  ·right
   rw[List.getD_eq_getElem?_getD,List.getElem?_take_of_lt (by omega),←List.getD_eq_getElem?_getD]
   exact h
theorem A11 {a b:List Int} (ha:Hn a) (hb:Hn b) (h:∀i,BM a i=BM b i) (k:Nat):a.getD k 0=b.getD k 0:=by
 have ua:=A6 ha k
 have ub:=A6 hb k
 have ua1:=ua.1
 have ua2:=ua.2
 have ub1:=ub.1
 have ub2:=ub.2
 have e:(a.getD k 0).toNat=(b.getD k 0).toNat:=by
  refine Nat.eq_of_testBit_eq fun r=>?_
  by_cases hr:r<64
  ·have:=h (64*k+r)
   unfold BM at this
   rw[show (64*k+r) / 64=k by omega,show (64*k+r) % 64=r by omega]at this
   exact this
  ·have big:∀n:Nat,n<18446744073709551616→n.testBit r=false:=fun n hn=>by
    have e:(18446744073709551616:Nat)=2 ^ 64:=by decide
    rw[e]at hn
    exact Nat.testBit_lt_two_pow (Nat.lt_of_lt_of_le hn (Nat.pow_le_pow_right (by decide) (by omega)))
   rw[big _ (by omega),big _ (by omega)]
 omega
theorem mZ {a b:List Int} (hw:∀k,a.getD k 0=b.getD k 0) (hb:Nrm b):b.length≤a.length:=by
 rcases hb with h|h
 ·omega
 ·refine Classical.byContradiction fun hc=>h ?_
  rw[←hw]
  exact F8 (by omega)
theorem vZ {a b:List Int} (ha:Hn a) (hb:Hn b) (na:Nrm a) (nb:Nrm b) (h:∀i,BM a i=BM b i):a=b:=by
 have hw:=A11 ha hb h
 have hl:a.length=b.length:=Nat.le_antisymm (mZ (fun k=>(hw k).symm) na) (mZ hw nb)
 refine List.ext_getElem hl fun i h1 h2=>?_
 have:=hw i
 simpa[List.getD_eq_getElem?_getD,h1,h2] using this
theorem ZW {α:Type} (l:List α) (x:α) (n:Nat):List.Perm (l.take n++[x]++l.drop n) (x :: l):=by
 have h:l.take n++[x]++l.drop n=l.take n++x :: l.drop n:=by simp
 rw[h]
 refine List.perm_middle.trans ?_
 rw[List.take_append_drop]
def Apt (l:List ByteArray):Prop:=l.Pairwise fun a b=>Am a b=false
theorem Qk {a b:ByteArray} (h:Am a b=false):Am b a=false:=by
 cases hh:Am b a with
 | false=>rfl
 | true=>rw[Em hh]at h;cases h
theorem v7 {l:List ByteArray} {s:ByteArray} (h:Apt l) (hs:∀x∈l,Am x s=false):Apt (Dk l s):=by
 unfold Dk
 split
 ·exact h
 ·refine(List.Perm.pairwise_iff (fun hxy=>Qk hxy) (ZW l s _)).2 ?_
  exact List.pairwise_cons.2 ⟨fun x hx=>Qk (hs x hx),h⟩
theorem c9 {d:List AI} (hn:DR d=0):Apt (AU d):=by
 have key:∀k,k≤d.length→Apt (AU (d.take k))∧∀s∈AU (d.take k),∃i,i<k∧(d.getD i d0).1=s:=by
  intro k
  induction k with
  | zero =>
   intro _
   exact⟨.nil,fun s hs=>by cases hs⟩
  | succ k ih =>
   intro hk
   obtain⟨h1,h2⟩:=ih (by omega)
   have e:AU (d.take (k+1))=Dk (AU (d.take k)) (d.getD k d0).1:=by
    have:d.take (k+1)=d.take k++[d.getD k d0]:=Ab d d0 (by omega)
    rw[this]
    unfold AU
    rw[List.foldl_append]
    rfl
   rw[e]
   refine⟨v7 h1 fun x hx=>?_,fun s hs=>?_⟩
   ·obtain⟨i,hi,rfl⟩:=h2 x hx
    cases hh:Am (d.getD i d0).1 (d.getD k d0).1 with
    | false=>rfl
    | true =>
     have g:=QZ d hh
     rw[OJ hn (j:=i) (by omega),OJ hn (j:=k) (by omega)]at g
     omega
   ·rcases OK hs with hs|hs
    ·obtain⟨i,hi,e⟩:=h2 s hs
     exact⟨i,by omega,e⟩
    ·exact⟨k,by omega,hs.symm⟩
 have:=(key d.length (Nat.le_refl _)).1
 rwa [List.take_length]at this
structure Nd (l:List (List Int)):Prop where
 nd:l.Nodup
 nrm:∀c∈l,Nrm c
theorem A12 {l:List (List Int)} {c:List Int} (h:Nd l) (hc:c∉l) (hn:Nrm c):Nd (l++[c]):=by
 refine⟨?_,fun x hx=>?_⟩
 ·rw[List.nodup_append]
  refine⟨h.nd,by simp,fun x hx y hy e=>hc ?_⟩
  have:y=c:=by simpa using hy
  rw[←this,←e]
  exact hx
 ·rcases List.mem_append.1 hx with hx|hx
  ·exact h.nrm x hx
  ·have:x=c:=by simpa using hx
   rw[this]
   exact hn
theorem A13 {l:List (List Int)} (h:Nd l) (i k:Nat):Nd (GI l i k):=by
 unfold GI
 split
 ·rename_i hc
  rw[Bool.and_eq_true,Bool.not_eq_true']at hc
  refine A12 h (fun hm=>?_) (My _)
  have:bQ l (FL (l.getD i []) (l.getD k []))=true:=List.any_eq_true.2 ⟨_,hm,by unfold G9;exact decide_eq_true rfl⟩
  rw[this]at hc
  cases hc.2
 ·exact h
theorem m5 {i:Nat}:∀ {n k:Nat} {l:List (List Int)},Nd l→Nd (GJ i n k l)
 | 0,_,_,h=>h
 | n+1,k,l,h=>by
  unfold GJ
  split
  ·exact m5 (A13 h i k)
  ·exact h
theorem XK:∀ {n i:Nat} {l:List (List Int)},Nd l→Nd (IB n i l)
 | 0,_,_,h=>h
 | n+1,i,l,h=>by
  unfold IB
  split
  ·exact XK (m5 h)
  ·exact h
theorem Vf {d:List AI} (h3:BG d=0):Nd (Ac d):=by
 obtain⟨-,h2,-,hn,hl⟩:=A5 h3
 have hnl:=Ek d d.length
 rw[List.take_length]at hnl
 have hap:=c9 hn
 refine⟨?_,fun c hc=>?_⟩
 ·unfold Ac List.Nodup
  rw[List.pairwise_map,List.pairwise_iff_getElem]
  intro i j hi hj hij e
  have h1:=(List.pairwise_iff_getElem.1 hap) i j hi hj hij
  have g:∀k,(hk:k<(AU d).length)→(AU d).getD k ByteArray.empty=(AU d)[k]:=fun k hk=>by simp[List.getD_eq_getElem?_getD,hk]
  have hw:=(D5 (d:=d) (all:=AU d) (by omega) (AU d)[j] 0).2.1
  have h5:=Yw hn hl h2 hi hj (by
   rw[g i hi,g j hj,e]
   unfold FM
   have:=(cR hw hw).2 fun _ h=>h
   rw[this]
   rfl)
  rw[g i hi,g j hj,h1]at h5
  cases h5
 ·obtain⟨s,hs,rfl⟩:=List.mem_map.1 hc
  unfold GV xB
  split
  ·exact My _
  ·exact .inl rfl
theorem Kz {d:List AI}:∀ {l:List (List Int)} {o:List AQ},(o.map (·.2)++l).Nodup→((l.foldl (PN d) o).map (·.2)).Nodup
 | [],o,h=>by simpa using h
 | b :: l,o,h=>by
  rw[List.foldl_cons]
  refine Kz ?_
  unfold PN Fm Wu
  have hp:=(ZW o (HI d (AU d) (Ac d) b,b) (E3 (HI d (AU d) (Ac d) b,b) o o.length)).map (fun x:AQ=>x.2)
  have hp2:List.Perm ((o.take (E3 (HI d (AU d) (Ac d) b,b) o o.length)++[(HI d (AU d) (Ac d) b,b)]++o.drop (E3 (HI d (AU d) (Ac d) b,b) o o.length)).map (fun x:AQ=>x.2)++l) (o.map (·.2)++b :: l) :=
   (hp.append_right l).trans (List.perm_middle (a:=b)).symm
  exact hp2.nodup_iff.2 h
def A2n (h:AM):Prop:=∀a b,0≤a→a<(h.1.length:Int)→0≤b→b<(h.1.length:Int)→DB h a b=true→DB h b a=true→a=b
theorem A2o {h:AM} (hk:T8 h) (hn:Nd (h.1.map fun t=>t.2.1)):A2n h:=by
 intro a b a0 a1 b0 b1 h1 h2
 have wa:=hk.1.wds _ (B0 a0 a1)
 have wb:=hk.1.wds _ (B0 b0 b1)
 have e:BI h a=BI h b:=vZ wa wb (hn.nrm _ (B0 a0 a1)) (hn.nrm _ (B0 b0 b1)) fun i=>by
  rw[Bool.eq_iff_iff]
  exact⟨(B8 hk b0 b1 a0 a1).1 h2 i,(B8 hk a0 a1 b0 b1).1 h1 i⟩
 have hp:=List.pairwise_iff_getElem.1 hn.nd
 have g:∀k:Int,0≤k→(hk:k<(h.1.length:Int))→BI h k=(h.1.map fun t=>t.2.1)[k.toNat]'(by rw[List.length_map];omega):=fun k k0 k1=>by
  unfold BI
  simp[List.getD_eq_getElem?_getD,show k.toNat<h.1.length by omega]
 rw[g a a0 a1,g b b0 b1]at e
 rcases Int.lt_trichotomy a b with hlt|heq|hlt
 ·exact absurd e (hp a.toNat b.toNat (by rw[List.length_map];omega) (by rw[List.length_map];omega) (by omega))
 ·exact heq
 ·exact absurd e.symm (hp b.toNat a.toNat (by rw[List.length_map];omega) (by rw[List.length_map];omega) (by omega))
theorem Ql (d:List AI):A2n (AY d).1:=by
 refine A2o (Ho d) ?_
 unfold AY
 split
 ·exact⟨.nil,fun c h=>(by cases h)⟩
 ·rename_i hv
  have hv:(BK d).2=0:=Classical.byContradiction hv
  have h5:BJ d=0:=by
   unfold BK at hv
   split at hv
   ·rename_i h;exact absurd hv h
   ·rename_i h;exact Classical.byContradiction h
  obtain⟨hz,-,-⟩:=CG h5
  obtain⟨h3,hlen,-⟩:=BZ hz
  have hf:Nd (Ay (Ac d)):=XK (Vf h3)
  have e:((F6 d).1.map fun t=>t.2.1)=(Aw d).map fun x=>x.2:=by
   show ((Eb _ _ _).map fun t=>t.2.1)=_
   unfold Eb
   rw[List.map_map]
   apply List.ext_getElem
   ·simp
   ·intro i h1 h2
    simp[List.getD_eq_getElem?_getD,show i<(Aw d).length by simpa using h1]
  show Nd ((F6 d).1.map fun t=>t.2.1)
  rw[e]
  refine⟨Kz (by simpa using hf.nd),fun c hc=>?_⟩
  obtain⟨x,hx,rfl⟩:=List.mem_map.1 hc
  obtain⟨b,hb,rfl⟩:=DV.1 hx
  exact hf.nrm b hb
end
/- Plain: maps of structures in order are one; the most general structure of two is one. -/
section
structure VF (h:AM) (f:List AE):Prop where
 good:Ag f
 pos:0<f.length
 ty:EH h f
 str:∀x∈f,Oa x.2
 ft:∀x∈f,∀a∈x.2,0≤a.1∧a.1<(h.2.length:Int)
 can:AR f 0=f
 ro:RO f
structure HU (h:AM):Prop where
 ok:T8 h
 inj:A2n h
 ft:h.2.length≤64
theorem v8 {Q:List AE} (hQ:Ag Q) {r:Int} (r0:0≤r) (r1:r<(Q.length:Int)):AR (AR Q r) 0=AR Q r:=by
 have ho:=mX hQ r0 r1
 have hUl:=ZV Q r
 have hUg:=fun i=>ZU (f:=Q) (r:=r) (i:=i)
 generalize hU:AR Q r=U at *
 generalize hod:FW Q Q.length [] r=o at *
 have hol:=ho.ok.len
 have hQ1:=hQ.1
 have hmem:∀i:Int,0≤i→i<(o.length:Int)→o.getD i.toNat 0∈o∧Bw o (o.getD i.toNat 0)=i:=fun i i0 i1=>by
  refine⟨AD o 0 (by omega),?_⟩
  rw[Im ho.ok.nd (by omega)]
  omega
 have harc:∀i:Int,0≤i→i<(o.length:Int)→AW U i=(AW Q (o.getD i.toNat 0)).map (XE o):=fun i i0 i1=>by
  rw[AW,hUg i.toNat (by omega)]
  rfl
 have hiso:Iso U Q (fun i=>o.getD i.toNat 0) (fun i=>0≤i∧i<(o.length:Int)):=by
  refine⟨fun i hi=>?_,fun i hi a ha=>?_,fun i j hi hj e=>?_⟩
  ·rw[harc i hi.1 hi.2,List.map_map]
   have:∀a∈AW Q (o.getD i.toNat 0),((fun a:Int×Int=>(a.1,o.getD a.2.toNat 0))∘XE o) a=a:=fun a ha=>by
    show (a.1,o.getD (Bw o a.2).toNat 0)=a
    rw[(GA (ho.cl _ (hmem i hi.1 hi.2).1 a ha)).2.2]
   rw[List.map_congr_left this,List.map_id']
  ·rw[harc i hi.1 hi.2]at ha
   obtain⟨b,hb,rfl⟩:=List.mem_map.1 ha
   have:=GA (ho.cl _ (hmem i hi.1 hi.2).1 b hb)
   exact⟨this.1,this.2.1⟩
  ·have h1:=(hmem i hi.1 hi.2).2
   have h2:=(hmem j hj.1 hj.2).2
   have e:o.getD i.toNat 0=o.getD j.toNat 0:=e
   rw[←h1,←h2,e]
 have h0:(0:Int)<(o.length:Int):=by have:=ho.zero.2;omega
 have hUgood:Ag U:=by
  refine⟨by omega,fun x hx=>?_⟩
  obtain⟨i,hi,rfl⟩:=Bn (0,[]) hx
  have h1:=harc (i:Int) (by omega) (by omega)
  rw[AW,Int.toNat_natCast]at h1
  rw[h1]
  have hm:=hmem (i:Int) (by omega) (by omega)
  rw[Int.toNat_natCast]at hm
  have hr:=ho.ok.rng _ hm.1
  refine⟨?_,fun a ha=>?_⟩
  ·rw[List.length_map]
   exact(hQ.2 _ (AD Q (0,[]) (k:=(o.getD i 0).toNat) (by omega))).1
  ·obtain⟨b,hb,rfl⟩:=List.mem_map.1 ha
   have:=GA (ho.cl _ hm.1 b hb)
   rw[hUl]
   exact⟨this.1,this.2.1⟩
 have hd:=RT hiso Q.length [] 0 (fun x hx=>by cases hx) ⟨by omega,h0⟩
 have hz:o.getD (0:Int).toNat 0=r:=ho.zero.1
 rw[List.map_nil,hz,hod]at hd
 have hfu:=TT hUgood (n:=0) (by omega) (by omega) (Q.length-U.length)
 rw[show U.length+(Q.length-U.length)=Q.length by omega]at hfu
 rw[hfu]at hd
 unfold AR
 generalize FW U U.length [] 0=l at *
 obtain⟨hd1,hd2⟩:=hd
 have hll:l.length=o.length:=by
  have:=congrArg List.length hd1
  rw[List.length_map]at this
  exact this.symm
 have hlk:∀k,(hk:k<l.length)→l[k]=(k:Int):=fun k hk=>by
  have hc:=hd2 l[k] (List.getElem_mem hk)
  have h1:=(hmem l[k] hc.1 hc.2).2
  have h2:=(hmem (k:Int) (by omega) (by omega)).2
  have e:o.getD k 0=o.getD (l[k]).toNat 0:=by
   exact(congrArg (fun z:List Int=>z.getD k 0) hd1).trans (by simp[List.getD_eq_getElem?_getD,hk])
  rw[Int.toNat_natCast,e]at h2
  rw[←h1,h2]
 have hnd:l.Nodup:=by
  unfold List.Nodup
  rw[List.pairwise_iff_getElem]
  intro i j hi hj hij e
  rw[hlk i hi,hlk j hj]at e
  omega
 have hidx:∀x,0≤x→x<(l.length:Int)→Bw l x=x:=fun x x0 x1=>by
  have:=Im hnd (i:=x.toNat) (by omega)
  have e:l.getD x.toNat 0=x:=by
   rw[List.getD_eq_getElem?_getD,List.getElem?_eq_getElem (by omega)]
   show l[x.toNat]=x
   rw[hlk _ (by omega)]
   omega
  rw[e]at this
  rw[this]
  omega
 apply List.ext_getElem
 ·rw[List.length_map];omega
 ·intro i h1 h2
  rw[List.getElem_map,hlk i (by simpa using h1)]
  have hU2:U.getD (i:Int).toNat (0,[])=U[i]:=by simp[List.getD_eq_getElem?_getD,h2]
  unfold F9
  rw[hU2]
  have:∀a∈U[i].2,XE l a=a:=fun a ha=>by
   have hg:=(hUgood.2 _ (List.getElem_mem h2)).2 a ha
   unfold XE
   rw[hidx a.2 hg.1 (by omega)]
  rw[List.map_congr_left this,List.map_id']
theorem ZX {h:AM} {a X:List AE} (hro:RO a) {m m':Int→Int} (h1:Lz h a X m) (h2:Lz h a X m'):∀(k:Nat) (i:Int),i.toNat≤k→0≤i→i<(a.length:Int)→m i=m' i:=by
 intro k
 induction k with
 | zero =>
  intro i hk i0 i1
  have:i=0:=by omega
  subst this
  rw[h1.zero,h2.zero]
 | succ k ih =>
  intro i hk i0 i1
  by_cases hi:i=0
  ·subst hi;rw[h1.zero,h2.zero]
  ·obtain⟨j,j0,j1,x,hx,rfl⟩:=hro i (by omega) i1
   rw[←h1.arc j j0 (by omega) x hx,←h2.arc j j0 (by omega) x hx,ih j (by omega) j0 (by omega)]
theorem ZY {h:AM} (hk:T8 h) {a b c:List AE} (ga:Ag a) (ta:EH h a) (tb:EH h b) (tc:EH h c) {m m':Int→Int} (h1:Lz h a b m) (h2:Lz h b c m'):Lz h a c fun i=>m' (m i):=by
 refine⟨by show m' (m 0)=0;rw[h1.zero,h2.zero],fun i i0 i1=>?_,fun i i0 i1=>?_,fun i i0 i1 x hx=>?_⟩
 ·have:=h1.rng i i0 i1
  exact h2.rng _ this.1 this.2
 ·have hr:=h1.rng i i0 i1
  have hr2:=h2.rng _ hr.1 hr.2
  have xa:=ta _ (AD a (0,[]) (k:=i.toNat) (by omega))
  have xb:=tb _ (AD b (0,[]) (k:=(m i).toNat) (by omega))
  have xc:=tc _ (AD c (0,[]) (k:=(m' (m i)).toNat) (by omega))
  exact JZ hk xa.1 xa.2 xb.1 xb.2 xc.1 xc.2 (h1.ty i i0 i1) (h2.ty _ hr.1 hr.2)
 ·have hr:=h1.rng i i0 i1
  have hxr:=Bi ga hx
  have hm:=h1.arc i i0 i1 x hx
  obtain⟨y,hy,e1,e2⟩:=OW (l:=AW b (m i)) (e:=x.1) (by rw[hm];exact(h1.rng _ hxr.1 hxr.2).1)
  have:=h2.arc (m i) hr.1 hr.2 y hy
  rw[e1,e2,hm]at this
  exact this
theorem K0 {a:List AE} (hs:∀x∈a,Oa x.2) (n:Int):Oa (AW a n):=by
 unfold AW
 by_cases h:n.toNat<a.length
 ·exact hs _ (AD a (0,[]) h)
 ·rw[List.getD_eq_getElem?_getD,List.getElem?_eq_none (by omega)]
  exact .nil
theorem v9 {h:AM} {a:List AE} (hs:∀x∈a,Oa x.2):Lz h a a id :=
 ⟨rfl,fun i i0 i1=>⟨i0,i1⟩,fun i _ _=>PX h _,fun i _ _ x hx=>Kt (K0 hs i) hx⟩
theorem m6:∀ {l m:List (Int×Int)},Oa l→Oa m→(∀x,x∈l↔x∈m)→l=m
 | [],[],_,_,_=>rfl
 | [],b :: m,_,_,h=>by have:=(h b).2 (by simp);cases this
 | a :: l,[],_,_,h=>by have:=(h a).1 (by simp);cases this
 | a :: l,b :: m,h1,h2,h=>by
  obtain⟨a1,a2⟩:=List.pairwise_cons.1 h1
  obtain⟨b1,b2⟩:=List.pairwise_cons.1 h2
  have e:a=b:=by
   rcases List.mem_cons.1 ((h a).1 (by simp)) with e|e
   ·exact e
   ·rcases List.mem_cons.1 ((h b).2 (by simp)) with e2|e2
    ·exact e2.symm
    ·have:=a1 b e2
     have:=b1 a e
     omega
  subst e
  refine congrArg _ (m6 a2 b2 fun x=>⟨fun hx=>?_,fun hx=>?_⟩)
  ·rcases List.mem_cons.1 ((h x).1 (by simp[hx])) with e|e
   ·subst e
    have:=a1 x hx
    omega
   ·exact e
  ·rcases List.mem_cons.1 ((h x).2 (by simp[hx])) with e|e
   ·subst e
    have:=b1 x hx
    omega
   ·exact e
theorem A1G {h:AM} (hu:HU h) {U V:List AE} (hU:VF h U) (hV:VF h V) {m m':Int→Int} (h1:Lz h U V m) (h2:Lz h V U m'):U=V:=by
 have key:∀ {U V:List AE},VF h U→VF h V→∀ {m m':Int→Int},Lz h U V m→Lz h V U m'→U.length≤V.length→U=V:=by
  clear hU hV h1 h2
  intro U V hU hV m m' h1 h2 hlen
  have c1:=ZY hu.ok hU.good hU.ty hV.ty hU.ty h1 h2
  have c2:=ZY hu.ok hV.good hV.ty hU.ty hV.ty h2 h1
  have e1:∀i,0≤i→i<(U.length:Int)→m' (m i)=i:=fun i i0 i1=>ZX hU.ro c1 (v9 hU.str) i.toNat i (Nat.le_refl _) i0 i1
  have e2:∀i,0≤i→i<(V.length:Int)→m (m' i)=i:=fun i i0 i1=>ZX hV.ro c2 (v9 hV.str) i.toNat i (Nat.le_refl _) i0 i1
  have hfw:∀ {A B:List AE} {f:Int→Int},Ag A→Lz h A B f→∀i,0≤i→i<(A.length:Int)→∀x∈AW A i,(x.1,f x.2)∈AW B (f i):=fun {A B f} gA hf i i0 i1 x hx=>by
   have hxr:=Bi gA hx
   have hm:=hf.arc i i0 i1 x hx
   obtain⟨y,hy,g1,g2⟩:=OW (l:=AW B (f i)) (e:=x.1) (by rw[hm];exact(hf.rng _ hxr.1 hxr.2).1)
   rw[←g1,←hm,←g2]
   exact hy
  have hiso:Iso U V m (fun i=>0≤i∧i<(U.length:Int)):=by
   refine⟨fun i hi=>?_,fun i hi a ha=>Bi hU.good ha,fun i j hi hj e=>?_⟩
   ·have hr:=h1.rng i hi.1 hi.2
    refine m6 (K0 hV.str _) ?_ fun x=>⟨fun hx=>?_,fun hx=>?_⟩
    ·unfold Oa
     rw[List.pairwise_map]
     exact K0 hU.str i
    ·have g:=hfw hV.good h2 (m i) hr.1 hr.2 x hx
     rw[e1 i hi.1 hi.2]at g
     refine List.mem_map.2 ⟨_,g,?_⟩
     have hxr:=Bi hV.good hx
     show (x.1,m (m' x.2))=x
     rw[e2 x.2 hxr.1 hxr.2]
    ·obtain⟨y,hy,rfl⟩:=List.mem_map.1 hx
     exact hfw hU.good h1 i hi.1 hi.2 y hy
   ·rw[←e1 i hi.1 hi.2,←e1 j hj.1 hj.2,e]
  have hpos:=hU.pos
  have:=UL hiso hU.good ⟨by omega,by omega⟩ h1.zero hU.pos hlen fun i hi=>by
   have hr:=h1.rng i hi.1 hi.2
   have g1:=h1.ty i hi.1 hi.2
   have g2:=h2.ty (m i) hr.1 hr.2
   rw[e1 i hi.1 hi.2]at g2
   have xa:=hU.ty _ (AD U (0,[]) (k:=i.toNat) (by omega))
   have xb:=hV.ty _ (AD V (0,[]) (k:=(m i).toNat) (by omega))
   exact hu.inj _ _ xb.1 xb.2 xa.1 xa.2 g2 g1
  rw[hV.can,hU.can]at this
  exact this.symm
 rcases Nat.le_total U.length V.length with hl|hl
 ·exact key hU hV h1 h2 hl
 ·exact(key hV hU h2 h1 hl).symm
structure Ti (h:AM) (a b U:List AE):Prop where
 vf:VF h U
 left:∃m,Lz h a U m
 right:∃m,Lz h b U m
 least:∀X,EH h X→∀m1,Lz h a X m1→∀m2,Lz h b X m2→∃m,Lz h U X m
 len:U.length≤a.length+b.length
theorem A14 {h:AM} (hu:HU h) {a b U V:List AE} (h1:Ti h a b U) (h2:Ti h a b V):U=V:=by
 obtain⟨m1,g1⟩:=h2.left
 obtain⟨m2,g2⟩:=h2.right
 obtain⟨m3,g3⟩:=h1.left
 obtain⟨m4,g4⟩:=h1.right
 obtain⟨m,hm⟩:=h1.least V h2.vf.ty m1 g1 m2 g2
 obtain⟨m',hm'⟩:=h2.least U h1.vf.ty m3 g3 m4 g4
 exact A1G hu h1.vf h2.vf hm hm'
open Classical in
noncomputable def Bq (h:AM) (a b:List AE):List AE×Bool:=if H:∃U,Ti h a b U then (H.choose,true) else ([],false)
theorem K1 {h:AM} (hu:HU h) {a b U:List AE} (h1:Ti h a b U):Bq h a b=(U,true):=by
 unfold Bq
 have H:∃U,Ti h a b U:=⟨U,h1⟩
 rw[dif_pos H,A14 hu H.choose_spec h1]
theorem ZZ {h:AM} {a b:List AE} (h1:∀X,EH h X→∀m1,Lz h a X m1→∀m2,¬Lz h b X m2):Bq h a b=([],false):=by
 unfold Bq
 rw[dif_neg]
 rintro⟨U,hU⟩
 obtain⟨m1,g1⟩:=hU.left
 obtain⟨m2,g2⟩:=hU.right
 exact h1 U hU.vf.ty m1 g1 m2 g2
theorem Za {h:AM} {a b:List AE} (h1:(Bq h a b).2=true):Ti h a b (Bq h a b).1:=by
 unfold Bq at h1 ⊢
 split at h1
 ·rename_i H
  rw[dif_pos H]
  exact H.choose_spec
 ·cases h1
theorem Tj {f:List AE} {e:Int} (h:e∈CE f):∃x∈f,∃a∈x.2,a.1=e:=by
 unfold CE at h
 obtain⟨x,hx,h2⟩:=List.mem_flatMap.1 h
 obtain⟨a,ha,e⟩:=List.mem_map.1 h2
 exact⟨x,hx,a,ha,e⟩
theorem dA {h:AM} {N:List AE} {P:List (Int×Int)} {p ty:List Int} {ar:List (List (Int×Int))} (hj:JI h N P p ty ar []) (hQ:Ag (quo p ty ar)) (hN:0<N.length) (hft:∀x∈N,∀a∈x.2,0≤a.1∧a.1<(h.2.length:Int)) {v:Int→Int} (hU:vY h N P (AR (quo p ty ar) (DF p 0)) v):VF h (AR (quo p ty ar) (DF p 0)):=by
 have hr:0≤DF p 0∧DF p 0<((quo p ty ar).length:Int):=by
  obtain⟨rk,fo⟩:=hj.fo
  have:=hj.lp
  have:=FQ fo (x:=0) (by omega) (by omega) (Mw fo (by omega) (by omega))
  rw[DY]
  exact this
 refine⟨hU.good,hU.pos,hU.ty,hU.str,fun x hx a ha=>?_,v8 hQ hr.1 hr.2,hU.ro⟩
 obtain⟨y,hy,b,hb,e⟩:=Tj (hU.feat x hx a ha)
 rw[←e]
 exact hft y hy b hb
theorem p8 {h:AM} {f g:List AE} (hf:VF h f) (hg:VF h g):∀x∈AO f g,∀a∈x.2,0≤a.1∧a.1<(h.2.length:Int):=by
 intro x hx
 unfold AO at hx
 rcases List.mem_append.1 hx with hx|hx
 ·exact hf.ft x hx
 ·obtain⟨y,hy,rfl⟩:=List.mem_map.1 hx
  intro a ha
  obtain⟨b,hb,rfl⟩:=List.mem_map.1 ha
  exact hg.ft y hy b hb
theorem Rb {h:AM} {f g:List AE} (hf:VF h f) (hg:VF h g) {p ty:List Int} {ar:List (List (Int×Int))} (hj:JI h (AO f g) [(0,(f.length:Int))] p ty ar []) (hQ:Ag (quo p ty ar)):Ti h f g (AR (quo p ty ar) (DF p 0)):=by
 have hpf:=hf.pos
 have hl:=BB f g
 have hN:0<(AO f g).length:=by omega
 have h0:=Jc hj hQ hN
 have hlr:=HQ hj hQ hN (Io (g:=g) Pd) hf.ro h0
 have hrr:=HQ hj hQ hN (Jd (f:=f)) hg.ro (Tf hj (by simp) h0)
 have hU:=c8 hj hQ hN fun x x0 x1=>by
  by_cases hx:x<(f.length:Int)
  ·have:=hlr x.toNat x (Nat.le_refl _) x0 hx
   rwa [show ((0:Nat):Int)+x=x by omega]at this
  ·have:=hrr _ (x-(f.length:Int)) (Nat.le_refl _) (by omega) (by omega)
   rwa [show (f.length:Int)+(x-(f.length:Int))=x by omega]at this
 refine⟨dA hj hQ hN (p8 hf hg) hU,⟨_,Kx hU.proj (Io (g:=g) Pd) hU.zero⟩,⟨_,Kx hU.proj (Jd (f:=f)) (by rw[←hU.proj.eq (0,(f.length:Int)) (by simp)];exact hU.zero)⟩,fun X hX m1 h1 m2 h2=>?_,by have:=hU.len;omega⟩
 refine hU.least X _ hX (Th (Ky hf.good hg.good (Gd h1) (Gd h2)) fun q hq=>?_) ?_
 ·have e:q=(0,(f.length:Int)):=by simpa using hq
  subst e
  try simp only
  rw[if_pos (by omega),if_neg (by omega),Int.sub_self,h1.zero,h2.zero]
 ·show (if (0:Int)<(f.length:Int) then m1 0 else m2 (0-(f.length:Int)))=0
  rw[if_pos (by omega)]
  exact h1.zero
theorem Pe {h:AM} {f g:List AE} (hf:VF h f) (hg:VF h g) (hno:∀X v,EH h X→¬RW h (AO f g) [(0,(f.length:Int))] X v):Bq h f g=([],false):=by
 have hpf:=hf.pos
 refine ZZ fun X hX m1 h1 m2 h2=>hno X _ hX (Th (Ky hf.good hg.good (Gd h1) (Gd h2)) fun q hq=>?_)
 have e:q=(0,(f.length:Int)):=by simpa using hq
 subst e
 try simp only
 rw[if_pos (by omega),if_neg (by omega),Int.sub_self,h1.zero,h2.zero]
end
/- Plain: the classes before they are joined. -/
section
theorem Zb (l:List (Int×Int)):BA 0 l=l:=by
 unfold BA
 rw[List.map_congr_left (g:=id) (fun a _=>by show (a.1,a.2+((0:Nat):Int))=a;rw[Int.natCast_zero,Int.add_zero]),List.map_id]
theorem Pf (a b:Nat):BF 0 a++BF a b=BF 0 (a+b):=by
 unfold BF
 rw[List.range_add,List.map_append,List.map_map]
 congr 1
 ·refine List.map_congr_left fun i _=>?_
  show ((a+i:Nat):Int)=((0+(a+i):Nat):Int)
  rw[Nat.zero_add]
theorem p9 {n k:Nat} (h:k<n):(BF 0 n).getD k 0=(k:Int):=by
 unfold BF
 rw[List.getD_eq_getElem?_getD,List.getElem?_map,List.getElem?_range h]
 show ((0+k:Nat):Int)=k
 rw[Nat.zero_add]
theorem K2 {n:Nat} {x:Int} (x0:0≤x) (x1:x<(n:Int)):par (BF 0 n) x=x:=by
 unfold par
 rw[p9 (by omega)]
 omega
def DC (N:List AE):List Int:=N.map (·.1)
def E4 (N:List AE):List (List (Int×Int)):=N.map (·.2)
theorem Mz (N:List AE) (k:Nat):(DC N).getD k 0=(N.getD k (0,[])).1:=by
 unfold DC
 rw[List.getD_eq_getElem?_getD,List.getElem?_map,List.getD_eq_getElem?_getD]
 cases N[k]?<;>rfl
theorem Lm (N:List AE) (k:Nat):(E4 N).getD k []=(N.getD k (0,[])).2:=by
 unfold E4
 rw[List.getD_eq_getElem?_getD,List.getElem?_map,List.getD_eq_getElem?_getD]
 cases N[k]?<;>rfl
theorem Tk (f g:List AE):BS f f.length++BS g g.length=DC (AO f g):=by
 unfold BS DC AO
 rw[List.take_length,List.take_length,List.map_append,List.map_map]
 rfl
theorem Vg (f g:List AE):Cl 0 f f.length++Cl f.length g g.length=E4 (AO f g):=by
 unfold Cl E4 AO
 rw[List.take_length,List.take_length,List.map_append,List.map_map]
 congr 1
 exact List.map_congr_left fun x _=>Zb x.2
theorem XL {n:Nat} {x r:Int} (x0:0≤x) (x1:x<(n:Int)) (h:Rt (BF 0 n) x r):r=x:=h.det (.base (K2 x0 x1))
theorem Rc {h:AM} {N:List AE} (hg:Ag N) (ht:EH h N) (hs:∀x∈N,Oa x.2):JI h N [] (BF 0 N.length) (DC N) (E4 N) []:=by
 have hl:(BF 0 N.length).length=N.length:=Fs 0 N.length
 refine⟨ht,⟨fun _=>0,fun n n0 n1=>?_,fun n n0 n1 hn=>?_⟩,hl,by simp[DC],by simp[E4],fun w hw=>(by cases hw),fun x x0 x1=>?_,fun k a ha=>?_,fun k=>?_,fun q hq=>(by cases hq),fun x r x0 x1 hr=>?_,fun x r x0 x1 hr a ha=>?_,fun X v hX hv=>?_⟩
 ·rw[hl]at n1 ⊢
  rw[K2 n0 n1]
  exact⟨n0,n1⟩
 ·rw[hl]at n1
  exact absurd (K2 n0 n1) hn
 ·rw[Mz]
  exact ht _ (AD N (0,[]) (by omega))
 ·rw[Lm]at ha
  refine⟨TA hg k a ha,?_⟩
  by_cases hk:k<N.length
  ·exact List.mem_flatMap.2 ⟨_,AD N (0,[]) hk,List.mem_map.2 ⟨a,ha,rfl⟩⟩
  ·rw[List.getD_eq_getElem?_getD,List.getElem?_eq_none (by omega)]at ha
   cases ha
 ·rw[Lm]
  have:=K0 hs (k:Int)
  rwa [AW,Int.toNat_natCast]at this
 ·rw[XL x0 x1 hr,Mz]
  exact PX h _
 ·rw[XL x0 x1 hr,Lm]
  have hr2:=Bi hg ha
  exact⟨a.2,ha,.cls hr2.1 hr2.2 hr2.1 hr2.2 (.base (K2 hr2.1 hr2.2)) (.base (K2 hr2.1 hr2.2))⟩
 ·refine⟨fun x r x0 x1 hr=>by rw[XL x0 x1 hr],fun w hw=>(by cases hw),fun r r0 r1 _=>?_,fun r r0 r1 _ a ha=>?_⟩
  ·rw[Mz]
   exact hv.ty r r0 r1
  ·rw[Lm]at ha
   exact hv.arc r r0 r1 a ha
theorem CT {f g:List AE} (hf:Ag f) (hg:Ag g) (hl:f.length+g.length≤100000):Ag (AO f g):=by
 have hj:=BB f g
 refine⟨by omega,fun x hx=>?_⟩
 unfold AO at hx
 rcases List.mem_append.1 hx with hx|hx
 ·refine⟨(hf.2 x hx).1,fun a ha=>?_⟩
  have:=(hf.2 x hx).2 a ha
  omega
 ·obtain⟨y,hy,rfl⟩:=List.mem_map.1 hx
  refine⟨by simp only[BA,List.length_map];exact(hg.2 y hy).1,fun a ha=>?_⟩
  obtain⟨b,hb,rfl⟩:=List.mem_map.1 ha
  have:=(hg.2 y hy).2 b hb
  simp only
  omega
theorem DD {f g:List AE} (hf:∀x∈f,Oa x.2) (hg:∀x∈g,Oa x.2):∀x∈AO f g,Oa x.2:=by
 intro x hx
 unfold AO at hx
 rcases List.mem_append.1 hx with hx|hx
 ·exact hf x hx
 ·obtain⟨y,hy,rfl⟩:=List.mem_map.1 hx
  unfold Oa BA
  rw[List.pairwise_map]
  exact hg y hy
theorem QQX {h:AM} {f g:List AE} (hf:EH h f) (hg:EH h g):EH h (AO f g):=by
 intro x hx
 unfold AO at hx
 rcases List.mem_append.1 hx with hx|hx
 ·exact hf x hx
 ·obtain⟨y,hy,rfl⟩:=List.mem_map.1 hx
  exact hg y hy
def Tl (N:List AE):Prop:=∀x∈N,∀a∈x.2,0≤a.1∧a.1<64
theorem FT {f g:List AE} (hf:Tl f) (hg:Tl g):Tl (AO f g):=by
 intro x hx
 unfold AO at hx
 rcases List.mem_append.1 hx with hx|hx
 ·exact hf x hx
 ·obtain⟨y,hy,rfl⟩:=List.mem_map.1 hx
  intro a ha
  obtain⟨b,hb,rfl⟩:=List.mem_map.1 ha
  exact hg y hy b hb
theorem M0 {l:List (Int×Int)} (h:Oa l) (hf:∀a∈l,0≤a.1∧a.1<64):l.length≤64:=by
 have:=XH h (S:=(List.range 64).map fun(i:Nat)=>(i:Int)) (fun a ha=>List.mem_map.2 ⟨a.1.toNat,List.mem_range.2 (by have:=hf a ha;omega),by have:=hf a ha;omega⟩)
 rwa [List.length_map,List.length_range]at this
theorem Tm {N:List AE} (h:∀x∈N,x.2.length≤64):(CE N).length≤64*N.length:=by
 induction N with
 | nil=>simp[CE]
 | cons x N ih =>
  have h1:=h x (by simp)
  have h2:=ih fun y hy=>h y (by simp[hy])
  have e:CE (x :: N)=x.2.map (·.1)++CE N:=rfl
  rw[e,List.length_append,List.length_map,List.length_cons]
  omega
theorem qA {N:List AE} (h:Tl N) {e:Int} (he:e∈CE N):0≤e∧e<64:=by
 obtain⟨x,hx,a,ha,rfl⟩:=Tj he
 exact h x hx a ha
theorem Ip {h:AM} {N:List AE} {P:List (Int×Int)} {p ty:List Int} {ar:List (List (Int×Int))} (hj:JI h N P p ty ar []) (hN:N.length≤100000) (hf:Tl N):Ag (quo p ty ar):=by
 have hl:=DY p ty ar
 obtain⟨rk,fo⟩:=hj.fo
 have lp:=hj.lp
 refine⟨by omega,fun x hx=>?_⟩
 obtain⟨i,hi,rfl⟩:=Bn (0,[]) hx
 have e:=Ja (p:=p) (ty:=ty) (ar:=ar) (n:=(i:Int)) (by omega) (by omega)
 rw[Int.toNat_natCast]at e
 rw[e]
 refine⟨?_,fun a ha=>?_⟩
 ·simp only[List.length_map]
  have:=M0 (hj.srt i) (fun a ha=>qA hf (hj.arr i a ha).2)
  omega
 ·obtain⟨b,hb,rfl⟩:=List.mem_map.1 ha
  have hr:=(hj.arr i b hb).1
  have:=FQ fo (x:=b.2) hr.1 (by omega) (Mw fo hr.1 (by omega))
  rw[hl]
  exact this
theorem VF.ft64 {h:AM} {f:List AE} (hv:VF h f) (hu:HU h):Tl f:=fun x hx a ha=>by
 have h1:=hv.ft x hx a ha
 have h2:=hu.ft
 omega
end
/- Plain: type 0 subsumes each type. -/
section
/-! All declared types are below the root -/
def A5A (d:List AI) (o:List ByteArray) (i:Nat):Prop:=∀j,j<i→∀x∈d,Aa x.2.1 (o.getD j ByteArray.empty)=true→Aa o x.1=true
theorem wA {c:ByteArray} {o:List ByteArray} {x:AI} (h:Aa x.2.1 c=true):Aa (E5 c o x) x.1=true:=by
 unfold E5
 split
 ·rw[Mh,El,Bool.or_true]
 ·rename_i hc
  rw[h,Bool.true_and,Bool.not_eq_true']at hc
  simpa using hc
theorem Vh {c:ByteArray} {x:AI} (h:Aa x.2.1 c=true):∀ {l:List AI} {o:List ByteArray},x∈l→Aa (l.foldl (E5 c) o) x.1=true
 | [],_,hx=>by cases hx
 | y :: l,o,hx=>by
  rw[List.foldl_cons]
  rcases List.mem_cons.1 hx with rfl|hx
  ·exact Lg (fun z hz=>Le hz) (wA h)
  ·exact Vh h hx
theorem Zc {d:List AI}:∀ {n i:Nat} {o:List ByteArray},XZ d o→d.length≤n+i→A5A d o i→i≤o.length→∃m,A5A d (DS d n i o) m∧(DS d n i o).length≤m
 | 0,i,o,ha,hd,hb,hi=>⟨i,hb,by
  have:=ha.len
  show o.length≤i
  omega⟩
 | n+1,i,o,ha,hd,hb,hi=>by
  unfold DS
  split
  ·rename_i hlt
   obtain⟨g1,g2⟩:=So (o.getD i ByteArray.empty) (l:=d) (o:=o) (fun _ h=>h) ha
   refine Zc g1 (by omega) (fun j hj x hx hs=>?_) (by omega)
   rw[PG _ (by omega)]at hs
   by_cases e:j=i
   ·subst e
    exact Vh hs hx
   ·exact Lg (fun z hz=>Le hz) (hb j (by omega) x hx hs)
  ·exact⟨i,hb,by omega⟩
theorem Pg {α:Type} {p:α→Bool}:∀ {l:List α},l.countP p=1→∀x∈l,p x=true→∀y∈l,p y=true→x=y
 | [],h,x,hx,_,_,_,_=>by cases hx
 | z :: l,h,x,hx,px,y,hy,py=>by
  rw[List.countP_cons]at h
  by_cases pz:p z=true
  ·rw[if_pos pz]at h
   have h0:l.countP p=0:=by omega
   rw[List.countP_eq_zero]at h0
   have e1:x=z:=by
    rcases List.mem_cons.1 hx with e|hx
    ·exact e
    ·exact absurd px (h0 x hx)
   have e2:y=z:=by
    rcases List.mem_cons.1 hy with e|hy
    ·exact e
    ·exact absurd py (h0 y hy)
   rw[e1,e2]
  ·rw[if_neg pz]at h
   have hx:x∈l:=by
    rcases List.mem_cons.1 hx with e|hx
    ·rw[e]at px;exact absurd px pz
    ·exact hx
   have hy:y∈l:=by
    rcases List.mem_cons.1 hy with e|hy
    ·rw[e]at py;exact absurd py pz
    ·exact hy
   exact Pg (by omega) x hx px y hy py
theorem Tn (s:ByteArray):∀(l:List AI) (k:Nat),0≤CR s k l→∃x∈l,Am x.1 s=true
 | [],k,h=>by
  simp only[CR]at h
  omega
 | y :: l,k,h=>by
  simp only[CR]at h
  split at h
  ·rename_i e
   exact⟨y,by simp,e⟩
  ·obtain⟨x,hx,e⟩:=Tn s l (k+1) h
   exact⟨x,by simp[hx],e⟩
theorem dB {d:List AI} (h3:BG d=0):∃r∈d,∀x∈d,Aa (DT d r.1) x.1=true:=by
 obtain⟨hs,h2,h1,hn,hl⟩:=A5 h3
 have hpos:0<d.countP fun x=>x.2.1.length==0:=by
  have:HE d=d.countP fun x=>x.2.1.length==0:=rfl
  omega
 obtain⟨r,hr,pr⟩:=List.countP_pos_iff.1 hpos
 refine⟨r,hr,?_⟩
 have hrd:=Eo hr
 have hA:XZ d [r.1]:=⟨fun s hs=>by
  have:s=r.1:=by simpa using hs
  rw[this]
  exact hrd,by simp⟩
 obtain⟨m,hm1,hm2⟩:=Zc (d:=d) (n:=d.length) (i:=0) hA (by omega) (fun j hj=>by omega) (by omega)
 have hsub:r.1∈DS d d.length 0 [r.1]:=Mp (by simp)
 have hb:DT d r.1=Kb (DS d d.length 0 [r.1]):=by unfold DT;rw[if_neg (by omega)]
 rw[hb]
 generalize DS d d.length 0 [r.1]=o at *
 have key:∀(k:Nat) (x:AI),x∈d→HH d x.1≤k→Aa o x.1=true:=by
  intro k
  induction k with
  | zero =>
   intro x hx hk
   by_cases hc:x.2.1.length=0
   ·have e:=Pg h1 x hx (by simpa using hc) r hr pr
    rw[e]
    exact Lf hsub
   ·obtain⟨s,hs2⟩:∃s,s∈x.2.1:=List.exists_mem_of_length_pos (by omega)
    have:=Mo hn hl hx (Lf hs2)
    omega
  | succ k ih =>
   intro x hx hk
   by_cases hc:x.2.1.length=0
   ·have e:=Pg h1 x hx (by simpa using hc) r hr pr
    rw[e]
    exact Lf hsub
   ·obtain⟨s,hs2⟩:∃s,s∈x.2.1:=List.exists_mem_of_length_pos (by omega)
    have hrk:=Mo hn hl hx (Lf hs2)
    obtain⟨y,hy,e⟩:=Tn s d 0 (hs x hx s hs2)
    rw[←Mn d e]at hrk
    obtain⟨z,hz,e2⟩:=List.any_eq_true.1 (ih y hy (by omega))
    obtain⟨j,hj,rfl⟩:=Bn ByteArray.empty hz
    refine hm1 j (by omega) x hx ?_
    exact List.any_eq_true.2 ⟨s,hs2,Em (Bx e2 e)⟩
 intro x hx
 obtain⟨z,hz,e⟩:=List.any_eq_true.1 (key _ x hx (Nat.le_refl _))
 obtain⟨w,hw,e2⟩:=List.any_eq_true.1 (Sx (o:=[]) hz)
 exact List.any_eq_true.2 ⟨w,hw,Bx e2 e⟩
/-! The greatest code comes first -/
abbrev wB (c:List Int):Nat:=(HA c).length
theorem wC {w:Int} (hw:uD w) {r:Nat} (hr:r<64):tU w (r:Int)=w.toNat.testBit r:=by
 have h0:=hw.1
 have h1:=hw.2
 have hle:w.toNat / 2 ^ r≤w.toNat:=Nat.div_le_self _ _
 have e:Xb .u64 w (r:Int)=((w.toNat / 2 ^ r:Nat):Int):=by
  unfold Xb
  have hm:min ((r:Int)).toNat IntKind.u64.bits=r:=by
   show min ((r:Int)).toNat 64=r
   omega
  have hp:(0:Int)≤2 ^ r:=Int.le_of_lt (Int.pow_pos (by decide))
  rw[hm,Int.fdiv_eq_ediv_of_nonneg _ hp,Int.natCast_ediv,Int.toNat_of_nonneg h0]
  simp
 unfold tU
 rw[Nat.testBit_eq_decide_div_mod_eq,e]
 generalize w.toNat / 2 ^ r=z at *
 rw[HG ⟨by omega,by omega⟩ ⟨by decide,by decide⟩,Int.toNat_natCast,show (1:Int).toNat=1 from rfl,Nat.and_one_is_mod,Bool.eq_iff_iff,beq_iff_eq,decide_eq_true_eq]
 omega
theorem m7 {b:List Int} (hw:Hn b) (i:Nat):Si b (i:Int)=BM b i:=by
 have e1:Int.tdiv (i:Int) 64=((i / 64:Nat):Int):=by rw[Int.tdiv_eq_ediv_of_nonneg (by omega)];omega
 have e2:Int.tmod (i:Int) 64=((i % 64:Nat):Int):=by rw[Int.tmod_eq_emod_of_nonneg (by omega)];omega
 unfold Si BM
 rw[e1,e2,Int.toNat_natCast]
 by_cases hk:i / 64<b.length
 ·rw[if_neg (by rw[Bool.or_eq_true,decide_eq_true_eq,decide_eq_true_eq];omega),wC (A6 hw _) (by omega)]
 ·rw[if_pos (by rw[Bool.or_eq_true,decide_eq_true_eq,decide_eq_true_eq];omega),F8 hk]
  simp
theorem Zd (c:List Int):(HA c).Nodup:=by
 unfold HA MF List.Nodup
 rw[List.pairwise_map]
 refine List.Pairwise.imp (fun h e=>h ?_) (List.Pairwise.filter _ List.nodup_range)
 exact Int.ofNat.inj e
theorem Ln {c:List Int} (hw:Hn c) {x:Int}:x∈HA c↔∃i:Nat,x=(i:Int)∧BM c i=true:=by
 unfold HA MF
 rw[List.mem_map]
 constructor
 ·rintro⟨i,hi,rfl⟩
  rw[List.mem_filter]at hi
  exact⟨i,rfl,by rw[←m7 hw];exact hi.2⟩
 ·rintro⟨i,rfl,hb⟩
  refine⟨i,List.mem_filter.2 ⟨List.mem_range.2 ?_,by rw[m7 hw];exact hb⟩,rfl⟩
  refine Classical.byContradiction fun hc=>?_
  unfold BM at hb
  rw[F8 (by omega)]at hb
  simp at hb
theorem A2p {a b:List Int} (ha:Hn a) (hb:Hn b) (h:∀i,BM a i=true→BM b i=true) (hc:wB b≤wB a) (i:Nat) (hi:BM b i=true):BM a i=true:=by
 refine Classical.byContradiction fun hn=>?_
 have hx:(i:Int)∉HA a:=fun hm=>by
  obtain⟨j,e,hj⟩:=(Ln ha).1 hm
  have:i=j:=Int.ofNat.inj e
  rw[this]at hn
  exact hn hj
 have:=Pa (l:=(i:Int) :: HA a) (l':=HA b) (List.nodup_cons.2 ⟨hx,Zd a⟩) fun x hx=>by
  rcases List.mem_cons.1 hx with rfl|hx
  ·exact(Ln hb).2 ⟨i,rfl,hi⟩
  ·obtain⟨j,rfl,hj⟩:=(Ln ha).1 hx
   exact(Ln hb).2 ⟨j,rfl,h j hj⟩
 rw[List.length_cons]at this
 unfold wB at hc
 omega
theorem Tp (x:AQ) (out:List AQ):∀n,(E3 x out n=0→n=0∨FN x (out.getD 0 c0)=true)∧∀k,E3 x out n=k+1→FN x (out.getD k c0)=false
 | 0=>⟨fun _=>.inl rfl,fun k h=>by simp[E3]at h⟩
 | n+1=>by
  obtain⟨h1,h2⟩:=Tp x out n
  unfold E3
  split
  ·rename_i hb
   refine⟨fun e=>?_,h2⟩
   rcases h1 e with e|e
   ·subst e
    exact .inr hb
   ·exact .inr e
  ·rename_i hb
   refine⟨fun e=>by omega,fun k e=>?_⟩
   have:n=k:=by omega
   subst this
   simpa using hb
theorem Ze {a b:AQ} (h:FN a b=true):wB b.2≤wB a.2:=by
 unfold FN at h
 rw[Bool.or_eq_true,Bool.and_eq_true,decide_eq_true_eq,beq_iff_eq]at h
 unfold wB
 omega
theorem XM {a b:AQ} (h:FN a b=false):wB a.2≤wB b.2:=by
 unfold FN at h
 rw[Bool.or_eq_false_iff,decide_eq_false_iff_not]at h
 unfold wB
 omega
def HM (out:List AQ):Prop:=∀y∈out,wB y.2≤wB (out.getD 0 c0).2
theorem A15 {out:List AQ} (h:HM out) (x:AQ):HM (Wu out x):=by
 obtain⟨s1,s2⟩:=Tp x out out.length
 have hle:=Yy x out out.length
 intro y hy
 rw[Y3]at hy
 unfold Wu
 cases hk:E3 x out out.length with
 | zero =>
  rw[List.take_zero,List.drop_zero,List.nil_append]
  have e:([x]++out).getD 0 c0=x:=rfl
  rw[e]
  rcases hy with rfl|hy
  ·exact Nat.le_refl _
  ·have h1:=h y hy
   rcases s1 hk with e|e
   ·rw[List.eq_nil_of_length_eq_zero e]at hy
    cases hy
   ·exact Nat.le_trans h1 (Ze e)
 | succ k =>
  have hb:=XM (s2 k hk)
  rw[hk]at hle
  have e:(out.take (k+1)++[x]++out.drop (k+1)).getD 0 c0=out.getD 0 c0:=by
   cases out with
   | nil=>simp at hle
   | cons z out=>rfl
  rw[e]
  rcases hy with rfl|hy
  ·exact Nat.le_trans hb (h _ (DA (by omega)))
  ·exact h y hy
theorem Zf {d:List AI}:∀ {l:List (List Int)} {o:List AQ},HM o→HM (l.foldl (PN d) o)
 | [],_,h=>h
 | b :: l,o,h=>by
  rw[List.foldl_cons]
  exact Zf (A15 h _)
/-! Codes hold no other numbers than those of the declared types -/
def In (n:Nat) (c:List Int):Prop:=Hn c∧∀i,BM c i=true→i<n
theorem A2q (n:Nat):In n []:=⟨fun x hx=>(by cases hx),fun i hi=>by unfold BM at hi;simp at hi⟩
theorem A2r {n:Nat} {a b:List Int} (ha:In n a) (hb:In n b):In n (FL a b) :=
 ⟨XD ha.1 hb.1,fun i hi=>by
  rw[RS ha.1 hb.1,Bool.and_eq_true]at hi
  exact ha.2 i hi.1⟩
theorem m8 {n:Nat} {l:List (List Int)} (h:∀c∈l,In n c) (k:Nat):In n (l.getD k []):=by
 by_cases hk:k<l.length
 ·exact h _ (DA hk)
 ·rw[VX hk]
  exact A2q n
theorem A16 {n:Nat} {l:List (List Int)} (h:∀c∈l,In n c) (i k:Nat):∀c∈GI l i k,In n c:=by
 intro c hc
 unfold GI at hc
 split at hc
 ·rcases List.mem_append.1 hc with hc|hc
  ·exact h c hc
  ·have:c=FL (l.getD i []) (l.getD k []):=by simpa using hc
   rw[this]
   exact A2r (m8 h i) (m8 h k)
 ·exact h c hc
theorem m9 {q i:Nat}:∀ {n k:Nat} {l:List (List Int)},(∀c∈l,In q c)→∀c∈GJ i n k l,In q c
 | 0,_,_,h=>h
 | n+1,k,l,h=>by
  unfold GJ
  split
  ·exact m9 (A16 h i k)
  ·exact h
theorem nA {q:Nat}:∀ {n i:Nat} {l:List (List Int)},(∀c∈l,In q c)→∀c∈IB n i l,In q c
 | 0,_,_,h=>h
 | n+1,i,l,h=>by
  unfold IB
  split
  ·exact nA (m9 h)
  ·exact h
def Je (h:AM):Prop:=∀t,0≤t→t<(h.1.length:Int)→DB h 0 t=true
theorem Qm (d:List AI):Je (AY d).1:=by
 have hk:=Ho d
 unfold AY at hk ⊢
 split
 ·intro t h0 h1
  simp at h1
  omega
 ·rename_i hv
  rw[if_neg hv]at hk
  have hv:(BK d).2=0:=Classical.byContradiction hv
  have h5:BJ d=0:=by
   unfold BK at hv
   split at hv
   ·rename_i h;exact absurd hv h
   ·rename_i h;exact Classical.byContradiction h
  obtain⟨hz,-,-⟩:=CG h5
  obtain⟨h3,hlen,-⟩:=BZ hz
  obtain⟨-,h2,-,hn,hl⟩:=A5 h3
  have hnl:=Ek d d.length
  rw[List.take_length]at hnl
  have hal:(AU d).length≤4096:=by omega
  obtain⟨r,hr,hbel⟩:=dB h3
  have hin:∀c∈Ay (Ac d),In (AU d).length c:=nA fun c hc=>by
   obtain⟨s,hs,rfl⟩:=List.mem_map.1 hc
   exact⟨(D5 (d:=d) hal s 0).2.1,fun i hi=>((D5 (d:=d) hal s i).1.1 hi).1⟩
  obtain⟨s,hs,es⟩:=List.any_eq_true.1 (Sz hr)
  have hsr:s=r.1:=by
   obtain⟨x,hx,rfl⟩:=Fl hs
   rw[Yt hn hx hr es]
  subst hsr
  have hc0:GV d (AU d) r.1∈Ay (Ac d):=by
   have hp:Ac d <+: Ay (Ac d):=TG 257 0 (Ac d)
   exact hp.subset (List.mem_map.2 ⟨_,hs,rfl⟩)
  have hall:∀i,i<(AU d).length→BM (GV d (AU d) r.1) i=true:=fun i hi=>by
   refine(D5 (d:=d) hal r.1 i).1.2 ⟨hi,?_⟩
   obtain⟨x,hx,e⟩:=Fl (DA (d:=ByteArray.empty) hi)
   rw[←e]
   exact hbel x hx
  have hHM:HM (Aw d):=Zf fun y hy=>by cases hy
  have hmem0:=DV.2 ⟨_,hc0,rfl⟩
  have hpos:0<(Aw d).length:=List.length_pos_of_mem hmem0
  have hmax:=hHM _ hmem0
  obtain⟨b,hb,eb⟩:=DV.1 (DA (d:=c0) hpos)
  rw[eb]at hmax
  have hfull:=A2p (hin b hb).1 (hin _ hc0).1 (fun i hi=>hall i ((hin b hb).2 i hi)) hmax
  have hcode:BI (F6 d) 0=b:=by
   show ((Eb (Aw d) _ _).getD 0 VT).2.1=b
   have:(Eb (Aw d) (BK d).1 (Aw d).length).getD 0 VT=(((Aw d).getD 0 c0).1,((Aw d).getD 0 c0).2,Y6 (Aw d) ((0:Nat):Int),(BK d).1.getD 0 []):=by
    unfold Eb
    rw[List.getD_eq_getElem?_getD,List.getElem?_map,List.getElem?_range hpos]
    rfl
   rw[this,eb]
  have hlenT:(F6 d).1.length=(Aw d).length:=Lj _ _ _
  intro t t0 t1
  refine(B8 hk (by omega) (by show (0:Int)<((F6 d).1.length:Int);omega) t0 t1).2 fun i hi=>?_
  show BM (BI (F6 d) 0) i=true
  rw[hcode]
  refine hfull i (hall i ?_)
  have hcm:=B0 t0 t1
  have hmem:BI (F6 d) t∈Ay (Ac d):=by
   have e:((F6 d).1.map fun t=>t.2.1)=(Aw d).map fun x=>x.2:=by
    show ((Eb _ _ _).map fun t=>t.2.1)=_
    unfold Eb
    rw[List.map_map]
    apply List.ext_getElem
    ·simp
    ·intro i h1 h2
     simp[List.getD_eq_getElem?_getD,show i<(Aw d).length by simpa using h1]
   have hcm2:BI (F6 d) t∈(F6 d).1.map fun t=>t.2.1:=hcm
   rw[e]at hcm2
   obtain⟨x,hx,ex⟩:=List.mem_map.1 hcm2
   obtain⟨c,hc,rfl⟩:=DV.1 hx
   rw[←ex]
   exact hc
  exact(hin _ hmem).2 i hi
end
/- Plain: the types of classes, the arcs of classes; grammarlabref11.Unify and unify.Unify compute one structure. -/
section
def Q5 (h:AM):Prop:=∀t∈h.1,Nrm t.2.1
theorem Tq {b:List Int}:∀ {l:List HL} {k:Nat},(Ec b l k).2=true→∃j:Nat,j<l.length∧(Ec b l k).1=((k+j:Nat):Int)∧(l.getD j VT).2.1=b
 | [],k,h=>by cases h
 | t :: r,k,h=>by
  unfold Ec at h ⊢
  by_cases e:t.2.1=b
  ·rw[if_pos e]
   exact⟨0,by simp,by simp,by simpa using e⟩
  ·rw[if_neg e]at h ⊢
   obtain⟨j,h1,h2,h3⟩:=Tq h
   exact⟨j+1,by simp only[List.length_cons];omega,by rw[h2];congr 1;omega,by simpa using h3⟩
theorem Zg {b:List Int}:∀ {l:List HL} {k:Nat},(∃t∈l,t.2.1=b)→(Ec b l k).2=true
 | [],k,⟨t,ht,_⟩=>by cases ht
 | t :: r,k,⟨u,hu,e⟩=>by
  unfold Ec
  by_cases e2:t.2.1=b
  ·rw[if_pos e2]
  ·rw[if_neg e2]
   rcases List.mem_cons.1 hu with rfl|hu
   ·exact absurd e e2
   ·exact Zg ⟨u,hu,e⟩
theorem qB {h:AM} (hk:T8 h) (hn:Q5 h) {a b:Int} (a0:0≤a) (a1:a<(h.1.length:Int)) (b0:0≤b) (b1:b<(h.1.length:Int)) :
  ((Bz h a b).2=true→0≤(Bz h a b).1∧(Bz h a b).1<(h.1.length:Int)∧∀i,mU h (Bz h a b).1 i=(mU h a i&&mU h b i))∧((∃i,mU h a i=true∧mU h b i=true)→(Bz h a b).2=true):=by
 have wa:=hk.1.wds _ (B0 a0 a1)
 have wb:=hk.1.wds _ (B0 b0 b1)
 refine⟨fun hm=>?_,fun hi=>?_⟩
 ·obtain⟨j,h1,h2,h3⟩:=Tq hm
  have h2:(Bz h a b).1=((0+j:Nat):Int):=h2
  refine⟨by omega,by omega,fun i=>?_⟩
  have e:BI h (Bz h a b).1=FL (BI h a) (BI h b):=by
   rw[←h3]
   unfold BI
   rw[h2]
   simp
  unfold mU
  rw[e,RS wa wb]
 ·obtain⟨t,ht,e⟩:=hk.1.meet _ (B0 a0 a1) _ (B0 b0 b1) hi
  obtain⟨x,hx,rfl⟩:=List.mem_map.1 ht
  exact Zg ⟨x,hx,vZ (hk.1.wds _ ht) (XD wa wb) (hn x hx) (My _) fun i=>by rw[e i,RS wa wb]⟩
theorem Vi {h:AM} (hk:T8 h) (hn:Q5 h) {a b:Int} (a0:0≤a) (a1:a<(h.1.length:Int)) (b0:0≤b) (b1:b<(h.1.length:Int)) :
  ((Bz h a b).2=true→0≤(Bz h a b).1∧(Bz h a b).1<(h.1.length:Int)∧DB h a (Bz h a b).1=true∧DB h b (Bz h a b).1=true) ∧
  ∀x,0≤x→x<(h.1.length:Int)→DB h a x=true→DB h b x=true→(Bz h a b).2=true∧DB h (Bz h a b).1 x=true:=by
 obtain⟨m1,m2⟩:=qB hk hn a0 a1 b0 b1
 refine⟨fun e=>?_,fun x x0 x1 hax hbx=>?_⟩
 ·obtain⟨q0,q1,q2⟩:=m1 e
  refine⟨q0,q1,(B8 hk a0 a1 q0 q1).2 fun i hi=>?_,(B8 hk b0 b1 q0 q1).2 fun i hi=>?_⟩
  ·rw[q2 i,Bool.and_eq_true]at hi;exact hi.1
  ·rw[q2 i,Bool.and_eq_true]at hi;exact hi.2
 ·have ga:=(B8 hk a0 a1 x0 x1).1 hax
  have gb:=(B8 hk b0 b1 x0 x1).1 hbx
  obtain⟨i,hi⟩:=hk.1.some _ (B0 x0 x1)
  have e:=m2 ⟨i,ga i hi,gb i hi⟩
  obtain⟨q0,q1,q2⟩:=m1 e
  refine⟨e,(B8 hk q0 q1 x0 x1).2 fun j hj=>?_⟩
  rw[q2 j,Bool.and_eq_true]
  exact⟨ga j hj,gb j hj⟩
section
variable {h:AM} {N:List AE} {c:List Int}
theorem Qn (ht:EH h N) {x:Nat} (hx:x<N.length):0≤(N.getD x (0,[])).1∧(N.getD x (0,[])).1<(h.1.length:Int):=ht _ (AD N (0,[]) hx)
theorem nB (hk:T8 h) (hn:Q5 h) (h0:0<h.1.length) (ht:EH h N) (hc:OT N.length c):∀ {i:Nat} {p:List Int},i≤N.length→HV h N c i=some p→∀x,x<i→DB h (N.getD x (0,[])).1 (p.getD (c.getD x 0).toNat 0)=true
 | 0,p,_,_,x,hx=>by omega
 | i+1,p,hi,hp,x,hx=>by
  simp only[HV]at hp
  cases hq:HV h N c i with
  | none=>rw[hq]at hp;cases hp
  | some q =>
   rw[hq]at hp
   simp only at hp
   split at hp
   ·rename_i hm
    cases hp
    obtain⟨ql,qr⟩:=Lk h0 hc (by omega) hq
    obtain⟨r1,r2,r3⟩:=hc.2 i (by omega)
    have tq:=qr (c.getD i 0).toNat (by omega)
    have ti:=Qn ht (x:=i) (by omega)
    obtain⟨m0,m1,m2,m3⟩:=(Vi hk hn tq.1 tq.2 ti.1 ti.2).1 hm
    obtain⟨s1,s2,s3⟩:=hc.2 x (by omega)
    rw[PP _ _ _ _ (by omega)]
    by_cases e:x=i
    ·subst e
     rw[if_pos rfl]
     exact m3
    ·have ih:=nB hk hn h0 ht hc (by omega) hq x (by omega)
     split
     ·rename_i e2
      rw[e2]at ih
      have tx:=Qn ht (x:=x) (by omega)
      exact JZ hk tx.1 tx.2 tq.1 tq.2 m0 m1 ih m2
     ·exact ih
   ·cases hp
theorem Jf (hk:T8 h) (hn:Q5 h) (h0:0<h.1.length) (htop:Je h) (ht:EH h N) (hc:OT N.length c) {u:Nat→Int} (hu:∀k,k<N.length→0≤u k∧u k<(h.1.length:Int)) (hb:∀x,x<N.length→DB h (N.getD x (0,[])).1 (u (c.getD x 0).toNat)=true) :
  ∀ {i:Nat},i≤N.length→∃p,HV h N c i=some p∧∀k,k<N.length→DB h (p.getD k 0) (u k)=true
 | 0,_=>by
  refine⟨_,rfl,fun k hk=>?_⟩
  rw[List.getD_eq_getElem?_getD,List.getElem?_replicate,if_pos hk]
  exact htop _ (hu k hk).1 (hu k hk).2
 | i+1,hi=>by
  obtain⟨q,hq,hqu⟩:=Jf hk hn h0 htop ht hc hu hb (i:=i) (by omega)
  obtain⟨ql,qr⟩:=Lk h0 hc (by omega) hq
  obtain⟨r1,r2,r3⟩:=hc.2 i (by omega)
  have tq:=qr (c.getD i 0).toNat (by omega)
  have ti:=Qn ht (x:=i) (by omega)
  have hul:=hu (c.getD i 0).toNat (by omega)
  obtain⟨m1,m2⟩:=(Vi hk hn tq.1 tq.2 ti.1 ti.2).2 _ hul.1 hul.2 (hqu _ (by omega)) (hb i (by omega))
  refine⟨q.set (c.getD i 0).toNat (Bz h (q.getD (c.getD i 0).toNat 0) (N.getD i (0,[])).1).1,by simp only[HV,hq];rw[if_pos m1],fun k hk=>?_⟩
  rw[PP _ _ _ _ (by omega)]
  split
  ·rename_i e;rw[e];exact m2
  ·exact hqu k hk
end
/-! The arcs of the classes -/
theorem Vj (c:List Int):∀(l L:List (Int×Int)),(L.map (·.1)).Nodup→((HO c L l).map (·.1)).Nodup∧(∀a∈L,a∈HO c L l)∧(∀a∈HO c L l,a∈L∨∃b∈l,a=(b.1,c.getD b.2.toNat 0))∧(∀b∈l,∃t,(b.1,t)∈HO c L l)
 | [],L,hL=>⟨hL,fun _ h=>h,fun _ h=>.inl h,fun _ h=>by cases h⟩
 | x :: l,L,hL=>by
  have e:HO c L (x :: l)=HO c (PQ c L x) l:=rfl
  rw[e]
  have h1:((PQ c L x).map (·.1)).Nodup∧(∀a∈L,a∈PQ c L x)∧(∀a∈PQ c L x,a∈L∨a=(x.1,c.getD x.2.toNat 0))∧∃t,(x.1,t)∈PQ c L x:=by
   unfold PQ
   split
   ·rename_i ht
    exact⟨hL,fun _ h=>h,fun _ h=>.inl h,_,LW ht⟩
   ·rename_i ht
    refine⟨?_,fun _ h=>List.mem_append_left _ h,fun a h=>?_,c.getD x.2.toNat 0,List.mem_append_right _ (by simp)⟩
    ·rw[List.map_append,List.nodup_append]
     refine⟨hL,by simp,fun y hy z hz e=>?_⟩
     obtain⟨a,ha,rfl⟩:=List.mem_map.1 hy
     have hz:z=x.1:=by simpa using hz
     exact ht (Sb a ha (e.trans hz))
    ·rcases List.mem_append.1 h with h|h
     ·exact .inl h
     ·exact .inr (by simpa using h)
  obtain⟨n1,s1,i1,t1,ht1⟩:=h1
  obtain⟨n2,s2,i2,c2⟩:=Vj c l _ n1
  refine⟨n2,fun a ha=>s2 a (s1 a ha),fun a ha=>?_,fun b hb=>?_⟩
  ·rcases i2 a ha with h|⟨b,hb,h⟩
   ·rcases i1 a h with h|h
    ·exact .inl h
    ·exact .inr ⟨x,by simp,h⟩
   ·exact .inr ⟨b,by simp[hb],h⟩
  ·rcases List.mem_cons.1 hb with rfl|hb
   ·exact⟨t1,s2 _ ht1⟩
   ·exact c2 b hb
structure A1H (N:List AE) (c t:List Int) (i:Nat) (g:List AE):Prop where
 len:g.length=N.length
 ty:∀k,k<N.length→(g.getD k (0,[])).1=t.getD k 0
 nd:∀k,((g.getD k (0,[])).2.map (·.1)).Nodup
 inn:∀k,∀a∈(g.getD k (0,[])).2,∃x,x<i∧(c.getD x 0).toNat=k∧∃b∈(N.getD x (0,[])).2,b.1=a.1∧a.2=c.getD b.2.toNat 0
 cov:∀x,x<i→∀b∈(N.getD x (0,[])).2,∃u,(b.1,u)∈(g.getD (c.getD x 0).toNat (0,[])).2
theorem Ph {N:List AE} {c t:List Int} (hc:OT N.length c):∀ {i:Nat},i≤N.length→A1H N c t i (CS N c t i)
 | 0,_=>by
  have hg:∀k,(CS N c t 0).getD k (0,[])=if k<N.length then (t.getD k 0,[]) else (0,[]):=fun k=>by
   unfold CS
   rw[List.getD_eq_getElem?_getD,List.getElem?_map]
   by_cases hk:k<N.length
   ·rw[List.getElem?_range hk,if_pos hk];rfl
   ·rw[List.getElem?_eq_none (by simp;omega),if_neg hk];rfl
  refine⟨by simp[CS],fun k hk=>by rw[hg,if_pos hk],fun k=>?_,fun k a ha=>?_,fun x hx=>by omega⟩
  ·rw[hg];split<;>simp
  ·rw[hg]at ha
   split at ha<;>cases ha
 | i+1,hi=>by
  have ih:=Ph (t:=t) hc (i:=i) (by omega)
  obtain⟨r1,r2,r3⟩:=hc.2 i (by omega)
  have hlt:(c.getD i 0).toNat<(CS N c t i).length:=by rw[ih.len];omega
  have e:CS N c t (i+1)=Dp c (CS N c t i) i (N.getD i (0,[])).2:=rfl
  rw[e]
  generalize CS N c t i=g at *
  obtain⟨l1,l2,l3,l4⟩:=Vj c (N.getD i (0,[])).2 (g.getD (c.getD i 0).toNat (0,[])).2 (ih.nd _)
  have hg:∀k,(Dp c g i (N.getD i (0,[])).2).getD k (0,[])=if k=(c.getD i 0).toNat then ((g.getD k (0,[])).1,HO c (g.getD k (0,[])).2 (N.getD i (0,[])).2) else g.getD k (0,[]):=fun k=>by
   unfold Dp
   rw[PS _ _ _ _ hlt]
   by_cases e:k=(c.getD i 0).toNat
   ·rw[if_pos e,if_pos e,e]
   ·rw[if_neg e,if_neg e]
  refine⟨by rw[VV];exact ih.len,fun k hk=>?_,fun k=>?_,fun k a ha=>?_,fun x hx b hb=>?_⟩
  ·rw[hg];split
   ·exact ih.ty k hk
   ·exact ih.ty k hk
  ·rw[hg];split
   ·rename_i e;rw[e];exact l1
   ·exact ih.nd k
  ·rw[hg]at ha
   split at ha
   ·rename_i e
    subst e
    rcases l3 a ha with h|⟨b,hb,h⟩
    ·obtain⟨x,h1,h2⟩:=ih.inn _ a h
     exact⟨x,by omega,h2⟩
    ·exact⟨i,by omega,rfl,b,hb,by rw[h],by rw[h]⟩
   ·obtain⟨x,h1,h2⟩:=ih.inn _ a ha
    exact⟨x,by omega,h2⟩
  ·rw[hg]
   by_cases ex:x=i
   ·subst ex
    rw[if_pos rfl]
    exact l4 b hb
   ·obtain⟨u,hu⟩:=ih.cov x (by omega) b hb
    split
    ·rename_i e
     rw[e]at hu ⊢
     exact⟨u,l2 _ hu⟩
    ·exact⟨u,hu⟩
end
/- Plain: nodes whose arcs are put in order; the canonical form sees no more of them. -/
section
def K3 (f:List AE):List AE:=f.map fun x=>(x.1,Ah x.2)
theorem Lo (f:List AE):(K3 f).length=f.length:=by simp[K3]
theorem Pi (f:List AE) (k:Nat):(K3 f).getD k (0,[])=((f.getD k (0,[])).1,Ah (f.getD k (0,[])).2):=by
 unfold K3
 rw[List.getD_eq_getElem?_getD,List.getElem?_map,List.getD_eq_getElem?_getD]
 cases f[k]?<;>rfl
theorem XN {l:List (Int×Int)} (h:(l.map (·.1)).Nodup):(Ah l).Pairwise (fun a b=>a.1<b.1):=by
 have hp:=CC l
 have h1:=Kr l
 have h2:((Ah l).map (·.1)).Nodup:=((hp.map _).nodup_iff).2 h
 rw[List.Nodup,List.pairwise_map]at h2
 exact(h1.and h2).imp fun⟨a,b⟩=>by omega
theorem Vk {l:List (Int×Int)} (h:(l.map (·.1)).Nodup):Ah (Ah l)=Ah l:=Ko ((Ik _).2 (XN h))
theorem Qo {f:List AE} (h:∀k,((f.getD k (0,[])).2.map (·.1)).Nodup):∀(k:Nat) (s:List Int×List Int) (n:Int),DQ (K3 f) k s n=DQ f k s n
 | 0,_,_=>rfl
 | k+1,s,n=>by
  rw[E0,E0,Pi,Vk (h _)]
  congr 1
  funext t a
  unfold Dn
  rw[Qo h k]
theorem dC {f:List AE} (h:∀k,((f.getD k (0,[])).2.map (·.1)).Nodup) (root:Int):GU (K3 f) root=GU f root:=by
 unfold GU GT
 rw[Lo,Qo h]
 congr 1
 funext n
 unfold KU
 rw[Pi,Vk (h _)]
end
/- Plain: grammarlabref11.Unify and unify.Unify compute one structure. -/
section
/-! Classes as a forest -/
theorem Lp {n:Nat} {c:List Int} (hc:OT n c) {x:Int} (x0:0≤x) (x1:x<(n:Int)):Rt c x (c.getD x.toNat 0):=by
 obtain⟨h1,h2,h3⟩:=hc.2 x.toNat (by omega)
 have hb:Rt c (c.getD x.toNat 0) (c.getD x.toNat 0):=.base h3
 by_cases e:par c x=x
 ·have e:c.getD x.toNat 0=x:=e
  rw[e]at hb ⊢
  exact hb
 ·exact .step e hb
theorem A17 {n:Nat} {c:List Int} (hc:OT n c):∃rk,Fo c rk:=by
 refine⟨fun z=>if par c z=z then 0 else 1,fun z z0 z1=>?_,fun z z0 z1 hne=>?_⟩
 ·have:=hc.1
  obtain⟨h1,h2,h3⟩:=hc.2 z.toNat (by omega)
  exact⟨h1,by unfold par;omega⟩
 ·have:=hc.1
  obtain⟨h1,h2,h3⟩:=hc.2 z.toNat (by omega)
  have h3:par c (par c z)=par c z:=h3
  show (if par c (par c z)=par c z then 0 else 1)<(if par c z=z then 0 else 1)
  rw[if_pos h3,if_neg hne]
  exact Nat.zero_lt_one
theorem Zh {n:Nat} {c:List Int} (hc:OT n c) {x:Int} (x0:0≤x) (x1:x<(n:Int)):DF c x=c.getD x.toNat 0:=TY (Lp hc x0 x1)
theorem A1I {n:Nat} {c:List Int} (hc:OT n c) {x y:Int} (x0:0≤x) (x1:x<(n:Int)) (y0:0≤y) (y1:y<(n:Int)) (h:c.getD x.toNat 0=c.getD y.toNat 0):EG n c [] x y:=.cls x0 x1 y0 y1 (Lp hc x0 x1) (by rw[h];exact Lp hc y0 y1)
def Pj (c p:List Int) (n:Nat):List Int:=(List.range n).map fun(k:Nat)=>p.getD (c.getD k 0).toNat 0
theorem Rd {c p:List Int} {n k:Nat} (hk:k<n):(Pj c p n).getD k 0=p.getD (c.getD k 0).toNat 0:=by
 unfold Pj
 rw[List.getD_eq_getElem?_getD,List.getElem?_map,List.getElem?_range hk];rfl
def nC (g:List AE):List (List (Int×Int)):=g.map fun x=>Ah x.2
theorem Re (g:List AE) (k:Nat):(nC g).getD k []=Ah (g.getD k (0,[])).2:=by
 unfold nC
 rw[List.getD_eq_getElem?_getD,List.getElem?_map,List.getD_eq_getElem?_getD]
 cases g[k]?<;>rfl
structure RC (h:AM) (N:List AE) (P:List (Int×Int)) (c p:List Int) (g:List AE):Prop where
 good:Ag N
 ty:EH h N
 rep:OT N.length c
 types:HV h N c N.length=some p
 rows:A1H N c (Pj c p N.length) N.length g
 jc:∃ar,JC h N P c ar []
theorem A18 {h:AM} {N:List AE} {P:List (Int×Int)} {c p:List Int} {g:List AE} (hr:RC h N P c p g) {x y:Nat} (hx:x<N.length) (hy:y<N.length) (hxy:c.getD x 0=c.getD y 0) {a b:Int×Int} (ha:a∈(N.getD x (0,[])).2) (hb:b∈(N.getD y (0,[])).2) (hab:a.1=b.1):c.getD a.2.toNat 0=c.getD b.2.toNat 0:=by
 obtain⟨ar,hj⟩:=hr.jc
 obtain⟨t1,g1,e1⟩:=hj.sa (x:Int) (by omega) (by omega) a (by simpa[AW] using ha)
 obtain⟨t2,g2,e2⟩:=hj.sa (y:Int) (by omega) (by omega) b (by simpa[AW] using hb)
 rw[Int.toNat_natCast]at g1 g2
 rw[hxy]at g1
 rw[hab]at g1
 have hnd:=hj.nd (c.getD y 0).toNat
 have:t1=t2:=by
  have key:∀(l:List (Int×Int)),(l.map (·.1)).Nodup→∀f u v,(f,u)∈l→(f,v)∈l→u=v:=by
   intro l
   induction l with
   | nil=>intro _ f u v h;cases h
   | cons z l ih =>
    intro hn f u v h1 h2
    rw[List.map_cons,List.nodup_cons]at hn
    rcases List.mem_cons.1 h1 with e1|h1<;>rcases List.mem_cons.1 h2 with e2|h2
    ·rw[←e1]at e2;injection e2 with _ e2;exact e2.symm
    ·exact absurd (List.mem_map.2 ⟨_,h2,by rw[←e1]⟩) hn.1
    ·exact absurd (List.mem_map.2 ⟨_,h1,by rw[←e2]⟩) hn.1
    ·exact ih hn.2 f u v h1 h2
  exact key _ hnd _ _ _ g1 g2
 subst this
 rw[e1.nil,e2.nil]
section
variable {h:AM} {N:List AE} {P:List (Int×Int)} {c p:List Int} {g:List AE}
theorem A5B (hk:T8 h) (hn:Q5 h) (htop:Je h) (h0:0<h.1.length) (hr:RC h N P c p g):JI h N P c (Pj c p N.length) (nC g) []:=by
 obtain⟨ar,hj⟩:=hr.jc
 have hc:=hr.rep
 have hcl:=hc.1
 obtain⟨pl,pr⟩:=Lk h0 hc (Nat.le_refl _) hr.types
 have hup:=nB hk hn h0 hr.ty hc (Nat.le_refl _) hr.types
 have hrow:=hr.rows
 have hmem:∀k,∀a∈(nC g).getD k [],a∈(g.getD k (0,[])).2:=fun k a ha=>by
  rw[Re]at ha
  exact(CC _).mem_iff.1 ha
 have hmem2:∀k,∀a∈(g.getD k (0,[])).2,a∈(nC g).getD k []:=fun k a ha=>by
  rw[Re]
  exact(CC _).mem_iff.2 ha
 have hcr:∀x,x<N.length→0≤c.getD x 0∧c.getD x 0<(N.length:Int):=fun x hx=>by
  obtain⟨r1,r2,r3⟩:=hc.2 x hx
  exact⟨r1,by omega⟩
 have hat:∀x,x<N.length→∀b∈(N.getD x (0,[])).2,0≤b.2∧b.2<(N.length:Int):=fun x hx b hb=>(hr.good.2 _ (AD N (0,[]) hx)).2 b hb
 refine⟨hr.ty,A17 hc,hcl,by simp[Pj],by simp[nC,hrow.len],fun w hw=>(by cases hw),fun x x0 x1=>?_,fun k a ha=>?_,fun k=>?_,fun q hq=>?_,fun x r x0 x1 hxr=>?_,fun x r x0 x1 hxr a ha=>?_,fun X v hX hv=>?_⟩
 ·rw[Rd (by omega)]
  have:=hcr x.toNat (by omega)
  exact pr _ (by omega)
 ·obtain⟨x,hx,hxk,b,hb,e1,e2⟩:=hrow.inn k a (hmem k a ha)
  have hb2:=hat x hx b hb
  refine⟨by rw[e2];exact hcr _ (by omega),?_⟩
  rw[←e1]
  unfold CE
  exact List.mem_flatMap.2 ⟨_,AD N (0,[]) hx,List.mem_map.2 ⟨b,hb,rfl⟩⟩
 ·rw[Re]
  exact XN (hrow.nd k)
 ·have hq2:=hj.sp q hq
  have he:=hq2.nil
  have hq3:(0≤q.1∧q.1<(N.length:Int))∧(0≤q.2∧q.2<(N.length:Int)):=by
   have key:∀ {x y:Int},EQ N.length c [] x y→(0≤x∧x<(N.length:Int))∧(0≤y∧y<(N.length:Int)):=by
    intro x y h
    induction h with
    | cls a b c d _=>exact⟨⟨a,b⟩,c,d⟩
    | wt h=>cases h
    | symm _ ih=>exact⟨ih.2,ih.1⟩
    | trans _ _ i1 i2=>exact⟨i1.1,i2.2⟩
   exact key hq2
  exact A1I hc hq3.1.1 hq3.1.2 hq3.2.1 hq3.2.2 he
 ·have e:=(Lp hc x0 x1).det hxr
  subst e
  have h1:=hcr x.toNat (by omega)
  rw[Rd (by omega),(hc.2 x.toNat (by omega)).2.2]
  exact hup x.toNat (by omega)
 ·have e:=(Lp hc x0 x1).det hxr
  subst e
  have ha:a∈(N.getD x.toNat (0,[])).2:=ha
  obtain⟨u,hu⟩:=hrow.cov x.toNat (by omega) a ha
  refine⟨u,hmem2 _ _ hu,?_⟩
  obtain⟨y,hy,hyk,b,hb,e1,e2⟩:=hrow.inn _ _ hu
  have hcx:=hcr x.toNat (by omega)
  have hcy:=hcr y hy
  have hxy:c.getD x.toNat 0=c.getD y 0:=by omega
  have hs:=A18 hr (by omega) hy hxy ha hb e1.symm
  have ha2:=hat x.toNat (by omega) a ha
  have hb2:=hat y hy b hb
  have hcb:=hcr b.2.toNat (by omega)
  have e2:u=c.getD b.2.toNat 0:=e2
  refine A1I hc ha2.1 ha2.2 (by omega) (by omega) ?_
  rw[e2,(hc.2 b.2.toNat (by omega)).2.2]
  exact hs
 ·obtain⟨c1,c2,c3⟩:=hj.co X v hv
  obtain⟨q,hq,hqu⟩:=Jf (i:=N.length) hk hn h0 htop hr.ty hc (u:=fun k=>(X.getD (v (k:Int)).toNat (0,[])).1)
   (fun k hk=>by
    have:=hv.rng (k:Int) (by omega) (by omega)
    exact hX _ (AD X (0,[]) (by omega)))
   (fun x hx=>by
    have h1:=hv.ty (x:Int) (by omega) (by omega)
    rw[Int.toNat_natCast]at h1
    have h2:=c1 (x:Int) (by omega) (by omega)
    rw[Int.toNat_natCast]at h2
    have h3:=hcr x hx
    rw[show (((c.getD x 0).toNat:Nat):Int)=c.getD x 0 by omega,←h2]
    exact h1) (Nat.le_refl _)
  rw[hr.types]at hq
  cases hq
  refine⟨fun x r x0 x1 hxr=>?_,fun w hw=>(by cases hw),fun r r0 r1 hrr=>?_,fun r r0 r1 hrr a ha=>?_⟩
  ·have e:=(Lp hc x0 x1).det hxr
   subst e
   exact c1 x x0 x1
  ·have hrr:c.getD r.toNat 0=r:=hrr
   rw[Rd (by omega),hrr]
   have:=hqu r.toNat (by omega)
   rwa [show ((r.toNat:Nat):Int)=r by omega]at this
  ·have hrr:c.getD r.toNat 0=r:=hrr
   obtain⟨x,hx,hxk,b,hb,e1,e2⟩:=hrow.inn _ a (hmem _ a ha)
   have hcx:=hcr x hx
   have hxr:c.getD x 0=r:=by omega
   have hvx:=c1 (x:Int) (by omega) (by omega)
   rw[Int.toNat_natCast,hxr]at hvx
   have hb2:=hat x hx b hb
   have hvb:=c1 b.2 hb2.1 hb2.2
   have:=hv.arc (x:Int) (by omega) (by omega) b (by simpa[AW] using hb)
   rw[hvx,e1,hvb,←e2]at this
   exact this
theorem A2s (hr:RC h N P c p g):K3 g=quo c (Pj c p N.length) (nC g):=by
 have hc:=hr.rep
 have hl:=hr.rows.len
 apply List.ext_getElem?
 intro k
 by_cases hk:k<N.length
 ·have e1:(K3 g)[k]?=some ((K3 g).getD k (0,[])):=by
   rw[List.getD_eq_getElem?_getD,List.getElem?_eq_getElem (by rw[Lo];omega)];rfl
  have e2:(quo c (Pj c p N.length) (nC g))[k]?=some ((quo c (Pj c p N.length) (nC g)).getD k (0,[])):=by
   rw[List.getD_eq_getElem?_getD,List.getElem?_eq_getElem (by rw[DY,hc.1];omega)];rfl
  have e3:=Ja (p:=c) (ty:=Pj c p N.length) (ar:=nC g) (n:=(k:Int)) (by omega) (by rw[hc.1];omega)
  rw[Int.toNat_natCast]at e3
  rw[e1,e2,e3,Pi,hr.rows.ty k hk,Re]
  congr 2
  symm
  rw[List.map_congr_left (g:=id) fun a ha=>?_,List.map_id]
  have ha:=(CC _).mem_iff.1 ha
  obtain⟨x,hx,hxk,b,hb,f1,f2⟩:=hr.rows.inn k a ha
  have hb2:=(hr.good.2 _ (AD N (0,[]) hx)).2 b hb
  obtain⟨r1,r2,r3⟩:=hc.2 b.2.toNat (by omega)
  rw[f2.symm]at r1 r2 r3
  rw[Zh hc r1 (by omega),r3]
  rfl
 ·rw[List.getElem?_eq_none (by rw[Lo];omega),List.getElem?_eq_none (by rw[DY,hc.1];omega)]
end
theorem qC {h:AM} {N:List AE} {P:List (Int×Int)} {c p:List Int} {g:List AE} (hr:RC h N P c p g) (hf:Tl N):Q4 (K3 g):=by
 intro x hx
 obtain⟨y,hy,rfl⟩:=List.mem_map.1 hx
 obtain⟨k,hk,rfl⟩:=List.mem_iff_getElem.1 hy
 have e:g[k]=g.getD k (0,[]):=by rw[List.getD_eq_getElem?_getD,List.getElem?_eq_getElem hk];rfl
 rw[e]
 have hst:=XN (hr.rows.nd k)
 refine⟨(Ik _).2 hst,Nat.le_trans (M0 hst fun a ha=>?_) (by omega)⟩
 obtain⟨x,hx,_,b,hb,f1,_⟩:=hr.rows.inn k a ((CC _).mem_iff.1 ha)
 rw[←f1]
 exact hf _ (AD N (0,[]) hx) b hb
def IG (a b:List AE):List Int:=JP (AO a b) (Bc (Al (AO a b).length) 0 (a.length:Int))
def M2 (h:AM) (a b:List AE):List AE×Bool :=
 if (HN h (AO a b) (IG a b)).2=true then (OU (AO a b) (IG a b) (HN h (AO a b) (IG a b)).1 0,true) else ([],false)
theorem XO {h:AM} {N:List AE} {P:List (Int×Int)} {o:List Int} {ar:List (List (Int×Int))} {W:List (Int×Int)} (hj:JC h N P o ar W):OT N.length o:=⟨hj.ci.lo,hj.ci.rep⟩
theorem Zi {h:AM} (hk:T8 h) (hn:Q5 h) (htop:Je h) {N:List AE} {P:List (Int×Int)} {c p:List Int} (hr:RC h N P c p (CS N c (Pj c p N.length) N.length)) (hf:Tl N) (hN:0<N.length) :
  JI h N P c (Pj c p N.length) (nC (CS N c (Pj c p N.length) N.length)) []∧Ag (quo c (Pj c p N.length) (nC (CS N c (Pj c p N.length) N.length)))∧OU N c (Pj c p N.length) 0=AR (quo c (Pj c p N.length) (nC (CS N c (Pj c p N.length) N.length))) (DF c 0):=by
 have h0:0<h.1.length:=by
  have:=Qn hr.ty hN
  omega
 have hj:=A5B hk hn htop h0 hr
 have hQ:=Ip hj hr.good.1 hf
 have hs:=qC hr hf
 have hq:=A2s hr
 refine⟨hj,hQ,?_⟩
 obtain⟨r1,r2,r3⟩:=hr.rep.2 0 hN
 unfold OU
 rw[←dC hr.rows.nd]
 show GU (K3 (CS N c (Pj c p N.length) N.length)) (c.getD 0 0)=_
 rw[Kp (by rw[hq];exact hQ) hs r1 (by rw[Lo,hr.rows.len];omega),hq,Zh hr.rep (x:=0) (by omega) (by omega)]
 rfl
section
variable {h:AM} {a b:List AE}
theorem Vl (va:VF h a) (vb:VF h b) (hab:a.length+b.length≤100):∃ar,JC h (AO a b) [(0,(a.length:Int))] (IG a b) ar []:=by
 have hl:=BB a b
 have:=va.pos
 have:=vb.pos
 exact Pb (CT va.good vb.good (by omega)) (A2m (DD va.str vb.str)) (by omega) (by omega) (by omega) (by omega)
theorem wD (hu:HU h) (hn:Q5 h) (htop:Je h) (va:VF h a) (vb:VF h b) (hab:a.length+b.length≤100):M2 h a b=Bq h a b:=by
 have hl:=BB a b
 have pa:=va.pos
 have pb:=vb.pos
 have hg:=CT va.good vb.good (by omega)
 have hs:=DD va.str vb.str
 have ht:=QQX va.ty vb.ty
 have hf:=FT (va.ft64 hu) (vb.ft64 hu)
 obtain⟨ar,hj⟩:=Vl va vb hab
 have hrep:=XO hj
 have h0:0<h.1.length:=by
  have:=Qn ht (x:=0) (by omega)
  omega
 have e:HN h (AO a b) (IG a b)=match HV h (AO a b) (IG a b) (AO a b).length with
  | none=>([],false)
  | some o=>(Pj (IG a b) o (AO a b).length,true):=rfl
 cases hp:HV h (AO a b) (IG a b) (AO a b).length with
 | none =>
  rw[hp]at e
  have e2:M2 h a b=([],false):=by unfold M2;rw[e];rfl
  rw[e2,Pe va vb]
  intro X v hX hv
  obtain⟨c1,_,_⟩:=hj.co X v hv
  obtain⟨q,hq,_⟩:=Jf (i:=(AO a b).length) hu.ok hn h0 htop ht hrep (u:=fun k=>(X.getD (v (k:Int)).toNat (0,[])).1)
   (fun k hk=>by
    have:=hv.rng (k:Int) (by omega) (by omega)
    exact hX _ (AD X (0,[]) (by omega)))
   (fun x hx=>by
    have h1:=hv.ty (x:Int) (by omega) (by omega)
    rw[Int.toNat_natCast]at h1
    have h2:=c1 (x:Int) (by omega) (by omega)
    rw[Int.toNat_natCast]at h2
    have h3:=hrep.2 x hx
    rw[show ((((IG a b).getD x 0).toNat:Nat):Int)=(IG a b).getD x 0 by omega,←h2]
    exact h1) (Nat.le_refl _)
  rw[hp]at hq
  cases hq
 | some p =>
  rw[hp]at e
  have hr:RC h (AO a b) [(0,(a.length:Int))] (IG a b) p (CS (AO a b) (IG a b) (Pj (IG a b) p (AO a b).length) (AO a b).length):=⟨hg,ht,hrep,hp,Ph hrep (Nat.le_refl _),ar,hj⟩
  obtain⟨h1,h2,h3⟩:=Zi hu.ok hn htop hr hf (by omega)
  rw[K1 hu (Rb va vb h1 h2)]
  unfold M2
  rw[e]
  simp only[if_true]
  rw[h3]
end
end
/- Plain: a path as a tree; the most general structure with one value at two paths. -/
section
def GM (p:List Int) (n:Nat):List AE:=(List.range n).map fun(i:Nat)=>((0:Int),[(p.getD i 0,(i:Int)+1)])
def M3 (p:List Int) (g:List AE):List AE:=GM p p.length++g.map fun x=>(x.1,BA p.length x.2)
abbrev CH (p:List Int):List AE:=M3 p [((0:Int),[])]
theorem Zj (p:List Int) (n:Nat):GM p (n+1)=GM p n++[((0:Int),[(p.getD n 0,(n:Int)+1)])]:=by simp[GM,List.range_succ]
theorem HR (p:List Int) (n:Nat):(GM p n).length=n:=by simp[GM]
theorem Br (p:List Int):(CH p).length=p.length+1:=by simp[M3,GM]
theorem Tr (p:List Int) {i:Int} (i0:0≤i) (i1:i<(p.length:Int)):(CH p).getD i.toNat (0,[])=(0,[(p.getD i.toNat 0,i+1)]):=by
 unfold CH M3
 rw[List.getD_eq_getElem?_getD,List.getElem?_append_left (by rw[HR];omega)]
 unfold GM
 rw[List.getElem?_map,List.getElem?_range (by omega)]
 show ((0:Int),[(p.getD i.toNat 0,((i.toNat:Nat):Int)+1)])=_
 rw[Int.toNat_of_nonneg i0]
theorem dD (p:List Int):(CH p).getD p.length (0,[])=(0,[]):=by
 unfold CH M3
 rw[List.getD_eq_getElem?_getD,List.getElem?_append_right (by rw[HR];omega),HR,Nat.sub_self]
 rfl
theorem M4 (p:List Int) {i:Int} (i0:0≤i) (i1:i<((CH p).length:Int)):(i<(p.length:Int)∧(CH p).getD i.toNat (0,[])=(0,[(p.getD i.toNat 0,i+1)]))∨(i=(p.length:Int)∧(CH p).getD i.toNat (0,[])=(0,[])):=by
 rw[Br]at i1
 by_cases h:i<(p.length:Int)
 ·exact .inl ⟨h,Tr p i0 h⟩
 ·have e:i=(p.length:Int):=by omega
  subst e
  right
  rw[Int.toNat_natCast]
  exact⟨rfl,dD p⟩
theorem Lq (p:List Int) {x:AE} (hx:x∈CH p):x=(0,[])∨∃i,i<p.length∧x=(0,[(p.getD i 0,(i:Int)+1)]):=by
 obtain⟨i,hi,rfl⟩:=Bn (0,[]) hx
 rcases M4 p (i:=(i:Int)) (by omega) (by omega) with ⟨h1,h2⟩|⟨h1,h2⟩
 ·rw[Int.toNat_natCast]at h2
  exact .inr ⟨i,by omega,h2⟩
 ·rw[Int.toNat_natCast]at h2
  exact .inl h2
def L0 (h:AM) (p:List Int):Prop:=∀e∈p,0≤e∧e<(h.2.length:Int)
theorem Iq {h:AM} {p:List Int} (hp:L0 h p):∀x∈CH p,∀a∈x.2,0≤a.1∧a.1<(h.2.length:Int):=by
 intro x hx a ha
 rcases Lq p hx with rfl|⟨i,hi,rfl⟩
 ·cases ha
 ·have:a=(p.getD i 0,(i:Int)+1):=by simpa using ha
  rw[this]
  exact hp _ (DA hi)
theorem Ep {p:List Int} (hp:p.length≤1000):Ag (CH p):=by
 have hl:=Br p
 refine⟨by omega,fun x hx=>?_⟩
 rcases Lq p hx with rfl|⟨i,hi,rfl⟩
 ·exact⟨by simp,fun a ha=>by cases ha⟩
 ·refine⟨by simp,fun a ha=>?_⟩
  have:a=(p.getD i 0,(i:Int)+1):=by simpa using ha
  rw[this,hl]
  simp only
  omega
theorem Lr (p:List Int):∀x∈CH p,Oa x.2:=by
 intro x hx
 rcases Lq p hx with rfl|⟨i,hi,rfl⟩
 ·exact .nil
 ·exact List.pairwise_singleton _ _
theorem Oc {h:AM} (h0:0<h.1.length) (p:List Int):EH h (CH p):=by
 intro x hx
 rcases Lq p hx with rfl|⟨i,hi,rfl⟩
 ·exact⟨by simp,by simp only;omega⟩
 ·exact⟨by simp,by simp only;omega⟩
theorem Zk (p:List Int):RO (CH p):=by
 intro i i0 i1
 rw[Br]at i1
 refine⟨i-1,by omega,by omega,(p.getD (i-1).toNat 0,i-1+1),?_,by simp only;omega⟩
 rw[AW,Tr p (by omega) (by omega)]
 exact List.mem_singleton.2 rfl
theorem wE {l:List (Int×Int)} (h:Oa l) {e:Int} (he:0≤Ly l e):vG l e=Ly l e:=by
 obtain⟨a,ha,e1,e2⟩:=OW he
 rw[←e1,A0P h ha,Kt h ha]
theorem Zl {f:List AE} (hf:Ag f) (h0:0<f.length) (p:List Int):∀n,A1 f 0 p=some n→0≤n∧n<(f.length:Int):=by
 induction p using MK with
 | h0 =>
  intro n h
  simp only[A1,Option.some.injEq]at h
  omega
 | h1 p e ih =>
  intro n h
  obtain⟨x,hx,a,ha,e1,e2⟩:=PW h
  rw[←e2]
  exact Bi hf ha
theorem Ts {f:List AE} {p:List Int} {n:Int} (h:A1 f 0 p=some n) (k:Nat):∃m,A1 f 0 (p.take k)=some m:=by
 cases hh:A1 f 0 (p.take k) with
 | none =>
  have:=PU (p.take k) 0 (p.drop k) hh
  rw[List.take_append_drop,h]at this
  cases this
 | some m=>exact⟨m,rfl⟩
theorem Zm {h:AM} (ht:Je h) {X:List AE} (hX:Ag X) (x0:0<X.length) (tX:EH h X) (sX:∀x∈X,Oa x.2) {p:List Int} {n:Int} (hw:A1 X 0 p=some n):∃m,Lz h (CH p) X m∧m (p.length:Int)=n:=by
 have hw1:∀k,A1 X 0 (p.take k)=some ((A1 X 0 (p.take k)).getD 0):=fun k=>by
  obtain⟨m,hm⟩:=Ts hw k
  rw[hm]
  rfl
 have hr:=fun k=>Zl hX x0 (p.take k) _ (hw1 k)
 refine⟨fun i=>(A1 X 0 (p.take i.toNat)).getD 0,⟨rfl,fun i i0 i1=>hr i.toNat,fun i i0 i1=>?_,fun i i0 i1 a ha=>?_⟩,?_⟩
 ·have e:((CH p).getD i.toNat (0,[])).1=0:=by
   rcases M4 p i0 i1 with ⟨-,h2⟩|⟨-,h2⟩<;>rw[h2]
  rw[e]
  have hq:=hr i.toNat
  have:=tX _ (AD X (0,[]) (k:=((A1 X 0 (p.take i.toNat)).getD 0).toNat) (by omega))
  exact ht _ this.1 this.2
 ·rcases M4 p i0 i1 with ⟨h1,h2⟩|⟨-,h2⟩
  ·rw[AW,h2]at ha
   have e:a=(p.getD i.toNat 0,i+1):=by simpa using ha
   subst e
   have hs:=Ab p 0 (k:=i.toNat) (by omega)
   have hw2:=hw1 (i.toNat+1)
   rw[hs]at hw2
   obtain⟨x,hx,b,hb,e1,e2⟩:=PW hw2
   have hx2:=hw1 i.toNat
   rw[hx]at hx2
   have hx3:x=(A1 X 0 (p.take i.toNat)).getD 0:=by rw[hx];rfl
   show Ly (AW X ((A1 X 0 (p.take i.toNat)).getD 0)) (p.getD i.toNat 0)=(A1 X 0 (p.take (i+1).toNat)).getD 0
   rw[←hx3,show (i+1).toNat=i.toNat+1 by omega,hs,←e2,←e1]
   exact Kt (K0 sX x) hb
  ·rw[AW,h2]at ha
   cases ha
 ·show (A1 X 0 (p.take ((p.length:Nat):Int).toNat)).getD 0=n
  rw[Int.toNat_natCast,List.take_length,hw]
  rfl
theorem Zn {h:AM} {X:List AE} (hX:Ag X) (x0:0<X.length) (sX:∀x∈X,Oa x.2) {p:List Int} {m:Int→Int} (hm:Lz h (CH p) X m):A1 X 0 p=some (m (p.length:Int)):=by
 have key:∀k,k≤p.length→A1 X 0 (p.take k)=some (m (k:Int)):=by
  intro k
  induction k with
  | zero =>
   intro _
   rw[List.take_zero]
   show some (0:Int)=some (m 0)
   rw[hm.zero]
  | succ k ih =>
   intro hk
   have hi:=ih (by omega)
   have hn:=Tr p (i:=(k:Int)) (by omega) (by omega)
   have hl:=Br p
   have ha:=hm.arc (k:Int) (by omega) (by omega) (p.getD k 0,(k:Int)+1) (by
    rw[AW,hn,Int.toNat_natCast]
    exact List.mem_singleton.2 rfl)
   have hr:=hm.rng ((k:Int)+1) (by omega) (by omega)
   rw[Ab p 0 (by omega),JY X _ 0 _ _ hi]
   simp only at ha
   rw[wE (K0 sX _) (by rw[ha];exact hr.1),ha,if_neg (by omega)]
   rfl
 have:=key p.length (Nat.le_refl _)
 rwa [List.take_length]at this
structure dE (h:AM) (f:List AE) (p q:List Int) (U:List AE):Prop where
 vf:VF h U
 left:∃m,Lz h f U m
 eq:∃n,A1 U 0 p=some n∧A1 U 0 q=some n
 least:∀X,VF h X→∀m1,Lz h f X m1→∀n,A1 X 0 p=some n→A1 X 0 q=some n→∃m,Lz h U X m
 len:U.length≤f.length+p.length+q.length+2
theorem A19 {h:AM} (hu:HU h) {f U V:List AE} {p q:List Int} (h1:dE h f p q U) (h2:dE h f p q V):U=V:=by
 obtain⟨m1,g1⟩:=h2.left
 obtain⟨n1,a1,b1⟩:=h2.eq
 obtain⟨m3,g3⟩:=h1.left
 obtain⟨n2,a2,b2⟩:=h1.eq
 obtain⟨m,hm⟩:=h1.least V h2.vf m1 g1 n1 a1 b1
 obtain⟨m',hm'⟩:=h2.least U h1.vf m3 g3 n2 a2 b2
 exact A1G hu h1.vf h2.vf hm hm'
open Classical in
noncomputable def HS (h:AM) (f:List AE) (p q:List Int):List AE×Bool:=if H:∃U,dE h f p q U then (H.choose,true) else ([],false)
theorem Pk {h:AM} (hu:HU h) {f U:List AE} {p q:List Int} (h1:dE h f p q U):HS h f p q=(U,true):=by
 unfold HS
 have H:∃U,dE h f p q U:=⟨U,h1⟩
 rw[dif_pos H,A19 hu H.choose_spec h1]
theorem Pl {h:AM} {f:List AE} {p q:List Int} (h1:∀X,VF h X→∀m1,Lz h f X m1→∀n,A1 X 0 p=some n→A1 X 0 q≠some n):HS h f p q=([],false):=by
 unfold HS
 rw[dif_neg]
 rintro⟨U,hU⟩
 obtain⟨m1,g1⟩:=hU.left
 obtain⟨n,a,b⟩:=hU.eq
 exact h1 U hU.vf m1 g1 n a b
theorem qD {h:AM} {f:List AE} {p q:List Int} (h1:(HS h f p q).2=true):dE h f p q (HS h f p q).1:=by
 unfold HS at h1 ⊢
 split at h1
 ·rename_i H
  rw[dif_pos H]
  exact H.choose_spec
 ·cases h1
abbrev qE (f:List AE) (p q:List Int):List AE:=AO (AO f (CH p)) (CH q)
abbrev eqP (f:List AE) (p q:List Int):List (Int×Int):=[(0,(f.length:Int)),((f.length:Int),((f.length+(p.length+1):Nat):Int)),(((f.length+p.length:Nat):Int),((f.length+(p.length+1)+q.length:Nat):Int))]
theorem XP (f:List AE) (p q:List Int):(qE f p q).length=f.length+(p.length+1)+(q.length+1):=by
 rw[BB,BB,Br,Br]
theorem XQ {h:AM} (ht:Je h) {f:List AE} {p q:List Int} (hf:VF h f) (hp:p.length≤1000) (hq:q.length≤1000) (hl:f.length≤10000) {X:List AE} (hX:VF h X) {m1:Int→Int} (h1:Lz h f X m1) {n:Int} (hn1:A1 X 0 p=some n) (hn2:A1 X 0 q=some n):∃v,RW h (qE f p q) (eqP f p q) X v∧v 0=0:=by
 obtain⟨a,ha,ea⟩:=Zm ht hX.good hX.pos hX.ty hX.str hn1
 obtain⟨b,hb,eb⟩:=Zm ht hX.good hX.pos hX.ty hX.str hn2
 have hpf:=hf.pos
 have j1:=BB f (CH p)
 rw[Br]at j1
 have hg:=CT hf.good (Ep hp) (by rw[Br];omega)
 refine⟨_,Th (Ky hg (Ep hq) (Ky hf.good (Ep hp) (Gd h1) (Gd ha)) (Gd hb)) fun r hr=>?_,?_⟩
 ·simp only[List.mem_cons,List.not_mem_nil,or_false]at hr
  rcases hr with rfl|rfl|rfl
  ·simp only
   rw[j1,if_pos (by omega),if_pos (by omega),if_pos (by omega),if_neg (by omega),Int.sub_self,h1.zero,ha.zero]
  ·simp only
   rw[j1,if_pos (by omega),if_neg (by omega),if_neg (by omega),Int.sub_self,ha.zero,show ((f.length+(p.length+1):Nat):Int)-((f.length+(p.length+1):Nat):Int)=0 by omega,hb.zero]
  ·simp only
   rw[j1,if_pos (by omega),if_neg (by omega),if_neg (by omega),show ((f.length+p.length:Nat):Int)-(f.length:Int)=(p.length:Int) by omega,ea,show ((f.length+(p.length+1)+q.length:Nat):Int)-((f.length+(p.length+1):Nat):Int)=(q.length:Int) by omega,eb]
 ·show (if (0:Int)<((AO f (CH p)).length:Int) then (if (0:Int)<(f.length:Int) then m1 0 else a (0-(f.length:Int))) else b (0-((AO f (CH p)).length:Int)))=0
  rw[j1,if_pos (by omega),if_pos (by omega)]
  exact h1.zero
theorem wF {h:AM} (ht:Je h) {f:List AE} {p q:List Int} (hf:VF h f) (fp:L0 h p) (fq:L0 h q) (hp:p.length≤1000) (hq:q.length≤1000) (hl:f.length≤10000) {P ty:List Int} {ar:List (List (Int×Int))} (hj:JI h (qE f p q) (eqP f p q) P ty ar []) (hQ:Ag (quo P ty ar)):dE h f p q (AR (quo P ty ar) (DF P 0)):=by
 have hpf:=hf.pos
 have j1:=BB f (CH p)
 rw[Br]at j1
 have j2:=XP f p q
 have hN:0<(qE f p q).length:=by omega
 have h0:=Jc hj hQ hN
 have c1:XJ (qE f p q) 0 f:=Io (Io Pd)
 have c2:XJ (qE f p q) f.length (CH p):=Io Jd
 have c3:XJ (qE f p q) (f.length+(p.length+1)) (CH q):=by
  have:=Jd (f:=AO f (CH p)) (g:=CH q)
  rw[j1]at this
  exact this
 have r1:=HQ hj hQ hN c1 hf.ro h0
 have e1:DF P (f.length:Int)∈Kw P ty ar:=Tf hj (x:=0) (by simp) h0
 have r2:=HQ hj hQ hN c2 (Zk p) e1
 have e2:DF P ((f.length+(p.length+1):Nat):Int)∈Kw P ty ar:=Tf hj (x:=(f.length:Int)) (by simp) e1
 have r3:=HQ hj hQ hN c3 (Zk q) e2
 have hU:=c8 hj hQ hN fun x x0 x1=>by
  by_cases hx:x<(f.length:Int)
  ·have:=r1 x.toNat x (Nat.le_refl _) x0 hx
   rwa [show ((0:Nat):Int)+x=x by omega]at this
  ·by_cases hx2:x<((f.length+(p.length+1):Nat):Int)
   ·have:=r2 _ (x-(f.length:Int)) (Nat.le_refl _) (by omega) (by rw[Br];omega)
    rwa [show (f.length:Int)+(x-(f.length:Int))=x by omega]at this
   ·have:=r3 _ (x-((f.length+(p.length+1):Nat):Int)) (Nat.le_refl _) (by omega) (by rw[Br];omega)
    rwa [show ((f.length+(p.length+1):Nat):Int)+(x-((f.length+(p.length+1):Nat):Int))=x by omega]at this
 generalize hv:(fun x=>Bw (Kw P ty ar) (DF P x))=v at hU
 have hft:∀x∈qE f p q,∀a∈x.2,0≤a.1∧a.1<(h.2.length:Int):=by
  have key:∀ {g k:List AE},(∀x∈g,∀a∈x.2,0≤a.1∧a.1<(h.2.length:Int))→(∀x∈k,∀a∈x.2,0≤a.1∧a.1<(h.2.length:Int))→∀x∈AO g k,∀a∈x.2,0≤a.1∧a.1<(h.2.length:Int):=by
   intro g k hg hk x hx
   unfold AO at hx
   rcases List.mem_append.1 hx with hx|hx
   ·exact hg x hx
   ·obtain⟨y,hy,rfl⟩:=List.mem_map.1 hx
    intro a ha
    obtain⟨b,hb,rfl⟩:=List.mem_map.1 ha
    exact hk y hy b hb
  exact key (key hf.ft (Iq fp)) (Iq fq)
 have hvf:=dA hj hQ hN hft hU
 have z1:v (f.length:Int)=0:=by rw[←hU.proj.eq (0,(f.length:Int)) (by simp)];exact hU.zero
 have z2:v ((f.length+(p.length+1):Nat):Int)=0:=by rw[←hU.proj.eq ((f.length:Int),((f.length+(p.length+1):Nat):Int)) (by simp)];exact z1
 have z3:v ((f.length+p.length:Nat):Int)=v ((f.length+(p.length+1)+q.length:Nat):Int):=hU.proj.eq (((f.length+p.length:Nat):Int),((f.length+(p.length+1)+q.length:Nat):Int)) (by simp)
 refine⟨hvf,⟨_,Kx hU.proj c1 hU.zero⟩,⟨v ((f.length+p.length:Nat):Int),?_,?_⟩,fun X hX m1 h1 n hn1 hn2=>?_,by have:=hU.len;omega⟩
 ·have:=Zn hvf.good hvf.pos hvf.str (Kx hU.proj c2 z1)
  rw[this]
  congr 2
 ·have:=Zn hvf.good hvf.pos hvf.str (Kx hU.proj c3 z2)
  rw[this,z3]
  congr 2
 ·obtain⟨w,hw,hw0⟩:=XQ ht hf hp hq hl hX h1 hn1 hn2
  exact hU.least X w hX.ty hw hw0
end
/- Functions of grammarlabref07: Check. -/
section
attribute [local go_sem] SZ G0
def ftR (h:AM) (a:Int×Int):Bool:=decide (a.1<(h.2.length:Int))
def qF (h:AM) (x:AE):Bool:=decide (x.1<(h.1.length:Int))&&x.2.all (ftR h)
def Jg (h:AM) (f:List AE):Int:=if (CD f).2≠0 then (CD f).2 else if f.all (qF h)=false then 2 else if (Ck f (CD f).1==0)=false then 3 else 0
def Rf:Ak:={ ins:=[GS,Ei],pre:=fun(_,f,_)=>FJ f,out:=fun(h,f,_)=>[.p YO (Jg h f)] }
theorem qG:Ao Tryz.prog 55 Rf:=by
 refine AX Tryz.func55 (by kernel_rfl) rfl Tryz.ntmps55 (by decide) (by kernel_rfl) (AJ [(73,SZ),(20,G0)]) (AF tJ (AF SW AL)) ?_
 rintro w0 O0 ⟨⟨ht,hf⟩,f,u⟩ hc-hs
 have hs:FJ f:=hs
 simp only[Rf,AN]
 repeat'(first|exact trivial|refine eS rfl ?_|refine AB ?_|refine rX [0,1,2,3,4,5,6,7,8,9,16,22,35,40,52,56] hc ?_ ?_|refine rC ?_ ?_<;>intro AA<;>try(cases AA;done))
 ·exact hs.2
 ·have h1:Jg (ht,hf) f=(CD f).2:=by unfold Jg;rw[if_pos AA]
  exact AH hc [.tmp 4] rfl (.inl rfl) (by simp) (by rw[h1];first|exact eR|refine Ax ?_)
 ·have hz:(CD f).2=0:=by simpa using AA
  have hsc:=ZL hs.2
  have hfl:=hs.1
  have hr:Jg (ht,hf) f=if f.all (qF (ht,hf))=false then 2 else if (Ck f (CD f).1==0)=false then 3 else 0:=by unfold Jg;rw[if_neg (by rw[hz];simp)]
  refine AK (ι:={i:Nat//i≤f.length∧(f.take i).all (qF (ht,hf))=true}) (fun i=>⟨[(2,.bp 2 [] 0),(3,.bp 3 [] 0),(5,.bp 5 [] 0),(7,.p (.int .i64) (i.1:Int))],[(2,.box 29 true [.p fB ht,.p oL hf]),(3,.box 25 true [.p Ib f]),(5,.box 25 true [.p Ib (CD f).1])]⟩) (fun i=>f.length-i.1) ⟨0,by simp⟩ (AC [(2,.nm 2),(3,.nm 3),(5,.nm 5)] rfl rfl ?_ ?_) (fun i=>?_)
  ·first|exact eN|refine eM ?_
  ·first|exact eN|refine eM ?_
  ·obtain⟨i,hi,hall⟩:=i
   have hsn:=fun h:i<f.length=>Ig f (0,[]) (qF (ht,hf)) h
   simp only
   repeat'(first|exact trivial|refine eS rfl ?_|refine AB ?_|refine rX [0,1,2,3,4,5,6,7,8,9,16,22,35,40,52,56] hc ?_ ?_|refine rC ?_ ?_<;>intro AA<;>try(cases AA;done))
   ·exact AA
   ·have hif:i<f.length:=Int.ofNat_lt.1 (by assumption)
    have e:f.all (qF (ht,hf))=false:=by
     rw[List.all_eq_false]
     refine⟨_,AD f (0,[]) hif,?_⟩
     unfold qF
     rw[decide_eq_false (Int.not_lt.2 AA)]
     simp
    rw[if_pos e]at hr
    exact AH hc [.tmp 4] rfl (.inl rfl) (by simp) (by rw[hr];first|exact eR|refine Ax ?_)
   ·have hif:i<f.length:=Int.ofNat_lt.1 (by assumption)
    have hm:=AD f (0,[]) hif
    have hnd:qF (ht,hf) (f.getD i (0,[]))=(f.getD i (0,[])).2.all (ftR (ht,hf)):=by
     unfold qF
     rw[decide_eq_true (show (f.getD i (0,[])).1<(ht.length:Int) from AA)]
     rfl
    have hal:(f.getD i (0,[])).2.length≤100000:=hs.2 _ hm
    refine AK (ι:={k:Nat//k≤(f.getD i (0,[])).2.length∧((f.getD i (0,[])).2.take k).all (ftR (ht,hf))=true}) (fun k=>⟨[(2,.bp 2 [] 0),(3,.bp 3 [] 0),(5,.bp 5 [] 0),(7,.p (.int .i64) (i:Int)),(8,.bp 8 [] 0),(9,.p (.int .i64) (k.1:Int))],[(2,.box 29 true [.p fB ht,.p oL hf]),(3,.box 25 true [.p Ib f]),(5,.box 25 true [.p Ib (CD f).1]),(8,.box 88 true [.p T3 (f.getD i (0,[])).1,.p Cb (f.getD i (0,[])).2])]⟩) (fun k=>(f.getD i (0,[])).2.length-k.1) ⟨0,by simp⟩ (AC [(2,.nm 2),(3,.nm 3),(5,.nm 5),(8,.nm 8)] rfl rfl ?_ ?_) (fun k=>?_)
    ·first|exact eN|refine eM ?_
    ·first|exact eN|refine eM ?_
    ·obtain⟨k,hk,hall2⟩:=k
     have hsn2:=fun h:k<(f.getD i (0,[])).2.length=>Ig (f.getD i (0,[])).2 (0,0) (ftR (ht,hf)) h
     simp only
     repeat'(first|exact trivial|refine eS rfl ?_|refine AB ?_|refine rX [0,1,2,3,4,5,6,7,8,9,16,22,35,40,52,56] hc ?_ ?_|refine rC ?_ ?_<;>intro AA<;>try(cases AA;done))
     ·exact AA
     ·have hkL:k<(f.getD i (0,[])).2.length:=Int.ofNat_lt.1 (by assumption)
      have e:f.all (qF (ht,hf))=false:=by
       rw[List.all_eq_false]
       refine⟨_,hm,?_⟩
       rw[hnd,List.all_eq_false.2 ⟨_,AD (f.getD i (0,[])).2 (0,0) hkL,by unfold ftR;rw[decide_eq_false (Int.not_lt.2 AA)];simp⟩]
       simp
      rw[if_pos e]at hr
      exact AH hc [.tmp 4] rfl (.inl rfl) (by simp) (by rw[hr];first|exact eR|refine Ax ?_)
     ·exact eV
     ·have hkL:k<(f.getD i (0,[])).2.length:=Int.ofNat_lt.1 (by assumption)
      refine⟨⟨k+1,hkL,?_⟩,by simp only;omega,AC [(2,.nm 2),(3,.nm 3),(5,.nm 5),(8,.nm 8)] rfl rfl ?_ ?_⟩
      ·rw[hsn2 hkL,hall2]
       unfold ftR
       exact decide_eq_true AA
      ·first|exact eN|refine eM ?_
      ·first|exact eN|refine eM ?_
     ·exact eV
     ·have hkL:(f.getD i (0,[])).2.take k=(f.getD i (0,[])).2:=List.take_of_length_le (Int.ofNat_le.1 AA)
      rw[hkL]at hall2
      refine⟨⟨i+1,hif,?_⟩,by simp only;omega,AC [(2,.nm 2),(3,.nm 3),(5,.nm 5)] rfl rfl ?_ ?_⟩
      ·rw[hsn hif,hall,hnd,hall2]
       rfl
      ·first|exact eN|refine eM ?_
      ·first|exact eN|refine eM ?_
   ·exact⟨hs,hsc⟩
   ·have hif:f.take i=f:=List.take_of_length_le (Int.ofNat_le.1 (by assumption))
    rw[hif]at hall
    rw[if_neg (by rw[hall];simp),if_pos (by simpa using AA)]at hr
    exact AH hc [.tmp 4] rfl (.inl rfl) (by simp) (by rw[hr];first|exact eR|refine Ax ?_)
   ·have hif:f.take i=f:=List.take_of_length_le (Int.ofNat_le.1 (by assumption))
    rw[hif]at hall
    rw[if_neg (by rw[hall];simp),if_neg (by rw[AA];simp)]at hr
    exact AH hc [.tmp 4] rfl (.inl rfl) (by simp) (by rw[hr];first|exact eR|refine Ax ?_)
def K4 (h:AM) (f:List AE):Bool:=GK f&&Jg h f==0
end
/- Plain: what is valid for a hierarchy is canonical. -/
section
theorem K5 (d:List AI):(AY d).1.1.length≤256∧(AY d).1.2.length≤64:=by
 unfold AY
 split
 ·exact⟨by simp,by simp⟩
 ·rename_i hv
  have hv:(BK d).2=0:=Classical.byContradiction hv
  have h5:BJ d=0:=by
   unfold BK at hv
   split at hv
   ·rename_i h;exact absurd hv h
   ·rename_i h;exact Classical.byContradiction h
  obtain⟨hz,hf64,-⟩:=CG h5
  obtain⟨-,hlen,-⟩:=BZ hz
  refine⟨?_,?_⟩
  ·show (Eb _ _ _).length≤256
   rw[Lj,HJ]
   exact hlen
  ·show (EF d).1.length≤64
   unfold EF
   rw[if_neg (by rw[h5];simp)]
   show ((DU d).map (S6 d)).length≤64
   rw[List.length_map]
   exact hf64
theorem Zo {H:AM} (hb1:H.1.length≤256) (hb2:H.2.length≤64) {f:List AE} (h:K4 H f=true):Ag f∧Q4 f∧0<f.length∧EH H f∧DX f=true∧f.length≤12∧∀x∈f,∀a∈x.2,0≤a.1∧a.1<(H.2.length:Int):=by
 unfold K4 at h
 rw[Bool.and_eq_true,beq_iff_eq]at h
 obtain⟨hl,hc⟩:=h
 unfold Jg at hc
 split at hc
 ·rename_i h1;exact absurd hc h1
 ·rename_i h1
  split at hc
  ·cases hc
  ·rename_i h2
   split at hc
   ·cases hc
   ·rename_i h3
    have h1:(CD f).2=0:=Classical.byContradiction h1
    have h2:f.all (qF H)=true:=by simpa using h2
    have h3:Ck f (CD f).1=0:=by simpa using h3
    have hcan:DX f=true:=by
     unfold DX
     simp only[Bool.and_eq_true,beq_iff_eq]
     refine⟨⟨hl,?_⟩,h1,?_⟩
     ·rw[List.all_eq_true]at h2 ⊢
      intro x hx
      have:=h2 x hx
      unfold qF at this
      rw[Bool.and_eq_true,decide_eq_true_eq,List.all_eq_true]at this
      unfold ndB
      rw[Bool.and_eq_true,decide_eq_true_eq,List.all_eq_true]
      refine⟨by omega,fun a ha=>?_⟩
      have:=this.2 a ha
      unfold ftR at this
      rw[decide_eq_true_eq]at this
      unfold ftB
      rw[decide_eq_true_eq]
      omega
     ·rw[←Kq h3]
      exact ML f
    obtain⟨g1,g2,g3,-⟩:=Ks hcan
    have hz:Dy f=0:=by
     unfold CD at h1
     split at h1
     ·rename_i hh;exact hh
     ·exact h1
    have hzg:Jo (f.length:Int) f=0:=by
     unfold Dy at hz
     split at hz
     ·cases hz
     ·split at hz
      ·cases hz
      ·exact hz
    refine⟨g1,g2,g3,fun x hx=>?_,hcan,(Kn hl).1,fun x hx a ha=>?_⟩
    ·have h5:=List.all_eq_true.1 h2 x hx
     unfold qF at h5
     rw[Bool.and_eq_true,decide_eq_true_eq]at h5
     exact⟨(JO hzg x hx).1,h5.1⟩
    ·have h5:=List.all_eq_true.1 h2 x hx
     unfold qF at h5
     rw[Bool.and_eq_true,List.all_eq_true]at h5
     have h6:=h5.2 a ha
     unfold ftR at h6
     rw[decide_eq_true_eq]at h6
     exact⟨((JO hzg x hx).2 a ha).1,h6⟩
theorem dF {f:List AE} (hf:Ag f):FJ f:=⟨hf.1,fun x hx=>(hf.2 x hx).1⟩
end
/- Plain: what is valid for a hierarchy, and the laws of unification. -/
section
theorem A2u {f:List AE} (hf:Ag f) (hs:Q4 f) (h0:0<f.length) (hc:DX f=true):RO f:=by
 have h1:=A0S hf hs h0 (fun _ _=>true)
 rwa [cW hc fun _ _ _ _=>rfl]at h1
theorem wG {h:AM} (hb1:h.1.length≤256) (hb2:h.2.length≤64) {f:List AE} (hv:K4 h f=true):VF h f∧f.length≤12:=by
 obtain⟨g1,g2,g3,g4,g5,g6,g7⟩:=Zo hb1 hb2 hv
 exact⟨⟨g1,g3,g4,fun x hx=>(Ik _).1 (g2 x hx).1,g7,MM g5,A2u g1 g2 g3 g5⟩,g6⟩
theorem VF.srt {h:AM} (hu:HU h) {f:List AE} (hv:VF h f):Q4 f:=fun x hx=>by
 have:=M0 (hv.str x hx) (hv.ft64 hu x hx)
 exact⟨(Ik _).2 (hv.str x hx),by omega⟩
theorem VF.small {h:AM} {f:List AE} (hv:VF h f):FJ f:=dF hv.good
theorem XR {h:AM} (a b:List AE):(∃U,Ti h a b U∧Bq h a b=(U,true))∨(Bq h a b=([],false)∧∀U,¬Ti h a b U):=by
 unfold Bq
 by_cases H:∃U,Ti h a b U
 ·left
  rw[dif_pos H]
  exact⟨_,H.choose_spec,rfl⟩
 ·right
  rw[dif_neg H]
  exact⟨rfl,fun U hU=>H ⟨U,hU⟩⟩
end
/- Plain: there is a unification if there is a structure that both subsume. -/
section
theorem wH {h:AM} (hk:T8 h) {N:List AE} {P:List (Int×Int)}:∀(k:Nat) (p ty:List Int) (ar:List (List (Int×Int))) (W:List (Int×Int)),JI h N P p ty ar W→nR p*((CE N).length+1)+W.length≤k →
  (∃p' ty' ar',JI h N P p' ty' ar' [])∨(∀X v,EH h X→¬RW h N P X v):=by
 intro k
 induction k with
 | zero =>
  intro p ty ar W hj hm
  have:W=[]:=List.eq_nil_of_length_eq_zero (by omega)
  subst this
  exact .inl ⟨p,ty,ar,hj⟩
 | succ k ih =>
  intro p ty ar W hj hm
  cases hw:W.getLast? with
  | none =>
   have:W=[]:=List.getLast?_eq_none_iff.1 hw
   subst this
   exact .inl ⟨p,ty,ar,hj⟩
  | some w =>
   have hW:W=W.dropLast++[w]:=by
    obtain⟨hne,e⟩:=List.getLast?_eq_some_iff.1 hw
    rw[e]
    simp
   obtain⟨s,t⟩:=w
   rw[hW]at hj hm
   rw[List.length_append,List.length_singleton]at hm
   generalize W.dropLast=V at *
   obtain⟨⟨s0,s1⟩,t0,t1⟩:=hj.wr (s,t) (by simp)
   simp only at s0 s1 t0 t1
   obtain⟨rk,fo⟩:=hj.fo
   have lp:=hj.lp
   obtain⟨a,ha,a0,a1⟩:=fo.root s0 (by omega)
   obtain⟨b,hb,b0,b1⟩:=fo.root t0 (by omega)
   by_cases he:a=b
   ·subst he
    exact ih p ty ar V (XG hj ha hb) (by omega)
   ·cases hmt:(Bt h (ty.getD a.toNat 0) (ty.getD b.toNat 0)).2 with
    | false =>
     right
     intro X v hX hv
     have:=(RY hk hj ha hb hX hv).2.1
     rw[hmt]at this
     cases this
    | true =>
     have hj2:=TW hk hj ha hb he hmt
     refine ih _ _ _ _ hj2 ?_
     have hn2:=mW (a:=a) b0 b1 hb.root he
     have hla:=XH (hj.srt a.toNat) (fun x hx=>(hj.arr a.toNat x hx).2)
     have hpr:=Nat.le_trans (OZ (x:=ar.getD a.toNat []) (y:=ar.getD b.toNat [])) hla
     have hmul:nR p*((CE N).length+1)=nR (p.set b.toNat a)*((CE N).length+1)+((CE N).length+1):=by rw[←hn2,Nat.add_mul,Nat.one_mul]
     rw[List.length_append]
     omega
theorem Vm {h:AM} (hk:T8 h) {N:List AE}:∀(R P:List (Int×Int)) (p ty:List Int) (ar:List (List (Int×Int))),(∀q∈R,(0≤q.1∧q.1<(N.length:Int))∧(0≤q.2∧q.2<(N.length:Int)))→JI h N P p ty ar [] →
  (∃p' ty' ar',JI h N (P++R) p' ty' ar' [])∨(∀X v,EH h X→¬RW h N (P++R) X v)
 | [],P,p,ty,ar,hr,hj=>.inl ⟨p,ty,ar,by rw[List.append_nil];exact hj⟩
 | q :: R,P,p,ty,ar,hr,hj=>by
  obtain⟨a,b⟩:=q
  have hq:=hr (a,b) (by simp)
  have hP:P++(a,b) :: R=P++[(a,b)]++R:=by simp
  rw[hP]
  rcases wH hk _ _ _ _ _ (TX hj hq.1 hq.2) (Nat.le_refl _) with ⟨p1,t1,r1,h1⟩|hno
  ·exact Vm hk R (P++[(a,b)]) p1 t1 r1 (fun q hq=>hr q (by simp[hq])) h1
  ·exact .inr fun X v hX hv=>hno X v hX ⟨hv.rng,hv.ty,hv.arc,fun q hq=>hv.eq q (List.mem_append_left _ hq)⟩
theorem A1a {h:AM} (hu:HU h) {a b X:List AE} (va:VF h a) (vb:VF h b) (hl:a.length+b.length≤100000) (hX:EH h X) {m1 m2:Int→Int} (h1:Lz h a X m1) (h2:Lz h b X m2):∃U,Ti h a b U:=by
 have hN:=BB a b
 have hap:=va.pos
 have hbp:=vb.pos
 have hgN:=CT va.good vb.good hl
 rcases Vm hu.ok (N:=AO a b) [(0,(a.length:Int))] [] _ _ _ (fun q hq=>by
  have e:q=(0,(a.length:Int)):=by simpa using hq
  subst e
  simp only
  omega) (Rc hgN (QQX va.ty vb.ty) (DD va.str vb.str)) with ⟨p,ty,ar,hj⟩|hno
 ·exact⟨_,Rb va vb hj (Ip hj (by omega) (FT (va.ft64 hu) (vb.ft64 hu)))⟩
 ·exfalso
  refine hno X _ hX (Th (Ky va.good vb.good (Gd h1) (Gd h2)) fun q hq=>?_)
  have e:q=(0,(a.length:Int)):=by simpa using hq
  subst e
  try simp only
  rw[if_pos (by omega),if_neg (by omega),Int.sub_self,h1.zero,h2.zero]
/-! What the statements ask -/
structure H11 (h:AM):Prop where
 hu:HU h
 top:Je h
 b1:h.1.length≤256
theorem Qp (d:List AI):H11 (AY d).1:=⟨⟨Ho d,Ql d,(K5 d).2⟩,Qm d,(K5 d).1⟩
end
/- Plain: the tree of two paths; its quotient is the most general structure with one value at both. -/
section
def UM (f:List AE) (n:Int) (e:Int):List AE:=(f++[((0:Int),[])]).set n.toNat ((f.getD n.toNat (0,[])).1,(f.getD n.toNat (0,[])).2++[(e,(f.length:Int))])
def DE:List AE→Int→List Int→List AE×Int
 | f,n,[]=>(f,n)
 | f,n,e :: p=>if (CK (f.getD n.toNat (0,[])).2 e).2=true then DE f (CK (f.getD n.toNat (0,[])).2 e).1 p else DE (UM f n e) (f.length:Int) p
theorem Tt (f:List AE) (n e:Int):(UM f n e).length=f.length+1:=by simp[UM]
theorem wI {f:List AE} {n e:Int} (n0:0≤n) (n1:n<(f.length:Int)) (i:Nat):(UM f n e).getD i (0,[])=if i=n.toNat then ((f.getD n.toNat (0,[])).1,(f.getD n.toNat (0,[])).2++[(e,(f.length:Int))]) else f.getD i (0,[]):=by
 unfold UM
 simp only[List.getD_eq_getElem?_getD,List.getElem?_set,List.length_append,List.length_singleton]
 by_cases h:n.toNat=i
 ·subst h
  rw[if_pos rfl,if_pos (by omega),if_pos rfl]
  rfl
 ·rw[if_neg h,if_neg (fun e=>h e.symm)]
  by_cases hi:i<f.length
  ·rw[List.getElem?_append_left hi]
  ·rw[List.getElem?_append_right (by omega),List.getElem?_eq_none (l:=f) (by omega)]
   cases hk:i-f.length with
   | zero=>rfl
   | succ k=>rfl
structure Pm (h:AM) (N:List AE) (π:Int→List Int):Prop where
 pos:0<N.length
 zero:π 0=[]
 ty:∀x∈N,x.1=0
 nd:∀k,((N.getD k (0,[])).2.map (·.1)).Nodup
 arc:∀i,0≤i→i<(N.length:Int)→∀a∈AW N i,(0≤a.2∧a.2<(N.length:Int))∧(0≤a.1∧a.1<(h.2.length:Int))∧π a.2=π i++[a.1]
 par:∀i,0<i→i<(N.length:Int)→∃j,0≤j∧j<i∧∃a∈AW N j,a.2=i
theorem qH {l:List (Int×Int)} {e:Int} (h:(CK l e).2=false):e∉l.map (·.1):=by
 intro hm
 obtain⟨a,ha,he⟩:=List.mem_map.1 hm
 rw[Sb a ha he]at h
 cases h
theorem Zp {h:AM} {N:List AE} {π:Int→List Int} (ht:Pm h N π) {n e:Int} (n0:0≤n) (n1:n<(N.length:Int)) (he:0≤e∧e<(h.2.length:Int)) (hno:(CK (N.getD n.toNat (0,[])).2 e).2=false) :
  Pm h (UM N n e) (fun i=>if i=(N.length:Int) then π n++[e] else π i):=by
 have hl:=Tt N n e
 have hg:=fun i=>wI (e:=e) n0 n1 i
 have hpos:=ht.pos
 refine⟨by omega,?_,fun x hx=>?_,fun k=>?_,fun i i0 i1 a ha=>?_,fun i i0 i1=>?_⟩
 ·show (if (0:Int)=(N.length:Int) then _ else π 0)=[]
  rw[if_neg (by omega)]
  exact ht.zero
 ·obtain⟨k,hk,rfl⟩:=Bn (0,[]) hx
  rw[hg]
  split
  ·exact ht.ty (N.getD n.toNat (0,[])) (AD N (0,[]) (by omega))
  ·by_cases hkl:k<N.length
   ·exact ht.ty _ (AD N (0,[]) hkl)
   ·rw[List.getD_eq_getElem?_getD,List.getElem?_eq_none (by omega)]
    rfl
 ·rw[hg]
  split
  ·show List.Nodup (List.map _ (_++_))
   rw[List.map_append,List.nodup_append]
   refine⟨ht.nd _,by simp,fun x hx y hy exy=>?_⟩
   have:y=e:=by simpa using hy
   subst this
   subst exy
   exact qH hno hx
  ·exact ht.nd k
 ·rw[AW,hg]at ha
  have old:∀j,0≤j→j<(N.length:Int)→a∈AW N j→(0≤a.2∧a.2<((UM N n e).length:Int))∧(0≤a.1∧a.1<(h.2.length:Int))∧(if a.2=(N.length:Int) then π n++[e] else π a.2)=(if j=(N.length:Int) then π n++[e] else π j)++[a.1]:=fun j j0 j1 hj=>by
   obtain⟨h1,h2,h3⟩:=ht.arc j j0 j1 a hj
   refine⟨by omega,h2,?_⟩
   rw[if_neg (by omega),if_neg (by omega)]
   exact h3
  split at ha
  ·rename_i hin
   have hin2:i=n:=by omega
   subst hin2
   rcases List.mem_append.1 ha with ha|ha
   ·exact old i i0 n1 ha
   ·have:a=(e,(N.length:Int)):=by simpa using ha
    subst this
    refine⟨by simp only;omega,he,?_⟩
    show (if (N.length:Int)=(N.length:Int) then π i++[e] else _)=(if i=(N.length:Int) then _ else π i)++[e]
    rw[if_pos rfl,if_neg (by omega)]
  ·by_cases hi:i<(N.length:Int)
   ·exact old i i0 hi ha
   ·rw[List.getD_eq_getElem?_getD,List.getElem?_eq_none (by omega)]at ha
    cases ha
 ·by_cases hi:i<(N.length:Int)
  ·obtain⟨j,j0,j1,a,ha,e1⟩:=ht.par i i0 hi
   refine⟨j,j0,j1,a,?_,e1⟩
   rw[AW,hg]
   split
   ·rename_i hj
    refine List.mem_append.2 (.inl ?_)
    rw[←hj]
    exact ha
   ·exact ha
  ·refine⟨n,n0,by omega,(e,(N.length:Int)),?_,by simp only;omega⟩
   rw[AW,hg,if_pos rfl]
   exact List.mem_append.2 (.inr (List.mem_singleton.2 rfl))
def wJ (N:List AE) (π:Int→List Int) (Q:List Int→Prop):Prop:=∀i,0≤i→i<(N.length:Int)→Q (π i)
theorem Ls {h:AM} (Q:List Int→Prop):∀(p:List Int) {N:List AE} {π:Int→List Int} {n:Int},Pm h N π→wJ N π Q→0≤n→n<(N.length:Int)→L0 h p→(∀s,s <+: p→Q (π n++s)) →
  ∃π',Pm h (DE N n p).1 π'∧wJ (DE N n p).1 π' Q∧(0≤(DE N n p).2∧(DE N n p).2<((DE N n p).1.length:Int))∧π' (DE N n p).2=π n++p∧(∀i,0≤i→i<(N.length:Int)→π' i=π i)∧N.length≤(DE N n p).1.length∧(DE N n p).1.length≤N.length+p.length
 | [],N,π,n,ht,hk,n0,n1,_,_=>⟨π,ht,hk,⟨n0,n1⟩,by simp[DE],fun _ _ _=>rfl,Nat.le_refl _,by simp[DE]⟩
 | e :: p,N,π,n,ht,hk,n0,n1,hf,hq=>by
  have he:=hf e (by simp)
  have hf2:L0 h p:=fun x hx=>hf x (by simp[hx])
  unfold DE
  split
  ·rename_i hs
   obtain⟨h1,-,h3⟩:=ht.arc n n0 n1 (e,(CK (N.getD n.toNat (0,[])).2 e).1) (LW hs)
   simp only at h1 h3
   obtain⟨π',a1,a2,a3,a4,a5,a6,a7⟩:=Ls Q p ht hk h1.1 h1.2 hf2 (fun s hs=>by
    rw[h3,List.append_assoc]
    obtain⟨t,ht⟩:=hs
    exact hq ([e]++s) ⟨t,by rw[List.append_assoc,ht];rfl⟩)
   refine⟨π',a1,a2,a3,?_,a5,a6,by simp only[List.length_cons];omega⟩
   rw[a4,h3,List.append_assoc]
   rfl
  ·rename_i hs
   have hs:(CK (N.getD n.toNat (0,[])).2 e).2=false:=by simpa using hs
   have ht2:=Zp ht n0 n1 he hs
   have hl:=Tt N n e
   have hk2:wJ (UM N n e) (fun i=>if i=(N.length:Int) then π n++[e] else π i) Q:=fun i i0 i1=>by
    show Q (if i=(N.length:Int) then π n++[e] else π i)
    split
    ·exact hq [e] ⟨p,rfl⟩
    ·exact hk i i0 (by omega)
   obtain⟨π',a1,a2,a3,a4,a5,a6,a7⟩:=Ls Q p ht2 hk2 (n:=(N.length:Int)) (by omega) (by omega) hf2 (fun s hs=>by
    show Q ((if (N.length:Int)=(N.length:Int) then π n++[e] else π _)++s)
    rw[if_pos rfl,List.append_assoc]
    obtain⟨t,ht⟩:=hs
    exact hq ([e]++s) ⟨t,by rw[List.append_assoc,ht];rfl⟩)
   refine⟨π',a1,a2,a3,?_,fun i i0 i1=>?_,by omega,by simp only[List.length_cons];omega⟩
   ·rw[a4]
    show (if (N.length:Int)=(N.length:Int) then π n++[e] else π _)++p=_
    rw[if_pos rfl,List.append_assoc]
    rfl
   ·rw[a5 i i0 (by omega)]
    show (if i=(N.length:Int) then π n++[e] else π i)=π i
    rw[if_neg (by omega)]
theorem wK {h:AM} (htop:Je h) {N:List AE} {π:Int→List Int} (ht:Pm h N π) {X:List AE} (vX:VF h X) (hw:wJ N π fun s=>∃n,A1 X 0 s=some n):RW h N [] X (fun i=>(A1 X 0 (π i)).getD 0):=by
 have hr:∀i,0≤i→i<(N.length:Int)→A1 X 0 (π i)=some ((A1 X 0 (π i)).getD 0)∧(0≤(A1 X 0 (π i)).getD 0∧(A1 X 0 (π i)).getD 0<(X.length:Int)):=fun i i0 i1=>by
  obtain⟨n,hn⟩:=hw i i0 i1
  rw[hn]
  exact⟨rfl,Zl vX.good vX.pos _ _ hn⟩
 refine⟨fun i i0 i1=>(hr i i0 i1).2,fun i i0 i1=>?_,fun i i0 i1 a ha=>?_,fun q hq=>by cases hq⟩
 ·rw[ht.ty _ (AD N (0,[]) (k:=i.toNat) (by omega))]
  have h2:=(hr i i0 i1).2
  have:=vX.ty _ (AD X (0,[]) (k:=((A1 X 0 (π i)).getD 0).toNat) (by omega))
  exact htop _ this.1 this.2
 ·obtain⟨h1,-,h3⟩:=ht.arc i i0 i1 a ha
  have h4:=(hr a.2 h1.1 h1.2).1
  rw[h3]at h4
  obtain⟨x,hx,b,hb,e1,e2⟩:=PW h4
  have h5:=(hr i i0 i1).1
  rw[hx]at h5
  have hxe:x=(A1 X 0 (π i)).getD 0:=by rw[hx];rfl
  show Ly (AW X ((A1 X 0 (π i)).getD 0)) a.1=(A1 X 0 (π a.2)).getD 0
  rw[←hxe,h3,←e2,←e1]
  exact Kt (K0 vX.str x) hb
theorem Lt {h:AM} {N:List AE} {π:Int→List Int} (ht:Pm h N π) {X:List AE} (vX:VF h X) {P:List (Int×Int)} {v:Int→Int} (hv:RW h N P X v) (h0:v 0=0):∀(k:Nat) (i:Int),i.toNat≤k→0≤i→i<(N.length:Int)→A1 X 0 (π i)=some (v i)
 | 0,i,hk,i0,i1=>by
  have:i=0:=by omega
  subst this
  rw[ht.zero,h0]
  rfl
 | k+1,i,hk,i0,i1=>by
  by_cases hi:i=0
  ·exact Lt ht vX hv h0 k i (by omega) i0 i1
  ·obtain⟨j,j0,j1,a,ha,e⟩:=ht.par i (by omega) i1
   have hj:=Lt ht vX hv h0 k j (by omega) j0 (by omega)
   obtain⟨-,-,h3⟩:=ht.arc j j0 (by omega) a ha
   have har:=hv.arc j j0 (by omega) a ha
   have hr:=hv.rng i i0 i1
   rw[e]at h3 har
   rw[h3,JY X _ 0 _ _ hj,wE (K0 vX.str _) (by rw[har];exact hr.1),har,if_neg (by omega)]
end
/- Plain: the equation of two paths. -/
section
abbrev HT (p:List Int):List AE×Int:=DE [((0:Int),[])] 0 p
abbrev BC (p q:List Int):List AE×Int:=DE (HT p).1 0 q
def Jh (p q:List Int):List Int:=JP (BC p q).1 (Bc (Al (BC p q).1.length) (HT p).2 (BC p q).2)
def Q6 (p q:List Int):List AE:=OU (BC p q).1 (Jh p q) (List.replicate (BC p q).1.length 0) 0
theorem Vn {h:AM}:Pm h [((0:Int),[])] (fun _=>[]):=by
 refine⟨by simp,rfl,fun x hx=>?_,fun k=>?_,fun i i0 i1 a ha=>?_,fun i i0 i1=>?_⟩
 ·have:x=(0,[]):=by simpa using hx
  rw[this]
 ·cases k with
  | zero=>exact List.Pairwise.nil
  | succ k=>exact List.Pairwise.nil
 ·have:i=0:=by simp at i1;omega
  subst this
  cases ha
 ·simp at i1
  omega
theorem wL {h:AM} {p q:List Int} (fp:L0 h p) (fq:L0 h q) (Q:List Int→Prop) (hp:∀s,s <+: p→Q s) (hq:∀s,s <+: q→Q s) :
  (∃π,Pm h (BC p q).1 π∧wJ (BC p q).1 π Q∧(0≤(HT p).2∧(HT p).2<((BC p q).1.length:Int))∧(0≤(BC p q).2∧(BC p q).2<((BC p q).1.length:Int))∧π (HT p).2=p∧π (BC p q).2=q)∧(BC p q).1.length≤1+p.length+q.length∧(∃π,Pm h (HT p).1 π)∧(HT p).1.length≤1+p.length:=by
 obtain⟨π,a1,a2,a3,a4,a5,a6,a7⟩:=Ls Q p Vn (n:=0) (fun i i0 i1=>hp [] List.nil_prefix) (by omega) (by simp) fp (fun s hs=>hp s hs)
 have hz:=a1.zero
 have hpos:=a1.pos
 obtain⟨π',b1,b2,b3,b4,b5,b6,b7⟩:=Ls Q q a1 a2 (n:=0) (by omega) (by omega) fq (fun s hs=>by rw[hz];exact hq s hs)
 simp only[List.length_singleton]at a7
 refine⟨⟨π',b1,b2,⟨a3.1,Int.lt_of_lt_of_le a3.2 (Int.ofNat_le.2 b6)⟩,b3,?_,?_⟩,Nat.le_trans b7 (Nat.add_le_add_right a7 _),⟨π,a1⟩,a7⟩
 ·rw[b5 _ a3.1 a3.2,a4]
  rfl
 ·rw[b4,hz]
  rfl
theorem Pn {h:AM} (h64:h.2.length≤64) {N:List AE} {π:Int→List Int} (ht:Pm h N π) (hl:N.length≤1000):Ag N∧Tl N∧∀x∈N,x.2.length≤64:=by
 have hk:∀x∈N,(∀a∈x.2,(0≤a.2∧a.2<(N.length:Int))∧(0≤a.1∧a.1<(h.2.length:Int)))∧(x.2.map (·.1)).Nodup:=fun x hx=>by
  obtain⟨k,hk,rfl⟩:=Bn (0,[]) hx
  refine⟨fun a ha=>?_,ht.nd k⟩
  obtain⟨h1,h2,-⟩:=ht.arc (k:Int) (by omega) (by omega) a (by rw[AW,Int.toNat_natCast];exact ha)
  exact⟨h1,h2⟩
 have h64:∀x∈N,x.2.length≤64:=fun x hx=>by
  have hst:=XN (hk x hx).2
  have:=M0 hst fun a ha=>by
   have:=((hk x hx).1 a ((CC _).mem_iff.1 ha)).2
   omega
  rw[(CC x.2).length_eq]at this
  exact this
 refine⟨⟨by omega,fun x hx=>⟨by have:=h64 x hx;omega,fun a ha=>((hk x hx).1 a ha).1⟩⟩,fun x hx a ha=>?_,h64⟩
 have:=((hk x hx).1 a ha).2
 omega
theorem wM {h:AM} (htop:Je h) {N:List AE} {π:Int→List Int} (ht:Pm h N π) {P:List (Int×Int)} {U:List AE} {v:Int→Int} (hG:vY h N P U v) {X:List AE} {m:Int→Int} (vX:VF h X) (hX:Lz h U X m) {x y:Int} (hxy:(x,y)∈P)
  (hx:0≤x∧x<(N.length:Int)) (hy:0≤y∧y<(N.length:Int)):A1 X 0 (π x)=some (m (v x))∧A1 X 0 (π y)=some (m (v x)):=by
 have hp:=hG.proj
 have hv:RW h N P X (fun i=>m (v i)):=by
  refine⟨fun x x0 x1=>hX.rng _ (hp.rng x x0 x1).1 (hp.rng x x0 x1).2,fun x x0 x1=>?_,fun x x0 x1 a ha=>?_,fun r hr=>congrArg m (hp.eq r hr)⟩
  ·rw[ht.ty _ (AD N (0,[]) (k:=x.toNat) (by omega))]
   have hh:=hX.rng _ (hp.rng x x0 x1).1 (hp.rng x x0 x1).2
   have:=vX.ty _ (AD X (0,[]) (k:=(m (v x)).toNat) (by omega))
   exact htop _ this.1 this.2
  ·have hpa:=hp.arc x x0 x1 a ha
   have har:=ht.arc x x0 x1 a ha
   have hr2:=hp.rng a.2 har.1.1 har.1.2
   obtain⟨b,hb,e1,e2⟩:=OW (l:=AW U (v x)) (e:=a.1) (by rw[hpa];exact hr2.1)
   have:=hX.arc _ (hp.rng x x0 x1).1 (hp.rng x x0 x1).2 b hb
   rw[e1,e2,hpa]at this
   exact this
 have hz:m (v 0)=0:=by
  rw[hG.zero]
  exact hX.zero
 have t1:=Lt ht vX hv hz _ _ (Nat.le_refl _) hx.1 hx.2
 have t2:=Lt ht vX hv hz _ _ (Nat.le_refl _) hy.1 hy.2
 refine⟨t1,?_⟩
 rw[t2]
 exact congrArg some (hv.eq (x,y) hxy).symm
section
variable {h:AM} {p q:List Int}
theorem A1b (hu:HU h) (hn:Q5 h) (htop:Je h) (h0:0<h.1.length) (fp:L0 h p) (fq:L0 h q) (lp:p.length≤20) (lq:q.length≤20) :
  VF h (Q6 p q)∧(Q6 p q).length≤1+p.length+q.length∧(∀X m,VF h X→Lz h (Q6 p q) X m→∃n,A1 X 0 p=some n∧A1 X 0 q=some n) ∧
   (∀X n,VF h X→A1 X 0 p=some n→A1 X 0 q=some n→∃m,Lz h (Q6 p q) X m):=by
 obtain⟨⟨π,ht,-,hm,hq,hpm,hpq⟩,hl,-⟩:=wL fp fq (fun _=>True) (fun _ _=>trivial) (fun _ _=>trivial)
 obtain⟨hg,hf,h64⟩:=Pn hu.ft ht (by omega)
 have hpos:=ht.pos
 have hty:EH h (BC p q).1:=fun x hx=>by rw[ht.ty x hx];omega
 obtain⟨ar,hj⟩:=Pb (h:=h) hg ht.nd hm.1 hm.2 hq.1 hq.2
 have hrep:=XO hj
 have hz0:∀x,x<(BC p q).1.length→((BC p q).1.getD x (0,[])).1=0:=fun x hx=>ht.ty _ (AD _ (0,[]) hx)
 obtain⟨t,htt,htz⟩:=Jf (i:=(BC p q).1.length) hu.ok hn h0 htop hty hrep (u:=fun _=>0) (fun k _=>by omega) (fun x hx=>by rw[hz0 x hx];exact PX h 0) (Nat.le_refl _)
 obtain⟨tl,tr⟩:=Lk h0 hrep (Nat.le_refl _) htt
 have htq:Pj (Jh p q) t (BC p q).1.length=List.replicate (BC p q).1.length 0:=by
  apply List.ext_getElem
  ·simp[Pj]
  ·intro k h1 h2
   have hk:k<(BC p q).1.length:=by simpa[Pj] using h1
   have e:=Rd (c:=Jh p q) (p:=t) hk
   rw[List.getD_eq_getElem?_getD,List.getElem?_eq_getElem h1]at e
   rw[List.getElem_replicate]
   obtain⟨r1,r2,-⟩:=hrep.2 k hk
   have hck:((Jh p q).getD k 0).toNat<(BC p q).1.length:=by
    show ((JP _ _).getD k 0).toNat<_
    omega
   have hr:=tr _ hck
   refine Eq.trans e (hu.inj _ 0 hr.1 hr.2 (by omega) (by omega) (htz _ hck) (htop _ hr.1 hr.2))
 have hr:RC h (BC p q).1 [((HT p).2,(BC p q).2)] (Jh p q) t (CS (BC p q).1 (Jh p q) (Pj (Jh p q) t (BC p q).1.length) (BC p q).1.length):=⟨hg,hty,hrep,htt,Ph hrep (Nat.le_refl _),ar,hj⟩
 obtain⟨j1,j2,j3⟩:=Zi hu.ok hn htop hr hf hpos
 have he:Q6 p q=OU (BC p q).1 (Jh p q) (Pj (Jh p q) t (BC p q).1.length) 0:=by
  unfold Q6
  rw[htq]
 have hz:=Jc j1 j2 hpos
 have hall:∀(k:Nat) (x:Int),x.toNat≤k→0≤x→x<((BC p q).1.length:Int)→DF (Jh p q) x∈Kw (Jh p q) (Pj (Jh p q) t (BC p q).1.length) (nC (CS (BC p q).1 (Jh p q) (Pj (Jh p q) t (BC p q).1.length) (BC p q).1.length)):=by
  intro k
  induction k with
  | zero =>
   intro x hk x0 x1
   have:x=0:=by omega
   subst this
   exact hz
  | succ k ih =>
   intro x hk x0 x1
   by_cases hx:x=0
   ·exact ih x (by omega) x0 x1
   ·obtain⟨j,g0,g1,a,ha,e⟩:=ht.par x (by omega) x1
    have:=Tg j1 j2 hpos g0 (by omega) (ih j (by omega) g0 (by omega)) ha
    rwa [e]at this
 have hG:=c8 j1 j2 hpos fun x x0 x1=>hall _ x (Nat.le_refl _) x0 x1
 have hft:∀x∈(BC p q).1,∀a∈x.2,0≤a.1∧a.1<(h.2.length:Int):=fun x hx a ha=>by
  obtain⟨k,hk,rfl⟩:=Bn (0,[]) hx
  exact(ht.arc (k:Int) (by omega) (by omega) a (by rw[AW,Int.toNat_natCast];exact ha)).2.1
 have hV:=dA j1 j2 hpos hft hG
 rw[he,j3]
 refine⟨hV,Nat.le_trans hG.len hl,fun X m vX hX=>?_,fun X n vX w1 w2=>?_⟩
 ·obtain⟨t1,t2⟩:=wM htop ht hG vX hX (List.mem_singleton.2 rfl) hm hq
  rw[hpm]at t1
  rw[hpq]at t2
  exact⟨_,t1,t2⟩
 ·obtain⟨⟨π2,u1,u2,u3,u4,u5,u6⟩,-⟩:=wL fp fq (fun s=>∃n,A1 X 0 s=some n) (fun s hs=>by
   obtain⟨t,rfl⟩:=hs
   have:=Ts w1 s.length
   rwa [List.take_left]at this) (fun s hs=>by
   obtain⟨t,rfl⟩:=hs
   have:=Ts w2 s.length
   rwa [List.take_left]at this)
  have hx:=wK htop u1 vX u2
  refine hG.least X _ vX.ty (Th hx fun r hr=>?_) ?_
  ·have:=List.mem_singleton.1 hr
   subst this
   show (A1 X 0 (π2 (HT p).2)).getD 0=(A1 X 0 (π2 (BC p q).2)).getD 0
   rw[u5,u6,w1,w2]
  ·show (A1 X 0 (π2 0)).getD 0=0
   rw[u1.zero]
   rfl
theorem qI {f:List AE} (hu:HU h) (hn:Q5 h) (htop:Je h) (vf:VF h f) (fp:L0 h p) (fq:L0 h q) (lp:p.length≤20) (lq:q.length≤20) (lf:f.length≤50) :
  VF h (Q6 p q)∧(Q6 p q).length≤41∧Bq h f (Q6 p q)=HS h f p q:=by
 have h0:0<h.1.length:=by
  have:=Qn vf.ty (x:=0) (by have:=vf.pos;omega)
  omega
 obtain⟨vE,lE,e1,e2⟩:=A1b hu hn htop h0 fp fq lp lq
 refine⟨vE,by omega,?_⟩
 rcases XR (h:=h) f (Q6 p q) with ⟨U,hU,e⟩|⟨e,hno⟩
 ·rw[e,Pk hu (U:=U)]
  obtain⟨m,hm⟩:=hU.right
  refine⟨hU.vf,hU.left,e1 U m hU.vf hm,fun X vX m1 h1 n w1 w2=>?_,by have:=hU.len;omega⟩
  obtain⟨m2,h2⟩:=e2 X n vX w1 w2
  exact hU.least X vX.ty m1 h1 m2 h2
 ·rw[e,Pl]
  intro X vX m1 h1 n w1 w2
  obtain⟨m2,h2⟩:=e2 X n vX w1 w2
  obtain⟨U,hU⟩:=A1a hu vf vE (by omega) vX.ty h1 h2
  exact hno U hU
end
end
/- Functions of path: Under, step, At. -/
section
def qR (b:Nat) (g:List AE) (i:Nat):List AE:=(g.take i).map fun x:AE=>(x.1,BA b x.2)
theorem wN (b:Nat) (g:List AE) {i:Nat} (h:i<g.length):qR b g (i+1)=qR b g i++[((g.getD i (0,[])).1,BA b (g.getD i (0,[])).2)]:=by
 unfold qR
 rw[Ab g (0,[]) h,List.map_append]
 rfl
theorem A1c (b:Nat) (g:List AE):qR b g g.length=g.map fun x:AE=>(x.1,BA b x.2):=by
 unfold qR
 rw[List.take_length]
theorem A1d (b:Nat) (g:List AE) {i:Nat} (h:i≤g.length):(qR b g i).length=i:=by
 unfold qR
 rw[List.length_map,List.length_take]
 omega
def XS:Ak:={ ins:=[Ez,Ei],pre:=fun(p,g,_)=>List.length p≤1000∧Ag g,out:=fun(p,g,_)=>[.p Ei (M3 p g)] }
theorem wO:Ao Tryz.prog 71 XS:=by
 refine AX Tryz.func71 (by kernel_rfl) rfl Tryz.ntmps71 (by decide) (by kernel_rfl) (AJ [] [26]) AL ?_
 rintro w0 O0 ⟨p,g,u⟩ hc-⟨hp,hg⟩
 have hgl:=hg.1
 simp only[XS,AN]
 repeat'(first|exact trivial|refine eS rfl ?_|refine AB ?_|refine rX [0,1,3,4,5,6,7,9,10,12,13,14,15,16,33,34,35,36,43,44,45,46] hc ?_ ?_|refine rC ?_ ?_<;>intro AA<;>try(cases AA;done))
 refine AK (ι:={k:Nat//k≤p.length}) (fun k=>⟨[(0,.p Ez p),(3,.bp 3 [] 0),(4,.bp 4 [] 0),(5,.bp 5 [] 0),(13,.p Ez p),(14,.p (.int .i64) (p.length:Int)),(15,.p (.int .i64) (k.1:Int))],[(3,.box 25 true [.p Ib g]),(4,.box 25 true [.raw (.slice none 0 0)]),(5,.box 25 true [.sr 29 JK 0 (GM p k.1).length]),(29,.arr 88 JK (GM p k.1))]⟩) (fun k=>p.length-k.1) ⟨0,Nat.zero_le _⟩ (AC [(3,.nm 3),(4,.nm 4),(5,.nm 5),(29,.nil)] rfl rfl ?_ ?_) (fun k=>?_)
 ·first|exact eN|refine eM ?_
  exact⟨rfl,rfl⟩
 ·first|exact eN|refine eM ?_
 ·obtain⟨k,hk⟩:=k
  have hcl:=HR p k
  repeat'(first|exact trivial|refine eS rfl ?_|refine AB ?_|refine rX [0,1,3,4,5,6,7,9,10,12,13,14,15,16,33,34,35,36,43,44,45,46] hc ?_ ?_|refine rC ?_ ?_<;>intro AA<;>try(cases AA;done))
  ·exact AA
  ·have hk2:k<p.length:=Int.ofNat_lt.1 AA
   refine⟨⟨by omega,by omega⟩,?_⟩
   rw[hcl]
   simp only[AP]
   omega
  ·omega
  ·have hk2:k<p.length:=Int.ofNat_lt.1 AA
   have hs:=Zj p k
   refine⟨⟨k+1,hk2⟩,by simp only;omega,AC [(3,.nm 3),(4,.nm 4),(5,.nm 5),(29,.nm 29)] rfl rfl ?_ ?_⟩
   ·simp only[hs]
    first|exact eN|refine eM ?_
   ·first|exact eN|refine eM ?_
  ·have hke:k=p.length:=by
    have:=Int.ofNat_le.1 AA
    omega
   subst hke
   obtain⟨ch0,hch0⟩:∃c,GM p p.length=c:=⟨_,rfl⟩
   have hchl:=HR p p.length
   have hund:ch0++g.map (fun x:AE=>(x.1,BA p.length x.2))=M3 p g:=by rw[←hch0];rfl
   generalize GM p p.length=ch at *
   subst hch0
   refine AK (ι:={i:Nat//i≤g.length}) (fun i=>⟨[(0,.p Ez p),(3,.bp 3 [] 0),(4,.bp 4 [] 0),(5,.bp 5 [] 0),(33,.p Ib g),(34,.p (.int .i64) (g.length:Int)),(35,.p (.int .i64) (i.1:Int))],[(3,.box 25 true [.p Ib g]),(4,.box 25 true [.raw (.slice none 0 0)]),(5,.box 25 true [.sr 29 JK 0 (ch++qR p.length g i.1).length]),(29,.arr 88 JK (ch++qR p.length g i.1))]⟩) (fun i=>g.length-i.1) ⟨0,Nat.zero_le _⟩ (AC [(3,.nm 3),(4,.nm 4),(5,.nm 5),(29,.nm 29)] rfl rfl ?_ ?_) (fun i=>?_)
   ·have e0:ch++qR p.length g 0=ch:=by simp[qR]
    simp only[e0]
    first|exact eN|refine eM ?_
   ·first|exact eN|refine eM ?_
   ·obtain⟨i,hi⟩:=i
    have hsl:=A1d p.length g hi
    have hss:=fun h:i<g.length=>wN p.length g h
    simp only
    generalize hos:qR p.length g i=os at *
    repeat'(first|exact trivial|refine eS rfl ?_|refine AB ?_|refine rX [0,1,3,4,5,6,7,9,10,12,13,14,15,16,33,34,35,36,43,44,45,46] hc ?_ ?_|refine rC ?_ ?_<;>intro AA<;>try(cases AA;done))
    ·exact AA
    ·have hi2:i<g.length:=Int.ofNat_lt.1 AA
     have hrng:=TA hg i
     have hxl:(g.getD i (0,[])).2.length≤100000:=(hg.2 _ (AD g (0,[]) hi2)).1
     generalize hx:g.getD i (0,[])=x at *
     obtain⟨xt,xs⟩:=x
     simp only at hrng hxl hss ⊢
     refine AK (ι:={j:Nat//j≤xs.length}) (fun j=>⟨[(0,.p Ez p),(3,.bp 3 [] 0),(4,.bp 4 [] 0),(5,.bp 5 [] 0),(10,.bp 10 [] 0),(33,.p Ib g),(34,.p (.int .i64) (g.length:Int)),(35,.p (.int .i64) (i:Int)),(43,.p Cb xs),(44,.p (.int .i64) (xs.length:Int)),(45,.p (.int .i64) (j.1:Int))],[(3,.box 25 true [.p Ib g]),(4,.box 25 true [.raw (.slice none 0 0)]),(5,.box 25 true [.sr 29 JK 0 (ch++os).length]),(29,.arr 88 JK (ch++os)),(10,.box 88 true [.p T3 xt,.sr 60 ED 0 (BA p.length (xs.take j.1)).length]),(60,.arr 108 ED (BA p.length (xs.take j.1)))]⟩) (fun j=>xs.length-j.1) ⟨0,Nat.zero_le _⟩ (AC [(3,.nm 3),(4,.nm 4),(5,.nm 5),(29,.nm 29),(10,.nm 10),(60,.nil)] rfl rfl ?_ ?_) (fun j=>?_)
     ·first|exact eN|refine eM ?_
      exact⟨rfl,rfl⟩
     ·first|exact eN|refine eM ?_
     ·obtain⟨j,hj⟩:=j
      have hal:(BA p.length (xs.take j)).length=j:=by unfold BA;rw[List.length_map,List.length_take];omega
      have has:=fun h:j<xs.length=>Df (fun a:Int×Int=>(a.1,a.2+(p.length:Int))) xs (0,0) h
      simp only
      repeat'(first|exact trivial|refine eS rfl ?_|refine AB ?_|refine rX [0,1,3,4,5,6,7,9,10,12,13,14,15,16,33,34,35,36,43,44,45,46] hc ?_ ?_|refine rC ?_ ?_<;>intro AA<;>try(cases AA;done))
      ·exact AA
      ·have hj2:j<xs.length:=Int.ofNat_lt.1 AA
       have hr:=hrng _ (AD xs (0,0) hj2)
       refine⟨⟨by omega,by omega⟩,?_⟩
       rw[hal]
       simp only[AP]
       omega
      ·omega
      ·have hj2:j<xs.length:=Int.ofNat_lt.1 AA
       have has2:BA p.length (xs.take (j+1))=BA p.length (xs.take j)++[((xs.getD j (0,0)).1,(xs.getD j (0,0)).2+(p.length:Int))]:=has hj2
       refine⟨⟨j+1,hj2⟩,by simp only;omega,AC [(3,.nm 3),(4,.nm 4),(5,.nm 5),(29,.nm 29),(10,.nm 10),(60,.nm 60)] rfl rfl ?_ ?_⟩
       ·simp only[has2]
        first|exact eN|refine eM ?_
       ·first|exact eN|refine eM ?_
      ·rw[hchl,hsl]
       simp only[AP]
       omega
      ·omega
      ·have hj2:xs.take j=xs:=List.take_of_length_le (Int.ofNat_le.1 AA)
       have hss2:=hss hi2
       rw[hj2]
       refine⟨⟨i+1,hi2⟩,by simp only;omega,AC [(3,.nm 3),(4,.nm 4),(5,.nm 5),(29,.nm 29)] rfl rfl ?_ ?_⟩
       ·simp only[hss2,←List.append_assoc]
        first|exact eN|refine eM ?_
       ·first|exact eN|refine eM ?_
    ·have hie:i=g.length:=by
      have:=Int.ofNat_le.1 AA
      omega
     subst hie
     rw[A1c]at hos
     rw[hos]at hund
     exact AH hc [.cell 4 25] rfl (.inl rfl) (by simp) (by rw[←hund];first|exact eR|refine Ax ?_)
end
end Go.Proofs.YtebfihindnhccaaGreat.Fw
