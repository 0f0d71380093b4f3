/- Contracts of the program's and the reference's functions, and the plain laws of what they compute: U3 U4 U5 U6 U7 U8 U9 U10 N7 U11 U12 N8 U14 H2 H3 V1 V2 V4 Q1 V5 V6 V9 V10 Q2 Q3 Q4 Q5 Q6. -/
/- Functions of unify.classes: add. -/
import Derived.Test.YtmejfnhmgbhkmabGreatHYB
import Derived.Test.YtmejfnhmgbhkmabGreatHZI
import Derived.Test.YtmejfnhmgbhkmabGreatHYA
set_option linter.unusedVariables false
set_option linter.unusedSimpArgs false
namespace Go.Proofs.YtmejfnhmgbhkmabGreat.Fw
open Go
attribute [local irreducible] Ev
attribute [local go_sem] YO AM List.toList_toArray Bk evG evK UG EF I9 F6 FG Hk QD Lu Ci Cp K8 CC Cd frz aV F1 Co Az E7 BL AV.frz AV.frzs AV.drp AV.drps AV.names AV.namess aq F3 Jg I1 Qx H5 BM BV IV Dr Hd Ds Hf He Hg Rm NG GL I2 E9 Dl Rn Ox qG IW Hh J5 Eo Dt Qy Cs Du EX Oy Hi Oz J6 H8 I3 Dv DD GU DF Gp Ct EY Cu Dw FB CC CP P0 Ow MO Fy H7 H6 J3 NJ QB Lt KA J8 I6 QC J9 I7 WU NL NK AV.trn AV.trns ER Cg Obj.trn Ik Yi DE Dy Dm Dx CG EZ Aq lk GX F2 Gl wL aU UH aX QA mF mG wP AV.cells Bz IT NF I5 NI B7 Lr Ty.cell1 Hc ET DC FU MN Em I0 J1 Ou F0 Fa Lo Qv Rk Jz H4 WR X0 P6 Ls Cc IU RV.flat Ty.flat Ty.size St.add upd UF BR Value.oneCell' Jv Ty.dflt Hb Nf Gy Np List.take_succ_cons List.take_zero List.length_cons YX YY Nn Ih KP Gj Ii rI FH LH LI LJ LK PB PC LL Hn R4 Option.map_some Option.map_none Option.bind_some Option.getD_some Option.getD_none Option.isNone_none Option.isNone_some Bool.and_true Bool.true_and Bool.and_false Bool.false_and Bool.not_true Bool.not_false if_true if_false List.length_cons List.length_nil and_true true_and and_self List.all_cons List.all_nil List.append_nil List.nil_append List.cons_append List.getElem?_cons_zero List.getElem?_cons_succ List.getElem?_nil List.map_cons List.map_nil List.set_cons_zero List.set_cons_succ List.isEmpty_nil List.isEmpty_cons decide_true decide_false beq_self_eq_true bne_self_eq_false Nat.zero_add Nat.add_zero Nat.sub_zero Int.toNat_natCast Int.toNat_zero Int.toNat_one List.take_length List.length_append List.length_singleton true_or or_true or_self false_or or_false Ty.agg.injEq Ty.slice.injEq Ty.prod.injEq Ty.int.injEq Option.some.injEq beq_iff_eq Jw evMG evMQ rO G0 KM Bo Ig GM Nh Id Gz Ho JF Jl MZ L0 Ma RA KN Ni Nj Ie AW Ah Op.operands Call.operands List.filterMap_cons List.filterMap_nil List.append_eq Bool.cond_false_right Bool.cond_true_left cond_true cond_false implies_true decide_eq_true_eq beq_true beq_false Bool.or_true Bool.or_false Bool.true_or Bool.false_or Option.isSome_some E8 K9 Ea Gm WT NH FA Fc Fb Hj Gn I4 J7 UI aW UY inB I8 FC Fz IX BU YZ List.drop_zero DK G7 Wr B1 JK Bi AV.fgt AV.fgts Obj.fgt Ak Ag AW Cl Ha BA F7 List.any_cons List.any_nil bV Yc Ws Yd KR PH qs List.flatMap_cons List.flatMap_nil List.cons_append tn Wv Il List.take_succ_cons List.drop_succ_cons Wz HA Bg fU LQ Bv B9 Ab FF JE BX Ec DI Gw Hm Fg Gx
attribute [local go_sem] ty1 ty2 ty3 ty4 ty5 ty9 xY xZ x4 x5 x6 x7 x8 x9 yA yB yC yD yE yF yG yH yI yJ yK yL yM yN yO yP yQ yR yS yT yU yV yW yX yY yZ y3 y4 y5 y6 y7 y8 y9 zA zB zC zD zE zF zG zH zI zJ zK zL zM zN zO zP zQ zR zS zT zU zV zW zX zY zZ z0 z1 z2 z3 z4 z5 z6 z7 z8 fY fZ f6 f7 gB gC gD gE gF gG gH gI gJ gK gL gM gN gP gQ gR gS gT gU gV gW gX gY gZ hC hD hH hZ iA iB iC iD iE iG iH iI iJ iK iL iM iO iP iQ iR iT iU iV iW iX iY iZ i4 i5 i6 i7 i8 i9 jA jB jC jD jE jF jG jH jI jJ jK jL jM jN jO jP jQ jR jS jT jU jV jW jX jY jZ j3 j4 j5 j6 j7 j8 j9 kA kB kC kD kE kF kG kH kI kJ kK kL kM kN kO kP kQ
set_option maxRecDepth 100000
set_option maxHeartbeats 4000000
section
def CV (b n:Nat):List Int:=(List.range n).map fun i=>((b+i:Nat):Int)
def DS (b:Nat) (l:List (Int×Int)):List (Int×Int):=l.map fun a=>(a.1,a.2+(b:Int))
def Ce (l:List AF) (n:Nat):List Int:=(l.take n).map fun x=>x.1
def E4 (b:Nat) (l:List AF) (n:Nat):List (List (Int×Int)):=(l.take n).map fun x=>DS b x.2
theorem dM (b n:Nat):CV b (n+1)=CV b n++[((b+n:Nat):Int)]:=by simp[CV,List.range_succ]
theorem Ix (b n:Nat):(CV b n).length=n:=by simp[CV]
theorem uY (h:AN) (p ty:List Int) (ar:List (List (Int×Int))) (l:List AF) (hl:AY l) (hpl:p.length≤100000) (htl:ty.length=p.length) (hal:ar.length=p.length) :
  Ca Tryz.prog 50 [.bp 1 [] 0,.p Jm l] (Vn h p ty ar) [1]
  (fun res objs'=>res=.raw (.tuple #[])∧objs'=Vn h (p++CV p.length l.length) (ty++Ce l l.length) (ar++E4 p.length l l.length)):=by
 refine DJ Tryz.func50 (by kernel_rfl) rfl Tryz.ntmps50 (by simp only[List.length_cons,List.length_nil];omega) (by kernel_rfl) rfl rfl (AH []) AI ?_
 intro w0 K O0 ρ0 hc hok1 hok2
 have hll:=hl.1
 simp only[BU,Vn]
 repeat'(first|exact trivial|refine eS rfl ?_|refine AB ?_|refine rX [0,1,4,5,6,7,9,15,16,17,18,46,47,48,49] hc ?_ ?_|refine rC ?_ ?_<;>intro AA<;>try(cases AA;done))
 refine AK (ι:={i:Nat//i≤l.length}) (fun i=>⟨[(0,.bp 1 [] 0),(4,.p (.int .i64) (p.length:Int)),(15,.p Jm l),(16,.p (.int .i64) (l.length:Int)),(17,.p (.int .i64) (i.1:Int))],[(1,.box 93 true [.p II h,.sr 2 T3 0 (p++CV p.length i.1).length,.sr 3 T3 0 (ty++Ce l i.1).length,.sr 4 Ee 0 (ar++E4 p.length l i.1).length]),(2,.arr 3 T3 (p++CV p.length i.1)),(3,.arr 3 T3 (ty++Ce l i.1)),(4,.arr 59 Ee (ar++E4 p.length l i.1))]⟩) (fun i=>l.length-i.1) ⟨0,Nat.zero_le _⟩ (AC [(1,.nm 1),(2,.nm 2),(3,.nm 3),(4,.nm 4)] rfl rfl ?_ ?_) (fun i=>?_)
 ·first|exact eN|refine eM ?_
  simp[CV,Ce,E4]
 ·first|exact eN|refine eM ?_
 ·obtain⟨i,hi⟩:=i
  have hnl:=Ix p.length i
  have hns:=dM p.length i
  have htl2:(Ce l i).length=i:=by unfold Ce;rw[List.length_map,List.length_take];omega
  have hal2:(E4 p.length l i).length=i:=by unfold E4;rw[List.length_map,List.length_take];omega
  have hts:=fun h:i<l.length=>Ef (fun x:AF=>x.1) l (0,[]) h
  have has:=fun h:i<l.length=>Ef (fun x:AF=>DS p.length x.2) l (0,[]) h
  simp only
  repeat'(first|exact trivial|refine eS rfl ?_|refine AB ?_|refine rX [0,1,4,5,6,7,9,15,16,17,18,46,47,48,49] hc ?_ ?_|refine rC ?_ ?_<;>intro AA<;>try(cases AA;done))
  ·exact AA
  ·refine⟨⟨by omega,by omega⟩,?_⟩
   rw[hnl]
   simp only[AO]
   omega
  ·have hi2:i<l.length:=Int.ofNat_lt.1 AA
   refine IH drawsAny hc 9 [([1,2,3,4,5,6,7],8)] [0] (by kernel_rfl) (UN ?_ ?_)
   ·trivial
   ·refine Xw hc [3] ?_ ?_
    ·rw[htl2]
     simp only[AO]
     omega
    ·refine wM [0,1,4,5,6,7,9,15,16,17,18,46,47,48,49] hc ?_ ?_ ?_
     ·trivial
     ·trivial
     ·have hts2:=hts hi2
      have has2:=has hi2
      have eP:p++CV p.length i++[(p.length:Int)+(i:Int)]=p++CV p.length (i+1):=by
       rw[hns,List.append_assoc]
       rfl
      have eT:ty++Ce l i++[(l.getD i (0,[])).1]=ty++Ce l (i+1):=by
       unfold Ce
       rw[hts2,List.append_assoc]
      have lP:p.length+(CV p.length i).length+1=(p++CV p.length (i+1)).length:=by rw[List.length_append,Ix,Ix];omega
      have lT:ty.length+(Ce l i).length+1=(ty++Ce l (i+1)).length:=by rw[←eT,List.length_append,List.length_append,List.length_singleton]
      have hrng:=OY hl i
      have hxl:(l.getD i (0,[])).2.length≤100000:=(hl.2 _ (AD l (0,[]) hi2)).1
      repeat'(first|exact trivial|refine eS rfl ?_|refine AB ?_|refine rX [0,1,4,5,6,7,9,15,16,17,18,46,47,48,49] hc ?_ ?_|refine rC ?_ ?_<;>intro AA<;>try(cases AA;done))
      rw[eP,eT,lP,lT]
      generalize hxd:(l.getD i (0,[])).2=xs at *
      refine AK (ι:={k:Nat//k≤xs.length}) (fun k=>⟨[(0,.bp 1 [] 0),(4,.p (.int .i64) (p.length:Int)),(7,.sr 61 aO 0 (DS p.length (xs.take k.1)).length),(15,.p Jm l),(16,.p (.int .i64) (l.length:Int)),(17,.p (.int .i64) (i:Int)),(46,.p Ee xs),(47,.p (.int .i64) (xs.length:Int)),(48,.p (.int .i64) (k.1:Int))],[(1,.box 93 true [.p II h,.sr 2 T3 0 (p++CV p.length (i+1)).length,.sr 3 T3 0 (ty++Ce l (i+1)).length,.sr 4 Ee 0 (ar++E4 p.length l i).length]),(2,.arr 3 T3 (p++CV p.length (i+1))),(3,.arr 3 T3 (ty++Ce l (i+1))),(4,.arr 59 Ee (ar++E4 p.length l i)),(61,.arr 63 aO (DS p.length (xs.take k.1)))]⟩) (fun k=>xs.length-k.1) ⟨0,Nat.zero_le _⟩ (AC [(1,.nm 1),(2,.nm 2),(3,.nm 3),(4,.nm 4),(61,.nil)] rfl rfl ?_ ?_) (fun k=>?_)
      ·first|exact eN|refine eM ?_
       rfl
      ·first|exact eN|refine eM ?_
       rfl
      ·obtain⟨k,hk⟩:=k
       have hsl:(DS p.length (xs.take k)).length=k:=by unfold DS;rw[List.length_map,List.length_take];omega
       have hss:=fun h:k<xs.length=>Ef (fun a:Int×Int=>(a.1,a.2+(p.length:Int))) xs (0,0) h
       have hkr:=fun h:k<xs.length=>hrng _ (AD xs (0,0) h)
       simp only
       repeat'(first|exact trivial|refine eS rfl ?_|refine AB ?_|refine rX [0,1,4,5,6,7,9,15,16,17,18,46,47,48,49] hc ?_ ?_|refine rC ?_ ?_<;>intro AA<;>try(cases AA;done))
       ·exact AA
       ·have hk2:k<xs.length:=Int.ofNat_lt.1 AA
        have hkr2:=hkr hk2
        refine⟨⟨by omega,by omega⟩,?_⟩
        rw[hsl]
        simp only[AO]
        omega
       ·omega
       ·have hk2:k<xs.length:=Int.ofNat_lt.1 AA
        have hss2:DS p.length (xs.take (k+1))=DS p.length (xs.take k)++[((xs.getD k (0,0)).1,(xs.getD k (0,0)).2+(p.length:Int))]:=hss hk2
        refine⟨⟨k+1,hk2⟩,by simp only;omega,AC [(1,.nm 1),(2,.nm 2),(3,.nm 3),(4,.nm 4),(61,.nm 61)] rfl rfl ?_ ?_⟩
        ·simp only[hss2]
         first|exact eN|refine eM ?_
        ·simp only[hss2]
         first|exact eN|refine eM ?_
       ·rw[hal2]
        simp only[AO]
        omega
       ·omega
       ·have hk2:xs.take k=xs:=List.take_of_length_le (Int.ofNat_le.1 AA)
        rw[hk2]
        have eA:ar++E4 p.length l i++[DS p.length xs]=ar++E4 p.length l (i+1):=by
         unfold E4
         rw[has2,List.append_assoc]
        refine⟨⟨i+1,hi2⟩,by simp only;omega,AC [(1,.nm 1),(2,.nm 2),(3,.nm 3),(4,.nm 4)] rfl rfl ?_ ?_⟩
        ·simp only[←eA]
         first|exact eN|refine eM ?_
        ·first|exact eN|refine eM ?_
  ·have hi2:i=l.length:=by omega
   subst hi2
   refine Ev.ent (σ':=⟨[],Vn h (p++CV p.length l.length) (ty++Ce l l.length) (ar++E4 p.length l l.length)⟩) ?_ (AC [(1,.nm 1),(2,.nm 2),(3,.nm 3),(4,.nm 4)] rfl rfl ?_ ?_)
   ·exact Bp hc [] rfl (.inr rfl) (.raw (.tuple #[])) rfl ⟨rfl,rfl⟩
   ·unfold Vn
    first|exact eN|refine eM ?_
   ·first|exact eN|refine eM ?_
end
/- Functions of unify.classes: join's merge. -/
section
attribute [local go_sem] Ql
def Bn:List (Int×Int)→List (Int×Int)→List (Int×Int)×List (Int×Int)
 | [],y=>(y,[])
 | a :: x,[]=>(a :: x,[])
 | a :: x,b :: y =>
  if a.1<b.1 then (a :: (Bn x (b :: y)).1,(Bn x (b :: y)).2)
  else if b.1<a.1 then (b :: (Bn (a :: x) y).1,(Bn (a :: x) y).2)
  else (a :: (Bn x y).1,(a.2,b.2) :: (Bn x y).2)
termination_by x y=>x.length+y.length
structure dN (xs ys:List (Int×Int)) (W0:List (Int×Int)) (s:(List (Int×Int)×List (Int×Int))×(List (Int×Int)×List (Int×Int)×Nat)):Prop where
 hi:s.2.2.2≤s.2.2.1.length
 both:s.2.1++(Bn s.1.1 s.1.2).1=(Bn xs ys).1
 wait:s.2.2.1.take s.2.2.2++(Bn s.1.1 s.1.2).2=W0++(Bn xs ys).2
 len:s.2.1.length+s.1.1.length+s.1.2.length≤xs.length+ys.length
 num:s.2.2.2+s.1.1.length≤W0.length+xs.length
theorem A47 {x y:List (Int×Int)} (h0:0<x.length) (h:y.length=0∨(x.getD 0 (0,0)).1<(y.getD 0 (0,0)).1):Bn x y=(x.getD 0 (0,0) :: (Bn (x.drop 1) y).1,(Bn (x.drop 1) y).2):=by
 cases x with
 | nil=>simp at h0
 | cons a x =>
  cases y with
  | nil =>
   simp only[List.drop_succ_cons,List.drop_zero]
   cases x<;>simp[Bn]
  | cons b y =>
   have h:a.1<b.1:=by simpa using h
   simp only[List.drop_succ_cons,List.drop_zero]
   rw[Bn,if_pos h]
   rfl
theorem A48 {x y:List (Int×Int)} (h0:0<y.length) (h:x.length=0∨(y.getD 0 (0,0)).1<(x.getD 0 (0,0)).1):Bn x y=(y.getD 0 (0,0) :: (Bn x (y.drop 1)).1,(Bn x (y.drop 1)).2):=by
 cases y with
 | nil=>simp at h0
 | cons b y =>
  cases x with
  | nil=>simp[Bn]
  | cons a x =>
   have h:b.1<a.1:=by simpa using h
   simp only[List.drop_succ_cons,List.drop_zero]
   rw[Bn,if_neg (by omega),if_pos h]
   rfl
theorem A1M {x y:List (Int×Int)} (h0:0<x.length) (h1:0<y.length) (h:(x.getD 0 (0,0)).1=(y.getD 0 (0,0)).1):Bn x y=(x.getD 0 (0,0) :: (Bn (x.drop 1) (y.drop 1)).1,((x.getD 0 (0,0)).2,(y.getD 0 (0,0)).2) :: (Bn (x.drop 1) (y.drop 1)).2):=by
 cases x with
 | nil=>simp at h0
 | cons a x =>
  cases y with
  | nil=>simp at h1
  | cons b y =>
   have h:a.1=b.1:=by simpa using h
   simp only[List.drop_succ_cons,List.drop_zero]
   rw[Bn,if_neg (by omega),if_neg (by omega)]
   rfl
section
variable {xs ys W0 x y bo V:List (Int×Int)} {k:Nat}
theorem A1N (h:dN xs ys W0 ((x,y),bo,V,k)) (h0:0<x.length) (hc:y.length=0∨(x.getD 0 (0,0)).1<(y.getD 0 (0,0)).1):dN xs ys W0 ((x.drop 1,y),bo++[x.getD 0 (0,0)],V,k):=by
 have e:=A47 h0 hc
 obtain⟨h1,h2,h3,h4,h5⟩:=h
 simp only at h1 h2 h3 h4 h5
 rw[e]at h2 h3
 exact⟨h1,by rw[List.append_assoc];exact h2,h3,by simp only[List.length_append,List.length_singleton,List.length_drop];omega,by simp only[List.length_drop];omega⟩
theorem A1O (h:dN xs ys W0 ((x,y),bo,V,k)) (h0:0<y.length) (hc:x.length=0∨(y.getD 0 (0,0)).1<(x.getD 0 (0,0)).1):dN xs ys W0 ((x,y.drop 1),bo++[y.getD 0 (0,0)],V,k):=by
 have e:=A48 h0 hc
 obtain⟨h1,h2,h3,h4,h5⟩:=h
 simp only at h1 h2 h3 h4 h5
 rw[e]at h2 h3
 exact⟨h1,by rw[List.append_assoc];exact h2,h3,by simp only[List.length_append,List.length_singleton,List.length_drop];omega,h5⟩
theorem A0t (h:dN xs ys W0 ((x,y),bo,V,k)) (h0:0<x.length) (h1:0<y.length) (hc:(x.getD 0 (0,0)).1=(y.getD 0 (0,0)).1):dN xs ys W0 ((x.drop 1,y.drop 1),bo++[x.getD 0 (0,0)],V.take k++[((x.getD 0 (0,0)).2,(y.getD 0 (0,0)).2)],k+1):=by
 have e:=A1M h0 h1 hc
 obtain⟨g1,h2,h3,h4,h5⟩:=h
 simp only at g1 h2 h3 h4 h5
 rw[e]at h2 h3
 have hl:(V.take k++[((x.getD 0 (0,0)).2,(y.getD 0 (0,0)).2)]).length=k+1:=by simp only[List.length_append,List.length_singleton,List.length_take];omega
 exact⟨by simp only[hl];omega,by rw[List.append_assoc];exact h2,by simp only;rw[List.take_of_length_le (by omega),List.append_assoc];exact h3,by simp only[List.length_append,List.length_singleton,List.length_drop];omega,by simp only[List.length_drop];omega⟩
end
def uZ (h:AN) (p ty:List Int) (ar:List (List (Int×Int))) (W:List (Int×Int)) (hi:Nat):List (Nat×Obj) :=
 [(1,.box 93 true [.p II h,.sr 2 T3 0 p.length,.sr 3 T3 0 ty.length,.sr 4 Ee 0 ar.length]),(2,.arr 3 T3 p),(3,.arr 3 T3 ty),(4,.arr 59 Ee ar),(5,.box 90 false [.bp 1 [] 0]),(6,.box 135 false [.sr 7 PM 0 hi]),(7,.arr 134 PM W)]
theorem u3 (h:AN) (hh:h.1.length≤100000) (hhc:∀x∈h.1,x.2.1.length≤100000) (p ty:List Int) (ar:List (List (Int×Int))) (W:List (Int×Int)) (hi:Nat) (hhi:hi≤W.length) (hhb:hi≤100000000000) {a b:Int} (a0:0≤a) (a1:a<(p.length:Int)) (b0:0≤b) (b1:b<(p.length:Int)) (htl:ty.length=p.length) (hal:ar.length=p.length)
  (ta:0≤ty.getD a.toNat 0∧ty.getD a.toNat 0<(h.1.length:Int)) (tb:0≤ty.getD b.toNat 0∧ty.getD b.toNat 0<(h.1.length:Int)) (hla:(ar.getD a.toNat []).length≤10000000) (hlb:(ar.getD b.toNat []).length≤10000000) :
  Ca Tryz.prog 75 [.p T3 a,.p T3 b,.bp 5 [] 0,.bp 6 [] 0] (uZ h p ty ar W hi) [1,5,6]
  (fun res objs'=>((Ba h (ty.getD a.toNat 0) (ty.getD b.toNat 0)).2=false∧res=.p .bool false∧objs'=uZ h p ty ar W hi) ∨
   ((Ba h (ty.getD a.toNat 0) (ty.getD b.toNat 0)).2=true∧res=.p .bool true∧∃W' hi',hi'≤W'.length∧W'.take hi'=W.take hi++(Bn (ar.getD a.toNat []) (ar.getD b.toNat [])).2 ∧
    objs'=uZ h (p.set b.toNat a) (ty.set a.toNat (Ba h (ty.getD a.toNat 0) (ty.getD b.toNat 0)).1) (ar.set a.toNat (Bn (ar.getD a.toNat []) (ar.getD b.toNat [])).1) W' hi')):=by
 refine DJ Tryz.func75 (by kernel_rfl) rfl Tryz.ntmps75 (by simp only[List.length_cons,List.length_nil];omega) (by kernel_rfl) rfl rfl (AH [(37,Ql)]) (AE XY AI) ?_
 intro w0 K O0 ρ0 hc hok1 hok2
 have a1t:a<(ty.length:Int):=by omega
 have b1t:b<(ty.length:Int):=by omega
 have a1r:a<(ar.length:Int):=by omega
 have b1r:b<(ar.length:Int):=by omega
 simp only[uZ,BU]
 repeat'(first|exact trivial|refine eS rfl ?_|refine AB ?_|refine rX [0,1,2,3,6,7,8,9,10,11,35,71,94,122] hc ?_ ?_|refine rC ?_ ?_<;>intro AA<;>try(cases AA;done))
 ·refine⟨⟨a0,a1t⟩,⟨b0,b1t⟩,ta,tb,hh,hhc⟩
 ·refine Ev.ent (σ':=⟨[(6,.p .bool false)],uZ h p ty ar W hi⟩) ?_ (AC [(1,.nm 1),(2,.nm 2),(3,.nm 3),(4,.nm 4),(5,.nm 5),(6,.nm 6),(7,.nm 7)] rfl rfl ?_ ?_)
  ·exact Bp hc [.tmp 6] rfl (.inl rfl) (.p .bool false) eT (.inl ⟨AA,rfl,rfl⟩)
  ·unfold uZ
   first|exact eN|refine eM ?_
  ·first|exact eN|refine eM ?_
 ·exact⟨b0,b1⟩
 ·exact⟨a0,a1t⟩
 ·exact⟨⟨a0,a1r⟩,b0,b1r⟩
 ·generalize ht:(Ba h (ty.getD a.toNat 0) (ty.getD b.toNat 0)).1=t at *
  generalize hxs:ar.getD a.toNat []=xs at *
  generalize hys:ar.getD b.toNat []=ys at *
  refine AK (ι:={s:(List (Int×Int)×List (Int×Int))×(List (Int×Int)×List (Int×Int)×Nat)//dN xs ys (W.take hi) s}) (fun s=>⟨[(0,.p T3 a),(1,.p T3 b),(2,.bp 5 [] 0),(3,.bp 6 [] 0),(9,.p Ee s.1.1.1),(10,.p Ee s.1.1.2),(11,.sr 11 aO 0 s.1.2.1.length)],[(1,.box 93 true [.p II h,.sr 2 T3 0 p.length,.sr 3 T3 0 ty.length,.sr 4 Ee 0 ar.length]),(2,.arr 3 T3 (p.set b.toNat a)),(3,.arr 3 T3 (ty.set a.toNat t)),(4,.arr 59 Ee ar),(5,.box 90 false [.bp 1 [] 0]),(6,.box 135 false [.sr 7 PM 0 s.1.2.2.2]),(7,.arr 134 PM s.1.2.2.1),(11,.arr 63 aO s.1.2.1)]⟩) (fun s=>s.1.1.1.length+s.1.1.2.length) ⟨((xs,ys),([],W,hi)),hhi,rfl,rfl,by simp,by simp only[List.length_take];omega⟩ (AC [(1,.nm 1),(2,.nm 2),(3,.nm 3),(4,.nm 4),(5,.nm 5),(6,.nm 6),(7,.nm 7),(11,.nil)] rfl rfl ?_ ?_) (fun s=>?_)
  ·first|exact eN|refine eM ?_
  ·first|exact eN|refine eM ?_
  ·obtain⟨⟨⟨x,y⟩,bo,V,k⟩,hm⟩:=s
   have hk1:=hm.len
   have hk2:=hm.num
   have hk3:=hm.hi
   simp only[List.length_take]at hk1 hk2 hk3 ⊢
   repeat'(first|exact trivial|refine eS rfl ?_|refine AB ?_|refine rX [0,1,2,3,6,7,8,9,10,11,35,71,94,122] hc ?_ ?_|refine rC ?_ ?_<;>intro AA<;>try(cases AA;done))
   ·refine⟨fun h=>?_,fun h=>?_⟩
    ·rw[Bool.and_eq_true,decide_eq_true_eq]at h
     exact h.2
    ·rw[Bool.and_eq_true,Bool.not_eq_true',beq_eq_false_iff_ne]at h
     have h9:=h.1
     have h8:y.length≠0:=fun e=>h9 (by rw[e];rfl)
     exact Int.ofNat_lt.2 (Nat.pos_of_ne_zero h8)
   ·have hx0:0<x.length:=by
     rcases AA with AA|AA
     ·omega
     ·exact Int.ofNat_lt.1 AA.1
    have hcx:y.length=0∨(x.getD 0 (0,0)).1<(y.getD 0 (0,0)).1:=by
     rcases AA with AA|AA
     ·exact .inl (Int.ofNat.inj AA)
     ·exact .inr AA.2
    refine IH drawsAny hc 9 [([0,1,2,3,4],5),([],8)] [6,7] (by kernel_rfl) (UN ?_ ?_)
    ·exact⟨Int.ofNat_lt.2 hx0,Int.ofNat_le.2 hx0⟩
    ·refine Xw hc [11] ?_ ?_
     ·simp only[AO];omega
     ·refine UN ?_ ?_
      ·exact Int.ofNat_le.2 hx0
      ·refine Xw hc [] ?_ ?_
       ·trivial
       ·refine wM [0,1,2,3,6,7,8,9,10,11,35,71,94,122] hc ?_ ?_ ?_
        ·exact Int.ofNat_le.2 hx0
        ·trivial
        ·repeat'(first|exact trivial|refine eS rfl ?_|refine AB ?_|refine rX [0,1,2,3,6,7,8,9,10,11,35,71,94,122] hc ?_ ?_|refine rC ?_ ?_<;>intro AA<;>try(cases AA;done))
         refine⟨⟨((x.drop 1,y),bo++[x.getD 0 (0,0)],V,k),A1N hm hx0 hcx⟩,by simp only[List.length_drop];omega,AC [(1,.nm 1),(2,.nm 2),(3,.nm 3),(4,.nm 4),(5,.nm 5),(6,.nm 6),(7,.nm 7),(11,.nm 11)] rfl rfl ?_ ?_⟩
         ·first|exact eN|refine eM ?_
         ·first|exact eN|refine eM ?_
   ·have h8:y.length≠0:=fun e=>AA.1 (by rw[e];rfl)
    have h7:0<y.length:=Nat.pos_of_ne_zero h8
    refine⟨fun h=>Int.ofNat_lt.2 h7,fun h=>?_⟩
    ·rw[Bool.not_eq_true',beq_eq_false_iff_ne]at h
     have h8:x.length≠0:=fun e=>h (by rw[e];rfl)
     exact Int.ofNat_lt.2 (Nat.pos_of_ne_zero h8)
   ·have hy0:0<y.length:=Nat.pos_of_ne_zero fun e=>(by assumption:¬_∧_).1 (by rw[e];rfl)
    have hcy:x.length=0∨(y.getD 0 (0,0)).1<(x.getD 0 (0,0)).1:=by
     rcases AA with AA|AA
     ·exact .inl (Int.ofNat.inj AA)
     ·exact .inr AA
    refine IH drawsAny hc 9 [([0,1,2,3,4],5),([],8)] [6,7] (by kernel_rfl) (UN ?_ ?_)
    ·exact⟨Int.ofNat_lt.2 hy0,Int.ofNat_le.2 hy0⟩
    ·refine Xw hc [11] ?_ ?_
     ·simp only[AO];omega
     ·refine UN ?_ ?_
      ·exact Int.ofNat_le.2 hy0
      ·refine Xw hc [] ?_ ?_
       ·trivial
       ·refine wM [0,1,2,3,6,7,8,9,10,11,35,71,94,122] hc ?_ ?_ ?_
        ·exact Int.ofNat_le.2 hy0
        ·trivial
        ·repeat'(first|exact trivial|refine eS rfl ?_|refine AB ?_|refine rX [0,1,2,3,6,7,8,9,10,11,35,71,94,122] hc ?_ ?_|refine rC ?_ ?_<;>intro AA<;>try(cases AA;done))
         refine⟨⟨((x,y.drop 1),bo++[y.getD 0 (0,0)],V,k),A1O hm hy0 hcy⟩,by simp only[List.length_drop];omega,AC [(1,.nm 1),(2,.nm 2),(3,.nm 3),(4,.nm 4),(5,.nm 5),(6,.nm 6),(7,.nm 7),(11,.nm 11)] rfl rfl ?_ ?_⟩
         ·first|exact eN|refine eM ?_
         ·first|exact eN|refine eM ?_
   ·rename_i hcy
    have hx0:0<x.length:=Nat.pos_of_ne_zero fun e=>AA.1 (by rw[e];rfl)
    have hy0:0<y.length:=Nat.pos_of_ne_zero fun e=>hcy.1 (by rw[e];rfl)
    refine⟨Int.ofNat_lt.2 hx0,Int.ofNat_lt.2 hy0,?_⟩
    simp only[AO]
    omega
   ·rename_i hcy
    have hx0:0<x.length:=Nat.pos_of_ne_zero fun e=>AA.1 (by rw[e];rfl)
    have hy0:0<y.length:=Nat.pos_of_ne_zero fun e=>hcy.1 (by rw[e];rfl)
    have he:(x.getD 0 (0,0)).1=(y.getD 0 (0,0)).1:=Int.le_antisymm AA.2 (hcy.2 (Int.ofNat_lt.2 hx0))
    refine IH drawsAny hc 12 [([0,1,2,3,4],5),([],10),([6,7],11)] [8,9] (by kernel_rfl) (UN ?_ ?_)
    ·exact⟨Int.ofNat_lt.2 hx0,Int.ofNat_le.2 hx0,Int.ofNat_le.2 hy0⟩
    ·refine Xw hc [11] ?_ ?_
     ·simp only[AO];omega
     ·refine UN ?_ ?_
      ·exact⟨Int.ofNat_le.2 hx0,Int.ofNat_le.2 hy0⟩
      ·refine Xw hc [] ?_ ?_
       ·trivial
       ·refine UN ?_ ?_
        ·exact⟨Int.ofNat_le.2 hx0,Int.ofNat_le.2 hy0⟩
        ·refine Xw hc [] ?_ ?_
         ·trivial
         ·refine wM [0,1,2,3,6,7,8,9,10,11,35,71,94,122] hc ?_ ?_ ?_
          ·exact Int.ofNat_le.2 hy0
          ·trivial
          ·repeat'(first|exact trivial|refine eS rfl ?_|refine AB ?_|refine rX [0,1,2,3,6,7,8,9,10,11,35,71,94,122] hc ?_ ?_|refine rC ?_ ?_<;>intro AA<;>try(cases AA;done))
           refine⟨⟨((x.drop 1,y.drop 1),bo++[x.getD 0 (0,0)],V.take k++[((x.getD 0 (0,0)).2,(y.getD 0 (0,0)).2)],k+1),A0t hm hx0 hy0 he⟩,by simp only[List.length_drop];omega,AC [(1,.nm 1),(2,.nm 2),(3,.nm 3),(4,.nm 4),(5,.nm 5),(6,.nm 6),(7,.nm 7),(11,.nm 11)] rfl rfl ?_ ?_⟩
           ·first|exact eN|refine eM ?_
           ·first|exact eN|refine eM ?_
   ·exact⟨a0,a1r⟩
   ·have hx0:x=[]:=List.eq_nil_of_length_eq_zero (by omega)
    have hy0:y=[]:=List.eq_nil_of_length_eq_zero (by omega)
    subst hx0 hy0
    have hb:=hm.both
    have hw:=hm.wait
    simp only[Bn,List.append_nil]at hb hw
    refine Ev.ent (σ':=⟨[(6,.p .bool true)],uZ h (p.set b.toNat a) (ty.set a.toNat t) (ar.set a.toNat bo) V k⟩) ?_ (AC [(1,.nm 1),(2,.nm 2),(3,.nm 3),(4,.nm 4),(5,.nm 5),(6,.nm 6),(7,.nm 7)] rfl rfl ?_ ?_)
    ·exact Bp hc [.tmp 6] rfl (.inl rfl) (.p .bool true) eT (.inr ⟨by assumption,rfl,V,k,hk3,hw,by rw[hb];rfl⟩)
    ·unfold uZ
     simp only[List.length_set]
     first|exact eN|refine eM ?_
    ·first|exact eN|refine eM ?_
end
/- Plain: what join keeps: the classes are the least that make the pairs equal, and what they have is asked by all. -/
section
theorem M3 {h:AN} (hk:UQ h) {a b c:Int} (a0:0≤a) (a1:a<(h.1.length:Int)) (b0:0≤b) (b1:b<(h.1.length:Int)) (c0:0≤c) (c1:c<(h.1.length:Int)) (h1:Cr h a b=true) (h2:Cr h b c=true):Cr h a c=true :=
 (CH hk a0 a1 c0 c1).2 fun i hi=>(CH hk a0 a1 b0 b1).1 h1 i ((CH hk b0 b1 c0 c1).1 h2 i hi)
/-! Merged arcs -/
theorem Oa:∀ {x y:List (Int×Int)} {a:Int×Int},a∈x→a∈(Bn x y).1
 | [],_,_,h=>by cases h
 | b :: x,[],a,h=>by simpa[Bn] using h
 | b :: x,c :: y,a,h=>by
  rw[Bn]
  split
  ·rcases List.mem_cons.1 h with rfl|h
   ·simp
   ·exact List.mem_cons_of_mem _ (Oa h)
  ·split
   ·exact List.mem_cons_of_mem _ (Oa h)
   ·rcases List.mem_cons.1 h with rfl|h
    ·simp
    ·exact List.mem_cons_of_mem _ (Oa h)
termination_by x y=>x.length+y.length
theorem Lg:∀ {x y:List (Int×Int)} {a:Int×Int},a∈y→a∈(Bn x y).1∨∃t,(a.1,t)∈(Bn x y).1∧(t,a.2)∈(Bn x y).2
 | [],y,a,h=>by
  left
  simpa[Bn] using h
 | b :: x,[],a,h=>by cases h
 | b :: x,c :: y,a,h=>by
  rw[Bn]
  split
  ·rcases Lg (x:=x) h with g|⟨t,g1,g2⟩
   ·exact .inl (List.mem_cons_of_mem _ g)
   ·exact .inr ⟨t,List.mem_cons_of_mem _ g1,g2⟩
  ·split
   ·rcases List.mem_cons.1 h with rfl|h
    ·left;simp
    ·rcases Lg (x:=b :: x) h with g|⟨t,g1,g2⟩
     ·exact .inl (List.mem_cons_of_mem _ g)
     ·exact .inr ⟨t,List.mem_cons_of_mem _ g1,g2⟩
   ·rcases List.mem_cons.1 h with rfl|h
    ·right
     exact⟨b.2,by rw[show a.1=b.1 by omega];simp,by simp⟩
    ·rcases Lg (x:=x) h with g|⟨t,g1,g2⟩
     ·exact .inl (List.mem_cons_of_mem _ g)
     ·exact .inr ⟨t,List.mem_cons_of_mem _ g1,List.mem_cons_of_mem _ g2⟩
termination_by x y=>x.length+y.length
theorem Hz:∀ {x y:List (Int×Int)} {a:Int×Int},a∈(Bn x y).1→a∈x∨a∈y
 | [],y,a,h=>by
  right
  simpa[Bn] using h
 | b :: x,[],a,h=>by
  left
  simpa[Bn] using h
 | b :: x,c :: y,a,h=>by
  rw[Bn]at h
  split at h
  ·rcases List.mem_cons.1 h with rfl|h
   ·left;simp
   ·rcases Hz h with g|g
    ·exact .inl (List.mem_cons_of_mem _ g)
    ·exact .inr g
  ·split at h
   ·rcases List.mem_cons.1 h with rfl|h
    ·right;simp
    ·rcases Hz h with g|g
     ·exact .inl g
     ·exact .inr (List.mem_cons_of_mem _ g)
   ·rcases List.mem_cons.1 h with rfl|h
    ·left;simp
    ·rcases Hz h with g|g
     ·exact .inl (List.mem_cons_of_mem _ g)
     ·exact .inr (List.mem_cons_of_mem _ g)
termination_by x y=>x.length+y.length
theorem Ob:∀ {x y:List (Int×Int)} {q:Int×Int},q∈(Bn x y).2→∃e,(e,q.1)∈x∧(e,q.2)∈y
 | [],y,q,h=>by simp[Bn]at h
 | b :: x,[],q,h=>by simp[Bn]at h
 | b :: x,c :: y,q,h=>by
  rw[Bn]at h
  split at h
  ·obtain⟨e,h1,h2⟩:=Ob h
   exact⟨e,List.mem_cons_of_mem _ h1,h2⟩
  ·split at h
   ·obtain⟨e,h1,h2⟩:=Ob h
    exact⟨e,h1,List.mem_cons_of_mem _ h2⟩
   ·rcases List.mem_cons.1 h with rfl|h
    ·exact⟨b.1,by simp,by rw[show b.1=c.1 by omega];simp⟩
    ·obtain⟨e,h1,h2⟩:=Ob h
     exact⟨e,List.mem_cons_of_mem _ h1,List.mem_cons_of_mem _ h2⟩
termination_by x y=>x.length+y.length
theorem Rf:∀ {x y:List (Int×Int)},(Bn x y).2.length≤x.length
 | [],y=>by simp[Bn]
 | b :: x,[]=>by simp[Bn]
 | b :: x,c :: y=>by
  rw[Bn]
  split
  ·have:=Rf (x:=x) (y:=c :: y)
   simp only[List.length_cons]
   omega
  ·split
   ·exact Rf (x:=b :: x) (y:=y)
   ·have:=Rf (x:=x) (y:=y)
    simp only[List.length_cons]
    omega
termination_by x y=>x.length+y.length
abbrev Rg (l:List (Int×Int)):Prop:=l.Pairwise (fun a b=>a.1<b.1)
theorem Rh:∀ {x y:List (Int×Int)},Rg x→Rg y→Rg (Bn x y).1
 | [],y,_,h=>by simpa[Bn] using h
 | b :: x,[],h,_=>by simpa[Bn] using h
 | b :: x,c :: y,hx,hy=>by
  have hx2:=List.pairwise_cons.1 hx
  have hy2:=List.pairwise_cons.1 hy
  rw[Bn]
  split
  ·rename_i hc
   refine List.pairwise_cons.2 ⟨fun a ha=>?_,Rh hx2.2 hy⟩
   rcases Hz ha with g|g
   ·exact hx2.1 a g
   ·rcases List.mem_cons.1 g with rfl|g
    ·exact hc
    ·have:=hy2.1 a g
     omega
  ·split
   ·rename_i hc
    refine List.pairwise_cons.2 ⟨fun a ha=>?_,Rh hx hy2.2⟩
    rcases Hz ha with g|g
    ·rcases List.mem_cons.1 g with rfl|g
     ·exact hc
     ·have:=hx2.1 a g
      omega
    ·exact hy2.1 a g
   ·refine List.pairwise_cons.2 ⟨fun a ha=>?_,Rh hx2.2 hy2.2⟩
    rcases Hz ha with g|g
    ·exact hx2.1 a g
    ·have:=hy2.1 a g
     omega
termination_by x y=>x.length+y.length
/-! Classes joined -/
theorem A0u {p:List Int} {rk:Int→Nat} (hp:Fo p rk) {a b:Int} (a0:0≤a) (b0:0≤b) (b1:b<(p.length:Int)) (ha:Dq p a=a) (hb:Dq p b=b) (hab:a≠b) {x r:Int} (x0:0≤x) (x1:x<(p.length:Int)) (h:Rt p x r):Rt (p.set b.toNat a) x (if r=b then a else r):=by
 have hbase:Rt (p.set b.toNat a) a a:=.base (by rw[CY b0 b1 a a0,if_neg hab];exact ha)
 induction h with
 | @base n hn =>
  split
  ·rename_i e
   rw[e]
   exact .step (by rw[CY b0 b1 b b0,if_pos rfl];exact hab) (by rw[CY b0 b1 b b0,if_pos rfl];exact hbase)
  ·rename_i e
   exact .base (by rw[CY b0 b1 n x0,if_neg e];exact hn)
 | @step n r hn _ ih =>
  have hnb:n≠b:=fun e=>hn (e▸hb)
  have hr:=hp.rng n x0 x1
  exact .step (by rw[CY b0 b1 n x0,if_neg hnb];exact hn) (by rw[CY b0 b1 n x0,if_neg hnb];exact ih hr.1 hr.2)
theorem A0v {p:List Int} {rk:Int→Nat} (hp:Fo p rk) {a b:Int} (a0:0≤a) (a1:a<(p.length:Int)) (b0:0≤b) (b1:b<(p.length:Int)) (ha:Dq p a=a) (hb:Dq p b=b) (hab:a≠b):∃rk',Fo (p.set b.toNat a) rk':=by
 classical
 refine⟨fun x=>if Rt p x b then rk x+rk a+1 else rk x,fun n n0 n1=>?_,fun n n0 n1 hn=>?_⟩
 ·rw[List.length_set]at n1 ⊢
  rw[CY b0 b1 n n0]
  split
  ·exact⟨a0,a1⟩
  ·exact hp.rng n n0 n1
 ·rw[List.length_set]at n1
  rw[CY b0 b1 n n0]at hn ⊢
  by_cases e:n=b
  ·subst e
   rw[if_pos rfl]
   have h1:¬Rt p a n:=fun g=>hab (g.det (.base ha)).symm
   rw[if_neg h1,if_pos (.base hb)]
   omega
  ·rw[if_neg e]at hn ⊢
   have hd:=hp.dec n n0 n1 hn
   have hiff:Rt p n b↔Rt p (Dq p n) b:=by
    constructor
    ·intro g
     cases g with
     | base g=>exact absurd g hn
     | step _ g=>exact g
    ·exact fun g=>.step hn g
   by_cases g:Rt p n b
   ·rw[if_pos g,if_pos (hiff.1 g)]
    omega
   ·rw[if_neg g,if_neg (fun g2=>g (hiff.2 g2))]
    exact hd
inductive EG (n:Nat) (p:List Int) (W:List (Int×Int)):Int→Int→Prop
 | cls {x y r:Int} (x0:0≤x) (x1:x<(n:Int)) (y0:0≤y) (y1:y<(n:Int)) (h:Rt p x r) (g:Rt p y r):EG n p W x y
 | wt {x y:Int} (h:(x,y)∈W):EG n p W x y
 | symm {x y:Int} (h:EG n p W x y):EG n p W y x
 | trans {x y z:Int} (h:EG n p W x y) (g:EG n p W y z):EG n p W x z
theorem EG.mono {n:Nat} {p q:List Int} {W V:List (Int×Int)} (h1:∀x y r,0≤x→x<(n:Int)→0≤y→y<(n:Int)→Rt p x r→Rt p y r→EG n q V x y) (h2:∀x y,(x,y)∈W→EG n q V x y) {x y:Int} (h:EG n p W x y):EG n q V x y:=by
 induction h with
 | cls x0 x1 y0 y1 h g=>exact h1 _ _ _ x0 x1 y0 y1 h g
 | wt h=>exact h2 _ _ h
 | symm _ ih=>exact .symm ih
 | trans _ _ ih1 ih2=>exact .trans ih1 ih2
structure pA (h:AN) (N:List AF) (P:List (Int×Int)) (X:List AF) (v:Int→Int):Prop where
 rng:∀x,0≤x→x<(N.length:Int)→0≤v x∧v x<(X.length:Int)
 ty:∀x,0≤x→x<(N.length:Int)→Cr h (N.getD x.toNat (0,[])).1 (X.getD (v x).toNat (0,[])).1=true
 arc:∀x,0≤x→x<(N.length:Int)→∀a∈AU N x,GI (AU X (v x)) a.1=v a.2
 eq:∀q∈P,v q.1=v q.2
structure JX (h:AN) (X:List AF) (v:Int→Int) (n:Nat) (p ty:List Int) (ar:List (List (Int×Int))) (W:List (Int×Int)):Prop where
 cls:∀x r,0≤x→x<(n:Int)→Rt p x r→v x=v r
 wt:∀w∈W,v w.1=v w.2
 ty:∀r,0≤r→r<(n:Int)→Dq p r=r→Cr h (ty.getD r.toNat 0) (X.getD (v r).toNat (0,[])).1=true
 arc:∀r,0≤r→r<(n:Int)→Dq p r=r→∀a∈ar.getD r.toNat [],GI (AU X (v r)) a.1=v a.2
def DT (N:List AF):List Int:=N.flatMap fun x=>x.2.map (·.1)
structure JI (h:AN) (N:List AF) (P:List (Int×Int)) (p ty:List Int) (ar:List (List (Int×Int))) (W:List (Int×Int)):Prop where
 nty:Ge h N
 fo:∃rk,Fo p rk
 lp:p.length=N.length
 lt:ty.length=N.length
 la:ar.length=N.length
 wr:∀w∈W,(0≤w.1∧w.1<(N.length:Int))∧(0≤w.2∧w.2<(N.length:Int))
 tyr:∀x,0≤x→x<(N.length:Int)→0≤ty.getD x.toNat 0∧ty.getD x.toNat 0<(h.1.length:Int)
 arr:∀k,∀a∈ar.getD k [],(0≤a.2∧a.2<(N.length:Int))∧a.1∈DT N
 srt:∀k,Rg (ar.getD k [])
 sp:∀q∈P,EG N.length p W q.1 q.2
 st:∀x r,0≤x→x<(N.length:Int)→Rt p x r→Cr h (N.getD x.toNat (0,[])).1 (ty.getD r.toNat 0)=true
 sa:∀x r,0≤x→x<(N.length:Int)→Rt p x r→∀a∈AU N x,∃t,(a.1,t)∈ar.getD r.toNat []∧EG N.length p W a.2 t
 co:∀X v,Ge h X→pA h N P X v→JX h X v N.length p ty ar W
theorem FO {p:List Int} {rk:Int→Nat} (hp:Fo p rk) {x r:Int} (x0:0≤x) (x1:x<(p.length:Int)) (h:Rt p x r):0≤r∧r<(p.length:Int):=by
 obtain⟨s,hs,s0,s1⟩:=hp.root x0 x1
 rw[h.det hs]
 exact⟨s0,s1⟩
theorem Pk {p q:List Int} (h:EC p q) {r:Int} (r0:0≤r) (r1:r<(p.length:Int)):Dq p r=r↔Dq q r=r :=
 ⟨fun e=>((h.2 r r r0 r1).1 (.base e)).root,fun e=>((h.2 r r r0 r1).2 (.base e)).root⟩
theorem A0w {h:AN} {N:List AF} {P:List (Int×Int)} {p q ty:List Int} {ar:List (List (Int×Int))} {W:List (Int×Int)} (hs:EC p q) (hq:∃rk,Fo q rk) (hj:JI h N P p ty ar W):JI h N P q ty ar W:=by
 obtain⟨nty,fo,lp,lt,la,wr,tyr,arr,srt,sp,st,sa,co⟩:=hj
 have hiff:∀x r,0≤x→x<(N.length:Int)→(Rt p x r↔Rt q x r):=fun x r x0 x1=>hs.2 x r x0 (by rw[lp];exact x1)
 have hE:∀ {x y},EG N.length p W x y→EG N.length q W x y:=fun {x y} g=>g.mono (fun x y r x0 x1 y0 y1 h1 h2=>.cls x0 x1 y0 y1 ((hiff x r x0 x1).1 h1) ((hiff y r y0 y1).1 h2)) (fun _ _ h=>.wt h)
 refine⟨nty,hq,by rw[←hs.1];exact lp,lt,la,wr,tyr,arr,srt,fun q hq=>hE (sp q hq),fun x r x0 x1 hr=>st x r x0 x1 ((hiff x r x0 x1).2 hr),fun x r x0 x1 hr a ha=>?_,fun X v hX hv=>?_⟩
 ·obtain⟨t,h1,h2⟩:=sa x r x0 x1 ((hiff x r x0 x1).2 hr) a ha
  exact⟨t,h1,hE h2⟩
 ·obtain⟨c1,c2,c3,c4⟩:=co X v hX hv
  exact⟨fun x r x0 x1 hr=>c1 x r x0 x1 ((hiff x r x0 x1).2 hr),c2,fun r r0 r1 hr=>c3 r r0 r1 ((Pk hs r0 (by rw[lp];exact r1)).2 hr),fun r r0 r1 hr=>c4 r r0 r1 ((Pk hs r0 (by rw[lp];exact r1)).2 hr)⟩
section
variable {h:AN} {N:List AF} {P:List (Int×Int)} {p ty:List Int} {ar:List (List (Int×Int))} {W:List (Int×Int)} {s t a b:Int}
theorem A0x (hj:JI h N P p ty ar (W++[(s,t)])) (hs:Rt p s a) (ht:Rt p t a):JI h N P p ty ar W:=by
 obtain⟨nty,fo,lp,lt,la,wr,tyr,arr,srt,sp,st,sa,co⟩:=hj
 have hw:=wr (s,t) (by simp)
 have hE:∀ {x y},EG N.length p (W++[(s,t)]) x y→EG N.length p W x y:=fun {x y} g=>g.mono (fun x y r x0 x1 y0 y1 h1 h2=>.cls x0 x1 y0 y1 h1 h2) (fun x y hxy=>by
  rcases List.mem_append.1 hxy with hxy|hxy
  ·exact .wt hxy
  ·have e:(x,y)=(s,t):=by simpa using hxy
   cases e
   exact .cls hw.1.1 hw.1.2 hw.2.1 hw.2.2 hs ht)
 refine⟨nty,fo,lp,lt,la,fun w hw=>wr w (List.mem_append_left _ hw),tyr,arr,srt,fun q hq=>hE (sp q hq),st,fun x r x0 x1 hr a ha=>?_,fun X v hX hv=>?_⟩
 ·obtain⟨u,h1,h2⟩:=sa x r x0 x1 hr a ha
  exact⟨u,h1,hE h2⟩
 ·obtain⟨c1,c2,c3,c4⟩:=co X v hX hv
  exact⟨c1,fun w hw=>c2 w (List.mem_append_left _ hw),c3,c4⟩
theorem lR (hk:UQ h) (hj:JI h N P p ty ar (W++[(s,t)])) (hs:Rt p s a) (ht:Rt p t b) {X:List AF} {v:Int→Int} (hX:Ge h X) (hv:pA h N P X v) :
  v a=v b∧(Ba h (ty.getD a.toNat 0) (ty.getD b.toNat 0)).2=true∧Cr h (Ba h (ty.getD a.toNat 0) (ty.getD b.toNat 0)).1 (X.getD (v a).toNat (0,[])).1=true:=by
 obtain⟨rk,fo⟩:=hj.fo
 obtain⟨⟨s0,s1⟩,t0,t1⟩:=hj.wr (s,t) (by simp)
 simp only at s0 s1 t0 t1
 have ra:=FO fo s0 (by rw[hj.lp];exact s1) hs
 have rb:=FO fo t0 (by rw[hj.lp];exact t1) ht
 rw[hj.lp]at ra rb
 obtain⟨c1,c2,c3,c4⟩:=hj.co X v hX hv
 have e1:=c1 s a s0 s1 hs
 have e2:=c1 t b t0 t1 ht
 have e3:v s=v t:=c2 (s,t) (by simp)
 have e:v a=v b:=by rw[←e1,←e2,e3]
 have g1:=c3 a ra.1 ra.2 hs.root
 have g2:=c3 b rb.1 rb.2 ht.root
 rw[←e]at g2
 have hva:=hv.rng a ra.1 ra.2
 have hx:=hX _ (AD X (0,[]) (k:=(v a).toNat) (by omega))
 have ta:=hj.tyr a ra.1 ra.2
 have tb:=hj.tyr b rb.1 rb.2
 obtain⟨m1,m2⟩:=(HO hk ta.1 ta.2 tb.1 tb.2).2 _ hx.1 hx.2 g1 g2
 exact⟨e,m1,m2⟩
theorem Vo {α:Type} {l:List α} {d v:α} {a r:Int} (a0:0≤a) (a1:a<(l.length:Int)) (r0:0≤r):(l.set a.toNat v).getD r.toNat d=if r=a then v else l.getD r.toNat d:=by
 by_cases e:r=a
 ·subst e
  rw[if_pos rfl,CN _ _ _ (by omega)]
 ·rw[if_neg e,getD_set_ne _ _ _ (by omega)]
theorem u4 (hk:UQ h) (hj:JI h N P p ty ar (W++[(s,t)])) (hs:Rt p s a) (ht:Rt p t b) (hab:a≠b) (hm:(Ba h (ty.getD a.toNat 0) (ty.getD b.toNat 0)).2=true) :
  JI h N P (p.set b.toNat a) (ty.set a.toNat (Ba h (ty.getD a.toNat 0) (ty.getD b.toNat 0)).1) (ar.set a.toNat (Bn (ar.getD a.toNat []) (ar.getD b.toNat [])).1) (W++(Bn (ar.getD a.toNat []) (ar.getD b.toNat [])).2):=by
 have hmt:=fun X v hX hv=>lR (X:=X) (v:=v) hk hj hs ht hX hv
 obtain⟨nty,⟨rk,fo⟩,lp,lt,la,wr,tyr,arr,srt,sp,st,sa,co⟩:=hj
 obtain⟨⟨s0,s1⟩,t0,t1⟩:=wr (s,t) (by simp)
 simp only at s0 s1 t0 t1
 have ra:=FO fo s0 (by rw[lp];exact s1) hs
 have rb:=FO fo t0 (by rw[lp];exact t1) ht
 have ha:=hs.root
 have hb:=ht.root
 have hnew:=fun {x r:Int} (x0:0≤x) (x1:x<(N.length:Int)) (hx:Rt p x r)=>A0u fo ra.1 rb.1 rb.2 ha hb hab x0 (by rw[lp];exact x1) hx
 have hold:∀ {x r:Int},0≤x→x<(N.length:Int)→Rt (p.set b.toNat a) x r→∃r',Rt p x r'∧r=if r'=b then a else r':=fun {x r} x0 x1 hx=>by
  obtain⟨r',h1,-,-⟩:=fo.root x0 (by rw[lp];exact x1)
  exact⟨r',h1,hx.det (hnew x0 x1 h1)⟩
 have ta:=tyr a ra.1 (by rw[←lp];exact ra.2)
 have tb:=tyr b rb.1 (by rw[←lp];exact rb.2)
 obtain⟨q0,q1,q2,q3⟩:=(HO hk ta.1 ta.2 tb.1 tb.2).1 hm
 generalize hmt0:(Ba h (ty.getD a.toNat 0) (ty.getD b.toNat 0)).1=m at *
 generalize hxs:ar.getD a.toNat []=xs at *
 generalize hys:ar.getD b.toNat []=ys at *
 have hst:EG N.length (p.set b.toNat a) (W++(Bn xs ys).2) s t:=by
  have h1:=hnew s0 s1 hs
  have h2:=hnew t0 t1 ht
  rw[if_neg hab]at h1
  rw[if_pos rfl]at h2
  exact .cls s0 s1 t0 t1 h1 h2
 have hE:∀ {x y},EG N.length p (W++[(s,t)]) x y→EG N.length (p.set b.toNat a) (W++(Bn xs ys).2) x y:=fun {x y} g=>g.mono (fun x y r x0 x1 y0 y1 h1 h2=>.cls x0 x1 y0 y1 (hnew x0 x1 h1) (hnew y0 y1 h2)) (fun x y hxy=>by
  rcases List.mem_append.1 hxy with hxy|hxy
  ·exact .wt (List.mem_append_left _ hxy)
  ·have e:(x,y)=(s,t):=by simpa using hxy
   cases e
   exact hst)
 have hty:=fun {r:Int} (r0:0≤r)=>Vo (l:=ty) (d:=0) (v:=m) ra.1 (by rw[lt,←lp];exact ra.2) r0
 have har:=fun {r:Int} (r0:0≤r)=>Vo (l:=ar) (d:=[]) (v:=(Bn xs ys).1) ra.1 (by rw[la,←lp];exact ra.2) r0
 refine⟨nty,A0v fo ra.1 ra.2 rb.1 rb.2 ha hb hab,by rw[List.length_set];exact lp,by rw[List.length_set];exact lt,by rw[List.length_set];exact la,fun w hw=>?_,fun x x0 x1=>?_,fun k y hy=>?_,fun k=>?_,fun q hq=>hE (sp q hq),fun x r x0 x1 hr=>?_,fun x r x0 x1 hr y hy=>?_,fun X v hX hv=>?_⟩
 ·rcases List.mem_append.1 hw with hw|hw
  ·exact wr w (List.mem_append_left _ hw)
  ·obtain⟨e,e1,e2⟩:=Ob hw
   rw[←hxs]at e1
   rw[←hys]at e2
   exact⟨(arr _ _ e1).1,(arr _ _ e2).1⟩
 ·rw[hty x0]
  split
  ·exact⟨q0,q1⟩
  ·exact tyr x x0 x1
 ·have h1:=har (r:=(k:Int)) (by omega)
  rw[Int.toNat_natCast]at h1
  rw[h1]at hy
  split at hy
  ·rcases Hz hy with hy|hy
   ·rw[←hxs]at hy;exact arr _ _ hy
   ·rw[←hys]at hy;exact arr _ _ hy
  ·exact arr _ _ hy
 ·have h1:=har (r:=(k:Int)) (by omega)
  rw[Int.toNat_natCast]at h1
  rw[h1]
  split
  ·exact Rh (by rw[←hxs];exact srt _) (by rw[←hys];exact srt _)
  ·exact srt k
 ·obtain⟨r',h1,rfl⟩:=hold x0 x1 hr
  have hx:=nty _ (AD N (0,[]) (k:=x.toNat) (by omega))
  have hrr:=FO fo x0 (by rw[lp];exact x1) h1
  by_cases e:r'=b
  ·rw[if_pos e,hty ra.1,if_pos rfl]
   exact M3 hk hx.1 hx.2 tb.1 tb.2 q0 q1 (by rw[←e];exact st x r' x0 x1 h1) q3
  ·rw[if_neg e,hty hrr.1]
   split
   ·rename_i e2
    exact M3 hk hx.1 hx.2 ta.1 ta.2 q0 q1 (by rw[←e2];exact st x r' x0 x1 h1) q2
   ·exact st x r' x0 x1 h1
 ·obtain⟨r',h1,rfl⟩:=hold x0 x1 hr
  have hrr:=FO fo x0 (by rw[lp];exact x1) h1
  obtain⟨u,u1,u2⟩:=sa x r' x0 x1 h1 y hy
  by_cases e:r'=b
  ·rw[if_pos e,har ra.1,if_pos rfl]
   rw[e,hys]at u1
   rcases Lg (x:=xs) u1 with g|⟨w,g1,g2⟩
   ·exact⟨u,g,hE u2⟩
   ·exact⟨w,g1,.trans (hE u2) (.symm (.wt (List.mem_append_right _ g2)))⟩
  ·rw[if_neg e,har hrr.1]
   split
   ·rename_i e2
    rw[e2,hxs]at u1
    exact⟨u,Oa u1,hE u2⟩
   ·exact⟨u,u1,hE u2⟩
 ·obtain⟨c1,c2,c3,c4⟩:=co X v hX hv
  obtain⟨e,-,m2⟩:=hmt X v hX hv
  have hroot:∀r,0≤r→r<(N.length:Int)→Dq (p.set b.toNat a) r=r→r≠b∧Dq p r=r:=fun r r0 r1 hr=>by
   rw[CY rb.1 rb.2 r r0]at hr
   split at hr
   ·rename_i e;rw[e]at hr;exact absurd hr hab
   ·rename_i e;exact⟨e,hr⟩
  refine⟨fun x r x0 x1 hr=>?_,fun w hw=>?_,fun r r0 r1 hr=>?_,fun r r0 r1 hr y hy=>?_⟩
  ·obtain⟨r',h1,rfl⟩:=hold x0 x1 hr
   have:=c1 x r' x0 x1 h1
   split
   ·rename_i e2
    rw[this,e2,e]
   ·exact this
  ·rcases List.mem_append.1 hw with hw|hw
   ·exact c2 w (List.mem_append_left _ hw)
   ·obtain⟨f,e1,e2⟩:=Ob hw
    rw[←hxs]at e1
    rw[←hys]at e2
    have g1:=c4 a ra.1 (by rw[←lp];exact ra.2) ha _ e1
    have g2:=c4 b rb.1 (by rw[←lp];exact rb.2) hb _ e2
    rw[←g1,←g2,e]
  ·obtain⟨-,h2⟩:=hroot r r0 r1 hr
   rw[hty r0]
   split
   ·rename_i e2;rw[e2];exact m2
   ·exact c3 r r0 r1 h2
  ·obtain⟨-,h2⟩:=hroot r r0 r1 hr
   rw[har r0]at hy
   split at hy
   ·rename_i e2
    rw[e2]
    rcases Hz hy with hy|hy
    ·exact c4 a ra.1 (by rw[←lp];exact ra.2) ha y (by rw[hxs];exact hy)
    ·rw[e]
     exact c4 b rb.1 (by rw[←lp];exact rb.2) hb y (by rw[hys];exact hy)
   ·exact c4 r r0 r1 h2 y hy
end
end
/- Functions of unify.classes: join. -/
section
theorem Zp {l:List Nat} {f g:Nat→Bool} {b:Nat} (hn:l.Nodup) (hb:b∈l) (h1:f b=true) (h2:g b=false) (h:∀x∈l,x≠b→g x=f x):(l.filter g).length+1=(l.filter f).length:=by
 induction l with
 | nil=>cases hb
 | cons x l ih =>
  obtain⟨hx,hn2⟩:=List.nodup_cons.1 hn
  by_cases e:x=b
  ·subst e
   have:l.filter g=l.filter f:=List.filter_congr fun y hy=>h y (by simp[hy]) (fun e=>hx (e▸hy))
   rw[List.filter_cons,List.filter_cons,if_neg (by rw[h2];simp),if_pos h1,this]
   rfl
  ·have hb2:b∈l:=by
    rcases List.mem_cons.1 hb with g|g
    ·exact absurd g.symm e
    ·exact g
   have ih2:=ih hn2 hb2 (fun y hy=>h y (by simp[hy]))
   rw[List.filter_cons,List.filter_cons,h x (by simp) e]
   split
   ·simp only[List.length_cons];omega
   ·exact ih2
def nR (p:List Int):Nat:=((List.range p.length).filter fun k=>p.getD k 0==(k:Int)).length
theorem A49 (p:List Int):nR p≤p.length:=by
 have:=List.length_filter_le (fun k=>p.getD k 0==(k:Int)) (List.range p.length)
 rw[List.length_range]at this
 exact this
theorem lS {p q:List Int} (h:EC p q):nR q=nR p:=by
 unfold nR
 rw[←h.1]
 refine congrArg List.length (List.filter_congr fun k hk=>?_)
 have hk2:=List.mem_range.1 hk
 have:=Pk h (r:=(k:Int)) (by omega) (by omega)
 unfold Dq at this
 rw[Int.toNat_natCast]at this
 rw[Bool.eq_iff_iff,beq_iff_eq,beq_iff_eq]
 exact this.symm
theorem A0y {p:List Int} {a b:Int} (b0:0≤b) (b1:b<(p.length:Int)) (hb:Dq p b=b) (hab:a≠b):nR (p.set b.toNat a)+1=nR p:=by
 unfold nR
 rw[List.length_set]
 refine Zp (b:=b.toNat) List.nodup_range (List.mem_range.2 (by omega)) ?_ ?_ fun x _ hx=>?_
 ·rw[beq_iff_eq]
  unfold Dq at hb
  omega
 ·rw[CN _ _ _ (by omega),beq_eq_false_iff_ne]
  omega
 ·rw[getD_set_ne _ _ _ (by omega)]
theorem Pl {α:Type} [DecidableEq α]:∀ {l l':List α},l.Nodup→(∀x∈l,x∈l')→l.length≤l'.length
 | [],_,_,_=>by simp
 | x :: l,l',hn,h=>by
  obtain⟨hx,hn2⟩:=List.nodup_cons.1 hn
  have hm:=h x (by simp)
  have:=Pl (l:=l) (l':=l'.erase x) hn2 (fun y hy=>(List.mem_erase_of_ne (fun e:y=x=>hx (by rw[←e];exact hy))).2 (h y (by simp[hy])))
  rw[List.length_erase_of_mem hm]at this
  have:=List.length_pos_of_mem hm
  simp only[List.length_cons]
  omega
theorem lU {l:List (Int×Int)} (h:Rg l) {S:List Int} (hs:∀a∈l,a.1∈S):l.length≤S.length:=by
 have hn:(l.map (·.1)).Nodup:=by
  unfold List.Nodup
  rw[List.pairwise_map]
  exact h.imp fun g=>by omega
 have:=Pl hn (l':=S) (fun x hx=>by
  obtain⟨a,ha,rfl⟩:=List.mem_map.1 hx
  exact hs a ha)
 rwa [List.length_map]at this
theorem u5 {h:AN} {N:List AF} {P:List (Int×Int)} {p ty:List Int} {ar:List (List (Int×Int))} (hj:JI h N P p ty ar []) {a b:Int} (ha:0≤a∧a<(N.length:Int)) (hb:0≤b∧b<(N.length:Int)):JI h N (P++[(a,b)]) p ty ar [(a,b)]:=by
 obtain⟨nty,fo,lp,lt,la,wr,tyr,arr,srt,sp,st,sa,co⟩:=hj
 have hE:∀ {x y},EG N.length p [] x y→EG N.length p [(a,b)] x y:=fun {x y} g=>g.mono (fun x y r x0 x1 y0 y1 h1 h2=>.cls x0 x1 y0 y1 h1 h2) (fun x y hxy=>by cases hxy)
 refine⟨nty,fo,lp,lt,la,fun w hw=>?_,tyr,arr,srt,fun q hq=>?_,st,fun x r x0 x1 hr y hy=>?_,fun X v hX hv=>?_⟩
 ·have e:w=(a,b):=by simpa using hw
  subst e
  exact⟨ha,hb⟩
 ·rcases List.mem_append.1 hq with hq|hq
  ·exact hE (sp q hq)
  ·have e:q=(a,b):=by simpa using hq
   subst e
   exact .wt (by simp)
 ·obtain⟨u,h1,h2⟩:=sa x r x0 x1 hr y hy
  exact⟨u,h1,hE h2⟩
 ·obtain⟨c1,c2,c3,c4⟩:=co X v hX ⟨hv.rng,hv.ty,hv.arc,fun q hq=>hv.eq q (List.mem_append_left _ hq)⟩
  refine⟨c1,fun w hw=>?_,c3,c4⟩
  have e:w=(a,b):=by simpa using hw
  subst e
  exact hv.eq _ (by simp)
def lV (h:AN) (p ty:List Int) (ar:List (List (Int×Int))):List (Nat×Obj):=[(101,.box 93 true [.p II h,.sr 102 T3 0 p.length,.sr 103 T3 0 ty.length,.sr 104 Ee 0 ar.length]),(102,.arr 3 T3 p),(103,.arr 3 T3 ty),(104,.arr 59 Ee ar)]
theorem A0z (h:AN) (hk:UQ h) {N:List AF} {P:List (Int×Int)} {p ty:List Int} {ar:List (List (Int×Int))} (hj:JI h N P p ty ar []) {a b:Int} (ha:0≤a∧a<(N.length:Int)) (hb:0≤b∧b<(N.length:Int)) (hN:N.length≤10000) (hF:(DT N).length≤1000000) :
  Ca Tryz.prog 51 [.bp 101 [] 0,.p T3 a,.p T3 b] (lV h p ty ar) [101]
  (fun res objs'=>(res=.p .bool true∧∃p' ty' ar',objs'=lV h p' ty' ar'∧JI h N (P++[(a,b)]) p' ty' ar' [])∨(res=.p .bool false∧(∃p' ty' ar',objs'=lV h p' ty' ar')∧∀X v,Ge h X→¬pA h N (P++[(a,b)]) X v)):=by
 refine DJ Tryz.func51 (by kernel_rfl) rfl Tryz.ntmps51 (by simp only[List.length_cons,List.length_nil];omega) (by kernel_rfl) rfl rfl (AH []) AI ?_
 intro w0 K O0 ρ0 hc hok1 hok2
 have hh:h.1.length≤100000:=Nat.le_trans hk.2 (by omega)
 have hhc:∀x∈h.1,x.2.1.length≤100000:=fun x hx=>Nat.le_trans (hk.1.wid x.2.1 (List.mem_map.2 ⟨x,hx,rfl⟩)) (by omega)
 have hj0:=u5 hj ha hb
 generalize hQ:P++[(a,b)]=Q at *
 have hBB:N.length*((DT N).length+1)≤10000*1000001:=Nat.mul_le_mul hN (by omega)
 simp only[lV,BU]
 repeat'(first|exact trivial|refine eS rfl ?_|refine AB ?_|refine rX [0,1,2,3,6,7,8,9,10,11,19,48] hc ?_ ?_|refine rC ?_ ?_<;>intro AA<;>try(cases AA;done))
 refine AK (ι:={s:(List Int×List Int×List (List (Int×Int)))×(List (Int×Int)×Nat)//JI h N Q s.1.1 s.1.2.1 s.1.2.2 (s.2.1.take s.2.2)∧s.2.2≤s.2.1.length∧nR s.1.1*((DT N).length+1)+s.2.2≤N.length*((DT N).length+1)+1}) (fun s=>⟨[(3,.bp 3 [] 0),(7,.bp 7 [] 0),(8,.clo 75 [3,7])],[(101,.box 93 true [.p II h,.sr 102 T3 0 s.1.1.1.length,.sr 103 T3 0 s.1.1.2.1.length,.sr 104 Ee 0 s.1.1.2.2.length]),(102,.arr 3 T3 s.1.1.1),(103,.arr 3 T3 s.1.1.2.1),(104,.arr 59 Ee s.1.1.2.2),(3,.box 90 false [.bp 101 [] 0]),(7,.box 135 false [.sr 15 PM 0 s.1.2.2]),(15,.arr 134 PM s.1.2.1)]⟩) (fun s=>nR s.1.1.1*((DT N).length+1)+s.1.2.2) ⟨((p,ty,ar),([(a,b)],1)),hj0,by simp,by have:=Nat.mul_le_mul_right ((DT N).length+1) (A49 p);rw[hj.lp]at this;simp only;omega⟩ (AC [(101,.nm 101),(102,.nm 102),(103,.nm 103),(104,.nm 104),(3,.nm 3),(7,.nm 7),(15,.nm 15)] rfl rfl ?_ ?_) (fun s=>?_)
 ·first|exact eN|refine eM ?_
 ·first|exact eN|refine eM ?_
 ·obtain⟨⟨⟨q,tq,aq⟩,V,k⟩,hJ,hkl,hB⟩:=s
  simp only at hJ hkl hB ⊢
  repeat'(first|exact trivial|refine eS rfl ?_|refine AB ?_|refine rX [0,1,2,3,6,7,8,9,10,11,19,48] hc ?_ ?_|refine rC ?_ ?_<;>intro AA<;>try(cases AA;done))
  ·exact eV
  ·exact eV
  ·have hk0:0<k:=Int.ofNat_lt.1 AA
   have hkm:((k:Int)-1).toNat=k-1:=by omega
   have hV:=Ae V (0,0) (k:=k-1) (by omega)
   rw[show k-1+1=k by omega]at hV
   rw[hkm]
   generalize hst:V.getD (k-1) (0,0)=st at *
   obtain⟨s,t⟩:=st
   rw[hV]at hJ
   obtain⟨⟨s0,s1⟩,t0,t1⟩:=hJ.wr (s,t) (by simp)
   simp only at s0 s1 t0 t1
   obtain⟨rk,fo⟩:=hJ.fo
   have ql:=hJ.lp
   refine IH drawsAny hc 8 [([0,1,2],3),([4,5,6],7)] [] (by kernel_rfl) (UN ?_ ?_)
   ·trivial
   ·refine mxC hc (Xj h tq aq rk fo s0 (by rw[ql];exact s1)) [(1,.nm 101),(2,.nm 102),(3,.nm 103),(4,.nm 104)] [102,103,104] ?_ ?_ ?_
    ·first|exact eN|refine eM ?_
    ·simp only[Vn]
     first|exact eN|refine eM ?_
    ·rintro _ _ ⟨q1,r1,rfl,rfl,fo1,sm1,rt1⟩
     refine⟨[(101,.nm 1),(102,.nm 2),(103,.nm 3),(104,.nm 4)],.p T3 r1,[(101,.box 93 true [.p II h,.sr 102 T3 0 q1.length,.sr 103 T3 0 tq.length,.sr 104 Ee 0 aq.length]),(102,.arr 3 T3 q1),(103,.arr 3 T3 tq),(104,.arr 59 Ee aq)],rfl,rfl,?_,?_,rfl,rfl,rfl,?_⟩
     ·simp only[Vn]
      first|exact eN|refine eM ?_
     ·first|exact eN|refine eM ?_
     ·refine UN ?_ ?_
      ·trivial
      ·refine mxC hc (Xj h tq aq rk fo1 t0 (by rw[←sm1.1,ql];exact t1)) [(1,.nm 101),(2,.nm 102),(3,.nm 103),(4,.nm 104)] [102,103,104] ?_ ?_ ?_
       ·first|exact eN|refine eM ?_
       ·simp only[Vn]
        first|exact eN|refine eM ?_
       ·rintro _ _ ⟨q2,r2,rfl,rfl,fo2,sm2,rt2⟩
        refine⟨[(101,.nm 1),(102,.nm 2),(103,.nm 3),(104,.nm 4)],.p T3 r2,[(101,.box 93 true [.p II h,.sr 102 T3 0 q2.length,.sr 103 T3 0 tq.length,.sr 104 Ee 0 aq.length]),(102,.arr 3 T3 q2),(103,.arr 3 T3 tq),(104,.arr 59 Ee aq)],rfl,rfl,?_,?_,rfl,rfl,rfl,?_⟩
        ·simp only[Vn]
         first|exact eN|refine eM ?_
        ·first|exact eN|refine eM ?_
        ·refine wM [0,1,2,3,6,7,8,9,10,11,19,48] hc ?_ ?_ ?_
         ·trivial
         ·trivial
         ·repeat'(first|exact trivial|refine eS rfl ?_|refine AB ?_|refine rX [0,1,2,3,6,7,8,9,10,11,19,48] hc ?_ ?_|refine rC ?_ ?_<;>intro AA<;>try(cases AA;done))
          have hJ2:=A0w (sm1.trans sm2) ⟨rk,fo2⟩ hJ
          have sm:=sm1.trans sm2
          have hs2:=(sm.2 s r1 s0 (by rw[ql];exact s1)).1 rt1
          have ht2:=(sm2.2 t r2 t0 (by rw[←sm1.1,ql];exact t1)).1 rt2
          have q2l:=hJ2.lp
          have g1:=FO fo2 s0 (by rw[q2l];exact s1) hs2
          have g2:=FO fo2 t0 (by rw[q2l];exact t1) ht2
          refine evP hc 4 ?_ ?_
          ·trivial
          ·by_cases he:r1=r2
           ·subst he
            rw[show (r1 != r1)=false from bne_self_eq_false r1]
            refine rL [0,1,2,3,6,7,8,9,10,11,19,48] hc ?_ ?_
            ·trivial
            ·repeat'(first|exact trivial|refine eS rfl ?_|refine AB ?_|refine rX [0,1,2,3,6,7,8,9,10,11,19,48] hc ?_ ?_|refine rC ?_ ?_<;>intro AA<;>try(cases AA;done))
             have hJ3:=A0x hJ2 hs2 ht2
             have hn:=lS sm
             refine⟨⟨((q2,tq,aq),V,k-1),hJ3,by simp only;omega,by simp only;rw[hn];omega⟩,by simp only;rw[hn];omega,AC [(101,.nm 101),(102,.nm 102),(103,.nm 103),(104,.nm 104),(3,.nm 3),(7,.nm 7),(15,.nm 15)] rfl rfl ?_ ?_⟩
             ·first|exact eN|refine eM ?_
             ·first|exact eN|refine eM ?_
           ·rw[show (r1 != r2)=true by simpa using he]
            refine rN 3 hc ?_ ?_
            ·trivial
            ·have hla:=fun r:Int=>lU (hJ2.srt r.toNat) (fun a ha=>(hJ2.arr r.toNat a ha).2)
             refine clG hc (u3 h hh hhc q2 tq aq V (k-1) (by omega) (by omega) g1.1 g1.2 g2.1 g2.2 (by rw[hJ2.lt,q2l]) (by rw[hJ2.la,q2l]) (hJ2.tyr r1 g1.1 (by rw[←q2l];exact g1.2)) (hJ2.tyr r2 g2.1 (by rw[←q2l];exact g2.2)) (Nat.le_trans (hla r1) (by omega)) (Nat.le_trans (hla r2) (by omega))) [(1,.nm 101),(2,.nm 102),(3,.nm 103),(4,.nm 104),(5,.nm 3),(6,.nm 7),(7,.nm 15)] [102,103,104,15] ?_ ?_ ?_
             ·first|exact eN|refine eM ?_
             ·simp only[uZ]
              first|exact eN|refine eM ?_
             ·rintro res objs' (⟨e1,rfl,rfl⟩|⟨e1,rfl,W',hi',hw1,hw2,rfl⟩)
              ·refine⟨[(101,.nm 1),(102,.nm 2),(103,.nm 3),(104,.nm 4),(3,.nm 5),(7,.nm 6),(15,.nm 7)],.p .bool false,[(101,.box 93 true [.p II h,.sr 102 T3 0 q2.length,.sr 103 T3 0 tq.length,.sr 104 Ee 0 aq.length]),(102,.arr 3 T3 q2),(103,.arr 3 T3 tq),(104,.arr 59 Ee aq),(3,.box 90 false [.bp 101 [] 0]),(7,.box 135 false [.sr 15 PM 0 (k-1)]),(15,.arr 134 PM V)],rfl,rfl,?_,?_,rfl,rfl,?_⟩
               ·simp only[uZ]
                first|exact eN|refine eM ?_
               ·first|exact eN|refine eM ?_
               ·refine rL [0,1,2,3,6,7,8,9,10,11,19,48] hc ?_ ?_
                ·trivial
                ·repeat'(first|exact trivial|refine eS rfl ?_|refine AB ?_|refine rX [0,1,2,3,6,7,8,9,10,11,19,48] hc ?_ ?_|refine rC ?_ ?_<;>intro AA<;>try(cases AA;done))
                 refine Ev.ent (σ':=⟨[(6,.p .bool false)],lV h q2 tq aq⟩) ?_ (AC [(101,.nm 101),(102,.nm 102),(103,.nm 103),(104,.nm 104)] rfl rfl ?_ ?_)
                 ·exact Bp hc [.tmp 6] rfl (.inl rfl) (.p .bool false) eT (.inr ⟨rfl,⟨q2,tq,aq,rfl⟩,fun X v hX hv=>by
                   have:=(lR hk hJ2 hs2 ht2 hX hv).2.1
                   rw[e1]at this
                   cases this⟩)
                 ·unfold lV
                  first|exact eN|refine eM ?_
                 ·first|exact eN|refine eM ?_
              ·refine⟨[(101,.nm 1),(102,.nm 2),(103,.nm 3),(104,.nm 4),(3,.nm 5),(7,.nm 6),(15,.nm 7)],.p .bool true,[(101,.box 93 true [.p II h,.sr 102 T3 0 (q2.set r2.toNat r1).length,.sr 103 T3 0 (tq.set r1.toNat (Ba h (tq.getD r1.toNat 0) (tq.getD r2.toNat 0)).1).length,.sr 104 Ee 0 (aq.set r1.toNat (Bn (aq.getD r1.toNat []) (aq.getD r2.toNat [])).1).length]),(102,.arr 3 T3 (q2.set r2.toNat r1)),(103,.arr 3 T3 (tq.set r1.toNat (Ba h (tq.getD r1.toNat 0) (tq.getD r2.toNat 0)).1)),(104,.arr 59 Ee (aq.set r1.toNat (Bn (aq.getD r1.toNat []) (aq.getD r2.toNat [])).1)),(3,.box 90 false [.bp 101 [] 0]),(7,.box 135 false [.sr 15 PM 0 hi']),(15,.arr 134 PM W')],rfl,rfl,?_,?_,rfl,rfl,?_⟩
               ·simp only[uZ]
                first|exact eN|refine eM ?_
               ·first|exact eN|refine eM ?_
               ·refine rL [0,1,2,3,6,7,8,9,10,11,19,48] hc ?_ ?_
                ·trivial
                ·repeat'(first|exact trivial|refine eS rfl ?_|refine AB ?_|refine rX [0,1,2,3,6,7,8,9,10,11,19,48] hc ?_ ?_|refine rC ?_ ?_<;>intro AA<;>try(cases AA;done))
                 have hJ3:=u4 hk hJ2 hs2 ht2 he e1
                 rw[←hw2]at hJ3
                 have hn:=lS sm
                 have hn2:=A0y (a:=r1) g2.1 g2.2 ht2.root he
                 have hpr:(Bn (aq.getD r1.toNat []) (aq.getD r2.toNat [])).2.length≤(DT N).length:=Nat.le_trans Rf (hla r1)
                 have hwl:=congrArg List.length hw2
                 rw[List.length_append,List.length_take,List.length_take]at hwl
                 have hm:nR q2*((DT N).length+1)=nR (q2.set r2.toNat r1)*((DT N).length+1)+((DT N).length+1):=by rw[←hn2,Nat.add_mul,Nat.one_mul]
                 rw[hn]at hm
                 refine⟨⟨((q2.set r2.toNat r1,tq.set r1.toNat (Ba h (tq.getD r1.toNat 0) (tq.getD r2.toNat 0)).1,aq.set r1.toNat (Bn (aq.getD r1.toNat []) (aq.getD r2.toNat [])).1),W',hi'),hJ3,hw1,by simp only;omega⟩,by simp only;omega,AC [(101,.nm 101),(102,.nm 102),(103,.nm 103),(104,.nm 104),(3,.nm 3),(7,.nm 7),(15,.nm 15)] rfl rfl ?_ ?_⟩
                 ·first|exact eN|refine eM ?_
                 ·first|exact eN|refine eM ?_
  ·have hk0:k=0:=by
    have:=Int.ofNat_le.1 AA
    omega
   subst hk0
   rw[List.take_zero]at hJ
   refine Ev.ent (σ':=⟨[(6,.p .bool true)],lV h q tq aq⟩) ?_ (AC [(101,.nm 101),(102,.nm 102),(103,.nm 103),(104,.nm 104)] rfl rfl ?_ ?_)
   ·exact Bp hc [.tmp 6] rfl (.inl rfl) (.p .bool true) eT (.inl ⟨rfl,q,tq,aq,rfl,hJ⟩)
   ·unfold lV
    first|exact eN|refine eM ?_
   ·first|exact eN|refine eM ?_
end
/- Plain: the graph of the classes. -/
section
open Classical in
/-- The node that stands for a node. -/
noncomputable def ED (p:List Int) (x:Int):Int:=if h:∃r,Rt p x r then h.choose else x
theorem dP {p:List Int} {x r:Int} (h:Rt p x r):ED p x=r:=by
 unfold ED
 rw[dif_pos ⟨r,h⟩]
 exact(Exists.choose_spec (p:=fun r=>Rt p x r) ⟨r,h⟩).det h
theorem M4 {p:List Int} {rk:Int→Nat} (hp:Fo p rk) {x:Int} (x0:0≤x) (x1:x<(p.length:Int)):Rt p x (ED p x):=by
 obtain⟨r,h,-,-⟩:=hp.root x0 x1
 rw[dP h]
 exact h
noncomputable def quo (p ty:List Int) (ar:List (List (Int×Int))):List AF:=(List.range p.length).map fun k=>(ty.getD k 0,(ar.getD k []).map fun a=>(a.1,ED p a.2))
theorem EO (p ty:List Int) (ar:List (List (Int×Int))):(quo p ty ar).length=p.length:=by simp[quo]
theorem Lh {p ty:List Int} {ar:List (List (Int×Int))} {n:Int} (n0:0≤n) (n1:n<(p.length:Int)):(quo p ty ar).getD n.toNat (0,[])=(ty.getD n.toNat 0,(ar.getD n.toNat []).map fun a=>(a.1,ED p a.2)):=by
 unfold quo
 rw[List.getD_eq_getElem?_getD,List.getElem?_map,List.getElem?_range (by omega)]
 rfl
def Ja (len:Nat) (o:List Int):List Int:=(List.range len).map fun(k:Nat)=>if (k:Int)∈o then ((o.idxOf (k:Int):Nat):Int) else -1
theorem TX (len:Nat) (o:List Int):(Ja len o).length=len:=by simp[Ja]
theorem TY {len:Nat} {o:List Int} {n:Int} (n0:0≤n) (n1:n<(len:Int)):(Ja len o).getD n.toNat 0=if n∈o then (o.idxOf n:Int) else -1:=by
 unfold Ja
 rw[List.getD_eq_getElem?_getD,List.getElem?_map,List.getElem?_range (by omega)]
 simp only[Option.map_some,Option.getD_some]
 rw[show ((n.toNat:Nat):Int)=n by omega]
theorem TZ {o:List Int} {n:Int} (h:n∉o):(o++[n]).idxOf n=o.length:=by
 rw[List.idxOf_append,if_neg h]
 simp
theorem Vp {o t:List Int} {n:Int} (h:n∈o):(o++t).idxOf n=o.idxOf n:=by
 rw[List.idxOf_append,if_pos h]
theorem u6 {len:Nat} {o:List Int} {n:Int} (n0:0≤n) (n1:n<(len:Int)) (h:n∉o):(Ja len o).set n.toNat (o.length:Int)=Ja len (o++[n]):=by
 apply List.ext_getElem
 ·simp[Ja]
 ·intro i h1 h2
  rw[List.getElem_set]
  simp only[Ja,List.getElem_map,List.getElem_range]
  by_cases e:n.toNat=i
  ·rw[if_pos e]
   have e2:(i:Int)=n:=by omega
   rw[e2,if_pos (by simp),TZ h]
  ·rw[if_neg e]
   have e2:(i:Int)≠n:=by omega
   by_cases h3:(i:Int)∈o
   ·rw[if_pos h3,if_pos (by simp[h3]),Vp h3]
   ·rw[if_neg h3,if_neg (by simp[h3,e2])]
theorem Ta {o t:List Int} {x:Int} (h:x∈o):B5 (o++t) x=B5 o x:=by
 unfold B5
 rw[if_pos (List.mem_append_left _ h),if_pos h,Vp h]
theorem Oc {f:List AF} (hf:AY f) (k:Nat):∀(l:List (Int×Int)) (t:List Int),(∀a∈l,0≤a.2∧a.2<(f.length:Int))→MD f t→f.length-t.length≤k →
  (∀a∈l,a.2∈l.foldl (Al f k) t)∧∀x∈l.foldl (Al f k) t,x∈t∨∀a∈(f.getD x.toNat (0,[])).2,a.2∈l.foldl (Al f k) t:=by
 intro l
 induction l with
 | nil=>exact fun t _ _ _=>⟨fun a ha=>(by cases ha),fun x hx=>.inl hx⟩
 | cons a l ih =>
  intro t hl ht hlen
  simp only[List.foldl_cons]
  have hstep:MD f (Al f k t a)∧t <+: Al f k t a∧a.2∈Al f k t a∧∀x∈Al f k t a,x∈t∨∀b∈(f.getD x.toNat (0,[])).2,b.2∈Al f k t a:=by
   unfold Al
   split
   ·rename_i hn
    exact⟨ht,List.prefix_refl _,hn,fun x hx=>.inl hx⟩
   ·rename_i hn
    have q:=hl a (by simp)
    obtain⟨g1,g2⟩:=EA hf k t a.2 ht q.1 q.2 hn
    obtain⟨g3,g4⟩:=HT hf k t a.2 ht q.1 q.2 hn hlen
    exact⟨g1,g2,g3,g4⟩
  obtain⟨g1,g2,g3,g4⟩:=hstep
  have hle:=g2.length_le
  obtain⟨i1,i2⟩:=ih (Al f k t a) (fun b hb=>hl b (by simp[hb])) g1 (by omega)
  obtain⟨_,j2⟩:=Eh (EA hf k) l (Al f k t a) (fun b hb=>hl b (by simp[hb])) g1
  refine⟨fun b hb=>?_,fun x hx=>?_⟩
  ·rcases List.mem_cons.1 hb with rfl|hb
   ·exact j2.subset g3
   ·exact i1 b hb
  ·rcases i2 x hx with hx|hx
   ·rcases g4 x hx with hx|hx
    ·exact .inl hx
    ·exact .inr fun b hb=>j2.subset (hx b hb)
   ·exact .inr hx
def GS (f:List AF) (o o':List Int):List AF:=(o'.drop o.length).map (GF f o')
theorem pB {f:List AF} {o t:List Int} {x:Int} (h:∀a∈(f.getD x.toNat (0,[])).2,a.2∈o):GF f (o++t) x=GF f o x:=by
 unfold GF
 refine congrArg _ (List.map_congr_left fun a ha=>?_)
 unfold Xb
 rw[Ta (h a ha)]
theorem u7 {f:List AF} {o1 o2 o3:List Int} (h12:o1 <+: o2) (h23:o2 <+: o3) (hc:∀x∈o2,x∈o1∨∀a∈(f.getD x.toNat (0,[])).2,a.2∈o2) (hn:o2.Nodup):GS f o1 o2++GS f o2 o3=GS f o1 o3:=by
 obtain⟨t,rfl⟩:=h12
 obtain⟨s,rfl⟩:=h23
 unfold GS
 rw[List.drop_left,List.drop_left,List.append_assoc,List.drop_left,←List.append_assoc,List.map_append]
 congr 1
 refine List.map_congr_left fun x hx=>?_
 refine(pB fun a ha=>?_).symm
 rcases hc x (List.mem_append_right _ hx) with h|h
 ·exact absurd rfl ((List.nodup_append.1 hn).2.2 x h x hx)
 ·exact h a ha
theorem Vq (f:List AF) (o:List Int):GS f o o=[]:=by
 unfold GS
 rw[List.drop_length]
 rfl
theorem Vr {α β:Type} (f:α→β) {l:List α} (d:α) (e:β) {i:Nat} (h:i<l.length):(l.map f).getD i e=f (l.getD i d):=by
 simp[List.getD_eq_getElem?_getD,List.getElem?_eq_getElem h]
structure A4a (Q:List AF) (o1:List Int) (L:List (Int×Int)) (j:Nat) (oo:Nat→List Int):Prop where
 zero:oo 0=o1
 succ:∀i,i<L.length→oo (i+1)=Al Q j (oo i) (0,(L.getD i (0,0)).2)
 dok:∀i,MD Q (oo i)
 pre:∀i,o1 <+: oo i
 nxt:∀i,oo i <+: oo (i+1)
 tgt:∀i,∀a∈L.take i,a.2∈oo i
 cls:∀i,∀x∈oo i,x∈o1∨∀a∈(Q.getD x.toNat (0,[])).2,a.2∈oo i
 last:oo L.length=L.foldl (Al Q j) o1
theorem A0A {Q:List AF} (hQ:AY Q) {o1:List Int} {L:List (Int×Int)} {j:Nat} (hL:∀a∈L,0≤a.2∧a.2<(Q.length:Int)) (h1:MD Q o1) (hj:Q.length-o1.length≤j):A4a Q o1 L j (fun i=>(L.take i).foldl (Al Q j) o1):=by
 have hl:=fun i=>fun a (ha:a∈L.take i)=>hL a (List.mem_of_mem_take ha)
 have hs:∀i,i<L.length→(L.take (i+1)).foldl (Al Q j) o1=Al Q j ((L.take i).foldl (Al Q j) o1) (0,(L.getD i (0,0)).2):=fun i hi=>Ld (Al Q j) L (0,0) o1 hi
 have hd:=fun i=>Eh (EA hQ j) (L.take i) o1 (hl i) h1
 refine⟨rfl,hs,fun i=>(hd i).1,fun i=>(hd i).2,fun i=>?_,fun i=>(Oc hQ j _ o1 (hl i) h1 hj).1,fun i=>(Oc hQ j _ o1 (hl i) h1 hj).2,by simp only[List.take_length]⟩
 by_cases h:i<L.length
 ·show _ <+: (L.take (i+1)).foldl (Al Q j) o1
  rw[hs i h]
  have hr:=hL _ (AD L (0,0) h)
  exact(Eh (EA hQ j) [(0,(L.getD i (0,0)).2)] _ (fun a ha=>by
   have e:a=(0,(L.getD i (0,0)).2):=by simpa using ha
   subst e
   exact hr) (hd i).1).2
 ·show (L.take i).foldl (Al Q j) o1 <+: (L.take (i+1)).foldl (Al Q j) o1
  rw[List.take_of_length_le (by omega),List.take_of_length_le (by omega)]
  exact List.prefix_refl _
theorem A0B {α:Type} (l:List α) (x y:α) (t:List α) {k:Nat} (hk:k=l.length):(l++[x]++t).set k y=l++y :: t:=by
 subst hk
 rw[List.append_assoc,List.set_append_right _ _ (by omega),Nat.sub_self]
 rfl
theorem pC {Q:List AF} {o o':List Int} {n:Int} (h:o++[n] <+: o'):GS Q o o'=GF Q o' n :: GS Q (o++[n]) o':=by
 obtain⟨t,rfl⟩:=h
 unfold GS
 rw[List.drop_left,List.append_assoc,List.drop_left]
 rfl
end
/- Functions of unify.classes: graph's visit. -/
section
def uO (h:AN) (p ty:List Int) (ar:List (List (Int×Int))) (M:List Int) (out:List AF):List (Nat×Obj):=[(101,.box 93 true [.p II h,.sr 102 T3 0 p.length,.sr 103 T3 0 ty.length,.sr 104 Ee 0 ar.length]),(102,.arr 3 T3 p),(103,.arr 3 T3 ty),(104,.arr 59 Ee ar),(105,.box 90 false [.bp 101 [] 0]),(106,.box 30 false [.sr 107 T3 0 M.length]),(107,.arr 3 T3 M),(108,.box 24 true [.sr 109 nS 0 out.length]),(109,.arr 61 nS out),(110,.box 136 false [.clo 77 [105,106,108,110]])]
def A1P (h:AN) (p0 ty:List Int) (ar:List (List (Int×Int))) (k:Nat):Prop:=∀(p o:List Int) (out:List AF) (n:Int),(∃rk,Fo p rk)→EC p0 p→MD (quo p0 ty ar) o→out.length=o.length→0≤n→n<(p0.length:Int)→p0.length-o.length≤k →
 Ca Tryz.prog 77 [.p T3 n,.bp 105 [] 0,.bp 106 [] 0,.bp 108 [] 0,.bp 110 [] 0] (uO h p ty ar (Ja p0.length o) out) [101,105,106,108,110]
  (fun res objs'=>∃p',(∃rk,Fo p' rk)∧EC p0 p'∧res=.p T3 (B5 (Al (quo p0 ty ar) k o (0,ED p0 n)) (ED p0 n))∧objs'=uO h p' ty ar (Ja p0.length (Al (quo p0 ty ar) k o (0,ED p0 n))) (out++GS (quo p0 ty ar) o (Al (quo p0 ty ar) k o (0,ED p0 n))))
theorem Zq (h:AN) {p0 ty:List Int} {ar:List (List (Int×Int))} (hf0:∃rk,Fo p0 rk) (hQ:AY (quo p0 ty ar)) (htl:ty.length=p0.length) (hal:ar.length=p0.length) (har:∀k,∀a∈ar.getD k [],0≤a.2∧a.2<(p0.length:Int)) (k:Nat) (ih:∀j,k=j+1→A1P h p0 ty ar j):A1P h p0 ty ar k:=by
 intro p o out n hfo hsm hdo hol n0 n1 hk
 obtain⟨rk,fo⟩:=hfo
 obtain⟨rk0,fo0⟩:=hf0
 have hr0:=M4 fo0 n0 n1
 have hr1:=FO fo0 n0 n1 hr0
 have hp:=hQ.1
 rw[EO]at hp
 have hml:=TX p0.length o
 generalize hn2:ED p0 n=n2 at *
 refine DJ Tryz.func77 (by kernel_rfl) rfl Tryz.ntmps77 (by simp only[List.length_cons,List.length_nil];omega) (by kernel_rfl) rfl rfl (AH []) AI ?_
 intro w0 K O0 ρ0 hc hok1 hok2
 simp only[uO,BU]
 repeat'(first|exact trivial|refine eS rfl ?_|refine AB ?_|refine rX [0,1,2,3,4,6,7,8,10,18,49,50,51,52] hc ?_ ?_|refine rC ?_ ?_<;>intro AA<;>try(cases AA;done))
 refine cP 2 hc ?_ ?_
 ·trivial
 ·refine rM hc (Xj h ty ar rk fo n0 (by rw[←hsm.1];exact n1)) [(1,.nm 101),(2,.nm 102),(3,.nm 103),(4,.nm 104)] [102,103,104] ?_ ?_ ?_
  ·first|exact eN|refine eM ?_
  ·simp only[Vn]
   first|exact eN|refine eM ?_
  ·rintro _ _ ⟨p1,r1,rfl,rfl,fo1,sm1,rt1⟩
   have sm2:=hsm.trans sm1
   have e:=((hsm.2 n n2 n0 n1).1 hr0).det rt1
   subst e
   refine⟨[(101,.nm 1),(102,.nm 2),(103,.nm 3),(104,.nm 4)],.p T3 n2,[(101,.box 93 true [.p II h,.sr 102 T3 0 p1.length,.sr 103 T3 0 ty.length,.sr 104 Ee 0 ar.length]),(102,.arr 3 T3 p1),(103,.arr 3 T3 ty),(104,.arr 59 Ee ar)],rfl,rfl,?_,?_,rfl,rfl,?_⟩
   ·simp only[Vn]
    first|exact eN|refine eM ?_
   ·first|exact eN|refine eM ?_
   ·refine rL [0,1,2,3,4,6,7,8,10,18,49,50,51,52] hc ?_ ?_
    ·trivial
    ·repeat'(first|exact trivial|refine eS rfl ?_|refine AB ?_|refine rX [0,1,2,3,4,6,7,8,10,18,49,50,51,52] hc ?_ ?_|refine rC ?_ ?_<;>intro AA<;>try(cases AA;done))
     ·exact⟨hr1.1,by rw[hml];exact hr1.2⟩
     ·exact⟨hr1.1,by rw[hml];exact hr1.2⟩
     ·rw[TY hr1.1 hr1.2]at AA
      have hin:n2∈o:=Classical.byContradiction fun e=>by rw[if_neg e]at AA;omega
      have hst:Al (quo p0 ty ar) k o (0,n2)=o:=if_pos hin
      have hid:B5 o n2=(Ja p0.length o).getD n2.toNat 0:=by
       rw[TY hr1.1 hr1.2,if_pos hin]
       unfold B5
       rw[if_pos hin]
      refine Ev.ent (σ':=⟨[(6,.p T3 (B5 o n2))],uO h p1 ty ar (Ja p0.length o) out⟩) ?_ (AC [(101,.nm 101),(102,.nm 102),(103,.nm 103),(104,.nm 104),(105,.nm 105),(106,.nm 106),(107,.nm 107),(108,.nm 108),(109,.nm 109),(110,.nm 110)] rfl rfl ?_ ?_)
      ·refine Bp hc [.tmp 6] rfl (.inl rfl) (.p T3 (B5 o n2)) eT ⟨p1,⟨rk,fo1⟩,sm2,by rw[hst],?_⟩
       rw[hst,Vq,List.append_nil]
       rfl
      ·unfold uO
       first|exact eN|refine eM ?_
      ·first|exact eN|refine eM ?_
       exact hid.symm
     ·exact⟨hr1.1,by rw[hml];exact hr1.2⟩
     ·refine⟨⟨hr1.1,by rw[htl];exact hr1.2⟩,?_⟩
      have:=hdo.len
      rw[EO]at this
      simp only[AO]
      omega
     ·exact⟨hr1.1,by rw[hal];exact hr1.2⟩
     ·rw[TY hr1.1 hr1.2]at AA
      have hno:n2∉o:=fun e=>by rw[if_pos e]at AA;omega
      have hd1:=hdo.snoc hr1.1 (by rw[EO];exact hr1.2) hno
      have hl1:=hd1.len
      rw[EO,List.length_append,List.length_singleton]at hl1
      obtain⟨j,rfl⟩:∃j,k=j+1:=⟨k-1,by omega⟩
      have hih:=ih j rfl
      have hnode:=Lh (p:=p0) (ty:=ty) (ar:=ar) hr1.1 hr1.2
      have hxr:=fun a (ha:a∈ar.getD n2.toNat [])=>har n2.toNat a ha
      have hxl:(ar.getD n2.toNat []).length≤100000:=by
       have:=(hQ.2 _ (AD (quo p0 ty ar) (0,[]) (k:=n2.toNat) (by rw[EO];omega))).1
       rw[hnode,List.length_map]at this
       exact this
      have hLr:∀a∈((ar.getD n2.toNat []).map fun a=>(a.1,ED p0 a.2)),0≤a.2∧a.2<((quo p0 ty ar).length:Int):=fun a ha=>by
       refine A9 hQ (n:=n2) ?_
       rw[hnode]
       exact ha
      obtain⟨oo,hplan⟩:∃oo,A4a (quo p0 ty ar) (o++[n2]) ((ar.getD n2.toNat []).map fun a=>(a.1,ED p0 a.2)) j oo:=⟨_,A0A hQ (j:=j) hLr hd1 (by rw[EO,List.length_append,List.length_singleton];omega)⟩
      have hstep:Al (quo p0 ty ar) (j+1) o (0,n2)=((ar.getD n2.toNat []).map fun a=>(a.1,ED p0 a.2)).foldl (Al (quo p0 ty ar) j) (o++[n2]):=by
       unfold Al
       rw[if_neg hno]
       show QQX (quo p0 ty ar) (j+1) o n2=_
       rw[Da,hnode]
       rfl
      rw[←hplan.last,List.length_map]at hstep
      have hlg:=fun(i:Nat) (hi:i<(ar.getD n2.toNat []).length)=>show (((ar.getD n2.toNat []).map fun a=>(a.1,ED p0 a.2)).getD i (0,0))=(((ar.getD n2.toNat []).getD i (0,0)).1,ED p0 ((ar.getD n2.toNat []).getD i (0,0)).2) by
       exact Vr (fun a:Int×Int=>(a.1,ED p0 a.2)) (0,0) (0,0) hi
      rw[hol,u6 hr1.1 hr1.2 hno]
      generalize hxs:ar.getD n2.toNat []=xs at *
      refine AK (ι:={s:Nat×List Int//s.1≤xs.length∧(∃rk,Fo s.2 rk)∧EC p0 s.2}) (fun s=>⟨[(0,.p T3 n2),(1,.bp 105 [] 0),(2,.bp 106 [] 0),(3,.bp 108 [] 0),(4,.bp 110 [] 0),(7,.p (.int .i64) (o.length:Int)),(8,.sr 64 aO 0 ((xs.take s.1.1).map fun a=>(a.1,B5 (oo s.1.1) (ED p0 a.2))).length),(49,.p Ee xs),(50,.p (.int .i64) (xs.length:Int)),(51,.p (.int .i64) (s.1.1:Int))],uO h s.1.2 ty ar (Ja p0.length (oo s.1.1)) (out++[(ty.getD n2.toNat 0,[])]++GS (quo p0 ty ar) (o++[n2]) (oo s.1.1))++[(64,.arr 63 aO ((xs.take s.1.1).map fun a=>(a.1,B5 (oo s.1.1) (ED p0 a.2))))]⟩) (fun s=>xs.length-s.1.1) ⟨(0,p1),Nat.zero_le _,⟨rk,fo1⟩,sm2⟩ (AC [(101,.nm 101),(102,.nm 102),(103,.nm 103),(104,.nm 104),(105,.nm 105),(106,.nm 106),(107,.nm 107),(108,.nm 108),(109,.nm 109),(110,.nm 110),(64,.nil)] rfl rfl ?_ ?_) (fun s=>?_)
      ·unfold uO
       simp only[hplan.zero,Vq,List.append_nil]
       first|exact eN|refine eM ?_
       exact⟨by rw[TX,TX],hol.symm⟩
      ·first|exact eN|refine eM ?_
      ·obtain⟨⟨i,q⟩,hi,⟨rkq,hfq⟩,hsq⟩:=s
       have hpre:=hplan.pre i
       have hdi:=hplan.dok i
       have hple:=hpre.length_le
       have hdl:=hdi.len
       rw[List.length_append,List.length_singleton]at hple
       rw[EO]at hdl
       have hlen:(out++[(ty.getD n2.toNat 0,[])]++GS (quo p0 ty ar) (o++[n2]) (oo i)).length=(oo i).length:=by
        unfold GS
        simp only[List.length_append,List.length_singleton,List.length_map,List.length_drop]
        omega
       have hlen2:out.length+1+(GS (quo p0 ty ar) (o++[n2]) (oo i)).length=(oo i).length:=by
        rw[←hlen,List.length_append,List.length_append,List.length_singleton]
       simp only[uO]
       repeat'(first|exact trivial|refine eS rfl ?_|refine AB ?_|refine rX [0,1,2,3,4,6,7,8,10,18,49,50,51,52] hc ?_ ?_|refine rC ?_ ?_<;>intro AA<;>try(cases AA;done))
       ·exact AA
       ·have hiL:i<xs.length:=Int.ofNat_lt.1 AA
        have hxi:=hxr _ (AD xs (0,0) hiL)
        have hsuc:=hplan.succ i (by rw[List.length_map];exact hiL)
        rw[hlg i hiL]at hsuc
        have happ:=u7 hpre (hplan.nxt i) (hplan.cls i) hdi.nd
        have hpre2:=hplan.pre (i+1)
        have hlen3:out.length+1+(GS (quo p0 ty ar) (o++[n2]) (oo (i+1))).length=(oo (i+1)).length:=by
         have h1:=hpre2.length_le
         rw[List.length_append,List.length_singleton]at h1
         unfold GS
         simp only[List.length_append,List.length_singleton,List.length_map,List.length_drop]
         omega
        have eA:((xs.take i).map fun a=>(a.1,B5 (oo i) (ED p0 a.2)))++[((xs.getD i (0,0)).1,B5 (oo (i+1)) (ED p0 (xs.getD i (0,0)).2))]=(xs.take (i+1)).map fun a=>(a.1,B5 (oo (i+1)) (ED p0 a.2)):=by
         rw[Ef _ xs (0,0) hiL]
         congr 1
         refine List.map_congr_left fun a ha=>?_
         obtain⟨t,ht⟩:=hplan.nxt i
         rw[←ht,Ta (hplan.tgt i (a.1,ED p0 a.2) (by rw[←List.map_take];exact List.mem_map.2 ⟨a,ha,rfl⟩))]
        rw[hlen2]
        refine IH drawsAny hc 10 [([3,4,5],6),([1,2],7),([],8),([0],9)] [] (by kernel_rfl) (UN ?_ ?_)
        ·trivial
        ·refine mxC hc (hih q (oo i) (out++[(ty.getD n2.toNat 0,[])]++GS (quo p0 ty ar) (o++[n2]) (oo i)) (xs.getD i (0,0)).2 ⟨rkq,hfq⟩ hsq hdi hlen hxi.1 hxi.2 (by omega)) [(101,.nm 101),(102,.nm 102),(103,.nm 103),(104,.nm 104),(105,.nm 105),(106,.nm 106),(107,.nm 107),(108,.nm 108),(109,.nm 109),(110,.nm 110)] [102,103,104,107,109] ?_ ?_ ?_
         ·first|exact eN|refine eM ?_
         ·simp only[uO]
          first|exact eN|refine eM ?_
          exact hlen2.symm
         ·rintro _ _ ⟨p',⟨rk',fo'⟩,sm',rfl,rfl⟩
          rw[←hsuc,List.append_assoc _ _ (GS _ (oo i) _),happ]
          refine⟨[(101,.nm 101),(102,.nm 102),(103,.nm 103),(104,.nm 104),(105,.nm 105),(106,.nm 106),(107,.nm 107),(108,.nm 108),(109,.nm 109),(110,.nm 110)],.p T3 (B5 (oo (i+1)) (ED p0 (xs.getD i (0,0)).2)),[(101,.box 93 true [.p II h,.sr 102 T3 0 p'.length,.sr 103 T3 0 ty.length,.sr 104 Ee 0 ar.length]),(102,.arr 3 T3 p'),(103,.arr 3 T3 ty),(104,.arr 59 Ee ar),(105,.box 90 false [.bp 101 [] 0]),(106,.box 30 false [.sr 107 T3 0 (Ja p0.length (oo (i+1))).length]),(107,.arr 3 T3 (Ja p0.length (oo (i+1)))),(108,.box 24 true [.sr 109 nS 0 (oo (i+1)).length]),(109,.arr 61 nS (out++[(ty.getD n2.toNat 0,[])]++GS (quo p0 ty ar) (o++[n2]) (oo (i+1)))),(110,.box 136 false [.clo 77 [105,106,108,110]])],rfl,rfl,?_,?_,rfl,rfl,rfl,?_⟩
          ·simp only[uO]
           first|exact eN|refine eM ?_
           exact hlen3
          ·first|exact eN|refine eM ?_
          ·refine UN ?_ ?_
           ·trivial
           ·refine Xw hc [] ?_ ?_
            ·trivial
            ·refine UN ?_ ?_
             ·trivial
             ·refine Xw hc [] ?_ ?_
              ·trivial
              ·refine UN ?_ ?_
               ·trivial
               ·refine Xw hc [64] ?_ ?_
                ·rw[List.length_map,List.length_take]
                 simp only[AO]
                 omega
                ·refine wM [0,1,2,3,4,6,7,8,10,18,49,50,51,52] hc ?_ ?_ ?_
                 ·trivial
                 ·trivial
                 ·repeat'(first|exact trivial|refine eS rfl ?_|refine AB ?_|refine rX [0,1,2,3,4,6,7,8,10,18,49,50,51,52] hc ?_ ?_|refine rC ?_ ?_<;>intro AA<;>try(cases AA;done))
                  ·exact eV
                  ·refine⟨⟨(i+1,p'),hiL,⟨rk',fo'⟩,sm'⟩,by simp only;omega,AC [(101,.nm 101),(102,.nm 102),(103,.nm 103),(104,.nm 104),(105,.nm 105),(106,.nm 106),(107,.nm 107),(108,.nm 108),(109,.nm 109),(110,.nm 110),(64,.nm 64)] rfl rfl ?_ ?_⟩
                   ·simp only[uO,←eA]
                    first|exact eN|refine eM ?_
                    exact hlen3.symm
                   ·simp only[←eA]
                    first|exact eN|refine eM ?_
       ·exact Int.ofNat_lt.2 (by omega)
       ·have hie:i=xs.length:=by
         have:=Int.ofNat_le.1 AA
         omega
        subst hie
        obtain⟨t,ht⟩:=hpre
        have hid:B5 (oo xs.length) n2=(o.length:Int):=by
         rw[←ht,Ta (by simp)]
         unfold B5
         rw[if_pos (by simp),TZ hno]
        have hnd:GF (quo p0 ty ar) (oo xs.length) n2=(ty.getD n2.toNat 0,xs.map fun a=>(a.1,B5 (oo xs.length) (ED p0 a.2))):=by
         unfold GF
         rw[hnode]
         simp only[List.map_map]
         rfl
        have hgd:(out++[(ty.getD n2.toNat 0,([]:List (Int×Int)))]++GS (quo p0 ty ar) (o++[n2]) (oo xs.length)).getD o.length (0,[])=(ty.getD n2.toNat 0,[]):=by
         rw[←hol]
         simp[List.getD_eq_getElem?_getD]
        have hout:=pC (Q:=quo p0 ty ar) (hplan.pre xs.length)
        rw[hnd]at hout
        rw[List.take_length,hgd,A0B out _ _ _ hol.symm,←hout]
        have hlen4:out.length+1+(GS (quo p0 ty ar) (o++[n2]) (oo xs.length)).length=(out++GS (quo p0 ty ar) o (oo xs.length)).length:=by
         rw[hout]
         simp only[List.length_append,List.length_cons]
         omega
        rw[hlen4]
        refine Ev.ent (σ':=⟨[(6,.p T3 (B5 (oo xs.length) n2))],uO h q ty ar (Ja p0.length (oo xs.length)) (out++GS (quo p0 ty ar) o (oo xs.length))⟩) ?_ (AC [(101,.nm 101),(102,.nm 102),(103,.nm 103),(104,.nm 104),(105,.nm 105),(106,.nm 106),(107,.nm 107),(108,.nm 108),(109,.nm 109),(110,.nm 110)] rfl rfl ?_ ?_)
        ·exact Bp hc [.tmp 6] rfl (.inl rfl) (.p T3 (B5 (oo xs.length) n2)) eT ⟨q,⟨rkq,hfq⟩,hsq,by rw[hstep],by rw[hstep];rfl⟩
        ·unfold uO
         first|exact eN|refine eM ?_
        ·first|exact eN|refine eM ?_
         exact hid.symm
theorem u9 (h:AN) {p0 ty:List Int} {ar:List (List (Int×Int))} (hf0:∃rk,Fo p0 rk) (hQ:AY (quo p0 ty ar)) (htl:ty.length=p0.length) (hal:ar.length=p0.length) (har:∀k,∀a∈ar.getD k [],0≤a.2∧a.2<(p0.length:Int)):∀k,A1P h p0 ty ar k
 | 0=>Zq h hf0 hQ htl hal har 0 (fun j e=>by cases e)
 | k+1=>Zq h hf0 hQ htl hal har (k+1) (fun j e=>by cases e;exact u9 h hf0 hQ htl hal har k)
end
/- Functions of unify.classes: graph. -/
section
theorem vA (len:Nat):Ja len []=List.replicate len (-1):=by
 unfold Ja
 apply List.ext_getElem
 ·simp
 ·intro i h1 h2
  simp
theorem vB {α:Type} (x y:α) {n i:Nat} (h:i<n):(List.replicate i x++List.replicate (n-i) y).set i x=List.replicate (i+1) x++List.replicate (n-(i+1)) y:=by
 obtain⟨m,hm⟩:∃m,n-i=m+1:=⟨n-i-1,by omega⟩
 have hm2:n-(i+1)=m:=by omega
 rw[hm,hm2,List.set_append_right _ _ (by simp),List.length_replicate,Nat.sub_self,List.replicate_succ,List.set_cons_zero,List.replicate_succ',List.append_assoc]
 rfl
theorem vC (h:AN) {p ty:List Int} {ar:List (List (Int×Int))} (hf0:∃rk,Fo p rk) (hQ:AY (quo p ty ar)) (htl:ty.length=p.length) (hal:ar.length=p.length) (har:∀k,∀a∈ar.getD k [],0≤a.2∧a.2<(p.length:Int)) {r:Int} (r0:0≤r) (r1:r<(p.length:Int)) :
  Ca Tryz.prog 52 [.bp 101 [] 0,.p T3 r] (lV h p ty ar) [101]
  (fun res _=>res=.p FW (AX (quo p ty ar) (ED p r))):=by
 have hvis:=u9 h hf0 hQ htl hal har p.length p [] [] r hf0 (EC.refl p) ⟨by simp,fun x hx=>by cases hx⟩ rfl r0 r1 (by simp)
 have hcan:GS (quo p ty ar) [] (Al (quo p ty ar) p.length [] (0,ED p r))=AX (quo p ty ar) (ED p r):=by
  have e:Al (quo p ty ar) p.length [] (0,ED p r)=QQX (quo p ty ar) p.length [] (ED p r):=if_neg (by simp)
  rw[e]
  unfold GS AX
  rw[EO]
  rfl
 rw[List.nil_append,hcan,vA]at hvis
 have hpl:=hQ.1
 rw[EO]at hpl
 generalize AX (quo p ty ar) (ED p r)=G at *
 generalize B5 _ _=z at hvis
 generalize Ja _ _=M at hvis
 refine DJ Tryz.func52 (by kernel_rfl) rfl Tryz.ntmps52 (by simp only[List.length_cons,List.length_nil];omega) (by kernel_rfl) rfl rfl (AH []) AI ?_
 intro w0 K O0 ρ0 hc hok1 hok2
 simp only[lV,BU]
 repeat'(first|exact trivial|refine eS rfl ?_|refine AB ?_|refine rX [0,1,2,4,5,6,7,8,16,17,18] hc ?_ ?_|refine rC ?_ ?_<;>intro AA<;>try(cases AA;done))
 ·simp only[AO];omega
 ·refine AK (ι:={i:Nat//i≤p.length}) (fun i=>⟨[(0,.bp 101 [] 0),(1,.p T3 r),(2,.bp 2 [] 0),(4,.bp 4 [] 0),(5,.bp 5 [] 0),(16,.p (.int .i64) (p.length:Int)),(17,.p (.int .i64) (i.1:Int))],[(5,.box 30 false [.sr 14 T3 0 p.length]),(14,.arr 3 T3 (List.replicate i.1 (-1)++List.replicate (p.length-i.1) 0)),(4,.box 24 true [.raw (.slice none 0 0)]),(2,.box 90 false [.bp 101 [] 0]),(101,.box 93 true [.p II h,.sr 102 T3 0 p.length,.sr 103 T3 0 ty.length,.sr 104 Ee 0 ar.length]),(102,.arr 3 T3 p),(103,.arr 3 T3 ty),(104,.arr 59 Ee ar)]⟩) (fun i=>p.length-i.1) ⟨0,by omega⟩ (AC [(5,.nm 5),(14,.nm 14),(4,.nm 4),(2,.nm 2),(101,.nm 101),(102,.nm 102),(103,.nm 103),(104,.nm 104)] rfl rfl ?_ ?_) (fun i=>?_)
  ·first|exact eN|refine eM ?_
   rfl
  ·first|exact eN|refine eM ?_
  ·obtain⟨i,hi⟩:=i
   simp only
   repeat'(first|exact trivial|refine eS rfl ?_|refine AB ?_|refine rX [0,1,2,4,5,6,7,8,16,17,18] hc ?_ ?_|refine rC ?_ ?_<;>intro AA<;>try(cases AA;done))
   ·exact AA
   ·exact eV
   ·have hip:i<p.length:=Int.ofNat_lt.1 AA
    refine⟨⟨i+1,hip⟩,by simp only;omega,AC [(5,.nm 5),(14,.nm 14),(4,.nm 4),(2,.nm 2),(101,.nm 101),(102,.nm 102),(103,.nm 103),(104,.nm 104)] rfl rfl ?_ ?_⟩
    ·first|exact eN|refine eM ?_
     exact vB _ _ hip
    ·first|exact eN|refine eM ?_
   ·have hie:i=p.length:=by
     have:=Int.ofNat_le.1 AA
     omega
    subst hie
    rw[Nat.sub_self,List.replicate_zero,List.append_nil]
    refine cP 2 hc ?_ ?_
    ·trivial
    ·refine rM hc (hvis) [(101,.nm 101),(102,.nm 102),(103,.nm 103),(104,.nm 104),(105,.nm 2),(106,.nm 5),(107,.nm 14),(108,.nm 7),(109,.nil),(110,.nm 8)] [102,103,104,14] ?_ ?_ ?_
     ·first|exact eN|refine eM ?_
     ·simp only[uO]
      first|exact eN|refine eM ?_
      exact List.length_replicate.symm
     ·rintro _ _ ⟨p',hfo',sm',rfl,rfl⟩
      refine⟨[(101,.nm 101),(102,.nm 102),(103,.nm 103),(104,.nm 104),(2,.nm 105),(5,.nm 106),(14,.nm 107),(7,.nm 108),(120,.nm 109),(8,.nm 110)],.p T3 z,[(101,.box 93 true [.p II h,.sr 102 T3 0 p'.length,.sr 103 T3 0 ty.length,.sr 104 Ee 0 ar.length]),(102,.arr 3 T3 p'),(103,.arr 3 T3 ty),(104,.arr 59 Ee ar),(2,.box 90 false [.bp 101 [] 0]),(5,.box 30 false [.sr 14 T3 0 M.length]),(14,.arr 3 T3 M),(7,.box 24 true [.sr 120 nS 0 G.length]),(120,.arr 61 nS G),(8,.box 136 false [.clo 77 [2,5,7,8]])],rfl,rfl,?_,?_,rfl,rfl,EJ ?_⟩
      ·simp only[uO]
       first|exact eN|refine eM ?_
      ·first|exact eN|refine eM ?_
      ·refine Gb [120] ?_
       repeat'(first|exact trivial|refine eS rfl ?_|refine AB ?_|refine rX [0,1,2,4,5,6,7,8,16,17,18] hc ?_ ?_|refine rC ?_ ?_<;>intro AA<;>try(cases AA;done))
       exact Bp hc [.cell 4 24] rfl (.inl rfl) (.p FW G) eT rfl
end
/- Plain: the graph of the classes is the most general structure into which the nodes go so that the pairs are one. -/
section
structure A4b (f:List AF) (r:Int) (o:List Int):Prop where
 ok:MD f o
 zero:o.getD 0 0=r∧0<o.length
 cl:∀n∈o,∀a∈AU f n,a.2∈o
theorem lW {f:List AF} (hf:AY f) {r:Int} (r0:0≤r) (r1:r<(f.length:Int)):A4b f r (QQX f f.length [] r):=by
 have h1:=EA hf f.length [] r (Gd f) r0 r1 (by simp)
 have h2:=HT hf f.length [] r (Gd f) r0 r1 (by simp) (by simp)
 have h3:[r] <+: QQX f f.length [] r:=by
  obtain⟨k,hk⟩:∃k,f.length=k+1:=⟨f.length-1,by omega⟩
  rw[hk,Da]
  exact(Eh (EA hf k) _ _ (fun a ha=>A9 hf ha) ((Gd f).snoc r0 r1 (by simp))).2
 refine⟨h1.1,?_,fun n hn a ha=>?_⟩
 ·obtain⟨t,ht⟩:=h3
  rw[←ht]
  exact⟨rfl,by simp⟩
 ·rcases h2.2 n hn with h|h
  ·cases h
  ·exact h a ha
theorem Zr {f:List AF} {r:Int} {i:Nat} (hi:i<(QQX f f.length [] r).length):(AX f r).getD i (0,[])=GF f (QQX f f.length [] r) ((QQX f f.length [] r).getD i 0):=by
 unfold AX
 simp[List.getD_eq_getElem?_getD,hi]
theorem Zs (f:List AF) (r:Int):(AX f r).length=(QQX f f.length [] r).length:=by simp[AX]
def CW (f g:List AF):List AF:=f++g.map fun x=>(x.1,DS f.length x.2)
theorem Fs (f g:List AF):(CW f g).length=f.length+g.length:=by simp[CW]
theorem M5 {f g:List AF} {x:Int} (x0:0≤x) (x1:x<(f.length:Int)):(CW f g).getD x.toNat (0,[])=f.getD x.toNat (0,[]):=by
 unfold CW
 rw[List.getD_eq_getElem?_getD,List.getD_eq_getElem?_getD,List.getElem?_append_left (by omega)]
theorem Ku {f g:List AF} {y:Int} (y0:0≤y) (y1:y<(g.length:Int)):(CW f g).getD ((f.length:Int)+y).toNat (0,[])=((g.getD y.toNat (0,[])).1,DS f.length (g.getD y.toNat (0,[])).2):=by
 unfold CW
 have e:((f.length:Int)+y).toNat=f.length+y.toNat:=by omega
 rw[e,List.getD_eq_getElem?_getD,List.getElem?_append_right (by omega),Nat.add_sub_cancel_left]
 rw[←List.getD_eq_getElem?_getD]
 exact Vr (fun x:AF=>(x.1,DS f.length x.2)) (0,[]) (0,[]) (by omega)
theorem lX {n:Nat} {p:List Int} {x y:Int} (h:EG n p [] x y):ED p x=ED p y:=by
 induction h with
 | cls _ _ _ _ h g=>rw[dP h,dP g]
 | wt h=>cases h
 | symm _ ih=>exact ih.symm
 | trans _ _ ih1 ih2=>exact ih1.trans ih2
noncomputable abbrev Pm (p ty:List Int) (ar:List (List (Int×Int))):List Int:=QQX (quo p ty ar) (quo p ty ar).length [] (ED p 0)
structure A1a (h:AN) (N:List AF) (P:List (Int×Int)) (U:List AF) (v:Int→Int):Prop where
 good:AY U
 pos:0<U.length
 str:∀x∈U,Rg x.2
 feat:∀x∈U,∀a∈x.2,a.1∈DT N
 ty:Ge h U
 ro:RO U
 zero:v 0=0
 proj:pA h N P U v
 least:∀X w,Ge h X→pA h N P X w→w 0=0→∃m,Qr h U X m
 len:U.length≤N.length
section
variable {h:AN} {N:List AF} {P:List (Int×Int)} {p ty:List Int} {ar:List (List (Int×Int))}
theorem Pn (hj:JI h N P p ty ar []) (hQ:AY (quo p ty ar)) (hN:0<N.length):A4b (quo p ty ar) (ED p 0) (Pm p ty ar):=by
 obtain⟨rk,fo⟩:=hj.fo
 have lp:=hj.lp
 have:=FO fo (x:=0) (by omega) (by omega) (M4 fo (by omega) (by omega))
 exact lW hQ this.1 (by rw[EO];exact this.2)
theorem Tc (hj:JI h N P p ty ar []) (hQ:AY (quo p ty ar)) (hN:0<N.length):ED p 0∈Pm p ty ar:=by
 have ho:=Pn hj hQ hN
 have:=AD (Pm p ty ar) 0 ho.zero.2
 rw[ho.zero.1]at this
 exact this
theorem vD (hj:JI h N P p ty ar []) {x y:Int} (hq:(x,y)∈P) (hx:ED p x∈Pm p ty ar):ED p y∈Pm p ty ar:=by
 rw[←lX (hj.sp (x,y) hq)]
 exact hx
theorem dQ (hj:JI h N P p ty ar []) (hQ:AY (quo p ty ar)) (hN:0<N.length) {x:Int} (x0:0≤x) (x1:x<(N.length:Int)) (hx:ED p x∈Pm p ty ar) {a:Int×Int} (ha:a∈AU N x):ED p a.2∈Pm p ty ar:=by
 obtain⟨rk,fo⟩:=hj.fo
 have lp:=hj.lp
 obtain⟨t,ht,he⟩:=hj.sa x _ x0 x1 (M4 fo x0 (by omega)) a ha
 rw[lX he]
 have hr:=FO fo x0 (by omega) (M4 fo x0 (by omega))
 refine(Pn hj hQ hN).cl _ hx (a.1,ED p t) ?_
 rw[AU,Lh hr.1 hr.2]
 exact List.mem_map.2 ⟨(a.1,t),ht,rfl⟩
def pD (N:List AF) (k:Nat) (g:List AF):Prop:=∀i:Int,0≤i→i<(g.length:Int)→(k:Int)+i<(N.length:Int)∧N.getD ((k:Int)+i).toNat (0,[])=((g.getD i.toNat (0,[])).1,DS k (g.getD i.toNat (0,[])).2)
theorem Td (hj:JI h N P p ty ar []) (hQ:AY (quo p ty ar)) (hN:0<N.length) {k:Nat} {g:List AF} (hc:pD N k g) (rg:RO g) (hk:ED p (k:Int)∈Pm p ty ar):∀(n:Nat) (i:Int),i.toNat≤n→0≤i→i<(g.length:Int)→ED p ((k:Int)+i)∈Pm p ty ar:=by
 intro n
 induction n with
 | zero =>
  intro i hn i0 i1
  have:i=0:=by omega
  subst this
  rw[Int.add_zero]
  exact hk
 | succ n ih =>
  intro i hn i0 i1
  by_cases hi:i=0
  ·subst hi
   rw[Int.add_zero]
   exact hk
  ·obtain⟨j,j0,j1,a,ha,rfl⟩:=rg i (by omega) i1
   have hcj:=hc j j0 (by omega)
   have:=dQ hj hQ hN (x:=(k:Int)+j) (by omega) hcj.1 (ih j (by omega) j0 (by omega)) (a:=(a.1,a.2+(k:Int))) (by
    rw[AU,hcj.2]
    exact List.mem_map.2 ⟨a,ha,rfl⟩)
   rw[Int.add_comm]
   exact this
end
theorem Zt {h:AN} {N:List AF} {P:List (Int×Int)} {U:List AF} {v:Int→Int} (hx:pA h N P U v) {k:Nat} {g:List AF} (hc:pD N k g) (hz:v (k:Int)=0):Qr h g U fun i=>v ((k:Int)+i):=by
 refine⟨by show v ((k:Int)+0)=0;rw[Int.add_zero];exact hz,fun i i0 i1=>?_,fun i i0 i1=>?_,fun i i0 i1 a ha=>?_⟩
 ·exact hx.rng _ (by omega) (hc i i0 i1).1
 ·have:=hx.ty _ (by omega) (hc i i0 i1).1
  rw[(hc i i0 i1).2]at this
  exact this
 ·have:=hx.arc _ (by omega) (hc i i0 i1).1 (a.1,a.2+(k:Int)) (by
   rw[AU,(hc i i0 i1).2]
   exact List.mem_map.2 ⟨a,ha,rfl⟩)
  rw[Int.add_comm (k:Int) a.2]
  exact this
theorem Ri {h:AN} {g X:List AF} {m:Int→Int} (hm:Qr h g X m):pA h g [] X m:=⟨hm.rng,hm.ty,hm.arc,fun q hq=>by cases hq⟩
theorem Zu {h:AN} {f g X:List AF} (hf:AY f) (hg:AY g) {v w:Int→Int} (h1:pA h f [] X v) (h2:pA h g [] X w):pA h (CW f g) [] X (fun x=>if x<(f.length:Int) then v x else w (x-(f.length:Int))):=by
 have hl:=Fs f g
 refine⟨fun x x0 x1=>?_,fun x x0 x1=>?_,fun x x0 x1 a ha=>?_,fun q hq=>by cases hq⟩
 ·rw[hl]at x1
  show _∧_
  try simp only
  split
  ·exact h1.rng x x0 (by assumption)
  ·exact h2.rng _ (by omega) (by omega)
 ·rw[hl]at x1
  try simp only
  by_cases hx:x<(f.length:Int)
  ·rw[if_pos hx,M5 x0 hx]
   exact h1.ty x x0 hx
  ·rw[if_neg hx]
   have:=Ku (f:=f) (g:=g) (y:=x-(f.length:Int)) (by omega) (by omega)
   rw[show (f.length:Int)+(x-(f.length:Int))=x by omega]at this
   rw[this]
   exact h2.ty _ (by omega) (by omega)
 ·rw[hl]at x1
  try simp only
  by_cases hx:x<(f.length:Int)
  ·rw[if_pos hx]
   rw[AU,M5 x0 hx]at ha
   have hr:=A9 hf ha
   rw[if_pos hr.2]
   exact h1.arc x x0 hx a ha
  ·rw[if_neg hx]
   have:=Ku (f:=f) (g:=g) (y:=x-(f.length:Int)) (by omega) (by omega)
   rw[show (f.length:Int)+(x-(f.length:Int))=x by omega]at this
   rw[AU,this]at ha
   obtain⟨b,hb,rfl⟩:=List.mem_map.1 ha
   have hr:=A9 hg hb
   rw[if_neg (by simp only;omega)]
   try simp only
   rw[show b.2+(f.length:Int)-(f.length:Int)=b.2 by omega]
   exact h2.arc _ (by omega) (by omega) b hb
theorem vE {h:AN} {N X:List AF} {P:List (Int×Int)} {v:Int→Int} (h1:pA h N [] X v) (he:∀q∈P,v q.1=v q.2):pA h N P X v:=⟨h1.rng,h1.ty,h1.arc,he⟩
theorem Vs {N f g:List AF} {k:Nat} (h:pD f k N):pD (CW f g) k N:=by
 intro i i0 i1
 have:=h i i0 i1
 rw[Fs,M5 (by omega) this.1]
 exact⟨by omega,this.2⟩
theorem Vt {f:List AF}:pD f 0 f:=by
 intro i i0 i1
 rw[show ((0:Nat):Int)+i=i by omega]
 refine⟨i1,?_⟩
 have:DS 0 (f.getD i.toNat (0,[])).2=(f.getD i.toNat (0,[])).2:=by
  unfold DS
  rw[List.map_congr_left (g:=id) (fun a _=>by show (a.1,a.2+((0:Nat):Int))=a;rw[Int.natCast_zero,Int.add_zero]),List.map_id]
 rw[this]
theorem Te {f g:List AF}:pD (CW f g) f.length g:=by
 intro i i0 i1
 rw[Fs,Ku i0 i1]
 exact⟨by omega,rfl⟩
set_option maxHeartbeats 1000000 in
theorem A1Q {h:AN} {N:List AF} {P:List (Int×Int)} {p ty:List Int} {ar:List (List (Int×Int))} (hj:JI h N P p ty ar []) (hQ:AY (quo p ty ar)) (hN:0<N.length) (hall:∀x,0≤x→x<(N.length:Int)→ED p x∈Pm p ty ar) :
  A1a h N P (AX (quo p ty ar) (ED p 0)) (fun x=>B5 (Pm p ty ar) (ED p x)):=by
 have ho:=Pn hj hQ hN
 have hin0:=Tc hj hQ hN
 obtain⟨nty,⟨rk,fo⟩,lp,lt,la,wr,tyr,arr,srt,sp,st,sa,co⟩:=hj
 have hql:=EO p ty ar
 have hrt:=fun {x:Int} (x0:0≤x) (x1:x<(N.length:Int))=>M4 fo x0 (by rw[lp];exact x1)
 have hrr:=fun {x:Int} (x0:0≤x) (x1:x<(N.length:Int))=>FO fo x0 (by rw[lp];exact x1) (hrt x0 x1)
 have hUl:=Zs (quo p ty ar) (ED p 0)
 have hUg:=fun i=>Zr (f:=quo p ty ar) (r:=ED p 0) (i:=i)
 have hqa:∀x:Int,0≤x→x<(N.length:Int)→AU (quo p ty ar) x=(ar.getD x.toNat []).map fun a=>(a.1,ED p a.2):=fun x x0 x1=>by
  rw[AU,Lh x0 (by rw[lp];exact x1)]
 have hroots:∀x∈Pm p ty ar,(0≤x∧x<(N.length:Int))∧Dq p x=x:=by
  have hiso:Iso (quo p ty ar) (quo p ty ar) id (fun x=>(0≤x∧x<(N.length:Int))∧Dq p x=x):=by
   refine⟨fun i _=>by simp,fun i hi a ha=>?_,fun i j _ _ e=>e⟩
   rw[hqa i hi.1.1 hi.1.2]at ha
   obtain⟨b,hb,rfl⟩:=List.mem_map.1 ha
   have hr:=(arr _ b hb).1
   have:=hrr hr.1 hr.2
   rw[lp]at this
   exact⟨this,(hrt hr.1 hr.2).root⟩
  have hr0:=hrr (x:=0) (by omega) (by omega)
  rw[lp]at hr0
  exact(Re hiso _ [] _ (fun x hx=>by cases hx) ⟨hr0,(hrt (x:=0) (by omega) (by omega)).root⟩).2
 have hlead:=fun(q:Nat)=>TW hQ (quo p ty ar).length [] (ED p 0) (Gd _) (hrr (x:=0) (by omega) (by omega)).1 (by rw[hql];exact(hrr (x:=0) (by omega) (by omega)).2) (by simp) q
 unfold Pm at ho hin0 hall hroots ⊢
 generalize hU:AX (quo p ty ar) (ED p 0)=U at *
 generalize hod:QQX (quo p ty ar) (quo p ty ar).length [] (ED p 0)=o at *
 have hmem:∀i:Int,0≤i→i<(o.length:Int)→o.getD i.toNat 0∈o∧B5 o (o.getD i.toNat 0)=i:=fun i i0 i1=>by
  refine⟨AD o 0 (by omega),?_⟩
  rw[Iw ho.ok.nd (by omega)]
  omega
 have hnode:∀x∈o,U.getD (B5 o x).toNat (0,[])=(ty.getD x.toNat 0,(ar.getD x.toNat []).map fun a=>(a.1,B5 o (ED p a.2))):=fun x hx=>by
  have hz:=GH hx
  have hr:=(hroots x hx).1
  rw[hUg _ (by omega),hz.2.2]
  unfold GF
  rw[Lh hr.1 (by rw[lp];exact hr.2),List.map_map]
  rfl
 have hcl:∀x∈o,∀a∈ar.getD x.toNat [],ED p a.2∈o:=fun x hx a ha=>by
  have hr:=(hroots x hx).1
  exact ho.cl x hx (a.1,ED p a.2) (by rw[hqa x hr.1 hr.2];exact List.mem_map.2 ⟨a,ha,rfl⟩)
 have hstr:∀k,Rg ((ar.getD k []).map fun a=>(a.1,B5 o (ED p a.2))):=fun k=>by
  unfold Rg
  rw[List.pairwise_map]
  exact srt k
 have hUm:∀x∈U,∃y∈o,x=(ty.getD y.toNat 0,(ar.getD y.toNat []).map fun a=>(a.1,B5 o (ED p a.2))):=fun x hx=>by
  obtain⟨i,hi,rfl⟩:=DZ (0,[]) hx
  have h1:=hmem (i:Int) (by omega) (by omega)
  refine⟨_,h1.1,?_⟩
  rw[←hnode _ h1.1,h1.2]
  rw[Int.toNat_natCast]
 have hi0:B5 o (ED p 0)=0:=by
  have:=Iw ho.ok.nd ho.zero.2
  rw[ho.zero.1]at this
  exact this
 have hlen:=ho.ok.len
 have hQ1:=hQ.1
 refine⟨⟨by omega,fun x hx=>?_⟩,by rw[hUl];exact ho.zero.2,fun x hx=>?_,fun x hx a ha=>?_,fun x hx=>?_,fun i i0 i1=>?_,hi0,⟨fun i i0 i1=>?_,fun i i0 i1=>?_,fun i i0 i1 a ha=>?_,fun q hq=>?_⟩,fun X v hX hv hv0=>?_,by omega⟩
 ·obtain⟨y,hy,rfl⟩:=hUm x hx
  have hr:=(hroots y hy).1
  refine⟨?_,fun a ha=>?_⟩
  ·have:=(hQ.2 _ (AD (quo p ty ar) (0,[]) (k:=y.toNat) (by omega))).1
   rw[Lh hr.1 (by rw[lp];exact hr.2),List.length_map]at this
   simp only[List.length_map]
   exact this
  ·obtain⟨b,hb,rfl⟩:=List.mem_map.1 ha
   have:=GH (hcl y hy b hb)
   rw[hUl]
   exact⟨this.1,this.2.1⟩
 ·obtain⟨y,hy,rfl⟩:=hUm x hx
  exact hstr _
 ·obtain⟨y,hy,rfl⟩:=hUm x hx
  obtain⟨b,hb,rfl⟩:=List.mem_map.1 ha
  exact(arr _ b hb).2
 ·obtain⟨y,hy,rfl⟩:=hUm x hx
  have hr:=(hroots y hy).1
  exact tyr y hr.1 hr.2
 · -- in order
  obtain⟨j,j1,a,ha,e⟩:=hlead i.toNat (by simp only[List.length_nil];omega) (by omega)
  have h1:=hmem (j:Int) (by omega) (by omega)
  have h2:=hmem i (by omega) (by omega)
  rw[Int.toNat_natCast]at h1
  have hr:=(hroots _ h1.1).1
  rw[hqa _ hr.1 hr.2]at ha
  obtain⟨b,hb,rfl⟩:=List.mem_map.1 ha
  refine⟨(j:Int),by omega,by omega,(b.1,B5 o (ED p b.2)),?_,?_⟩
  ·have:=hnode _ h1.1
   rw[h1.2]at this
   rw[AU,this]
   exact List.mem_map.2 ⟨b,hb,rfl⟩
  ·show B5 o (ED p b.2)=i
   simp only at e
   rw[e,h2.2]
 ·have:=GH (hall i i0 i1)
  rw[hUl]
  exact⟨this.1,this.2.1⟩
 ·show Cr h _ (U.getD (B5 o (ED p i)).toNat (0,[])).1=true
  rw[hnode _ (hall i i0 i1)]
  exact st i _ i0 i1 (hrt i0 i1)
 ·obtain⟨t,ht,he⟩:=sa i _ i0 i1 (hrt i0 i1) a ha
  have e:=lX he
  show GI (AU U (B5 o (ED p i))) a.1=B5 o (ED p a.2)
  rw[e,AU,hnode _ (hall i i0 i1)]
  exact Zk (hstr _) (a:=(a.1,B5 o (ED p t))) (List.mem_map.2 ⟨(a.1,t),ht,rfl⟩)
 ·show B5 o (ED p q.1)=B5 o (ED p q.2)
  rw[lX (sp q hq)]
 ·obtain⟨c1,c2,c3,c4⟩:=co X v hX hv
  refine⟨fun i=>v (o.getD i.toNat 0),?_,fun i i0 i1=>?_,fun i i0 i1=>?_,fun i i0 i1 a ha=>?_⟩
  ·show v (o.getD 0 0)=0
   rw[ho.zero.1,←c1 0 _ (by omega) (by omega) (hrt (by omega) (by omega))]
   exact hv0
  ·have h3:=hmem i i0 (by omega)
   have hr:=(hroots _ h3.1).1
   exact hv.rng _ hr.1 hr.2
  ·have h3:=hmem i i0 (by omega)
   have hr:=hroots _ h3.1
   have hn:=hnode _ h3.1
   rw[h3.2]at hn
   rw[hn]
   exact c3 _ hr.1.1 hr.1.2 hr.2
  ·have h3:=hmem i i0 (by omega)
   have hr:=hroots _ h3.1
   have hn:=hnode _ h3.1
   rw[h3.2]at hn
   rw[AU,hn]at ha
   obtain⟨b,hb,rfl⟩:=List.mem_map.1 ha
   have h4:=c4 _ hr.1.1 hr.1.2 hr.2 b hb
   have hbr:=(arr _ b hb).1
   have h5:=GH (hcl _ h3.1 b hb)
   simp only
   rw[h5.2.2,←c1 b.2 _ hbr.1 hbr.2 (hrt hbr.1 hbr.2)]
   exact h4
end
/- Plain: types of one set are one. -/
section
def Nrm (c:List Int):Prop:=c.length=0∨c.getD (c.length-1) 0≠0
theorem M6 (b:List Int):Nrm (BC b):=by
 unfold Nrm BC
 have hl:=Sb b b.length
 rw[List.length_take,Nat.min_eq_left hl]
 rcases Pb b b.length with h|h
 ·exact .inl h
 ·by_cases h0:CQ b b.length=0
  ·exact .inl h0
  ·right
   rw[List.getD_eq_getElem?_getD,List.getElem?_take_of_lt (by omega),←List.getD_eq_getElem?_getD]
   exact h
theorem A0C {a b:List Int} (ha:Hu a) (hb:Hu b) (h:∀i,BK a i=BK b i) (k:Nat):a.getD k 0=b.getD k 0:=by
 have ua:=A4 ha k
 have ub:=A4 hb k
 have ua1:=ua.1
 have ua2:=ua.2
 have ub1:=ub.1
 have ub2:=ub.2
 have e:(a.getD k 0).toNat=(b.getD k 0).toNat:=by
  refine Nat.eq_of_testBit_eq fun r=>?_
  by_cases hr:r<64
  ·have:=h (64*k+r)
   unfold BK at this
   rw[show (64*k+r) / 64=k by omega,show (64*k+r) % 64=r by omega]at this
   exact this
  ·have big:∀n:Nat,n<18446744073709551616→n.testBit r=false:=fun n hn=>by
    have e:(18446744073709551616:Nat)=2 ^ 64:=by decide
    rw[e]at hn
    exact Nat.testBit_lt_two_pow (Nat.lt_of_lt_of_le hn (Nat.pow_le_pow_right (by decide) (by omega)))
   rw[big _ (by omega),big _ (by omega)]
 omega
theorem lY {a b:List Int} (hw:∀k,a.getD k 0=b.getD k 0) (hb:Nrm b):b.length≤a.length:=by
 rcases hb with h|h
 ·omega
 ·refine Classical.byContradiction fun hc=>h ?_
  rw[←hw]
  exact GC (by omega)
theorem vF {a b:List Int} (ha:Hu a) (hb:Hu b) (na:Nrm a) (nb:Nrm b) (h:∀i,BK a i=BK b i):a=b:=by
 have hw:=A0C ha hb h
 have hl:a.length=b.length:=Nat.le_antisymm (lY (fun k=>(hw k).symm) na) (lY hw nb)
 refine List.ext_getElem hl fun i h1 h2=>?_
 have:=hw i
 simpa[List.getD_eq_getElem?_getD,h1,h2] using this
theorem Zv {α:Type} (l:List α) (x:α) (n:Nat):List.Perm (l.take n++[x]++l.drop n) (x :: l):=by
 have h:l.take n++[x]++l.drop n=l.take n++x :: l.drop n:=by simp
 rw[h]
 refine List.perm_middle.trans ?_
 rw[List.take_append_drop]
def Apt (l:List ByteArray):Prop:=l.Pairwise fun a b=>Ar a b=false
theorem Qs {a b:ByteArray} (h:Ar a b=false):Ar b a=false:=by
 cases hh:Ar b a with
 | false=>rfl
 | true=>rw[Et hh]at h;cases h
theorem vG {l:List ByteArray} {s:ByteArray} (h:Apt l) (hs:∀x∈l,Ar x s=false):Apt (Dk l s):=by
 unfold Dk
 split
 ·exact h
 ·refine(List.Perm.pairwise_iff (fun hxy=>Qs hxy) (Zv l s _)).2 ?_
  exact List.pairwise_cons.2 ⟨fun x hx=>Qs (hs x hx),h⟩
theorem dR {d:List AJ} (hn:DL d=0):Apt (AR d):=by
 have key:∀k,k≤d.length→Apt (AR (d.take k))∧∀s∈AR (d.take k),∃i,i<k∧(d.getD i d0).1=s:=by
  intro k
  induction k with
  | zero =>
   intro _
   exact⟨.nil,fun s hs=>by cases hs⟩
  | succ k ih =>
   intro hk
   obtain⟨h1,h2⟩:=ih (by omega)
   have e:AR (d.take (k+1))=Dk (AR (d.take k)) (d.getD k d0).1:=by
    have:d.take (k+1)=d.take k++[d.getD k d0]:=Ae d d0 (by omega)
    rw[this]
    unfold AR
    rw[List.foldl_append]
    rfl
   rw[e]
   refine⟨vG h1 fun x hx=>?_,fun s hs=>?_⟩
   ·obtain⟨i,hi,rfl⟩:=h2 x hx
    cases hh:Ar (d.getD i d0).1 (d.getD k d0).1 with
    | false=>rfl
    | true =>
     have g:=Qc d hh
     rw[OG hn (j:=i) (by omega),OG hn (j:=k) (by omega)]at g
     omega
   ·rcases OH hs with hs|hs
    ·obtain⟨i,hi,e⟩:=h2 s hs
     exact⟨i,by omega,e⟩
    ·exact⟨k,by omega,hs.symm⟩
 have:=(key d.length (Nat.le_refl _)).1
 rwa [List.take_length]at this
structure Nd (l:List (List Int)):Prop where
 nd:l.Nodup
 nrm:∀c∈l,Nrm c
theorem A0D {l:List (List Int)} {c:List Int} (h:Nd l) (hc:c∉l) (hn:Nrm c):Nd (l++[c]):=by
 refine⟨?_,fun x hx=>?_⟩
 ·rw[List.nodup_append]
  refine⟨h.nd,by simp,fun x hx y hy e=>hc ?_⟩
  have:y=c:=by simpa using hy
  rw[←this,←e]
  exact hx
 ·rcases List.mem_append.1 hx with hx|hx
  ·exact h.nrm x hx
  ·have:x=c:=by simpa using hx
   rw[this]
   exact hn
theorem A0E {l:List (List Int)} (h:Nd l) (i k:Nat):Nd (GP l i k):=by
 unfold GP
 split
 ·rename_i hc
  rw[Bool.and_eq_true,Bool.not_eq_true']at hc
  refine A0D h (fun hm=>?_) (M6 _)
  have:cC l (FT (l.getD i []) (l.getD k []))=true:=List.any_eq_true.2 ⟨_,hm,by unfold HB;exact decide_eq_true rfl⟩
  rw[this]at hc
  cases hc.2
 ·exact h
theorem lZ {i:Nat}:∀ {n k:Nat} {l:List (List Int)},Nd l→Nd (GQ i n k l)
 | 0,_,_,h=>h
 | n+1,k,l,h=>by
  unfold GQ
  split
  ·exact lZ (A0E h i k)
  ·exact h
theorem Xk:∀ {n i:Nat} {l:List (List Int)},Nd l→Nd (IL n i l)
 | 0,_,_,h=>h
 | n+1,i,l,h=>by
  unfold IL
  split
  ·exact Xk (lZ h)
  ·exact h
theorem Vu {d:List AJ} (h3:BE d=0):Nd (Ad d):=by
 obtain⟨-,h2,-,hn,hl⟩:=A3 h3
 have hnl:=Er d d.length
 rw[List.take_length]at hnl
 have hap:=dR hn
 refine⟨?_,fun c hc=>?_⟩
 ·unfold Ad List.Nodup
  rw[List.pairwise_map,List.pairwise_iff_getElem]
  intro i j hi hj hij e
  have h1:=(List.pairwise_iff_getElem.1 hap) i j hi hj hij
  have g:∀k,(hk:k<(AR d).length)→(AR d).getD k ByteArray.empty=(AR d)[k]:=fun k hk=>by simp[List.getD_eq_getElem?_getD,hk]
  have hw:=(D6 (d:=d) (all:=AR d) (by omega) (AR d)[j] 0).2.1
  have h5:=ZF hn hl h2 hi hj (by
   rw[g i hi,g j hj,e]
   unfold FJ
   have:=(cU hw hw).2 fun _ h=>h
   rw[this]
   rfl)
  rw[g i hi,g j hj,h1]at h5
  cases h5
 ·obtain⟨s,hs,rfl⟩:=List.mem_map.1 hc
  unfold GV wN
  split
  ·exact M6 _
  ·exact .inl rfl
theorem Kv {d:List AJ}:∀ {l:List (List Int)} {o:List AQ},(o.map (·.2)++l).Nodup→((l.foldl (PZ d) o).map (·.2)).Nodup
 | [],o,h=>by simpa using h
 | b :: l,o,h=>by
  rw[List.foldl_cons]
  refine Kv ?_
  unfold PZ Fl XO
  have hp:=(Zv o (HK d (AR d) (Ad d) b,b) (E2 (HK d (AR d) (Ad d) b,b) o o.length)).map (fun x:AQ=>x.2)
  have hp2:List.Perm ((o.take (E2 (HK d (AR d) (Ad d) b,b) o o.length)++[(HK d (AR d) (Ad d) b,b)]++o.drop (E2 (HK d (AR d) (Ad d) b,b) o o.length)).map (fun x:AQ=>x.2)++l) (o.map (·.2)++b :: l) :=
   (hp.append_right l).trans (List.perm_middle (a:=b)).symm
  exact hp2.nodup_iff.2 h
def A1R (h:AN):Prop:=∀a b,0≤a→a<(h.1.length:Int)→0≤b→b<(h.1.length:Int)→Cr h a b=true→Cr h b a=true→a=b
theorem A1S {h:AN} (hk:UQ h) (hn:Nd (h.1.map fun t=>t.2.1)):A1R h:=by
 intro a b a0 a1 b0 b1 h1 h2
 have wa:=hk.1.wds _ (B3 a0 a1)
 have wb:=hk.1.wds _ (B3 b0 b1)
 have e:BO h a=BO h b:=vF wa wb (hn.nrm _ (B3 a0 a1)) (hn.nrm _ (B3 b0 b1)) fun i=>by
  rw[Bool.eq_iff_iff]
  exact⟨(CH hk b0 b1 a0 a1).1 h2 i,(CH hk a0 a1 b0 b1).1 h1 i⟩
 have hp:=List.pairwise_iff_getElem.1 hn.nd
 have g:∀k:Int,0≤k→(hk:k<(h.1.length:Int))→BO h k=(h.1.map fun t=>t.2.1)[k.toNat]'(by rw[List.length_map];omega):=fun k k0 k1=>by
  unfold BO
  simp[List.getD_eq_getElem?_getD,show k.toNat<h.1.length by omega]
 rw[g a a0 a1,g b b0 b1]at e
 rcases Int.lt_trichotomy a b with hlt|heq|hlt
 ·exact absurd e (hp a.toNat b.toNat (by rw[List.length_map];omega) (by rw[List.length_map];omega) (by omega))
 ·exact heq
 ·exact absurd e.symm (hp b.toNat a.toNat (by rw[List.length_map];omega) (by rw[List.length_map];omega) (by omega))
theorem Zw (d:List AJ):A1R (A8 d).1:=by
 refine A1S (Kp d) ?_
 unfold A8
 split
 ·exact⟨.nil,fun c h=>(by cases h)⟩
 ·rename_i hv
  have hv:(BJ d).2=0:=Classical.byContradiction hv
  have h5:BH d=0:=by
   unfold BJ at hv
   split at hv
   ·rename_i h;exact absurd hv h
   ·rename_i h;exact Classical.byContradiction h
  obtain⟨hz,-,-⟩:=CK h5
  obtain⟨h3,hlen,-⟩:=Be hz
  have hf:Nd (A0 (Ad d)):=Xk (Vu h3)
  have e:((GD d).1.map fun t=>t.2.1)=(Ax d).map fun x=>x.2:=by
   show ((Eg _ _ _).map fun t=>t.2.1)=_
   unfold Eg
   rw[List.map_map]
   apply List.ext_getElem
   ·simp
   ·intro i h1 h2
    simp[List.getD_eq_getElem?_getD,show i<(Ax d).length by simpa using h1]
  show Nd ((GD d).1.map fun t=>t.2.1)
  rw[e]
  refine⟨Kv (by simpa using hf.nd),fun c hc=>?_⟩
  obtain⟨x,hx,rfl⟩:=List.mem_map.1 hc
  obtain⟨b,hb,rfl⟩:=DQ.1 hx
  exact hf.nrm b hb
end
/- Plain: maps of structures in order are one; the most general structure of two is one. -/
section
structure VF (h:AN) (f:List AF):Prop where
 good:AY f
 pos:0<f.length
 ty:Ge h f
 str:∀x∈f,Rg x.2
 ft:∀x∈f,∀a∈x.2,0≤a.1∧a.1<(h.2.length:Int)
 can:AX f 0=f
 ro:RO f
structure HU (h:AN):Prop where
 ok:UQ h
 inj:A1R h
 ft:h.2.length≤64
theorem vH {Q:List AF} (hQ:AY Q) {r:Int} (r0:0≤r) (r1:r<(Q.length:Int)):AX (AX Q r) 0=AX Q r:=by
 have ho:=lW hQ r0 r1
 have hUl:=Zs Q r
 have hUg:=fun i=>Zr (f:=Q) (r:=r) (i:=i)
 generalize hU:AX Q r=U at *
 generalize hod:QQX Q Q.length [] r=o at *
 have hol:=ho.ok.len
 have hQ1:=hQ.1
 have hmem:∀i:Int,0≤i→i<(o.length:Int)→o.getD i.toNat 0∈o∧B5 o (o.getD i.toNat 0)=i:=fun i i0 i1=>by
  refine⟨AD o 0 (by omega),?_⟩
  rw[Iw ho.ok.nd (by omega)]
  omega
 have harc:∀i:Int,0≤i→i<(o.length:Int)→AU U i=(AU Q (o.getD i.toNat 0)).map (Xb o):=fun i i0 i1=>by
  rw[AU,hUg i.toNat (by omega)]
  rfl
 have hiso:Iso U Q (fun i=>o.getD i.toNat 0) (fun i=>0≤i∧i<(o.length:Int)):=by
  refine⟨fun i hi=>?_,fun i hi a ha=>?_,fun i j hi hj e=>?_⟩
  ·rw[harc i hi.1 hi.2,List.map_map]
   have:∀a∈AU Q (o.getD i.toNat 0),((fun a:Int×Int=>(a.1,o.getD a.2.toNat 0))∘Xb o) a=a:=fun a ha=>by
    show (a.1,o.getD (B5 o a.2).toNat 0)=a
    rw[(GH (ho.cl _ (hmem i hi.1 hi.2).1 a ha)).2.2]
   rw[List.map_congr_left this,List.map_id']
  ·rw[harc i hi.1 hi.2]at ha
   obtain⟨b,hb,rfl⟩:=List.mem_map.1 ha
   have:=GH (ho.cl _ (hmem i hi.1 hi.2).1 b hb)
   exact⟨this.1,this.2.1⟩
  ·have h1:=(hmem i hi.1 hi.2).2
   have h2:=(hmem j hj.1 hj.2).2
   have e:o.getD i.toNat 0=o.getD j.toNat 0:=e
   rw[←h1,←h2,e]
 have h0:(0:Int)<(o.length:Int):=by have:=ho.zero.2;omega
 have hUgood:AY U:=by
  refine⟨by omega,fun x hx=>?_⟩
  obtain⟨i,hi,rfl⟩:=DZ (0,[]) hx
  have h1:=harc (i:Int) (by omega) (by omega)
  rw[AU,Int.toNat_natCast]at h1
  rw[h1]
  have hm:=hmem (i:Int) (by omega) (by omega)
  rw[Int.toNat_natCast]at hm
  have hr:=ho.ok.rng _ hm.1
  refine⟨?_,fun a ha=>?_⟩
  ·rw[List.length_map]
   exact(hQ.2 _ (AD Q (0,[]) (k:=(o.getD i 0).toNat) (by omega))).1
  ·obtain⟨b,hb,rfl⟩:=List.mem_map.1 ha
   have:=GH (ho.cl _ hm.1 b hb)
   rw[hUl]
   exact⟨this.1,this.2.1⟩
 have hd:=Re hiso Q.length [] 0 (fun x hx=>by cases hx) ⟨by omega,h0⟩
 have hz:o.getD (0:Int).toNat 0=r:=ho.zero.1
 rw[List.map_nil,hz,hod]at hd
 have hfu:=TU hUgood (n:=0) (by omega) (by omega) (Q.length-U.length)
 rw[show U.length+(Q.length-U.length)=Q.length by omega]at hfu
 rw[hfu]at hd
 unfold AX
 generalize QQX U U.length [] 0=l at *
 obtain⟨hd1,hd2⟩:=hd
 have hll:l.length=o.length:=by
  have:=congrArg List.length hd1
  rw[List.length_map]at this
  exact this.symm
 have hlk:∀k,(hk:k<l.length)→l[k]=(k:Int):=fun k hk=>by
  have hc:=hd2 l[k] (List.getElem_mem hk)
  have h1:=(hmem l[k] hc.1 hc.2).2
  have h2:=(hmem (k:Int) (by omega) (by omega)).2
  have e:o.getD k 0=o.getD (l[k]).toNat 0:=by
   exact(congrArg (fun z:List Int=>z.getD k 0) hd1).trans (by simp[List.getD_eq_getElem?_getD,hk])
  rw[Int.toNat_natCast,e]at h2
  rw[←h1,h2]
 have hnd:l.Nodup:=by
  unfold List.Nodup
  rw[List.pairwise_iff_getElem]
  intro i j hi hj hij e
  rw[hlk i hi,hlk j hj]at e
  omega
 have hidx:∀x,0≤x→x<(l.length:Int)→B5 l x=x:=fun x x0 x1=>by
  have:=Iw hnd (i:=x.toNat) (by omega)
  have e:l.getD x.toNat 0=x:=by
   rw[List.getD_eq_getElem?_getD,List.getElem?_eq_getElem (by omega)]
   show l[x.toNat]=x
   rw[hlk _ (by omega)]
   omega
  rw[e]at this
  rw[this]
  omega
 apply List.ext_getElem
 ·rw[List.length_map];omega
 ·intro i h1 h2
  rw[List.getElem_map,hlk i (by simpa using h1)]
  have hU2:U.getD (i:Int).toNat (0,[])=U[i]:=by simp[List.getD_eq_getElem?_getD,h2]
  unfold GF
  rw[hU2]
  have:∀a∈U[i].2,Xb l a=a:=fun a ha=>by
   have hg:=(hUgood.2 _ (List.getElem_mem h2)).2 a ha
   unfold Xb
   rw[hidx a.2 hg.1 (by omega)]
  rw[List.map_congr_left this,List.map_id']
theorem Zx {h:AN} {a X:List AF} (hro:RO a) {m m':Int→Int} (h1:Qr h a X m) (h2:Qr h a X m'):∀(k:Nat) (i:Int),i.toNat≤k→0≤i→i<(a.length:Int)→m i=m' i:=by
 intro k
 induction k with
 | zero =>
  intro i hk i0 i1
  have:i=0:=by omega
  subst this
  rw[h1.zero,h2.zero]
 | succ k ih =>
  intro i hk i0 i1
  by_cases hi:i=0
  ·subst hi;rw[h1.zero,h2.zero]
  ·obtain⟨j,j0,j1,x,hx,rfl⟩:=hro i (by omega) i1
   rw[←h1.arc j j0 (by omega) x hx,←h2.arc j j0 (by omega) x hx,ih j (by omega) j0 (by omega)]
theorem Zy {h:AN} (hk:UQ h) {a b c:List AF} (ga:AY a) (ta:Ge h a) (tb:Ge h b) (tc:Ge h c) {m m':Int→Int} (h1:Qr h a b m) (h2:Qr h b c m'):Qr h a c fun i=>m' (m i):=by
 refine⟨by show m' (m 0)=0;rw[h1.zero,h2.zero],fun i i0 i1=>?_,fun i i0 i1=>?_,fun i i0 i1 x hx=>?_⟩
 ·have:=h1.rng i i0 i1
  exact h2.rng _ this.1 this.2
 ·have hr:=h1.rng i i0 i1
  have hr2:=h2.rng _ hr.1 hr.2
  have xa:=ta _ (AD a (0,[]) (k:=i.toNat) (by omega))
  have xb:=tb _ (AD b (0,[]) (k:=(m i).toNat) (by omega))
  have xc:=tc _ (AD c (0,[]) (k:=(m' (m i)).toNat) (by omega))
  exact M3 hk xa.1 xa.2 xb.1 xb.2 xc.1 xc.2 (h1.ty i i0 i1) (h2.ty _ hr.1 hr.2)
 ·have hr:=h1.rng i i0 i1
  have hxr:=A9 ga hx
  have hm:=h1.arc i i0 i1 x hx
  obtain⟨y,hy,e1,e2⟩:=TV (l:=AU b (m i)) (e:=x.1) (by rw[hm];exact(h1.rng _ hxr.1 hxr.2).1)
  have:=h2.arc (m i) hr.1 hr.2 y hy
  rw[e1,e2,hm]at this
  exact this
theorem Tf {a:List AF} (hs:∀x∈a,Rg x.2) (n:Int):Rg (AU a n):=by
 unfold AU
 by_cases h:n.toNat<a.length
 ·exact hs _ (AD a (0,[]) h)
 ·rw[List.getD_eq_getElem?_getD,List.getElem?_eq_none (by omega)]
  exact .nil
theorem vI {h:AN} {a:List AF} (hs:∀x∈a,Rg x.2):Qr h a a id :=
 ⟨rfl,fun i i0 i1=>⟨i0,i1⟩,fun i _ _=>Lf h _,fun i _ _ x hx=>Zk (Tf hs i) hx⟩
theorem l0:∀ {l m:List (Int×Int)},Rg l→Rg m→(∀x,x∈l↔x∈m)→l=m
 | [],[],_,_,_=>rfl
 | [],b :: m,_,_,h=>by have:=(h b).2 (by simp);cases this
 | a :: l,[],_,_,h=>by have:=(h a).1 (by simp);cases this
 | a :: l,b :: m,h1,h2,h=>by
  obtain⟨a1,a2⟩:=List.pairwise_cons.1 h1
  obtain⟨b1,b2⟩:=List.pairwise_cons.1 h2
  have e:a=b:=by
   rcases List.mem_cons.1 ((h a).1 (by simp)) with e|e
   ·exact e
   ·rcases List.mem_cons.1 ((h b).2 (by simp)) with e2|e2
    ·exact e2.symm
    ·have:=a1 b e2
     have:=b1 a e
     omega
  subst e
  refine congrArg _ (l0 a2 b2 fun x=>⟨fun hx=>?_,fun hx=>?_⟩)
  ·rcases List.mem_cons.1 ((h x).1 (by simp[hx])) with e|e
   ·subst e
    have:=a1 x hx
    omega
   ·exact e
  ·rcases List.mem_cons.1 ((h x).2 (by simp[hx])) with e|e
   ·subst e
    have:=b1 x hx
    omega
   ·exact e
theorem A4c {h:AN} (hu:HU h) {U V:List AF} (hU:VF h U) (hV:VF h V) {m m':Int→Int} (h1:Qr h U V m) (h2:Qr h V U m'):U=V:=by
 have key:∀ {U V:List AF},VF h U→VF h V→∀ {m m':Int→Int},Qr h U V m→Qr h V U m'→U.length≤V.length→U=V:=by
  clear hU hV h1 h2
  intro U V hU hV m m' h1 h2 hlen
  have c1:=Zy hu.ok hU.good hU.ty hV.ty hU.ty h1 h2
  have c2:=Zy hu.ok hV.good hV.ty hU.ty hV.ty h2 h1
  have e1:∀i,0≤i→i<(U.length:Int)→m' (m i)=i:=fun i i0 i1=>Zx hU.ro c1 (vI hU.str) i.toNat i (Nat.le_refl _) i0 i1
  have e2:∀i,0≤i→i<(V.length:Int)→m (m' i)=i:=fun i i0 i1=>Zx hV.ro c2 (vI hV.str) i.toNat i (Nat.le_refl _) i0 i1
  have hfw:∀ {A B:List AF} {f:Int→Int},AY A→Qr h A B f→∀i,0≤i→i<(A.length:Int)→∀x∈AU A i,(x.1,f x.2)∈AU B (f i):=fun {A B f} gA hf i i0 i1 x hx=>by
   have hxr:=A9 gA hx
   have hm:=hf.arc i i0 i1 x hx
   obtain⟨y,hy,g1,g2⟩:=TV (l:=AU B (f i)) (e:=x.1) (by rw[hm];exact(hf.rng _ hxr.1 hxr.2).1)
   rw[←g1,←hm,←g2]
   exact hy
  have hiso:Iso U V m (fun i=>0≤i∧i<(U.length:Int)):=by
   refine⟨fun i hi=>?_,fun i hi a ha=>A9 hU.good ha,fun i j hi hj e=>?_⟩
   ·have hr:=h1.rng i hi.1 hi.2
    refine l0 (Tf hV.str _) ?_ fun x=>⟨fun hx=>?_,fun hx=>?_⟩
    ·unfold Rg
     rw[List.pairwise_map]
     exact Tf hU.str i
    ·have g:=hfw hV.good h2 (m i) hr.1 hr.2 x hx
     rw[e1 i hi.1 hi.2]at g
     refine List.mem_map.2 ⟨_,g,?_⟩
     have hxr:=A9 hV.good hx
     show (x.1,m (m' x.2))=x
     rw[e2 x.2 hxr.1 hxr.2]
    ·obtain⟨y,hy,rfl⟩:=List.mem_map.1 hx
     exact hfw hU.good h1 i hi.1 hi.2 y hy
   ·rw[←e1 i hi.1 hi.2,←e1 j hj.1 hj.2,e]
  have hpos:=hU.pos
  have:=UV hiso hU.good ⟨by omega,by omega⟩ h1.zero hU.pos hlen fun i hi=>by
   have hr:=h1.rng i hi.1 hi.2
   have g1:=h1.ty i hi.1 hi.2
   have g2:=h2.ty (m i) hr.1 hr.2
   rw[e1 i hi.1 hi.2]at g2
   have xa:=hU.ty _ (AD U (0,[]) (k:=i.toNat) (by omega))
   have xb:=hV.ty _ (AD V (0,[]) (k:=(m i).toNat) (by omega))
   exact hu.inj _ _ xb.1 xb.2 xa.1 xa.2 g2 g1
  rw[hV.can,hU.can]at this
  exact this.symm
 rcases Nat.le_total U.length V.length with hl|hl
 ·exact key hU hV h1 h2 hl
 ·exact(key hV hU h2 h1 hl).symm
structure dS (h:AN) (a b U:List AF):Prop where
 vf:VF h U
 left:∃m,Qr h a U m
 right:∃m,Qr h b U m
 least:∀X,Ge h X→∀m1,Qr h a X m1→∀m2,Qr h b X m2→∃m,Qr h U X m
 len:U.length≤a.length+b.length
theorem A0F {h:AN} (hu:HU h) {a b U V:List AF} (h1:dS h a b U) (h2:dS h a b V):U=V:=by
 obtain⟨m1,g1⟩:=h2.left
 obtain⟨m2,g2⟩:=h2.right
 obtain⟨m3,g3⟩:=h1.left
 obtain⟨m4,g4⟩:=h1.right
 obtain⟨m,hm⟩:=h1.least V h2.vf.ty m1 g1 m2 g2
 obtain⟨m',hm'⟩:=h2.least U h1.vf.ty m3 g3 m4 g4
 exact A4c hu h1.vf h2.vf hm hm'
open Classical in
noncomputable def EW (h:AN) (a b:List AF):List AF×Bool:=if H:∃U,dS h a b U then (H.choose,true) else ([],false)
theorem Zz {h:AN} (hu:HU h) {a b U:List AF} (h1:dS h a b U):EW h a b=(U,true):=by
 unfold EW
 have H:∃U,dS h a b U:=⟨U,h1⟩
 rw[dif_pos H,A0F hu H.choose_spec h1]
theorem Z0 {h:AN} {a b:List AF} (h1:∀X,Ge h X→∀m1,Qr h a X m1→∀m2,¬Qr h b X m2):EW h a b=([],false):=by
 unfold EW
 rw[dif_neg]
 rintro⟨U,hU⟩
 obtain⟨m1,g1⟩:=hU.left
 obtain⟨m2,g2⟩:=hU.right
 exact h1 U hU.vf.ty m1 g1 m2 g2
theorem Z1 {h:AN} {a b:List AF} (h1:(EW h a b).2=true):dS h a b (EW h a b).1:=by
 unfold EW at h1 ⊢
 split at h1
 ·rename_i H
  rw[dif_pos H]
  exact H.choose_spec
 ·cases h1
theorem Tg {f:List AF} {e:Int} (h:e∈DT f):∃x∈f,∃a∈x.2,a.1=e:=by
 unfold DT at h
 obtain⟨x,hx,h2⟩:=List.mem_flatMap.1 h
 obtain⟨a,ha,e⟩:=List.mem_map.1 h2
 exact⟨x,hx,a,ha,e⟩
theorem A1T {h:AN} {N:List AF} {P:List (Int×Int)} {p ty:List Int} {ar:List (List (Int×Int))} (hj:JI h N P p ty ar []) (hQ:AY (quo p ty ar)) (hN:0<N.length) (hft:∀x∈N,∀a∈x.2,0≤a.1∧a.1<(h.2.length:Int)) {v:Int→Int} (hU:A1a h N P (AX (quo p ty ar) (ED p 0)) v):VF h (AX (quo p ty ar) (ED p 0)):=by
 have hr:0≤ED p 0∧ED p 0<((quo p ty ar).length:Int):=by
  obtain⟨rk,fo⟩:=hj.fo
  have:=hj.lp
  have:=FO fo (x:=0) (by omega) (by omega) (M4 fo (by omega) (by omega))
  rw[EO]
  exact this
 refine⟨hU.good,hU.pos,hU.ty,hU.str,fun x hx a ha=>?_,vH hQ hr.1 hr.2,hU.ro⟩
 obtain⟨y,hy,b,hb,e⟩:=Tg (hU.feat x hx a ha)
 rw[←e]
 exact hft y hy b hb
theorem pE {h:AN} {f g:List AF} (hf:VF h f) (hg:VF h g):∀x∈CW f g,∀a∈x.2,0≤a.1∧a.1<(h.2.length:Int):=by
 intro x hx
 unfold CW at hx
 rcases List.mem_append.1 hx with hx|hx
 ·exact hf.ft x hx
 ·obtain⟨y,hy,rfl⟩:=List.mem_map.1 hx
  intro a ha
  obtain⟨b,hb,rfl⟩:=List.mem_map.1 ha
  exact hg.ft y hy b hb
theorem A0G {h:AN} {f g:List AF} (hf:VF h f) (hg:VF h g) {p ty:List Int} {ar:List (List (Int×Int))} (hj:JI h (CW f g) [(0,(f.length:Int))] p ty ar []) (hQ:AY (quo p ty ar)):dS h f g (AX (quo p ty ar) (ED p 0)):=by
 have hpf:=hf.pos
 have hl:=Fs f g
 have hN:0<(CW f g).length:=by omega
 have h0:=Tc hj hQ hN
 have hlr:=Td hj hQ hN (Vs (g:=g) Vt) hf.ro h0
 have hrr:=Td hj hQ hN (Te (f:=f)) hg.ro (vD hj (by simp) h0)
 have hU:=A1Q hj hQ hN fun x x0 x1=>by
  by_cases hx:x<(f.length:Int)
  ·have:=hlr x.toNat x (Nat.le_refl _) x0 hx
   rwa [show ((0:Nat):Int)+x=x by omega]at this
  ·have:=hrr _ (x-(f.length:Int)) (Nat.le_refl _) (by omega) (by omega)
   rwa [show (f.length:Int)+(x-(f.length:Int))=x by omega]at this
 refine⟨A1T hj hQ hN (pE hf hg) hU,⟨_,Zt hU.proj (Vs (g:=g) Vt) hU.zero⟩,⟨_,Zt hU.proj (Te (f:=f)) (by rw[←hU.proj.eq (0,(f.length:Int)) (by simp)];exact hU.zero)⟩,fun X hX m1 h1 m2 h2=>?_,by have:=hU.len;omega⟩
 refine hU.least X _ hX (vE (Zu hf.good hg.good (Ri h1) (Ri h2)) fun q hq=>?_) ?_
 ·have e:q=(0,(f.length:Int)):=by simpa using hq
  subst e
  try simp only
  rw[if_pos (by omega),if_neg (by omega),Int.sub_self,h1.zero,h2.zero]
 ·show (if (0:Int)<(f.length:Int) then m1 0 else m2 (0-(f.length:Int)))=0
  rw[if_pos (by omega)]
  exact h1.zero
theorem pF {h:AN} {f g:List AF} (hf:VF h f) (hg:VF h g) (hno:∀X v,Ge h X→¬pA h (CW f g) [(0,(f.length:Int))] X v):EW h f g=([],false):=by
 have hpf:=hf.pos
 refine Z0 fun X hX m1 h1 m2 h2=>hno X _ hX (vE (Zu hf.good hg.good (Ri h1) (Ri h2)) fun q hq=>?_)
 have e:q=(0,(f.length:Int)):=by simpa using hq
 subst e
 try simp only
 rw[if_pos (by omega),if_neg (by omega),Int.sub_self,h1.zero,h2.zero]
end
/- Plain: the classes before they are joined. -/
section
theorem Z2 (l:List (Int×Int)):DS 0 l=l:=by
 unfold DS
 rw[List.map_congr_left (g:=id) (fun a _=>by show (a.1,a.2+((0:Nat):Int))=a;rw[Int.natCast_zero,Int.add_zero]),List.map_id]
theorem pG (a b:Nat):CV 0 a++CV a b=CV 0 (a+b):=by
 unfold CV
 rw[List.range_add,List.map_append,List.map_map]
 congr 1
 ·refine List.map_congr_left fun i _=>?_
  show ((a+i:Nat):Int)=((0+(a+i):Nat):Int)
  rw[Nat.zero_add]
theorem pI {n k:Nat} (h:k<n):(CV 0 n).getD k 0=(k:Int):=by
 unfold CV
 rw[List.getD_eq_getElem?_getD,List.getElem?_map,List.getElem?_range h]
 show ((0+k:Nat):Int)=k
 rw[Nat.zero_add]
theorem Kw {n:Nat} {x:Int} (x0:0≤x) (x1:x<(n:Int)):Dq (CV 0 n) x=x:=by
 unfold Dq
 rw[pI (by omega)]
 omega
def M7 (N:List AF):List Int:=N.map (·.1)
def Th (N:List AF):List (List (Int×Int)):=N.map (·.2)
theorem M8 (N:List AF) (k:Nat):(M7 N).getD k 0=(N.getD k (0,[])).1:=by
 unfold M7
 rw[List.getD_eq_getElem?_getD,List.getElem?_map,List.getD_eq_getElem?_getD]
 cases N[k]?<;>rfl
theorem Li (N:List AF) (k:Nat):(Th N).getD k []=(N.getD k (0,[])).2:=by
 unfold Th
 rw[List.getD_eq_getElem?_getD,List.getElem?_map,List.getD_eq_getElem?_getD]
 cases N[k]?<;>rfl
theorem dT (f g:List AF):Ce f f.length++Ce g g.length=M7 (CW f g):=by
 unfold Ce M7 CW
 rw[List.take_length,List.take_length,List.map_append,List.map_map]
 rfl
theorem pJ (f g:List AF):E4 0 f f.length++E4 f.length g g.length=Th (CW f g):=by
 unfold E4 Th CW
 rw[List.take_length,List.take_length,List.map_append,List.map_map]
 congr 1
 exact List.map_congr_left fun x _=>Z2 x.2
theorem Xl {n:Nat} {x r:Int} (x0:0≤x) (x1:x<(n:Int)) (h:Rt (CV 0 n) x r):r=x:=h.det (.base (Kw x0 x1))
theorem A0H {h:AN} {N:List AF} (hg:AY N) (ht:Ge h N) (hs:∀x∈N,Rg x.2):JI h N [] (CV 0 N.length) (M7 N) (Th N) []:=by
 have hl:(CV 0 N.length).length=N.length:=Ix 0 N.length
 refine⟨ht,⟨fun _=>0,fun n n0 n1=>?_,fun n n0 n1 hn=>?_⟩,hl,by simp[M7],by simp[Th],fun w hw=>(by cases hw),fun x x0 x1=>?_,fun k a ha=>?_,fun k=>?_,fun q hq=>(by cases hq),fun x r x0 x1 hr=>?_,fun x r x0 x1 hr a ha=>?_,fun X v hX hv=>?_⟩
 ·rw[hl]at n1 ⊢
  rw[Kw n0 n1]
  exact⟨n0,n1⟩
 ·rw[hl]at n1
  exact absurd (Kw n0 n1) hn
 ·rw[M8]
  exact ht _ (AD N (0,[]) (by omega))
 ·rw[Li]at ha
  refine⟨OY hg k a ha,?_⟩
  by_cases hk:k<N.length
  ·exact List.mem_flatMap.2 ⟨_,AD N (0,[]) hk,List.mem_map.2 ⟨a,ha,rfl⟩⟩
  ·rw[List.getD_eq_getElem?_getD,List.getElem?_eq_none (by omega)]at ha
   cases ha
 ·rw[Li]
  have:=Tf hs (k:Int)
  rwa [AU,Int.toNat_natCast]at this
 ·rw[Xl x0 x1 hr,M8]
  exact Lf h _
 ·rw[Xl x0 x1 hr,Li]
  have hr2:=A9 hg ha
  exact⟨a.2,ha,.cls hr2.1 hr2.2 hr2.1 hr2.2 (.base (Kw hr2.1 hr2.2)) (.base (Kw hr2.1 hr2.2))⟩
 ·refine⟨fun x r x0 x1 hr=>by rw[Xl x0 x1 hr],fun w hw=>(by cases hw),fun r r0 r1 _=>?_,fun r r0 r1 _ a ha=>?_⟩
  ·rw[M8]
   exact hv.ty r r0 r1
  ·rw[Li]at ha
   exact hv.arc r r0 r1 a ha
theorem dU {f g:List AF} (hf:AY f) (hg:AY g) (hl:f.length+g.length≤100000):AY (CW f g):=by
 have hj:=Fs f g
 refine⟨by omega,fun x hx=>?_⟩
 unfold CW at hx
 rcases List.mem_append.1 hx with hx|hx
 ·refine⟨(hf.2 x hx).1,fun a ha=>?_⟩
  have:=(hf.2 x hx).2 a ha
  omega
 ·obtain⟨y,hy,rfl⟩:=List.mem_map.1 hx
  refine⟨by simp only[DS,List.length_map];exact(hg.2 y hy).1,fun a ha=>?_⟩
  obtain⟨b,hb,rfl⟩:=List.mem_map.1 ha
  have:=(hg.2 y hy).2 b hb
  simp only
  omega
theorem Vv {f g:List AF} (hf:∀x∈f,Rg x.2) (hg:∀x∈g,Rg x.2):∀x∈CW f g,Rg x.2:=by
 intro x hx
 unfold CW at hx
 rcases List.mem_append.1 hx with hx|hx
 ·exact hf x hx
 ·obtain⟨y,hy,rfl⟩:=List.mem_map.1 hx
  unfold Rg DS
  rw[List.pairwise_map]
  exact hg y hy
theorem vJ {h:AN} {f g:List AF} (hf:Ge h f) (hg:Ge h g):Ge h (CW f g):=by
 intro x hx
 unfold CW at hx
 rcases List.mem_append.1 hx with hx|hx
 ·exact hf x hx
 ·obtain⟨y,hy,rfl⟩:=List.mem_map.1 hx
  exact hg y hy
def pK (N:List AF):Prop:=∀x∈N,∀a∈x.2,0≤a.1∧a.1<64
theorem vK {f g:List AF} (hf:pK f) (hg:pK g):pK (CW f g):=by
 intro x hx
 unfold CW at hx
 rcases List.mem_append.1 hx with hx|hx
 ·exact hf x hx
 ·obtain⟨y,hy,rfl⟩:=List.mem_map.1 hx
  intro a ha
  obtain⟨b,hb,rfl⟩:=List.mem_map.1 ha
  exact hg y hy b hb
theorem dV {l:List (Int×Int)} (h:Rg l) (hf:∀a∈l,0≤a.1∧a.1<64):l.length≤64:=by
 have:=lU h (S:=(List.range 64).map fun(i:Nat)=>(i:Int)) (fun a ha=>List.mem_map.2 ⟨a.1.toNat,List.mem_range.2 (by have:=hf a ha;omega),by have:=hf a ha;omega⟩)
 rwa [List.length_map,List.length_range]at this
theorem dW {N:List AF} (h:∀x∈N,x.2.length≤64):(DT N).length≤64*N.length:=by
 induction N with
 | nil=>simp[DT]
 | cons x N ih =>
  have h1:=h x (by simp)
  have h2:=ih fun y hy=>h y (by simp[hy])
  have e:DT (x :: N)=x.2.map (·.1)++DT N:=rfl
  rw[e,List.length_append,List.length_map,List.length_cons]
  omega
theorem pL {N:List AF} (h:pK N) {e:Int} (he:e∈DT N):0≤e∧e<64:=by
 obtain⟨x,hx,a,ha,rfl⟩:=Tg he
 exact h x hx a ha
theorem vL {h:AN} {N:List AF} {P:List (Int×Int)} {p ty:List Int} {ar:List (List (Int×Int))} (hj:JI h N P p ty ar []) (hN:N.length≤100000) (hf:pK N):AY (quo p ty ar):=by
 have hl:=EO p ty ar
 obtain⟨rk,fo⟩:=hj.fo
 have lp:=hj.lp
 refine⟨by omega,fun x hx=>?_⟩
 obtain⟨i,hi,rfl⟩:=DZ (0,[]) hx
 have e:=Lh (p:=p) (ty:=ty) (ar:=ar) (n:=(i:Int)) (by omega) (by omega)
 rw[Int.toNat_natCast]at e
 rw[e]
 refine⟨?_,fun a ha=>?_⟩
 ·simp only[List.length_map]
  have:=dV (hj.srt i) (fun a ha=>pL hf (hj.arr i a ha).2)
  omega
 ·obtain⟨b,hb,rfl⟩:=List.mem_map.1 ha
  have hr:=(hj.arr i b hb).1
  have:=FO fo (x:=b.2) hr.1 (by omega) (M4 fo hr.1 (by omega))
  rw[hl]
  exact this
theorem VF.ft64 {h:AN} {f:List AF} (hv:VF h f) (hu:HU h):pK f:=fun x hx a ha=>by
 have h1:=hv.ft x hx a ha
 have h2:=hu.ft
 omega
end
/- Plain: type 0 subsumes each type. -/
section
/-! All declared types are below the root -/
def A4d (d:List AJ) (o:List ByteArray) (i:Nat):Prop:=∀j,j<i→∀x∈d,Aa x.2.1 (o.getD j ByteArray.empty)=true→Aa o x.1=true
theorem vM {c:ByteArray} {o:List ByteArray} {x:AJ} (h:Aa x.2.1 c=true):Aa (E5 c o x) x.1=true:=by
 unfold E5
 split
 ·rw[Mj,Es,Bool.or_true]
 ·rename_i hc
  rw[h,Bool.true_and,Bool.not_eq_true']at hc
  simpa using hc
theorem Vx {c:ByteArray} {x:AJ} (h:Aa x.2.1 c=true):∀ {l:List AJ} {o:List ByteArray},x∈l→Aa (l.foldl (E5 c) o) x.1=true
 | [],_,hx=>by cases hx
 | y :: l,o,hx=>by
  rw[List.foldl_cons]
  rcases List.mem_cons.1 hx with rfl|hx
  ·exact LZ (fun z hz=>LX hz) (vM h)
  ·exact Vx h hx
theorem Z3 {d:List AJ}:∀ {n i:Nat} {o:List ByteArray},Xy d o→d.length≤n+i→A4d d o i→i≤o.length→∃m,A4d d (DM d n i o) m∧(DM d n i o).length≤m
 | 0,i,o,ha,hd,hb,hi=>⟨i,hb,by
  have:=ha.len
  show o.length≤i
  omega⟩
 | n+1,i,o,ha,hd,hb,hi=>by
  unfold DM
  split
  ·rename_i hlt
   obtain⟨g1,g2⟩:=Si (o.getD i ByteArray.empty) (l:=d) (o:=o) (fun _ h=>h) ha
   refine Z3 g1 (by omega) (fun j hj x hx hs=>?_) (by omega)
   rw[PS _ (by omega)]at hs
   by_cases e:j=i
   ·subst e
    exact Vx hs hx
   ·exact LZ (fun z hz=>LX hz) (hb j (by omega) x hx hs)
  ·exact⟨i,hb,by omega⟩
theorem Po {α:Type} {p:α→Bool}:∀ {l:List α},l.countP p=1→∀x∈l,p x=true→∀y∈l,p y=true→x=y
 | [],h,x,hx,_,_,_,_=>by cases hx
 | z :: l,h,x,hx,px,y,hy,py=>by
  rw[List.countP_cons]at h
  by_cases pz:p z=true
  ·rw[if_pos pz]at h
   have h0:l.countP p=0:=by omega
   rw[List.countP_eq_zero]at h0
   have e1:x=z:=by
    rcases List.mem_cons.1 hx with e|hx
    ·exact e
    ·exact absurd px (h0 x hx)
   have e2:y=z:=by
    rcases List.mem_cons.1 hy with e|hy
    ·exact e
    ·exact absurd py (h0 y hy)
   rw[e1,e2]
  ·rw[if_neg pz]at h
   have hx:x∈l:=by
    rcases List.mem_cons.1 hx with e|hx
    ·rw[e]at px;exact absurd px pz
    ·exact hx
   have hy:y∈l:=by
    rcases List.mem_cons.1 hy with e|hy
    ·rw[e]at py;exact absurd py pz
    ·exact hy
   exact Po (by omega) x hx px y hy py
theorem Ti (s:ByteArray):∀(l:List AJ) (k:Nat),0≤CR s k l→∃x∈l,Ar x.1 s=true
 | [],k,h=>by
  simp only[CR]at h
  omega
 | y :: l,k,h=>by
  simp only[CR]at h
  split at h
  ·rename_i e
   exact⟨y,by simp,e⟩
  ·obtain⟨x,hx,e⟩:=Ti s l (k+1) h
   exact⟨x,by simp[hx],e⟩
theorem dX {d:List AJ} (h3:BE d=0):∃r∈d,∀x∈d,Aa (DN d r.1) x.1=true:=by
 obtain⟨hs,h2,h1,hn,hl⟩:=A3 h3
 have hpos:0<d.countP fun x=>x.2.1.length==0:=by
  have:HG d=d.countP fun x=>x.2.1.length==0:=rfl
  omega
 obtain⟨r,hr,pr⟩:=List.countP_pos_iff.1 hpos
 refine⟨r,hr,?_⟩
 have hrd:=Eu hr
 have hA:Xy d [r.1]:=⟨fun s hs=>by
  have:s=r.1:=by simpa using hs
  rw[this]
  exact hrd,by simp⟩
 obtain⟨m,hm1,hm2⟩:=Z3 (d:=d) (n:=d.length) (i:=0) hA (by omega) (fun j hj=>by omega) (by omega)
 have hsub:r.1∈DM d d.length 0 [r.1]:=Mr (by simp)
 have hb:DN d r.1=Ke (DM d d.length 0 [r.1]):=by unfold DN;rw[if_neg (by omega)]
 rw[hb]
 generalize DM d d.length 0 [r.1]=o at *
 have key:∀(k:Nat) (x:AJ),x∈d→HJ d x.1≤k→Aa o x.1=true:=by
  intro k
  induction k with
  | zero =>
   intro x hx hk
   by_cases hc:x.2.1.length=0
   ·have e:=Po h1 x hx (by simpa using hc) r hr pr
    rw[e]
    exact LY hsub
   ·obtain⟨s,hs2⟩:∃s,s∈x.2.1:=List.exists_mem_of_length_pos (by omega)
    have:=Mq hn hl hx (LY hs2)
    omega
  | succ k ih =>
   intro x hx hk
   by_cases hc:x.2.1.length=0
   ·have e:=Po h1 x hx (by simpa using hc) r hr pr
    rw[e]
    exact LY hsub
   ·obtain⟨s,hs2⟩:∃s,s∈x.2.1:=List.exists_mem_of_length_pos (by omega)
    have hrk:=Mq hn hl hx (LY hs2)
    obtain⟨y,hy,e⟩:=Ti s d 0 (hs x hx s hs2)
    rw[←Mp d e]at hrk
    obtain⟨z,hz,e2⟩:=List.any_eq_true.1 (ih y hy (by omega))
    obtain⟨j,hj,rfl⟩:=DZ ByteArray.empty hz
    refine hm1 j (by omega) x hx ?_
    exact List.any_eq_true.2 ⟨s,hs2,Et (B2 e2 e)⟩
 intro x hx
 obtain⟨z,hz,e⟩:=List.any_eq_true.1 (key _ x hx (Nat.le_refl _))
 obtain⟨w,hw,e2⟩:=List.any_eq_true.1 (Sq (o:=[]) hz)
 exact List.any_eq_true.2 ⟨w,hw,B2 e2 e⟩
/-! The greatest code comes first -/
abbrev cnt (c:List Int):Nat:=(HC c).length
theorem vN {w:Int} (hw:tJ w) {r:Nat} (hr:r<64):s5 w (r:Int)=w.toNat.testBit r:=by
 have h0:=hw.1
 have h1:=hw.2
 have hle:w.toNat / 2 ^ r≤w.toNat:=Nat.div_le_self _ _
 have e:Rl .u64 w (r:Int)=((w.toNat / 2 ^ r:Nat):Int):=by
  unfold Rl
  have hm:min ((r:Int)).toNat IntKind.u64.bits=r:=by
   show min ((r:Int)).toNat 64=r
   omega
  have hp:(0:Int)≤2 ^ r:=Int.le_of_lt (Int.pow_pos (by decide))
  rw[hm,Int.fdiv_eq_ediv_of_nonneg _ hp,Int.natCast_ediv,Int.toNat_of_nonneg h0]
  simp
 unfold s5
 rw[Nat.testBit_eq_decide_div_mod_eq,e]
 generalize w.toNat / 2 ^ r=z at *
 rw[HI ⟨by omega,by omega⟩ ⟨by decide,by decide⟩,Int.toNat_natCast,show (1:Int).toNat=1 from rfl,Nat.and_one_is_mod,Bool.eq_iff_iff,beq_iff_eq,decide_eq_true_eq]
 omega
theorem l3 {b:List Int} (hw:Hu b) (i:Nat):Sc b (i:Int)=BK b i:=by
 have e1:Int.tdiv (i:Int) 64=((i / 64:Nat):Int):=by rw[Int.tdiv_eq_ediv_of_nonneg (by omega)];omega
 have e2:Int.tmod (i:Int) 64=((i % 64:Nat):Int):=by rw[Int.tmod_eq_emod_of_nonneg (by omega)];omega
 unfold Sc BK
 rw[e1,e2,Int.toNat_natCast]
 by_cases hk:i / 64<b.length
 ·rw[if_neg (by rw[Bool.or_eq_true,decide_eq_true_eq,decide_eq_true_eq];omega),vN (A4 hw _) (by omega)]
 ·rw[if_pos (by rw[Bool.or_eq_true,decide_eq_true_eq,decide_eq_true_eq];omega),GC hk]
  simp
theorem Z4 (c:List Int):(HC c).Nodup:=by
 unfold HC L6 List.Nodup
 rw[List.pairwise_map]
 refine List.Pairwise.imp (fun h e=>h ?_) (List.Pairwise.filter _ List.nodup_range)
 exact Int.ofNat.inj e
theorem Lj {c:List Int} (hw:Hu c) {x:Int}:x∈HC c↔∃i:Nat,x=(i:Int)∧BK c i=true:=by
 unfold HC L6
 rw[List.mem_map]
 constructor
 ·rintro⟨i,hi,rfl⟩
  rw[List.mem_filter]at hi
  exact⟨i,rfl,by rw[←l3 hw];exact hi.2⟩
 ·rintro⟨i,rfl,hb⟩
  refine⟨i,List.mem_filter.2 ⟨List.mem_range.2 ?_,by rw[l3 hw];exact hb⟩,rfl⟩
  refine Classical.byContradiction fun hc=>?_
  unfold BK at hb
  rw[GC (by omega)]at hb
  simp at hb
theorem A1U {a b:List Int} (ha:Hu a) (hb:Hu b) (h:∀i,BK a i=true→BK b i=true) (hc:cnt b≤cnt a) (i:Nat) (hi:BK b i=true):BK a i=true:=by
 refine Classical.byContradiction fun hn=>?_
 have hx:(i:Int)∉HC a:=fun hm=>by
  obtain⟨j,e,hj⟩:=(Lj ha).1 hm
  have:i=j:=Int.ofNat.inj e
  rw[this]at hn
  exact hn hj
 have:=Pl (l:=(i:Int) :: HC a) (l':=HC b) (List.nodup_cons.2 ⟨hx,Z4 a⟩) fun x hx=>by
  rcases List.mem_cons.1 hx with rfl|hx
  ·exact(Lj hb).2 ⟨i,rfl,hi⟩
  ·obtain⟨j,rfl,hj⟩:=(Lj ha).1 hx
   exact(Lj hb).2 ⟨j,rfl,h j hj⟩
 rw[List.length_cons]at this
 unfold cnt at hc
 omega
theorem Tj (x:AQ) (out:List AQ):∀n,(E2 x out n=0→n=0∨FK x (out.getD 0 c0)=true)∧∀k,E2 x out n=k+1→FK x (out.getD k c0)=false
 | 0=>⟨fun _=>.inl rfl,fun k h=>by simp[E2]at h⟩
 | n+1=>by
  obtain⟨h1,h2⟩:=Tj x out n
  unfold E2
  split
  ·rename_i hb
   refine⟨fun e=>?_,h2⟩
   rcases h1 e with e|e
   ·subst e
    exact .inr hb
   ·exact .inr e
  ·rename_i hb
   refine⟨fun e=>by omega,fun k e=>?_⟩
   have:n=k:=by omega
   subst this
   simpa using hb
theorem Z5 {a b:AQ} (h:FK a b=true):cnt b.2≤cnt a.2:=by
 unfold FK at h
 rw[Bool.or_eq_true,Bool.and_eq_true,decide_eq_true_eq,beq_iff_eq]at h
 unfold cnt
 omega
theorem Xm {a b:AQ} (h:FK a b=false):cnt a.2≤cnt b.2:=by
 unfold FK at h
 rw[Bool.or_eq_false_iff,decide_eq_false_iff_not]at h
 unfold cnt
 omega
def HM (out:List AQ):Prop:=∀y∈out,cnt y.2≤cnt (out.getD 0 c0).2
theorem A0I {out:List AQ} (h:HM out) (x:AQ):HM (XO out x):=by
 obtain⟨s1,s2⟩:=Tj x out out.length
 have hle:=ZH x out out.length
 intro y hy
 rw[ZL]at hy
 unfold XO
 cases hk:E2 x out out.length with
 | zero =>
  rw[List.take_zero,List.drop_zero,List.nil_append]
  have e:([x]++out).getD 0 c0=x:=rfl
  rw[e]
  rcases hy with rfl|hy
  ·exact Nat.le_refl _
  ·have h1:=h y hy
   rcases s1 hk with e|e
   ·rw[List.eq_nil_of_length_eq_zero e]at hy
    cases hy
   ·exact Nat.le_trans h1 (Z5 e)
 | succ k =>
  have hb:=Xm (s2 k hk)
  rw[hk]at hle
  have e:(out.take (k+1)++[x]++out.drop (k+1)).getD 0 c0=out.getD 0 c0:=by
   cases out with
   | nil=>simp at hle
   | cons z out=>rfl
  rw[e]
  rcases hy with rfl|hy
  ·exact Nat.le_trans hb (h _ (CS (by omega)))
  ·exact h y hy
theorem Z6 {d:List AJ}:∀ {l:List (List Int)} {o:List AQ},HM o→HM (l.foldl (PZ d) o)
 | [],_,h=>h
 | b :: l,o,h=>by
  rw[List.foldl_cons]
  exact Z6 (A0I h _)
/-! Codes hold no other numbers than those of the declared types -/
def In (n:Nat) (c:List Int):Prop:=Hu c∧∀i,BK c i=true→i<n
theorem A1V (n:Nat):In n []:=⟨fun x hx=>(by cases hx),fun i hi=>by unfold BK at hi;simp at hi⟩
theorem A1W {n:Nat} {a b:List Int} (ha:In n a) (hb:In n b):In n (FT a b) :=
 ⟨XS ha.1 hb.1,fun i hi=>by
  rw[Ra ha.1 hb.1,Bool.and_eq_true]at hi
  exact ha.2 i hi.1⟩
theorem l4 {n:Nat} {l:List (List Int)} (h:∀c∈l,In n c) (k:Nat):In n (l.getD k []):=by
 by_cases hk:k<l.length
 ·exact h _ (CS hk)
 ·rw[Vc hk]
  exact A1V n
theorem A0J {n:Nat} {l:List (List Int)} (h:∀c∈l,In n c) (i k:Nat):∀c∈GP l i k,In n c:=by
 intro c hc
 unfold GP at hc
 split at hc
 ·rcases List.mem_append.1 hc with hc|hc
  ·exact h c hc
  ·have:c=FT (l.getD i []) (l.getD k []):=by simpa using hc
   rw[this]
   exact A1W (l4 h i) (l4 h k)
 ·exact h c hc
theorem l5 {q i:Nat}:∀ {n k:Nat} {l:List (List Int)},(∀c∈l,In q c)→∀c∈GQ i n k l,In q c
 | 0,_,_,h=>h
 | n+1,k,l,h=>by
  unfold GQ
  split
  ·exact l5 (A0J h i k)
  ·exact h
theorem l6 {q:Nat}:∀ {n i:Nat} {l:List (List Int)},(∀c∈l,In q c)→∀c∈IL n i l,In q c
 | 0,_,_,h=>h
 | n+1,i,l,h=>by
  unfold IL
  split
  ·exact l6 (l5 h)
  ·exact h
def A4e (h:AN):Prop:=∀t,0≤t→t<(h.1.length:Int)→Cr h 0 t=true
theorem Z7 (d:List AJ):A4e (A8 d).1:=by
 have hk:=Kp d
 unfold A8 at hk ⊢
 split
 ·intro t h0 h1
  simp at h1
  omega
 ·rename_i hv
  rw[if_neg hv]at hk
  have hv:(BJ d).2=0:=Classical.byContradiction hv
  have h5:BH d=0:=by
   unfold BJ at hv
   split at hv
   ·rename_i h;exact absurd hv h
   ·rename_i h;exact Classical.byContradiction h
  obtain⟨hz,-,-⟩:=CK h5
  obtain⟨h3,hlen,-⟩:=Be hz
  obtain⟨-,h2,-,hn,hl⟩:=A3 h3
  have hnl:=Er d d.length
  rw[List.take_length]at hnl
  have hal:(AR d).length≤4096:=by omega
  obtain⟨r,hr,hbel⟩:=dX h3
  have hin:∀c∈A0 (Ad d),In (AR d).length c:=l6 fun c hc=>by
   obtain⟨s,hs,rfl⟩:=List.mem_map.1 hc
   exact⟨(D6 (d:=d) hal s 0).2.1,fun i hi=>((D6 (d:=d) hal s i).1.1 hi).1⟩
  obtain⟨s,hs,es⟩:=List.any_eq_true.1 (Ss hr)
  have hsr:s=r.1:=by
   obtain⟨x,hx,rfl⟩:=Fk hs
   rw[ZC hn hx hr es]
  subst hsr
  have hc0:GV d (AR d) r.1∈A0 (Ad d):=by
   have hp:Ad d <+: A0 (Ad d):=S2 257 0 (Ad d)
   exact hp.subset (List.mem_map.2 ⟨_,hs,rfl⟩)
  have hall:∀i,i<(AR d).length→BK (GV d (AR d) r.1) i=true:=fun i hi=>by
   refine(D6 (d:=d) hal r.1 i).1.2 ⟨hi,?_⟩
   obtain⟨x,hx,e⟩:=Fk (CS (d:=ByteArray.empty) hi)
   rw[←e]
   exact hbel x hx
  have hHM:HM (Ax d):=Z6 fun y hy=>by cases hy
  have hmem0:=DQ.2 ⟨_,hc0,rfl⟩
  have hpos:0<(Ax d).length:=List.length_pos_of_mem hmem0
  have hmax:=hHM _ hmem0
  obtain⟨b,hb,eb⟩:=DQ.1 (CS (d:=c0) hpos)
  rw[eb]at hmax
  have hfull:=A1U (hin b hb).1 (hin _ hc0).1 (fun i hi=>hall i ((hin b hb).2 i hi)) hmax
  have hcode:BO (GD d) 0=b:=by
   show ((Eg (Ax d) _ _).getD 0 Va).2.1=b
   have:(Eg (Ax d) (BJ d).1 (Ax d).length).getD 0 Va=(((Ax d).getD 0 c0).1,((Ax d).getD 0 c0).2,ZO (Ax d) ((0:Nat):Int),(BJ d).1.getD 0 []):=by
    unfold Eg
    rw[List.getD_eq_getElem?_getD,List.getElem?_map,List.getElem?_range hpos]
    rfl
   rw[this,eb]
  have hlenT:(GD d).1.length=(Ax d).length:=Lc _ _ _
  intro t t0 t1
  refine(CH hk (by omega) (by show (0:Int)<((GD d).1.length:Int);omega) t0 t1).2 fun i hi=>?_
  show BK (BO (GD d) 0) i=true
  rw[hcode]
  refine hfull i (hall i ?_)
  have hcm:=B3 t0 t1
  have hmem:BO (GD d) t∈A0 (Ad d):=by
   have e:((GD d).1.map fun t=>t.2.1)=(Ax d).map fun x=>x.2:=by
    show ((Eg _ _ _).map fun t=>t.2.1)=_
    unfold Eg
    rw[List.map_map]
    apply List.ext_getElem
    ·simp
    ·intro i h1 h2
     simp[List.getD_eq_getElem?_getD,show i<(Ax d).length by simpa using h1]
   have hcm2:BO (GD d) t∈(GD d).1.map fun t=>t.2.1:=hcm
   rw[e]at hcm2
   obtain⟨x,hx,ex⟩:=List.mem_map.1 hcm2
   obtain⟨c,hc,rfl⟩:=DQ.1 hx
   rw[←ex]
   exact hc
  exact(hin _ hmem).2 i hi
end
/- Plain: a path as a tree; the most general structure with one value at two paths. -/
section
theorem vO {f:List AF} {p:List Int} {n:Int} (h:Cb f 0 p=some n) (k:Nat):∃m,Cb f 0 (p.take k)=some m:=by
 cases hh:Cb f 0 (p.take k) with
 | none =>
  have:=Pi (p.take k) 0 (p.drop k) hh
  rw[List.take_append_drop,h]at this
  cases this
 | some m=>exact⟨m,rfl⟩
end
/- Functions of path: Under, step, At. -/
section
def EE (l:List (Int×Int)) (e:Int):Int×Bool:=match l with
 | []=>(0,false)
 | a :: l=>if a.1=e then (a.2,true) else EE l e
theorem Tk (e:Int) (l:List (Int×Int)) {k:Nat} (h:k<l.length):EE (l.drop k) e=if (l.getD k (0,0)).1=e then ((l.getD k (0,0)).2,true) else EE (l.drop (k+1)) e:=by
 rw[List.drop_eq_getElem_cons h]
 have e:l.getD k (0,0)=l[k]:=by simp[List.getD_eq_getElem?_getD,h]
 rw[e]
 rfl
def l7:Ac:={ ins:=[FW,T3,T3],pre:=fun(f,n,_,_)=>HP f∧0≤n∧n<(List.length f:Int),out:=fun(f,n,e,_)=>[.p T3 (EE (List.getD f n.toNat (0,[])).2 e).1,.p .bool (EE (List.getD f n.toNat (0,[])).2 e).2] }
theorem A0K:Ai Tryz.prog 82 l7:=by
 refine AP Tryz.func82 (by kernel_rfl) rfl Tryz.ntmps82 (by decide) (by kernel_rfl) (AH []) AI ?_
 rintro w0 O0 ⟨f,n,e,u⟩ hc-⟨hf,h0,h1⟩
 simp only[l7,AM]
 repeat'(first|exact trivial|refine eS rfl ?_|refine AB ?_|refine rX [0,1,2,3,6,7,9,15,16,17,18,24] hc ?_ ?_|refine rC ?_ ?_<;>intro AA<;>try(cases AA;done))
 ·exact⟨h0,h1⟩
 ·generalize hx:(f.getD n.toNat (0,[])).2=xs at *
  have hxl:xs.length≤100000:=by
   rw[←hx]
   have hn:n.toNat<f.length:=by
    have h0:(0:Int)≤n:=h0
    have h1:(n:Int)<(List.length f:Int):=h1
    exact(Int.toNat_lt h0).2 h1
   exact hf.2 _ (AD f (0,[]) hn)
  refine AK (ι:={k:Nat//k≤xs.length∧EE xs e=EE (xs.drop k) e}) (fun k=>⟨[(2,.p T3 e),(15,.p Ee xs),(16,.p (.int .i64) (xs.length:Int)),(17,.p (.int .i64) (k.1:Int))],[]⟩) (fun k=>xs.length-k.1) ⟨0,Nat.zero_le _,rfl⟩ (AC [] rfl rfl ?_ ?_) (fun k=>?_)
  ·first|exact eN|refine eM ?_
  ·first|exact eN|refine eM ?_
  ·obtain⟨k,hk,he⟩:=k
   repeat'(first|exact trivial|refine eS rfl ?_|refine AB ?_|refine rX [0,1,2,3,6,7,9,15,16,17,18,24] hc ?_ ?_|refine rC ?_ ?_<;>intro AA<;>try(cases AA;done))
   ·exact AA
   ·have hk2:k<xs.length:=Int.ofNat_lt.1 (by assumption)
    have h:=Tk e xs hk2
    rw[if_pos AA]at h
    rw[he,h]
    exact AG hc [.tmp 6,.tmp 7] rfl (.inl rfl) (by simp) (by first|exact eR|refine Ap ?_)
   ·omega
   ·have hk2:k<xs.length:=Int.ofNat_lt.1 (by assumption)
    have h:=Tk e xs hk2
    rw[if_neg AA]at h
    refine⟨⟨k+1,hk2,he.trans h⟩,by simp only;omega,AC [] rfl rfl ?_ ?_⟩
    ·first|exact eN|refine eM ?_
    ·first|exact eN|refine eM ?_
   ·have hk2:xs.drop k=[]:=List.drop_eq_nil_of_le (Int.ofNat_le.1 AA)
    rw[hk2]at he
    rw[he]
    exact AG hc [.tmp 6,.tmp 7] rfl (.inl rfl) (by simp) (by first|exact eR|refine Ap ?_;exact⟨rfl,rfl⟩)
end
/- Functions of path: At; of grammarlablaw11: short. -/
section
attribute [local go_sem] l7
def Gf (f:List AF):Int→List Int→Int×Bool
 | n,[]=>(n,true)
 | n,e :: p=>if (EE (AU f n) e).2=true then Gf f (EE (AU f n) e).1 p else (0,false)
theorem De {p:List Int} {k:Nat} (h:k<p.length):p.drop k=p.getD k 0 :: p.drop (k+1):=by
 rw[List.drop_eq_getElem_cons h]
 simp[List.getD_eq_getElem?_getD,h]
theorem Od {l:List (Int×Int)} {e:Int} (h:(EE l e).2=true):∃a∈l,a.1=e∧a.2=(EE l e).1:=by
 induction l with
 | nil=>simp[EE]at h
 | cons a l ih =>
  simp only[EE]at h ⊢
  split
  ·rename_i e1
   exact⟨a,by simp,e1,rfl⟩
  ·rename_i e1
   rw[if_neg e1]at h
   obtain⟨b,hb,h1,h2⟩:=ih h
   exact⟨b,by simp[hb],h1,h2⟩
theorem pM {l:List (Int×Int)} (hs:Rg l) (hn:∀a∈l,0≤a.2) (e:Int):EE l e=if aP l e<0 then (0,false) else (aP l e,true):=by
 cases h:(EE l e).2 with
 | true =>
  obtain⟨a,ha,e1,e2⟩:=Od h
  have ht:=Xh hs ha
  rw[e1]at ht
  have:=hn a ha
  rw[if_neg (by omega),ht,e2,←h]
 | false =>
  have hno:∀a∈l,a.1≠e:=by
   intro a ha e1
   clear hs hn
   induction l with
   | nil=>cases ha
   | cons b l ih =>
    simp only[EE]at h
    split at h
    ·cases h
    ·rename_i hb
     rcases List.mem_cons.1 ha with rfl|ha
     ·exact hb e1
     ·exact ih h ha
  have ht:aP l e=-1:=by
   unfold aP
   clear hs hn h
   generalize (-1:Int)=t
   induction l with
   | nil=>rfl
   | cons b l ih =>
    rw[List.foldl_cons,if_neg (hno b (by simp))]
    exact ih (fun a ha=>hno a (by simp[ha]))
  have h0:(EE l e).1=0:=by
   clear hs hn ht
   induction l with
   | nil=>rfl
   | cons b l ih =>
    simp only[EE]
    rw[if_neg (hno b (by simp))]
    refine ih ?_ (fun a ha=>hno a (by simp[ha]))
    simp only[EE]at h
    rwa [if_neg (hno b (by simp))]at h
  rw[ht,if_pos (by decide),←h0,←h]
theorem Z8 {f:List AF} (hf:AY f) (hs:∀x∈f,Rg x.2):∀(p:List Int) (n:Int),Gf f n p=match Cb f n p with|some m=>(m,true)|none=>(0,false)
 | [],n=>rfl
 | e :: p,n=>by
  have h:=pM (Tf hs n) (fun a ha=>(A9 hf ha).1) e
  simp only[Gf,Cb]
  rw[h]
  by_cases ht:aP (AU f n) e<0
  ·rw[if_pos ht,if_pos ht]
   rfl
  ·rw[if_neg ht,if_neg ht]
   exact Z8 hf hs p _
def atS:Ac:={ ins:=[FW,Bx],pre:=fun(f,_,_)=>AY f∧0<List.length f,out:=fun(f,p,_)=>[.p T3 (Gf f 0 p).1,.p .bool (Gf f 0 p).2] }
attribute [local go_sem] atS
theorem A4g:Ai Tryz.prog 56 atS:=by
 refine AP Tryz.func56 (by kernel_rfl) rfl Tryz.ntmps56 (by decide) (by kernel_rfl) (AH [(82,l7)]) (AE A0K AI) ?_
 rintro w0 O0 ⟨f,p,u⟩ hc ⟨-,⟨hpl,-⟩,-⟩ ⟨hf,h0⟩
 simp only[AO]at hpl
 simp only[atS,AM]
 have hsm:HP f:=⟨hf.1,fun x hx=>(hf.2 x hx).1⟩
 have h0:0<f.length:=h0
 repeat'(first|exact trivial|refine eS rfl ?_|refine AB ?_|refine rX [0,1,2,4,5,6,8,9,10,11,12,13,14,25] hc ?_ ?_|refine rC ?_ ?_<;>intro AA<;>try(cases AA;done))
 refine AK (ι:={s:Nat×Int//s.1≤p.length∧(0≤s.2∧s.2<(f.length:Int))∧Gf f 0 p=Gf f s.2 (p.drop s.1)}) (fun s=>⟨[(2,.bp 2 [] 0),(6,.p T3 s.1.2),(11,.p Bx p),(12,.p (.int .i64) (p.length:Int)),(13,.p (.int .i64) (s.1.1:Int))],[(2,.box 24 true [.p Jm f])]⟩) (fun s=>p.length-s.1.1) ⟨(0,0),Nat.zero_le _,⟨Int.le_refl 0,by show (0:Int)<_;omega⟩,rfl⟩ (AC [(2,.nm 2)] rfl rfl ?_ ?_) (fun s=>?_)
 ·first|exact eN|refine eM ?_
 ·first|exact eN|refine eM ?_
 ·obtain⟨⟨k,n⟩,hk,hn,he⟩:=s
  simp only at hk hn he ⊢
  repeat'(first|exact trivial|refine eS rfl ?_|refine AB ?_|refine rX [0,1,2,4,5,6,8,9,10,11,12,13,14,25] hc ?_ ?_|refine rC ?_ ?_<;>intro AA<;>try(cases AA;done))
  ·exact AA
  ·exact⟨hsm,hn⟩
  ·have hk2:k<p.length:=Int.ofNat_lt.1 (by assumption)
   have h1:Gf f 0 p=(0,false):=by
    rw[he,De hk2]
    simp only[Gf]
    rw[if_neg (by rw[AA];simp)]
   exact AG hc [.tmp 4,.tmp 5] rfl (.inl rfl) (by simp) (by rw[h1];first|exact eR|refine Ap ?_)
  ·omega
  ·have hk2:k<p.length:=Int.ofNat_lt.1 (by assumption)
   have h1:=he
   rw[De hk2]at h1
   simp only[Gf]at h1
   rw[if_pos AA]at h1
   obtain⟨a,ha,-,e2⟩:=Od AA
   have hr:=A9 hf ha
   rw[e2]at hr
   refine⟨⟨(k+1,(EE (f.getD n.toNat (0,[])).2 (p.getD k 0)).1),hk2,hr,h1⟩,by simp only;omega,AC [(2,.nm 2)] rfl rfl ?_ ?_⟩
   ·first|exact eN|refine eM ?_
   ·first|exact eN|refine eM ?_
  ·have hk2:p.drop k=[]:=List.drop_eq_nil_of_le (Int.ofNat_le.1 AA)
   rw[hk2]at he
   exact AG hc [.tmp 4,.tmp 5] rfl (.inl rfl) (by simp) (by rw[he];first|exact eR|refine Ap ?_;exact⟨rfl,rfl⟩)
end
/- Functions of grammarlabref11: Apart, Merge, target. -/
section
def UW (l:List (Int×Int)) (e:Int):Int×Bool:=match l with
 | []=>(0,false)
 | a :: r=>if a.1=e then (a.2,true) else UW r e
end
/- Plain: what grammarlabref11.Close does, step by step. -/
section
/-! Sums -/
/-! The state -/
structure CI (n:Nat) (o:List Int) (ar:List (List (Int×Int))) (W:List (Int×Int)):Prop where
 lo:o.length=n
 la:ar.length=n
 rep:∀k:Nat,k<n→0≤o.getD k 0∧o.getD k 0≤(k:Int)∧o.getD (o.getD k 0).toNat 0=o.getD k 0
 wr:∀w∈W,(0≤w.1∧w.1<(n:Int))∧(0≤w.2∧w.2<(n:Int))
 ta:∀k,∀a∈ar.getD k [],0≤a.2∧a.2<(n:Int)
theorem CI.rng {n:Nat} {o:List Int} {ar:List (List (Int×Int))} {W:List (Int×Int)} (h:CI n o ar W) {x:Int} (x0:0≤x) (x1:x<(n:Int)):0≤o.getD x.toNat 0∧o.getD x.toNat 0<(n:Int)∧o.getD (o.getD x.toNat 0).toNat 0=o.getD x.toNat 0:=by
 obtain⟨h1,h2,h3⟩:=h.rep x.toNat (by omega)
 exact⟨h1,by omega,h3⟩
section
variable {n:Nat} {o:List Int} {ar:List (List (Int×Int))} {W:List (Int×Int)} {x y:Int}
end
end
/- Functions of grammarlabref08, 06, 11: Step, find, Meet, Types. -/
section
attribute [local go_sem] L5 Yy
def Pp:Ac:={ ins:=[FW,T3,T3],pre:=fun(f,n,_,_)=>(0:Int)≤n∧n<(List.length f:Int),out:=fun(f,n,e,_)=>[.p T3 (UW (List.getD (f:List AF) (Int.toNat n) (0,[])).2 e).1,.p .bool (UW (List.getD (f:List AF) (Int.toNat n) (0,[])).2 e).2],lend:=true }
attribute [local go_sem] Pp
theorem vP:Ai Tryz.prog 83 Pp:=by
 refine AP Tryz.func83 (by kernel_rfl) rfl Tryz.ntmps83 (by decide) (by kernel_rfl) (AH []) AI ?_
 rintro w0 O0 ⟨f,n,e,u⟩ hc ⟨⟨hlf,hf⟩,-⟩ hn
 simp only[Pp,AM]
 repeat'(first|exact trivial|refine eS rfl ?_|refine AB ?_|refine rX [0,1,2,3,6,7,8,9,19,28] hc ?_ ?_|refine rC ?_ ?_<;>intro AA<;>try(cases AA;done))
 ·exact hn
 ·have hL:List.length (List.getD (f:List AF) (Int.toNat n) (0,[])).2≤AO:=by
   have h1:Int.toNat n<List.length f:=(Int.toNat_lt hn.1).2 hn.2
   have:=hf _ (AD (f:List AF) (0,[]) h1)
   exact this.2.1
  simp only[AO]at hL
  generalize (List.getD (f:List AF) (Int.toNat n) (0,[])).2=l at *
  refine AK (ι:={k:Nat//k≤l.length∧UW (l.drop k) e=UW l e}) (fun k=>⟨[(2,.p T3 e),(8,.p Ee l),(9,.p (.int .i64) (k.1:Int))],[]⟩) (fun k=>l.length-k.1) ⟨0,by simp⟩ (AC [] rfl rfl ?_ ?_) (fun k=>?_)
  ·first|exact eN|refine eM ?_
  ·first|exact eN|refine eM ?_
  ·obtain⟨k,hk,hg⟩:=k
   have hd:k<l.length→l.drop k=l.getD k (0,0) :: l.drop (k+1):=fun h=>by
    rw[List.drop_eq_getElem_cons h,List.getD_eq_getElem?_getD,List.getElem?_eq_getElem h];rfl
   have hgd:k<l.length→(if (l.getD k (0,0)).1=e then ((l.getD k (0,0)).2,true) else UW (l.drop (k+1)) e)=UW l e:=fun h=>by
    rw[hd h]at hg;exact hg
   repeat'(first|exact trivial|refine eS rfl ?_|refine AB ?_|refine rX [0,1,2,3,6,7,8,9,19,28] hc ?_ ?_|refine rC ?_ ?_<;>intro AA<;>try(cases AA;done))
   ·exact eV
   ·exact eV
   ·have hkl:k<l.length:=by exact eV
    have hg:=hgd hkl
    rw[if_pos AA]at hg
    exact AG hc [.tmp 6,.tmp 7] rfl (.inl rfl) (by simp) (by rw[←hg];first|exact eR|refine Ap ?_)
   ·exact eV
   ·have hkl:k<l.length:=by exact eV
    have hg:=hgd hkl
    rw[if_neg AA]at hg
    refine⟨⟨k+1,by omega,hg⟩,by simp only;omega,AC [] rfl rfl ?_ ?_⟩
    ·first|exact eN|refine eM ?_
    ·first|exact eN|refine eM ?_
   ·have hk:l.drop k=[]:=List.drop_eq_nil_of_le (by exact eV)
    rw[hk]at hg
    have hg:(0,false)=UW l e:=hg
    exact AG hc [.tmp 6,.tmp 7] rfl (.inl rfl) (by simp) (by rw[←hg];first|exact eR|refine Ap ?_)
def H0 (b:List Int):List Iq→Nat→Int×Bool
 | [],_=>(0,false)
 | t :: r,k=>if t.2.1=b then ((k:Int),true) else H0 b r (k+1)
def Xn:Ac:={ ins:=[II,A6],pre:=fun _=>True,out:=fun(h,b,_)=>[.p T3 (H0 b (h:AN).1 0).1,.p .bool (H0 b (h:AN).1 0).2],lend:=true }
attribute [local go_sem] Xn
theorem vQ:Ai Tryz.prog 99 Xn:=by
 refine AP Tryz.func99 (by kernel_rfl) rfl Tryz.ntmps99 (by decide) (by kernel_rfl) (AH [(125,L5)]) (AE XF AI) ?_
 rintro w0 O0 ⟨⟨l,hf⟩,b,u⟩ hc ⟨⟨⟨hl,-⟩,-⟩,-⟩ -
 simp only[AO]at hl
 simp only[Xn,AM]
 repeat'(first|exact trivial|refine eS rfl ?_|refine AB ?_|refine rX [0,1,2,4,5,6,11,21] hc ?_ ?_|refine rC ?_ ?_<;>intro AA<;>try(cases AA;done))
 refine AK (ι:={k:Nat//k≤List.length l∧H0 b (List.drop k l) k=H0 b l 0}) (fun k=>⟨[(1,.p A6 b),(2,.bp 2 [] 0),(6,.p (.int .i64) (k.1:Int))],[(2,.box 37 true [.p Xx l,.p Yq hf])]⟩) (fun k=>List.length l-k.1) ⟨0,by simp⟩ (AC [(2,.nm 2)] rfl rfl ?_ ?_) (fun k=>?_)
 ·first|exact eN|refine eM ?_
 ·first|exact eN|refine eM ?_
 ·obtain⟨k,hk,hg⟩:=k
  have hgd:k<List.length l→(if (List.getD l k Va).2.1=b then ((k:Int),true) else H0 b (List.drop (k+1) l) (k+1))=H0 b l 0:=fun h=>by
   rw[List.drop_eq_getElem_cons h]at hg
   rw[List.getD_eq_getElem?_getD,List.getElem?_eq_getElem h];exact hg
  repeat'(first|exact trivial|refine eS rfl ?_|refine AB ?_|refine rX [0,1,2,4,5,6,11,21] hc ?_ ?_|refine rC ?_ ?_<;>intro AA<;>try(cases AA;done))
  ·exact eV
  ·have hkl:k<List.length l:=by exact eV
   have hg:=hgd hkl
   have AA:(List.getD l k Va).2.1=b:=by simpa[HB] using AA
   rw[if_pos AA]at hg
   exact AG hc [.tmp 4,.tmp 5] rfl (.inl rfl) (by simp) (by rw[←hg];first|exact eR|refine Ap ?_)
  ·exact eV
  ·have hkl:k<List.length l:=by exact eV
   have hg:=hgd hkl
   have AA:¬(List.getD l k Va).2.1=b:=by simpa[HB] using AA
   rw[if_neg AA]at hg
   refine⟨⟨k+1,by omega,hg⟩,by simp only;omega,AC [(2,.nm 2)] rfl rfl ?_ ?_⟩
   ·first|exact eN|refine eM ?_
   ·first|exact eN|refine eM ?_
  ·have hk:List.drop k l=[]:=List.drop_eq_nil_of_le (by exact eV)
   rw[hk]at hg
   have hg:(0,false)=H0 b l 0:=hg
   exact AG hc [.tmp 4,.tmp 5] rfl (.inl rfl) (by simp) (by rw[←hg];first|exact eR|refine Ap ?_)
def CX (h:AN) (a b:Int):Int×Bool:=H0 (FT (BO h a) (BO h b)) h.1 0
def Pq:Ac:={ ins:=[II,T3,T3],pre:=fun(h,a,b,_)=>((0:Int)≤a∧a<(List.length (h:AN).1:Int))∧((0:Int)≤b∧b<(List.length (h:AN).1:Int))∧(∀x∈(h:AN).1,x.2.1.length≤100000),out:=fun(h,a,b,_)=>[.p T3 (CX h a b).1,.p .bool (CX h a b).2],lend:=true }
attribute [local go_sem] Pq
theorem vR:Ai Tryz.prog 67 Pq:=by
 refine AP Tryz.func67 (by kernel_rfl) rfl Tryz.ntmps67 (by decide) (by kernel_rfl) (AH [(99,Xn),(100,Yy)]) (AE vQ (AE b9 AI)) ?_
 rintro w0 O0 ⟨⟨ht,hf⟩,a,b,u⟩ hc-⟨ha,hb,hx⟩
 simp only[Pq,AM]
 have hcd:∀x:Int,0≤x∧x<(List.length ht:Int)→List.length (BO (ht,hf) x)≤100000:=fun x h1=>by
  have h2:Int.toNat x<List.length ht:=(Int.toNat_lt h1.1).2 h1.2
  exact hx _ (AD (ht:List Iq) Va h2)
 repeat'(first|exact trivial|refine eS rfl ?_|refine AB ?_|refine rX [0,1,2,3,6,7] hc ?_ ?_|refine rC ?_ ?_<;>intro AA<;>try(cases AA;done))
 ·refine⟨ha,hb,?_⟩
  exact hcd a ha
 ·exact AG hc [.tmp 6,.tmp 7] rfl (.inl rfl) (by simp) (by unfold CX BO;first|exact eR|refine Ap ?_)
end
/- Types at paths: path.Type, quick.Vector; of the references: At, Type, Vector, SameInts. -/
section
attribute [local go_sem] atS Pp
theorem Vy (e:Int):∀l:List (Int×Int),UW l e=EE l e
 | []=>rfl
 | a :: l=>by unfold UW EE;rw[Vy e l]
theorem Oe {f:List AF} (hf:AY f):∀(p:List Int) (n:Int),0≤n→n<(f.length:Int)→(Gf f n p).2=true→0≤(Gf f n p).1∧(Gf f n p).1<(f.length:Int)
 | [],n,h0,h1,_=>⟨h0,h1⟩
 | e :: p,n,h0,h1,h=>by
  unfold Gf at h ⊢
  split
  ·rename_i hs
   rw[if_pos hs]at h
   obtain⟨a,ha,-,e2⟩:=Od hs
   have:=A9 hf ha
   rw[e2]at this
   exact Oe hf p _ this.1 this.2 h
  ·rename_i hs
   rw[if_neg hs]at h
   cases h
def A0L:Ac:={ ins:=[FW,Bx],pre:=fun(f,_,_)=>AY f∧0<List.length f,out:=fun(f,p,_)=>[.p T3 (Gf f 0 p).1,.p .bool (Gf f 0 p).2] }
attribute [local go_sem] A0L
theorem A1X:Ai Tryz.prog 57 A0L:=by
 refine AP Tryz.func57 (by kernel_rfl) rfl Tryz.ntmps57 (by decide) (by kernel_rfl) (AH [(83,Pp)]) (AE vP AI) ?_
 rintro w0 O0 ⟨f,p,u⟩ hc ⟨-,⟨hpl,-⟩,-⟩ ⟨hf,h0⟩
 simp only[AO]at hpl
 simp only[A0L,AM]
 repeat'(first|exact trivial|refine eS rfl ?_|refine AB ?_|refine rX [0,1,2,4,5,6,7,8,9,13,27] hc ?_ ?_|refine rC ?_ ?_<;>intro AA<;>try(cases AA;done))
 refine AK (ι:={s:Nat×Int//s.1≤p.length∧(0≤s.2∧s.2<(f.length:Int))∧Gf f 0 p=Gf f s.2 (p.drop s.1)}) (fun s=>⟨[(1,.p Bx p),(2,.bp 2 [] 0),(6,.p (.int .i64) s.1.2),(7,.p (.int .i64) (s.1.1:Int))],[(2,.box 24 true [.p Jm f])]⟩) (fun s=>p.length-s.1.1) ⟨(0,0),Nat.zero_le _,⟨Int.le_refl 0,by show (0:Int)<_;omega⟩,rfl⟩ (AC [(2,.nm 2)] rfl rfl ?_ ?_) (fun s=>?_)
 ·first|exact eN|refine eM ?_
 ·first|exact eN|refine eM ?_
 ·obtain⟨⟨k,n⟩,hk,hn,he⟩:=s
  simp only at hk hn he ⊢
  have htar:=fun e=>Vy e (f.getD n.toNat (0,[])).2
  repeat'(first|exact trivial|refine eS rfl ?_|refine AB ?_|refine rX [0,1,2,4,5,6,7,8,9,13,27] hc ?_ ?_|refine rC ?_ ?_<;>intro AA<;>try(cases AA;done))
  ·exact⟨AA,hn⟩
  ·have hk2:k<p.length:=by exact eV
   rw[htar]at AA
   have h1:Gf f 0 p=(0,false):=by
    rw[he,De hk2]
    simp only[Gf]
    rw[if_neg (by rw[AU,AA];simp)]
   exact AG hc [.tmp 4,.tmp 5] rfl (.inl rfl) (by simp) (by rw[h1];first|exact eR|refine Ap ?_)
  ·exact eV
  ·have hk2:k<p.length:=by exact eV
   rw[htar]at AA
   have h1:=he
   rw[De hk2]at h1
   simp only[Gf]at h1
   rw[if_pos AA]at h1
   obtain⟨a,ha,-,e2⟩:=Od AA
   have hr:=A9 hf ha
   rw[e2]at hr
   refine⟨⟨(k+1,(EE (f.getD n.toNat (0,[])).2 (p.getD k 0)).1),hk2,hr,h1⟩,by simp only;omega,AC [(2,.nm 2)] rfl rfl ?_ ?_⟩
   ·first|exact eN|refine eM ?_
   ·simp only
    rw[←htar]
    first|exact eN|refine eM ?_
  ·have hk2:p.drop k=[]:=List.drop_eq_nil_of_le (Int.ofNat_le.1 AA)
   rw[hk2]at he
   exact AG hc [.tmp 4,.tmp 5] rfl (.inl rfl) (by simp) (by rw[he];first|exact eR|refine Ap ?_;exact⟨rfl,rfl⟩)
def Dp (f:List AF) (p:List Int):Int×Bool:=if (Gf f 0 p).2=true then ((f.getD (Gf f 0 p).1.toNat (0,[])).1,true) else (0,false)
def MI:Ac:={ ins:=[FW,Bx],pre:=fun(f,_,_)=>AY f∧0<List.length f,out:=fun(f,p,_)=>[.p T3 (Dp f p).1,.p .bool (Dp f p).2],lend:=true }
attribute [local go_sem] MI
theorem l8:Ai Tryz.prog 33 MI:=by
 refine AP Tryz.func33 (by kernel_rfl) rfl Tryz.ntmps33 (by decide) (by kernel_rfl) (AH [(56,atS)]) (AE A4g AI) ?_
 rintro w0 O0 ⟨f,p,u⟩ hc-⟨hf,h0⟩
 simp only[MI,AM]
 have hr:=Oe hf p 0 (Int.le_refl 0) (by omega)
 repeat'(first|exact trivial|refine eS rfl ?_|refine AB ?_|refine rX [0,1,2,4,5,6,7,15] hc ?_ ?_|refine rC ?_ ?_<;>intro AA<;>try(cases AA;done))
 ·exact⟨hf,h0⟩
 ·exact AG hc [.tmp 4,.tmp 5] rfl (.inl rfl) (by simp) (by unfold Dp;rw[AA,if_neg (by simp)];first|exact eR|refine Ap ?_)
 ·exact hr AA
 ·exact AG hc [.tmp 4,.tmp 5] rfl (.inl rfl) (by simp) (by unfold Dp;rw[AA,if_pos rfl];first|exact eR|refine Ap ?_)
def l9:Ac:=MI
attribute [local go_sem] l9
theorem mA:Ai Tryz.prog 34 MI:=by
 refine AP Tryz.func34 (by kernel_rfl) rfl Tryz.ntmps34 (by decide) (by kernel_rfl) (AH [(57,A0L)]) (AE A1X AI) ?_
 rintro w0 O0 ⟨f,p,u⟩ hc-⟨hf,h0⟩
 simp only[MI,AM]
 have hr:=Oe hf p 0 (Int.le_refl 0) (by omega)
 repeat'(first|exact trivial|refine eS rfl ?_|refine AB ?_|refine rX [0,1,2,4,5,6,7,15] hc ?_ ?_|refine rC ?_ ?_<;>intro AA<;>try(cases AA;done))
 ·exact⟨hf,h0⟩
 ·exact AG hc [.tmp 4,.tmp 5] rfl (.inl rfl) (by simp) (by unfold Dp;rw[AA,if_neg (by simp)];first|exact eR|refine Ap ?_)
 ·exact hr AA
 ·exact AG hc [.tmp 4,.tmp 5] rfl (.inl rfl) (by simp) (by unfold Dp;rw[AA,if_pos rfl];first|exact eR|refine Ap ?_)
def Ei (f:List AF) (ps:List (List Int)):List Int:=ps.map fun p=>if (Dp f p).2=true then (Dp f p).1 else -1
theorem Vz (f:List AF) {ps:List (List Int)} {k:Nat} (h:k<ps.length):Ei f (ps.take (k+1))=Ei f (ps.take k)++[if (Dp f (ps.getD k [])).2=true then (Dp f (ps.getD k [])).1 else -1]:=by
 unfold Ei
 rw[Ae ps [] h,List.map_append]
 rfl
def Og:Ac:={ ins:=[FW,PN],pre:=fun(f,ps,_)=>AY f∧0<List.length f∧List.length ps≤1000,out:=fun(f,ps,_)=>[.p Bx (Ei f ps)] }
attribute [local go_sem] Og
theorem Xo:Ai Tryz.prog 14 Og:=by
 refine AP Tryz.func14 (by kernel_rfl) rfl Tryz.ntmps14 (by decide) (by kernel_rfl) (AH [(33,MI)]) (AE l8 AI) ?_
 rintro w0 O0 ⟨f,ps,u⟩ hc-⟨hf,h0,hpl⟩
 simp only[Og,AM]
 repeat'(first|exact trivial|refine eS rfl ?_|refine AB ?_|refine rX [0,1,2,4,5,7,8,9,10,11,12,13,23] hc ?_ ?_|refine rC ?_ ?_<;>intro AA<;>try(cases AA;done))
 refine AK (ι:={k:Nat//k≤List.length ps}) (fun k=>⟨[(2,.bp 2 [] 0),(10,.p PN ps),(11,.p (.int .i64) (List.length ps:Int)),(12,.p (.int .i64) (k.1:Int)),(5,.sr 27 T3 0 k.1)],[(2,.box 24 true [.p Jm f]),(27,.arr 3 T3 (Ei f ((ps:List (List Int)).take k.1)))]⟩) (fun k=>List.length ps-k.1) ⟨0,Nat.zero_le _⟩ (AC [(2,.nm 2),(27,.nil)] rfl rfl ?_ ?_) (fun k=>?_)
 ·first|exact eN|refine eM ?_
  rfl
 ·first|exact eN|refine eM ?_
 ·obtain⟨k,hk⟩:=k
  have hvl:(Ei f ((ps:List (List Int)).take k)).length=k:=by unfold Ei;rw[List.length_map,List.length_take];omega
  have hvs:=fun(h:k<List.length ps)=>Vz f h
  have htk:(Ei f ((ps:List (List Int)).take k)).take k=Ei f ((ps:List (List Int)).take k):=List.take_of_length_le (by omega)
  repeat'(first|exact trivial|refine eS rfl ?_|refine AB ?_|refine rX [0,1,2,4,5,7,8,9,10,11,12,13,23] hc ?_ ?_|refine rC ?_ ?_<;>intro AA<;>try(cases AA;done))
  ·exact AA
  ·exact⟨hf,h0⟩
  ·simp only[AO];dsimp only[Ty.den]at *;omega
  ·exact eV
  ·have hkl:k<List.length ps:=by exact eV
   have hvs:=hvs hkl
   rw[AA,if_neg (by simp)]at hvs
   refine⟨⟨k+1,hkl⟩,by simp only;omega,AC [(2,.nm 2),(27,.nm 27)] rfl rfl ?_ ?_⟩
   ·simp only
    rw[hvs]
    first|exact eN|refine eM ?_
    all_goals rw[htk]
   ·first|exact eN|refine eM ?_
  ·simp only[AO];dsimp only[Ty.den]at *;omega
  ·exact eV
  ·have hkl:k<List.length ps:=by exact eV
   have hvs:=hvs hkl
   rw[AA,if_pos rfl]at hvs
   refine⟨⟨k+1,hkl⟩,by simp only;omega,AC [(2,.nm 2),(27,.nm 27)] rfl rfl ?_ ?_⟩
   ·simp only
    rw[hvs]
    first|exact eN|refine eM ?_
    all_goals rw[htk]
   ·first|exact eN|refine eM ?_
  ·have hkl:(ps:List (List Int)).take k=ps:=List.take_of_length_le (by exact eV)
   rw[hkl]at htk ⊢
   exact AG hc [.tmp 4] rfl (.inl rfl) (by simp) (by first|exact eR|refine Ap ?_;exact htk)
def dY:Ac:=Og
attribute [local go_sem] dY
theorem vS:Ai Tryz.prog 15 Og:=by
 refine AP Tryz.func15 (by kernel_rfl) rfl Tryz.ntmps15 (by decide) (by kernel_rfl) (AH [(34,l9)]) (AE mA AI) ?_
 rintro w0 O0 ⟨f,ps,u⟩ hc-⟨hf,h0,hpl⟩
 simp only[Og,AM]
 repeat'(first|exact trivial|refine eS rfl ?_|refine AB ?_|refine rX [0,1,2,4,5,6,7,8,12,25] hc ?_ ?_|refine rC ?_ ?_<;>intro AA<;>try(cases AA;done))
 refine AK (ι:={k:Nat//k≤List.length ps}) (fun k=>⟨[(1,.p PN ps),(2,.bp 2 [] 0),(6,.p (.int .i64) (k.1:Int)),(5,.sr 29 T3 0 k.1)],[(2,.box 24 true [.p Jm f]),(29,.arr 3 T3 (Ei f ((ps:List (List Int)).take k.1)))]⟩) (fun k=>List.length ps-k.1) ⟨0,Nat.zero_le _⟩ (AC [(2,.nm 2),(29,.nil)] rfl rfl ?_ ?_) (fun k=>?_)
 ·first|exact eN|refine eM ?_
  rfl
 ·first|exact eN|refine eM ?_
 ·obtain⟨k,hk⟩:=k
  have hvl:(Ei f ((ps:List (List Int)).take k)).length=k:=by unfold Ei;rw[List.length_map,List.length_take];omega
  have hvs:=fun(h:k<List.length ps)=>Vz f h
  have htk:(Ei f ((ps:List (List Int)).take k)).take k=Ei f ((ps:List (List Int)).take k):=List.take_of_length_le (by omega)
  repeat'(first|exact trivial|refine eS rfl ?_|refine AB ?_|refine rX [0,1,2,4,5,6,7,8,12,25] hc ?_ ?_|refine rC ?_ ?_<;>intro AA<;>try(cases AA;done))
  ·exact⟨AA,hf,h0⟩
  ·simp only[AO];dsimp only[Ty.den]at *;omega
  ·exact eV
  ·have hkl:k<List.length ps:=by exact eV
   have hvs:=hvs hkl
   rw[AA,if_neg (by simp)]at hvs
   refine⟨⟨k+1,hkl⟩,by simp only;omega,AC [(2,.nm 2),(29,.nm 29)] rfl rfl ?_ ?_⟩
   ·simp only
    rw[hvs]
    first|exact eN|refine eM ?_
    all_goals rw[htk]
   ·first|exact eN|refine eM ?_
  ·simp only[AO];dsimp only[Ty.den]at *;omega
  ·exact eV
  ·have hkl:k<List.length ps:=by exact eV
   have hvs:=hvs hkl
   rw[AA,if_pos rfl]at hvs
   refine⟨⟨k+1,hkl⟩,by simp only;omega,AC [(2,.nm 2),(29,.nm 29)] rfl rfl ?_ ?_⟩
   ·simp only
    rw[hvs]
    first|exact eN|refine eM ?_
    all_goals rw[htk]
   ·first|exact eN|refine eM ?_
  ·have hkl:(ps:List (List Int)).take k=ps:=List.take_of_length_le (by exact eV)
   rw[hkl]at htk ⊢
   exact AG hc [.tmp 4] rfl (.inl rfl) (by simp) (by first|exact eR|refine Ap ?_;exact htk)
def M9:Ac:={ ins:=[Bx,Bx],pre:=fun _=>True,out:=fun(a,b,_)=>[.p .bool (decide ((a:List Int)=b))],lend:=true }
attribute [local go_sem] M9
theorem Z9:Ai Tryz.prog 13 M9:=by
 refine AP Tryz.func13 (by kernel_rfl) rfl Tryz.ntmps13 (by decide) (by kernel_rfl) (AH []) AI ?_
 rintro w0 O0 ⟨a,b,u⟩ hc ⟨⟨hal,-⟩,-⟩ -
 simp only[AO]at hal
 simp only[M9,AM]
 repeat'(first|exact trivial|refine eS rfl ?_|refine AB ?_|refine rX [0,1,4,5,10,14,25] hc ?_ ?_|refine rC ?_ ?_<;>intro AA<;>try(cases AA;done))
 ·have hne:(a:List Int)≠b:=fun e=>AA (by rw[e])
  exact AG hc [.tmp 4] rfl (.inl rfl) (by simp) (by rw[decide_eq_false hne];first|exact eR|refine Ap ?_)
 ·have hlen:List.length a=List.length b:=by
   have:=AA
   simp only[bne_eq_false_iff_eq]at this
   omega
  refine AK (ι:={k:Nat//k≤List.length a∧(a:List Int).take k=(b:List Int).take k}) (fun k=>⟨[(0,.p Bx a),(1,.p Bx b),(5,.p (.int .i64) (k.1:Int))],[]⟩) (fun k=>List.length a-k.1) ⟨0,Nat.zero_le _,rfl⟩ (AC [] rfl rfl ?_ ?_) (fun k=>?_)
  ·first|exact eN|refine eM ?_
  ·first|exact eN|refine eM ?_
  ·obtain⟨k,hk,he⟩:=k
   repeat'(first|exact trivial|refine eS rfl ?_|refine AB ?_|refine rX [0,1,4,5,10,14,25] hc ?_ ?_|refine rC ?_ ?_<;>intro AA<;>try(cases AA;done))
   ·exact⟨by assumption,by rw[←hlen];assumption⟩
   ·have hk2:k<List.length a:=by exact eV
    have hne:(a:List Int)≠b:=fun e=>AA (by rw[e])
    exact AG hc [.tmp 4] rfl (.inl rfl) (by simp) (by rw[decide_eq_false hne];first|exact eR|refine Ap ?_)
   ·exact eV
   ·have hk2:k<List.length a:=by exact eV
    refine⟨⟨k+1,hk2,?_⟩,by simp only;omega,AC [] rfl rfl ?_ ?_⟩
    ·have e:List.getD a k 0=List.getD b k 0:=by simpa using AA
     rw[Ae (a:List Int) 0 hk2,Ae (b:List Int) 0 (by omega),he,e]
    ·first|exact eN|refine eM ?_
    ·first|exact eN|refine eM ?_
   ·have hk2:k=List.length a:=by exact eV
    rw[hk2,List.take_length,hlen,List.take_length]at he
    exact AG hc [.tmp 4] rfl (.inl rfl) (by simp) (by rw[decide_eq_true he];first|exact eR|refine Ap ?_)
end
/- Functions of grammarlabref11: Types. -/
section
attribute [local go_sem] Pq
def A4h (h:AN) (l:List AF) (c:List Int):Nat→Option (List Int)
 | 0=>some (List.replicate l.length 0)
 | i+1=>match A4h h l c i with
  | none=>none
  | some o=>if (CX h (o.getD (c.getD i 0).toNat 0) (l.getD i (0,[])).1).2=true then some (o.set (c.getD i 0).toNat (CX h (o.getD (c.getD i 0).toNat 0) (l.getD i (0,[])).1).1) else none
def vT (h:AN) (l:List AF) (c:List Int):List Int×Bool:=match A4h h l c l.length with
 | none=>([],false)
 | some o=>((List.range l.length).map fun(k:Nat)=>o.getD (c.getD k 0).toNat 0,true)
def A4M (n:Nat) (c:List Int):Prop:=c.length=n∧∀k:Nat,k<n→0≤c.getD k 0∧c.getD k 0≤(k:Int)∧c.getD (c.getD k 0).toNat 0=c.getD k 0
def A1Y:Ac:={ ins:=[II,Jm,Bx],pre:=fun(h,l,c,_)=>A4M (List.length l) c∧Ge h l∧0<List.length (h:AN).1∧List.length l≤100000∧(∀x∈(h:AN).1,x.2.1.length≤100000),out:=fun(h,l,c,_)=>[.p Bx (vT h l c).1,.p .bool (vT h l c).2] }
attribute [local go_sem] A1Y
end
/- Functions of grammarlabref11: Quotient. -/
section
attribute [local go_sem] Pp Zc
attribute [local go_sem] A15 A4G ne_eq not_false_eq_true
end
/- Plain: grammarlabref11.Close finds the least closed relation. -/
section
inductive EQ (n:Nat) (o:List Int) (W:List (Int×Int)):Int→Int→Prop
 | cls {x y:Int} (x0:0≤x) (x1:x<(n:Int)) (y0:0≤y) (y1:y<(n:Int)) (h:o.getD x.toNat 0=o.getD y.toNat 0):EQ n o W x y
 | wt {x y:Int} (h:(x,y)∈W):EQ n o W x y
 | symm {x y:Int} (h:EQ n o W x y):EQ n o W y x
 | trans {x y z:Int} (h:EQ n o W x y) (g:EQ n o W y z):EQ n o W x z
theorem EQ.mono {n:Nat} {o o':List Int} {W W':List (Int×Int)} (h1:∀x y,0≤x→x<(n:Int)→0≤y→y<(n:Int)→o.getD x.toNat 0=o.getD y.toNat 0→EQ n o' W' x y) (h2:∀x y,(x,y)∈W→EQ n o' W' x y) {x y:Int} (h:EQ n o W x y):EQ n o' W' x y:=by
 induction h with
 | cls x0 x1 y0 y1 h=>exact h1 _ _ x0 x1 y0 y1 h
 | wt h=>exact h2 _ _ h
 | symm _ ih=>exact .symm ih
 | trans _ _ ih1 ih2=>exact .trans ih1 ih2
theorem EQ.nil {n:Nat} {o:List Int} {x y:Int} (h:EQ n o [] x y):o.getD x.toNat 0=o.getD y.toNat 0:=by
 induction h with
 | cls _ _ _ _ h=>exact h
 | wt h=>cases h
 | symm _ ih=>exact ih.symm
 | trans _ _ ih1 ih2=>exact ih1.trans ih2
section
variable {h:AN} {N:List AF} {P:List (Int×Int)} {o:List Int} {ar:List (List (Int×Int))} {W:List (Int×Int)} {w:Int×Int}
end
end
/- Plain: the types of classes, the arcs of classes; grammarlabref11.Unify and unify.Unify compute one structure. -/
section
def Xp (h:AN):Prop:=∀t∈h.1,Nrm t.2.1
theorem Tl {b:List Int}:∀ {l:List Iq} {k:Nat},(H0 b l k).2=true→∃j:Nat,j<l.length∧(H0 b l k).1=((k+j:Nat):Int)∧(l.getD j Va).2.1=b
 | [],k,h=>by cases h
 | t :: r,k,h=>by
  unfold H0 at h ⊢
  by_cases e:t.2.1=b
  ·rw[if_pos e]
   exact⟨0,by simp,by simp,by simpa using e⟩
  ·rw[if_neg e]at h ⊢
   obtain⟨j,h1,h2,h3⟩:=Tl h
   exact⟨j+1,by simp only[List.length_cons];omega,by rw[h2];congr 1;omega,by simpa using h3⟩
theorem aA {b:List Int}:∀ {l:List Iq} {k:Nat},(∃t∈l,t.2.1=b)→(H0 b l k).2=true
 | [],k,⟨t,ht,_⟩=>by cases ht
 | t :: r,k,⟨u,hu,e⟩=>by
  unfold H0
  by_cases e2:t.2.1=b
  ·rw[if_pos e2]
  ·rw[if_neg e2]
   rcases List.mem_cons.1 hu with rfl|hu
   ·exact absurd e e2
   ·exact aA ⟨u,hu,e⟩
theorem pN {h:AN} (hk:UQ h) (hn:Xp h) {a b:Int} (a0:0≤a) (a1:a<(h.1.length:Int)) (b0:0≤b) (b1:b<(h.1.length:Int)) :
  ((CX h a b).2=true→0≤(CX h a b).1∧(CX h a b).1<(h.1.length:Int)∧∀i,lF h (CX h a b).1 i=(lF h a i&&lF h b i))∧((∃i,lF h a i=true∧lF h b i=true)→(CX h a b).2=true):=by
 have wa:=hk.1.wds _ (B3 a0 a1)
 have wb:=hk.1.wds _ (B3 b0 b1)
 refine⟨fun hm=>?_,fun hi=>?_⟩
 ·obtain⟨j,h1,h2,h3⟩:=Tl hm
  have h2:(CX h a b).1=((0+j:Nat):Int):=h2
  refine⟨by omega,by omega,fun i=>?_⟩
  have e:BO h (CX h a b).1=FT (BO h a) (BO h b):=by
   rw[←h3]
   unfold BO
   rw[h2]
   simp
  unfold lF
  rw[e,Ra wa wb]
 ·obtain⟨t,ht,e⟩:=hk.1.meet _ (B3 a0 a1) _ (B3 b0 b1) hi
  obtain⟨x,hx,rfl⟩:=List.mem_map.1 ht
  exact aA ⟨x,hx,vF (hk.1.wds _ ht) (XS wa wb) (hn x hx) (M6 _) fun i=>by rw[e i,Ra wa wb]⟩
theorem pO {h:AN} (hk:UQ h) (hn:Xp h) {a b:Int} (a0:0≤a) (a1:a<(h.1.length:Int)) (b0:0≤b) (b1:b<(h.1.length:Int)) :
  ((CX h a b).2=true→0≤(CX h a b).1∧(CX h a b).1<(h.1.length:Int)∧Cr h a (CX h a b).1=true∧Cr h b (CX h a b).1=true) ∧
  ∀x,0≤x→x<(h.1.length:Int)→Cr h a x=true→Cr h b x=true→(CX h a b).2=true∧Cr h (CX h a b).1 x=true:=by
 obtain⟨m1,m2⟩:=pN hk hn a0 a1 b0 b1
 refine⟨fun e=>?_,fun x x0 x1 hax hbx=>?_⟩
 ·obtain⟨q0,q1,q2⟩:=m1 e
  refine⟨q0,q1,(CH hk a0 a1 q0 q1).2 fun i hi=>?_,(CH hk b0 b1 q0 q1).2 fun i hi=>?_⟩
  ·rw[q2 i,Bool.and_eq_true]at hi;exact hi.1
  ·rw[q2 i,Bool.and_eq_true]at hi;exact hi.2
 ·have ga:=(CH hk a0 a1 x0 x1).1 hax
  have gb:=(CH hk b0 b1 x0 x1).1 hbx
  obtain⟨i,hi⟩:=hk.1.some _ (B3 x0 x1)
  have e:=m2 ⟨i,ga i hi,gb i hi⟩
  obtain⟨q0,q1,q2⟩:=m1 e
  refine⟨e,(CH hk q0 q1 x0 x1).2 fun j hj=>?_⟩
  rw[q2 j,Bool.and_eq_true]
  exact⟨ga j hj,gb j hj⟩
section
variable {h:AN} {N:List AF} {c:List Int}
end
/-! The arcs of the classes -/
end
/- Vectors that fit: quick.Fits; of grammarlabref16: compatible, Fits. -/
section
attribute [local go_sem] Ql Pq
def CA (h:AN) (a b:Int):Bool:=decide (a<0)||decide (b<0)||(Ba h a b).2
def Ju (h:AN) (a b:Int):Bool:=decide (a<0)||decide (b<0)||(CX h a b).2
def WdH (h:AN):Prop:=h.1.length≤100000∧∀x∈h.1,x.2.1.length≤100000
def aQ (h:AN) (l:List Int):Prop:=∀x∈l,x<(h.1.length:Int)
def Lk:Ac:={ ins:=[II,T3,T3],pre:=fun(h,a,b,_)=>WdH h∧a<(List.length (h:AN).1:Int)∧b<(List.length (h:AN).1:Int),out:=fun(h,a,b,_)=>[.p .bool (Ju h a b)],lend:=true }
attribute [local go_sem] Lk
theorem V0:Ai Tryz.prog 38 Lk:=by
 refine AP Tryz.func38 (by kernel_rfl) rfl Tryz.ntmps38 (by decide) (by kernel_rfl) (AH [(67,Pq)]) (AE vR AI) ?_
 rintro w0 O0 ⟨⟨ht,hf⟩,a,b,u⟩ hc-⟨hw,ha,hb⟩
 simp only[Lk,AM]
 repeat'(first|exact trivial|refine eS rfl ?_|refine AB ?_|refine rX [0,1,2,3,6,8,14] hc ?_ ?_|refine rC ?_ ?_<;>intro AA<;>try(cases AA;done))
 ·have h1:Ju (ht,hf) a b=true:=by
   unfold Ju
   rcases AA with h|h
   ·rw[decide_eq_true h];rfl
   ·rw[decide_eq_true h,Bool.or_true];rfl
  exact AG hc [.tmp 6] rfl (.inl rfl) (by simp) (by rw[h1];first|exact eR|refine Ap ?_)
 ·exact⟨⟨AA.1,ha⟩,⟨AA.2,hb⟩,hw.2⟩
 ·have h1:Ju (ht,hf) a b=(CX (ht,hf) a b).2:=by
   unfold Ju
   rw[decide_eq_false (Int.not_lt.2 AA.1),decide_eq_false (Int.not_lt.2 AA.2)]
   rfl
  exact AG hc [.tmp 6] rfl (.inl rfl) (by simp) (by rw[h1];first|exact eR|refine Ap ?_)
def Bl (c:Int→Int→Bool):List Int→List Int→Bool
 | x :: a,y :: b=>c x y&&Bl c a b
 | _,_=>true
theorem HX (c:Int→Int→Bool) {a b:List Int} {k:Nat} (h1:k<a.length) (h2:k<b.length):Bl c (a.drop k) (b.drop k)=(c (a.getD k 0) (b.getD k 0)&&Bl c (a.drop (k+1)) (b.drop (k+1))):=by
 rw[De h1,De h2]
 rfl
theorem V3 (c:Int→Int→Bool) {a b:List Int} {k:Nat} (h:a.length≤k∨b.length≤k):Bl c (a.drop k) (b.drop k)=true:=by
 rcases h with h|h
 ·rw[List.drop_eq_nil_of_le h]
  rfl
 ·rw[List.drop_eq_nil_of_le h]
  cases a.drop k<;>rfl
def Oh:Ac:={ ins:=[II,Bx,Bx],pre:=fun(h,a,b,_)=>WdH h∧aQ h a∧aQ h b,out:=fun(h,a,b,_)=>[.p .bool (Bl (Ju h) a b)],lend:=true }
attribute [local go_sem] Oh
theorem pP:Ai Tryz.prog 19 Oh:=by
 refine AP Tryz.func19 (by kernel_rfl) rfl Tryz.ntmps19 (by decide) (by kernel_rfl) (AH [(38,Lk)]) (AE V0 AI) ?_
 rintro w0 O0 ⟨⟨ht,hf⟩,a,b,u⟩ hc ⟨-,⟨hla,-⟩,⟨hlb,-⟩,-⟩ ⟨hw,ha,hb⟩
 simp only[AO]at hla hlb
 simp only[Oh,AM]
 repeat'(first|exact trivial|refine eS rfl ?_|refine AB ?_|refine rX [0,1,2,3,6,7,17,30] hc ?_ ?_|refine rC ?_ ?_<;>intro AA<;>try(cases AA;done))
 refine AK (ι:={k:Nat//k≤List.length a∧k≤List.length b∧Bl (Ju (ht,hf)) a b=Bl (Ju (ht,hf)) ((a:List Int).drop k) ((b:List Int).drop k)}) (fun k=>⟨[(1,.p Bx a),(2,.p Bx b),(3,.bp 3 [] 0),(7,.p (.int .i64) (k.1:Int))],[(3,.box 37 true [.p Xx ht,.p Yq hf])]⟩) (fun k=>List.length a-k.1) ⟨0,Nat.zero_le _,Nat.zero_le _,rfl⟩ (AC [(3,.nm 3)] rfl rfl ?_ ?_) (fun k=>?_)
 ·first|exact eN|refine eM ?_
 ·first|exact eN|refine eM ?_
 ·obtain⟨k,hka,hkb,he⟩:=k
  repeat'(first|exact trivial|refine eS rfl ?_|refine AB ?_|refine rX [0,1,2,3,6,7,17,30] hc ?_ ?_|refine rC ?_ ?_<;>intro AA<;>try(cases AA;done))
  ·exact⟨AA.1,AA.2,hw,ha _ (CS (by exact eV)),hb _ (CS (by exact eV))⟩
  ·have hk1:k<List.length a:=by exact eV
   have hk2:k<List.length b:=by exact eV
   rw[HX _ hk1 hk2,AA,Bool.false_and]at he
   exact AG hc [.tmp 6] rfl (.inl rfl) (by simp) (by rw[he];first|exact eR|refine Ap ?_)
  ·exact eV
  ·have hk1:k<List.length a:=by exact eV
   have hk2:k<List.length b:=by exact eV
   refine⟨⟨k+1,hk1,hk2,?_⟩,by simp only;omega,AC [(3,.nm 3)] rfl rfl ?_ ?_⟩
   ·rw[he,HX _ hk1 hk2,AA,Bool.true_and]
   ·first|exact eN|refine eM ?_
   ·first|exact eN|refine eM ?_
  ·have hh:List.length a≤k∨List.length b≤k:=by
    by_cases h:k<List.length a
    ·exact .inr (Int.ofNat_le.1 (AA (Int.ofNat_lt.2 h)))
    ·exact .inl (by omega)
   rw[V3 _ hh]at he
   exact AG hc [.tmp 6] rfl (.inl rfl) (by simp) (by rw[he];first|exact eR|refine Ap ?_)
def HY:Ac:={ ins:=[II,Bx,Bx],pre:=fun(h,a,b,_)=>WdH h∧aQ h a∧aQ h b,out:=fun(h,a,b,_)=>[.p .bool (Bl (CA h) a b)],lend:=true }
attribute [local go_sem] HY
theorem Oi:Ai Tryz.prog 18 HY:=by
 refine AP Tryz.func18 (by kernel_rfl) rfl Tryz.ntmps18 (by decide) (by kernel_rfl) (AH [(37,Ql)]) (AE XY AI) ?_
 rintro w0 O0 ⟨⟨ht,hf⟩,a,b,u⟩ hc ⟨-,⟨hla,-⟩,⟨hlb,-⟩,-⟩ ⟨hw,ha,hb⟩
 simp only[AO]at hla hlb
 simp only[HY,AM]
 repeat'(first|exact trivial|refine eS rfl ?_|refine AB ?_|refine rX [0,1,2,3,6,7,9,14,15,16,29,44] hc ?_ ?_|refine rC ?_ ?_<;>intro AA<;>try(cases AA;done))
 rw[show (if (List.length b:Int)<(List.length a:Int) then (List.length b:Int) else (List.length a:Int))=((min (List.length a) (List.length b):Nat):Int) by split<;>omega]
 refine AK (ι:={k:Nat//k≤List.length a∧k≤List.length b∧Bl (CA (ht,hf)) a b=Bl (CA (ht,hf)) ((a:List Int).drop k) ((b:List Int).drop k)}) (fun k=>⟨[(1,.p Bx a),(2,.p Bx b),(3,.bp 3 [] 0),(14,.p (.int .i64) ((min (List.length a) (List.length b):Nat):Int)),(15,.p (.int .i64) (k.1:Int))],[(3,.box 37 true [.p Xx ht,.p Yq hf])]⟩) (fun k=>List.length a-k.1) ⟨0,Nat.zero_le _,Nat.zero_le _,rfl⟩ (AC [(3,.nm 3)] rfl rfl ?_ ?_) (fun k=>?_)
 ·first|exact eN|refine eM ?_
 ·first|exact eN|refine eM ?_
 ·obtain⟨k,hka,hkb,he⟩:=k
  repeat'(first|exact trivial|refine eS rfl ?_|refine AB ?_|refine rX [0,1,2,3,6,7,9,14,15,16,29,44] hc ?_ ?_|refine rC ?_ ?_<;>intro AA<;>try(cases AA;done))
  ·have hk1:k<List.length a:=by omega
   have hk2:k<List.length b:=by omega
   exact⟨Int.ofNat_lt.2 hk1,fun _=>Int.ofNat_lt.2 hk2⟩
  ·exact eV
  ·have hk1:k<List.length a:=by omega
   have hk2:k<List.length b:=by omega
   have hcq:CA (ht,hf) (List.getD a k 0) (List.getD b k 0)=true:=by
    unfold CA
    rcases AA with h|h
    ·rw[decide_eq_true h];rfl
    ·rw[decide_eq_true h,Bool.or_true];rfl
   refine⟨⟨k+1,hk1,hk2,?_⟩,by simp only;omega,AC [(3,.nm 3)] rfl rfl ?_ ?_⟩
   ·rw[he,HX _ hk1 hk2,hcq,Bool.true_and]
   ·first|exact eN|refine eM ?_
   ·first|exact eN|refine eM ?_
  ·have hk1:k<List.length a:=by omega
   have hk2:k<List.length b:=by omega
   exact⟨Int.ofNat_lt.2 hk1,Int.ofNat_lt.2 hk2,⟨AA.1,ha _ (CS hk1)⟩,⟨AA.2,hb _ (CS hk2)⟩,hw⟩
  ·have hk1:k<List.length a:=by omega
   have hk2:k<List.length b:=by omega
   rename_i hp
   have hcq:CA (ht,hf) (List.getD a k 0) (List.getD b k 0)=(Ba (ht,hf) (List.getD a k 0) (List.getD b k 0)).2:=by
    unfold CA
    rw[decide_eq_false (Int.not_lt.2 hp.1),decide_eq_false (Int.not_lt.2 hp.2)]
    rfl
   rw[HX _ hk1 hk2,hcq,AA,Bool.false_and]at he
   exact AG hc [.tmp 6] rfl (.inl rfl) (by simp) (by rw[he];first|exact eR|refine Ap ?_)
  ·exact eV
  ·have hk1:k<List.length a:=by omega
   have hk2:k<List.length b:=by omega
   rename_i hp
   have hcq:CA (ht,hf) (List.getD a k 0) (List.getD b k 0)=(Ba (ht,hf) (List.getD a k 0) (List.getD b k 0)).2:=by
    unfold CA
    rw[decide_eq_false (Int.not_lt.2 hp.1),decide_eq_false (Int.not_lt.2 hp.2)]
    rfl
   refine⟨⟨k+1,hk1,hk2,?_⟩,by simp only;omega,AC [(3,.nm 3)] rfl rfl ?_ ?_⟩
   ·rw[he,HX _ hk1 hk2,hcq,AA,Bool.true_and]
   ·first|exact eN|refine eM ?_
   ·first|exact eN|refine eM ?_
  ·have hh:List.length a≤k∨List.length b≤k:=by omega
   rw[V3 _ hh]at he
   exact AG hc [.tmp 6] rfl (.inl rfl) (by simp) (by rw[he];first|exact eR|refine Ap ?_)
end
/- The order of paths: slices.Compare, quick.order; of grammarlabref16: Less, SamePath, SamePaths. -/
section
attribute [local go_sem] DB
def Ej:List Int→List Int→Int
 | [],[]=>0
 | [],_ :: _=>-1
 | _ :: _,[]=>1
 | x :: p,y :: q=>if E6 x y=0 then Ej p q else E6 x y
def Bu (p q:List Int):Int:=if E6 (p.length:Int) (q.length:Int)=0 then Ej p q else E6 (p.length:Int) (q.length:Int)
theorem CB {a b:Int}:E6 a b=0↔a=b:=by
 unfold E6
 split
 ·constructor
  ·intro h;omega
  ·intro h;omega
 ·split
  ·constructor
   ·intro h;omega
   ·intro h;omega
  ·exact⟨fun _=>by omega,fun _=>rfl⟩
theorem Pr (a b:Int):E6 b a=- E6 a b:=by
 unfold E6
 split<;>split<;>(try split)<;>omega
theorem Cm {a b:Int}:E6 a b<0↔a<b:=by
 unfold E6
 split
 ·exact⟨fun _=>by assumption,fun _=>by omega⟩
 ·split
  ·exact⟨fun h=>by omega,fun h=>by omega⟩
  ·exact⟨fun h=>by omega,fun h=>by omega⟩
theorem V7:∀ {p q:List Int},Ej p q=0↔p=q
 | [],[]=>⟨fun _=>rfl,fun _=>rfl⟩
 | [],_ :: _=>⟨fun h=>by simp[Ej]at h,fun h=>by cases h⟩
 | _ :: _,[]=>⟨fun h=>by simp[Ej]at h,fun h=>by cases h⟩
 | x :: p,y :: q=>by
  unfold Ej
  split
  ·rename_i h
   rw[V7,CB.1 h]
   exact⟨fun e=>by rw[e],fun e=>(List.cons.inj e).2⟩
  ·rename_i h
   exact⟨fun e=>absurd e h,fun e=>absurd (CB.2 (List.cons.inj e).1) h⟩
theorem V8:∀(p q:List Int),Ej q p=- Ej p q
 | [],[]=>rfl
 | [],_ :: _=>rfl
 | _ :: _,[]=>rfl
 | x :: p,y :: q=>by
  unfold Ej
  rw[Pr x y]
  by_cases h:E6 x y=0
  ·rw[if_pos h,if_pos (by omega),V8 p q]
  ·rw[if_neg h,if_neg (by omega)]
theorem Tm:∀ {p q r:List Int},Ej p q<0→Ej q r<0→Ej p r<0
 | [],[],_,h,_=>by simp[Ej]at h
 | [],_ :: _,[],_,h=>by simp[Ej]at h
 | [],_ :: _,_ :: _,_,_=>by simp[Ej]
 | _ :: _,[],_,h,_=>by simp[Ej]at h
 | _ :: _,_ :: _,[],_,h=>by simp[Ej]at h
 | x :: p,y :: q,z :: r,h1,h2=>by
  unfold Ej at h1 h2 ⊢
  by_cases e1:E6 x y=0
  ·rw[if_pos e1]at h1
   have:=CB.1 e1
   subst this
   by_cases e2:E6 x z=0
   ·rw[if_pos e2]at h2 ⊢
    exact Tm h1 h2
   ·rw[if_neg e2]at h2 ⊢
    exact h2
  ·rw[if_neg e1]at h1
   have h1:=Cm.1 h1
   by_cases e2:E6 y z=0
   ·have:=CB.1 e2
    subst this
    rw[if_neg e1]
    exact Cm.2 h1
   ·rw[if_neg e2]at h2
    have h2:=Cm.1 h2
    have h3:x<z:=by omega
    rw[if_neg (fun e=>by have:=CB.1 e;omega)]
    exact Cm.2 h3
theorem Ft {p q:List Int}:Bu p q=0↔p=q:=by
 unfold Bu
 split
 ·exact V7
 ·rename_i h
  exact⟨fun e=>absurd e h,fun e=>absurd (CB.2 (by rw[e])) h⟩
theorem Fu (p q:List Int):Bu q p=- Bu p q:=by
 unfold Bu
 rw[Pr (p.length:Int) (q.length:Int),V8 p q]
 by_cases h:E6 (p.length:Int) (q.length:Int)=0
 ·rw[if_pos h,if_pos (by omega)]
 ·rw[if_neg h,if_neg (by omega)]
theorem Tn {p q r:List Int} (h1:Bu p q<0) (h2:Bu q r<0):Bu p r<0:=by
 unfold Bu at h1 h2 ⊢
 by_cases e1:E6 (p.length:Int) (q.length:Int)=0
 ·rw[if_pos e1]at h1
  rw[CB.1 e1]
  by_cases e2:E6 (q.length:Int) (r.length:Int)=0
  ·rw[if_pos e2]at h2 ⊢
   exact Tm h1 h2
  ·rw[if_neg e2]at h2 ⊢
   exact h2
 ·rw[if_neg e1]at h1
  have h1:=Cm.1 h1
  by_cases e2:E6 (q.length:Int) (r.length:Int)=0
  ·rw[←CB.1 e2,if_neg e1]
   exact Cm.2 h1
  ·rw[if_neg e2]at h2
   have h2:=Cm.1 h2
   have h3:(p.length:Int)<(r.length:Int):=by omega
   rw[if_neg (fun e=>by have:=CB.1 e;omega)]
   exact Cm.2 h3
theorem Ll {p q:List Int} {k:Nat} (h1:k<p.length) (h2:k<q.length):Ej (p.drop k) (q.drop k)=if E6 (p.getD k 0) (q.getD k 0)=0 then Ej (p.drop (k+1)) (q.drop (k+1)) else E6 (p.getD k 0) (q.getD k 0):=by
 rw[De h1,De h2]
 rfl
def Xq:Ac:={ ins:=[Bx,Bx],pre:=fun _=>True,out:=fun(p,q,_)=>[.p T3 (Ej p q)],lend:=true }
attribute [local go_sem] Xq
theorem vV:Ai Tryz.prog 72 Xq:=by
 refine AP Tryz.func72 (by kernel_rfl) rfl Tryz.ntmps72 (by decide) (by kernel_rfl) (AH [(48,DB)]) (AE IP AI) ?_
 rintro w0 O0 ⟨p,q,u⟩ hc ⟨⟨hlp,-⟩,⟨hlq,-⟩,-⟩ -
 simp only[AO]at hlp hlq
 simp only[Xq,AM]
 repeat'(first|exact trivial|refine eS rfl ?_|refine AB ?_|refine rX [0,1,4,5,6,7,8,9,10,11,12,19,28,35] hc ?_ ?_|refine rC ?_ ?_<;>intro AA<;>try(cases AA;done))
 refine AK (ι:={k:Nat//k≤List.length p∧k≤List.length q∧Ej p q=Ej ((p:List Int).drop k) ((q:List Int).drop k)}) (fun k=>⟨[(0,.p Bx p),(1,.p Bx q),(9,.p Bx p),(10,.p (.int .i64) (List.length p:Int)),(11,.p (.int .i64) (k.1:Int))],[]⟩) (fun k=>List.length p-k.1) ⟨0,Nat.zero_le _,Nat.zero_le _,rfl⟩ (AC [] rfl rfl ?_ ?_) (fun k=>?_)
 ·first|exact eN|refine eM ?_
 ·first|exact eN|refine eM ?_
 ·obtain⟨k,hk1,hk2,he⟩:=k
  repeat'(first|exact trivial|refine eS rfl ?_|refine AB ?_|refine rX [0,1,4,5,6,7,8,9,10,11,12,19,28,35] hc ?_ ?_|refine rC ?_ ?_<;>intro AA<;>try(cases AA;done))
  ·exact AA
  ·have hpk:k<List.length p:=by exact eV
   have hq:List.drop k (q:List Int)=[]:=List.drop_eq_nil_of_le (by exact eV)
   have h1:Ej p q=1:=by
    rw[he,hq,De hpk]
    rfl
   exact AG hc [.tmp 4] rfl (.inl rfl) (by simp) (by rw[h1];first|exact eR|refine Ap ?_)
  ·exact AA
  ·have hpk:k<List.length p:=by exact eV
   have hqk:k<List.length q:=by exact eV
   rw[Ll hpk hqk,if_neg AA]at he
   exact AG hc [.tmp 4] rfl (.inl rfl) (by simp) (by rw[he];first|exact eR|refine Ap ?_)
  ·exact eV
  ·have hpk:k<List.length p:=by exact eV
   have hqk:k<List.length q:=by exact eV
   rw[Ll hpk hqk,if_pos (by simpa using AA)]at he
   refine⟨⟨k+1,hpk,hqk,he⟩,by simp only;omega,AC [] rfl rfl ?_ ?_⟩
   ·first|exact eN|refine eM ?_
   ·first|exact eN|refine eM ?_
  ·have hp:List.drop k (p:List Int)=[]:=List.drop_eq_nil_of_le (by exact eV)
   have h1:Ej p q=-1:=by
    rw[he,hp,De (show k<List.length q by omega)]
    rfl
   exact AG hc [.tmp 4] rfl (.inl rfl) (by simp) (by rw[h1];first|exact eR|refine Ap ?_)
  ·have hp:List.drop k (p:List Int)=[]:=List.drop_eq_nil_of_le (by exact eV)
   have hq:List.drop k (q:List Int)=[]:=List.drop_eq_nil_of_le (by omega)
   have h1:Ej p q=0:=by
    rw[he,hp,hq]
    rfl
   exact AG hc [.tmp 4] rfl (.inl rfl) (by simp) (by rw[h1];first|exact eR|refine Ap ?_)
def Jb:Ac:={ ins:=[Bx,Bx],pre:=fun _=>True,out:=fun(p,q,_)=>[.p T3 (Bu p q)],lend:=true }
attribute [local go_sem] Jb
theorem WA:Ai Tryz.prog 43 Jb:=by
 refine AP Tryz.func43 (by kernel_rfl) rfl Tryz.ntmps43 (by decide) (by kernel_rfl) (AH [(48,DB),(72,Xq)]) (AE IP (AE vV AI)) ?_
 rintro w0 O0 ⟨p,q,u⟩ hc - -
 simp only[Jb,AM]
 repeat'(first|exact trivial|refine eS rfl ?_|refine AB ?_|refine rX [0,1,4,5,12] hc ?_ ?_|refine rC ?_ ?_<;>intro AA<;>try(cases AA;done))
 ·have h1:Bu p q=E6 (List.length p:Int) (List.length q:Int):=if_neg AA
  exact AG hc [.tmp 4] rfl (.inl rfl) (by simp) (by rw[h1];first|exact eR|refine Ap ?_)
 ·have h1:Bu p q=Ej p q:=if_pos (by simpa using AA)
  exact AG hc [.tmp 4] rfl (.inl rfl) (by simp) (by rw[h1];first|exact eR|refine Ap ?_)
def WB:Ac:={ ins:=[Bx,Bx],pre:=fun _=>True,out:=fun(p,q,_)=>[.p .bool (decide (Bu p q<0))],lend:=true }
attribute [local go_sem] WB
theorem mB:Ai Tryz.prog 68 WB:=by
 refine AP Tryz.func68 (by kernel_rfl) rfl Tryz.ntmps68 (by decide) (by kernel_rfl) (AH []) AI ?_
 rintro w0 O0 ⟨p,q,u⟩ hc ⟨⟨hlp,-⟩,⟨hlq,-⟩,-⟩ -
 simp only[AO]at hlp hlq
 simp only[WB,AM]
 repeat'(first|exact trivial|refine eS rfl ?_|refine AB ?_|refine rX [0,1,4,5,10,19,30] hc ?_ ?_|refine rC ?_ ?_<;>intro AA<;>try(cases AA;done))
 ·have h1:decide (Bu p q<0)=decide ((List.length p:Int)<(List.length q:Int)):=by
   unfold Bu
   rw[if_neg (fun e=>AA (CB.1 e))]
   exact decide_eq_decide.2 Cm
  exact AG hc [.tmp 4] rfl (.inl rfl) (by simp) (by rw[h1];first|exact eR|refine Ap ?_)
 ·have hlen:List.length p=List.length q:=by
   have:=AA
   simp only[bne_eq_false_iff_eq]at this
   omega
  have ho:Bu p q=Ej p q:=if_pos (by rw[hlen];exact CB.2 rfl)
  rw[ho]
  refine AK (ι:={k:Nat//k≤List.length p∧Ej p q=Ej ((p:List Int).drop k) ((q:List Int).drop k)}) (fun k=>⟨[(0,.p Bx p),(1,.p Bx q),(5,.p (.int .i64) (k.1:Int))],[]⟩) (fun k=>List.length p-k.1) ⟨0,Nat.zero_le _,rfl⟩ (AC [] rfl rfl ?_ ?_) (fun k=>?_)
  ·first|exact eN|refine eM ?_
  ·first|exact eN|refine eM ?_
  ·obtain⟨k,hk1,he⟩:=k
   repeat'(first|exact trivial|refine eS rfl ?_|refine AB ?_|refine rX [0,1,4,5,10,19,30] hc ?_ ?_|refine rC ?_ ?_<;>intro AA<;>try(cases AA;done))
   ·exact⟨AA,by rw[←hlen];exact AA⟩
   ·exact⟨by assumption,by rw[←hlen];assumption⟩
   ·have hpk:k<List.length p:=by exact eV
    have h1:decide (Ej p q<0)=decide (List.getD p k 0<List.getD q k 0):=by
     rw[he,Ll hpk (by omega),if_neg (fun e=>AA (CB.1 e))]
     exact decide_eq_decide.2 Cm
    exact AG hc [.tmp 4] rfl (.inl rfl) (by simp) (by rw[h1];first|exact eR|refine Ap ?_)
   ·exact eV
   ·have hpk:k<List.length p:=by exact eV
    have e:List.getD p k 0=List.getD q k 0:=by simpa using AA
    rw[Ll hpk (by omega),if_pos (CB.2 e)]at he
    refine⟨⟨k+1,hpk,he⟩,by simp only;omega,AC [] rfl rfl ?_ ?_⟩
    ·first|exact eN|refine eM ?_
    ·first|exact eN|refine eM ?_
   ·have hp:List.drop k (p:List Int)=[]:=List.drop_eq_nil_of_le (by exact eV)
    have hq:List.drop k (q:List Int)=[]:=List.drop_eq_nil_of_le (by rw[←hlen];exact eV)
    rw[hp,hq]at he
    have h1:decide (Ej p q<0)=false:=by rw[he];rfl
    exact AG hc [.tmp 4] rfl (.inl rfl) (by simp) (by rw[h1];first|exact eR|refine Ap ?_)
def NA:Ac:={ ins:=[Bx,Bx],pre:=fun _=>True,out:=fun(p,q,_)=>[.p .bool (decide ((p:List Int)=q))],lend:=true }
attribute [local go_sem] NA
theorem aB:Ai Tryz.prog 40 NA:=by
 refine AP Tryz.func40 (by kernel_rfl) rfl Tryz.ntmps40 (by decide) (by kernel_rfl) (AH [(68,WB)]) (AE mB AI) ?_
 rintro w0 O0 ⟨p,q,u⟩ hc - -
 simp only[NA,AM]
 have h1:decide ((p:List Int)=q)=(!decide (Bu p q<0)&&!decide (Bu q p<0)):=by
  rw[Fu p q]
  by_cases e:(p:List Int)=q
  ·have:=Ft.2 e
   rw[decide_eq_true e,decide_eq_false (by omega),decide_eq_false (by omega)]
   rfl
  ·have:Bu p q≠0:=fun h=>e (Ft.1 h)
   rw[decide_eq_false e]
   rcases Int.lt_or_gt_of_ne this with h|h
   ·rw[decide_eq_true h];rfl
   ·rw[decide_eq_false (show ¬Bu p q<0 by omega),decide_eq_true (show-Bu p q<0 by omega)];rfl
 rw[h1]
 repeat'(first|exact trivial|refine eS rfl ?_|refine AB ?_|refine rX [0,1,4] hc ?_ ?_|refine rC ?_ ?_<;>intro AA<;>try(cases AA;done))
 exact AG hc [.tmp 4] rfl (.inl rfl) (by simp) (by first|exact eR|refine Ap ?_)
def Jc:Ac:={ ins:=[PN,PN],pre:=fun _=>True,out:=fun(a,b,_)=>[.p .bool (decide ((a:List (List Int))=b))],lend:=true }
attribute [local go_sem] Jc
theorem WC:Ai Tryz.prog 21 Jc:=by
 refine AP Tryz.func21 (by kernel_rfl) rfl Tryz.ntmps21 (by decide) (by kernel_rfl) (AH [(40,NA)]) (AE aB AI) ?_
 rintro w0 O0 ⟨a,b,u⟩ hc ⟨⟨hal,-⟩,-⟩ -
 simp only[AO]at hal
 simp only[Jc,AM]
 repeat'(first|exact trivial|refine eS rfl ?_|refine AB ?_|refine rX [0,1,4,5,10,14,26] hc ?_ ?_|refine rC ?_ ?_<;>intro AA<;>try(cases AA;done))
 ·have hne:(a:List (List Int))≠b:=fun e=>AA (by rw[e])
  exact AG hc [.tmp 4] rfl (.inl rfl) (by simp) (by rw[decide_eq_false hne];first|exact eR|refine Ap ?_)
 ·have hlen:List.length a=List.length b:=by
   have:=AA
   simp only[bne_eq_false_iff_eq]at this
   omega
  refine AK (ι:={k:Nat//k≤List.length a∧(a:List (List Int)).take k=(b:List (List Int)).take k}) (fun k=>⟨[(0,.p PN a),(1,.p PN b),(5,.p (.int .i64) (k.1:Int))],[]⟩) (fun k=>List.length a-k.1) ⟨0,Nat.zero_le _,rfl⟩ (AC [] rfl rfl ?_ ?_) (fun k=>?_)
  ·first|exact eN|refine eM ?_
  ·first|exact eN|refine eM ?_
  ·obtain⟨k,hk,he⟩:=k
   repeat'(first|exact trivial|refine eS rfl ?_|refine AB ?_|refine rX [0,1,4,5,10,14,26] hc ?_ ?_|refine rC ?_ ?_<;>intro AA<;>try(cases AA;done))
   ·exact⟨AA,by rw[←hlen];exact AA⟩
   ·have hne:(a:List (List Int))≠b:=fun e=>AA (by rw[e])
    exact AG hc [.tmp 4] rfl (.inl rfl) (by simp) (by rw[decide_eq_false hne];first|exact eR|refine Ap ?_)
   ·exact eV
   ·have hk2:k<List.length a:=by exact eV
    refine⟨⟨k+1,hk2,?_⟩,by simp only;omega,AC [] rfl rfl ?_ ?_⟩
    ·rw[Ae (a:List (List Int)) [] hk2,Ae (b:List (List Int)) [] (by omega),he,AA]
    ·first|exact eN|refine eM ?_
    ·first|exact eN|refine eM ?_
   ·have hk2:k=List.length a:=by exact eV
    rw[hk2,List.take_length,hlen,List.take_length]at he
    exact AG hc [.tmp 4] rfl (.inl rfl) (by simp) (by rw[decide_eq_true he];first|exact eR|refine Ap ?_)
end
/- The insertion sort of paths. -/
section
attribute [local go_sem] Jb
theorem MJ {p q r:List Int} (h1:Bu p q≤0) (h2:Bu q r≤0):Bu p r≤0:=by
 by_cases e1:Bu p q=0
 ·rw[Ft.1 e1];exact h2
 ·by_cases e2:Bu q r=0
  ·rw[←Ft.1 e2];exact h1
  ·have:=Tn (p:=p) (q:=q) (r:=r) (by omega) (by omega)
   omega
def vW (m:List (List Int)) (i j:Nat):Prop:=(∀a b,a<b→b≤i→a≠j→b≠j→Bu (m.getD a []) (m.getD b [])≤0)∧∀b,j<b→b≤i→Bu (m.getD j []) (m.getD b [])≤0
def dZ (m:List (List Int)) (i:Nat):Prop:=∀a b,a<b→b<i→Bu (m.getD a []) (m.getD b [])≤0
theorem d3 {m:List (List Int)} {i:Nat} (h:dZ m i):vW m i i:=⟨fun a b h1 h2 h3 h4=>h a b h1 (by omega),fun b h1 h2=>by omega⟩
theorem vX {m:List (List Int)} {i j:Nat} (h:vW m i j) (hj:j≤i) (he:j=0∨0≤Bu (m.getD j []) (m.getD (j-1) [])):dZ m (i+1):=by
 intro a b h1 h2
 by_cases e1:a=j
 ·subst e1
  exact h.2 b h1 (by omega)
 ·by_cases e2:b=j
  ·subst e2
   have he:Bu (m.getD (b-1) []) (m.getD b [])≤0:=by
    rw[Fu (m.getD b []) (m.getD (b-1) [])]
    omega
   by_cases e3:a=b-1
   ·subst e3;exact he
   ·exact MJ (h.1 a (b-1) (by omega) (by omega) e1 (by omega)) he
  ·exact h.1 a b h1 (by omega) e1 e2
def d4 (m:List (List Int)) (j:Nat):List (List Int):=(m.set j (m.getD (j-1) [])).set (j-1) (m.getD j [])
theorem pQ {m:List (List Int)} {j:Nat} (h:j<m.length):(d4 m j).Perm m:=by
 have h2:j-1<m.length:=by omega
 have e1:m.getD (j-1) []=m[j-1]:=by rw[List.getD_eq_getElem?_getD,List.getElem?_eq_getElem h2];rfl
 have e2:m.getD j []=m[j]:=by rw[List.getD_eq_getElem?_getD,List.getElem?_eq_getElem h];rfl
 unfold d4
 rw[e1,e2]
 exact List.set_set_perm h h2
theorem vY {m:List (List Int)} {j:Nat} (h0:0<j) (h:j<m.length) (k:Nat):(d4 m j).getD k []=if k=j-1 then m.getD j [] else if k=j then m.getD (j-1) [] else m.getD k []:=by
 unfold d4
 simp only[List.getD_eq_getElem?_getD,List.getElem?_set,List.length_set]
 by_cases e1:j-1=k
 ·rw[if_pos e1,if_pos (by omega),if_pos e1.symm]
  rfl
 ·rw[if_neg e1]
  by_cases e2:j=k
  ·rw[if_pos e2,if_pos (by omega),if_neg (show ¬k=j-1 by omega),if_pos e2.symm]
   rfl
  ·rw[if_neg e2,if_neg (show ¬k=j-1 by omega),if_neg (show ¬k=j by omega)]
theorem pR {m:List (List Int)} {i j:Nat} (h:vW m i j) (h0:0<j) (hj:j≤i) (hi:i<m.length) (hlt:Bu (m.getD j []) (m.getD (j-1) [])<0):vW (d4 m j) i (j-1):=by
 have hg:=vY h0 (show j<m.length by omega)
 refine⟨fun a b h1 h2 h3 h4=>?_,fun b h1 h2=>?_⟩
 ·rw[hg a,hg b,if_neg h3,if_neg h4]
  by_cases e1:a=j
  ·subst e1
   rw[if_pos rfl,if_neg (by omega)]
   exact h.1 (a-1) b (by omega) h2 (by omega) (by omega)
  ·rw[if_neg e1]
   by_cases e2:b=j
   ·rw[if_pos e2]
    exact h.1 a (j-1) (by omega) (by omega) e1 (by omega)
   ·rw[if_neg e2]
    exact h.1 a b h1 h2 e1 e2
 ·rw[hg (j-1),hg b,if_pos rfl,if_neg (by omega)]
  by_cases e2:b=j
  ·rw[if_pos e2]
   omega
  ·rw[if_neg e2]
   exact h.2 b (by omega) h2
theorem A0N (l:List (List Int)) (hl:l.length≤100000):Ca Tryz.prog 103 [.sr 1000000 Bx 0 l.length,.p T3 (0:Int),.p T3 (l.length:Int),.fn 43] [(1000000,.arr 30 Bx l)] [1000000] (fun res objs'=>res=.raw (.tuple #[])∧∃r,objs'=[(1000000,.arr 30 Bx r)]∧List.Perm r l∧dZ r l.length):=by
 refine DJ Tryz.func103 (by kernel_rfl) rfl Tryz.ntmps103 (by simp only[List.length_cons,List.length_nil];omega) (by kernel_rfl) rfl rfl (AH [(43,Jb)]) (AE WA AI) ?_
 intro w0 K O0 ρ0 hc hok1 hok2
 simp only[BU]
 repeat'(first|exact trivial|refine eS rfl ?_|refine AB ?_|refine rX [0,1,2,3,8,9,14,34] hc ?_ ?_|refine rC ?_ ?_<;>intro AA<;>try(cases AA;done))
 ·omega
 ·refine AK (ι:={s:Nat×List (List Int)//1≤s.1∧(s.1=1∨s.1≤l.length)∧List.Perm s.2 l∧dZ s.2 s.1}) (fun s=>⟨[(0,.sr 1000000 Bx 0 l.length),(1,.p T3 (0:Int)),(2,.p T3 (l.length:Int)),(3,.fn 43),(8,.p (.int .i64) (s.1.1:Int))],[(1000000,.arr 30 Bx s.1.2)]⟩) (fun s=>l.length-s.1.1) ⟨(1,l),Nat.le_refl 1,.inl rfl,List.Perm.refl l,fun a b h1 h2=>by omega⟩ (AC [(1000000,.nm 1000000)] rfl rfl ?_ ?_) (fun s=>?_)
  ·first|exact eN|refine eM ?_
  ·first|exact eN|refine eM ?_
  ·obtain⟨⟨i,m⟩,hi1,hi2,hp,hs⟩:=s
   simp only at hi1 hi2 hp hs ⊢
   have hml:=hp.length_eq
   repeat'(first|exact trivial|refine eS rfl ?_|refine AB ?_|refine rX [0,1,2,3,8,9,14,34] hc ?_ ?_|refine rC ?_ ?_<;>intro AA<;>try(cases AA;done))
   ·have hil:i<l.length:=by exact eV
    refine AK (ι:={t:Nat×List (List Int)//t.1≤i∧List.Perm t.2 l∧vW t.2 i t.1}) (fun t=>⟨[(0,.sr 1000000 Bx 0 l.length),(1,.p T3 (0:Int)),(2,.p T3 (l.length:Int)),(3,.fn 43),(8,.p (.int .i64) (i:Int)),(9,.p (.int .i64) (t.1.1:Int))],[(1000000,.arr 30 Bx t.1.2)]⟩) (fun t=>t.1.1) ⟨(i,m),Nat.le_refl i,hp,d3 hs⟩ (AC [(1000000,.nm 1000000)] rfl rfl ?_ ?_) (fun t=>?_)
    ·first|exact eN|refine eM ?_
    ·first|exact eN|refine eM ?_
    ·obtain⟨⟨j,c⟩,hj,hcp,hcs⟩:=t
     simp only at hj hcp hcs ⊢
     have hcl:=hcp.length_eq
     repeat'(first|exact trivial|refine eS rfl ?_|refine AB ?_|refine rX [0,1,2,3,8,9,14,34] hc ?_ ?_)
     ·dsimp only[Ty.den]at *
      exact⟨fun _=>by omega,fun _=>⟨by omega,by omega⟩,fun _=>⟨by omega,by omega⟩⟩
     ·have ej:0<j→((j:Int)-1).toNat=j-1:=fun _=>by omega
      refine R3 (by simp only[go_sem,Nat.reduceEqDiff,reduceCtorEq,Nat.reduceAdd,Nat.reduceSub,Nat.reduceMul,Nat.reduceLeDiff,Nat.reduceLT,Int.reduceLE,Int.reduceToNat,Int.reduceNeg,↓reduceIte];rfl) ?_ ?_
      ·intro hc2
       simp only[Bool.and_eq_true,decide_eq_true_eq]at hc2
       have hj0:0<j:=by omega
       have hlt:=hc2.2
       rw[ej hj0]at hlt
       have hsw:d4 c j=(c.set j (c.getD (j-1) [])).set (j-1) (c.getD j []):=rfl
       repeat'(first|exact trivial|refine eS rfl ?_|refine AB ?_|refine rP [0,1,2,3,8,9,14,34] hc ?_ ?_|fail)
       refine IH drawsAny hc 16 [([0,1,5,6,7,8,9,10,11,12,13,14],15)] [2,3,4] (by kernel_rfl) (UN ?_ ?_)
       ·dsimp only[Ty.den]at *
        omega
       ·refine Xw hc [] ?_ ?_
        ·trivial
        ·refine wM [0,1,2,3,8,9,14,34] hc ?_ ?_ ?_
         ·dsimp only[Ty.den]at *
          omega
         ·dsimp only[Ty.den]at *
          omega
         ·rw[ej hj0]
          repeat'(first|exact trivial|refine eS rfl ?_|refine AB ?_|refine rX [0,1,2,3,8,9,14,34] hc ?_ ?_|refine rC ?_ ?_<;>intro AA<;>try(cases AA;done))
          ·dsimp only[Ty.den]at *
           omega
          ·refine⟨⟨(j-1,d4 c j),by simp only;omega,(pQ (by omega)).trans hcp,pR hcs hj0 hj (by omega) hlt⟩,by simp only;omega,AC [(1000000,.nm 1000000)] rfl rfl ?_ ?_⟩
           ·simp only
            rw[hsw]
            first|exact eN|refine eM ?_
           ·simp only
            rw[show ((j-1:Nat):Int)=(j:Int)-1 by omega]
            first|exact eN|refine eM ?_
      ·intro hc2
       have hd:j=0∨0≤Bu (c.getD j []) (c.getD (j-1) []):=by
        by_cases hj0:j=0
        ·exact .inl hj0
        ·right
         simp only[Bool.and_eq_false_iff,decide_eq_false_iff_not]at hc2
         rw[ej (by omega)]at hc2
         rcases hc2 with h|h
         ·omega
         ·omega
       repeat'(first|exact trivial|refine eS rfl ?_|refine AB ?_|refine rX [0,1,2,3,8,9,14,34] hc ?_ ?_|refine rC ?_ ?_<;>intro AA<;>try(cases AA;done))
       ·exact eV
       ·refine⟨⟨(i+1,c),by simp only;omega,.inr hil,hcp,vX hcs hj hd⟩,by simp only;omega,AC [(1000000,.nm 1000000)] rfl rfl ?_ ?_⟩
        ·first|exact eN|refine eM ?_
        ·first|exact eN|refine eM ?_
   ·have hin:l.length≤i:=by exact eV
    refine Bp hc [] rfl (.inr rfl) (.raw (.tuple #[])) rfl ⟨rfl,m,rfl,hp,fun a b h1 h2=>hs a b h1 (by omega)⟩
end
/- slices.SortFunc of at most 12 paths. -/
section
theorem A0O (l:List (List Int)) (lim:Int) (hl:l.length≤12):Ca Tryz.prog 70 [.sr 1000000 Bx 0 l.length,.p T3 (0:Int),.p T3 (l.length:Int),.p T3 lim,.fn 43] [(1000000,.arr 30 Bx l)] [1000000] (fun res objs'=>res=.raw (.tuple #[])∧∃r,objs'=[(1000000,.arr 30 Bx r)]∧List.Perm r l∧dZ r l.length):=by
 refine DJ Tryz.func70 (by kernel_rfl) rfl Tryz.ntmps70 (by simp only[List.length_cons,List.length_nil];omega) (by kernel_rfl) rfl rfl (AH []) AI ?_
 intro w0 K O0 ρ0 hc hok1 hok2
 simp only[BU]
 repeat'(first|exact trivial|refine eS rfl ?_|refine AB ?_|refine rX [0,1,2,3,4,10,11,12,13,14,15,16,17,18,19,20,25,32,39,56,75,80,97,125] hc ?_ ?_|refine rC ?_ ?_<;>intro AA<;>try(cases AA;done))
 refine AK (ι:=Unit) (fun x=>⟨[(0,.sr 1000000 Bx 0 l.length),(1,.p T3 (0:Int)),(2,.p T3 (l.length:Int)),(3,.p T3 lim),(4,.fn 43),(10,.p .bool true),(11,.p .bool true)],[(1000000,.arr 30 Bx l)]⟩) (fun x=>0) () (AC [(1000000,.nm 1000000)] rfl rfl ?_ ?_) (fun x=>?_)
 ·first|exact eN|refine eM ?_
 ·first|exact eN|refine eM ?_
 ·repeat'(first|exact trivial|refine eS rfl ?_|refine AB ?_|refine rX [0,1,2,3,4,10,11,12,13,14,15,16,17,18,19,20,25,32,39,56,75,80,97,125] hc ?_ ?_)
  ·omega
  ·refine rC (fun AA=>?_) (fun AA=>?_)
   ·repeat'(first|exact trivial|refine eS rfl ?_|refine AB ?_|refine rX [0,1,2,3,4,10,11,12,13,14,15,16,17,18,19,20,25,32,39,56,75,80,97,125] hc ?_ ?_)
    refine cP 4 hc ?_ ?_
    ·trivial
    ·refine rM hc (A0N l (by omega)) [(1000000,.nm 1000000)] [] ?_ ?_ ?_
     ·first|exact eN|refine eM ?_
     ·first|exact eN|refine eM ?_
     ·rintro _ _ ⟨rfl,r,rfl,hp,hs⟩
      have hrl:=hp.length_eq
      refine⟨[(1000000,.nm 1000000)],.raw (.tuple #[]),[(1000000,.arr 30 Bx r)],rfl,rfl,?_,?_,rfl,rfl,EJ ?_⟩
      ·first|exact eN|refine eM ?_
      ·first|exact eN|refine eM ?_
      ·repeat'(first|exact trivial|refine eS rfl ?_|refine AB ?_|refine rX [0,1,2,3,4,10,11,12,13,14,15,16,17,18,19,20,25,32,39,56,75,80,97,125] hc ?_ ?_)
       exact Bp hc [] rfl (.inl rfl) (.raw (.tuple #[])) rfl ⟨rfl,r,rfl,hp,hs⟩
   ·exfalso
    have h:=Int.not_le.2 AA
    omega
theorem vZ (l:List (List Int)) (hl:l.length≤12):Ca Tryz.prog 42 [.sr 1000000 Bx 0 l.length,.fn 43] [(1000000,.arr 30 Bx l)] [1000000] (fun res objs'=>res=.raw (.tuple #[])∧∃r,objs'=[(1000000,.arr 30 Bx r)]∧List.Perm r l∧dZ r l.length):=by
 refine DJ Tryz.func42 (by kernel_rfl) rfl Tryz.ntmps42 (by simp only[List.length_cons,List.length_nil];omega) (by kernel_rfl) rfl rfl (AH []) AI ?_
 intro w0 K O0 ρ0 hc hok1 hok2
 simp only[BU]
 repeat'(first|exact trivial|refine eS rfl ?_|refine AB ?_|refine rX [0,1,4] hc ?_ ?_|refine rC ?_ ?_<;>intro AA<;>try(cases AA;done))
 refine cP 4 hc ?_ ?_
 ·exact eV
 ·refine rM hc (uJ (l.length:Int) (by omega) (by omega)) [] [] ?_ ?_ ?_
  ·first|exact eN|refine eM ?_
  ·first|exact eN|refine eM ?_
  ·rintro _ _ ⟨⟨n,rfl,hnz⟩,rfl⟩
   refine⟨[],.p T3 n,[],rfl,rfl,?_,?_,rfl,rfl,?_⟩
   ·first|exact eN|refine eM ?_
   ·first|exact eN|refine eM ?_
   ·refine Nm hc 1 (by simp only[go_sem,Nat.reduceEqDiff,reduceCtorEq,Nat.reduceAdd,Nat.reduceSub,Nat.reduceMul,Nat.reduceLeDiff,Nat.reduceLT,Int.reduceLE,Int.reduceToNat,Int.reduceNeg,↓reduceIte];rfl) ?_ ?_
    ·trivial
    ·refine rM hc (A0O l n hl) [(1000000,.nm 1000000)] [] ?_ ?_ ?_
     ·first|exact eN|refine eM ?_
     ·first|exact eN|refine eM ?_
     ·rintro _ _ ⟨rfl,r,rfl,hp,hs⟩
      refine⟨[(1000000,.nm 1000000)],.raw (.tuple #[]),[(1000000,.arr 30 Bx r)],rfl,rfl,?_,?_,rfl,rfl,EJ ?_⟩
      ·first|exact eN|refine eM ?_
      ·first|exact eN|refine eM ?_
      ·repeat'(first|exact trivial|refine eS rfl ?_|refine AB ?_|refine rX [0,1,4] hc ?_ ?_|refine rC ?_ ?_<;>intro AA<;>try(cases AA;done))
       exact Bp hc [] rfl (.inr rfl) (.raw (.tuple #[])) rfl ⟨rfl,r,rfl,hp,hs⟩
def aC (p:List Int):List (List Int)→List (List Int)
 | []=>[p]
 | q :: l=>if Bu p q≤0 then p :: q :: l else q :: aC p l
def WD (l:List (List Int)):List (List Int):=l.foldr aC []
theorem Lm (p:List Int):∀l:List (List Int),(aC p l).Perm (p :: l)
 | []=>List.Perm.refl _
 | q :: l=>by
  unfold aC
  split
  ·exact List.Perm.refl _
  ·exact((Lm p l).cons q).trans (List.Perm.swap p q l)
theorem Tp (p:List Int):∀ {l:List (List Int)},l.Pairwise (fun a b=>Bu a b≤0)→(aC p l).Pairwise (fun a b=>Bu a b≤0)
 | [],_=>List.pairwise_singleton _ _
 | q :: l,h=>by
  unfold aC
  rw[List.pairwise_cons]at h
  split
  ·rename_i hpq
   rw[List.pairwise_cons]
   refine⟨fun x hx=>?_,List.pairwise_cons.2 h⟩
   rcases List.mem_cons.1 hx with rfl|hx
   ·exact hpq
   ·exact MJ hpq (h.1 x hx)
  ·rename_i hpq
   rw[List.pairwise_cons]
   refine⟨fun x hx=>?_,Tp p h.2⟩
   rcases List.mem_cons.1 ((Lm p l).mem_iff.1 hx) with rfl|hx
   ·have:=Fu x q
    omega
   ·exact h.1 x hx
theorem Fv:∀l:List (List Int),(WD l).Perm l
 | []=>List.Perm.refl _
 | p :: l=>(Lm p (WD l)).trans ((Fv l).cons p)
theorem Ps:∀l:List (List Int),(WD l).Pairwise (fun a b=>Bu a b≤0)
 | []=>List.Pairwise.nil
 | p :: l=>Tp p (Ps l)
theorem v4 {l r:List (List Int)} (hp:r.Perm l) (hs:dZ r l.length):r=WD l:=by
 refine List.Perm.eq_of_pairwise (le:=fun a b=>Bu a b≤0) (fun a b _ _ h1 h2=>?_) ?_ (Ps l) (hp.trans (Fv l).symm)
 ·have:=Fu a b
  exact Ft.1 (by omega)
 ·rw[List.pairwise_iff_getElem]
  intro i j hi hj hij
  have:=hs i j hij (by rw[←hp.length_eq];exact hj)
  rwa [List.getD_eq_getElem?_getD,List.getElem?_eq_getElem hi,List.getD_eq_getElem?_getD,List.getElem?_eq_getElem hj]at this
end
/- quick.Clashes. -/
section
attribute [local go_sem] MI Ql
def aR (h:AN) (a b:List AF) (n:Nat):Bool:=(Dp b ((Aj a).getD n [])).2&&!(Ba h (a.getD n (0,[])).1 (Dp b ((Aj a).getD n [])).1).2
def DU (h:AN) (a b:List AF) (k:Nat):List (List Int):=((List.range k).filter (aR h a b)).map fun n=>(Aj a).getD n []
def B6 (h:AN) (a b:List AF):List (List Int):=WD (DU h a b a.length)
theorem aD {h:AN} {a b:List AF} {k:Nat} (hk:aR h a b k=true):DU h a b (k+1)=DU h a b k++[(Aj a).getD k []]:=by
 unfold DU
 rw[List.range_succ,List.filter_append,List.map_append]
 simp[hk]
theorem aE {h:AN} {a b:List AF} {k:Nat} (hk:aR h a b k=false):DU h a b (k+1)=DU h a b k:=by
 unfold DU
 rw[List.range_succ,List.filter_append,List.map_append]
 simp[hk]
theorem Tq (h:AN) (a b:List AF) (k:Nat):(DU h a b k).length≤k:=by
 unfold DU
 rw[List.length_map]
 exact Nat.le_trans (List.length_filter_le _ _) (by simp)
theorem HZ {h:AN} {f:List AF} (hf:AY f) (h0:0<f.length) (ht:Ge h f) {p:List Int} (hp:(Dp f p).2=true):0≤(Dp f p).1∧(Dp f p).1<(h.1.length:Int):=by
 unfold Dp at hp ⊢
 split
 ·rename_i hs
  have:=Oe hf p 0 (Int.le_refl 0) (by omega) hs
  exact ht (f.getD (Gf f 0 p).1.toNat (0,[])) (AD f (0,[]) (by omega))
 ·rename_i hs
  rw[if_neg hs]at hp
  cases hp
def Fx:Ac:={ ins:=[II,FW,FW],pre:=fun(h,a,b,_)=>WdH h∧(AY a∧0<List.length a∧Ge h a∧List.length a≤12)∧AY b∧0<List.length b∧Ge h b,out:=fun(h,a,b,_)=>[.p PN (B6 h a b)] }
attribute [local go_sem] Fx
theorem Kx:Ai Tryz.prog 22 Fx:=by
 refine AP Tryz.func22 (by kernel_rfl) rfl Tryz.ntmps22 (by decide) (by kernel_rfl) (AH [(33,MI),(37,Ql)]) (AE l8 (AE XY AI)) ?_
 rintro w0 O0 ⟨⟨ht,hf⟩,a,b,u⟩ hc-⟨hw,⟨ga,pa,ta,la⟩,gb,pb,tb⟩
 simp only[Fx,AM]
 have hfl:(Aj a).length=List.length a:=Fq ga pa
 repeat'(first|exact trivial|refine eS rfl ?_|refine AB ?_|refine rX [0,1,2,3,4,5,6,7,8,9,10,11,13,15,16,17,18,29,43] hc ?_ ?_|refine rC ?_ ?_<;>intro AA<;>try(cases AA;done))
 refine cP 1 hc ?_ ?_
 ·trivial
 ·refine rM hc (o6 a ga pa) [] [] ?_ ?_ ?_
  ·first|exact eN|refine eM ?_
  ·first|exact eN|refine eM ?_
  ·rintro _ _ ⟨rfl,rfl⟩
   refine⟨[(201,.nm 9)],.sr 201 Bx 0 (List.length a),[(201,.arr 30 Bx (Aj a))],rfl,rfl,?_,?_,rfl,rfl,?_⟩
   ·first|exact eN|refine eM ?_
   ·first|exact eN|refine eM ?_
   ·refine Nr [0,1,2,3,4,5,6,7,8,9,10,11,13,15,16,17,18,29,43] hc (by simp only[go_sem,Nat.reduceEqDiff,reduceCtorEq,Nat.reduceAdd,Nat.reduceSub,Nat.reduceMul,Nat.reduceLeDiff,Nat.reduceLT,Int.reduceLE,Int.reduceToNat,Int.reduceNeg,↓reduceIte];rfl) ?_ ?_
    ·trivial
    ·repeat'(first|exact trivial|refine eS rfl ?_|refine AB ?_|refine rX [0,1,2,3,4,5,6,7,8,9,10,11,13,15,16,17,18,29,43] hc ?_ ?_|refine rC ?_ ?_<;>intro AA<;>try(cases AA;done))
     refine Gb [201] ?_
     rw[show (Aj a).take (List.length a)=Aj a from List.take_of_length_le (by omega)]
     refine AK (ι:={k:Nat//k≤List.length a}) (fun k=>⟨[(3,.bp 3 [] 0),(4,.bp 4 [] 0),(5,.bp 5 [] 0),(7,.sr 47 Bx 0 (DU (ht,hf) a b k.1).length),(15,.p PN (Aj a)),(16,.p (.int .i64) (List.length a:Int)),(17,.p (.int .i64) (k.1:Int))],[(5,.box 24 true [.p Jm b]),(4,.box 24 true [.p Jm a]),(3,.box 37 true [.p Xx ht,.p Yq hf]),(47,.arr 30 Bx (DU (ht,hf) a b k.1))]⟩) (fun k=>List.length a-k.1) ⟨0,Nat.zero_le _⟩ (AC [(5,.nm 5),(4,.nm 4),(3,.nm 3),(47,.nil)] rfl rfl ?_ ?_) (fun k=>?_)
     ·first|exact eN|refine eM ?_
      rfl
     ·first|exact eN|refine eM ?_
      rfl
     ·obtain⟨k,hk⟩:=k
      have hcl:=Tq (ht,hf) a b k
      have hct:=aD (h:=(ht,hf)) (a:=a) (b:=b) (k:=k)
      have hcf:=aE (h:=(ht,hf)) (a:=a) (b:=b) (k:=k)
      have hcb:aR (ht,hf) a b k=_:=rfl
      have htr:=fun p=>HZ (p:=p) gb pb tb
      simp only
      generalize hcc:DU (ht,hf) a b k=cl at *
      have htk:cl.take cl.length=cl:=List.take_length
      repeat'(first|exact trivial|refine eS rfl ?_|refine AB ?_|refine rX [0,1,2,3,4,5,6,7,8,9,10,11,13,15,16,17,18,29,43] hc ?_ ?_|refine rC ?_ ?_<;>intro AA<;>try(cases AA;done))
      ·rw[hfl];exact AA
      ·exact⟨gb,pb⟩
      ·exact eV
      ·have hkl:k<List.length a:=by exact eV
       have hcf:=hcf (by unfold aR;rw[AA];rfl)
       refine⟨⟨k+1,hkl⟩,by simp only;omega,AC [(5,.nm 5),(4,.nm 4),(3,.nm 3),(47,.nm 47)] rfl rfl ?_ ?_⟩
       ·simp only
        rw[hcf]
        first|exact eN|refine eM ?_
       ·simp only
        rw[hcf]
        first|exact eN|refine eM ?_
      ·have hkl:k<List.length a:=by exact eV
       exact⟨by assumption,ta _ (AD (a:List AF) (0,[]) hkl),htr _ AA,hw⟩
      ·simp only[AO]
       omega
      ·exact eV
      ·have hkl:k<List.length a:=by exact eV
       rename_i hty
       have hct:=hct (by unfold aR;rw[hty,AA];rfl)
       refine⟨⟨k+1,hkl⟩,by simp only;omega,AC [(5,.nm 5),(4,.nm 4),(3,.nm 3),(47,.nm 47)] rfl rfl ?_ ?_⟩
       ·simp only
        rw[hct]
        first|exact eN|refine eM ?_
       ·simp only
        rw[hct]
        first|exact eN|refine eM ?_
      ·exact eV
      ·have hkl:k<List.length a:=by exact eV
       rename_i hty
       have hcf:=hcf (by unfold aR;rw[hty,AA];rfl)
       refine⟨⟨k+1,hkl⟩,by simp only;omega,AC [(5,.nm 5),(4,.nm 4),(3,.nm 3),(47,.nm 47)] rfl rfl ?_ ?_⟩
       ·simp only
        rw[hcf]
        first|exact eN|refine eM ?_
       ·simp only
        rw[hcf]
        first|exact eN|refine eM ?_
      ·have hka:k=List.length a:=by exact eV
       subst hka
       have hce:B6 (ht,hf) a b=WD cl:=by unfold B6;rw[hcc]
       refine cP 1 hc ?_ ?_
       ·trivial
       ·refine rM hc (vZ cl (by omega)) [(1000000,.nm 47)] [] ?_ ?_ ?_
        ·first|exact eN|refine eM ?_
        ·first|exact eN|refine eM ?_
        ·rintro _ _ ⟨rfl,r,rfl,hp,hs⟩
         have hrl:=hp.length_eq
         have hr:=v4 hp hs
         refine⟨[(47,.nm 1000000)],.raw (.tuple #[]),[(47,.arr 30 Bx r)],rfl,rfl,?_,?_,rfl,rfl,EJ ?_⟩
         ·first|exact eN|refine eM ?_
         ·first|exact eN|refine eM ?_
         ·repeat'(first|exact trivial|refine eS rfl ?_|refine AB ?_|refine rX [0,1,2,3,4,5,6,7,8,9,10,11,13,15,16,17,18,29,43] hc ?_ ?_|refine rC ?_ ?_<;>intro AA<;>try(cases AA;done))
          exact AG hc [.tmp 6] rfl (.inl rfl) (by simp) (by rw[hce,←hr];first|exact eR|refine Ap ?_;exact List.take_of_length_le (by omega))
end
end Go.Proofs.YtmejfnhmgbhkmabGreat.Fw
