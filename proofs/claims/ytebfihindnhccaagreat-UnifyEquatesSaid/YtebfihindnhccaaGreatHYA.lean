/- Contracts of the program's and the reference's functions, and the plain laws of what they compute: R07b R07c R07d R07e Sorted R07f R07g R07h V1 V2 C1 C2 C9 C10 C11 C12 C13 C3 C4 C5 C6 C7 C8 C14 C15 C16 C17 C18 C19 C20 C21 C22 C23 N1 N2. -/
/- Functions of grammarlabref07: arcs. -/
import Derived.Test.YtebfihindnhccaaGreatHZJ
set_option linter.unusedVariables false
set_option linter.unusedSimpArgs false
namespace Go.Proofs.YtebfihindnhccaaGreat.Fw
open Go
attribute [local irreducible] Ev
attribute [local go_sem] Xz AN List.toList_toArray Bd evG evK T7 D8 I2 F1 FG FC NF Jj Bv Cq LA B4 CO frz Z3 Fx Cp A3 E6 Bb AV.frz AV.frzs AV.drp AV.drps AV.names AV.namess aq Fz Ji Iu Qs Hq BN BP IK EL HY EM Ha HZ Hb Ri M9 GD Iv E8 Dl Rj Oi qS IL Hc J2 Eh Ds Qt CA Dt ET Oj Ol J3 Ht Iw Cd CU Er DL Gm DJ EU DK Du FA B4 CM Qr Oh MO Ft Hs Hr J1 L3 NC J5 J8 J6 Iz Px J7 I0 Vy NE ND AV.trn AV.trns Dg B9 Obj.trn Ia YK Cf Cy Ce Dv CN EV Ap lk GW Fy Gj w9 Z2 UA Z5 Pw nL nM xC AV.cells Bo II M8 Iy NB B2 L1 Ty.cell1 HX EK DI FX MN Eg It J0 Pt Fv GC Lv Qq Rh Jy Ir Vu Xc Pu L2 CY IJ RV.flat Ty.flat Ty.size St.add upd T6 BT Value.oneCell' Jv Ty.dflt HW Nc Gt Np List.take_succ_cons List.take_zero List.length_cons X8 X9 Nn IX KN Gg IY rW FH LM LN LO LP Oy Oz LQ Hh Rz Option.map_some Option.map_none Option.bind_some Option.getD_some Option.getD_none Option.isNone_none Option.isNone_some Bool.and_true Bool.true_and Bool.and_false Bool.false_and Bool.not_true Bool.not_false if_true if_false List.length_cons List.length_nil and_true true_and and_self List.all_cons List.all_nil List.append_nil List.nil_append List.cons_append List.getElem?_cons_zero List.getElem?_cons_succ List.getElem?_nil List.map_cons List.map_nil List.set_cons_zero List.set_cons_succ List.isEmpty_nil List.isEmpty_cons decide_true decide_false beq_self_eq_true bne_self_eq_false Nat.zero_add Nat.add_zero Nat.sub_zero Int.toNat_natCast Int.toNat_zero Int.toNat_one List.take_length List.length_append List.length_singleton true_or or_true or_self false_or or_false Ty.agg.injEq Ty.slice.injEq Ty.prod.injEq Ty.int.injEq Option.some.injEq beq_iff_eq KL evMG evMQ r7 Gv KJ Bh IW F2 Nh IU Gu Hi JA Jn MX L8 MY Qw KK Nj Nk IV AZ Af Op.operands Call.operands List.filterMap_cons List.filterMap_nil List.append_eq Bool.cond_false_right Bool.cond_true_left cond_true cond_false implies_true decide_eq_true_eq beq_true beq_false Bool.or_true Bool.or_false Bool.true_or Bool.false_or Option.isSome_some E7 LB EW Gk Vx NA E9 Fd Fc Hd Gl Ix J4 UB Z4 UN inB I1 FB Fu IM Ca YB List.drop_zero DP Gx WT EO JG Co AV.fgt AV.fgts Obj.fgt BD Av AZ Cj JF BW F3 List.any_cons List.any_nil aX YE WU YF KO O3 qs List.flatMap_cons List.flatMap_nil List.cons_append tn WW GR List.take_succ_cons List.drop_succ_cons yJ SM RI e7 LV Cu DZ Au FF I9 CB EZ Dm Hy Hg Fg Gr
attribute [local go_sem] ty1 ty2 ty3 ty4 ty5 ty9 yM yN yO yP yQ yR yS yT yU yV yW yX yY yZ y3 y4 y5 y6 y7 y8 y9 zA zB zC zD zE zF zG zH zI zJ zK zL zM zN zO zP zQ zR zS zT zU zV zW zX zY zZ z4 z5 z6 z7 z8 z9 A00 A01 A02 A03 A04 A05 A06 A07 A08 A09 A0a A0b A0c A0d A0e A0f A0g A0h A0i A0j A0k A0l A0m A0n A0o fC fD fE fF fG fH fI fJ fK fL fM fO fP fQ fR fS fT fU fV fW fX fY fZ f6 f7 f8 f9 gB gC gD gE gF gG gH gI gJ gK gL gM gP gQ gR gS gT gU gV gW gX gY gZ g9 hC hD hH hY hZ iA iB iC iD iE iG iH iI iJ iK iL iM iO iP iQ iR iT iU iV iW iX iY iZ i3 i4 i5 i6 i7 i8 i9 jA jB jC jD jE jF jG jH jI jJ jK jL jM jN jO jP jQ jR jS jT jU jV jW jX jY jZ j4 j5 j6 j7 j8 j9 kA kB kC kD kE kF kG kH kI kJ kK kL kM kN kO kP kQ kR kS kT kU kV kW kX kY kZ k4 k5 k6 k7 k8 k9 lA lB lC lD lF lG lH lI lJ lK lL lM lO lQ lR lS lU lV lW
set_option maxRecDepth 100000
set_option maxHeartbeats 4000000
section
def Nv (n:Int) (seen:List (Int×Int)):List (Int×Int)→Int
 | []=>0
 | x :: r=>if x.1<0∨x.2<0∨n≤x.2 then 2 else if (seen.any fun y=>y.1==x.1)=true then 4 else Nv n (seen++[x]) r
def Id (l:List (Int×Int)) (n:Int):Int:=Nv n [] l
def lZ:Ak:={ ins:=[Cb,T3],pre:=fun _=>True,out:=fun(l,n,_)=>[.p YO (Id l n)] }
theorem SS (n:Int) (l:List (Int×Int)) {k:Nat} (h:k<l.length):Nv n (l.take k) (l.drop k)=if (l.getD k (0,0)).1<0∨(l.getD k (0,0)).2<0∨n≤(l.getD k (0,0)).2 then 2 else if ((l.take k).any fun y=>y.1==(l.getD k (0,0)).1)=true then 4 else Nv n (l.take (k+1)) (l.drop (k+1)):=by
 rw[Ab l (0,0) h,List.drop_eq_getElem_cons h,List.getD_eq_getElem?_getD,List.getElem?_eq_getElem h]
 rfl
theorem UG (l:List (Int×Int)) (f:Int) {k:Nat} (h:k<l.length):((l.take (k+1)).any fun y=>y.1==f)=((l.take k).any (fun y=>y.1==f)||((l.getD k (0,0)).1==f)):=by
 rw[Ab l (0,0) h,List.any_append];simp
theorem A0q:Ao Tryz.prog 146 lZ:=by
 refine AX Tryz.func146 (by kernel_rfl) rfl Tryz.ntmps146 (by decide) (by kernel_rfl) (AJ []) (fun f sp h=>by simp[lk]at h) ?_
 rintro w0 O0 ⟨l,n,u⟩ hc ⟨⟨hl,-⟩,-⟩ -
 simp only[AP]at hl
 simp only[lZ,AN]
 repeat'(first|exact trivial|refine eS rfl ?_|refine AB ?_|refine rX [0,1,4,5,6,10,35,38,51] hc ?_ ?_|refine rC ?_ ?_<;>intro AA<;>try(cases AA;done))
 refine AK (ι:={k:Nat//k≤l.length∧Nv n (l.take k) (l.drop k)=Id l n}) (fun k=>⟨[(0,.p Cb l),(1,.p T3 n),(5,.p (.int .i64) (k.1:Int))],[]⟩) (fun k=>l.length-k.1) ⟨0,by simp[Id]⟩ (AC [] rfl rfl ?_ ?_) (fun k=>?_)
 ·first|exact eN|refine eM ?_
 ·first|exact eN|refine eM ?_
 ·obtain⟨k,hk,hall⟩:=k
  repeat'(first|exact trivial|refine eS rfl ?_|refine AB ?_|refine rX [0,1,4,5,6,10,35,38,51] hc ?_ ?_|refine rC ?_ ?_<;>intro AA<;>try(cases AA;done))
  ·exact eV
  ·have hk:k<l.length:=by exact eV
   have h1:Id l n=2:=by
    rw[←hall,SS n l hk,if_pos (by rw[←or_assoc];exact AA)]
   exact AH hc [.tmp 4] rfl (.inl rfl) (by simp) (by rw[h1];first|exact eR|refine Ax ?_)
  ·have hk:k<l.length:=by exact eV
   have hn:¬((l.getD k (0,0)).1<0∨(l.getD k (0,0)).2<0∨n≤(l.getD k (0,0)).2):=by
    have:=AA
    generalize l.getD k (0,0)=x at this
    exact eV
   rw[SS n l hk,if_neg hn]at hall
   refine AK (ι:={j:Nat//j≤k∧((l.take j).any fun y=>y.1==(l.getD k (0,0)).1)=false}) (fun j=>⟨[(0,.p Cb l),(1,.p T3 n),(5,.p (.int .i64) (k:Int)),(6,.p (.int .i64) (j.1:Int))],[]⟩) (fun j=>k-j.1) ⟨0,by simp⟩ (AC [] rfl rfl ?_ ?_) (fun j=>?_)
   ·first|exact eN|refine eM ?_
   ·first|exact eN|refine eM ?_
   ·obtain⟨j,hj,hany⟩:=j
    repeat'(first|exact trivial|refine eS rfl ?_|refine AB ?_|refine rX [0,1,4,5,6,10,35,38,51] hc ?_ ?_|refine rC ?_ ?_<;>intro AA<;>try(cases AA;done))
    ·exact eV
    ·have hjl:j<l.length:=by exact eV
     have h1:Id l n=4:=by
      have h2:((l.take k).any fun y=>y.1==(l.getD k (0,0)).1)=true:=by
       rw[List.any_eq_true]
       refine⟨l.getD j (0,0),?_,by simpa using AA⟩
       rw[List.getD_eq_getElem?_getD,List.getElem?_eq_getElem hjl]
       exact List.mem_take_iff_getElem.2 ⟨j,by exact eV,rfl⟩
      rw[←hall,if_pos h2]
     exact AH hc [.tmp 4] rfl (.inl rfl) (by simp) (by rw[h1];first|exact eR|refine Ax ?_)
    ·exact eV
    ·have hjl:j<l.length:=by exact eV
     refine⟨⟨j+1,by exact eV,?_⟩,by simp only;exact eV,AC [] rfl rfl ?_ ?_⟩
     ·have h2:=UG l (l.getD k (0,0)).1 hjl
      refine h2.trans ?_
      rw[hany]
      simpa using AA
     ·first|exact eN|refine eM ?_
     ·first|exact eN|refine eM ?_
    ·exact eV
    ·have hjk:j=k:=by exact eV
     subst hjk
     refine⟨⟨j+1,by exact eV,?_⟩,by simp only;exact eV,AC [] rfl rfl ?_ ?_⟩
     ·rw[←hall,if_neg (by rw[hany];simp)]
     ·first|exact eN|refine eM ?_
     ·first|exact eN|refine eM ?_
  ·have h1:Id l n=0:=by
    have hk:l.length≤k:=by exact eV
    rw[←hall,List.drop_eq_nil_of_le hk];rfl
   exact AH hc [.tmp 4] rfl (.inl rfl) (by simp) (by rw[h1];first|exact eR|refine Ax ?_)
end
/- Functions of grammarlabref07: numbers. -/
section
def ST (n:Int×List (Int×Int)):List Int:=n.1 :: (n.2.length:Int) :: n.2.flatMap fun a=>[a.1,a.2]
def BX (f:List (Int×List (Int×Int))):List Int:=(f.length:Int) :: f.flatMap ST
def UH (l:List (Int×List (Int×Int))) (k:Nat):List Int:=(l.length:Int) :: (l.take k).flatMap ST
def SU (l:List (Int×List (Int×Int))) (k j:Nat):List Int:=UH l k++[(l.getD k (0,[])).1,((l.getD k (0,[])).2.length:Int)]++((l.getD k (0,[])).2.take j).flatMap fun a=>[a.1,a.2]
theorem O7:∀l:List (Int×Int),(l.flatMap fun a=>[a.1,a.2]).length=2*l.length
 | []=>rfl
 | x :: l=>by simp[O7 l];omega
theorem tD (n:Int×List (Int×Int)):(ST n).length=2+2*n.2.length:=by
 have:=O7 n.2
 simp only[ST,List.length_cons];omega
theorem SV:∀l:List (Int×List (Int×Int)),(∀n∈l,n.2.length≤100000)→(l.flatMap ST).length≤l.length*200002
 | [],_=>by simp
 | x :: l,h=>by
  have h1:=h x (by simp)
  have h2:=SV l (fun n hn=>h n (by simp[hn]))
  have h3:=tD x
  simp only[List.flatMap_cons,List.length_append,List.length_cons]
  omega
theorem YT {l:List (Int×List (Int×Int))} (h:∀n∈l,n.2.length≤100000) {k:Nat} (hk:k≤l.length):(UH l k).length≤1+k*200002:=by
 have h1:=SV (l.take k) (fun n hn=>h n (List.mem_of_mem_take hn))
 rw[List.length_take,Nat.min_eq_left hk]at h1
 simp only[UH,List.length_cons]
 omega
theorem tE {l:List (Int×List (Int×Int))} (h:∀n∈l,n.2.length≤100000) {k j:Nat} (hk:k<l.length) (hj:j≤(l.getD k (0,[])).2.length):(SU l k j).length≤3+k*200002+2*j:=by
 have h1:=YT h (Nat.le_of_lt hk)
 have h2:=O7 ((l.getD k (0,[])).2.take j)
 rw[List.length_take,Nat.min_eq_left hj]at h2
 simp only[SU,List.length_append,List.length_cons,List.length_nil]
 omega
theorem Uu {l:List (Int×List (Int×Int))} {k:Nat} (hk:k<l.length):UH l (k+1)=SU l k (l.getD k (0,[])).2.length:=by
 unfold UH SU
 rw[Ab l (0,[]) hk,List.flatMap_append,List.take_length]
 simp[ST,UH]
theorem Uv {l:List (Int×List (Int×Int))} {k j:Nat} (hj:j<(l.getD k (0,[])).2.length):SU l k (j+1)=SU l k j++[((l.getD k (0,[])).2.getD j (0,0)).1,((l.getD k (0,[])).2.getD j (0,0)).2]:=by
 unfold SU
 rw[Ab _ (0,0) hj,List.flatMap_append]
 simp
def Nw:Ak:={ ins:=[Ei],pre:=fun(f,_)=>f.length≤100000∧∀n∈f,n.2.length≤100000,out:=fun(f,_)=>[.p Ez (BX f)] }
theorem bE:Ao Tryz.prog 108 Nw:=by
 refine AX Tryz.func108 (by kernel_rfl) rfl Tryz.ntmps108 (by decide) (by kernel_rfl) (AJ []) AL ?_
 rintro w0 O0 ⟨l,u⟩ hc ⟨hl,-⟩ ⟨hp1,hp2⟩
 simp only[Nw,AN]
 repeat'(first|exact trivial|refine eS rfl ?_|refine AB ?_|refine rX [0,1,2,3,4,5,6,15,38] hc ?_ ?_|refine rC ?_ ?_<;>intro AA<;>try(cases AA;done))
 refine AK (ι:={k:Nat//k≤l.length}) (fun k=>⟨[(0,.p Ei l),(1,.bp 1 [] 0),(3,.sr 10 T3 0 (UH l k.1).length),(4,.p (.int .i64) (k.1:Int))],[(1,.box 25 true [.p Ib l]),(10,.arr 3 T3 (UH l k.1))]⟩) (fun k=>l.length-k.1) ⟨0,by simp⟩ (AC [(1,.nm 1),(10,.nm 10)] rfl rfl ?_ ?_) (fun k=>?_)
 ·first|exact eN|refine eM ?_
  rfl
 ·first|exact eN|refine eM ?_
  rfl
 ·obtain⟨k,hk⟩:=k
  have hn1:=YT hp2 hk
  repeat'(first|exact trivial|refine eS rfl ?_|refine AB ?_|refine rX [0,1,2,3,4,5,6,15,38] hc ?_ ?_|refine rC ?_ ?_<;>intro AA<;>try(cases AA;done))
  ·exact eV
  ·refine⟨by exact eV,?_⟩
   simp only[AP];exact eV
  ·have hkl:k<l.length:=by exact eV
   have hp3:=hp2 _ (AD l (0,[]) hkl)
   refine AK (ι:={j:Nat//j≤(l.getD k (0,[])).2.length}) (fun j=>⟨[(0,.p Ei l),(1,.bp 1 [] 0),(3,.sr 10 T3 0 (SU l k j.1).length),(4,.p (.int .i64) (k:Int)),(5,.p Cb (l.getD k (0,[])).2),(6,.p (.int .i64) (j.1:Int))],[(1,.box 25 true [.p Ib l]),(10,.arr 3 T3 (SU l k j.1))]⟩) (fun j=>(l.getD k (0,[])).2.length-j.1) ⟨0,by simp⟩ (AC [(1,.nm 1),(10,.nm 10)] rfl rfl ?_ ?_) (fun j=>?_)
   ·first|exact eN|refine eM ?_
    simp[SU]
   ·first|exact eN|refine eM ?_
    simp[SU]
   ·obtain⟨j,hj⟩:=j
    have hn2:=tE hp2 hkl hj
    repeat'(first|exact trivial|refine eS rfl ?_|refine AB ?_|refine rX [0,1,2,3,4,5,6,15,38] hc ?_ ?_|refine rC ?_ ?_<;>intro AA<;>try(cases AA;done))
    ·refine⟨by exact eV,by exact eV,?_⟩
     simp only[AP];exact eV
    ·exact eV
    ·have hjl:j<(l.getD k (0,[])).2.length:=by exact eV
     refine⟨⟨j+1,by exact eV⟩,by simp only;exact eV,AC [(1,.nm 1),(10,.nm 10)] rfl rfl ?_ ?_⟩
     ·first|exact eN|refine eM ?_
      exact(Uv hjl).symm
     ·first|exact eN|refine eM ?_
      have:=congrArg List.length (Uv (l:=l) hjl)
      rw[List.length_append]at this
      exact this.symm
    ·exact eV
    ·have hjk:j=(l.getD k (0,[])).2.length:=by exact eV
     subst hjk
     refine⟨⟨k+1,by exact eV⟩,by simp only;exact eV,AC [(1,.nm 1),(10,.nm 10)] rfl rfl ?_ ?_⟩
     ·first|exact eN|refine eM ?_
      exact(Uu hkl).symm
     ·first|exact eN|refine eM ?_
      exact congrArg List.length (Uu hkl).symm
  ·have hk:l.take k=l:=List.take_of_length_le (by exact eV)
   have h1:UH l k=BX l:=by unfold UH BX;rw[hk]
   exact AH hc [.tmp 2] rfl (.inl rfl) (by simp) (by first|exact eR|refine Ax ?_;exact h1)
end
/- Functions of grammarlabref07: Compare, Equal. -/
section
attribute [local go_sem] Nw
def JL:List Int→List Int→Int
 | x :: xs,y :: ys=>if x<y then -1 else if y<x then 1 else JL xs ys
 | _,_=>0
theorem O8 (xs ys:List Int) {k:Nat} (h1:k<xs.length) (h2:k<ys.length):JL (xs.drop k) (ys.drop k)=if xs.getD k 0<ys.getD k 0 then -1 else if ys.getD k 0<xs.getD k 0 then 1 else JL (xs.drop (k+1)) (ys.drop (k+1)):=by
 rw[List.drop_eq_getElem_cons h1,List.drop_eq_getElem_cons h2,List.getD_eq_getElem?_getD,List.getElem?_eq_getElem h1,List.getD_eq_getElem?_getD,List.getElem?_eq_getElem h2]
 rfl
theorem tF (xs ys:List Int) {k:Nat} (h:xs.length≤k∨ys.length≤k):JL (xs.drop k) (ys.drop k)=0:=by
 rcases h with h|h
 ·rw[List.drop_eq_nil_of_le h];simp[JL]
 ·rw[List.drop_eq_nil_of_le h];simp[JL]
def Ck (a b:List (Int×List (Int×Int))):Int:=JL (BX a) (BX b)
def FJ (f:List (Int×List (Int×Int))):Prop:=f.length≤100000∧∀n∈f,n.2.length≤100000
def Nx:Ak:={ ins:=[Ei,Ei],pre:=fun(a,b,_)=>FJ a∧FJ b,out:=fun(a,b,_)=>[.p T3 (Ck a b)] }
theorem Ny {f:List (Int×List (Int×Int))} (h:FJ f):(BX f).length≤1+f.length*200002:=by
 have:=SV f h.2
 simp only[BX,List.length_cons];omega
theorem bF:Ao Tryz.prog 69 Nx:=by
 refine AX Tryz.func69 (by kernel_rfl) rfl Tryz.ntmps69 (by decide) (by kernel_rfl) (AJ [(108,Nw)]) (AF bE AL) ?_
 rintro w0 O0 ⟨a,b,u⟩ hc-⟨⟨ha1,ha2⟩,⟨hb1,hb2⟩⟩
 have hla:=Ny ⟨ha1,ha2⟩
 have hlb:=Ny ⟨hb1,hb2⟩
 simp only[Nx,AN]
 repeat'(first|exact trivial|refine eS rfl ?_|refine AB ?_|refine rX [0,1,2,3,4,5,6,7,21,32,41] hc ?_ ?_|refine rC ?_ ?_<;>intro AA<;>try(cases AA;done))
 ·exact⟨ha1,ha2⟩
 ·exact⟨hb1,hb2⟩
 ·refine AK (ι:={k:Nat//JL ((BX a).drop k) ((BX b).drop k)=Ck a b}) (fun k=>⟨[(5,.p Ez (BX a)),(6,.p Ez (BX b)),(7,.p (.int .i64) (k.1:Int))],[]⟩) (fun k=>(BX a).length-k.1) ⟨0,by simp[Ck]⟩ (AC [] rfl rfl ?_ ?_) (fun k=>?_)
  ·first|exact eN|refine eM ?_
  ·first|exact eN|refine eM ?_
  ·obtain⟨k,hk⟩:=k
   repeat'(first|exact trivial|refine eS rfl ?_|refine AB ?_|refine rX [0,1,2,3,4,5,6,7,21,32,41] hc ?_ ?_|refine rC ?_ ?_<;>intro AA<;>try(cases AA;done))
   ·exact eV
   ·obtain⟨h1,h2⟩:k<(BX a).length∧k<(BX b).length:=by exact eV
    have h3:Ck a b=-1:=by rw[←hk,O8 _ _ h1 h2,if_pos AA]
    exact AH hc [.tmp 4] rfl (.inl rfl) (by simp) (by rw[h3];first|exact eR|refine Ax ?_)
   ·exact eV
   ·obtain⟨h1,h2⟩:k<(BX a).length∧k<(BX b).length:=by exact eV
    have h3:Ck a b=1:=by rw[←hk,O8 _ _ h1 h2,if_neg (by exact eV),if_pos AA]
    exact AH hc [.tmp 4] rfl (.inl rfl) (by simp) (by rw[h3];first|exact eR|refine Ax ?_)
   ·exact eV
   ·obtain⟨h1,h2⟩:k<(BX a).length∧k<(BX b).length:=by exact eV
    refine⟨⟨k+1,?_⟩,by simp only;exact eV,AC [] rfl rfl ?_ ?_⟩
    ·rw[←hk,O8 _ _ h1 h2,if_neg (by exact eV),if_neg (by exact eV)]
    ·first|exact eN|refine eM ?_
    ·first|exact eN|refine eM ?_
   ·have h3:Ck a b=0:=by
     rw[←hk]
     apply tF
     by_cases h:k<(BX a).length
     ·right;have:=AA (by exact eV);exact eV
     ·left;exact eV
    exact AH hc [.tmp 4] rfl (.inl rfl) (by simp) (by rw[h3];first|exact eR|refine Ax ?_)
def G0:Ak:={ ins:=[Ei,Ei],pre:=fun(a,b,_)=>FJ a∧FJ b,out:=fun(a,b,_)=>[.p .bool (Ck a b==0)] }
end
/- Functions of grammarlabref07: Equal, form. -/
section
attribute [local go_sem] Nx lZ
theorem SW:Ao Tryz.prog 20 G0:=by
 refine AX Tryz.func20 (by kernel_rfl) rfl Tryz.ntmps20 (by decide) (by kernel_rfl) (AJ [(69,Nx)]) (AF bF AL) ?_
 rintro w0 O0 ⟨a,b,u⟩ hc-hpre
 simp only[G0,AN]
 repeat'(first|exact trivial|refine eS rfl ?_|refine AB ?_|refine rX [0,1,2,3,4] hc ?_ ?_|refine rC ?_ ?_<;>intro AA<;>try(cases AA;done))
 ·exact hpre
 ·exact AH hc [.tmp 4] rfl (.inl rfl) (by simp) (by first|exact eR|refine Ax ?_)
def Jo (m:Int):List (Int×List (Int×Int))→Int
 | []=>0
 | n :: r=>if n.1<0 then 2 else if Id n.2 m≠0 then Id n.2 m else Jo m r
def Dy (f:List (Int×List (Int×Int))):Int:=if f.length=0 then 1 else if 4096<f.length then 7 else Jo f.length f
def l5:Ak:={ ins:=[Ei],pre:=fun _=>True,out:=fun(f,_)=>[.p YO (Dy f)] }
theorem Mc (m:Int) (l:List (Int×List (Int×Int))) {k:Nat} (h:k<l.length):Jo m (l.drop k)=if (l.getD k (0,[])).1<0 then 2 else if Id (l.getD k (0,[])).2 m≠0 then Id (l.getD k (0,[])).2 m else Jo m (l.drop (k+1)):=by
 rw[List.drop_eq_getElem_cons h,List.getD_eq_getElem?_getD,List.getElem?_eq_getElem h]
 rfl
theorem A0r:Ao Tryz.prog 110 l5:=by
 refine AX Tryz.func110 (by kernel_rfl) rfl Tryz.ntmps110 (by decide) (by kernel_rfl) (AJ [(146,lZ)]) (AF A0q AL) ?_
 rintro w0 O0 ⟨l,u⟩ hc ⟨hl,-⟩ -
 simp only[l5,AN]
 repeat'(first|exact trivial|refine eS rfl ?_|refine AB ?_|refine rX [0,1,2,3,4,8,12,17,26,38] hc ?_ ?_|refine rC ?_ ?_<;>intro AA<;>try(cases AA;done))
 ·have h1:Dy l=1:=by
   have h:l.length=0:=by exact eV
   unfold Dy
   rw[if_pos h]
  exact AH hc [.tmp 2] rfl (.inl rfl) (by simp) (by rw[h1];first|exact eR|refine Ax ?_)
 ·have h1:Dy l=7:=by
   have h:¬l.length=0:=by exact eV
   have h':4096<l.length:=by exact eV
   unfold Dy
   rw[if_neg h,if_pos h']
  exact AH hc [.tmp 2] rfl (.inl rfl) (by simp) (by rw[h1];first|exact eR|refine Ax ?_)
 ·have h1:Dy l=Jo l.length l:=by
   have h:¬l.length=0:=by exact eV
   have h':¬4096<l.length:=by exact eV
   unfold Dy
   rw[if_neg h,if_neg h']
  refine AK (ι:={k:Nat//k≤l.length∧Jo l.length (l.drop k)=Dy l}) (fun k=>⟨[(1,.bp 1 [] 0),(3,.p (.int .i64) (k.1:Int))],[(1,.box 25 true [.p Ib l])]⟩) (fun k=>l.length-k.1) ⟨0,by simp[h1]⟩ (AC [(1,.nm 1)] rfl rfl ?_ ?_) (fun k=>?_)
  ·first|exact eN|refine eM ?_
  ·first|exact eN|refine eM ?_
  ·obtain⟨k,hk,hf⟩:=k
   repeat'(first|exact trivial|refine eS rfl ?_|refine AB ?_|refine rX [0,1,2,3,4,8,12,17,26,38] hc ?_ ?_|refine rC ?_ ?_<;>intro AA<;>try(cases AA;done))
   ·exact eV
   ·have hkl:k<l.length:=by exact eV
    have h2:Dy l=2:=by rw[←hf,Mc _ _ hkl,if_pos AA]
    exact AH hc [.tmp 2] rfl (.inl rfl) (by simp) (by rw[h2];first|exact eR|refine Ax ?_)
   ·exact eV
   ·have hkl:k<l.length:=by exact eV
    have h2:Dy l=Id (l.getD k (0,[])).2 l.length:=by rw[←hf,Mc _ _ hkl,if_neg (by exact eV),if_pos AA]
    exact AH hc [.tmp 2] rfl (.inl rfl) (by simp) (by rw[h2];first|exact eR|refine Ax ?_)
   ·exact eV
   ·have hkl:k<l.length:=by exact eV
    refine⟨⟨k+1,by exact eV,?_⟩,by simp only;exact eV,AC [(1,.nm 1)] rfl rfl ?_ ?_⟩
    ·rw[←hf,Mc _ _ hkl,if_neg (by exact eV),if_neg (by simpa using AA)]
    ·first|exact eN|refine eM ?_
    ·first|exact eN|refine eM ?_
   ·have h2:Dy l=0:=by
     have hk:l.length≤k:=by exact eV
     rw[←hf,List.drop_eq_nil_of_le hk];rfl
    exact AH hc [.tmp 2] rfl (.inl rfl) (by simp) (by rw[h2];first|exact eR|refine Ax ?_)
end
/- The contract of functions of the program: Sorted. -/
section
def Jw (x:Int×Int) (s:List (Int×Int)):Nat→Nat
 | 0=>0
 | n+1=>if x.1<(s.getD n (0,0)).1 then Jw x s n else n+1
def O9 (s:List (Int×Int)) (x:Int×Int):List (Int×Int):=s.take (Jw x s s.length)++[x]++s.drop (Jw x s s.length)
def Ah (l:List (Int×Int)):List (Int×Int):=l.foldl O9 []
theorem Wc (x:Int×Int) (s:List (Int×Int)):∀n,Jw x s n≤n
 | 0=>Nat.le_refl _
 | n+1=>by
  unfold Jw
  have:=Wc x s n
  split<;>omega
theorem tG (s:List (Int×Int)) (x:Int×Int):(O9 s x).length=s.length+1:=by
 have:=Wc x s s.length
 simp[O9];omega
theorem JM (l:List (Int×Int)) (x:Int×Int):Ah (l++[x])=O9 (Ah l) x:=by simp[Ah]
theorem KS:∀(l s:List (Int×Int)),(l.foldl O9 s).length=s.length+l.length
 | [],s=>by simp
 | x :: l,s=>by simp[KS l,tG];omega
theorem Hk (l:List (Int×Int)):(Ah l).length=l.length:=by simp[Ah,KS]
def JN:Ak:={ ins:=[Cb],pre:=fun(l,_)=>l.length≤1000000,out:=fun(l,_)=>[.own 108 ED (Ah l)] }
theorem Uw:Ao Tryz.prog 145 JN:=by
 refine AX Tryz.func145 (by kernel_rfl) rfl Tryz.ntmps145 (by decide) (by kernel_rfl) (AJ []) AL ?_
 rintro w0 O0 ⟨l,u⟩ hc hok hpre
 simp only[JN]at hpre
 simp only[JN,AN]
 repeat'(first|exact trivial|refine eS rfl ?_|refine AB ?_|refine rX [0,2,3,4,5,6,10,30] hc ?_ ?_|refine rC ?_ ?_<;>intro AA<;>try(cases AA;done))
 refine AK (ι:={p:Nat//p≤l.length}) (fun k=>⟨[(0,.p Cb l),(3,.sr 10 ED 0 (Ah (l.take k.1)).length),(4,.p (.int .i64) (k.1:Int))],[(10,.arr 108 ED (Ah (l.take k.1)))]⟩) (fun k=>l.length-k.1) ⟨0,by omega⟩ (AC [(10,.nil)] rfl rfl ?_ ?_) (fun k=>?_)
 ·first|exact eN|refine eM ?_
  rfl
 ·first|exact eN|refine eM ?_
  rfl
 ·obtain⟨k,hI⟩:=k
  have hlen:(Ah (l.take k)).length=k:=by rw[Hk,List.length_take];exact Nat.min_eq_left hI
  repeat'(first|exact trivial|refine eS rfl ?_|refine AB ?_|refine rX [0,2,3,4,5,6,10,30] hc ?_ ?_|refine rC ?_ ?_<;>intro AA<;>try(cases AA;done))
  ·refine AK (ι:={q:Nat//q≤(Ah (l.take k)).length∧Jw (l.getD k (0,0)) (Ah (l.take k)) q=Jw (l.getD k (0,0)) (Ah (l.take k)) (Ah (l.take k)).length}) (fun q=>⟨[(0,.p Cb l),(3,.sr 10 ED 0 (Ah (l.take k)).length),(4,.p (.int .i64) (k:Int)),(5,.p (.int .i64) (q.1:Int))],[(10,.arr 108 ED (Ah (l.take k)))]⟩) (fun q=>q.1) ⟨(Ah (l.take k)).length,by simp⟩ (AC [(10,.nm 10)] rfl rfl ?_ ?_) (fun q=>?_)
   ·first|exact eN|refine eM ?_
   ·first|exact eN|refine eM ?_
   ·obtain⟨q,hq,hp⟩:=q
    have hkl:k<l.length:=by omega
    have e1:=l.length_take_le k
    have e2:(List.take q (Ah (List.take k l))).length=q:=by rw[List.length_take];exact Nat.min_eq_left hq
    repeat'(first|exact trivial|refine eS rfl ?_|refine AB ?_|refine rX [0,2,3,4,5,6,10,30] hc ?_ ?_|refine rC ?_ ?_<;>intro AA<;>try(cases AA;done))
    ·exact eV
    ·exact eV
    ·obtain⟨h1,h2⟩:=AA
     obtain⟨q,rfl⟩:∃r,q=r+1:=⟨q-1,by omega⟩
     have h3:((q+1:Nat):Int)-1=(q:Int):=by omega
     refine⟨⟨q,by omega,?_⟩,Nat.lt_succ_self q,AC [(10,.nm 10)] rfl rfl ?_ ?_⟩
     ·rw[←hp]
      simp only[Jw]
      rw[h3,Int.toNat_natCast]at h2
      rw[if_pos h2]
     ·first|exact eN|refine eM ?_
     ·first|exact eN|refine eM ?_
      show (q:Int)+1-1=q
      omega
    ·refine⟨by exact eV,?_⟩
     rw[e2];unfold AP;omega
    ·refine⟨by exact eV,?_⟩
     rw[e2];simp only[AP];omega
    ·refine⟨by exact eV,?_⟩
     rw[e2];simp only[AP,List.length_drop];omega
    ·exact eV
    ·have hpos:Jw (l.getD k (0,0)) (Ah (l.take k)) q=q:=by
      cases q with
      | zero=>rfl
      | succ q =>
       have h3:((q+1:Nat):Int)-1=(q:Int):=by omega
       have:=AA (by omega)
       rw[h3,Int.toNat_natCast]at this
       simp only[Jw]
       rw[if_neg (by omega)]
     have h1:=Ab l (0,0) hkl
     have h2:Ah (l.take (k+1))=_:=(congrArg Ah h1).trans (JM _ _)
     unfold O9 at h2
     rw[←hp,hpos]at h2
     refine⟨⟨k+1,by exact eV⟩,by simp only;exact eV,AC [(10,.nm 37)] rfl rfl ?_ ?_⟩
     ·first|exact eN|refine eM ?_
      exact h2.symm
     ·first|exact eN|refine eM ?_
      have h4:=congrArg List.length h2
      rw[List.length_append,List.length_append]at h4
      exact h4.symm
  ·have hk:l.take k=l:=List.take_of_length_le (by exact eV)
   refine Ry hc (.inl rfl) (rv:=.tmp 2) rfl ?_
   simp only[KG,I7,IR,go_sem,Nat.reduceEqDiff,reduceCtorEq,Nat.reduceAdd,Nat.reduceSub,Nat.reduceMul,Nat.reduceLeDiff,Nat.reduceLT,Int.reduceLE,Int.reduceToNat,Int.reduceNeg,↓reduceIte]
   rw[hk]
   first|rfl|exact⟨rfl,rfl⟩|exact⟨rfl,rfl,rfl⟩
end
/- Functions of grammarlabref07: visit. -/
section
attribute [local go_sem] JN
abbrev AE:=Int×List (Int×Int)
def DQ (f:List AE):Nat→List Int×List Int→Int→List Int×List Int
 | 0,s,_=>s
 | k+1,s,n=>(Ah (f.getD n.toNat (0,[])).2).foldl (fun s a=>if s.1.getD a.2.toNat 0<0 then DQ f k s a.2 else s) (s.1.set n.toNat (s.2.length:Int),s.2++[n])
def Jx (l:List Int):Nat:=l.countP (fun x=>decide (x<0))
def Ag (f:List AE):Prop:=f.length≤100000∧∀x∈f,x.2.length≤100000∧∀a∈x.2,0≤a.2∧a.2<(f.length:Int)
def Q0 (f:List AE) (s:List Int×List Int):Prop:=s.1.length=f.length∧s.2.length+Jx s.1≤f.length
theorem tH {l:List Int} {n:Nat} {v:Int} (hn:n<l.length) (hneg:l.getD n 0<0) (hv:0≤v):Jx (l.set n v)+1=Jx l:=by
 induction l generalizing n with
 | nil=>simp at hn
 | cons x r ih =>
  cases n with
  | zero =>
   have hx:x<0:=by simpa using hneg
   have:¬v<0:=by omega
   simp[Jx,List.countP_cons,hx,this]
  | succ n =>
   have h1:=ih (n:=n) (by simpa using hn) (by simpa using hneg)
   simp only[Jx,List.set_cons_succ,List.countP_cons]at h1 ⊢
   omega
theorem bG {f:List AE} {s:List Int×List Int} {n:Int} (h:Q0 f s) (hn0:0≤n) (hn:n<f.length) (hneg:s.1.getD n.toNat 0<0) :
  Q0 f (s.1.set n.toNat (s.2.length:Int),s.2++[n])∧Jx (s.1.set n.toNat (s.2.length:Int))+1=Jx s.1:=by
 obtain⟨h1,h2⟩:=h
 have h3:=tH (l:=s.1) (n:=n.toNat) (v:=(s.2.length:Int)) (by omega) hneg (by omega)
 refine⟨⟨by simpa using h1,?_⟩,h3⟩
 simp only[List.length_append,List.length_singleton]
 omega
theorem oT (s:List (Int×Int)) (x:Int×Int):(O9 s x).Perm (x :: s):=by
 unfold O9
 refine(List.perm_append_comm.append_right _).trans ?_
 simp
theorem Jp:∀(l s:List (Int×Int)),(l.foldl O9 s).Perm (l++s)
 | [],s=>List.Perm.refl _
 | x :: l,s=>by
  refine(Jp l (O9 s x)).trans ?_
  refine(List.Perm.append_left l (oT s x)).trans ?_
  exact List.perm_middle
theorem CC (l:List (Int×Int)):(Ah l).Perm l:=by
 have:=Jp l []
 simpa[Ah] using this
theorem KT {f:List AE} (hf:Ag f) (n:Int):List.length (f.getD n.toNat (0,[])).2≤100000:=by
 by_cases h:n.toNat<f.length
 ·have hm:f.getD n.toNat (0,[])∈f:=by
   rw[List.getD_eq_getElem?_getD,List.getElem?_eq_getElem h];exact List.getElem_mem h
  exact(hf.2 _ hm).1
 ·rw[List.getD_eq_getElem?_getD,List.getElem?_eq_none (by omega)]
  simp
theorem RJ {f:List AE} (hf:Ag f) {n:Int} {a:Int×Int} (ha:a∈Ah (f.getD n.toNat (0,[])).2):0≤a.2∧a.2<f.length:=by
 have ha:=(CC _).mem_iff.1 ha
 by_cases h:n.toNat<f.length
 ·have hm:f.getD n.toNat (0,[])∈f:=by
   rw[List.getD_eq_getElem?_getD,List.getElem?_eq_getElem h];exact List.getElem_mem h
  exact(hf.2 _ hm).2 a ha
 ·rw[List.getD_eq_getElem?_getD,List.getElem?_eq_none (by omega)]at ha
  simp at ha
def Dn (f:List AE) (k:Nat) (s:List Int×List Int) (a:Int×Int):List Int×List Int:=if s.1.getD a.2.toNat 0<0 then DQ f k s a.2 else s
theorem E0 (f:List AE) (k:Nat) (s:List Int×List Int) (n:Int):DQ f (k+1) s n=(Ah (f.getD n.toNat (0,[])).2).foldl (Dn f k) (s.1.set n.toNat (s.2.length:Int),s.2++[n]):=rfl
theorem RK {f:List AE} {k:Nat} (hv:∀(s:List Int×List Int) (n:Int),Q0 f s→0≤n→n<f.length→s.1.getD n.toNat 0<0→Q0 f (DQ f k s n)∧Jx (DQ f k s n).1≤Jx s.1) :
  ∀(l:List (Int×Int)) (t:List Int×List Int),(∀a∈l,0≤a.2∧a.2<(f.length:Int))→Q0 f t→Q0 f (l.foldl (Dn f k) t)∧Jx (l.foldl (Dn f k) t).1≤Jx t.1
 | [],t,_,ht=>⟨ht,Nat.le_refl _⟩
 | a :: l,t,hl,ht=>by
  simp only[List.foldl_cons]
  by_cases hc:t.1.getD a.2.toNat 0<0
  ·obtain⟨g1,g2⟩:=hv t a.2 ht (hl a (by simp)).1 (hl a (by simp)).2 hc
   have e:Dn f k t a=DQ f k t a.2:=if_pos hc
   rw[e]
   obtain⟨g3,g4⟩:=RK hv l _ (fun b hb=>hl b (by simp[hb])) g1
   exact⟨g3,Nat.le_trans g4 g2⟩
  ·have e:Dn f k t a=t:=if_neg hc
   rw[e]
   exact RK hv l t (fun b hb=>hl b (by simp[hb])) ht
theorem PA {f:List AE} (hf:Ag f):∀(k:Nat) (s:List Int×List Int) (n:Int),Q0 f s→0≤n→n<f.length→s.1.getD n.toNat 0<0→Q0 f (DQ f k s n)∧Jx (DQ f k s n).1≤Jx s.1
 | 0,s,n,h,_,_,_=>⟨h,Nat.le_refl _⟩
 | k+1,s,n,h,h0,h1,h2=>by
  obtain⟨h3,h4⟩:=bG h h0 h1 h2
  obtain⟨g1,g2⟩:=RK (PA hf k) _ _ (fun a ha=>RJ hf ha) h3
  rw[E0]
  exact⟨g1,by simp only at g2 h4;omega⟩
theorem Ux {α β:Type} (g:β→α→β) (l:List α) (d:α) (t:β) {i:Nat} (hi:i<l.length):(l.take (i+1)).foldl g t=g ((l.take i).foldl g t) (l.getD i d):=by
 rw[Ab l d hi,List.foldl_append];rfl
def Jq (f:List AE) (s:List Int×List Int):List (Nat×Obj):=[(1,.box 205 true [.p Ei f,.sr 2 T3 0 s.1.length,.sr 3 T3 0 s.2.length]),(2,.arr 3 T3 s.1),(3,.arr 3 T3 s.2)]
theorem tI (f:List AE) (hf:Ag f):∀(k:Nat) (s:List Int×List Int) (n:Int),Q0 f s→0≤n→n<f.length→s.1.getD n.toNat 0<0→Jx s.1≤k →
  FI Tryz.prog 144 [.bp 1 [] 0,.p T3 n] (Jq f s) [1] (fun res objs'=>res=.raw (.tuple #[])∧objs'=Jq f (DQ f k s n)):=by
 intro k
 induction k with
 | zero =>
  intro s n h0 h1 h2 h3 h4
  obtain⟨_,h5⟩:=bG h0 h1 h2 h3
  omega
 | succ k ih =>
  intro s n htr hn0 hn1 hneg hk
  obtain⟨num,ord⟩:=s
  obtain⟨htr',hcnt⟩:=bG htr hn0 hn1 hneg
  obtain⟨hl1,hl2⟩:=htr
  simp only at hl1 hl2 hneg htr' hcnt hk
  refine Gw Tryz.func144 (by kernel_rfl) rfl Tryz.ntmps144 (by simp only[List.length_cons,List.length_nil];omega) (by kernel_rfl) rfl rfl (AJ [(145,JN)]) (AF Uw AL) ?_
  intro w0 K O0 ρ0 hc hok1 hok2
  simp only[Jq,Ca]
  repeat'(first|exact trivial|refine eS rfl ?_|refine AB ?_|refine rX [0,1,4,5,40,54] hc ?_ ?_|refine rC ?_ ?_<;>intro AA<;>try(cases AA;done))
  ·exact eV
  ·have:=hf.1
   simp only[AP];omega
  ·have hm:=KT hf n
   exact⟨⟨hn0,hn1⟩,Nat.le_trans hm (by omega)⟩
  ·have harcs:=fun a (ha:a∈Ah (f.getD n.toNat (0,[])).2)=>RJ hf ha
   have hLlen:(Ah (f.getD n.toNat (0,[])).2).length≤100000:=by rw[Hk];exact KT hf n
   generalize hL:Ah (f.getD n.toNat (0,[])).2=L at harcs hLlen
   generalize hs1:(num.set n.toNat (ord.length:Int),ord++[n])=s1 at htr'
   have hfold:∀i,Q0 f ((L.take i).foldl (Dn f k) s1)∧Jx ((L.take i).foldl (Dn f k) s1).1≤Jx s1.1:=fun i=>RK (PA hf k) _ _ (fun a ha=>harcs a (List.mem_of_mem_take ha)) htr'
   have hn1:num.set n.toNat (ord.length:Int)=s1.1:=by rw[←hs1]
   have ho1:ord++[n]=s1.2:=by rw[←hs1]
   rw[hn1]at hcnt
   refine AK (ι:={i:Nat//i≤L.length}) (fun i=>⟨[(0,.bp 1 [] 0),(1,.p T3 n),(4,.p Cb L),(5,.p (.int .i64) (i.1:Int))],Jq f ((L.take i.1).foldl (Dn f k) s1)⟩) (fun i=>L.length-i.1) ⟨0,by omega⟩ (A64 [36] (AC [(1,.nm 1),(2,.nm 2),(3,.nm 3)] rfl rfl ?_ ?_)) (fun i=>?_)
   ·simp only[Jq]
    first|exact eN|refine eM ?_
    simp only[List.foldl_nil]
    rw[←hs1]
    simp
   ·first|exact eN|refine eM ?_
   ·obtain⟨i,hi⟩:=i
    obtain⟨hti,hci⟩:=hfold i
    have hnext:=fun(h:i<L.length)=>Ux (Dn f k) L (0,0) s1 h
    generalize hsi:(L.take i).foldl (Dn f k) s1=si at hti hci hnext
    simp only[Jq]
    repeat'(first|exact trivial|refine eS rfl ?_|refine AB ?_|refine rX [0,1,4,5,40,54] hc ?_ ?_|refine rC ?_ ?_<;>intro AA<;>try(cases AA;done))
    ·have hiL:i<L.length:=by exact eV
     have:=harcs _ (AD L (0,0) hiL)
     obtain⟨h1,h2⟩:=hti
     refine⟨by exact eV,this.1,?_⟩
     rw[h1]
     exact this.2
    ·have hiL:i<L.length:=by exact eV
     have hr:=harcs _ (AD L (0,0) hiL)
     refine cP 6 hc ?_ ?_
     ·exact eV
     ·refine rM hc (ih si (L.getD i (0,0)).2 hti hr.1 hr.2 (by simpa using AA) (by omega)) [(1,.nm 1),(2,.nm 2),(3,.nm 3)] [2,3] ?_ ?_ ?_
      ·first|exact eN|refine eM ?_
      ·simp only[Jq]
       first|exact eN|refine eM ?_
      ·rintro _ _ ⟨rfl,rfl⟩
       refine⟨[(1,.nm 1),(2,.nm 2),(3,.nm 3)],.raw (.tuple #[]),Jq f (DQ f k si (L.getD i (0,0)).2),rfl,rfl,?_,?_,rfl,rfl,Ga ?_⟩
       ·simp only[Jq]
        first|exact eN|refine eM ?_
       ·first|exact eN|refine eM ?_
       ·repeat'(first|exact trivial|refine eS rfl ?_|refine AB ?_|refine rX [0,1,4,5,40,54] hc ?_ ?_|refine rC ?_ ?_<;>intro AA<;>try(cases AA;done))
        ·exact eV
        ·have e:Dn f k si (L.getD i (0,0))=DQ f k si (L.getD i (0,0)).2:=if_pos (by simpa using AA)
         refine⟨⟨i+1,by omega⟩,by simp only;omega,AC [(1,.nm 1),(2,.nm 2),(3,.nm 3)] rfl rfl ?_ ?_⟩
         ·simp only[Jq,hnext hiL,e]
          first|exact eN|refine eM ?_
         ·first|exact eN|refine eM ?_
    ·exact eV
    ·have hiL:i<L.length:=by exact eV
     have e:Dn f k si (L.getD i (0,0))=si:=if_neg (by simpa using AA)
     refine⟨⟨i+1,by omega⟩,by simp only;omega,AC [(1,.nm 1),(2,.nm 2),(3,.nm 3)] rfl rfl ?_ ?_⟩
     ·simp only[hnext hiL,e]
      first|exact eN|refine eM ?_
     ·first|exact eN|refine eM ?_
    ·have hk:L.take i=L:=List.take_of_length_le (by exact eV)
     rw[hk]at hsi
     have h1:DQ f (k+1) (num,ord) n=si:=by rw[E0,hL,←hsi,←hs1]
     rw[h1]
     exact DN hc [] rfl (.inr rfl) (.raw (.tuple #[])) rfl ⟨rfl,rfl⟩
end
/- Functions of grammarlabref07: From. -/
section
attribute [local go_sem] JN
def YU (f:List AE) (s:List Int×List Int):Prop:=∀n∈s.2,0≤n∧n<(f.length:Int)
theorem SX {f:List AE} (hf:Ag f):∀(k:Nat) (s:List Int×List Int) (n:Int),YU f s→0≤n→n<f.length→YU f (DQ f k s n)
 | 0,s,n,h,_,_=>h
 | k+1,s,n,h,h0,h1=>by
  rw[E0]
  have key:∀(l:List (Int×Int)) (t:List Int×List Int),(∀a∈l,0≤a.2∧a.2<(f.length:Int))→YU f t→YU f (l.foldl (Dn f k) t):=by
   intro l
   induction l with
   | nil=>intro t _ ht;exact ht
   | cons a l ih =>
    intro t hl ht
    simp only[List.foldl_cons]
    refine ih _ (fun b hb=>hl b (by simp[hb])) ?_
    unfold Dn
    split
    ·exact SX hf k t a.2 ht (hl a (by simp)).1 (hl a (by simp)).2
    ·exact ht
  refine key _ _ (fun a ha=>RJ hf ha) ?_
  intro m hm
  simp only[List.mem_append,List.mem_singleton]at hm
  rcases hm with hm|rfl
  ·exact h m hm
  ·exact⟨h0,h1⟩
def GT (f:List AE) (root:Int):List Int×List Int:=DQ f f.length (List.replicate f.length (-1),[]) root
def UI (num:List Int) (a:Int×Int):Int×Int:=(a.1,num.getD a.2.toNat 0)
def KU (f:List AE) (num:List Int) (n:Int):AE:=((f.getD n.toNat (0,[])).1,(Ah (f.getD n.toNat (0,[])).2).map (UI num))
def GU (f:List AE) (root:Int):List AE:=(GT f root).2.map (KU f (GT f root).1)
theorem YV (m:Nat):Jx (List.replicate m (-1))=m:=by
 induction m with
 | zero=>rfl
 | succ m ih=>simp only[Jx,List.replicate_succ,List.countP_cons]at ih ⊢;simp[ih]
theorem tr0 (f:List AE):Q0 f (List.replicate f.length (-1),[]):=⟨by simp,by simp[YV]⟩
theorem l6 {f:List AE} {n:Int} (h0:0≤n) (h1:n<f.length):(List.replicate f.length (-1:Int)).getD n.toNat 0<0:=by
 have:n.toNat<f.length:=by omega
 simp[List.getD_eq_getElem?_getD,List.getElem?_replicate,this]
theorem l7 {f:List AE} (hf:Ag f) {n:Int} (h0:0≤n) (h1:n<f.length):Q0 f (GT f n)∧YU f (GT f n) :=
 ⟨(PA hf _ _ n (tr0 f) h0 h1 (l6 h0 h1)).1,SX hf _ _ n (fun m hm=>by simp at hm) h0 h1⟩
theorem YW {α β:Type} (g:α→β) (h:β→α) (L:List α) (d:α) {k:Nat} (hk:k<L.length) (u:α→α):((L.take k).map u++L.drop k).set k (u (L.getD k d))=(L.take (k+1)).map u++L.drop (k+1)∧((L.take k).map u++L.drop k).getD k d=L.getD k d:=by
 have h1:((L.take k).map u).length=k:=by simp;omega
 have h2:L.drop k=L.getD k d :: L.drop (k+1):=by
  rw[List.drop_eq_getElem_cons hk,List.getD_eq_getElem?_getD,List.getElem?_eq_getElem hk];rfl
 constructor
 ·rw[Ab L d hk,List.set_append_right _ _ (by omega),h1,Nat.sub_self,h2]
  simp
 ·rw[List.getD_eq_getElem?_getD,List.getElem?_append_right (by omega),h1,Nat.sub_self,h2];rfl
def Uy:Ak:={ ins:=[Ei,T3],pre:=fun(f,n,_)=>Ag f∧0≤n∧n<(List.length f:Int),out:=fun(f,n,_)=>[.p Ei (GU f n)] }
theorem l8:Ao Tryz.prog 107 Uy:=by
 refine AX Tryz.func107 (by kernel_rfl) rfl Tryz.ntmps107 (by decide) (by kernel_rfl) (AJ [(145,JN)]) (AF Uw AL) ?_
 rintro w0 O0 ⟨f,root,u⟩ hc-⟨hf,hr0,hr1⟩
 simp only[Uy,AN]
 have hfl:=hf.1
 repeat'(first|exact trivial|refine eS rfl ?_|refine AB ?_|refine rX [0,1,2,4,5,6,7,8,9,10,11,19,40,60] hc ?_ ?_|refine rC ?_ ?_<;>intro AA<;>try(cases AA;done))
 refine AK (ι:={i:Nat//i≤f.length}) (fun i=>⟨[(1,.p T3 root),(2,.bp 2 [] 0),(4,.bp 4 [] 0),(5,.bp 14 [] 0),(6,.p (.int .i64) (i.1:Int))],[(2,.box 25 true [.p Ib f]),(4,.box 25 true [.raw (.slice none 0 0)]),(14,.box 205 true [.p Ei f,.sr 10 T3 0 i.1,.raw (.slice none 0 0)]),(10,.arr 3 T3 (List.replicate i.1 (-1)))]⟩) (fun i=>f.length-i.1) ⟨0,by omega⟩ (AC [(2,.nm 2),(4,.nm 4),(14,.nm 14),(10,.nil)] rfl rfl ?_ ?_) (fun i=>?_)
 ·first|exact eN|refine eM ?_
  rfl
 ·first|exact eN|refine eM ?_
 ·obtain⟨i,hi⟩:=i
  repeat'(first|exact trivial|refine eS rfl ?_|refine AB ?_|refine rX [0,1,2,4,5,6,7,8,9,10,11,19,40,60] hc ?_ ?_|refine rC ?_ ?_<;>intro AA<;>try(cases AA;done))
  ·simp only[AP];omega
  ·exact eV
  ·have hi:i<List.length f:=by exact eV
   refine⟨⟨i+1,by omega⟩,by simp only;omega,AC [(2,.nm 2),(4,.nm 4),(14,.nm 14),(10,.nm 10)] rfl rfl ?_ ?_⟩
   ·first|exact eN|refine eM ?_
    rw[List.replicate_succ']
    simp
   ·first|exact eN|refine eM ?_
  ·have hif:i=List.length f:=by exact eV
   subst hif
   have hvo:=l7 hf hr0 hr1
   refine cP 2 hc ?_ ?_
   ·trivial
   ·refine rM hc (tI f hf (List.length f) (List.replicate (List.length f) (-1),[]) root (tr0 f) hr0 hr1 (l6 hr0 hr1) (by rw[YV];exact Nat.le_refl _)) [(1,.nm 14),(2,.nm 10),(3,.nil)] [10] ?_ ?_ ?_
    ·first|exact eN|refine eM ?_
    ·simp only[Jq]
     first|exact eN|refine eM ?_
     simp
    ·rintro _ _ ⟨rfl,rfl⟩
     refine⟨[(14,.nm 1),(101,.nm 2),(102,.nm 3)],.raw (.tuple #[]),[(14,.box 205 true [.p Ei f,.sr 101 T3 0 (GT f root).1.length,.sr 102 T3 0 (GT f root).2.length]),(101,.arr 3 T3 (GT f root).1),(102,.arr 3 T3 (GT f root).2)],rfl,rfl,?_,?_,rfl,rfl,Ga ?_⟩
     ·simp only[Jq,GT]
      first|exact eN|refine eM ?_
     ·first|exact eN|refine eM ?_
     ·have hfrom:GU f root=(GT f root).2.map (KU f (GT f root).1):=rfl
      rw[hfrom]
      generalize GT f root=s at hvo
      obtain⟨num,ord⟩:=s
      obtain⟨⟨hn1,hn2⟩,hord⟩:=hvo
      simp only at hn1 hn2
      have hord:∀n∈ord,0≤n∧n<(List.length f:Int):=hord
      repeat'(first|exact trivial|refine eS rfl ?_|refine AB ?_|refine rX [0,1,2,4,5,6,7,8,9,10,11,19,40,60] hc ?_ ?_|refine rC ?_ ?_<;>intro AA<;>try(cases AA;done))
      refine AK (ι:={i:Nat//i≤ord.length}) (fun i=>⟨[(2,.bp 2 [] 0),(4,.bp 4 [] 0),(5,.bp 14 [] 0),(7,.bp 7 [] 0),(8,.p (.int .i64) (i.1:Int))],[(2,.box 25 true [.p Ib f]),(4,.box 25 true [.raw (.slice none 0 0)]),(14,.box 205 true [.p Ei f,.sr 101 T3 0 num.length,.sr 102 T3 0 ord.length]),(101,.arr 3 T3 num),(102,.arr 3 T3 ord),(7,.box 25 true [.sr 200 JK 0 i.1]),(200,.arr 88 JK ((ord.take i.1).map (KU f num)))]⟩) (fun i=>ord.length-i.1) ⟨0,by omega⟩ (AC [(2,.nm 2),(4,.nm 4),(14,.nm 14),(101,.nm 101),(102,.nm 102),(7,.nm 7),(200,.nil)] rfl rfl ?_ ?_) (fun i=>?_)
      ·first|exact eN|refine eM ?_
      ·first|exact eN|refine eM ?_
      ·obtain⟨i,hi⟩:=i
       repeat'(first|exact trivial|refine eS rfl ?_|refine AB ?_|refine rX [0,1,2,4,5,6,7,8,9,10,11,19,40,60] hc ?_ ?_|refine rC ?_ ?_<;>intro AA<;>try(cases AA;done))
       ·have hi:i<ord.length:=by exact eV
        exact⟨by exact eV,hord _ (AD ord 0 hi)⟩
       ·exact Nat.le_trans (KT hf _) (by omega)
       ·have hi:i<ord.length:=by exact eV
        have harcs:=fun a (ha:a∈Ah (f.getD (Int.toNat (ord.getD i 0)) (0,[])).2)=>RJ hf ha
        have hnode:KU f num (ord.getD i 0)=((f.getD (Int.toNat (ord.getD i 0)) (0,[])).1,(Ah (f.getD (Int.toNat (ord.getD i 0)) (0,[])).2).map (UI num)):=rfl
        have hxl:=KT hf (ord.getD i 0)
        generalize List.getD f (Int.toNat (ord.getD i 0)) (0,[])=x at *
        obtain⟨xt,xa⟩:=x
        simp only at harcs hnode hxl
        have hLl:=Hk xa
        generalize Ah xa=L at *
        refine AK (ι:={k:Nat//k≤L.length}) (fun k=>⟨[(2,.bp 2 [] 0),(4,.bp 4 [] 0),(5,.bp 14 [] 0),(7,.bp 7 [] 0),(8,.p (.int .i64) (i:Int)),(9,.bp 9 [] 0),(10,.sr 56 ED 0 L.length),(11,.p (.int .i64) (k.1:Int))],[(56,.arr 108 ED ((L.take k.1).map (UI num)++L.drop k.1)),(9,.box 88 true [.p T3 xt,.p Cb xa]),(2,.box 25 true [.p Ib f]),(4,.box 25 true [.raw (.slice none 0 0)]),(14,.box 205 true [.p Ei f,.sr 101 T3 0 num.length,.sr 102 T3 0 ord.length]),(101,.arr 3 T3 num),(102,.arr 3 T3 ord),(7,.box 25 true [.sr 200 JK 0 i]),(200,.arr 88 JK ((ord.take i).map (KU f num)))]⟩) (fun k=>L.length-k.1) ⟨0,by omega⟩ (AC [(2,.nm 2),(4,.nm 4),(14,.nm 14),(101,.nm 101),(102,.nm 102),(7,.nm 7),(200,.nm 200),(9,.nm 9),(56,.nm 56)] rfl rfl ?_ ?_) (fun k=>?_)
        ·first|exact eN|refine eM ?_
        ·first|exact eN|refine eM ?_
        ·obtain⟨k,hk⟩:=k
         repeat'(first|exact trivial|refine eS rfl ?_|refine AB ?_|refine rX [0,1,2,4,5,6,7,8,9,10,11,19,40,60] hc ?_ ?_|refine rC ?_ ?_<;>intro AA<;>try(cases AA;done))
         ·have hkL:k<L.length:=by exact eV
          have e:=(YW (UI num) (fun b=>b) L (0,0) hkL (UI num)).2
          rw[e]
          have:=harcs _ (AD L (0,0) hkL)
          rw[hn1]
          exact⟨by exact eV,this,by exact eV⟩
         ·exact eV
         ·have hkL:k<L.length:=by exact eV
          have e:=YW (UI num) (fun b=>b) L (0,0) hkL (UI num)
          refine⟨⟨k+1,by omega⟩,by simp only;omega,AC [(2,.nm 2),(4,.nm 4),(14,.nm 14),(101,.nm 101),(102,.nm 102),(7,.nm 7),(200,.nm 200),(9,.nm 9),(56,.nm 56)] rfl rfl ?_ ?_⟩
          ·first|exact eN|refine eM ?_
           rw[e.2]
           exact e.1
          ·first|exact eN|refine eM ?_
         ·simp only[AP];have:=hn2;omega
         ·exact eV
         ·have hkL:L.take k=L:=List.take_of_length_le (by exact eV)
          have hdL:L.drop k=[]:=List.drop_eq_nil_of_le (by exact eV)
          refine⟨⟨i+1,by omega⟩,by simp only;omega,AC [(2,.nm 2),(4,.nm 4),(14,.nm 14),(101,.nm 101),(102,.nm 102),(7,.nm 7),(200,.nm 200)] rfl rfl ?_ ?_⟩
          ·first|exact eN|refine eM ?_
           rw[hkL,hdL,List.append_nil,Ab ord 0 hi,List.map_append,List.map_cons,List.map_nil,hnode]
           have t1:List.take i ((ord.take i).map (KU f num))=(ord.take i).map (KU f num):=List.take_of_length_le (by rw[List.length_map,List.length_take];omega)
           have t2:List.take L.length (L.map (UI num))=L.map (UI num):=List.take_of_length_le (by rw[List.length_map];omega)
           rw[t1,t2]
          ·first|exact eN|refine eM ?_
       ·have hk:ord.take i=ord:=List.take_of_length_le (by exact eV)
        rw[hk]
        refine AH hc [.cell 4 25] rfl (.inl rfl) (by simp) (by first|exact eR|refine Ax ?_;exact List.take_of_length_le (by rw[List.length_map];exact eV))
end
/- Functions of grammarlabref07: Canon, Sub; grammarlabref15: in, arc, canon. -/
section
attribute [local go_sem] l5 Uy
theorem SY {n:Int}:∀ {l seen:List (Int×Int)},Nv n seen l=0→∀a∈l,0≤a.1∧0≤a.2∧a.2<n
 | [],_,_,a,ha=>by cases ha
 | x :: l,seen,h,a,ha=>by
  simp only[Nv]at h
  split at h
  ·cases h
  ·split at h
   ·cases h
   ·rename_i h1 _
    rcases List.mem_cons.1 ha with rfl|ha
    ·omega
    ·exact SY h a ha
theorem JO {m:Int}:∀ {f:List (Int×List (Int×Int))},Jo m f=0→∀x∈f,0≤x.1∧∀a∈x.2,0≤a.1∧0≤a.2∧a.2<m
 | [],_,x,hx=>by cases hx
 | y :: f,h,x,hx=>by
  simp only[Jo]at h
  split at h
  ·cases h
  ·split at h
   ·rename_i h1 h2;exact absurd h h2
   ·rename_i h1 h2
    have h2:Id y.2 m=0:=Classical.byContradiction h2
    rcases List.mem_cons.1 hx with rfl|hx
    ·exact⟨by omega,SY h2⟩
    ·exact JO h x hx
def Wd (f:List (Int×List (Int×Int))):Prop:=∀x∈f,x.2.length≤100000
theorem Md {f:List (Int×List (Int×Int))} (h:Dy f=0) (hs:Wd f):Ag f∧0<f.length:=by
 unfold Dy at h
 split at h
 ·cases h
 ·split at h
  ·cases h
  ·refine⟨⟨by omega,fun x hx=>⟨hs x hx,fun a ha=>?_⟩⟩,by omega⟩
   have:=(JO h x hx).2 a ha
   exact⟨this.2.1,this.2.2⟩
def CD (f:List AE):List AE×Int:=if Dy f=0 then (GU f 0,0) else ([],Dy f)
def SZ:Ak:={ ins:=[Ei],pre:=fun(f,_)=>Wd f,out:=fun(f,_)=>[.p Ei (CD f).1,.p YO (CD f).2] }
theorem tJ:Ao Tryz.prog 73 SZ:=by
 refine AX Tryz.func73 (by kernel_rfl) rfl Tryz.ntmps73 (by decide) (by kernel_rfl) (AJ [(110,l5),(107,Uy)]) (AF A0r (AF l8 AL)) ?_
 rintro w0 O0 ⟨f,u⟩ hc-hs
 simp only[SZ,AN]
 repeat'(first|exact trivial|refine eS rfl ?_|refine AB ?_|refine rX [0,1,2,3,4,8] hc ?_ ?_|refine rC ?_ ?_<;>intro AA<;>try(cases AA;done))
 ·have h:¬Dy f=0:=by simpa using AA
  have e:CD f=([],Dy f):=if_neg h
  exact AH hc [.cell 2 25,.tmp 3] rfl (.inl rfl) (by simp) (by rw[e];first|exact eR|refine Ax ?_)
 ·have h:Dy f=0:=by simpa using AA
  have:=Md h hs
  exact⟨this.1,by exact eV⟩
 ·have h:Dy f=0:=by simpa using AA
  have e:CD f=(GU f 0,0):=if_pos h
  exact AH hc [.cell 2 25,.tmp 3] rfl (.inl rfl) (by simp) (by rw[e];first|exact eR|refine Ax ?_)
end
/- Functions of grammarlabref11: Apart, Merge, target. -/
section
def Al (n:Nat):List Int:=(List.range n).map fun(i:Nat)=>(i:Int)
theorem Bp (n:Nat):(Al n).length=n:=by simp[Al]
theorem QT (n:Nat):Al (n+1)=Al n++[(n:Int)]:=by simp[Al,List.range_succ]
theorem Ej {n k:Nat} (h:k<n):(Al n).getD k 0=(k:Int):=by
 unfold Al
 rw[List.getD_eq_getElem?_getD,List.getElem?_map,List.getElem?_range h]
 rfl
def We:Ak:={ ins:=[T3],pre:=fun(n,_)=>(0:Int)≤n∧n≤(100000:Int),out:=fun(n,_)=>[.own 3 T3 (Al (Int.toNat n))] }
theorem tK:Ao Tryz.prog 66 We:=by
 refine AX Tryz.func66 (by kernel_rfl) rfl Tryz.ntmps66 (by decide) (by kernel_rfl) (AJ []) AL ?_
 rintro w0 O0 ⟨n,u⟩ hc-⟨h0,h1⟩
 simp only[We,AN]
 repeat'(first|exact trivial|refine eS rfl ?_|refine AB ?_|refine rX [0,2,3,4,7] hc ?_ ?_|refine rC ?_ ?_<;>intro AA<;>try(cases AA;done))
 refine AK (ι:={i:Nat//i≤n.toNat}) (fun i=>⟨[(0,.p T3 n),(3,.sr 13 T3 0 i.1),(4,.p (.int .i64) (i.1:Int))],[(13,.arr 3 T3 (Al i.1))]⟩) (fun i=>n.toNat-i.1) ⟨0,by omega⟩ (AC [(13,.nil)] rfl rfl ?_ ?_) (fun i=>?_)
 ·first|exact eN|refine eM ?_
  rfl
 ·first|exact eN|refine eM ?_
 ·obtain⟨i,hi⟩:=i
  repeat'(first|exact trivial|refine eS rfl ?_|refine AB ?_|refine rX [0,2,3,4,7] hc ?_ ?_|refine rC ?_ ?_<;>intro AA<;>try(cases AA;done))
  ·simp only[AP];exact eV
  ·exact eV
  ·have hlen:(Al i).take i=Al i:=List.take_of_length_le (by rw[Bp];exact Nat.le_refl i)
   refine⟨⟨i+1,by exact eV⟩,by simp only;exact eV,AC [(13,.nm 13)] rfl rfl ?_ ?_⟩
   ·simp only
    rw[hlen,QT]
    first|exact eN|refine eM ?_
   ·first|exact eN|refine eM ?_
  ·have hn:i=n.toNat:=by exact eV
   subst hn
   exact Ry hc (.inl rfl) (rv:=.tmp 2) rfl (by simp only[KG,I7,IR,go_sem,Nat.reduceEqDiff,reduceCtorEq,Nat.reduceAdd,Nat.reduceSub,Nat.reduceMul,Nat.reduceLeDiff,Nat.reduceLT,Int.reduceLE,Int.reduceToNat,Int.reduceNeg,↓reduceIte];exact(Bp _).symm)
def Dc (c:List Int) (m n:Int):Int:=if c.getD n.toNat 0<c.getD m.toNat 0 then c.getD n.toNat 0 else c.getD m.toNat 0
def B3 (c:List Int) (m n:Int):Int:=if c.getD m.toNat 0<c.getD n.toNat 0 then c.getD n.toNat 0 else c.getD m.toNat 0
def GF (hi lo x:Int):Int:=if x=hi then lo else x
def Bc (c:List Int) (m n:Int):List Int:=c.map (GF (B3 c m n) (Dc c m n))
def PB:Ak:={ ins:=[Ez,T3,T3],pre:=fun(c,m,n,_)=>List.length c≤100000∧((0:Int)≤m∧m<(List.length c:Int))∧((0:Int)≤n∧n<(List.length c:Int)),out:=fun(c,m,n,_)=>[.p Ez (Bc c m n)] }
theorem YX:Ao Tryz.prog 65 PB:=by
 refine AX Tryz.func65 (by kernel_rfl) rfl Tryz.ntmps65 (by decide) (by kernel_rfl) (AJ []) AL ?_
 rintro w0 O0 ⟨c,m,n,u⟩ hc-⟨hl,hm,hn⟩
 simp only[PB,AN]
 repeat'(first|exact trivial|refine eS rfl ?_|refine AB ?_|refine rX [0,1,2,6,7,8,9,10,35,43] hc ?_ ?_|refine rC ?_ ?_<;>intro AA<;>try(cases AA;done))
 ·exact⟨hm,hn⟩
 ·exact⟨hm,hn⟩
 ·simp only[AP];exact eV
 ·have hlo:(if List.getD c (Int.toNat n) 0<List.getD c (Int.toNat m) 0 then List.getD c (Int.toNat n) 0 else List.getD c (Int.toNat m) 0)=Dc c m n:=rfl
  have hhi:(if List.getD c (Int.toNat m) 0<List.getD c (Int.toNat n) 0 then List.getD c (Int.toNat n) 0 else List.getD c (Int.toNat m) 0)=B3 c m n:=rfl
  rw[hlo,hhi]
  have hmg:Bc c m n=c.map (GF (B3 c m n) (Dc c m n)):=rfl
  generalize Dc c m n=lo at *
  generalize B3 c m n=hi at *
  refine AK (ι:={i:Nat//i≤c.length}) (fun i=>⟨[(7,.p T3 lo),(8,.p T3 hi),(9,.sr 29 T3 0 c.length),(10,.p (.int .i64) (i.1:Int))],[(29,.arr 3 T3 ((c.take i.1).map (GF hi lo)++c.drop i.1))]⟩) (fun i=>c.length-i.1) ⟨0,by omega⟩ (AC [(29,.nm 29)] rfl rfl ?_ ?_) (fun i=>?_)
  ·first|exact eN|refine eM ?_
  ·first|exact eN|refine eM ?_
  ·obtain⟨i,hi2⟩:=i
   have hget:i<c.length→((c.take i).map (GF hi lo)++c.drop i).getD i 0=c.getD i 0:=fun h=>by
    rw[List.getD_eq_getElem?_getD,List.getElem?_append_right (by simp;omega)]
    simp only[List.length_map,List.length_take,Nat.min_eq_left hi2,Nat.sub_self,List.getElem?_drop,Nat.add_zero]
    rw[List.getD_eq_getElem?_getD]
   have hset:∀x,i<c.length→((c.take i).map (GF hi lo)++c.drop i).set i x=(c.take i).map (GF hi lo)++[x]++c.drop (i+1):=fun x h=>by
    rw[List.set_append_right _ _ (by simp;omega)]
    simp only[List.length_map,List.length_take,Nat.min_eq_left hi2,Nat.sub_self]
    rw[List.drop_eq_getElem_cons h,List.set_cons_zero,List.append_assoc];rfl
   have hnx:∀x,i<c.length→x=GF hi lo (c.getD i 0)→(c.take i).map (GF hi lo)++[x]++c.drop (i+1)=(c.take (i+1)).map (GF hi lo)++c.drop (i+1):=fun x h e=>by
    rw[Ab c 0 h,List.map_append,e];rfl
   have hid:i<c.length→(c.take i).map (GF hi lo)++c.drop i=(c.take i).map (GF hi lo)++[c.getD i 0]++c.drop (i+1):=fun h=>by
    rw[List.drop_eq_getElem_cons h,List.append_assoc,List.getD_eq_getElem?_getD,List.getElem?_eq_getElem h];rfl
   repeat'(first|exact trivial|refine eS rfl ?_|refine AB ?_|refine rX [0,1,2,6,7,8,9,10,35,43] hc ?_ ?_|refine rC ?_ ?_<;>intro AA<;>try(cases AA;done))
   ·exact AA
   ·exact eV
   ·exact eV
   ·have hil:i<c.length:=by exact eV
    rw[hget hil]at AA
    refine⟨⟨i+1,by omega⟩,by simp only;omega,AC [(29,.nm 29)] rfl rfl ?_ ?_⟩
    ·simp only
     rw[←hnx lo hil (by unfold GF;rw[if_pos AA]),←hset lo hil]
     first|exact eN|refine eM ?_
    ·first|exact eN|refine eM ?_
   ·exact eV
   ·have hil:i<c.length:=by exact eV
    rw[hget hil]at AA
    refine⟨⟨i+1,by omega⟩,by simp only;omega,AC [(29,.nm 29)] rfl rfl ?_ ?_⟩
    ·simp only
     rw[←hnx (c.getD i 0) hil (by unfold GF;rw[if_neg AA]),←hid hil]
     first|exact eN|refine eM ?_
    ·first|exact eN|refine eM ?_
   ·have hil:c.length≤i:=by exact eV
    have hfin:(c.take i).map (GF hi lo)++c.drop i=Bc c m n:=by
     rw[List.take_of_length_le hil,List.drop_eq_nil_of_le hil,List.append_nil,hmg]
    rw[hfin]
    have hml:(Bc c m n).take c.length=Bc c m n:=List.take_of_length_le (by rw[hmg,List.length_map];exact Nat.le_refl _)
    exact AH hc [.tmp 6] rfl (.inl rfl) (by simp) (by first|exact eR|refine Ax ?_;exact hml)
def CK (l:List (Int×Int)) (e:Int):Int×Bool:=match l with
 | []=>(0,false)
 | a :: r=>if a.1=e then (a.2,true) else CK r e
def Wf:Ak:={ ins:=[Cb,T3],pre:=fun _=>True,out:=fun(l,e,_)=>[.p T3 (CK l e).1,.p .bool (CK l e).2],lend:=true }
theorem tL:Ao Tryz.prog 104 Wf:=by
 refine AX Tryz.func104 (by kernel_rfl) rfl Tryz.ntmps104 (by decide) (by kernel_rfl) (AJ []) AL ?_
 rintro w0 O0 ⟨l,n,u⟩ hc ⟨⟨hl,-⟩,-⟩ -
 simp only[AP]at hl
 simp only[Wf,AN]
 repeat'(first|exact trivial|refine eS rfl ?_|refine AB ?_|refine rX [0,1,4,5,6,10,19] hc ?_ ?_|refine rC ?_ ?_<;>intro AA<;>try(cases AA;done))
 refine AK (ι:={k:Nat//k≤l.length∧CK (l.drop k) n=CK l n}) (fun k=>⟨[(0,.p Cb l),(1,.p T3 n),(6,.p (.int .i64) (k.1:Int))],[]⟩) (fun k=>l.length-k.1) ⟨0,by simp⟩ (AC [] rfl rfl ?_ ?_) (fun k=>?_)
 ·first|exact eN|refine eM ?_
 ·first|exact eN|refine eM ?_
 ·obtain⟨k,hk,hg⟩:=k
  repeat'(first|exact trivial|refine eS rfl ?_|refine AB ?_|refine rX [0,1,4,5,6,10,19] hc ?_ ?_|refine rC ?_ ?_<;>intro AA<;>try(cases AA;done))
  ·exact AA
  ·exact eV
  ·have hkl:k<l.length:=by exact eV
   have hd:l.drop k=l.getD k (0,0) :: l.drop (k+1):=by
    rw[List.drop_eq_getElem_cons hkl,List.getD_eq_getElem?_getD,List.getElem?_eq_getElem hkl];rfl
   rw[hd]at hg
   have hg:(if (l.getD k (0,0)).1=n then ((l.getD k (0,0)).2,true) else CK (l.drop (k+1)) n)=CK l n:=hg
   rw[if_pos AA]at hg
   exact AH hc [.tmp 4,.tmp 5] rfl (.inl rfl) (by simp) (by rw[←hg];first|exact eR|refine Ax ?_)
  ·exact eV
  ·have hkl:k<l.length:=by exact eV
   have hd:l.drop k=l.getD k (0,0) :: l.drop (k+1):=by
    rw[List.drop_eq_getElem_cons hkl,List.getD_eq_getElem?_getD,List.getElem?_eq_getElem hkl];rfl
   rw[hd]at hg
   have hg:(if (l.getD k (0,0)).1=n then ((l.getD k (0,0)).2,true) else CK (l.drop (k+1)) n)=CK l n:=hg
   rw[if_neg AA]at hg
   refine⟨⟨k+1,by omega,hg⟩,by simp only;omega,AC [] rfl rfl ?_ ?_⟩
   ·first|exact eN|refine eM ?_
   ·first|exact eN|refine eM ?_
  ·have hk:l.drop k=[]:=List.drop_eq_nil_of_le (by exact eV)
   rw[hk]at hg
   have hg:(0,false)=CK l n:=hg
   exact AH hc [.tmp 4,.tmp 5] rfl (.inl rfl) (by simp) (by rw[←hg];first|exact eR|refine Ax ?_)
end
/- Plain: what grammarlabref11.Close does, step by step. -/
section
def Di (l h:List (Int×Int)):List (Int×Int):=h.filterMap fun x=>if (CK l x.1).2=true then some ((CK l x.1).1,x.2) else none
def E1 (l h:List (Int×Int)):List (Int×Int):=l++h.filter fun x=>!(CK l x.1).2
theorem Sa (l h:List (Int×Int)):(E1 l h).length+(Di l h).length=l.length+h.length:=by
 unfold E1 Di
 induction h with
 | nil=>simp
 | cons x h ih =>
  simp only[List.length_append,List.filter_cons,List.filterMap_cons,List.length_cons]at ih ⊢
  cases hx:(CK l x.1).2
  ·simp only[Bool.not_false,if_true,Bool.false_eq_true,if_false,List.length_cons];omega
  ·simp only[Bool.not_true,Bool.false_eq_true,if_false,if_true,List.length_cons];omega
theorem Wg {l h:List (Int×Int)} {x:Int×Int} (hx:(CK l x.1).2=true):Di l (h++[x])=Di l h++[((CK l x.1).1,x.2)]∧E1 l (h++[x])=E1 l h:=by
 unfold Di E1
 simp[List.filterMap_append,hx]
theorem Wh {l h:List (Int×Int)} {x:Int×Int} (hx:(CK l x.1).2=false):Di l (h++[x])=Di l h∧E1 l (h++[x])=E1 l h++[x]:=by
 unfold Di E1
 simp[List.filterMap_append,hx]
theorem LW {l:List (Int×Int)} {e:Int} (h:(CK l e).2=true):(e,(CK l e).1)∈l:=by
 induction l with
 | nil=>cases h
 | cons a r ih =>
  unfold CK at h ⊢
  by_cases ha:a.1=e
  ·rw[if_pos ha];subst ha;exact List.mem_cons_self
  ·rw[if_neg ha]at h ⊢;exact List.mem_cons_of_mem _ (ih h)
theorem Sb {l:List (Int×Int)} {e:Int} (a:Int×Int) (ha:a∈l) (he:a.1=e):(CK l e).2=true:=by
 induction l with
 | nil=>cases ha
 | cons b r ih =>
  unfold CK
  by_cases hb:b.1=e
  ·rw[if_pos hb]
  ·rw[if_neg hb]
   rcases List.mem_cons.1 ha with rfl|ha
   ·exact absurd he hb
   ·exact ih ha
/-! Sums -/
def Nz:Nat→(Nat→Nat)→Nat
 | 0,_=>0
 | n+1,f=>Nz n f+f n
theorem bH {n:Nat} {f g:Nat→Nat} (h:∀k,k<n→g k=f k):Nz n g=Nz n f:=by
 induction n with
 | zero=>rfl
 | succ n ih=>simp only[Nz];rw[ih fun k hk=>h k (by omega),h n (by omega)]
theorem YY {n:Nat} {f g:Nat→Nat} {a:Nat} (ha:a<n) (h:∀k,k<n→k≠a→g k=f k):Nz n g+f a=Nz n f+g a:=by
 induction n with
 | zero=>omega
 | succ n ih =>
  simp only[Nz]
  by_cases e:a=n
  ·subst e
   rw[bH (n:=a) (f:=f) fun k hk=>h k (by omega) (by omega)];omega
  ·have:=ih (by omega) fun k hk=>h k (by omega)
   have:=h n (by omega) (fun h=>e h.symm)
   omega
theorem YZ {n:Nat} {f g:Nat→Nat} {a b:Nat} (ha:a<n) (hb:b<n) (hab:a≠b) (h:∀k,k<n→k≠a→k≠b→g k=f k):Nz n g+f a+f b=Nz n f+g a+g b:=by
 have h1:=YY (f:=f) (g:=fun k=>if k=a then g a else f k) ha (fun k hk hka=>by simp only[if_neg hka])
 have h2:=YY (f:=fun k=>if k=a then g a else f k) (g:=g) hb (fun k hk hkb=>by
  by_cases e:k=a
  ·subst e;simp
  ·simp only[if_neg e];exact h k hk e hkb)
 simp only[if_true,if_neg (fun e:b=a=>hab e.symm)]at h1 h2
 omega
theorem tM {n:Nat} {f:Nat→Nat} {a b:Nat} (ha:a<n) (hb:b<n) (hab:a≠b):f a+f b≤Nz n f:=by
 have:=YZ (f:=f) (g:=fun k=>if k=a∨k=b then 0 else f k) ha hb hab (fun k _ h1 h2=>by simp[h1,h2])
 simp at this
 omega
theorem bI {n B:Nat} {f:Nat→Nat} (h:∀k,k<n→f k≤B):Nz n f≤n*B:=by
 induction n with
 | zero=>simp[Nz]
 | succ n ih =>
  simp only[Nz]
  have:=ih fun k hk=>h k (by omega)
  have:=h n (by omega)
  rw[Nat.succ_mul]
  omega
/-! The state -/
def Me (o:List Int) (ar:List (List (Int×Int))):Nat:=Nz o.length fun k=>if o.getD k 0=(k:Int) then (ar.getD k []).length else 0
structure CI (n:Nat) (o:List Int) (ar:List (List (Int×Int))) (W:List (Int×Int)):Prop where
 lo:o.length=n
 la:ar.length=n
 rep:∀k:Nat,k<n→0≤o.getD k 0∧o.getD k 0≤(k:Int)∧o.getD (o.getD k 0).toNat 0=o.getD k 0
 wr:∀w∈W,(0≤w.1∧w.1<(n:Int))∧(0≤w.2∧w.2<(n:Int))
 ta:∀k,∀a∈ar.getD k [],0≤a.2∧a.2<(n:Int)
theorem CI.rng {n:Nat} {o:List Int} {ar:List (List (Int×Int))} {W:List (Int×Int)} (h:CI n o ar W) {x:Int} (x0:0≤x) (x1:x<(n:Int)):0≤o.getD x.toNat 0∧o.getD x.toNat 0<(n:Int)∧o.getD (o.getD x.toNat 0).toNat 0=o.getD x.toNat 0:=by
 obtain⟨h1,h2,h3⟩:=h.rep x.toNat (by omega)
 exact⟨h1,by omega,h3⟩
theorem LX {c:List Int} {m n:Int} {k:Nat} (hk:k<c.length):(Bc c m n).getD k 0=GF (B3 c m n) (Dc c m n) (c.getD k 0):=by
 unfold Bc
 rw[List.getD_eq_getElem?_getD,List.getElem?_map,List.getElem?_eq_getElem hk,List.getD_eq_getElem?_getD,List.getElem?_eq_getElem hk];rfl
theorem Gh (c:List Int) (m n:Int):(Bc c m n).length=c.length:=by simp[Bc]
structure LH (o:List Int) (n:Nat) (lo hi:Int):Prop where
 l0:0≤lo
 lt:lo<hi
 h1:hi<(n:Int)
 rl:o.getD lo.toNat 0=lo
 rh:o.getD hi.toNat 0=hi
section
variable {n:Nat} {o:List Int} {ar:List (List (Int×Int))} {W:List (Int×Int)} {x y:Int}
theorem tP (h:CI n o ar W) (x0:0≤x) (x1:x<(n:Int)) (y0:0≤y) (y1:y<(n:Int)) (hne:Dc o x y≠B3 o x y):LH o n (Dc o x y) (B3 o x y):=by
 obtain⟨a1,a2,a3⟩:=h.rng x0 x1
 obtain⟨b1,b2,b3⟩:=h.rng y0 y1
 unfold Dc B3 at hne ⊢
 by_cases e1:o.getD y.toNat 0<o.getD x.toNat 0
 ·rw[if_pos e1,if_neg (by omega)]
  exact⟨b1,e1,a2,b3,a3⟩
 ·rw[if_neg e1]at hne ⊢
  by_cases e2:o.getD x.toNat 0<o.getD y.toNat 0
  ·rw[if_pos e2]
   exact⟨a1,e2,b2,a3,b3⟩
  ·rw[if_neg e2]at hne
   exact absurd rfl hne
theorem l9 {w:Int×Int} (h:CI n o ar (w :: W)):CI n o ar W:=⟨h.lo,h.la,h.rep,fun u hu=>h.wr u (List.mem_cons_of_mem _ hu),h.ta⟩
theorem G7 (l:List (List (Int×Int))) (v:List (Int×Int)) (i j:Nat) (hi:i<l.length):(l.set i v).getD j []=if j=i then v else l.getD j []:=by
 simp only[List.getD_eq_getElem?_getD,List.getElem?_set]
 by_cases e:i=j
 ·subst e;simp[hi]
 ·rw[if_neg e,if_neg (fun h=>e h.symm)]
theorem GG {hi lo v:Int} (h:v≠hi):GF hi lo v=v:=if_neg h
theorem G8 {hi lo:Int}:GF hi lo hi=lo:=if_pos rfl
theorem Ya (h:CI n o ar W) (hl:LH o n (Dc o x y) (B3 o x y)) :
  CI n (Bc o x y) (ar.set (Dc o x y).toNat (E1 (ar.getD (Dc o x y).toNat []) (ar.getD (B3 o x y).toNat []))) (W++Di (ar.getD (Dc o x y).toNat []) (ar.getD (B3 o x y).toNat [])):=by
 have hg:=fun(k:Nat) (hk:k<n)=>LX (m:=x) (n:=y) (show k<o.length by rw[h.lo];exact hk)
 have hml:=Gh o x y
 generalize Dc o x y=lo at *
 generalize B3 o x y=hi at *
 obtain⟨l0,lt,h1,rl,rh⟩:=hl
 have hlo:=h.lo
 have hla:=h.la
 refine⟨by rw[hml];exact hlo,by rw[List.length_set];exact hla,fun k hk=>?_,fun w hw=>?_,fun k a ha=>?_⟩
 ·obtain⟨r1,r2,r3⟩:=h.rep k hk
  rw[hg k hk]
  by_cases e:o.getD k 0=hi
  ·rw[e,G8,hg _ (by omega),rl,GG (by omega)]
   exact⟨l0,by omega,rfl⟩
  ·rw[GG e,hg _ (by omega),r3,GG e]
   exact⟨r1,r2,rfl⟩
 ·rcases List.mem_append.1 hw with hw|hw
  ·exact h.wr w hw
  ·obtain⟨a,ha,he⟩:=List.mem_filterMap.1 hw
   split at he
   ·rename_i ht
    cases he
    exact⟨h.ta _ _ (LW ht),h.ta _ a ha⟩
   ·cases he
 ·rw[G7 _ _ _ _ (by omega)]at ha
  split at ha
  ·rcases List.mem_append.1 ha with ha|ha
   ·exact h.ta _ a ha
   ·exact h.ta _ a (List.mem_filter.1 ha).1
  ·exact h.ta _ a ha
theorem Sc (h:CI n o ar W) (hl:LH o n (Dc o x y) (B3 o x y)) :
  Me (Bc o x y) (ar.set (Dc o x y).toNat (E1 (ar.getD (Dc o x y).toNat []) (ar.getD (B3 o x y).toNat [])))+(Di (ar.getD (Dc o x y).toNat []) (ar.getD (B3 o x y).toNat [])).length=Me o ar:=by
 have hg:=fun(k:Nat) (hk:k<n)=>LX (m:=x) (n:=y) (show k<o.length by rw[h.lo];exact hk)
 have hml:=Gh o x y
 generalize Dc o x y=lo at *
 generalize B3 o x y=hi at *
 obtain⟨l0,lt,h1,rl,rh⟩:=hl
 have hlo:=h.lo
 have hla:=h.la
 have hbl:=Sa (ar.getD lo.toNat []) (ar.getD hi.toNat [])
 have hs:=YZ (n:=n) (f:=fun k=>if o.getD k 0=(k:Int) then (ar.getD k []).length else 0)
  (g:=fun k=>if (Bc o x y).getD k 0=(k:Int) then ((ar.set lo.toNat (E1 (ar.getD lo.toNat []) (ar.getD hi.toNat []))).getD k []).length else 0)
  (a:=lo.toNat) (b:=hi.toNat) (by omega) (by omega) (by omega) (fun k hk k1 k2=>by
   rw[hg k hk,G7 _ _ _ _ (by omega),if_neg k1]
   by_cases e:o.getD k 0=hi
   ·rw[e,G8,if_neg (by omega),if_neg (by omega)]
   ·rw[GG e])
 have e1:(o.getD lo.toNat 0=((lo.toNat:Nat):Int)):=by rw[rl];omega
 have e2:(o.getD hi.toNat 0=((hi.toNat:Nat):Int)):=by rw[rh];omega
 have e3:((Bc o x y).getD lo.toNat 0=((lo.toNat:Nat):Int)):=by rw[hg _ (by omega),rl,GG (by omega)];omega
 have e4:¬((Bc o x y).getD hi.toNat 0=((hi.toNat:Nat):Int)):=by rw[hg _ (by omega),rh,G8];omega
 simp only[if_pos e1,if_pos e2,if_pos e3,if_neg e4]at hs
 rw[G7 _ _ _ _ (by omega),if_pos rfl]at hs
 unfold Me
 rw[hml,hlo]
 omega
theorem tQ (h:CI n o ar W) {lo hi:Int} (hl:LH o n lo hi):(ar.getD lo.toNat []).length+(ar.getD hi.toNat []).length≤Me o ar:=by
 obtain⟨l0,lt,h1,rl,rh⟩:=hl
 have hlo:=h.lo
 have:=tM (n:=n) (f:=fun k=>if o.getD k 0=(k:Int) then (ar.getD k []).length else 0) (a:=lo.toNat) (b:=hi.toNat) (by omega) (by omega) (by omega)
 have e1:(o.getD lo.toNat 0=((lo.toNat:Nat):Int)):=by rw[rl];omega
 have e2:(o.getD hi.toNat 0=((hi.toNat:Nat):Int)):=by rw[rh];omega
 simp only[if_pos e1,if_pos e2]at this
 unfold Me
 rw[hlo]
 exact this
end
def H8:Nat→List Int→List (List (Int×Int))→List (Int×Int)→List Int
 | 0,o,_,_=>o
 | _+1,o,_,[]=>o
 | k+1,o,ar,w :: W=>if Dc o w.1 w.2=B3 o w.1 w.2 then H8 k o ar W
  else H8 k (Bc o w.1 w.2) (ar.set (Dc o w.1 w.2).toNat (E1 (ar.getD (Dc o w.1 w.2).toNat []) (ar.getD (B3 o w.1 w.2).toNat []))) (W++Di (ar.getD (Dc o w.1 w.2).toNat []) (ar.getD (B3 o w.1 w.2).toNat []))
theorem bJ (k:Nat) (o:List Int) (ar:List (List (Int×Int))):H8 k o ar []=o:=by cases k<;>rfl
def Dz (c:List Int) (i:Nat):List (Int×Int):=((List.range i).filter fun(k:Nat)=>decide (c.getD k 0≠(k:Int))).map fun(k:Nat)=>((k:Int),c.getD k 0)
theorem oU (c:List Int) (i:Nat):(Dz c i).length≤i:=by
 unfold Dz
 rw[List.length_map]
 exact Nat.le_trans (List.length_filter_le _ _) (by simp)
theorem Yb {c:List Int} {i:Nat} (h:c.getD i 0≠(i:Int)):Dz c (i+1)=Dz c i++[((i:Int),c.getD i 0)]:=by
 unfold Dz
 have e:[i].filter (fun(k:Nat)=>decide (c.getD k 0≠(k:Int)))=[i]:=by rw[List.filter_cons,if_pos (by simpa using h)];rfl
 rw[List.range_succ,List.filter_append,List.map_append,e];rfl
theorem Yc {c:List Int} {i:Nat} (h:c.getD i 0=(i:Int)):Dz c (i+1)=Dz c i:=by
 unfold Dz
 have e:[i].filter (fun(k:Nat)=>decide (c.getD k 0≠(k:Int)))=[]:=by rw[List.filter_cons,if_neg (by simpa using h)];rfl
 rw[List.range_succ,List.filter_append,List.map_append,e,List.map_nil,List.append_nil]
def FY (l:List AE):List (List (Int×Int)):=l.map (·.2)
theorem Ie (l:List AE) (k:Nat):(FY l).getD k []=(l.getD k (0,[])).2:=by
 unfold FY
 rw[List.getD_eq_getElem?_getD,List.getElem?_map,List.getD_eq_getElem?_getD]
 cases l[k]?<;>rfl
def JP (l:List AE) (c:List Int):List Int:=H8 (Me (Al l.length) (FY l)+(Dz c l.length).length) (Al l.length) (FY l) (Dz c l.length)
theorem Yd {l:List AE} (hl:Ag l) {c:List Int} (hc:∀x∈c,0≤x∧x<(l.length:Int)) (hcl:c.length=l.length):CI l.length (Al l.length) (FY l) (Dz c l.length):=by
 refine⟨Bp _,by simp[FY],fun k hk=>?_,fun w hw=>?_,fun k a ha=>?_⟩
 ·rw[Ej hk]
  exact⟨by omega,by omega,by rw[Ej (by omega)];omega⟩
 ·unfold Dz at hw
  obtain⟨k,hk,rfl⟩:=List.mem_map.1 hw
  have hk:=(List.mem_filter.1 hk).1
  have hk:=List.mem_range.1 hk
  refine⟨⟨by simp only;omega,by simp only;omega⟩,hc _ (AD c 0 (by omega))⟩
 ·rw[Ie]at ha
  by_cases hk:k<l.length
  ·exact(hl.2 _ (AD l (0,[]) hk)).2 a ha
  ·rw[List.getD_eq_getElem?_getD,List.getElem?_eq_none (by omega)]at ha
   cases ha
theorem bK {l:List AE} (hl:Ag l):Me (Al l.length) (FY l)≤10000000000:=by
 unfold Me
 rw[Bp]
 have:=bI (n:=l.length) (B:=100000) (f:=fun k=>if (Al l.length).getD k 0=(k:Int) then ((FY l).getD k []).length else 0) (fun k hk=>by
  split
  ·rw[Ie]
   exact(hl.2 _ (AD l (0,[]) hk)).1
  ·omega)
 have h1:=hl.1
 have:l.length*100000≤100000*100000:=Nat.mul_le_mul_right _ h1
 omega
end
/- Functions of grammarlabref01: digit, upper, lower, part, named, Name, Feature. -/
section
def H9 (a b c:Int):Bool:=decide (a≤c)&&decide (c≤b)
def Sd:Ak:={ ins:=[.int .u8],pre:=fun _=>True,out:=fun(c,_)=>[.p .bool (H9 48 57 c)] }
attribute [local go_sem] Sd
def Wi:Ak:={ ins:=[.int .u8],pre:=fun _=>True,out:=fun(c,_)=>[.p .bool (H9 65 90 c)] }
attribute [local go_sem] Wi
def Wj:Ak:={ ins:=[.int .u8],pre:=fun _=>True,out:=fun(c,_)=>[.p .bool (H9 97 122 c)] }
attribute [local go_sem] Wj
theorem Ye:Ao Tryz.prog 225 Sd:=by
 refine AX Tryz.func225 (by kernel_rfl) rfl Tryz.ntmps225 (by decide) (by kernel_rfl) (AJ []) AL ?_
 rintro w0 O0 ⟨c,u⟩ hc - -
 simp only[Sd,AN]
 repeat'(first|exact trivial|refine eS rfl ?_|refine AB ?_|refine rX [0,2] hc ?_ ?_|refine rC ?_ ?_<;>intro AA<;>try(cases AA;done))
 exact AH hc [.tmp 2] rfl (.inl rfl) (by simp) (by unfold H9;first|exact eR|refine Ax ?_)
theorem tR:Ao Tryz.prog 230 Wi:=by
 refine AX Tryz.func230 (by kernel_rfl) rfl Tryz.ntmps230 (by decide) (by kernel_rfl) (AJ []) AL ?_
 rintro w0 O0 ⟨c,u⟩ hc - -
 simp only[Wi,AN]
 repeat'(first|exact trivial|refine eS rfl ?_|refine AB ?_|refine rX [0,2] hc ?_ ?_|refine rC ?_ ?_<;>intro AA<;>try(cases AA;done))
 exact AH hc [.tmp 2] rfl (.inl rfl) (by simp) (by unfold H9;first|exact eR|refine Ax ?_)
theorem tS:Ao Tryz.prog 231 Wj:=by
 refine AX Tryz.func231 (by kernel_rfl) rfl Tryz.ntmps231 (by decide) (by kernel_rfl) (AJ []) AL ?_
 rintro w0 O0 ⟨c,u⟩ hc - -
 simp only[Wj,AN]
 repeat'(first|exact trivial|refine eS rfl ?_|refine AB ?_|refine rX [0,2] hc ?_ ?_|refine rC ?_ ?_<;>intro AA<;>try(cases AA;done))
 exact AH hc [.tmp 2] rfl (.inl rfl) (by simp) (by unfold H9;first|exact eR|refine Ax ?_)
def Se (c:Int) (big:Bool):Bool:=H9 48 57 c||c==45||big&&H9 65 90 c||!big&&H9 97 122 c
def mA:Ak:={ ins:=[.int .u8,.bool],pre:=fun _=>True,out:=fun(c,b,_)=>[.p .bool (Se c b)] }
attribute [local go_sem] mA
theorem A0s:Ao Tryz.prog 226 mA:=by
 refine AX Tryz.func226 (by kernel_rfl) rfl Tryz.ntmps226 (by decide) (by kernel_rfl) (AJ [(225,Sd),(230,Wi),(231,Wj)]) (AF Ye (AF tR (AF tS AL))) ?_
 rintro w0 O0 ⟨c,b,u⟩ hc - -
 simp only[mA,AN]
 repeat'(first|exact trivial|refine eS rfl ?_|refine AB ?_|refine rX [0,1,4] hc ?_ ?_|refine rC ?_ ?_<;>intro AA<;>try(cases AA;done))
 exact AH hc [.tmp 4] rfl (.inl rfl) (by simp) (by unfold Se;first|exact eR|refine Ax ?_)
abbrev chr (s:ByteArray) (i:Nat):Int:=((s.data.getD i 0).toNat:Int)
def PC (s:ByteArray):Bool:=decide ((s.size:Int)<1)||decide (32<(s.size:Int))||H9 48 57 (chr s 0)||chr s 0==45
def EP (s:ByteArray) (big:Bool):Bool:=!PC s&&(List.range s.size).all fun i=>Se (chr s i) big
def Sf:Ak:={ ins:=[T9,.bool],pre:=fun _=>True,out:=fun(s,b,_)=>[.p .bool (EP s b)] }
attribute [local go_sem] Sf
theorem Yf:Ao Tryz.prog 216 Sf:=by
 refine AX Tryz.func216 (by kernel_rfl) rfl Tryz.ntmps216 (by decide) (by kernel_rfl) (AJ [(225,Sd),(226,mA)]) (AF Ye (AF A0s AL)) ?_
 rintro w0 O0 ⟨s,b,u⟩ hc - -
 simp only[Sf,AN]
 repeat'(first|exact trivial|refine eS rfl ?_|refine AB ?_|refine rX [0,1,4,5,23,27,35] hc ?_ ?_|refine rC ?_ ?_<;>intro AA<;>try(cases AA;done))
 ·constructor
  ·intro h
   simp only[Bool.not_eq_true',Bool.or_eq_false_iff,decide_eq_false_iff_not]at h
   have:1≤(s.size:Int):=by omega
   exact this
  ·intro h
   simp only[Bool.not_eq_true',Bool.or_eq_false_iff,decide_eq_false_iff_not]at h
   have:1≤(s.size:Int):=by omega
   exact this
 ·have h1:PC s=true:=by
   unfold PC chr
   simp only[Bool.or_eq_true,decide_eq_true_eq,beq_iff_eq]
   exact AA
  have h2:EP s b=false:=by unfold EP;rw[h1];rfl
  exact AH hc [.tmp 4] rfl (.inl rfl) (by simp) (by rw[h2];first|exact eR|refine Ax ?_)
 ·have h1:PC s=false:=by
   unfold PC chr
   simp only[Bool.or_eq_false_iff,decide_eq_false_iff_not,beq_eq_false_iff_ne]
   exact⟨⟨⟨by omega,by omega⟩,AA.1.2⟩,AA.2⟩
  have hsz:s.size≤32:=by omega
  refine AK (ι:={k:Nat//k≤s.size∧((List.range k).all fun i=>Se (chr s i) b)=true}) (fun k=>⟨[(0,.p T9 s),(1,.p .bool b),(5,.p (.int .i64) (k.1:Int))],[]⟩) (fun k=>s.size-k.1) ⟨0,by simp⟩ (AC [] rfl rfl ?_ ?_) (fun k=>?_)
  ·first|exact eN|refine eM ?_
  ·first|exact eN|refine eM ?_
  ·obtain⟨k,hk,hall⟩:=k
   repeat'(first|exact trivial|refine eS rfl ?_|refine AB ?_|refine rX [0,1,4,5,23,27,35] hc ?_ ?_|refine rC ?_ ?_<;>intro AA<;>try(cases AA;done))
   ·exact AA
   ·have hk2:k<s.size:=by omega
    have h2:EP s b=false:=by
     unfold EP
     rw[Bool.and_eq_false_iff]
     refine .inr (Bool.eq_false_iff.2 fun h=>?_)
     have:=List.all_eq_true.1 h k (List.mem_range.2 hk2)
     rw[show Se (chr s k) b=false from AA]at this
     cases this
    exact AH hc [.tmp 4] rfl (.inl rfl) (by simp) (by rw[h2];first|exact eR|refine Ax ?_)
   ·omega
   ·have hk2:k<s.size:=by omega
    refine⟨⟨k+1,by omega,?_⟩,by simp only;omega,AC [] rfl rfl ?_ ?_⟩
    ·rw[List.range_succ,List.all_append,hall]
     rw[Bool.true_and,List.all_cons,List.all_nil,Bool.and_true]
     exact AA
    ·first|exact eN|refine eM ?_
    ·first|exact eN|refine eM ?_
   ·have hk2:k=s.size:=by omega
    subst hk2
    have h2:EP s b=true:=by unfold EP;rw[h1,hall];rfl
    exact AH hc [.tmp 4] rfl (.inl rfl) (by simp) (by rw[h2];first|exact eR|refine Ax ?_)
def mB:Ak:={ ins:=[T9],pre:=fun _=>True,out:=fun(s,_)=>[.p .bool (EP s false)] }
def N0:Ak:={ ins:=[T9],pre:=fun _=>True,out:=fun(s,_)=>[.p .bool (EP s true)] }
theorem A0t:Ao Tryz.prog 205 mB:=by
 refine AX Tryz.func205 (by kernel_rfl) rfl Tryz.ntmps205 (by decide) (by kernel_rfl) (AJ [(216,Sf)]) (AF Yf AL) ?_
 rintro w0 O0 ⟨s,u⟩ hc - -
 simp only[mB,AN]
 repeat'(first|exact trivial|refine eS rfl ?_|refine AB ?_|refine rX [0,2] hc ?_ ?_|refine rC ?_ ?_<;>intro AA<;>try(cases AA;done))
 exact AH hc [.tmp 2] rfl (.inl rfl) (by simp) (by first|exact eR|refine Ax ?_)
theorem bL:Ao Tryz.prog 204 N0:=by
 refine AX Tryz.func204 (by kernel_rfl) rfl Tryz.ntmps204 (by decide) (by kernel_rfl) (AJ [(216,Sf)]) (AF Yf AL) ?_
 rintro w0 O0 ⟨s,u⟩ hc - -
 simp only[N0,AN]
 repeat'(first|exact trivial|refine eS rfl ?_|refine AB ?_|refine rX [0,2] hc ?_ ?_|refine rC ?_ ?_<;>intro AA<;>try(cases AA;done))
 exact AH hc [.tmp 2] rfl (.inl rfl) (by simp) (by first|exact eR|refine Ax ?_)
end
/- Functions of grammarlabref03: Among, find, Put. -/
section
theorem LY {α:Type} (l:List α) (d:α) (p:α→Bool) {k:Nat} (h:k<l.length):(l.take (k+1)).any p=((l.take k).any p||p (l.getD k d)):=by
 rw[Ab l d h,List.any_append];simp
theorem F4 {α:Type} (l:List α) (d:α) (p:α→Bool) {k:Nat} (h:k<l.length) (hp:p (l.getD k d)=true):l.any p=true :=
 List.any_eq_true.2 ⟨_,AD l d h,hp⟩
def Aa (l:List ByteArray) (s:ByteArray):Bool:=l.any fun x=>Am x s
def Dj:Ak:={ ins:=[Bj,T9],pre:=fun _=>True,out:=fun(l,n,_)=>[.p .bool (Aa l n)],lend:=true }
attribute [local go_sem] Dj
theorem F5:Ao Tryz.prog 183 Dj:=by
 refine AX Tryz.func183 (by kernel_rfl) rfl Tryz.ntmps183 (by decide) (by kernel_rfl) (AJ []) AL ?_
 rintro w0 O0 ⟨l,n,u⟩ hc ⟨⟨hl,-⟩,-⟩ -
 simp only[AP]at hl
 simp only[Dj,AN]
 repeat'(first|exact trivial|refine eS rfl ?_|refine AB ?_|refine rX [0,1,4,5,9,17] hc ?_ ?_|refine rC ?_ ?_<;>intro AA<;>try(cases AA;done))
 refine AK (ι:={k:Nat//k≤l.length∧(l.take k).any (fun x=>Am x n)=false}) (fun k=>⟨[(0,.p Bj l),(1,.p T9 n),(5,.p (.int .i64) (k.1:Int))],[]⟩) (fun k=>l.length-k.1) ⟨0,by simp⟩ (AC [] rfl rfl ?_ ?_) (fun k=>?_)
 ·first|exact eN|refine eM ?_
 ·first|exact eN|refine eM ?_
 ·obtain⟨k,hk,hany⟩:=k
  repeat'(first|exact trivial|refine eS rfl ?_|refine AB ?_|refine rX [0,1,4,5,9,17] hc ?_ ?_|refine rC ?_ ?_<;>intro AA<;>try(cases AA;done))
  ·exact eV
  ·have hkl:k<l.length:=by exact eV
   have h1:Aa l n=true:=F4 l ByteArray.empty _ hkl AA
   exact AH hc [.tmp 4] rfl (.inl rfl) (by simp) (by rw[h1];first|exact eR|refine Ax ?_)
  ·exact eV
  ·have hkl:k<l.length:=by exact eV
   refine⟨⟨k+1,by exact eV,?_⟩,by simp only;exact eV,AC [] rfl rfl ?_ ?_⟩
   ·rw[LY l ByteArray.empty _ hkl,hany];exact AA
   ·first|exact eN|refine eM ?_
   ·first|exact eN|refine eM ?_
  ·have hk:l.take k=l:=List.take_of_length_le (by exact eV)
   rw[hk]at hany
   have h1:Aa l n=false:=hany
   exact AH hc [.tmp 4] rfl (.inl rfl) (by simp) (by rw[h1];first|exact eR|refine Ax ?_)
def qO (l:List ByteArray) (s:ByteArray):Nat:=(l.takeWhile fun x=>GN x s).length
theorem tT {α:Type} (p:α→Bool) (d:α):∀(l:List α) (k:Nat),k≤(l.takeWhile p).length→((k<l.length∧p (l.getD k d)=true)↔k+1≤(l.takeWhile p).length)
 | [],k,h=>by simp
 | x :: l,k,h=>by
  by_cases hx:p x=true
  ·rw[List.takeWhile_cons,if_pos hx]at h ⊢
   cases k with
   | zero=>simp[hx]
   | succ k =>
    have:=tT p d l k (by simpa using h)
    simpa using this
  ·rw[List.takeWhile_cons,if_neg hx]at h ⊢
   have hk:k=0:=by simpa using h
   subst hk
   simp[hx]
theorem A1C {α:Type} (p:α→Bool) (l:List α):(l.takeWhile p).length≤l.length:=(List.takeWhile_sublist p).length_le
def Dk (l:List ByteArray) (s:ByteArray):List ByteArray :=
 if (decide (qO l s<l.length)&&Am (l.getD (qO l s) ByteArray.empty) s)=true then l else l.take (qO l s)++[s]++l.drop (qO l s)
def Mf:Ak:={ ins:=[Bj,T9],pre:=fun(l,_,_)=>List.length l≤100000,out:=fun(l,n,_)=>[.p Bj (Dk l n)] }
attribute [local go_sem] Mf
theorem PD:Ao Tryz.prog 174 Mf:=by
 refine AX Tryz.func174 (by kernel_rfl) rfl Tryz.ntmps174 (by decide) (by kernel_rfl) (AJ []) AL ?_
 rintro w0 O0 ⟨l,n,u⟩ hc-hl
 have hl:l.length≤100000:=hl
 simp only[Mf,AN]
 repeat'(first|exact trivial|refine eS rfl ?_|refine AB ?_|refine rX [0,1,4,5,6,18,32] hc ?_ ?_|refine rC ?_ ?_<;>intro AA<;>try(cases AA;done))
 refine AK (ι:={k:Nat//k≤qO l n}) (fun k=>⟨[(0,.p Bj l),(1,.p T9 n),(5,.raw (.slice none 0 0)),(6,.p (.int .i64) (k.1:Int))],[]⟩) (fun k=>l.length-k.1) ⟨0,by simp⟩ (AC [] rfl rfl ?_ ?_) (fun k=>?_)
 ·first|exact eN|refine eM ?_
 ·first|exact eN|refine eM ?_
 ·obtain⟨k,hk⟩:=k
  have hle:=A1C (fun x=>GN x n) l
  have htw:=tT (fun x=>GN x n) ByteArray.empty l k hk
  simp only
  repeat'(first|exact trivial|refine eS rfl ?_|refine AB ?_|refine rX [0,1,4,5,6,18,32] hc ?_ ?_|refine rC ?_ ?_<;>intro AA<;>try(cases AA;done))
  ·exact fun h=>h
  ·have h1:k<l.length∧GN (l.getD k ByteArray.empty) n=true:=⟨by exact eV,AA.2⟩
   exact eV
  ·have h1:k<l.length∧GN (l.getD k ByteArray.empty) n=true:=⟨by exact eV,AA.2⟩
   refine⟨⟨k+1,htw.1 h1⟩,by simp only;omega,AC [] rfl rfl ?_ ?_⟩
   ·first|exact eN|refine eM ?_
   ·first|exact eN|refine eM ?_
  ·exact fun h=>h
  ·rename_i hend
   have hk2:k=qO l n:=by
    refine Nat.le_antisymm hk (Nat.le_of_not_lt fun h=>?_)
    have:=htw.2 h
    rw[hend (Int.ofNat_lt.2 this.1)]at this
    cases this.2
   have h2:Dk l n=l:=by
    unfold Dk
    rw[←hk2,if_pos]
    rw[Bool.and_eq_true,decide_eq_true_eq]
    exact⟨Int.ofNat_lt.1 AA.1,AA.2⟩
   exact AH hc [.tmp 4] rfl (.inl rfl) (by simp) (by rw[h2];first|exact eR|refine Ax ?_)
  ·have h3:=List.length_take_le k l
   have h4:k≤l.length:=Nat.le_trans hk hle
   simp only[AP]
   exact⟨Int.ofNat_le.2 h4,by dsimp only[Ty.den]at *;omega⟩
  ·have h3:=List.length_take_le k l
   have h4:k≤l.length:=Nat.le_trans hk hle
   simp only[AP]
   dsimp only[Ty.den]at *
   omega
  ·have h3:=List.length_take_le k l
   have h4:k≤l.length:=Nat.le_trans hk hle
   have h5:(l.drop k).length≤l.length:=by rw[List.length_drop];omega
   simp only[AP]
   exact⟨Int.ofNat_le.2 h4,by dsimp only[Ty.den]at *;omega⟩
  ·rename_i hend
   have hk2:k=qO l n:=by
    refine Nat.le_antisymm hk (Nat.le_of_not_lt fun h=>?_)
    have:=htw.2 h
    rw[hend (Int.ofNat_lt.2 this.1)]at this
    cases this.2
   have h2:Dk l n=l.take k++[n]++l.drop k:=by
    unfold Dk
    rw[←hk2,if_neg]
    rw[Bool.and_eq_true,decide_eq_true_eq]
    intro h
    rw[AA (Int.ofNat_lt.2 h.1)]at h
    cases h.2
   have h4:k≤l.length:=Nat.le_trans hk hle
   have hlen:(l.take k).length+1+(l.drop k).length=(l.take k++[n]++l.drop k).length:=by simp only[List.length_append,List.length_singleton]
   rw[hlen,←h2]
   refine Gb [38] ?_
   exact AH hc [.tmp 4] rfl (.inl rfl) (by simp) (by first|exact eR|refine Ax ?_)
end
/- Functions of grammarlabref02: word, Normal. -/
section
def FZ (b:List Int) (i:Int):Int:=if i<b.length then b.getD i.toNat 0 else 0
def Sg:Ak:={ ins:=[A8,T3],pre:=fun(_,i,_)=>(0:Int)≤i,out:=fun(b,i,_)=>[.p Nu (FZ b i)],lend:=true }
attribute [local go_sem] Sg
theorem mC:Ao Tryz.prog 191 Sg:=by
 refine AX Tryz.func191 (by kernel_rfl) rfl Tryz.ntmps191 (by decide) (by kernel_rfl) (AJ []) AL ?_
 rintro w0 O0 ⟨b,i,u⟩ hc-hi
 simp only[Sg,AN]
 repeat'(first|exact trivial|refine eS rfl ?_|refine AB ?_|refine rX [0,1,4,8] hc ?_ ?_|refine rC ?_ ?_<;>intro AA<;>try(cases AA;done))
 ·exact⟨hi,AA⟩
 ·have h1:FZ b i=b.getD i.toNat 0:=by unfold FZ;rw[if_pos AA]
  exact AH hc [.tmp 4] rfl (.inl rfl) (by simp) (by rw[h1];first|exact eR|refine Ax ?_)
 ·have h1:FZ b i=0:=by unfold FZ;rw[if_neg (Int.not_lt.2 AA)]
  exact AH hc [.tmp 4] rfl (.inl rfl) (by simp) (by rw[h1];first|exact eR|refine Ax ?_)
def CQ (b:List Int):Nat→Nat
 | 0=>0
 | n+1=>if b.getD n 0=0 then CQ b n else n+1
def BE (b:List Int):List Int:=b.take (CQ b b.length)
theorem Sh (b:List Int):∀n,CQ b n≤n
 | 0=>Nat.le_refl _
 | n+1=>by
  unfold CQ
  split
  ·exact Nat.le_succ_of_le (Sh b n)
  ·exact Nat.le_refl _
def FK:Ak:={ ins:=[A8],pre:=fun(b,_)=>List.length b≤100000,out:=fun(b,_)=>[.p A8 (BE b)] }
attribute [local go_sem] FK
theorem LZ:Ao Tryz.prog 176 FK:=by
 refine AX Tryz.func176 (by kernel_rfl) rfl Tryz.ntmps176 (by decide) (by kernel_rfl) (AJ []) AL ?_
 rintro w0 O0 ⟨b,u⟩ hc-hb
 have hb:b.length≤100000:=hb
 simp only[FK,AN]
 repeat'(first|exact trivial|refine eS rfl ?_|refine AB ?_|refine rX [0,2,3,15] hc ?_ ?_|refine rC ?_ ?_<;>intro AA<;>try(cases AA;done))
 refine AK (ι:={n:Nat//n≤b.length∧CQ b n=CQ b b.length}) (fun n=>⟨[(0,.p A8 b),(3,.p (.int .i64) (n.1:Int))],[]⟩) (fun n=>n.1) ⟨b.length,Nat.le_refl _,rfl⟩ (AC [] rfl rfl ?_ ?_) (fun n=>?_)
 ·first|exact eN|refine eM ?_
 ·first|exact eN|refine eM ?_
 ·obtain⟨n,hn,hg⟩:=n
  simp only
  repeat'(first|exact trivial|refine eS rfl ?_|refine AB ?_|refine rX [0,2,3,15] hc ?_ ?_|refine rC ?_ ?_<;>intro AA<;>try(cases AA;done))
  ·constructor
   ·exact eV
   ·intro h
    refine⟨?_,?_⟩<;>exact eV
  ·exact eV
  ·obtain⟨h1,h2⟩:=AA
   obtain⟨m,rfl⟩:∃m,n=m+1:=⟨n-1,by omega⟩
   have e:(((m+1:Nat):Int)-1)=(m:Int):=by omega
   rw[e]at h2
   have h2:b.getD m 0=0:=h2
   have hg2:CQ b m=CQ b b.length:=by
    rw[←hg]
    show _=if b.getD m 0=0 then CQ b m else m+1
    rw[if_pos h2]
   refine⟨⟨m,by omega,hg2⟩,by simp,AC [] rfl rfl ?_ ?_⟩
   ·first|exact eN|refine eM ?_
   ·simp only[e]
    first|exact eN|refine eM ?_
  ·have h3:=List.length_take_le n b
   simp only[AP]
   exact⟨Int.ofNat_le.2 hn,by dsimp only[Ty.den]at *;omega⟩
  ·have hend:CQ b n=n:=by
    cases n with
    | zero=>rfl
    | succ m =>
     have e:(((m+1:Nat):Int)-1)=(m:Int):=by omega
     rw[e]at AA
     have h2:=AA (by omega)
     have h2:¬b.getD m 0=0:=h2
     show (if b.getD m 0=0 then CQ b m else m+1)=m+1
     rw[if_neg h2]
   have h1:BE b=b.take n:=by unfold BE;rw[←hg,hend]
   rw[←h1]
   refine Gb [18] ?_
   exact AH hc [.tmp 2] rfl (.inl rfl) (by simp) (by first|exact eR|refine Ax ?_)
end
/- Functions of grammarlabref02: Has. -/
section
attribute [local go_sem] Sg FK
def tU (w:Int) (r:Int):Bool:=CF .and .u64 (Xb .u64 w r) 1==1
def Si (b:List Int) (i:Int):Bool:=if (decide (i<0)||decide ((b.length:Int)≤i.tdiv 64))=true then false else tU (b.getD (i.tdiv 64).toNat 0) (i.tmod 64)
def bM:Ak:={ ins:=[A8,T3],pre:=fun _=>True,out:=fun(b,i,_)=>[.p .bool (Si b i)],lend:=true }
theorem A2e {w:Int} (h0:0≤w) (r:Int):0≤Xb .u64 w r∧Xb .u64 w r≤w:=by
 unfold Xb
 have hp:(0:Int)<2 ^ (min r.toNat IntKind.u64.bits):=Int.pow_pos (by decide)
 rw[Int.fdiv_eq_ediv_of_nonneg _ (Int.le_of_lt hp)]
 exact⟨Int.ediv_nonneg h0 (Int.le_of_lt hp),Int.ediv_le_self _ h0⟩
theorem tV:Ao Tryz.prog 187 bM:=by
 refine AX Tryz.func187 (by kernel_rfl) rfl Tryz.ntmps187 (by decide) (by kernel_rfl) (AJ []) AL ?_
 rintro w0 O0 ⟨b,i,u⟩ hc ⟨⟨hbl,hbe⟩,hik,-⟩ -
 have hik:K8 .i64 i:=hik
 rw[LQ]at hik
 have htd:0≤i→Int.tdiv i 64=i / 64∧Int.tmod i 64=i % 64:=fun h=>⟨Int.tdiv_eq_ediv_of_nonneg h,Int.tmod_eq_emod_of_nonneg h⟩
 simp only[bM,AN]
 repeat'(first|exact trivial|refine eS rfl ?_|refine AB ?_|refine rX [0,1,4,13] hc ?_ ?_|refine rC ?_ ?_<;>intro AA<;>try(cases AA;done))
 ·intro h
  have h0:0≤i:=by simpa using h
  obtain⟨e1,e2⟩:=htd h0
  rw[e1]
  refine⟨by decide,?_,?_⟩<;>exact eV
 ·have h1:Si b i=false:=by
   unfold Si
   rw[if_pos]
   rw[Bool.or_eq_true,decide_eq_true_eq,decide_eq_true_eq]
   exact AA
  exact AH hc [.tmp 4] rfl (.inl rfl) (by simp) (by rw[h1];first|exact eR|refine Ax ?_)
 ·obtain⟨h0,hlt⟩:=AA
  obtain⟨e1,e2⟩:=htd h0
  rw[e1]at hlt
  have hw:K8 .u64 (b.getD (i / 64).toNat 0):=hbe _ (AD b 0 (by exact eV))
  rw[Hh]at hw
  have hs:=A2e hw.1 (i % 64)
  rw[e1,e2]
  refine⟨⟨by decide,by exact eV,by exact eV⟩,⟨by exact eV,by exact eV⟩,⟨by decide,by exact eV,by exact eV⟩,⟨by exact eV,by exact eV⟩,by exact eV,hs.1,Int.le_trans hs.2 hw.2⟩
 ·have h1:Si b i=tU (b.getD (i.tdiv 64).toNat 0) (i.tmod 64):=by
   unfold Si
   rw[if_neg]
   rw[Bool.or_eq_true,decide_eq_true_eq,decide_eq_true_eq]
   rintro (h|h)<;>omega
  exact AH hc [.tmp 4] rfl (.inl rfl) (by simp) (by rw[h1];unfold tU;first|exact eR|refine Ax ?_)
end
/- Functions of grammarlabref02: And, Minus. -/
section
attribute [local go_sem] Sg FK
def Fj (op:BinOp) (a b:List Int) (n:Nat):List Int:=(List.range n).map fun i=>CF op .u64 (a.getD i 0) (FZ b (i:Int))
theorem D0 (op:BinOp) (a b:List Int) (n:Nat):(Fj op a b n).length=n:=by simp[Fj]
theorem Uz (op:BinOp) (a b:List Int) (n:Nat):Fj op a b (n+1)=Fj op a b n++[CF op .u64 (a.getD n 0) (FZ b (n:Int))]:=by simp[Fj,List.range_succ]
def FL (a b:List Int):List Int:=BE (Fj .and a b a.length)
def Yg:Ak:={ ins:=[A8,A8],pre:=fun(a,_,_)=>List.length a≤100000,out:=fun(a,b,_)=>[.p A8 (FL a b)] }
theorem bN:Ao Tryz.prog 143 Yg:=by
 refine AX Tryz.func143 (by kernel_rfl) rfl Tryz.ntmps143 (by decide) (by kernel_rfl) (AJ [(191,Sg),(176,FK)]) (AF mC (AF LZ AL)) ?_
 rintro w0 O0 ⟨a,b,u⟩ hc-ha
 have ha:a.length≤100000:=ha
 simp only[Yg,AN]
 repeat'(first|exact trivial|refine eS rfl ?_|refine AB ?_|refine rX [0,1,4,5,6,10] hc ?_ ?_|refine rC ?_ ?_<;>intro AA<;>try(cases AA;done))
 refine AK (ι:={n:Nat//n≤a.length}) (fun n=>⟨[(0,.p A8 a),(1,.p A8 b),(5,.sr 23 Nu 0 n.1),(6,.p (.int .i64) (n.1:Int))],[(23,.arr 209 Nu (Fj .and a b n.1))]⟩) (fun n=>a.length-n.1) ⟨0,Nat.zero_le _⟩ (AC [(23,.nil)] rfl rfl ?_ ?_) (fun n=>?_)
 ·first|exact eN|refine eM ?_
  rfl
 ·first|exact eN|refine eM ?_
 ·obtain⟨n,hn⟩:=n
  have hz:=D0 .and a b n
  have hs:=Uz .and a b n
  simp only
  repeat'(first|exact trivial|refine eS rfl ?_|refine AB ?_|refine rX [0,1,4,5,6,10] hc ?_ ?_|refine rC ?_ ?_<;>intro AA<;>try(cases AA;done))
  ·refine⟨AA,?_⟩
   simp only[AP]
   dsimp only[Ty.den]at *
   omega
  ·exact eV
  ·have hn2:n<a.length:=by exact eV
   refine⟨⟨n+1,by omega⟩,by simp only;omega,AC [(23,.nm 23)] rfl rfl ?_ ?_⟩
   ·simp only[hs]
    first|exact eN|refine eM ?_
    rw[List.take_of_length_le (by rw[hz];exact Nat.le_refl _)]
   ·first|exact eN|refine eM ?_
  ·have hn2:n=a.length:=by exact eV
   subst hn2
   refine Gb [23] ?_
   have ht:(Fj .and a b a.length).take a.length=Fj .and a b a.length:=List.take_of_length_le (by rw[D0];exact Nat.le_refl _)
   repeat'(first|exact trivial|refine eS rfl ?_|refine AB ?_|refine rX [0,1,4,5,6,10] hc ?_ ?_|refine rC ?_ ?_<;>intro AA<;>try(cases AA;done))
   ·rw[ht,D0];exact ha
   ·rw[ht]
    exact AH hc [.tmp 4] rfl (.inl rfl) (by simp) (by unfold FL;first|exact eR|refine Ax ?_)
def PE (a b:List Int):List Int:=BE (Fj .andNot a b a.length)
def Wk:Ak:={ ins:=[A8,A8],pre:=fun(a,_,_)=>List.length a≤100000,out:=fun(a,b,_)=>[.p A8 (PE a b)] }
attribute [local go_sem] Wk
theorem tW:Ao Tryz.prog 211 Wk:=by
 refine AX Tryz.func211 (by kernel_rfl) rfl Tryz.ntmps211 (by decide) (by kernel_rfl) (AJ [(191,Sg),(176,FK)]) (AF mC (AF LZ AL)) ?_
 rintro w0 O0 ⟨a,b,u⟩ hc-ha
 have ha:a.length≤100000:=ha
 simp only[Wk,AN]
 repeat'(first|exact trivial|refine eS rfl ?_|refine AB ?_|refine rX [0,1,4,5,6,10] hc ?_ ?_|refine rC ?_ ?_<;>intro AA<;>try(cases AA;done))
 refine AK (ι:={n:Nat//n≤a.length}) (fun n=>⟨[(0,.p A8 a),(1,.p A8 b),(5,.sr 23 Nu 0 n.1),(6,.p (.int .i64) (n.1:Int))],[(23,.arr 209 Nu (Fj .andNot a b n.1))]⟩) (fun n=>a.length-n.1) ⟨0,Nat.zero_le _⟩ (AC [(23,.nil)] rfl rfl ?_ ?_) (fun n=>?_)
 ·first|exact eN|refine eM ?_
  rfl
 ·first|exact eN|refine eM ?_
 ·obtain⟨n,hn⟩:=n
  have hz:=D0 .andNot a b n
  have hs:=Uz .andNot a b n
  simp only
  repeat'(first|exact trivial|refine eS rfl ?_|refine AB ?_|refine rX [0,1,4,5,6,10] hc ?_ ?_|refine rC ?_ ?_<;>intro AA<;>try(cases AA;done))
  ·refine⟨AA,?_⟩
   simp only[AP]
   dsimp only[Ty.den]at *
   omega
  ·exact eV
  ·have hn2:n<a.length:=by exact eV
   refine⟨⟨n+1,by omega⟩,by simp only;omega,AC [(23,.nm 23)] rfl rfl ?_ ?_⟩
   ·simp only[hs]
    first|exact eN|refine eM ?_
    rw[List.take_of_length_le (by rw[hz];exact Nat.le_refl _)]
   ·first|exact eN|refine eM ?_
  ·have hn2:n=a.length:=by exact eV
   subst hn2
   refine Gb [23] ?_
   have ht:(Fj .andNot a b a.length).take a.length=Fj .andNot a b a.length:=List.take_of_length_le (by rw[D0];exact Nat.le_refl _)
   repeat'(first|exact trivial|refine eS rfl ?_|refine AB ?_|refine rX [0,1,4,5,6,10] hc ?_ ?_|refine rC ?_ ?_<;>intro AA<;>try(cases AA;done))
   ·rw[ht,D0];exact ha
   ·rw[ht]
    exact AH hc [.tmp 4] rfl (.inl rfl) (by simp) (by unfold PE;first|exact eR|refine Ax ?_)
def Ef (a b:List Int):Bool:=((PE a b).length:Int)==0
def La:Ak:={ ins:=[A8,A8],pre:=fun(a,_,_)=>List.length a≤100000,out:=fun(a,b,_)=>[.p .bool (Ef a b)],lend:=true }
attribute [local go_sem] La
theorem U0:Ao Tryz.prog 190 La:=by
 refine AX Tryz.func190 (by kernel_rfl) rfl Tryz.ntmps190 (by decide) (by kernel_rfl) (AJ [(211,Wk)]) (AF tW AL) ?_
 rintro w0 O0 ⟨a,b,u⟩ hc-ha
 have ha:a.length≤100000:=ha
 simp only[La,AN]
 repeat'(first|exact trivial|refine eS rfl ?_|refine AB ?_|refine rX [0,1,4] hc ?_ ?_|refine rC ?_ ?_<;>intro AA<;>try(cases AA;done))
 ·exact ha
 ·exact AH hc [.tmp 4] rfl (.inl rfl) (by simp) (by unfold Ef;first|exact eR|refine Ax ?_)
def FM (a b:List Int):Bool:=Ef a b&&Ef b a
def RL:Ak:={ ins:=[A8,A8],pre:=fun(a,b,_)=>List.length a≤100000∧List.length b≤100000,out:=fun(a,b,_)=>[.p .bool (FM a b)],lend:=true }
theorem oV:Ao Tryz.prog 186 RL:=by
 refine AX Tryz.func186 (by kernel_rfl) rfl Tryz.ntmps186 (by decide) (by kernel_rfl) (AJ [(190,La)]) (AF U0 AL) ?_
 rintro w0 O0 ⟨a,b,u⟩ hc-⟨ha,hb⟩
 simp only[RL,AN]
 repeat'(first|exact trivial|refine eS rfl ?_|refine AB ?_|refine rX [0,1,4] hc ?_ ?_|refine rC ?_ ?_<;>intro AA<;>try(cases AA;done))
 ·exact⟨ha,fun _=>hb⟩
 ·exact AH hc [.tmp 4] rfl (.inl rfl) (by simp) (by unfold FM;first|exact eR|refine Ax ?_)
end
/- Functions of grammarlabref02: Same, List. -/
section
attribute [local go_sem] bM
def G9 (a b:List Int):Bool:=decide (a=b)
def ME:Ak:={ ins:=[A8,A8],pre:=fun _=>True,out:=fun(a,b,_)=>[.p .bool (G9 a b)],lend:=true }
theorem Wl:Ao Tryz.prog 177 ME:=by
 refine AX Tryz.func177 (by kernel_rfl) rfl Tryz.ntmps177 (by decide) (by kernel_rfl) (AJ []) AL ?_
 rintro w0 O0 ⟨a,b,u⟩ hc ⟨⟨ha,-⟩,-⟩ -
 simp only[AP]at ha
 simp only[ME,AN]
 repeat'(first|exact trivial|refine eS rfl ?_|refine AB ?_|refine rX [0,1,4,5,10,14,25] hc ?_ ?_|refine rC ?_ ?_<;>intro AA<;>try(cases AA;done))
 ·have h1:G9 a b=false:=by
   unfold G9
   rw[decide_eq_false_iff_not]
   rintro rfl
   exact AA rfl
  exact AH hc [.tmp 4] rfl (.inl rfl) (by simp) (by rw[h1];first|exact eR|refine Ax ?_)
 ·have hab:a.length=b.length:=by
   have:(a.length:Int)=(b.length:Int):=by simpa using AA
   exact Int.ofNat_inj.1 this
  refine AK (ι:={k:Nat//k≤a.length∧a.take k=b.take k}) (fun k=>⟨[(0,.p A8 a),(1,.p A8 b),(5,.p (.int .i64) (k.1:Int))],[]⟩) (fun k=>a.length-k.1) ⟨0,Nat.zero_le _,rfl⟩ (AC [] rfl rfl ?_ ?_) (fun k=>?_)
  ·first|exact eN|refine eM ?_
  ·first|exact eN|refine eM ?_
  ·obtain⟨k,hk,hf⟩:=k
   simp only
   repeat'(first|exact trivial|refine eS rfl ?_|refine AB ?_|refine rX [0,1,4,5,10,14,25] hc ?_ ?_|refine rC ?_ ?_<;>intro AA<;>try(cases AA;done))
   ·exact⟨AA,by rw[←hab];exact AA⟩
   ·have hk2:k<a.length:=by exact eV
    have h1:G9 a b=false:=by
     unfold G9
     rw[decide_eq_false_iff_not]
     rintro rfl
     exact AA rfl
    exact AH hc [.tmp 4] rfl (.inl rfl) (by simp) (by rw[h1];first|exact eR|refine Ax ?_)
   ·exact eV
   ·have hk2:k<a.length:=by exact eV
    have he:a.getD k 0=b.getD k 0:=by simpa using AA
    refine⟨⟨k+1,by omega,?_⟩,by simp only;omega,AC [] rfl rfl ?_ ?_⟩
    ·rw[Ab a 0 hk2,Ab b 0 (by omega),hf]
     rw[show a.getD k 0=b.getD k 0 from he]
    ·first|exact eN|refine eM ?_
    ·first|exact eN|refine eM ?_
   ·have hk2:k=a.length:=by exact eV
    subst hk2
    rw[List.take_length,hab,List.take_length]at hf
    have h1:G9 a b=true:=by unfold G9;rw[hf];simp
    exact AH hc [.tmp 4] rfl (.inl rfl) (by simp) (by rw[h1];first|exact eR|refine Ax ?_)
end
/- Functions of grammarlabref02: List, Count. -/
section
attribute [local go_sem] bM
def MF (b:List Int) (n:Nat):List Int:=((List.range n).filter fun(i:Nat)=>Si b (i:Int)).map fun(i:Nat)=>(i:Int)
def HA (b:List Int):List Int:=MF b (64*b.length)
theorem bO (b:List Int) (n:Nat):MF b (n+1)=MF b n++if Si b (n:Int)=true then [(n:Int)] else []:=by
 unfold MF
 rw[List.range_succ,List.filter_append,List.map_append]
 congr 1
 rw[List.filter_cons,List.filter_nil]
 split<;>rfl
theorem oW (b:List Int) (n:Nat):(MF b n).length≤n:=by
 unfold MF
 rw[List.length_map]
 exact Nat.le_trans (List.length_filter_le _ _) (by simp)
def mD:Ak:={ ins:=[A8],pre:=fun(b,_)=>List.length b≤100000,out:=fun(b,_)=>[.p Ez (HA b)] }
attribute [local go_sem] mD
theorem A0u:Ao Tryz.prog 210 mD:=by
 refine AX Tryz.func210 (by kernel_rfl) rfl Tryz.ntmps210 (by decide) (by kernel_rfl) (AJ [(187,bM)]) (AF tV AL) ?_
 rintro w0 O0 ⟨b,u⟩ hc-hb
 have hb:b.length≤100000:=hb
 simp only[mD,AN]
 repeat'(first|exact trivial|refine eS rfl ?_|refine AB ?_|refine rX [0,2,3,4,9,14] hc ?_ ?_|refine rC ?_ ?_<;>intro AA<;>try(cases AA;done))
 refine AK (ι:={n:Nat//n≤64*b.length}) (fun n=>⟨[(0,.p A8 b),(3,.sr 18 T3 0 (MF b n.1).length),(4,.p (.int .i64) (n.1:Int))],[(18,.arr 3 T3 (MF b n.1))]⟩) (fun n=>64*b.length-n.1) ⟨0,Nat.zero_le _⟩ (AC [(18,.nil)] rfl rfl ?_ ?_) (fun n=>?_)
 ·first|exact eN|refine eM ?_
  rfl
 ·first|exact eN|refine eM ?_
  rfl
 ·obtain⟨n,hn⟩:=n
  have hz:=oW b n
  have hs:=bO b n
  simp only
  repeat'(first|exact trivial|refine eS rfl ?_|refine AB ?_|refine rX [0,2,3,4,9,14] hc ?_ ?_|refine rC ?_ ?_<;>intro AA<;>try(cases AA;done))
  ·exact eV
  ·rw[AA,if_pos rfl]at hs
   simp only[AP]
   dsimp only[Ty.den]at *
   omega
  ·exact eV
  ·have hn2:n<64*b.length:=by exact eV
   rw[AA,if_pos rfl]at hs
   refine⟨⟨n+1,by omega⟩,by simp only;omega,AC [(18,.nm 18)] rfl rfl ?_ ?_⟩
   ·simp only[hs]
    first|exact eN|refine eM ?_
   ·simp only[hs]
    first|exact eN|refine eM ?_
  ·exact eV
  ·have hn2:n<64*b.length:=by exact eV
   rw[AA,if_neg (by simp),List.append_nil]at hs
   refine⟨⟨n+1,by omega⟩,by simp only;omega,AC [(18,.nm 18)] rfl rfl ?_ ?_⟩
   ·simp only[hs]
    first|exact eN|refine eM ?_
   ·simp only[hs]
    first|exact eN|refine eM ?_
  ·have hn2:n=64*b.length:=by exact eV
   subst hn2
   refine Gb [18] ?_
   exact AH hc [.tmp 2] rfl (.inl rfl) (by simp) (by unfold HA;first|exact eR|refine Ax ?_)
def Wm:Ak:={ ins:=[A8],pre:=fun(b,_)=>List.length b≤100000,out:=fun(b,_)=>[.p T3 ((HA b).length:Int)],lend:=true }
theorem tY:Ao Tryz.prog 189 Wm:=by
 refine AX Tryz.func189 (by kernel_rfl) rfl Tryz.ntmps189 (by decide) (by kernel_rfl) (AJ [(210,mD)]) (AF A0u AL) ?_
 rintro w0 O0 ⟨b,u⟩ hc-hb
 simp only[Wm,AN]
 repeat'(first|exact trivial|refine eS rfl ?_|refine AB ?_|refine rX [0,2] hc ?_ ?_|refine rC ?_ ?_<;>intro AA<;>try(cases AA;done))
 ·exact hb
 ·exact AH hc [.tmp 2] rfl (.inl rfl) (by simp) (by first|exact eR|refine Ax ?_)
end
/- Functions of grammarlabref03: find, sizes, ready. -/
section
attribute [local go_sem] Dj mB
abbrev AI:=ByteArray×List ByteArray×List (ByteArray×ByteArray)
abbrev d0:AI:=(ByteArray.empty,[],[])
def CR (s:ByteArray):Nat→List AI→Int
 | _,[]=>-1
 | k,x :: l=>if Am x.1 s=true then (k:Int) else CR s (k+1) l
def A9 (l:List AI) (s:ByteArray):Int:=CR s 0 l
theorem QU (s:ByteArray) (l:List AI) {k:Nat} (h:k<l.length):CR s k (l.drop k)=if Am (l.getD k d0).1 s=true then (k:Int) else CR s (k+1) (l.drop (k+1)):=by
 rw[List.drop_eq_getElem_cons h]
 have e:l.getD k d0=l[k]:=by simp[List.getD_eq_getElem?_getD,h]
 rw[e]
 rfl
def GH:Ak:={ ins:=[EI,T9],pre:=fun _=>True,out:=fun(l,s,_)=>[.p T3 (A9 l s)] }
attribute [local go_sem] GH
theorem KV:Ao Tryz.prog 206 GH:=by
 refine AX Tryz.func206 (by kernel_rfl) rfl Tryz.ntmps206 (by decide) (by kernel_rfl) (AJ []) AL ?_
 rintro w0 O0 ⟨l,s,u⟩ hc ⟨⟨hl,-⟩,-⟩ -
 simp only[AP]at hl
 simp only[GH,AN]
 repeat'(first|exact trivial|refine eS rfl ?_|refine AB ?_|refine rX [0,1,4,5,9,18] hc ?_ ?_|refine rC ?_ ?_<;>intro AA<;>try(cases AA;done))
 refine AK (ι:={k:Nat//k≤l.length∧CR s k (l.drop k)=A9 l s}) (fun k=>⟨[(0,.p EI l),(1,.p T9 s),(5,.p (.int .i64) (k.1:Int))],[]⟩) (fun k=>l.length-k.1) ⟨0,Nat.zero_le _,rfl⟩ (AC [] rfl rfl ?_ ?_) (fun k=>?_)
 ·first|exact eN|refine eM ?_
 ·first|exact eN|refine eM ?_
 ·obtain⟨k,hk,hf⟩:=k
  simp only
  repeat'(first|exact trivial|refine eS rfl ?_|refine AB ?_|refine rX [0,1,4,5,9,18] hc ?_ ?_|refine rC ?_ ?_<;>intro AA<;>try(cases AA;done))
  ·exact AA
  ·have hk2:k<l.length:=by exact eV
   rw[QU s l hk2,if_pos AA]at hf
   exact AH hc [.tmp 4] rfl (.inl rfl) (by simp) (by rw[←hf];first|exact eR|refine Ax ?_)
  ·exact eV
  ·have hk2:k<l.length:=by exact eV
   rw[QU s l hk2,if_neg (by rw[AA];simp)]at hf
   refine⟨⟨k+1,by omega,hf⟩,by simp only;omega,AC [] rfl rfl ?_ ?_⟩
   ·first|exact eN|refine eM ?_
   ·first|exact eN|refine eM ?_
  ·have hk2:l.drop k=[]:=List.drop_eq_nil_of_le (by exact eV)
   rw[hk2]at hf
   exact AH hc [.tmp 4] rfl (.inl rfl) (by simp) (by rw[←hf];first|exact eR|refine Ax ?_;rfl)
def KW:List AI→Int
 | []=>0
 | x :: l=>if 256<x.2.1.length∨256<x.2.2.length then 7 else KW l
def ER (l:List AI):Int:=if 256<l.length then 7 else KW l
theorem QV (l:List AI) {k:Nat} (h:k<l.length):KW (l.drop k)=if 256<(l.getD k d0).2.1.length∨256<(l.getD k d0).2.2.length then 7 else KW (l.drop (k+1)):=by
 rw[List.drop_eq_getElem_cons h]
 have e:l.getD k d0=l[k]:=by simp[List.getD_eq_getElem?_getD,h]
 rw[e]
 rfl
def Sj:Ak:={ ins:=[EI],pre:=fun _=>True,out:=fun(l,_)=>[.p YO (ER l)] }
attribute [local go_sem] Sj
theorem tZ:Ao Tryz.prog 178 Sj:=by
 refine AX Tryz.func178 (by kernel_rfl) rfl Tryz.ntmps178 (by decide) (by kernel_rfl) (AJ []) AL ?_
 rintro w0 O0 ⟨l,u⟩ hc ⟨⟨hl,-⟩,-⟩ -
 simp only[AP]at hl
 simp only[Sj,AN]
 repeat'(first|exact trivial|refine eS rfl ?_|refine AB ?_|refine rX [0,2,3,6,10,28] hc ?_ ?_|refine rC ?_ ?_<;>intro AA<;>try(cases AA;done))
 ·have h1:ER l=7:=by unfold ER;rw[if_pos (by exact eV)]
  exact AH hc [.tmp 2] rfl (.inl rfl) (by simp) (by rw[h1];first|exact eR|refine Ax ?_)
 ·have h1:ER l=KW l:=by unfold ER;rw[if_neg (by exact eV)]
  refine AK (ι:={k:Nat//k≤l.length∧KW (l.drop k)=ER l}) (fun k=>⟨[(0,.p EI l),(3,.p (.int .i64) (k.1:Int))],[]⟩) (fun k=>l.length-k.1) ⟨0,Nat.zero_le _,h1.symm⟩ (AC [] rfl rfl ?_ ?_) (fun k=>?_)
  ·first|exact eN|refine eM ?_
  ·first|exact eN|refine eM ?_
  ·obtain⟨k,hk,hf⟩:=k
   simp only
   repeat'(first|exact trivial|refine eS rfl ?_|refine AB ?_|refine rX [0,2,3,6,10,28] hc ?_ ?_|refine rC ?_ ?_<;>intro AA<;>try(cases AA;done))
   ·exact⟨AA,fun _=>AA⟩
   ·have hk2:k<l.length:=by exact eV
    rw[QV l hk2,if_pos (by
     rcases AA with h|h
     ·exact .inl (Int.ofNat_lt.1 h)
     ·exact .inr (Int.ofNat_lt.1 h))]at hf
    exact AH hc [.tmp 2] rfl (.inl rfl) (by simp) (by rw[←hf];first|exact eR|refine Ax ?_)
   ·exact eV
   ·have hk2:k<l.length:=by exact eV
    rw[QV l hk2,if_neg (by
     rintro (h|h)
     ·have:=Int.ofNat_le.1 AA.1;exact absurd h (Nat.not_lt.2 this)
     ·have:=Int.ofNat_le.1 AA.2;exact absurd h (Nat.not_lt.2 this))]at hf
    refine⟨⟨k+1,by omega,hf⟩,by simp only;omega,AC [] rfl rfl ?_ ?_⟩
    ·first|exact eN|refine eM ?_
    ·first|exact eN|refine eM ?_
   ·have hk2:l.drop k=[]:=List.drop_eq_nil_of_le (by exact eV)
    rw[hk2]at hf
    exact AH hc [.tmp 2] rfl (.inl rfl) (by simp) (by rw[←hf];first|exact eR|refine Ax ?_;rfl)
theorem Ig {α:Type} (l:List α) (d:α) (p:α→Bool) {k:Nat} (h:k<l.length):(l.take (k+1)).all p=((l.take k).all p&&p (l.getD k d)):=by
 rw[Ab l d h,List.all_append];simp
def HB (x:AI) (done:List ByteArray):Bool:=x.2.1.all fun s=>Aa done s
def Sk:Ak:={ ins:=[oO,Bj],pre:=fun _=>True,out:=fun(x,l,_)=>[.p .bool (HB x l)],lend:=true }
attribute [local go_sem] Sk
theorem t4:Ao Tryz.prog 207 Sk:=by
 refine AX Tryz.func207 (by kernel_rfl) rfl Tryz.ntmps207 (by decide) (by kernel_rfl) (AJ [(183,Dj)]) (AF F5 AL) ?_
 rintro w0 O0 ⟨⟨nm,sup,fe⟩,l,u⟩ hc ⟨⟨-,⟨hsz,-⟩,-⟩,-⟩ -
 simp only[AP]at hsz
 simp only[Sk,AN]
 repeat'(first|exact trivial|refine eS rfl ?_|refine AB ?_|refine rX [0,1,2,4,5,10,20] hc ?_ ?_|refine rC ?_ ?_<;>intro AA<;>try(cases AA;done))
 refine AK (ι:={k:Nat//k≤sup.length∧(sup.take k).all (fun s=>Aa l s)=true}) (fun k=>⟨[(1,.p Bj l),(2,.bp 2 [] 0),(5,.p (.int .i64) (k.1:Int))],[(2,.box 154 true [.p T9 nm,.p Bj sup,.p YP fe])]⟩) (fun k=>sup.length-k.1) ⟨0,by simp⟩ (AC [(2,.nm 2)] rfl rfl ?_ ?_) (fun k=>?_)
 ·first|exact eN|refine eM ?_
 ·first|exact eN|refine eM ?_
 ·obtain⟨k,hk,hf⟩:=k
  simp only
  repeat'(first|exact trivial|refine eS rfl ?_|refine AB ?_|refine rX [0,1,2,4,5,10,20] hc ?_ ?_|refine rC ?_ ?_<;>intro AA<;>try(cases AA;done))
  ·exact AA
  ·have hk2:k<sup.length:=by exact eV
   have h1:HB (nm,sup,fe) l=false:=by
    unfold HB
    refine Bool.eq_false_iff.2 fun h=>?_
    have:=List.all_eq_true.1 h _ (AD sup ByteArray.empty hk2)
    rw[AA]at this
    cases this
   exact AH hc [.tmp 4] rfl (.inl rfl) (by simp) (by rw[h1];first|exact eR|refine Ax ?_)
  ·have:=hsz
   exact eV
  ·have hk2:k<sup.length:=by exact eV
   refine⟨⟨k+1,by omega,?_⟩,by simp only;omega,AC [(2,.nm 2)] rfl rfl ?_ ?_⟩
   ·rw[Ig sup ByteArray.empty _ hk2,hf]
    exact AA
   ·first|exact eN|refine eM ?_
   ·first|exact eN|refine eM ?_
  ·have hk2:sup.take k=sup:=List.take_of_length_le (by exact eV)
   rw[hk2]at hf
   have h1:HB (nm,sup,fe) l=true:=hf
   exact AH hc [.tmp 4] rfl (.inl rfl) (by simp) (by rw[h1];first|exact eR|refine Ax ?_)
def Mg (d:List AI):Nat→List AI→Int
 | _,[]=>0
 | k,x :: l=>if EP x.1 false=false then 1 else if A9 d x.1<(k:Int) then 4 else Mg d (k+1) l
def DR (d:List AI):Int:=Mg d 0 d
theorem KX (d l:List AI) {k:Nat} (h:k<l.length):Mg d k (l.drop k)=if EP (l.getD k d0).1 false=false then 1 else if A9 d (l.getD k d0).1<(k:Int) then 4 else Mg d (k+1) (l.drop (k+1)):=by
 rw[List.drop_eq_getElem_cons h]
 have e:l.getD k d0=l[k]:=by simp[List.getD_eq_getElem?_getD,h]
 rw[e]
 rfl
def Sl:Ak:={ ins:=[EI],pre:=fun _=>True,out:=fun(l,_)=>[.p YO (DR l)] }
attribute [local go_sem] Sl
theorem t5:Ao Tryz.prog 179 Sl:=by
 refine AX Tryz.func179 (by kernel_rfl) rfl Tryz.ntmps179 (by decide) (by kernel_rfl) (AJ [(205,mB),(206,GH)]) (AF A0t (AF KV AL)) ?_
 rintro w0 O0 ⟨l,u⟩ hc ⟨⟨hl,-⟩,-⟩ -
 simp only[AP]at hl
 simp only[Sl,AN]
 repeat'(first|exact trivial|refine eS rfl ?_|refine AB ?_|refine rX [0,2,3,7,16,25] hc ?_ ?_|refine rC ?_ ?_<;>intro AA<;>try(cases AA;done))
 refine AK (ι:={k:Nat//k≤l.length∧Mg l k (l.drop k)=DR l}) (fun k=>⟨[(0,.p EI l),(3,.p (.int .i64) (k.1:Int))],[]⟩) (fun k=>l.length-k.1) ⟨0,Nat.zero_le _,rfl⟩ (AC [] rfl rfl ?_ ?_) (fun k=>?_)
 ·first|exact eN|refine eM ?_
 ·first|exact eN|refine eM ?_
 ·obtain⟨k,hk,hf⟩:=k
  simp only
  repeat'(first|exact trivial|refine eS rfl ?_|refine AB ?_|refine rX [0,2,3,7,16,25] hc ?_ ?_|refine rC ?_ ?_<;>intro AA<;>try(cases AA;done))
  ·exact AA
  ·have hk2:k<l.length:=by exact eV
   rw[KX l l hk2,if_pos AA]at hf
   exact AH hc [.tmp 2] rfl (.inl rfl) (by simp) (by rw[←hf];first|exact eR|refine Ax ?_)
  ·assumption
  ·rename_i hnm
   have hk2:k<l.length:=by exact eV
   rw[KX l l hk2,if_neg (by rw[hnm];simp),if_pos AA]at hf
   exact AH hc [.tmp 2] rfl (.inl rfl) (by simp) (by rw[←hf];first|exact eR|refine Ax ?_)
  ·exact eV
  ·rename_i hnm
   have hk2:k<l.length:=by exact eV
   rw[KX l l hk2,if_neg (by rw[hnm];simp),if_neg (Int.not_lt.2 AA)]at hf
   refine⟨⟨k+1,by omega,hf⟩,by simp only;omega,AC [] rfl rfl ?_ ?_⟩
   ·first|exact eN|refine eM ?_
   ·first|exact eN|refine eM ?_
  ·have hk2:l.drop k=[]:=List.drop_eq_nil_of_le (by exact eV)
   rw[hk2]at hf
   exact AH hc [.tmp 2] rfl (.inl rfl) (by simp) (by rw[←hf];first|exact eR|refine Ax ?_;rfl)
def Q1 (d:List AI) (l:List ByteArray):Nat→List ByteArray→Int
 | _,[]=>0
 | k,x :: r=>if A9 d x<0 then 5 else if Aa (l.take k) x=true then 4 else Q1 d l (k+1) r
def JQ (d:List AI):List AI→Int
 | []=>0
 | x :: l=>if Q1 d x.2.1 0 x.2.1≠0 then Q1 d x.2.1 0 x.2.1 else JQ d l
def JR (d:List AI):Int:=JQ d d
theorem PF (d:List AI) (l:List ByteArray) {k:Nat} (h:k<l.length):Q1 d l k (l.drop k)=if A9 d (l.getD k ByteArray.empty)<0 then 5 else if Aa (l.take k) (l.getD k ByteArray.empty)=true then 4 else Q1 d l (k+1) (l.drop (k+1)):=by
 rw[List.drop_eq_getElem_cons h]
 have e:l.getD k ByteArray.empty=l[k]:=by simp[List.getD_eq_getElem?_getD,h]
 rw[e]
 rfl
theorem Wn (d l:List AI) {k:Nat} (h:k<l.length):JQ d (l.drop k)=if Q1 d (l.getD k d0).2.1 0 (l.getD k d0).2.1≠0 then Q1 d (l.getD k d0).2.1 0 (l.getD k d0).2.1 else JQ d (l.drop (k+1)):=by
 rw[List.drop_eq_getElem_cons h]
 have e:l.getD k d0=l[k]:=by simp[List.getD_eq_getElem?_getD,h]
 rw[e]
 rfl
def N9:Ak:={ ins:=[EI],pre:=fun _=>True,out:=fun(l,_)=>[.p YO (JR l)] }
attribute [local go_sem] N9
theorem oX:Ao Tryz.prog 180 N9:=by
 refine AX Tryz.func180 (by kernel_rfl) rfl Tryz.ntmps180 (by decide) (by kernel_rfl) (AJ [(183,Dj),(206,GH)]) (AF F5 (AF KV AL)) ?_
 rintro w0 O0 ⟨l,u⟩ hc ⟨⟨hl,hall⟩,-⟩ -
 simp only[AP]at hl
 simp only[N9,AN]
 repeat'(first|exact trivial|refine eS rfl ?_|refine AB ?_|refine rX [0,2,3,4,5,9,20,29,37] hc ?_ ?_|refine rC ?_ ?_<;>intro AA<;>try(cases AA;done))
 refine AK (ι:={i:Nat//i≤l.length∧JQ l (l.drop i)=JR l}) (fun i=>⟨[(0,.p EI l),(3,.p (.int .i64) (i.1:Int))],[]⟩) (fun i=>l.length-i.1) ⟨0,Nat.zero_le _,rfl⟩ (AC [] rfl rfl ?_ ?_) (fun i=>?_)
 ·first|exact eN|refine eM ?_
 ·first|exact eN|refine eM ?_
 ·obtain⟨i,hi,hf⟩:=i
  simp only
  repeat'(first|exact trivial|refine eS rfl ?_|refine AB ?_|refine rX [0,2,3,4,5,9,20,29,37] hc ?_ ?_|refine rC ?_ ?_<;>intro AA<;>try(cases AA;done))
  ·exact AA
  ·have hi2:i<l.length:=by exact eV
   have hm:=hall _ (AD l d0 hi2)
   have hml:(l.getD i d0).2.1.length≤AP:=hm.2.1.1
   simp only[AP]at hml
   rw[Wn l l hi2]at hf
   generalize (l.getD i d0).2.1=sup at *
   refine AK (ι:={k:Nat//k≤sup.length∧Q1 l sup k (sup.drop k)=Q1 l sup 0 sup}) (fun k=>⟨[(0,.p EI l),(3,.p (.int .i64) (i:Int)),(4,.p Bj sup),(5,.p (.int .i64) (k.1:Int))],[]⟩) (fun k=>sup.length-k.1) ⟨0,Nat.zero_le _,rfl⟩ (AC [] rfl rfl ?_ ?_) (fun k=>?_)
   ·first|exact eN|refine eM ?_
   ·first|exact eN|refine eM ?_
   ·obtain⟨k,hk,hg⟩:=k
    simp only
    repeat'(first|exact trivial|refine eS rfl ?_|refine AB ?_|refine rX [0,2,3,4,5,9,20,29,37] hc ?_ ?_|refine rC ?_ ?_<;>intro AA<;>try(cases AA;done))
    ·exact AA
    ·have hk2:k<sup.length:=by exact eV
     rw[PF l sup hk2,if_pos AA]at hg
     rw[←hg,if_pos (by decide)]at hf
     exact AH hc [.tmp 2] rfl (.inl rfl) (by simp) (by rw[←hf];first|exact eR|refine Ax ?_)
    ·exact eV
    ·rename_i hge
     have hk2:k<sup.length:=by exact eV
     rw[PF l sup hk2,if_neg (Int.not_lt.2 hge),if_pos AA]at hg
     rw[←hg,if_pos (by decide)]at hf
     exact AH hc [.tmp 2] rfl (.inl rfl) (by simp) (by rw[←hf];first|exact eR|refine Ax ?_)
    ·exact eV
    ·rename_i hge
     have hk2:k<sup.length:=by exact eV
     rw[PF l sup hk2,if_neg (Int.not_lt.2 hge),if_neg (by rw[AA];simp)]at hg
     refine⟨⟨k+1,by omega,hg⟩,by simp only;omega,AC [] rfl rfl ?_ ?_⟩
     ·first|exact eN|refine eM ?_
     ·first|exact eN|refine eM ?_
    ·exact eV
    ·have hk2:sup.drop k=[]:=List.drop_eq_nil_of_le (by exact eV)
     rw[hk2]at hg
     rw[←hg,if_neg (by simp[Q1])]at hf
     refine⟨⟨i+1,by omega,hf⟩,by simp only;omega,AC [] rfl rfl ?_ ?_⟩
     ·first|exact eN|refine eM ?_
     ·first|exact eN|refine eM ?_
  ·have hk2:l.drop i=[]:=List.drop_eq_nil_of_le (by exact eV)
   rw[hk2]at hf
   exact AH hc [.tmp 2] rfl (.inl rfl) (by simp) (by rw[←hf];first|exact eR|refine Ax ?_;rfl)
end
/- Functions of grammarlabref03: Names, placed. -/
section
attribute [local go_sem] GH Sk Dj Mf
theorem EE {α β:Type} (g:β→α→β) (l:List α) (d:α) (t:β) {i:Nat} (hi:i<l.length):(l.take (i+1)).foldl g t=g ((l.take i).foldl g t) (l.getD i d):=by
 rw[Ab l d hi,List.foldl_append];rfl
theorem KY (l:List ByteArray) (s:ByteArray):(Dk l s).length≤l.length+1:=by
 unfold Dk
 split
 ·omega
 ·have:=A1C (fun x=>GN x s) l
  have h2:qO l s≤l.length:=this
  simp only[List.length_append,List.length_take,List.length_drop,List.length_singleton]
  omega
def AU (l:List AI):List ByteArray:=l.foldl (fun o x=>Dk o x.1) []
theorem Ek (l:List AI) (k:Nat):(AU (l.take k)).length≤k:=by
 have key:∀(l:List AI) (o:List ByteArray),(l.foldl (fun o x=>Dk o x.1) o).length≤o.length+l.length:=by
  intro l
  induction l with
  | nil=>intro o;simp
  | cons x l ih =>
   intro o
   have h1:=ih (Dk o x.1)
   have h2:=KY o x.1
   simp only[List.foldl_cons,List.length_cons]
   omega
 have h1:=key (l.take k) []
 have h2:=List.length_take_le k l
 unfold AU
 simp only[List.length_nil]at h1
 omega
def JS:Ak:={ ins:=[EI],pre:=fun(l,_)=>List.length l≤100000,out:=fun(l,_)=>[.p Bj (AU l)] }
attribute [local go_sem] JS
theorem VA:Ao Tryz.prog 134 JS:=by
 refine AX Tryz.func134 (by kernel_rfl) rfl Tryz.ntmps134 (by decide) (by kernel_rfl) (AJ [(174,Mf)]) (AF PD AL) ?_
 rintro w0 O0 ⟨l,u⟩ hc-hl
 have hl:l.length≤100000:=hl
 simp only[JS,AN]
 repeat'(first|exact trivial|refine eS rfl ?_|refine AB ?_|refine rX [0,2,3,4,8] hc ?_ ?_|refine rC ?_ ?_<;>intro AA<;>try(cases AA;done))
 refine AK (ι:={k:Nat//k≤l.length}) (fun k=>⟨[(0,.p EI l),(3,.p Bj (AU (l.take k.1))),(4,.p (.int .i64) (k.1:Int))],[]⟩) (fun k=>l.length-k.1) ⟨0,Nat.zero_le _⟩ (AC [] rfl rfl ?_ ?_) (fun k=>?_)
 ·first|exact eN|refine eM ?_
 ·first|exact eN|refine eM ?_
  rfl
 ·obtain⟨k,hk⟩:=k
  have hn:=Ek l k
  have hs:=fun h:k<l.length=>EE (fun(o:List ByteArray) (x:AI)=>Dk o x.1) l d0 [] h
  simp only
  repeat'(first|exact trivial|refine eS rfl ?_|refine AB ?_|refine rX [0,2,3,4,8] hc ?_ ?_|refine rC ?_ ?_<;>intro AA<;>try(cases AA;done))
  ·exact⟨AA,by omega⟩
  ·exact eV
  ·have hk2:k<l.length:=by exact eV
   have e:=hs hk2
   refine⟨⟨k+1,by omega⟩,by simp only;omega,AC [] rfl rfl ?_ ?_⟩
   ·first|exact eN|refine eM ?_
   ·simp only
    have e:AU (l.take (k+1))=Dk (AU (l.take k)) (l.getD k d0).1:=e
    rw[e]
    first|exact eN|refine eM ?_
  ·have hk2:l.take k=l:=List.take_of_length_le (by exact eV)
   rw[hk2]
   exact AH hc [.tmp 2] rfl (.inl rfl) (by simp) (by first|exact eR|refine Ax ?_)
def Hl (out:List ByteArray) (s:Bool×ByteArray) (x:AI):Bool×ByteArray :=
 if (Aa out x.1||!HB x out)=true then s else (true,if (!s.1||GN x.1 s.2)=true then x.1 else s.2)
def HC (d:List AI) (out:List ByteArray):Bool×ByteArray:=d.foldl (Hl out) (false,ByteArray.empty)
def Hm (d:List AI):Nat→List ByteArray→List ByteArray
 | 0,out=>out
 | n+1,out=>if (HC d out).1=true then Hm d n (out++[(HC d out).2]) else out
def BR (d:List AI):List ByteArray:=Hm d d.length []
def HD (d:List AI) (out:List ByteArray):Nat:=d.countP fun x=>!Aa out x.1
theorem El (s:ByteArray):Am s s=true:=by unfold Am;simp
theorem Mh (out:List ByteArray) (s x:ByteArray):Aa (out++[s]) x=(Aa out x||Am s x):=by
 unfold Aa
 simp[List.any_append]
theorem oY (d:List AI) (out:List ByteArray) (h:(HC d out).1=true):∃x∈d,x.1=(HC d out).2∧Aa out x.1=false:=by
 have key:∀(l:List AI) (s:Bool×ByteArray),(∀x∈l,x∈d)→(s.1=true→∃x∈d,x.1=s.2∧Aa out x.1=false)→(l.foldl (Hl out) s).1=true →
   ∃x∈d,x.1=(l.foldl (Hl out) s).2∧Aa out x.1=false:=by
  intro l
  induction l with
  | nil=>intro s _ hs h;exact hs h
  | cons y l ih =>
   intro s hl hs h
   rw[List.foldl_cons]at h ⊢
   refine ih _ (fun x hx=>hl x (by simp[hx])) (fun hp=>?_) h
   unfold Hl at hp ⊢
   split
   ·rename_i hc
    rw[if_pos hc]at hp
    exact hs hp
   ·rename_i hc
    simp only
    have hy:Aa out y.1=false:=by
     cases hh:Aa out y.1 with
     | false=>rfl
     | true=>rw[hh]at hc;simp at hc
    split
    ·exact⟨y,hl y (by simp),rfl,hy⟩
    ·rename_i hc2
     have:s.1=true:=by
      cases hh:s.1 with
      | true=>rfl
      | false=>rw[hh]at hc2;simp at hc2
     exact hs this
 exact key d _ (fun _ h=>h) (fun h=>by cases h) h
theorem Yh {d:List AI} {out:List ByteArray} (h:(HC d out).1=true):HD d (out++[(HC d out).2])<HD d out:=by
 obtain⟨x,hx,h1,h2⟩:=oY d out h
 generalize (HC d out).2=s at *
 unfold HD
 have key:∀l:List AI,(l.countP fun y=>!Aa (out++[s]) y.1)≤l.countP fun y=>!Aa out y.1:=by
  intro l
  refine List.countP_mono_left fun y _ hy=>?_
  rw[Mh]at hy
  cases hh:Aa out y.1 with
  | false=>rfl
  | true=>rw[hh]at hy;simp at hy
 obtain⟨l1,l2,rfl⟩:=List.append_of_mem hx
 rw[List.countP_append,List.countP_append,List.countP_cons,List.countP_cons]
 have k1:=key l1
 have k2:=key l2
 have e1:Aa (out++[s]) x.1=true:=by rw[Mh,h1,El,Bool.or_true]
 rw[e1,h2]
 simp only[Bool.not_true,Bool.not_false,if_true]
 simp only[Bool.false_eq_true,if_false]
 omega
def RM:Ak:={ ins:=[EI],pre:=fun(l,_)=>List.length l≤100000,out:=fun(l,_)=>[.p Bj (BR l)] }
theorem oZ:Ao Tryz.prog 181 RM:=by
 refine AX Tryz.func181 (by kernel_rfl) rfl Tryz.ntmps181 (by decide) (by kernel_rfl) (AJ [(183,Dj),(207,Sk)]) (AF F5 (AF t4 AL)) ?_
 rintro w0 O0 ⟨d,u⟩ hc-hd
 have hd:d.length≤100000:=hd
 simp only[RM,AN]
 repeat'(first|exact trivial|refine eS rfl ?_|refine AB ?_|refine rX [0,2,3,4,5,6,7,11,29,40,46] hc ?_ ?_|refine rC ?_ ?_<;>intro AA<;>try(cases AA;done))
 refine AK (ι:={x:Nat×List ByteArray×Bool//x.1+x.2.1.length≤d.length∧(x.2.2=true→HD d x.2.1≤x.1∧Hm d x.1 x.2.1=BR d)∧(x.2.2=false→x.2.1=BR d)}) (fun x=>⟨[(0,.p EI d),(3,.sr 50 T9 0 x.1.2.1.length),(4,.p .bool x.1.2.2)],[(50,.arr 9 T9 x.1.2.1)]⟩) (fun x=>(if x.1.2.2=true then x.1.1+1 else 0)) ⟨(d.length,[],true),by simp,fun _=>⟨List.countP_le_length,rfl⟩,fun h=>by cases h⟩ (AC [(50,.nil)] rfl rfl ?_ ?_) (fun x=>?_)
 ·first|exact eN|refine eM ?_
 ·first|exact eN|refine eM ?_
 ·obtain⟨⟨n,out,more⟩,hlen,hm1,hm2⟩:=x
  simp only at hlen hm1 hm2
  simp only
  repeat'(first|exact trivial|refine eS rfl ?_|refine AB ?_|refine rX [0,2,3,4,5,6,7,11,29,40,46] hc ?_ ?_|refine rC ?_ ?_<;>intro AA<;>try(cases AA;done))
  ·subst AA
   obtain⟨hu,hp⟩:=hm1 rfl
   have hz:({ data:=#[] }:ByteArray).size≤AP:=by decide
   rw[if_pos hz]
   refine AK (ι:={y:Nat×Bool×ByteArray//y.1≤d.length∧(d.take y.1).foldl (Hl out) (false,ByteArray.empty)=y.2}) (fun y=>⟨[(0,.p EI d),(3,.sr 50 T9 0 out.length),(4,.p .bool y.1.2.1),(5,.p T9 y.1.2.2),(6,.p (.int .i64) (y.1.1:Int))],[(50,.arr 9 T9 out)]⟩) (fun y=>d.length-y.1.1) ⟨(0,false,ByteArray.empty),by simp,rfl⟩ (AC [(50,.nm 50)] rfl rfl ?_ ?_) (fun y=>?_)
   ·first|exact eN|refine eM ?_
   ·first|exact eN|refine eM ?_
    rfl
   ·obtain⟨⟨k,mo,nx⟩,hk,hfold⟩:=y
    simp only at hk hfold
    have hstep:∀h:k<d.length,(d.take (k+1)).foldl (Hl out) (false,ByteArray.empty)=Hl out (mo,nx) (d.getD k d0):=fun h=>by
     rw[EE (Hl out) d d0 _ h,hfold]
    simp only
    repeat'(first|exact trivial|refine eS rfl ?_|refine AB ?_|refine rX [0,2,3,4,5,6,7,11,29,40,46] hc ?_ ?_|refine rC ?_ ?_<;>intro AA<;>try(cases AA;done))
    ·exact⟨AA,fun _=>AA⟩
    ·exact eV
    ·have hk2:k<d.length:=by exact eV
     refine⟨⟨(k+1,mo,nx),by simp only;omega,?_⟩,by simp only;omega,AC [(50,.nm 50)] rfl rfl ?_ ?_⟩
     ·simp only
      rw[hstep hk2]
      unfold Hl
      rw[if_pos]
      rw[Bool.or_eq_true,Bool.not_eq_true']
      exact AA
     ·first|exact eN|refine eM ?_
     ·first|exact eN|refine eM ?_
    ·exact fun _=>by assumption
    ·assumption
    ·exact eV
    ·rename_i hc2
     have hk2:k<d.length:=by exact eV
     refine⟨⟨(k+1,true,(d.getD k d0).1),by simp only;omega,?_⟩,by simp only;omega,AC [(50,.nm 50)] rfl rfl ?_ ?_⟩
     ·simp only
      rw[hstep hk2]
      unfold Hl
      rw[if_neg (by rw[hc2.1,hc2.2];simp),if_pos (by rw[Bool.or_eq_true,Bool.not_eq_true'];exact AA)]
     ·first|exact eN|refine eM ?_
     ·first|exact eN|refine eM ?_
    ·exact eV
    ·rename_i hc2
     have hk2:k<d.length:=by exact eV
     refine⟨⟨(k+1,true,nx),by simp only;omega,?_⟩,by simp only;omega,AC [(50,.nm 50)] rfl rfl ?_ ?_⟩
     ·simp only
      rw[hstep hk2]
      unfold Hl
      rw[if_neg (by rw[hc2.1,hc2.2];simp),if_neg (by rw[Bool.or_eq_true,Bool.not_eq_true'];rintro (h|h)<;>simp_all)]
     ·first|exact eN|refine eM ?_
     ·first|exact eN|refine eM ?_
    ·simp only[AP]
     dsimp only[Ty.den]at *
     omega
    ·subst AA
     have hkd:d.take k=d:=List.take_of_length_le (by exact eV)
     rw[hkd]at hfold
     have hpk:HC d out=(true,nx):=hfold
     have hlt:=Yh (d:=d) (out:=out) (by rw[hpk])
     rw[hpk]at hlt
     obtain⟨n',rfl⟩:∃n',n=n'+1:=⟨n-1,by omega⟩
     have hp2:Hm d n' (out++[nx])=BR d:=by
      rw[←hp]
      show _=if (HC d out).1=true then Hm d n' (out++[(HC d out).2]) else out
      rw[hpk,if_pos rfl]
     have hlt:HD d (out++[nx])<HD d out:=hlt
     have hun:HD d (out++[nx])≤n':=by omega
     refine⟨⟨(n',out++[nx],true),by simp only[List.length_append,List.length_singleton];omega,fun _=>⟨hun,hp2⟩,fun h=>by cases h⟩,by simp,AC [(50,.nm 50)] rfl rfl ?_ ?_⟩
     ·first|exact eN|refine eM ?_
     ·first|exact eN|refine eM ?_
    ·subst AA
     have hkd:d.take k=d:=List.take_of_length_le (by exact eV)
     rw[hkd]at hfold
     have hpk:HC d out=(false,nx):=hfold
     have hp2:out=BR d:=by
      rw[←hp]
      cases n with
      | zero=>rfl
      | succ n =>
       show _=if (HC d out).1=true then Hm d n (out++[(HC d out).2]) else out
       rw[hpk,if_neg (by simp)]
     refine⟨⟨(n,out,false),hlen,(fun h=>by cases h),fun _=>hp2⟩,by simp,AC [(50,.nm 50)] rfl rfl ?_ ?_⟩
     ·first|exact eN|refine eM ?_
     ·first|exact eN|refine eM ?_
  ·subst AA
   have hout:=hm2 rfl
   rw[hout]
   refine Gb [50] ?_
   exact AH hc [.tmp 2] rfl (.inl rfl) (by simp) (by first|exact eR|refine Ax ?_)
end
/- Functions of grammarlabref03: Check. -/
section
attribute [local go_sem] Sj Sl N9 RM
def HE (d:List AI):Nat:=d.countP fun x=>x.2.1.length==0
theorem Yi (d:List AI) {k:Nat} (h:k<d.length):HE (d.take (k+1))=HE (d.take k)+if ((d.getD k d0).2.1.length==0)=true then 1 else 0:=by
 unfold HE
 rw[Ab d d0 h,List.countP_append,List.countP_cons,List.countP_nil]
 omega
theorem o4 (d:List AI):HE d≤d.length:=List.countP_le_length
def BG (d:List AI):Int :=
 if ER d≠0 then ER d else if DR d≠0 then DR d else if JR d≠0 then JR d else if HE d≠1 then 1 else if (BR d).length<d.length then 6 else 0
theorem QW {d:List AI} (h:ER d=0):d.length≤256:=by
 unfold ER at h
 split at h
 ·cases h
 ·omega
def OA:Ak:={ ins:=[EI],pre:=fun _=>True,out:=fun(l,_)=>[.p YO (BG l)] }
attribute [local go_sem] OA
theorem o5:Ao Tryz.prog 133 OA:=by
 refine AX Tryz.func133 (by kernel_rfl) rfl Tryz.ntmps133 (by decide) (by kernel_rfl) (AJ [(178,Sj),(179,Sl),(180,N9),(181,RM)]) (AF tZ (AF t5 (AF oX (AF oZ AL)))) ?_
 rintro w0 O0 ⟨d,u⟩ hc - -
 simp only[OA,AN]
 repeat'(first|exact trivial|refine eS rfl ?_|refine AB ?_|refine rX [0,2,3,4,5,6,7,11,16,21,26,35,39,45] hc ?_ ?_|refine rC ?_ ?_<;>intro AA<;>try(cases AA;done))
 ·have h1:BG d=ER d:=by unfold BG;rw[if_pos AA]
  exact AH hc [.tmp 2] rfl (.inl rfl) (by simp) (by rw[h1];first|exact eR|refine Ax ?_)
 ·rename_i hs
  have hs:ER d=0:=by simpa using hs
  have h1:BG d=DR d:=by unfold BG;rw[if_neg (by rw[hs];simp),if_pos AA]
  exact AH hc [.tmp 2] rfl (.inl rfl) (by simp) (by rw[h1];first|exact eR|refine Ax ?_)
 ·rename_i hs hn
  have hs:ER d=0:=by simpa using hs
  have hn:DR d=0:=by simpa using hn
  have h1:BG d=JR d:=by unfold BG;rw[if_neg (by rw[hs];simp),if_neg (by rw[hn];simp),if_pos AA]
  exact AH hc [.tmp 2] rfl (.inl rfl) (by simp) (by rw[h1];first|exact eR|refine Ax ?_)
 ·rename_i hs hn
  have hs:ER d=0:=by simpa using hs
  have hn:DR d=0:=by simpa using hn
  have hu:JR d=0:=by simpa using AA
  have hd:=QW hs
  have h1:BG d=if HE d≠1 then 1 else if (BR d).length<d.length then 6 else 0:=by
   unfold BG;rw[if_neg (by rw[hs];simp),if_neg (by rw[hn];simp),if_neg (by rw[hu];simp)]
  refine AK (ι:={k:Nat//k≤d.length}) (fun k=>⟨[(0,.p EI d),(6,.p (.int .i64) (HE (d.take k.1):Int)),(7,.p (.int .i64) (k.1:Int))],[]⟩) (fun k=>d.length-k.1) ⟨0,Nat.zero_le _⟩ (AC [] rfl rfl ?_ ?_) (fun k=>?_)
  ·first|exact eN|refine eM ?_
  ·first|exact eN|refine eM ?_
   rfl
  ·obtain⟨k,hk⟩:=k
   have hr:=o4 (d.take k)
   have hr2:=List.length_take_le k d
   have hsu:=fun h:k<d.length=>Yi d h
   simp only
   repeat'(first|exact trivial|refine eS rfl ?_|refine AB ?_|refine rX [0,2,3,4,5,6,7,11,16,21,26,35,39,45] hc ?_ ?_|refine rC ?_ ?_<;>intro AA<;>try(cases AA;done))
   ·exact AA
   ·exact eV
   ·exact eV
   ·have hk2:k<d.length:=by exact eV
    have e:=hsu hk2
    rw[if_pos (by rw[beq_iff_eq];exact Int.ofNat_eq_zero.1 AA)]at e
    refine⟨⟨k+1,by omega⟩,by simp only;omega,AC [] rfl rfl ?_ ?_⟩
    ·first|exact eN|refine eM ?_
    ·simp only[e]
     first|exact eN|refine eM ?_
   ·exact eV
   ·have hk2:k<d.length:=by exact eV
    have e:=hsu hk2
    rw[if_neg (by rw[beq_iff_eq];exact fun h=>AA (Int.ofNat_eq_zero.2 h))]at e
    refine⟨⟨k+1,by omega⟩,by simp only;omega,AC [] rfl rfl ?_ ?_⟩
    ·first|exact eN|refine eM ?_
    ·simp only[e]
     first|exact eN|refine eM ?_
   ·have hk2:d.take k=d:=List.take_of_length_le (by exact eV)
    rw[hk2]at AA
    rw[if_pos (fun h=>AA (by rw[h];rfl))]at h1
    exact AH hc [.tmp 2] rfl (.inl rfl) (by simp) (by rw[h1];first|exact eR|refine Ax ?_)
   ·show d.length≤100000
    omega
   ·rename_i hro
    have hk2:d.take k=d:=List.take_of_length_le (by exact eV)
    rw[hk2]at hro
    have hro:(HE d:Int)=1:=by simpa using hro
    rw[if_neg (by omega),if_pos (Int.ofNat_lt.1 AA)]at h1
    exact AH hc [.tmp 2] rfl (.inl rfl) (by simp) (by rw[h1];first|exact eR|refine Ax ?_)
   ·rename_i hro
    have hk2:d.take k=d:=List.take_of_length_le (by exact eV)
    rw[hk2]at hro
    have hro:(HE d:Int)=1:=by simpa using hro
    rw[if_neg (by omega),if_neg (fun h=>absurd (Int.ofNat_le.1 AA) (Nat.not_le.2 h))]at h1
    exact AH hc [.tmp 2] rfl (.inl rfl) (by simp) (by rw[h1];first|exact eR|refine Ax ?_)
end
/- Functions of grammarlabref03: Above. -/
section
attribute [local go_sem] GH Dj Mf
def KZ (o:List ByteArray) (s:ByteArray):List ByteArray:=if Aa o s=true then o else o++[s]
def Ka (d:List AI) (s:ByteArray):List ByteArray:=(d.getD (A9 d s).toNat d0).2.1
def JT (d:List AI):Nat→Nat→List ByteArray→List ByteArray
 | 0,_,o=>o
 | n+1,i,o=>if i<o.length then JT d n (i+1) ((Ka d (o.getD i ByteArray.empty)).foldl KZ o) else o
def Kb (l:List ByteArray):List ByteArray:=l.foldl Dk []
theorem VB (l:List ByteArray):(Kb l).length≤l.length:=by
 have key:∀(l o:List ByteArray),(l.foldl Dk o).length≤o.length+l.length:=by
  intro l
  induction l with
  | nil=>intro o;simp
  | cons x l ih =>
   intro o
   have h1:=ih (Dk o x)
   have h2:=KY o x
   simp only[List.foldl_cons,List.length_cons]
   omega
 have:=key l []
 simpa[Kb] using this
def Mi (d:List AI) (s:ByteArray):List ByteArray:=if A9 d s<0 then [] else Kb (JT d d.length 0 [s])
def Sm (d:List AI):Prop:=∀x∈d,∀s∈x.2.1,0≤A9 d s
theorem VC (s:ByteArray):∀(l:List AI) (k:Nat),CR s k l=-1∨((k:Int)≤CR s k l∧CR s k l<(k:Int)+l.length∧Am (l.getD ((CR s k l).toNat-k) d0).1 s=true)
 | [],_=>.inl rfl
 | x :: l,k=>by
  simp only[CR]
  split
  ·rename_i h
   right
   refine⟨by omega,by simp only[List.length_cons];omega,?_⟩
   have:((k:Int).toNat-k)=0:=by omega
   rw[this]
   exact h
  ·rcases VC s l (k+1) with h|⟨h1,h2,h3⟩
   ·exact .inl h
   ·right
    refine⟨by omega,by simp only[List.length_cons];omega,?_⟩
    have:((CR s (k+1) l).toNat-k)=((CR s (k+1) l).toNat-(k+1))+1:=by omega
    rw[this]
    exact h3
theorem DH (d:List AI) (s:ByteArray):A9 d s<0∨(0≤A9 d s∧A9 d s<(d.length:Int)∧Am (d.getD (A9 d s).toNat d0).1 s=true):=by
 rcases VC s d 0 with h|⟨h1,h2,h3⟩
 ·left;show CR s 0 d<0;omega
 ·have h2:A9 d s<((0:Nat):Int)+d.length:=h2
  exact .inr ⟨h1,by omega,h3⟩
theorem Ih {a b:ByteArray}:Am a b=true↔a.toList=b.toList:=by unfold Am;simp
theorem Em {a b:ByteArray} (h:Am a b=true):Am b a=true:=Ih.2 (Ih.1 h).symm
theorem Bx {a b c:ByteArray} (h:Am a b=true) (g:Am b c=true):Am a c=true:=Ih.2 ((Ih.1 h).trans (Ih.1 g))
structure XZ (d:List AI) (o:List ByteArray):Prop where
 decl:∀s∈o,0≤A9 d s
 nd:o.Pairwise fun a b=>Am a b=false
theorem JU (d:List AI):∀ {o:List ByteArray},XZ d o→(o.map fun s=>(A9 d s).toNat).Nodup
 | [],_=>by simp
 | s :: o,h=>by
  rw[List.map_cons,List.nodup_cons]
  have hnd:=List.pairwise_cons.1 h.nd
  refine⟨fun hm=>?_,JU d ⟨fun x hx=>h.decl x (by simp[hx]),hnd.2⟩⟩
  obtain⟨x,hx,e⟩:=List.mem_map.1 hm
  have h1:=h.decl s (by simp)
  have h2:=h.decl x (by simp[hx])
  rcases DH d s with g|⟨_,_,g1⟩
  ·omega
  ·rcases DH d x with g|⟨_,_,g2⟩
   ·omega
   ·rw[e]at g2
    have:=hnd.1 x hx
    rw[Bx (Em g1) g2]at this
    cases this
theorem XZ.len {d:List AI} {o:List ByteArray} (h:XZ d o):o.length≤d.length:=by
 have:=EC d.length (o.map fun s=>(A9 d s).toNat) (JU d h) (fun j hj=>by
  obtain⟨s,hs,rfl⟩:=List.mem_map.1 hj
  have h1:=h.decl s hs
  rcases DH d s with g|⟨_,g,_⟩<;>omega)
 simpa using this
theorem OB {o:List ByteArray} {s:ByteArray} (h:Aa o s=false):∀x∈o,Am x s=false:=fun x hx=>by
 cases hh:Am x s with
 | false=>rfl
 | true=>exact absurd h (by rw[show Aa o s=true from List.any_eq_true.2 ⟨x,hx,hh⟩];simp)
theorem mE {d:List AI} {o:List ByteArray} (h:XZ d o) {s:ByteArray} (hs:0≤A9 d s):XZ d (KZ o s):=by
 unfold KZ
 split
 ·exact h
 ·rename_i hc
  have hc:Aa o s=false:=by simpa using hc
  refine⟨fun x hx=>?_,?_⟩
  ·rcases List.mem_append.1 hx with hx|hx
   ·exact h.decl x hx
   ·have:x=s:=by simpa using hx
    rw[this];exact hs
  ·rw[List.pairwise_append]
   refine⟨h.nd,by simp,fun a ha b hb=>?_⟩
   have:b=s:=by simpa using hb
   rw[this]
   exact OB hc a ha
theorem Yj {d:List AI}:∀ {l o:List ByteArray},(∀s∈l,0≤A9 d s)→XZ d o→XZ d (l.foldl KZ o)∧o.length≤(l.foldl KZ o).length
 | [],o,_,h=>⟨h,Nat.le_refl _⟩
 | s :: l,o,hl,h=>by
  obtain⟨g1,g2⟩:=Yj (l:=l) (fun x hx=>hl x (by simp[hx])) (mE h (hl s (by simp)))
  refine⟨g1,Nat.le_trans ?_ g2⟩
  unfold KZ
  split<;>simp
theorem Yk {d:List AI} (hd:Sm d) (s:ByteArray):∀x∈Ka d s,0≤A9 d x:=by
 intro x hx
 unfold Ka at hx
 by_cases h:(A9 d s).toNat<d.length
 ·exact hd _ (AD d d0 h) x hx
 ·rw[List.getD_eq_getElem?_getD,List.getElem?_eq_none (by omega)]at hx
  cases hx
def Wo:Ak:={ ins:=[EI,T9],pre:=fun(d,_,_)=>Sm d∧List.length d≤256,out:=fun(d,s,_)=>[.p Bj (Mi d s)] }
theorem t6:Ao Tryz.prog 209 Wo:=by
 refine AX Tryz.func209 (by kernel_rfl) rfl Tryz.ntmps209 (by decide) (by kernel_rfl) (AJ [(206,GH),(183,Dj),(174,Mf)]) (AF KV (AF F5 (AF PD AL))) ?_
 rintro w0 O0 ⟨d,s,u⟩ hc ⟨⟨hdl,hall⟩,-⟩ ⟨hsup,hd⟩
 have hd:d.length≤256:=hd
 simp only[Wo,AN]
 repeat'(first|exact trivial|refine eS rfl ?_|refine AB ?_|refine rX [0,1,4,5,6,7,8,9,10,14,20,36,45,56] hc ?_ ?_|refine rC ?_ ?_<;>intro AA<;>try(cases AA;done))
 ·have h1:Mi d s=[]:=by unfold Mi;rw[if_pos AA]
  exact AH hc [.tmp 4] rfl (.inl rfl) (by simp) (by rw[h1];first|exact eR|refine Ax ?_)
 ·have h1:Mi d s=Kb (JT d d.length 0 [s]):=by unfold Mi;rw[if_neg (Int.not_lt.2 AA)]
  have hA0:XZ d [s]:=⟨fun x hx=>by
   have:x=s:=by simpa using hx
   rw[this];exact AA,by simp⟩
  refine AK (ι:={x:Nat×List ByteArray//x.1≤x.2.length∧XZ d x.2∧JT d (d.length-x.1) x.1 x.2=JT d d.length 0 [s]}) (fun x=>⟨[(0,.p EI d),(1,.p T9 s),(5,.sr 16 T9 0 x.1.2.length),(6,.p (.int .i64) (x.1.1:Int))],[(16,.arr 9 T9 x.1.2)]⟩) (fun x=>d.length-x.1.1) ⟨(0,[s]),by simp,hA0,rfl⟩ (AC [(16,.nm 16)] rfl rfl ?_ ?_) (fun x=>?_)
  ·first|exact eN|refine eM ?_
  ·first|exact eN|refine eM ?_
  ·obtain⟨⟨i,o⟩,hi,hA,hg⟩:=x
   simp only at hi hA hg
   have hol:=hA.len
   simp only
   repeat'(first|exact trivial|refine eS rfl ?_|refine AB ?_|refine rX [0,1,4,5,6,7,8,9,10,14,20,36,45,56] hc ?_ ?_|refine rC ?_ ?_<;>intro AA<;>try(cases AA;done))
   ·have hi2:i<o.length:=by exact eV
    have hde:=hA.decl _ (AD o ByteArray.empty hi2)
    refine⟨AA,hde,?_⟩
    rcases DH d (o.getD i ByteArray.empty) with g|⟨_,g,_⟩
    ·omega
    ·exact g
   ·have hi2:i<o.length:=by exact eV
    have hde:=hA.decl _ (AD o ByteArray.empty hi2)
    have hsd:=Yk hsup (o.getD i ByteArray.empty)
    have hnext:JT d (d.length-(i+1)) (i+1) ((Ka d (o.getD i ByteArray.empty)).foldl KZ o)=JT d d.length 0 [s]:=by
     rw[←hg]
     obtain⟨m,hm⟩:∃m,d.length-i=m+1:=⟨d.length-i-1,by omega⟩
     have hm2:d.length-(i+1)=m:=by omega
     rw[hm,hm2]
     show _=if i<o.length then JT d m (i+1) ((Ka d (o.getD i ByteArray.empty)).foldl KZ o) else o
     rw[if_pos hi2]
    have hsl:(Ka d (o.getD i ByteArray.empty)).length≤AP:=by
     rcases DH d (o.getD i ByteArray.empty) with g|⟨_,g,_⟩
     ·omega
     ·exact(hall _ (AD d d0 (k:=(A9 d (o.getD i ByteArray.empty)).toNat) (by omega))).2.1.1
    have hsu:(List.getD d (A9 d (o.getD i ByteArray.empty)).toNat (ByteArray.empty,[],[])).2.1=Ka d (o.getD i ByteArray.empty):=rfl
    rw[hsu]
    generalize Ka d (o.getD i ByteArray.empty)=sup at *
    simp only[AP]at hsl
    refine AK (ι:={k:Nat//k≤sup.length}) (fun k=>⟨[(0,.p EI d),(1,.p T9 s),(5,.sr 16 T9 0 ((sup.take k.1).foldl KZ o).length),(6,.p (.int .i64) (i:Int)),(7,.p Bj sup),(8,.p (.int .i64) (k.1:Int))],[(16,.arr 9 T9 ((sup.take k.1).foldl KZ o))]⟩) (fun k=>sup.length-k.1) ⟨0,Nat.zero_le _⟩ (AC [(16,.nm 16)] rfl rfl ?_ ?_) (fun k=>?_)
    ·first|exact eN|refine eM ?_
     rfl
    ·first|exact eN|refine eM ?_
     rfl
    ·obtain⟨k,hk⟩:=k
     have hok:=Yj (l:=sup.take k) (o:=o) (fun x hx=>hsd x (List.mem_of_mem_take hx)) hA
     have hok2:=hok.1.len
     have hstep:=fun h:k<sup.length=>EE KZ sup ByteArray.empty o h
     simp only
     generalize ho2:(sup.take k).foldl KZ o=o2 at *
     repeat'(first|exact trivial|refine eS rfl ?_|refine AB ?_|refine rX [0,1,4,5,6,7,8,9,10,14,20,36,45,56] hc ?_ ?_|refine rC ?_ ?_<;>intro AA<;>try(cases AA;done))
     ·exact AA
     ·refine⟨by exact eV,?_⟩
      simp only[AP]
      dsimp only[Ty.den]at *
      omega
     ·exact eV
     ·have hk2:k<sup.length:=by exact eV
      have e:=hstep hk2
      have e2:KZ o2 (sup.getD k ByteArray.empty)=o2++[sup.getD k ByteArray.empty]:=by unfold KZ;rw[if_neg (by rw[AA];simp)]
      rw[e2]at e
      refine⟨⟨k+1,by omega⟩,by simp only;omega,AC [(16,.nm 16)] rfl rfl ?_ ?_⟩
      ·simp only[e]
       first|exact eN|refine eM ?_
      ·simp only[e]
       first|exact eN|refine eM ?_
     ·exact eV
     ·have hk2:k<sup.length:=by exact eV
      have e:=hstep hk2
      have e2:KZ o2 (sup.getD k ByteArray.empty)=o2:=by unfold KZ;rw[if_pos AA]
      rw[e2]at e
      refine⟨⟨k+1,by omega⟩,by simp only;omega,AC [(16,.nm 16)] rfl rfl ?_ ?_⟩
      ·simp only[e]
       first|exact eN|refine eM ?_
      ·simp only[e]
       first|exact eN|refine eM ?_
     ·exact eV
     ·have hk2:sup.take k=sup:=List.take_of_length_le (by exact eV)
      rw[hk2]at ho2
      rw[ho2]at hnext
      have hok1:=hok.1
      have hokl:=hok.2
      refine⟨⟨(i+1,o2),by simp only;omega,hok1,hnext⟩,by simp only;omega,AC [(16,.nm 16)] rfl rfl ?_ ?_⟩
      ·first|exact eN|refine eM ?_
      ·first|exact eN|refine eM ?_
   ·have hoe:o=JT d d.length 0 [s]:=by
     rw[←hg]
     cases hm:d.length-i with
     | zero=>rfl
     | succ m =>
      show _=if i<o.length then _ else o
      rw[if_neg (by exact eV)]
    rw[←hoe]at h1
    refine AK (ι:={j:Nat//j≤o.length}) (fun j=>⟨[(0,.p EI d),(5,.sr 16 T9 0 o.length),(9,.p Bj ((o.take j.1).foldl Dk [])),(10,.p (.int .i64) (j.1:Int))],[(16,.arr 9 T9 o)]⟩) (fun j=>o.length-j.1) ⟨0,Nat.zero_le _⟩ (AC [(16,.nm 16)] rfl rfl ?_ ?_) (fun j=>?_)
    ·first|exact eN|refine eM ?_
    ·first|exact eN|refine eM ?_
     rfl
    ·obtain⟨j,hj⟩:=j
     have hsj:=fun h:j<o.length=>EE Dk o ByteArray.empty [] h
     simp only
     repeat'(first|exact trivial|refine eS rfl ?_|refine AB ?_|refine rX [0,1,4,5,6,7,8,9,10,14,20,36,45,56] hc ?_ ?_|refine rC ?_ ?_<;>intro AA<;>try(cases AA;done))
     ·refine⟨AA,?_⟩
      have:=VB (o.take j)
      have h3:=List.length_take_le j o
      unfold Kb at this
      dsimp only[Ty.den]at *
      omega
     ·exact eV
     ·have hj2:j<o.length:=by exact eV
      have e:=hsj hj2
      refine⟨⟨j+1,by omega⟩,by simp only;omega,AC [(16,.nm 16)] rfl rfl ?_ ?_⟩
      ·first|exact eN|refine eM ?_
      ·simp only[e]
       first|exact eN|refine eM ?_
     ·have hj2:o.take j=o:=List.take_of_length_le (by exact eV)
      rw[hj2]
      exact AH hc [.tmp 4] rfl (.inl rfl) (by simp) (by rw[h1];unfold Kb;first|exact eR|refine Ax ?_)
end
/- Functions of grammarlabref03: Below. -/
section
attribute [local go_sem] GH Dj Mf
def E5 (s:ByteArray) (o:List ByteArray) (x:AI):List ByteArray:=if (Aa x.2.1 s&&!Aa o x.1)=true then o++[x.1] else o
def DS (d:List AI):Nat→Nat→List ByteArray→List ByteArray
 | 0,_,o=>o
 | n+1,i,o=>if i<o.length then DS d n (i+1) (d.foldl (E5 (o.getD i ByteArray.empty)) o) else o
def DT (d:List AI) (s:ByteArray):List ByteArray:=if A9 d s<0 then [] else Kb (DS d d.length 0 [s])
theorem Sn (s:ByteArray):∀(l:List AI) (k:Nat) (x:AI),x∈l→Am x.1 s=true→0≤CR s k l
 | y :: l,k,x,hx,h=>by
  simp only[CR]
  split
  ·omega
  ·rename_i hc
   rcases List.mem_cons.1 hx with rfl|hx
   ·exact absurd h hc
   ·exact Sn s l (k+1) x hx h
theorem Eo {d:List AI} {x:AI} (hx:x∈d):0≤A9 d x.1:=Sn x.1 d 0 x hx (El _)
theorem A0v {d:List AI} {o:List ByteArray} (h:XZ d o) (s:ByteArray) {x:AI} (hx:x∈d):XZ d (E5 s o x):=by
 unfold E5
 split
 ·rename_i hc
  rw[Bool.and_eq_true,Bool.not_eq_true']at hc
  have:=mE h (Eo hx)
  unfold KZ at this
  rwa [if_neg (by rw[hc.2];simp)]at this
 ·exact h
theorem So {d:List AI} (s:ByteArray):∀ {l:List AI} {o:List ByteArray},(∀x∈l,x∈d)→XZ d o→XZ d (l.foldl (E5 s) o)∧o.length≤(l.foldl (E5 s) o).length
 | [],o,_,h=>⟨h,Nat.le_refl _⟩
 | x :: l,o,hl,h=>by
  obtain⟨g1,g2⟩:=So s (l:=l) (fun y hy=>hl y (by simp[hy])) (A0v h s (hl x (by simp)))
  refine⟨g1,Nat.le_trans ?_ g2⟩
  unfold E5
  split<;>simp
theorem PG (s:ByteArray) {i:Nat}:∀ {l:List AI} {o:List ByteArray},i<o.length→(l.foldl (E5 s) o).getD i ByteArray.empty=o.getD i ByteArray.empty
 | [],_,_=>rfl
 | x :: l,o,h=>by
  have h2:i<(E5 s o x).length∧(E5 s o x).getD i ByteArray.empty=o.getD i ByteArray.empty:=by
   unfold E5
   split
   ·refine⟨by rw[List.length_append];omega,?_⟩
    simp only[List.getD_eq_getElem?_getD]
    rw[List.getElem?_append_left h]
   ·exact⟨h,rfl⟩
  rw[List.foldl_cons,PG s h2.1,h2.2]
def Sp:Ak:={ ins:=[EI,T9],pre:=fun(d,_,_)=>List.length d≤256,out:=fun(d,s,_)=>[.p Bj (DT d s)] }
attribute [local go_sem] Sp
theorem t7:Ao Tryz.prog 182 Sp:=by
 refine AX Tryz.func182 (by kernel_rfl) rfl Tryz.ntmps182 (by decide) (by kernel_rfl) (AJ [(206,GH),(183,Dj),(174,Mf)]) (AF KV (AF F5 (AF PD AL))) ?_
 rintro w0 O0 ⟨d,s,u⟩ hc-hd
 have hd:d.length≤256:=hd
 simp only[Sp,AN]
 repeat'(first|exact trivial|refine eS rfl ?_|refine AB ?_|refine rX [0,1,4,5,6,7,8,9,13,19,25,47,59] hc ?_ ?_|refine rC ?_ ?_<;>intro AA<;>try(cases AA;done))
 ·have h1:DT d s=[]:=by unfold DT;rw[if_pos AA]
  exact AH hc [.tmp 4] rfl (.inl rfl) (by simp) (by rw[h1];first|exact eR|refine Ax ?_)
 ·have h1:DT d s=Kb (DS d d.length 0 [s]):=by unfold DT;rw[if_neg (Int.not_lt.2 AA)]
  have hA0:XZ d [s]:=⟨fun x hx=>by
   have:x=s:=by simpa using hx
   rw[this];exact AA,by simp⟩
  refine AK (ι:={x:Nat×List ByteArray//x.1≤x.2.length∧XZ d x.2∧DS d (d.length-x.1) x.1 x.2=DS d d.length 0 [s]}) (fun x=>⟨[(0,.p EI d),(5,.sr 15 T9 0 x.1.2.length),(6,.p (.int .i64) (x.1.1:Int))],[(15,.arr 9 T9 x.1.2)]⟩) (fun x=>d.length-x.1.1) ⟨(0,[s]),by simp,hA0,rfl⟩ (AC [(15,.nm 15)] rfl rfl ?_ ?_) (fun x=>?_)
  ·first|exact eN|refine eM ?_
  ·first|exact eN|refine eM ?_
  ·obtain⟨⟨i,o⟩,hi,hA,hg⟩:=x
   simp only at hi hA hg
   have hol:=hA.len
   simp only
   repeat'(first|exact trivial|refine eS rfl ?_|refine AB ?_|refine rX [0,1,4,5,6,7,8,9,13,19,25,47,59] hc ?_ ?_|refine rC ?_ ?_<;>intro AA<;>try(cases AA;done))
   ·have hi2:i<o.length:=by exact eV
    have hnext:DS d (d.length-(i+1)) (i+1) (d.foldl (E5 (o.getD i ByteArray.empty)) o)=DS d d.length 0 [s]:=by
     rw[←hg]
     obtain⟨m,hm⟩:∃m,d.length-i=m+1:=⟨d.length-i-1,by omega⟩
     have hm2:d.length-(i+1)=m:=by omega
     rw[hm,hm2]
     show _=if i<o.length then DS d m (i+1) (d.foldl (E5 (o.getD i ByteArray.empty)) o) else o
     rw[if_pos hi2]
    refine AK (ι:={k:Nat//k≤d.length}) (fun k=>⟨[(0,.p EI d),(5,.sr 15 T9 0 ((d.take k.1).foldl (E5 (o.getD i ByteArray.empty)) o).length),(6,.p (.int .i64) (i:Int)),(7,.p (.int .i64) (k.1:Int))],[(15,.arr 9 T9 ((d.take k.1).foldl (E5 (o.getD i ByteArray.empty)) o))]⟩) (fun k=>d.length-k.1) ⟨0,Nat.zero_le _⟩ (AC [(15,.nm 15)] rfl rfl ?_ ?_) (fun k=>?_)
    ·first|exact eN|refine eM ?_
     rfl
    ·first|exact eN|refine eM ?_
     rfl
    ·obtain⟨k,hk⟩:=k
     have hok:=So (o.getD i ByteArray.empty) (l:=d.take k) (o:=o) (fun x hx=>List.mem_of_mem_take hx) hA
     have hok2:=hok.1.len
     have hstep:=fun h:k<d.length=>EE (E5 (o.getD i ByteArray.empty)) d d0 o h
     have hpre:((d.take k).foldl (E5 (o.getD i ByteArray.empty)) o).getD i ByteArray.empty=o.getD i ByteArray.empty:=PG _ hi2
     simp only
     generalize ho2:(d.take k).foldl (E5 (o.getD i ByteArray.empty)) o=o2 at *
     repeat'(first|exact trivial|refine eS rfl ?_|refine AB ?_|refine rX [0,1,4,5,6,7,8,9,13,19,25,47,59] hc ?_ ?_|refine rC ?_ ?_<;>intro AA<;>try(cases AA;done))
     ·have hl:=hok.2
      refine⟨AA,?_,fun _=>AA⟩
      dsimp only[Ty.den]at *
      omega
     ·refine⟨by assumption,?_⟩
      simp only[AP]
      dsimp only[Ty.den]at *
      omega
     ·exact eV
     ·have hk2:k<d.length:=by exact eV
      have e:=hstep hk2
      rw[hpre]at AA
      have e2:E5 (o.getD i ByteArray.empty) o2 (d.getD k d0)=o2++[(d.getD k d0).1]:=by
       unfold E5;rw[if_pos (by rw[Bool.and_eq_true,Bool.not_eq_true'];exact AA)]
      rw[e2]at e
      refine⟨⟨k+1,by omega⟩,by simp only;omega,AC [(15,.nm 15)] rfl rfl ?_ ?_⟩
      ·simp only[e]
       first|exact eN|refine eM ?_
      ·simp only[e]
       first|exact eN|refine eM ?_
     ·exact eV
     ·have hk2:k<d.length:=by exact eV
      have e:=hstep hk2
      rw[hpre]at AA
      have e2:E5 (o.getD i ByteArray.empty) o2 (d.getD k d0)=o2:=by
       unfold E5
       rw[if_neg]
       rw[Bool.and_eq_true,Bool.not_eq_true']
       rintro⟨h1,h2⟩
       rw[AA h1]at h2
       cases h2
      rw[e2]at e
      refine⟨⟨k+1,by omega⟩,by simp only;omega,AC [(15,.nm 15)] rfl rfl ?_ ?_⟩
      ·simp only[e]
       first|exact eN|refine eM ?_
      ·simp only[e]
       first|exact eN|refine eM ?_
     ·exact eV
     ·have hk2:d.take k=d:=List.take_of_length_le (by exact eV)
      rw[hk2]at ho2
      rw[ho2]at hnext
      have hok1:=hok.1
      have hokl:=hok.2
      refine⟨⟨(i+1,o2),by simp only;omega,hok1,hnext⟩,by simp only;omega,AC [(15,.nm 15)] rfl rfl ?_ ?_⟩
      ·first|exact eN|refine eM ?_
      ·first|exact eN|refine eM ?_
   ·have hoe:o=DS d d.length 0 [s]:=by
     rw[←hg]
     cases hm:d.length-i with
     | zero=>rfl
     | succ m =>
      show _=if i<o.length then _ else o
      rw[if_neg (by exact eV)]
    rw[←hoe]at h1
    refine AK (ι:={j:Nat//j≤o.length}) (fun j=>⟨[(0,.p EI d),(5,.sr 15 T9 0 o.length),(8,.p Bj ((o.take j.1).foldl Dk [])),(9,.p (.int .i64) (j.1:Int))],[(15,.arr 9 T9 o)]⟩) (fun j=>o.length-j.1) ⟨0,Nat.zero_le _⟩ (AC [(15,.nm 15)] rfl rfl ?_ ?_) (fun j=>?_)
    ·first|exact eN|refine eM ?_
    ·first|exact eN|refine eM ?_
     rfl
    ·obtain⟨j,hj⟩:=j
     have hsj:=fun h:j<o.length=>EE Dk o ByteArray.empty [] h
     simp only
     repeat'(first|exact trivial|refine eS rfl ?_|refine AB ?_|refine rX [0,1,4,5,6,7,8,9,13,19,25,47,59] hc ?_ ?_|refine rC ?_ ?_<;>intro AA<;>try(cases AA;done))
     ·refine⟨AA,?_⟩
      have:=VB (o.take j)
      have h3:=List.length_take_le j o
      unfold Kb at this
      dsimp only[Ty.den]at *
      omega
     ·exact eV
     ·have hj2:j<o.length:=by exact eV
      have e:=hsj hj2
      refine⟨⟨j+1,by omega⟩,by simp only;omega,AC [(15,.nm 15)] rfl rfl ?_ ?_⟩
      ·first|exact eN|refine eM ?_
      ·simp only[e]
       first|exact eN|refine eM ?_
     ·have hj2:o.take j=o:=List.take_of_length_le (by exact eV)
      rw[hj2]
      exact AH hc [.tmp 4] rfl (.inl rfl) (by simp) (by rw[h1];unfold Kb;first|exact eR|refine Ax ?_)
end
/- Functions of grammarlabref03: declared, Maximal. -/
section
attribute [local go_sem] GH Mf Wo Dj
def Jr (d:List AI) (o:List ByteArray) (x:ByteArray):List ByteArray:=if 0≤A9 d x then Dk o x else o
def CL (d:List AI) (l:List ByteArray):List ByteArray:=l.foldl (Jr d) []
theorem IA (d:List AI) (l:List ByteArray):(CL d l).length≤l.length:=by
 have key:∀(l o:List ByteArray),(l.foldl (Jr d) o).length≤o.length+l.length:=by
  intro l
  induction l with
  | nil=>intro o;simp
  | cons x l ih =>
   intro o
   have h1:=ih (Jr d o x)
   have h2:(Jr d o x).length≤o.length+1:=by
    unfold Jr
    split
    ·exact KY o x
    ·omega
   simp only[List.foldl_cons,List.length_cons]
   omega
 have:=key l []
 simpa[CL] using this
def Lb:Ak:={ ins:=[EI,Bj],pre:=fun(_,l,_)=>List.length l≤100000,out:=fun(d,l,_)=>[.p Bj (CL d l)] }
attribute [local go_sem] Lb
theorem Yl:Ao Tryz.prog 208 Lb:=by
 refine AX Tryz.func208 (by kernel_rfl) rfl Tryz.ntmps208 (by decide) (by kernel_rfl) (AJ [(206,GH),(174,Mf)]) (AF KV (AF PD AL)) ?_
 rintro w0 O0 ⟨d,l,u⟩ hc-hl
 have hl:l.length≤100000:=hl
 simp only[Lb,AN]
 repeat'(first|exact trivial|refine eS rfl ?_|refine AB ?_|refine rX [0,1,4,5,6,10,19] hc ?_ ?_|refine rC ?_ ?_<;>intro AA<;>try(cases AA;done))
 refine AK (ι:={k:Nat//k≤l.length}) (fun k=>⟨[(0,.p EI d),(1,.p Bj l),(5,.p Bj (CL d (l.take k.1))),(6,.p (.int .i64) (k.1:Int))],[]⟩) (fun k=>l.length-k.1) ⟨0,Nat.zero_le _⟩ (AC [] rfl rfl ?_ ?_) (fun k=>?_)
 ·first|exact eN|refine eM ?_
 ·first|exact eN|refine eM ?_
  rfl
 ·obtain⟨k,hk⟩:=k
  have hn:=IA d (l.take k)
  have hn2:=List.length_take_le k l
  have hs:=fun h:k<l.length=>EE (Jr d) l ByteArray.empty [] h
  simp only
  repeat'(first|exact trivial|refine eS rfl ?_|refine AB ?_|refine rX [0,1,4,5,6,10,19] hc ?_ ?_|refine rC ?_ ?_<;>intro AA<;>try(cases AA;done))
  ·exact AA
  ·exact⟨by assumption,by omega⟩
  ·exact eV
  ·have hk2:k<l.length:=by exact eV
   have e:CL d (l.take (k+1))=Jr d (CL d (l.take k)) (l.getD k ByteArray.empty):=hs hk2
   unfold Jr at e
   rw[if_pos AA]at e
   refine⟨⟨k+1,by omega⟩,by simp only;omega,AC [] rfl rfl ?_ ?_⟩
   ·first|exact eN|refine eM ?_
   ·simp only[e]
    first|exact eN|refine eM ?_
  ·exact eV
  ·have hk2:k<l.length:=by exact eV
   have e:CL d (l.take (k+1))=Jr d (CL d (l.take k)) (l.getD k ByteArray.empty):=hs hk2
   unfold Jr at e
   rw[if_neg (Int.not_le.2 AA)]at e
   refine⟨⟨k+1,by omega⟩,by simp only;omega,AC [] rfl rfl ?_ ?_⟩
   ·first|exact eN|refine eM ?_
   ·simp only[e]
    first|exact eN|refine eM ?_
  ·have hk2:l.take k=l:=List.take_of_length_le (by exact eV)
   rw[hk2]
   exact AH hc [.tmp 4] rfl (.inl rfl) (by simp) (by first|exact eR|refine Ax ?_)
def t8 (d:List AI) (all:List ByteArray) (i:Nat) (k:Nat):Bool:=(k:Int)==(i:Int)||!Aa (Mi d (all.getD i ByteArray.empty)) (all.getD k ByteArray.empty)
def VD (d:List AI) (all:List ByteArray) (i n:Nat):Bool:=(List.range n).all (t8 d all i)
def Q2 (d:List AI) (all:List ByteArray) (n:Nat):List ByteArray:=((List.range n).filter fun i=>VD d all i all.length).map fun i=>all.getD i ByteArray.empty
def Bm (d:List AI) (l:List ByteArray):List ByteArray:=Q2 d (CL d l) (CL d l).length
theorem o6 (d:List AI) (all:List ByteArray) (n:Nat):Q2 d all (n+1)=Q2 d all n++if VD d all n all.length=true then [all.getD n ByteArray.empty] else []:=by
 unfold Q2
 rw[List.range_succ,List.filter_append,List.map_append]
 congr 1
 rw[List.filter_cons,List.filter_nil]
 split<;>rfl
theorem Ym (d:List AI) (all:List ByteArray) (n:Nat):(Q2 d all n).length≤n:=by
 unfold Q2
 rw[List.length_map]
 exact Nat.le_trans (List.length_filter_le _ _) (by simp)
theorem bP (d:List AI) (all:List ByteArray) (i n:Nat):VD d all i (n+1)=(VD d all i n&&t8 d all i n):=by
 unfold VD
 rw[List.range_succ,List.all_append]
 simp
def HF:Ak:={ ins:=[EI,Bj],pre:=fun(d,l,_)=>Sm d∧List.length d≤256∧List.length l≤100000,out:=fun(d,l,_)=>[.p Bj (Bm d l)] }
attribute [local go_sem] HF
theorem Sq:Ao Tryz.prog 188 HF:=by
 refine AX Tryz.func188 (by kernel_rfl) rfl Tryz.ntmps188 (by decide) (by kernel_rfl) (AJ [(208,Lb),(209,Wo),(183,Dj)]) (AF Yl (AF t6 (AF F5 AL))) ?_
 rintro w0 O0 ⟨d,l,u⟩ hc-⟨hsup,hd,hl⟩
 have hd:d.length≤256:=hd
 have hl:l.length≤100000:=hl
 have hml:Bm d l=Q2 d (CL d l) (CL d l).length:=rfl
 have hal:=IA d l
 simp only[HF,AN]
 repeat'(first|exact trivial|refine eS rfl ?_|refine AB ?_|refine rX [0,1,4,5,6,7,8,9,10,17,29,47] hc ?_ ?_|refine rC ?_ ?_<;>intro AA<;>try(cases AA;done))
 ·exact hl
 ·rw[hml]
  generalize CL d l=all at *
  refine AK (ι:={i:Nat//i≤all.length}) (fun i=>⟨[(0,.p EI d),(5,.sr 54 T9 0 (Q2 d all i.1).length),(6,.p Bj all),(7,.p (.int .i64) (i.1:Int))],[(54,.arr 9 T9 (Q2 d all i.1))]⟩) (fun i=>all.length-i.1) ⟨0,Nat.zero_le _⟩ (AC [(54,.nil)] rfl rfl ?_ ?_) (fun i=>?_)
  ·first|exact eN|refine eM ?_
   rfl
  ·first|exact eN|refine eM ?_
   rfl
  ·obtain⟨i,hi⟩:=i
   have hgl:=Ym d all i
   have hgs:=o6 d all i
   simp only
   repeat'(first|exact trivial|refine eS rfl ?_|refine AB ?_|refine rX [0,1,4,5,6,7,8,9,10,17,29,47] hc ?_ ?_|refine rC ?_ ?_<;>intro AA<;>try(cases AA;done))
   ·exact⟨AA,hsup,hd⟩
   ·have hi2:i<all.length:=by exact eV
    refine AK (ι:={k:Nat//k≤all.length}) (fun k=>⟨[(0,.p EI d),(5,.sr 54 T9 0 (Q2 d all i).length),(6,.p Bj all),(7,.p (.int .i64) (i:Int)),(8,.p Bj (Mi d (all.getD i ByteArray.empty))),(9,.p .bool (VD d all i k.1)),(10,.p (.int .i64) (k.1:Int))],[(54,.arr 9 T9 (Q2 d all i))]⟩) (fun k=>all.length-k.1) ⟨0,Nat.zero_le _⟩ (AC [(54,.nm 54)] rfl rfl ?_ ?_) (fun k=>?_)
    ·first|exact eN|refine eM ?_
    ·first|exact eN|refine eM ?_
     rfl
    ·obtain⟨k,hk⟩:=k
     have hfs:=bP d all i k
     simp only
     repeat'(first|exact trivial|refine eS rfl ?_|refine AB ?_|refine rX [0,1,4,5,6,7,8,9,10,17,29,47] hc ?_ ?_|refine rC ?_ ?_<;>intro AA<;>try(cases AA;done))
     ·exact fun _=>AA
     ·exact eV
     ·have hk2:k<all.length:=by exact eV
      refine⟨⟨k+1,by omega⟩,by simp only;omega,AC [(54,.nm 54)] rfl rfl ?_ ?_⟩
      ·first|exact eN|refine eM ?_
      ·simp only[hfs]
       unfold t8
       first|exact eN|refine eM ?_
     ·refine⟨by assumption,?_⟩
      simp only[AP]
      omega
     ·exact eV
     ·have hk2:k=all.length:=by exact eV
      subst hk2
      rw[AA,if_pos rfl]at hgs
      refine⟨⟨i+1,by omega⟩,by simp only;omega,AC [(54,.nm 54)] rfl rfl ?_ ?_⟩
      ·simp only[hgs]
       first|exact eN|refine eM ?_
      ·simp only[hgs]
       first|exact eN|refine eM ?_
     ·exact eV
     ·have hk2:k=all.length:=by exact eV
      subst hk2
      rw[AA,if_neg (by simp),List.append_nil]at hgs
      refine⟨⟨i+1,by omega⟩,by simp only;omega,AC [(54,.nm 54)] rfl rfl ?_ ?_⟩
      ·simp only[hgs]
       first|exact eN|refine eM ?_
      ·simp only[hgs]
       first|exact eN|refine eM ?_
   ·have hi2:i=all.length:=by exact eV
    subst hi2
    refine Gb [54] ?_
    exact AH hc [.tmp 4] rfl (.inl rfl) (by simp) (by first|exact eR|refine Ax ?_)
end
/- Functions of grammarlabref02: Of. -/
section
attribute [local go_sem] FK
def o7 (b:List Int) (x:Int):List Int:=b.set (x.tdiv 64).toNat (CF .or .u64 (b.getD (x.tdiv 64).toNat 0) (Vv .u64 1 (x.tmod 64)))
def qP (l:List Int):List Int:=l.foldl o7 (List.replicate 64 0)
def okB (x:Int):Bool:=!(decide (x<0)||decide (4095<x))
def xB (l:List Int):List Int×Int:=if l.all okB=true then (BE (qP l),0) else ([],2)
theorem OC (l:List Int):(qP l).length=64:=by
 have key:∀(l b:List Int),(l.foldl o7 b).length=b.length:=by
  intro l
  induction l with
  | nil=>intro b;rfl
  | cons x l ih =>
   intro b
   rw[List.foldl_cons,ih]
   simp[o7]
 unfold qP
 rw[key]
 simp
def ofS:Ak:={ ins:=[Ez],pre:=fun _=>True,out:=fun(l,_)=>[.p A8 (xB l).1,.p YO (xB l).2] }
theorem A5s:Ao Tryz.prog 184 ofS:=by
 refine AX Tryz.func184 (by kernel_rfl) rfl Tryz.ntmps184 (by decide) (by kernel_rfl) (AJ [(176,FK)]) (AF LZ AL) ?_
 rintro w0 O0 ⟨l,u⟩ hc ⟨⟨hl,-⟩,-⟩ -
 simp only[AP]at hl
 simp only[ofS,AN]
 repeat'(first|exact trivial|refine eS rfl ?_|refine AB ?_|refine rX [0,2,3,4,5,10,24] hc ?_ ?_|refine rC ?_ ?_<;>intro AA<;>try(cases AA;done))
 ·simp only[AP];omega
 ·refine AK (ι:={k:Nat//k≤l.length∧(l.take k).all okB=true}) (fun k=>⟨[(0,.p Ez l),(4,.sr 6 Nu 0 (qP (l.take k.1)).length),(5,.p (.int .i64) (k.1:Int))],[(6,.arr 209 Nu (qP (l.take k.1)))]⟩) (fun k=>l.length-k.1) ⟨0,Nat.zero_le _,rfl⟩ (AC [(6,.nm 6)] rfl rfl ?_ ?_) (fun k=>?_)
  ·first|exact eN|refine eM ?_
   rfl
  ·first|exact eN|refine eM ?_
   rfl
  ·obtain⟨k,hk,hf⟩:=k
   have hlen:=OC (l.take k)
   have hs:∀h:k<l.length,qP (l.take (k+1))=o7 (qP (l.take k)) (l.getD k 0):=fun h=>EE o7 l 0 _ h
   simp only
   repeat'(first|exact trivial|refine eS rfl ?_|refine AB ?_|refine rX [0,2,3,4,5,10,24] hc ?_ ?_|refine rC ?_ ?_<;>intro AA<;>try(cases AA;done))
   ·exact⟨AA,fun _=>AA⟩
   ·have hk2:k<l.length:=by exact eV
    have h1:xB l=([],2):=by
     unfold xB
     rw[if_neg]
     intro h
     have:=List.all_eq_true.1 h _ (AD l 0 hk2)
     unfold okB at this
     rw[Bool.not_eq_true',Bool.or_eq_false_iff,decide_eq_false_iff_not,decide_eq_false_iff_not]at this
     rcases AA with h|h
     ·exact this.1 h
     ·exact this.2 h
    exact AH hc [.tmp 2,.tmp 3] rfl (.inl rfl) (by simp) (by rw[h1];first|exact eR|refine Ax ?_)
   ·obtain⟨h0,h1⟩:=AA
    have e1:Int.tdiv (l.getD k 0) 64=l.getD k 0 / 64:=Int.tdiv_eq_ediv_of_nonneg h0
    have e2:Int.tmod (l.getD k 0) 64=l.getD k 0 % 64:=Int.tmod_eq_emod_of_nonneg h0
    rw[e1,e2,hlen]
    refine⟨?_,⟨by decide,?_,?_⟩,?_,⟨by decide,?_,?_⟩,⟨?_,?_⟩,?_,⟨by decide,?_,?_⟩,⟨?_,?_⟩,?_,?_,?_⟩<;>exact eV
   ·exact eV
   ·have hk2:k<l.length:=by exact eV
    have e:=hs hk2
    refine⟨⟨k+1,by omega,?_⟩,by simp only;omega,AC [(6,.nm 6)] rfl rfl ?_ ?_⟩
    ·rw[Ig l 0 _ hk2,hf,Bool.true_and]
     unfold okB
     rw[Bool.not_eq_true',Bool.or_eq_false_iff,decide_eq_false_iff_not,decide_eq_false_iff_not]
     exact⟨Int.not_lt.2 AA.1,Int.not_lt.2 AA.2⟩
    ·simp only[e]
     first|exact eN|refine eM ?_
     rfl
    ·simp only[e]
     first|exact eN|refine eM ?_
     rw[←e,OC,OC]
   ·have hk2:l.take k=l:=List.take_of_length_le (by exact eV)
    rw[hk2]at hf ⊢
    have h1:xB l=(BE (qP l),0):=by unfold xB;rw[if_pos hf]
    have hlen2:=OC l
    refine Gb [6] ?_
    repeat'(first|exact trivial|refine eS rfl ?_|refine AB ?_|refine rX [0,2,3,4,5,10,24] hc ?_ ?_|refine rC ?_ ?_<;>intro AA<;>try(cases AA;done))
    ·rw[hlen2];decide
    ·exact AH hc [.tmp 2,.tmp 3] rfl (.inl rfl) (by simp) (by rw[h1];first|exact eR|refine Ax ?_)
end
/- Functions of grammarlabref04: in, Subsumes. -/
section
attribute [local go_sem] ME La
def bQ (l:List (List Int)) (b:List Int):Bool:=l.any fun x=>G9 x b
def A0x:Ak:={ ins:=[Qz,A8],pre:=fun _=>True,out:=fun(l,b,_)=>[.p .bool (bQ l b)],lend:=true }
theorem A2f:Ao Tryz.prog 185 A0x:=by
 refine AX Tryz.func185 (by kernel_rfl) rfl Tryz.ntmps185 (by decide) (by kernel_rfl) (AJ [(177,ME)]) (AF Wl AL) ?_
 rintro w0 O0 ⟨l,n,u⟩ hc ⟨⟨hl,-⟩,-⟩ -
 simp only[AP]at hl
 simp only[A0x,AN]
 repeat'(first|exact trivial|refine eS rfl ?_|refine AB ?_|refine rX [0,1,4,5,9,17] hc ?_ ?_|refine rC ?_ ?_<;>intro AA<;>try(cases AA;done))
 refine AK (ι:={k:Nat//k≤l.length∧(l.take k).any (fun x=>G9 x n)=false}) (fun k=>⟨[(0,.p Qz l),(1,.p A8 n),(5,.p (.int .i64) (k.1:Int))],[]⟩) (fun k=>l.length-k.1) ⟨0,by simp⟩ (AC [] rfl rfl ?_ ?_) (fun k=>?_)
 ·first|exact eN|refine eM ?_
 ·first|exact eN|refine eM ?_
 ·obtain⟨k,hk,hany⟩:=k
  repeat'(first|exact trivial|refine eS rfl ?_|refine AB ?_|refine rX [0,1,4,5,9,17] hc ?_ ?_|refine rC ?_ ?_<;>intro AA<;>try(cases AA;done))
  ·exact eV
  ·have hkl:k<l.length:=by exact eV
   have h1:bQ l n=true:=F4 l [] _ hkl AA
   exact AH hc [.tmp 4] rfl (.inl rfl) (by simp) (by rw[h1];first|exact eR|refine Ax ?_)
  ·exact eV
  ·have hkl:k<l.length:=by exact eV
   refine⟨⟨k+1,by exact eV,?_⟩,by simp only;exact eV,AC [] rfl rfl ?_ ?_⟩
   ·rw[LY l [] _ hkl,hany];exact AA
   ·first|exact eN|refine eM ?_
   ·first|exact eN|refine eM ?_
  ·have hk:l.take k=l:=List.take_of_length_le (by exact eV)
   rw[hk]at hany
   have h1:bQ l n=false:=hany
   exact AH hc [.tmp 4] rfl (.inl rfl) (by simp) (by rw[h1];first|exact eR|refine Ax ?_)
abbrev AQ:=ByteArray×List Int
abbrev c0:AQ:=(ByteArray.empty,[])
def MG (l:List AQ) (i j:Int):Bool:=Ef (l.getD j.toNat c0).2 (l.getD i.toNat c0).2
def VE:Ak:={ ins:=[Ic,T3,T3],pre:=fun(l,i,j,_)=>((0:Int)≤i∧i<(List.length l:Int))∧((0:Int)≤j∧j<(List.length l:Int))∧(∀x∈(l:List AQ),x.2.length≤100000),out:=fun(l,i,j,_)=>[.p .bool (MG l i j)],lend:=true }
theorem mF:Ao Tryz.prog 139 VE:=by
 refine AX Tryz.func139 (by kernel_rfl) rfl Tryz.ntmps139 (by decide) (by kernel_rfl) (AJ [(190,La)]) (AF U0 AL) ?_
 rintro w0 O0 ⟨l,i,j,u⟩ hc-⟨hi,hj,hx⟩
 simp only[VE,AN]
 repeat'(first|exact trivial|refine eS rfl ?_|refine AB ?_|refine rX [0,1,2,6] hc ?_ ?_|refine rC ?_ ?_<;>intro AA<;>try(cases AA;done))
 ·exact⟨hj,hi,hx _ (AD (l:List AQ) c0 (by exact eV))⟩
 ·exact AH hc [.tmp 6] rfl (.inl rfl) (by simp) (by unfold MG;first|exact eR|refine Ax ?_)
end
/- Functions of grammarlabref05: number. -/
section
attribute [local go_sem] ME
def PH (s:ByteArray):Nat→List AQ→Int
 | _,[]=>-1
 | k,x :: l=>if Am x.1 s=true then (k:Int) else PH s (k+1) l
def Cw (l:List AQ) (s:ByteArray):Int:=PH s 0 l
theorem VG (s:ByteArray) (l:List AQ) {k:Nat} (h:k<l.length):PH s k (l.drop k)=if Am (l.getD k c0).1 s=true then (k:Int) else PH s (k+1) (l.drop (k+1)):=by
 rw[List.drop_eq_getElem_cons h]
 have e:l.getD k c0=l[k]:=by simp[List.getD_eq_getElem?_getD,h]
 rw[e]
 rfl
def Lc:Ak:={ ins:=[Ic,T9],pre:=fun _=>True,out:=fun(l,s,_)=>[.p T3 (Cw l s)],lend:=true }
theorem VH:Ao Tryz.prog 141 Lc:=by
 refine AX Tryz.func141 (by kernel_rfl) rfl Tryz.ntmps141 (by decide) (by kernel_rfl) (AJ []) AL ?_
 rintro w0 O0 ⟨l,s,u⟩ hc ⟨⟨hl,-⟩,-⟩ -
 simp only[AP]at hl
 simp only[Lc,AN]
 repeat'(first|exact trivial|refine eS rfl ?_|refine AB ?_|refine rX [0,1,4,5,9,18] hc ?_ ?_|refine rC ?_ ?_<;>intro AA<;>try(cases AA;done))
 refine AK (ι:={k:Nat//k≤l.length∧PH s k (l.drop k)=Cw l s}) (fun k=>⟨[(0,.p Ic l),(1,.p T9 s),(5,.p (.int .i64) (k.1:Int))],[]⟩) (fun k=>l.length-k.1) ⟨0,Nat.zero_le _,rfl⟩ (AC [] rfl rfl ?_ ?_) (fun k=>?_)
 ·first|exact eN|refine eM ?_
 ·first|exact eN|refine eM ?_
 ·obtain⟨k,hk,hf⟩:=k
  simp only
  repeat'(first|exact trivial|refine eS rfl ?_|refine AB ?_|refine rX [0,1,4,5,9,18] hc ?_ ?_|refine rC ?_ ?_<;>intro AA<;>try(cases AA;done))
  ·exact AA
  ·have hk2:k<l.length:=by exact eV
   rw[VG s l hk2,if_pos AA]at hf
   exact AH hc [.tmp 4] rfl (.inl rfl) (by simp) (by rw[←hf];first|exact eR|refine Ax ?_)
  ·exact eV
  ·have hk2:k<l.length:=by exact eV
   rw[VG s l hk2,if_neg (by rw[AA];simp)]at hf
   refine⟨⟨k+1,by omega,hf⟩,by simp only;omega,AC [] rfl rfl ?_ ?_⟩
   ·first|exact eN|refine eM ?_
   ·first|exact eN|refine eM ?_
  ·have hk2:l.drop k=[]:=List.drop_eq_nil_of_le (by exact eV)
   rw[hk2]at hf
   exact AH hc [.tmp 4] rfl (.inl rfl) (by simp) (by rw[←hf];first|exact eR|refine Ax ?_;rfl)
end
/- Functions of grammarlabref04: Find. -/
section
attribute [local go_sem] ME FK
def Sr (s:List Int):Nat→List AQ→Int
 | _,[]=>-1
 | k,x :: l=>if G9 x.2 s=true then (k:Int) else Sr s (k+1) l
def Wp (l:List AQ) (b:List Int):Int:=Sr (BE b) 0 l
theorem Ss (s:List Int) (l:List AQ) {k:Nat} (h:k<l.length):Sr s k (l.drop k)=if G9 (l.getD k c0).2 s=true then (k:Int) else Sr s (k+1) (l.drop (k+1)):=by
 rw[List.drop_eq_getElem_cons h]
 have e:l.getD k c0=l[k]:=by simp[List.getD_eq_getElem?_getD,h]
 rw[e]
 rfl
def Wq:Ak:={ ins:=[Ic,A8],pre:=fun(_,b,_)=>List.length b≤100000,out:=fun(l,b,_)=>[.p T3 (Wp l b)],lend:=true }
theorem t9:Ao Tryz.prog 132 Wq:=by
 refine AX Tryz.func132 (by kernel_rfl) rfl Tryz.ntmps132 (by decide) (by kernel_rfl) (AJ [(176,FK),(177,ME)]) (AF LZ (AF Wl AL)) ?_
 rintro w0 O0 ⟨l,b,u⟩ hc ⟨⟨hl,-⟩,-⟩ hb
 simp only[AP]at hl
 simp only[Wq,AN]
 repeat'(first|exact trivial|refine eS rfl ?_|refine AB ?_|refine rX [0,1,4,5,6,12,21] hc ?_ ?_|refine rC ?_ ?_<;>intro AA<;>try(cases AA;done))
 ·exact hb
 ·have hcg:Wp l b=Sr (BE b) 0 l:=rfl
  rw[hcg]
  generalize BE b=s at *
  refine AK (ι:={k:Nat//k≤l.length∧Sr s k (l.drop k)=Sr s 0 l}) (fun k=>⟨[(0,.p Ic l),(5,.p A8 s),(6,.p (.int .i64) (k.1:Int))],[]⟩) (fun k=>l.length-k.1) ⟨0,Nat.zero_le _,rfl⟩ (AC [] rfl rfl ?_ ?_) (fun k=>?_)
  ·first|exact eN|refine eM ?_
  ·first|exact eN|refine eM ?_
  ·obtain⟨k,hk,hf⟩:=k
   simp only
   repeat'(first|exact trivial|refine eS rfl ?_|refine AB ?_|refine rX [0,1,4,5,6,12,21] hc ?_ ?_|refine rC ?_ ?_<;>intro AA<;>try(cases AA;done))
   ·exact AA
   ·have hk2:k<l.length:=by exact eV
    rw[Ss s l hk2,if_pos AA]at hf
    exact AH hc [.tmp 4] rfl (.inl rfl) (by simp) (by rw[←hf];first|exact eR|refine Ax ?_)
   ·exact eV
   ·have hk2:k<l.length:=by exact eV
    rw[Ss s l hk2,if_neg (by rw[AA];simp)]at hf
    refine⟨⟨k+1,by omega,hf⟩,by simp only;omega,AC [] rfl rfl ?_ ?_⟩
    ·first|exact eN|refine eM ?_
    ·first|exact eN|refine eM ?_
   ·have hk2:l.drop k=[]:=List.drop_eq_nil_of_le (by exact eV)
    rw[hk2]at hf
    exact AH hc [.tmp 4] rfl (.inl rfl) (by simp) (by rw[←hf];first|exact eR|refine Ax ?_;rfl)
end
/- Functions of grammarlabref05: value. -/
section
attribute [local go_sem] ME
def Yn (s:ByteArray):List (ByteArray×ByteArray)→ByteArray×Bool
 | []=>(ByteArray.empty,false)
 | x :: l=>if Am x.1 s=true then (x.2,true) else Yn s l
def Fk (x:AI) (s:ByteArray):ByteArray×Bool:=Yn s x.2.2
theorem VI (s:ByteArray) (l:List (ByteArray×ByteArray)) {k:Nat} (h:k<l.length):Yn s (l.drop k)=if Am (l.getD k (ByteArray.empty,ByteArray.empty)).1 s=true then ((l.getD k (ByteArray.empty,ByteArray.empty)).2,true) else Yn s (l.drop (k+1)):=by
 rw[List.drop_eq_getElem_cons h]
 have e:l.getD k (ByteArray.empty,ByteArray.empty)=l[k]:=by simp[List.getD_eq_getElem?_getD,h]
 rw[e]
 rfl
def PI:Ak:={ ins:=[oO,T9],pre:=fun _=>True,out:=fun(x,s,_)=>[.p T9 (Fk x s).1,.p .bool (Fk x s).2],lend:=true }
theorem Yo:Ao Tryz.prog 175 PI:=by
 refine AX Tryz.func175 (by kernel_rfl) rfl Tryz.ntmps175 (by decide) (by kernel_rfl) (AJ []) AL ?_
 rintro w0 O0 ⟨⟨nm,sup,fe⟩,s,u⟩ hc ⟨⟨-,-,hfe,-⟩,-⟩ -
 simp only[AP]at hfe
 simp only[PI,AN]
 repeat'(first|exact trivial|refine eS rfl ?_|refine AB ?_|refine rX [0,1,2,4,5,6,11,21] hc ?_ ?_|refine rC ?_ ?_<;>intro AA<;>try(cases AA;done))
 have hz:({ data:=#[] }:ByteArray).size≤AP:=by decide
 rw[if_pos hz]
 refine AK (ι:={k:Nat//k≤fe.length∧Yn s (fe.drop k)=Fk (nm,sup,fe) s}) (fun k=>⟨[(1,.p T9 s),(2,.bp 2 [] 0),(6,.p (.int .i64) (k.1:Int))],[(2,.box 154 true [.p T9 nm,.p Bj sup,.p YP fe])]⟩) (fun k=>fe.length-k.1) ⟨0,Nat.zero_le _,rfl⟩ (AC [(2,.nm 2)] rfl rfl ?_ ?_) (fun k=>?_)
 ·first|exact eN|refine eM ?_
 ·first|exact eN|refine eM ?_
 ·obtain⟨k,hk,hf⟩:=k
  simp only
  repeat'(first|exact trivial|refine eS rfl ?_|refine AB ?_|refine rX [0,1,2,4,5,6,11,21] hc ?_ ?_|refine rC ?_ ?_<;>intro AA<;>try(cases AA;done))
  ·exact AA
  ·assumption
  ·have hk2:k<fe.length:=by exact eV
   rw[VI s fe hk2,if_pos AA]at hf
   exact AH hc [.tmp 4,.tmp 5] rfl (.inl rfl) (by simp) (by rw[←hf];first|exact eR|refine Ax ?_)
  ·exact eV
  ·have hk2:k<fe.length:=by exact eV
   rw[VI s fe hk2,if_neg (by rw[AA];simp)]at hf
   refine⟨⟨k+1,by omega,hf⟩,by simp only;omega,AC [(2,.nm 2)] rfl rfl ?_ ?_⟩
   ·first|exact eN|refine eM ?_
   ·first|exact eN|refine eM ?_
  ·have hk2:fe.drop k=[]:=List.drop_eq_nil_of_le (by exact eV)
   rw[hk2]at hf
   rw[if_pos hz]
   exact AH hc [.tmp 4,.tmp 5] rfl (.inl rfl) (by simp) (by rw[←hf];first|exact eR|refine Ax ?_;exact⟨rfl,rfl⟩)
end
/- Functions of grammarlabref04: before. -/
section
attribute [local go_sem] Wm
def FN (a b:AQ):Bool:=decide (((HA b.2).length:Int)<((HA a.2).length:Int))||((HA a.2).length:Int)==((HA b.2).length:Int)&&GN a.1 b.1
def RN:Ak:={ ins:=[Wa,Wa],pre:=fun(a,b,_)=>List.length (a:AQ).2≤100000∧List.length (b:AQ).2≤100000,out:=fun(a,b,_)=>[.p .bool (FN a b)],lend:=true }
theorem o8:Ao Tryz.prog 138 RN:=by
 refine AX Tryz.func138 (by kernel_rfl) rfl Tryz.ntmps138 (by decide) (by kernel_rfl) (AJ [(189,Wm)]) (AF tY AL) ?_
 rintro w0 O0 ⟨⟨an,ac⟩,⟨bn,bc⟩,u⟩ hc-⟨ha,hb⟩
 simp only[RN,AN]
 repeat'(first|exact trivial|refine eS rfl ?_|refine AB ?_|refine rX [0,1,2,3,4,5,6] hc ?_ ?_|refine rC ?_ ?_<;>intro AA<;>try(cases AA;done))
 ·exact ha
 ·exact hb
 ·exact AH hc [.tmp 4] rfl (.inl rfl) (by simp) (by unfold FN;first|exact eR|refine Ax ?_)
end
/- Functions of grammarlabref04: code. -/
section
attribute [local go_sem] Sp Dj ofS
def Mj (low all:List ByteArray) (n:Nat):List Int:=((List.range n).filter fun(i:Nat)=>Aa low (all.getD i ByteArray.empty)).map fun(i:Nat)=>(i:Int)
theorem o9 (low all:List ByteArray) (n:Nat):Mj low all (n+1)=Mj low all n++if Aa low (all.getD n ByteArray.empty)=true then [(n:Int)] else []:=by
 unfold Mj
 rw[List.range_succ,List.filter_append,List.map_append]
 congr 1
 rw[List.filter_cons,List.filter_nil]
 split<;>rfl
theorem uA (low all:List ByteArray) (n:Nat):(Mj low all n).length≤n:=by
 unfold Mj
 rw[List.length_map]
 exact Nat.le_trans (List.length_filter_le _ _) (by simp)
def GV (d:List AI) (all:List ByteArray) (s:ByteArray):List Int:=(xB (Mj (DT d s) all all.length)).1
def mG:Ak:={ ins:=[EI,Bj,T9],pre:=fun(d,l,_,_)=>List.length d≤256∧List.length l≤100000,out:=fun(d,l,s,_)=>[.p A8 (GV d l s)] }
theorem A0y:Ao Tryz.prog 135 mG:=by
 refine AX Tryz.func135 (by kernel_rfl) rfl Tryz.ntmps135 (by decide) (by kernel_rfl) (AJ [(182,Sp),(183,Dj),(184,ofS)]) (AF t7 (AF F5 (AF A5s AL))) ?_
 rintro w0 O0 ⟨d,l,s,u⟩ hc-⟨hd,hl⟩
 have hl:l.length≤100000:=hl
 have hcf:GV d l s=(xB (Mj (DT d s) l l.length)).1:=rfl
 simp only[mG,AN]
 repeat'(first|exact trivial|refine eS rfl ?_|refine AB ?_|refine rX [0,1,2,6,7,8,9,10,18,26] hc ?_ ?_|refine rC ?_ ?_<;>intro AA<;>try(cases AA;done))
 ·exact hd
 ·rw[hcf]
  generalize DT d s=low at *
  refine AK (ι:={n:Nat//n≤l.length}) (fun n=>⟨[(0,.p EI d),(1,.p Bj l),(2,.p T9 s),(7,.p Bj low),(8,.sr 30 T3 0 (Mj low l n.1).length),(9,.p (.int .i64) (n.1:Int))],[(30,.arr 3 T3 (Mj low l n.1))]⟩) (fun n=>l.length-n.1) ⟨0,Nat.zero_le _⟩ (AC [(30,.nil)] rfl rfl ?_ ?_) (fun n=>?_)
  ·first|exact eN|refine eM ?_
   rfl
  ·first|exact eN|refine eM ?_
   rfl
  ·obtain⟨n,hn⟩:=n
   have hz:=uA low l n
   have hs:=o9 low l n
   simp only
   repeat'(first|exact trivial|refine eS rfl ?_|refine AB ?_|refine rX [0,1,2,6,7,8,9,10,18,26] hc ?_ ?_|refine rC ?_ ?_<;>intro AA<;>try(cases AA;done))
   ·exact AA
   ·rw[AA,if_pos rfl]at hs
    simp only[AP]
    dsimp only[Ty.den]at *
    omega
   ·exact eV
   ·have hn2:n<l.length:=by exact eV
    rw[AA,if_pos rfl]at hs
    refine⟨⟨n+1,by omega⟩,by simp only;omega,AC [(30,.nm 30)] rfl rfl ?_ ?_⟩
    ·simp only[hs]
     first|exact eN|refine eM ?_
    ·simp only[hs]
     first|exact eN|refine eM ?_
   ·exact eV
   ·have hn2:n<l.length:=by exact eV
    rw[AA,if_neg (by simp),List.append_nil]at hs
    refine⟨⟨n+1,by omega⟩,by simp only;omega,AC [(30,.nm 30)] rfl rfl ?_ ?_⟩
    ·simp only[hs]
     first|exact eN|refine eM ?_
    ·simp only[hs]
     first|exact eN|refine eM ?_
   ·have hn2:n=l.length:=by exact eV
    subst hn2
    refine Gb [30] ?_
    repeat'(first|exact trivial|refine eS rfl ?_|refine AB ?_|refine rX [0,1,2,6,7,8,9,10,18,26] hc ?_ ?_|refine rC ?_ ?_<;>intro AA<;>try(cases AA;done))
    exact AH hc [.tmp 6] rfl (.inl rfl) (by simp) (by first|exact eR|refine Ax ?_)
end
/- Functions of grammarlabref05: feats. -/
section
attribute [local go_sem] Mf
def OD (o:List ByteArray) (f:ByteArray×ByteArray):List ByteArray:=Dk o f.1
def PJ (o:List ByteArray) (x:AI):List ByteArray:=x.2.2.foldl OD o
def DU (d:List AI):List ByteArray:=d.foldl PJ []
theorem VJ (l:List (ByteArray×ByteArray)):∀o:List ByteArray,(l.foldl OD o).length≤o.length+l.length:=by
 induction l with
 | nil=>intro o;simp
 | cons x l ih =>
  intro o
  have h1:=ih (OD o x)
  have h2:(OD o x).length≤o.length+1:=KY o x.1
  simp only[List.foldl_cons,List.length_cons]
  omega
theorem bR {d:List AI} (h:∀x∈d,x.2.2.length≤256):∀(l:List AI),(∀x∈l,x∈d)→∀o:List ByteArray,(l.foldl PJ o).length≤o.length+256*l.length:=by
 intro l
 induction l with
 | nil=>intro _ o;simp
 | cons x l ih =>
  intro hl o
  have h1:=ih (fun y hy=>hl y (by simp[hy])) (PJ o x)
  have h2:=VJ x.2.2 o
  have h3:=h x (hl x (by simp))
  have h4:(PJ o x).length=(x.2.2.foldl OD o).length:=rfl
  simp only[List.foldl_cons,List.length_cons]
  omega
def Kd:Ak:={ ins:=[EI],pre:=fun(d,_)=>List.length d≤256∧(∀x∈(d:List AI),x.2.2.length≤256),out:=fun(d,_)=>[.p Bj (DU d)] }
theorem Su:Ao Tryz.prog 130 Kd:=by
 refine AX Tryz.func130 (by kernel_rfl) rfl Tryz.ntmps130 (by decide) (by kernel_rfl) (AJ [(174,Mf)]) (AF PD AL) ?_
 rintro w0 O0 ⟨d,u⟩ hc-⟨hd,hx⟩
 have hd:d.length≤256:=hd
 simp only[Kd,AN]
 repeat'(first|exact trivial|refine eS rfl ?_|refine AB ?_|refine rX [0,2,3,4,5,9,19] hc ?_ ?_|refine rC ?_ ?_<;>intro AA<;>try(cases AA;done))
 refine AK (ι:={i:Nat//i≤d.length}) (fun i=>⟨[(0,.p EI d),(3,.p Bj (DU (d.take i.1))),(4,.p (.int .i64) (i.1:Int))],[]⟩) (fun i=>d.length-i.1) ⟨0,Nat.zero_le _⟩ (AC [] rfl rfl ?_ ?_) (fun i=>?_)
 ·first|exact eN|refine eM ?_
 ·first|exact eN|refine eM ?_
  rfl
 ·obtain⟨i,hi⟩:=i
  have hlen:=bR hx (d.take i) (fun x h=>List.mem_of_mem_take h) []
  have htl:=List.length_take_le i d
  have hs:=fun h:i<d.length=>EE PJ d d0 [] h
  have hfe:∀e,DU e=e.foldl PJ []:=fun _=>rfl
  simp only
  repeat'(first|exact trivial|refine eS rfl ?_|refine AB ?_|refine rX [0,2,3,4,5,9,19] hc ?_ ?_|refine rC ?_ ?_<;>intro AA<;>try(cases AA;done))
  ·have hi2:i<d.length:=by exact eV
   have hxi:=hx _ (AD d d0 hi2)
   have hs:=hs hi2
   rw[←hfe,←hfe]at hs
   rw[←hfe]at hlen
   generalize DU (d.take i)=o at *
   refine AK (ι:={k:Nat//k≤(d.getD i d0).2.2.length}) (fun k=>⟨[(0,.p EI d),(3,.p Bj (((d.getD i d0).2.2.take k.1).foldl OD o)),(4,.p (.int .i64) (i:Int)),(5,.p (.int .i64) (k.1:Int))],[]⟩) (fun k=>(d.getD i d0).2.2.length-k.1) ⟨0,Nat.zero_le _⟩ (AC [] rfl rfl ?_ ?_) (fun k=>?_)
   ·first|exact eN|refine eM ?_
   ·first|exact eN|refine eM ?_
    rfl
   ·obtain⟨k,hk⟩:=k
    have hk':k≤(d.getD i d0).2.2.length:=hk
    have hfl:=VJ ((d.getD i d0).2.2.take k) o
    have hkl:=List.length_take_le k (d.getD i d0).2.2
    have hss:=fun h:k<(d.getD i d0).2.2.length=>EE OD (d.getD i d0).2.2 (ByteArray.empty,ByteArray.empty) o h
    simp only
    repeat'(first|exact trivial|refine eS rfl ?_|refine AB ?_|refine rX [0,2,3,4,5,9,19] hc ?_ ?_|refine rC ?_ ?_<;>intro AA<;>try(cases AA;done))
    ·assumption
    ·refine⟨by assumption,AA,?_⟩
     simp only[List.length_nil]at hlen
     dsimp only[Ty.den]at *
     omega
    ·have h1:(k:Int)<((d.getD i d0).2.2.length:Int):=AA
     exact eV
    ·have hk2:k<(d.getD i d0).2.2.length:=Int.ofNat_lt.1 AA
     have e:=hss hk2
     refine⟨⟨k+1,hk2⟩,by simp only;omega,AC [] rfl rfl ?_ ?_⟩
     ·first|exact eN|refine eM ?_
     ·simp only[e]
      unfold OD
      first|exact eN|refine eM ?_
    ·have:=hd
     exact eV
    ·have hk2:(d.getD i d0).2.2.take k=(d.getD i d0).2.2:=List.take_of_length_le (Int.ofNat_le.1 AA)
     have e:DU (d.take (i+1))=((d.getD i d0).2.2.take k).foldl OD o:=by rw[hk2];exact hs
     refine⟨⟨i+1,hi2⟩,by simp only;omega,AC [] rfl rfl ?_ ?_⟩
     ·first|exact eN|refine eM ?_
     ·simp only[e]
      first|exact eN|refine eM ?_
  ·have hk2:d.take i=d:=List.take_of_length_le (by exact eV)
   rw[hk2]
   exact AH hc [.tmp 2] rfl (.inl rfl) (by simp) (by first|exact eR|refine Ax ?_)
end
/- What a hierarchy that passes grammarlabref03.Check is: all supertypes are declared. -/
section
theorem VK {d:List AI} {l:List ByteArray}:∀ {r:List ByteArray} {k:Nat},Q1 d l k r=0→∀s∈r,0≤A9 d s
 | [],_,_,s,hs=>by cases hs
 | x :: r,k,h,s,hs=>by
  simp only[Q1]at h
  split at h
  ·cases h
  ·rename_i h1
   split at h
   ·cases h
   ·rcases List.mem_cons.1 hs with rfl|hs
    ·omega
    ·exact VK h s hs
theorem OE {d:List AI}:∀ {l:List AI},JQ d l=0→∀x∈l,∀s∈x.2.1,0≤A9 d s
 | [],_,x,hx=>by cases hx
 | y :: l,h,x,hx=>by
  simp only[JQ]at h
  split at h
  ·rename_i h1;exact absurd h h1
  ·rename_i h1
   rcases List.mem_cons.1 hx with rfl|hx
   ·exact VK (Classical.byContradiction h1)
   ·exact OE h x hx
theorem uB {d:List AI} (h:JR d=0):Sm d:=OE h
theorem A5 {d:List AI} (h:BG d=0):Sm d∧d.length≤256∧HE d=1∧DR d=0∧d.length≤(BR d).length:=by
 unfold BG at h
 split at h
 ·rename_i h1;exact absurd h h1
 ·rename_i h1
  split at h
  ·rename_i h2;exact absurd h h2
  ·rename_i h2
   split at h
   ·rename_i h3;exact absurd h h3
   ·rename_i h3
    split at h
    ·cases h
    ·rename_i h4
     split at h
     ·cases h
     ·rename_i h5
      exact⟨uB (Classical.byContradiction h3),QW (Classical.byContradiction h1),Classical.byContradiction h4,Classical.byContradiction h2,by omega⟩
end
/- Functions of grammarlabref04: family. -/
section
attribute [local go_sem] A0x Yg
def GI (l:List (List Int)) (i k:Nat):List (List Int) :=
 if (decide (0<((FL (l.getD i []) (l.getD k [])).length:Int))&&!bQ l (FL (l.getD i []) (l.getD k [])))=true then l++[FL (l.getD i []) (l.getD k [])] else l
def GJ (i:Nat):Nat→Nat→List (List Int)→List (List Int)
 | 0,_,l=>l
 | n+1,k,l=>if l.length≤256 then GJ i n (k+1) (GI l i k) else l
def IB:Nat→Nat→List (List Int)→List (List Int)
 | 0,_,l=>l
 | n+1,i,l=>if i<l.length∧l.length≤256 then IB n (i+1) (GJ i i 0 l) else l
def Ay (c:List (List Int)):List (List Int):=IB 257 0 c
theorem Yp (a b:List Int):(FL a b).length≤a.length:=by
 unfold FL BE
 have:=D0 .and a b a.length
 rw[List.length_take]
 omega
structure A1D (l:List (List Int)):Prop where
 len:l.length≤257
 wid:∀c∈l,c.length≤64
theorem Ke {l:List (List Int)} (h:∀c∈l,c.length≤64) (k:Nat):(l.getD k []).length≤64:=by
 rw[List.getD_eq_getElem?_getD]
 cases hh:l[k]? with
 | none=>simp
 | some x=>exact h x (List.mem_of_getElem? hh)
theorem Yq {l:List (List Int)} (h:∀c∈l,c.length≤64) (i k:Nat):∀c∈GI l i k,c.length≤64:=by
 unfold GI
 split
 ·intro c hc
  rcases List.mem_append.1 hc with hc|hc
  ·exact h c hc
  ·have:c=FL (l.getD i []) (l.getD k []):=by simpa using hc
   rw[this]
   exact Nat.le_trans (Yp _ _) (Ke h i)
 ·exact h
theorem uC (l:List (List Int)) (i k:Nat):l.length≤(GI l i k).length∧(GI l i k).length≤l.length+1:=by
 unfold GI
 split
 ·simp
 ·exact⟨Nat.le_refl _,Nat.le_succ _⟩
def RP:Ak:={ ins:=[Qz],pre:=fun(c,_)=>List.length c≤256∧∀x∈(c:List (List Int)),x.length≤64,out:=fun(c,_)=>[.p Qz (Ay c)] }
theorem pA:Ao Tryz.prog 136 RP:=by
 refine AX Tryz.func136 (by kernel_rfl) rfl Tryz.ntmps136 (by decide) (by kernel_rfl) (AJ [(143,Yg),(185,A0x)]) (AF bN (AF A2f AL)) ?_
 rintro w0 O0 ⟨c,u⟩ hc-⟨hcl,hcw⟩
 have hcl:c.length≤256:=hcl
 simp only[RP,AN]
 repeat'(first|exact trivial|refine eS rfl ?_|refine AB ?_|refine rX [0,2,3,4,5,6,18,28,48] hc ?_ ?_|refine rC ?_ ?_<;>intro AA<;>try(cases AA;done))
 ·simp only[AP];dsimp only[Ty.den]at *;omega
 ·refine AK (ι:={x:Nat×List (List Int)//x.1≤256∧A1D x.2∧IB (257-x.1) x.1 x.2=Ay c}) (fun x=>⟨[(3,.sr 7 A8 0 x.1.2.length),(4,.p (.int .i64) (x.1.1:Int))],[(7,.arr 142 A8 x.1.2)]⟩) (fun x=>257-x.1.1) ⟨(0,c),by simp,⟨by simp only;omega,hcw⟩,rfl⟩ (AC [(7,.nm 7)] rfl rfl ?_ ?_) (fun x=>?_)
  ·first|exact eN|refine eM ?_
  ·first|exact eN|refine eM ?_
  ·obtain⟨⟨i,l⟩,hi,⟨hll,hlw⟩,hg⟩:=x
   simp only at hi hll hlw hg
   simp only
   repeat'(first|exact trivial|refine eS rfl ?_|refine AB ?_|refine rX [0,2,3,4,5,6,18,28,48] hc ?_ ?_|refine rC ?_ ?_<;>intro AA<;>try(cases AA;done))
   ·have hi2:i<l.length:=by omega
    have hl2:l.length≤256:=by omega
    have hg2:IB (256-i) (i+1) (GJ i i 0 l)=Ay c:=by
     have e:257-i=(256-i)+1:=by omega
     rw[←hg,e]
     show _=if i<l.length∧l.length≤256 then IB (256-i) (i+1) (GJ i i 0 l) else l
     rw[if_pos ⟨hi2,hl2⟩]
    refine AK (ι:={y:Nat×List (List Int)//y.1≤i∧A1D y.2∧l.length≤y.2.length∧GJ i (i-y.1) y.1 y.2=GJ i i 0 l}) (fun y=>⟨[(3,.sr 7 A8 0 y.1.2.length),(4,.p (.int .i64) (i:Int)),(5,.p (.int .i64) (y.1.1:Int))],[(7,.arr 142 A8 y.1.2)]⟩) (fun y=>i-y.1.1) ⟨(0,l),by simp,⟨hll,hlw⟩,Nat.le_refl _,rfl⟩ (AC [(7,.nm 7)] rfl rfl ?_ ?_) (fun y=>?_)
    ·first|exact eN|refine eM ?_
    ·first|exact eN|refine eM ?_
    ·obtain⟨⟨k,m⟩,hk,⟨hml,hmw⟩,hlm,hf⟩:=y
     simp only at hk hml hmw hlm hf
     simp only
     repeat'(first|exact trivial|refine eS rfl ?_|refine AB ?_|refine rX [0,2,3,4,5,6,18,28,48] hc ?_ ?_|refine rC ?_ ?_<;>intro AA<;>try(cases AA;done))
     ·exact⟨by exact eV,by exact eV,Nat.le_trans (Ke hmw i) (by decide)⟩
     ·simp only[AP];omega
     ·omega
     ·have e:GI m i k=m++[FL (m.getD i []) (m.getD k [])]:=by
       unfold GI
       rw[if_pos]
       rw[Bool.and_eq_true,decide_eq_true_eq,Bool.not_eq_true']
       exact AA
      have hw:=Yq hmw i k
      have h2:=uC m i k
      refine⟨⟨(k+1,GI m i k),by simp only;omega,⟨by simp only;omega,hw⟩,by simp only;omega,?_⟩,by simp only;omega,AC [(7,.nm 7)] rfl rfl ?_ ?_⟩
      ·simp only
       rw[←hf,show i-k=(i-(k+1))+1 by omega]
       show _=if m.length≤256 then GJ i (i-(k+1)) (k+1) (GI m i k) else m
       rw[if_pos (by omega)]
      ·simp only[e]
       first|exact eN|refine eM ?_
      ·simp only[e]
       first|exact eN|refine eM ?_
     ·omega
     ·have e:GI m i k=m:=by
       unfold GI
       rw[if_neg]
       rw[Bool.and_eq_true,decide_eq_true_eq,Bool.not_eq_true']
       intro h
       rw[AA h.1]at h
       exact absurd h.2 (by simp)
      refine⟨⟨(k+1,m),by simp only;omega,⟨hml,hmw⟩,hlm,?_⟩,by simp only;omega,AC [(7,.nm 7)] rfl rfl ?_ ?_⟩
      ·simp only
       rw[←hf,show i-k=(i-(k+1))+1 by omega]
       show _=if m.length≤256 then GJ i (i-(k+1)) (k+1) (GI m i k) else m
       rw[if_pos (by omega),e]
      ·first|exact eN|refine eM ?_
      ·first|exact eN|refine eM ?_
     ·omega
     ·have hm2:m=GJ i i 0 l:=by
       rw[←hf]
       cases hm:i-k with
       | zero=>rfl
       | succ j =>
        show _=if m.length≤256 then _ else m
        rw[if_neg (by omega)]
      rw[←hm2]at hg2
      refine⟨⟨(i+1,m),by simp only;omega,⟨hml,hmw⟩,?_⟩,by simp only;omega,AC [(7,.nm 7)] rfl rfl ?_ ?_⟩
      ·simp only
       rw[show 257-(i+1)=256-i by omega]
       exact hg2
      ·first|exact eN|refine eM ?_
      ·first|exact eN|refine eM ?_
   ·have hgl:l=Ay c:=by
     rw[←hg]
     cases hm:257-i with
     | zero=>rfl
     | succ m =>
      show _=if i<l.length∧l.length≤256 then _ else l
      rw[if_neg (by omega)]
    rw[←hgl]
    refine Gb [7] ?_
    exact AH hc [.tmp 2] rfl (.inl rfl) (by simp) (by first|exact eR|refine Ax ?_)
theorem cs0 {α:Type} (x y:α):(if ({ data:=#[] }:ByteArray).size≤AP then x else y)=x:=if_pos (by show 0≤AP;decide)
theorem cs1 {α:Type} (a:UInt8) (x y:α):(if ({ data:=#[a] }:ByteArray).size≤AP then x else y)=x:=if_pos (by show 1≤AP;decide)
theorem cs2 {α:Type} (a b:UInt8) (x y:α):(if ({ data:=#[a,b] }:ByteArray).size≤AP then x else y)=x:=if_pos (by show 2≤AP;decide)
theorem cs3 {α:Type} (a b c:UInt8) (x y:α):(if ({ data:=#[a,b,c] }:ByteArray).size≤AP then x else y)=x:=if_pos (by show 3≤AP;decide)
theorem cs4 {α:Type} (a b c d:UInt8) (x y:α):(if ({ data:=#[a,b,c,d] }:ByteArray).size≤AP then x else y)=x:=if_pos (by show 4≤AP;decide)
theorem cs5 {α:Type} (a b c d e:UInt8) (x y:α):(if ({ data:=#[a,b,c,d,e] }:ByteArray).size≤AP then x else y)=x:=if_pos (by show 5≤AP;decide)
theorem cs6 {α:Type} (a b c d e f:UInt8) (x y:α):(if ({ data:=#[a,b,c,d,e,f] }:ByteArray).size≤AP then x else y)=x:=if_pos (by show 6≤AP;decide)
theorem cs7 {α:Type} (a b c d e f g:UInt8) (x y:α):(if ({ data:=#[a,b,c,d,e,f,g] }:ByteArray).size≤AP then x else y)=x:=if_pos (by show 7≤AP;decide)
theorem cs8 {α:Type} (a b c d e f g h:UInt8) (x y:α):(if ({ data:=#[a,b,c,d,e,f,g,h] }:ByteArray).size≤AP then x else y)=x:=if_pos (by show 8≤AP;decide)
end
/- Plain: the bits of the codes. -/
section
def BM (b:List Int) (i:Nat):Bool:=(b.getD (i / 64) 0).toNat.testBit (i % 64)
def uD (x:Int):Prop:=0≤x∧x<18446744073709551616
theorem E2 {x:Int} (h:uD x):(BitVec.ofInt 64 x).toNat=x.toNat:=by
 rw[BitVec.toNat_ofInt]
 have h1:=h.1
 have h2:=h.2
 rw[Int.emod_eq_of_lt h1 (by simpa using h2)]
theorem OG {n:Nat} (h:n<18446744073709551616):IntKind.u64.wrap (n:Int)=n:=I5 (by rw[Hh];omega)
theorem A0z {x y:Int} (hx:uD x) (hy:uD y):CF .or .u64 x y=((x.toNat ||| y.toNat:Nat):Int):=by
 have h1:(BitVec.ofInt IntKind.u64.bits x ||| BitVec.ofInt IntKind.u64.bits y).toNat=x.toNat ||| y.toNat:=by
  rw[BitVec.toNat_or]
  show (BitVec.ofInt 64 x).toNat ||| (BitVec.ofInt 64 y).toNat=_
  rw[E2 hx,E2 hy]
 unfold CF
 simp only
 rw[h1]
 have e:(18446744073709551616:Nat)=2 ^ 64:=by decide
 refine OG ?_
 rw[e]
 refine Nat.or_lt_two_pow ?_ ?_
 ·have:=hx.2;have:=hx.1;omega
 ·have:=hy.2;have:=hy.1;omega
theorem HG {x y:Int} (hx:uD x) (hy:uD y):CF .and .u64 x y=((x.toNat &&& y.toNat:Nat):Int):=by
 have h1:(BitVec.ofInt IntKind.u64.bits x &&& BitVec.ofInt IntKind.u64.bits y).toNat=x.toNat &&& y.toNat:=by
  rw[BitVec.toNat_and]
  show (BitVec.ofInt 64 x).toNat &&& (BitVec.ofInt 64 y).toNat=_
  rw[E2 hx,E2 hy]
 unfold CF
 simp only
 rw[h1]
 refine OG (Nat.lt_of_le_of_lt Nat.and_le_left ?_)
 have:=hx.2;have:=hx.1;omega
theorem PK {x y:Int}:CF .andNot .u64 x y=((BitVec.ofInt 64 x &&& ~~~BitVec.ofInt 64 y).toNat:Int):=by
 show IntKind.u64.wrap ((BitVec.ofInt 64 x &&& ~~~BitVec.ofInt 64 y).toNat:Int)=_
 exact OG (BitVec.isLt _)
theorem QX {x y:Int} (hx:uD x) (hy:uD y) (h:CF .andNot .u64 x y=0) {r:Nat} (hr:r<64) (hb:x.toNat.testBit r=true):y.toNat.testBit r=true:=by
 rw[PK]at h
 have h1:(BitVec.ofInt 64 x &&& ~~~BitVec.ofInt 64 y).toNat=0:=by omega
 have h2:(BitVec.ofInt 64 x &&& ~~~BitVec.ofInt 64 y).toNat.testBit r=false:=by rw[h1];exact Nat.zero_testBit r
 rw[BitVec.testBit_toNat,BitVec.getLsbD_and,BitVec.getLsbD_not,←BitVec.testBit_toNat,←BitVec.testBit_toNat,E2 hx,E2 hy,hb]at h2
 simpa[hr] using h2
theorem QY {x:Int}:CF .andNot .u64 x x=0:=by
 rw[PK]
 simp
theorem Mk {b:List Int}:∀ {n:Nat},∀k,CQ b n≤k→k<n→b.getD k 0=0
 | 0,k,_,h=>by omega
 | n+1,k,h1,h2=>by
  unfold CQ at h1
  split at h1
  ·rename_i hz
   by_cases hk:k=n
   ·rw[hk];exact hz
   ·exact Mk k h1 (by omega)
  ·omega
theorem OH (b:List Int) (k:Nat):(BE b).getD k 0=b.getD k 0:=by
 unfold BE
 by_cases h:k<CQ b b.length
 ·simp[List.getD_eq_getElem?_getD,List.getElem?_take,h]
 ·have h1:(List.take (CQ b b.length) b).getD k 0=0:=by
   rw[List.getD_eq_getElem?_getD,List.getElem?_take,if_neg h];rfl
  rw[h1]
  by_cases h2:k<b.length
  ·exact(Mk k (by omega) h2).symm
  ·rw[List.getD_eq_getElem?_getD,List.getElem?_eq_none (by omega)];rfl
theorem Ml (b:List Int) (i:Nat):BM (BE b) i=BM b i:=by unfold BM;rw[OH]
def Hn (b:List Int):Prop:=∀x∈b,uD x
theorem A6 {b:List Int} (h:Hn b) (k:Nat):uD (b.getD k 0):=by
 rw[List.getD_eq_getElem?_getD]
 cases hh:b[k]? with
 | none=>exact⟨by simp,by simp⟩
 | some x=>exact h x (List.mem_of_getElem? hh)
theorem Mm {b:List Int} (h:Hn b):Hn (BE b):=fun x hx=>h x (List.mem_of_mem_take hx)
theorem Gi (b:List Int) (k:Nat):FZ b (k:Int)=b.getD k 0:=by
 unfold FZ
 split
 ·simp
 ·rename_i h
  rw[List.getD_eq_getElem?_getD,List.getElem?_eq_none (by omega)];rfl
theorem Ld (op:BinOp) (a b:List Int) {n k:Nat} (h:k<n):(Fj op a b n).getD k 0=CF op .u64 (a.getD k 0) (b.getD k 0):=by
 unfold Fj
 rw[List.getD_eq_getElem?_getD,List.getElem?_map,List.getElem?_range h]
 show CF op .u64 (a.getD k 0) (FZ b (k:Int))=_
 rw[Gi]
theorem Wr {a b:List Int} (h:Ef a b=true) {k:Nat} (hk:k<a.length):CF .andNot .u64 (a.getD k 0) (b.getD k 0)=0:=by
 unfold Ef PE BE at h
 have h1:(List.take (CQ (Fj .andNot a b a.length) (Fj .andNot a b a.length).length) (Fj .andNot a b a.length)).length=0:=by
  have:=beq_iff_eq.1 h
  omega
 rw[List.length_take,D0]at h1
 have h2:=Sh (Fj .andNot a b a.length) a.length
 have h3:=Mk (b:=Fj .andNot a b a.length) (n:=a.length) k (by omega) hk
 rw[Ld _ _ _ hk]at h3
 exact h3
theorem Kg {a b:List Int} (ha:Hn a) (hb:Hn b) (h:Ef a b=true) {i:Nat} (hi:BM a i=true):BM b i=true:=by
 by_cases hk:i / 64<a.length
 ·exact QX (A6 ha _) (A6 hb _) (Wr h hk) (Nat.mod_lt _ (by decide)) hi
 ·exfalso
  unfold BM at hi
  rw[List.getD_eq_getElem?_getD,List.getElem?_eq_none (by omega)]at hi
  simp at hi
theorem PM {b:List Int}:∀ {n:Nat},(∀k,k<n→b.getD k 0=0)→CQ b n=0
 | 0,_=>rfl
 | n+1,h=>by
  unfold CQ
  rw[if_pos (h n (by omega))]
  exact PM fun k hk=>h k (by omega)
theorem Yr (a:List Int):Ef a a=true:=by
 unfold Ef PE BE
 have h1:CQ (Fj .andNot a a a.length) (Fj .andNot a a a.length).length=0:=by
  rw[D0]
  exact PM fun k hk=>by rw[Ld _ _ _ hk];exact QY
 rw[h1]
 rfl
theorem Ys (a:List Int):FM a a=true:=by unfold FM;rw[Yr];rfl
theorem A0A {b:List Int} (hb:Hn b) (hl:b.length=64) {x:Int} (h0:0≤x) (h1:x≤4095) (i:Nat):BM (o7 b x) i=(BM b i||decide (x=(i:Int))):=by
 have e1:Int.tdiv x 64=x / 64:=Int.tdiv_eq_ediv_of_nonneg h0
 have e2:Int.tmod x 64=x % 64:=Int.tmod_eq_emod_of_nonneg h0
 obtain⟨n,rfl⟩:∃n:Nat,x=(n:Int):=⟨x.toNat,by omega⟩
 have hs:Vv .u64 1 ((n:Int) % 64)=((2 ^ (n % 64):Nat):Int):=by
  unfold Vv
  have e3:min ((n:Int) % 64).toNat IntKind.u64.bits=n % 64:=by
   have:((n:Int) % 64).toNat=n % 64:=by omega
   rw[this]
   have:IntKind.u64.bits=64:=rfl
   omega
  rw[e3,Int.one_mul]
  have:(2:Int) ^ (n % 64)=((2 ^ (n % 64):Nat):Int):=by simp
  rw[this]
  refine OG ?_
  have h3:(2:Nat) ^ (n % 64)<2 ^ 64:=Nat.pow_lt_pow_right (by decide) (Nat.mod_lt _ (by decide))
  exact h3
 have hu:uD (Vv .u64 1 ((n:Int) % 64)):=by
  rw[hs]
  have h3:(2:Nat) ^ (n % 64)<2 ^ 64:=Nat.pow_lt_pow_right (by decide) (Nat.mod_lt _ (by decide))
  have h4:(2:Nat) ^ 64=18446744073709551616:=by decide
  refine⟨Int.natCast_nonneg _,?_⟩
  rw[h4]at h3
  exact Int.ofNat_lt.2 h3
 have hn:((n:Int) / 64).toNat=n / 64:=by omega
 unfold o7 BM
 rw[e1,e2,hn]
 by_cases hd:i / 64=n / 64
 ·have hlt:n / 64<b.length:=by omega
  rw[hd]
  have:(b.set (n / 64) (CF .or .u64 (b.getD (n / 64) 0) (Vv .u64 1 ((n:Int) % 64)))).getD (n / 64) 0=CF .or .u64 (b.getD (n / 64) 0) (Vv .u64 1 ((n:Int) % 64)):=by
   simp[List.getD_eq_getElem?_getD,hlt]
  rw[this,A0z (A6 hb _) hu,hs]
  simp only[Int.toNat_natCast,Nat.testBit_or,Nat.testBit_two_pow]
  congr 1
  rw[decide_eq_decide]
  omega
 ·have:(b.set (n / 64) (CF .or .u64 (b.getD (n / 64) 0) (Vv .u64 1 ((n:Int) % 64)))).getD (i / 64) 0=b.getD (i / 64) 0:=by
   simp[List.getD_eq_getElem?_getD,List.getElem?_set,Ne.symm hd]
  rw[this]
  have:decide ((n:Int)=(i:Int))=false:=by
   rw[decide_eq_false_iff_not]
   intro h
   exact hd (by omega)
  rw[this,Bool.or_false]
theorem A0B {b:List Int} (hb:Hn b) (x:Int):Hn (o7 b x):=by
 intro y hy
 unfold o7 at hy
 rcases List.mem_or_eq_of_mem_set hy with h|h
 ·exact hb y h
 ·rw[h]
  have:=LE .u64 ((BitVec.ofInt IntKind.u64.bits (b.getD (x.tdiv 64).toNat 0) ||| BitVec.ofInt IntKind.u64.bits (Vv .u64 1 (x.tmod 64))).toNat:Int)
  rw[Hh]at this
  exact⟨this.1,by have:=this.2;show _<_;exact Int.lt_of_le_of_lt this (by decide)⟩
theorem A0C {l:List Int} (h:l.all okB=true) (i:Nat):BM (qP l) i=decide ((i:Int)∈l)∧Hn (qP l):=by
 have key:∀(l b:List Int),l.all okB=true→Hn b→b.length=64→BM (l.foldl o7 b) i=(BM b i||decide ((i:Int)∈l))∧Hn (l.foldl o7 b):=by
  intro l
  induction l with
  | nil=>intro b _ hb _;simp[hb]
  | cons x l ih =>
   intro b ho hb hl
   rw[List.all_cons,Bool.and_eq_true]at ho
   have hx:=ho.1
   unfold okB at hx
   rw[Bool.not_eq_true',Bool.or_eq_false_iff,decide_eq_false_iff_not,decide_eq_false_iff_not]at hx
   obtain⟨g1,g2⟩:=ih (o7 b x) ho.2 (A0B hb x) (by simp[o7,hl])
   rw[List.foldl_cons]
   refine⟨?_,g2⟩
   rw[g1,A0A hb hl (by omega) (by omega),Bool.or_assoc]
   congr 1
   rw[←Bool.decide_or,decide_eq_decide,List.mem_cons,eq_comm]
 have h2:Hn (List.replicate 64 (0:Int)):=by
  intro y hy
  rw[(List.mem_replicate.1 hy).2]
  exact⟨by decide,by decide⟩
 have h1:=key l (List.replicate 64 0) h h2 (by simp)
 refine⟨?_,h1.2⟩
 unfold qP
 rw[h1.1]
 have:BM (List.replicate 64 (0:Int)) i=false:=by
  unfold BM
  have:(List.replicate 64 (0:Int)).getD (i / 64) 0=0:=by
   rw[List.getD_eq_getElem?_getD,List.getElem?_replicate]
   split<;>rfl
  rw[this]
  simp
 rw[this,Bool.false_or]
theorem uE {low all:List ByteArray} {n i:Nat}:((i:Int)∈Mj low all n)↔i<n∧Aa low (all.getD i ByteArray.empty)=true:=by
 unfold Mj
 rw[List.mem_map]
 constructor
 ·rintro⟨j,hj,e⟩
  have:j=i:=by omega
  subst this
  rw[List.mem_filter,List.mem_range]at hj
  exact hj
 ·rintro⟨h1,h2⟩
  exact⟨i,by rw[List.mem_filter,List.mem_range];exact⟨h1,h2⟩,rfl⟩
theorem A0D {low all:List ByteArray} {n:Nat} (hn:n≤4096):(Mj low all n).all okB=true:=by
 rw[List.all_eq_true]
 intro x hx
 unfold Mj at hx
 obtain⟨j,hj,rfl⟩:=List.mem_map.1 hx
 rw[List.mem_filter,List.mem_range]at hj
 unfold okB
 rw[Bool.not_eq_true',Bool.or_eq_false_iff,decide_eq_false_iff_not,decide_eq_false_iff_not]
 exact⟨by omega,by omega⟩
theorem D5 {d:List AI} {all:List ByteArray} (hl:all.length≤4096) (s:ByteArray) (i:Nat):(BM (GV d all s) i=true↔i<all.length∧Aa (DT d s) (all.getD i ByteArray.empty)=true)∧Hn (GV d all s)∧(GV d all s).length≤64:=by
 have h1:=A0D (low:=DT d s) (all:=all) hl
 have h2:=A0C h1 i
 have h3:GV d all s=BE (qP (Mj (DT d s) all all.length)):=by
  unfold GV xB
  rw[if_pos h1]
 refine⟨?_,?_,?_⟩
 ·rw[h3,Ml,h2.1,decide_eq_true_eq,uE]
 ·rw[h3];exact Mm h2.2
 ·rw[h3]
  unfold BE
  have:=OC (Mj (DT d s) all all.length)
  rw[List.length_take]
  omega
end
/- Plain: what is placed stands in order; what is below comes behind. -/
section
theorem QZ (d:List AI) {s t:ByteArray} (h:Am s t=true):A9 d s=A9 d t:=by
 have key:∀(l:List AI) (k:Nat),CR s k l=CR t k l:=by
  intro l
  induction l with
  | nil=>intro k;rfl
  | cons x l ih =>
   intro k
   simp only[CR]
   have:Am x.1 s=Am x.1 t:=by
    cases h1:Am x.1 s with
    | true=>exact(Bx h1 h).symm
    | false =>
     cases h2:Am x.1 t with
     | false=>rfl
     | true=>rw[Bx h2 (Em h)]at h1;cases h1
   rw[this,ih]
 exact key d 0
theorem DA {α:Type} {l:List α} {d:α} {k:Nat} (h:k<l.length):l.getD k d∈l:=by
 rw[List.getD_eq_getElem?_getD,List.getElem?_eq_getElem h]
 exact List.getElem_mem h
theorem Bn {α:Type} {l:List α} (d:α) {x:α} (h:x∈l):∃k,k<l.length∧l.getD k d=x:=by
 obtain⟨k,hk,e⟩:=List.mem_iff_getElem.1 h
 exact⟨k,hk,by rw[List.getD_eq_getElem?_getD,List.getElem?_eq_getElem hk];exact e⟩
theorem Kh {d:List AI}:∀ {r:List AI} {k:Nat},Mg d k r=0→∀j,j<r.length→¬A9 d (r.getD j d0).1<((k+j:Nat):Int)∧EP (r.getD j d0).1 false=true
 | [],_,_,j,hj=>by simp at hj
 | x :: r,k,h,j,hj=>by
  simp only[Mg]at h
  split at h
  ·cases h
  ·rename_i h1
   split at h
   ·cases h
   ·rename_i h2
    cases j with
    | zero=>exact⟨h2,by simpa using h1⟩
    | succ j =>
     have:=Kh h j (by simpa using hj)
     have e:k+(j+1)=k+1+j:=by omega
     rw[e]
     exact this
theorem OI (s:ByteArray):∀(l:List AI) (k j:Nat),j<l.length→Am (l.getD j d0).1 s=true→CR s k l≤((k+j:Nat):Int)
 | [],_,j,h,_=>by simp at h
 | x :: l,k,j,h,e=>by
  simp only[CR]
  split
  ·omega
  ·rename_i h1
   cases j with
   | zero=>exact absurd e h1
   | succ j =>
    have:=OI s l (k+1) j (by simpa using h) e
    omega
theorem OJ {d:List AI} (h:DR d=0) {j:Nat} (hj:j<d.length):A9 d (d.getD j d0).1=(j:Int):=by
 have h1:=(Kh h j hj).1
 have h2:=OI (d.getD j d0).1 d 0 j hj (El _)
 rw[Nat.zero_add]at h1 h2
 have h2:A9 d (d.getD j d0).1≤(j:Int):=h2
 omega
theorem Yt {d:List AI} (h:DR d=0) {x y:AI} (hx:x∈d) (hy:y∈d) (e:Am x.1 y.1=true):x=y:=by
 obtain⟨i,hi,rfl⟩:=Bn d0 hx
 obtain⟨j,hj,rfl⟩:=Bn d0 hy
 have h1:=OJ h hi
 have h2:=OJ h hj
 rw[QZ d e,h2]at h1
 have:i=j:=by omega
 rw[this]
theorem bS (d:List AI) (out:List ByteArray) (h:(HC d out).1=true):∃x∈d,x.1=(HC d out).2∧Aa out x.1=false∧HB x out=true:=by
 have key:∀(l:List AI) (s:Bool×ByteArray),(∀x∈l,x∈d)→(s.1=true→∃x∈d,x.1=s.2∧Aa out x.1=false∧HB x out=true)→(l.foldl (Hl out) s).1=true →
   ∃x∈d,x.1=(l.foldl (Hl out) s).2∧Aa out x.1=false∧HB x out=true:=by
  intro l
  induction l with
  | nil=>intro s _ hs h;exact hs h
  | cons y l ih =>
   intro s hl hs h
   rw[List.foldl_cons]at h ⊢
   refine ih _ (fun x hx=>hl x (by simp[hx])) (fun hp=>?_) h
   unfold Hl at hp ⊢
   split
   ·rename_i hc
    rw[if_pos hc]at hp
    exact hs hp
   ·rename_i hc
    simp only
    have hc:Aa out y.1=false∧HB y out=true:=by simpa using hc
    split
    ·exact⟨y,hl y (by simp),rfl,hc⟩
    ·rename_i hc2
     have:s.1=true:=by
      cases hh:s.1 with
      | true=>rfl
      | false=>rw[hh]at hc2;simp at hc2
     exact hs this
 exact key d _ (fun _ h=>h) (fun h=>by cases h) h
def PL (d:List AI) (o:List ByteArray):Prop:=∀j,j<o.length→∃x∈d,x.1=o.getD j ByteArray.empty∧Aa (o.take j) x.1=false∧HB x (o.take j)=true
theorem PL.snoc {d:List AI} {o:List ByteArray} (h:PL d o) {x:AI} (hx:x∈d) (h1:Aa o x.1=false) (h2:HB x o=true):PL d (o++[x.1]):=by
 intro j hj
 by_cases hjo:j<o.length
 ·obtain⟨y,hy,e1,e2,e3⟩:=h j hjo
  refine⟨y,hy,?_,?_,?_⟩
  ·rw[e1];simp[List.getD_eq_getElem?_getD,List.getElem?_append,hjo]
  ·rw[List.take_append_of_le_length (by omega)];exact e2
  ·rw[List.take_append_of_le_length (by omega)];exact e3
 ·have hj2:j=o.length:=by simp at hj;omega
  subst hj2
  refine⟨x,hx,?_,?_,?_⟩
  ·simp[List.getD_eq_getElem?_getD]
  ·rw[List.take_append_of_le_length (by omega),List.take_length];exact h1
  ·rw[List.take_append_of_le_length (by omega),List.take_length];exact h2
theorem Sv {d:List AI}:∀ {n:Nat} {o:List ByteArray},PL d o→PL d (Hm d n o)
 | 0,_,h=>h
 | n+1,o,h=>by
  unfold Hm
  split
  ·rename_i hp
   obtain⟨x,hx,e,h1,h2⟩:=bS d o hp
   rw[←e]
   exact Sv (h.snoc hx h1 h2)
  ·exact h
theorem VL (d:List AI):PL d (BR d):=Sv fun j hj=>by simp at hj
theorem PL.ok {d:List AI} {o:List ByteArray} (h:PL d o):XZ d o:=by
 refine⟨fun s hs=>?_,?_⟩
 ·obtain⟨j,hj,rfl⟩:=Bn ByteArray.empty hs
  obtain⟨x,hx,e,-⟩:=h j hj
  rw[←e]
  exact Eo hx
 ·rw[List.pairwise_iff_getElem]
  intro i j hi hj hij
  obtain⟨x,hx,e,h1,-⟩:=h j hj
  have h2:=OB h1 o[i] (by rw[List.mem_take_iff_getElem];exact⟨i,by omega,rfl⟩)
  rw[e]at h2
  rw[List.getD_eq_getElem?_getD,List.getElem?_eq_getElem hj]at h2
  exact h2
theorem bT {n:Nat} {l:List Nat} (h:l.Nodup) (hl:∀j∈l,j<n) (hn:n≤l.length) {k:Nat} (hk:k<n):k∈l:=by
 refine Classical.byContradiction fun hc=>?_
 have:=EC n (k :: l) (List.nodup_cons.2 ⟨hc,h⟩) (fun j hj=>by
  rcases List.mem_cons.1 hj with rfl|hj
  ·exact hk
  ·exact hl j hj)
 simp at this
 omega
theorem bU {d:List AI} (hl:d.length≤(BR d).length) {x:AI} (hx:x∈d):∃s∈BR d,Am s x.1=true:=by
 have hA:=(VL d).ok
 have h1:=JU d hA
 have h0:=Eo hx
 have hd:=DH d x.1
 have h2:=bT (n:=d.length) h1 (fun j hj=>by
  obtain⟨s,hs,rfl⟩:=List.mem_map.1 hj
  have h1:=hA.decl s hs
  rcases DH d s with g|⟨_,g,_⟩<;>omega) (by simpa using hl) (k:=(A9 d x.1).toNat) (by omega)
 obtain⟨s,hs,e⟩:=List.mem_map.1 h2
 refine⟨s,hs,?_⟩
 rcases DH d s with g|⟨_,_,g1⟩
 ·have:=hA.decl s hs;omega
 ·rcases hd with g|⟨_,_,g2⟩
  ·omega
  ·rw[e]at g1
   exact Bx (Em g1) g2
def HH (d:List AI) (s:ByteArray):Nat:=(BR d).findIdx fun x=>Am x s
theorem Mn (d:List AI) {s t:ByteArray} (h:Am s t=true):HH d s=HH d t:=by
 unfold HH
 congr 1
 funext x
 cases h1:Am x s with
 | true=>exact(Bx h1 h).symm
 | false =>
  cases h2:Am x t with
  | false=>rfl
  | true=>rw[Bx h2 (Em h)]at h1;cases h1
theorem Mo {d:List AI} (hn:DR d=0) (hl:d.length≤(BR d).length) {x:AI} (hx:x∈d) {s:ByteArray} (hs:Aa x.2.1 s=true):HH d s<HH d x.1:=by
 obtain⟨t,ht,e⟩:=bU hl hx
 have hlt:HH d x.1<(BR d).length:=List.findIdx_lt_length_of_exists ⟨t,ht,e⟩
 have heq:Am ((BR d)[HH d x.1]) x.1=true:=List.findIdx_getElem (w:=hlt)
 obtain⟨y,hy,e1,-,h3⟩:=VL d (HH d x.1) hlt
 rw[List.getD_eq_getElem?_getD,List.getElem?_eq_getElem hlt]at e1
 have e1:y.1=(BR d)[HH d x.1]:=e1
 rw[←e1]at heq
 have hyx:=Yt hn hy hx heq
 subst hyx
 obtain⟨u,hu,eu⟩:=List.any_eq_true.1 hs
 have h4:Aa ((BR d).take (HH d y.1)) u=true:=List.all_eq_true.1 h3 u hu
 obtain⟨v,hv,ev⟩:=List.any_eq_true.1 h4
 rw[List.mem_take_iff_getElem]at hv
 obtain⟨i,hi,rfl⟩:=hv
 have hi2:i<HH d y.1:=by omega
 refine Nat.lt_of_le_of_lt ?_ hi2
 refine Classical.byContradiction fun hc=>?_
 have h5:=List.not_of_lt_findIdx (p:=fun x=>Am x s) (xs:=BR d) (i:=i) (by unfold HH at hc;omega)
 have h6:Am ((BR d)[i]) s=true:=Bx ev eu
 try simp only at h5
 rw[h6]at h5
 exact absurd h5 (by simp)
def UJ (d:List AI) (s x:ByteArray):Prop:=Am s x=true∨HH d s<HH d x
theorem pB {d:List AI} (hn:DR d=0) (hl:d.length≤(BR d).length) {s c:ByteArray} (hc:UJ d s c) {o:List ByteArray} (ho:∀x∈o,UJ d s x) {x:AI} (hx:x∈d):∀y∈E5 c o x,UJ d s y:=by
 intro y hy
 unfold E5 at hy
 split at hy
 ·rename_i h
  rw[Bool.and_eq_true]at h
  rcases List.mem_append.1 hy with hy|hy
  ·exact ho y hy
  ·have:y=x.1:=by simpa using hy
   subst this
   have h1:=Mo hn hl hx h.1
   right
   rcases hc with hc|hc
   ·rw[Mn d hc];exact h1
   ·omega
 ·exact ho y hy
theorem Sw {d:List AI} (hn:DR d=0) (hl:d.length≤(BR d).length) {s c:ByteArray} (hc:UJ d s c):∀ {l:List AI} {o:List ByteArray},(∀x∈l,x∈d)→(∀x∈o,UJ d s x)→∀y∈l.foldl (E5 c) o,UJ d s y
 | [],_,_,ho=>ho
 | x :: l,o,hx,ho=>by
  rw[List.foldl_cons]
  exact Sw hn hl hc (fun y hy=>hx y (by simp[hy])) (pB hn hl hc ho (hx x (by simp)))
theorem Qa {d:List AI} (hn:DR d=0) (hl:d.length≤(BR d).length) {s:ByteArray}:∀ {n i:Nat} {o:List ByteArray},(∀x∈o,UJ d s x)→∀y∈DS d n i o,UJ d s y
 | 0,_,_,ho=>ho
 | n+1,i,o,ho=>by
  unfold DS
  split
  ·rename_i hi
   exact Qa hn hl (Sw hn hl (ho _ (DA hi)) (fun _ h=>h) ho)
  ·exact ho
theorem uF {c:ByteArray} {o:List ByteArray} {x:AI} {y:ByteArray} (h:y∈o):y∈E5 c o x:=by
 unfold E5
 split
 ·exact List.mem_append.2 (.inl h)
 ·exact h
theorem Le {c:ByteArray} {y:ByteArray}:∀ {l:List AI} {o:List ByteArray},y∈o→y∈l.foldl (E5 c) o
 | [],_,h=>h
 | x :: l,o,h=>by rw[List.foldl_cons];exact Le (uF h)
theorem Mp {d:List AI} {y:ByteArray}:∀ {n i:Nat} {o:List ByteArray},y∈o→y∈DS d n i o
 | 0,_,_,h=>h
 | n+1,i,o,h=>by
  unfold DS
  split
  ·exact Mp (Le h)
  ·exact h
theorem OK {l:List ByteArray} {s x:ByteArray} (h:x∈Dk l s):x∈l∨x=s:=by
  unfold Dk at h
  split at h
  · exact .inl h
  · simp only[List.mem_append,List.mem_cons,List.mem_singleton]at h
    rcases h with h|h
    · first
        | exact .inl (List.mem_of_mem_take h)
        | (rcases h with h | h
           · exact .inl (List.mem_of_mem_take h)
           · exact .inr (by simpa using h))
    · first
        | exact .inl (List.mem_of_mem_drop h)
        | (rcases h with h | h
           · exact .inr h
           · exact .inl (List.mem_of_mem_drop h))
theorem VM {l:List ByteArray} {s x:ByteArray} (h:x∈l):x∈Dk l s:=by
 unfold Dk
 split
 ·exact h
 ·have h2:x∈l.take (qO l s)∨x∈l.drop (qO l s):=List.mem_append.1 (by rw[List.take_append_drop];exact h)
  simp only[List.mem_append,List.mem_cons,List.mem_singleton]
  rcases h2 with h2|h2<;>simp[h2]
theorem Yu {l:List ByteArray} {s:ByteArray}:Aa (Dk l s) s=true:=by
  unfold Dk
  split
  · rename_i h
    first
      | exact F4 l ByteArray.empty _ h.1 h.2
      | (have h : qO l s < l.length ∧ Am (l.getD (qO l s) ByteArray.empty) s = true := by simpa using h
         exact F4 l ByteArray.empty _ h.1 h.2)
  · unfold Aa
    rw[List.any_eq_true]
    exact⟨s,by simp,El s⟩
theorem Lf {l:List ByteArray} {s:ByteArray} (h:s∈l):Aa l s=true:=List.any_eq_true.2 ⟨s,h,El s⟩
theorem Lg {l m:List ByteArray} {s:ByteArray} (hs:∀x∈l,x∈m) (h:Aa l s=true):Aa m s=true:=by
 obtain⟨x,hx,e⟩:=List.any_eq_true.1 h
 exact List.any_eq_true.2 ⟨x,hs x hx,e⟩
theorem Yv:∀ {l o:List ByteArray} {x:ByteArray},x∈l.foldl Dk o→x∈o∨x∈l
 | [],_,_,h=>.inl h
 | y :: l,o,x,h=>by
  rw[List.foldl_cons]at h
  rcases Yv h with h|h
  ·rcases OK h with h|h
   ·exact .inl h
   ·exact .inr (by simp[h])
  ·exact .inr (by simp[h])
theorem VN:∀ {l o:List ByteArray} {x:ByteArray},x∈o→x∈l.foldl Dk o
 | [],_,_,h=>h
 | y :: l,o,x,h=>by rw[List.foldl_cons];exact VN (VM h)
theorem Sx:∀ {l o:List ByteArray} {x:ByteArray},x∈l→Aa (l.foldl Dk o) x=true
 | [],_,_,h=>by cases h
 | y :: l,o,x,h=>by
  rw[List.foldl_cons]
  rcases List.mem_cons.1 h with rfl|h
  ·exact Lg (fun z hz=>VN hz) (Yu (l:=o) (s:=x))
  ·exact Sx h
theorem Mq {d:List AI} {s:ByteArray} (h:0≤A9 d s):Aa (DT d s) s=true:=by
 unfold DT
 rw[if_neg (by omega)]
 exact Sx (Mp (by simp))
theorem Sy {d:List AI} (hn:DR d=0) (hl:d.length≤(BR d).length) {s x:ByteArray} (h:Aa (DT d s) x=true):UJ d s x:=by
 obtain⟨y,hy,e⟩:=List.any_eq_true.1 h
 have hb:UJ d s y:=by
  unfold DT at hy
  split at hy
  ·cases hy
  ·rcases Yv hy with hy|hy
   ·cases hy
   ·refine Qa hn hl (fun z hz=>?_) y hy
    have:z=s:=by simpa using hz
    rw[this]
    exact .inl (El s)
 rcases hb with hb|hb
 ·exact .inl (Bx hb e)
 ·rw[Mn d e]at hb
  exact .inr hb
theorem Fl {d:List AI} {s:ByteArray} (h:s∈AU d):∃x∈d,x.1=s:=by
 have key:∀(l:List AI) (o:List ByteArray),s∈l.foldl (fun o x=>Dk o x.1) o→s∈o∨∃x∈l,x.1=s:=by
  intro l
  induction l with
  | nil=>intro o h;exact .inl h
  | cons x l ih =>
   intro o h
   rw[List.foldl_cons]at h
   rcases ih _ h with h|⟨y,hy,e⟩
   ·rcases OK h with h|h
    ·exact .inl h
    ·exact .inr ⟨x,by simp,h.symm⟩
   ·exact .inr ⟨y,by simp[hy],e⟩
 rcases key d [] h with h|h
 ·cases h
 ·exact h
theorem Sz {d:List AI} {x:AI} (h:x∈d):Aa (AU d) x.1=true:=by
 have keep:∀(l:List AI) (o:List ByteArray),∀y∈o,y∈l.foldl (fun o x=>Dk o x.1) o:=by
  intro l
  induction l with
  | nil=>intro o y h;exact h
  | cons x l ih=>intro o y h;rw[List.foldl_cons];exact ih _ y (VM h)
 have key:∀(l:List AI) (o:List ByteArray),x∈l→Aa (l.foldl (fun o x=>Dk o x.1) o) x.1=true:=by
  intro l
  induction l with
  | nil=>intro o h;cases h
  | cons y l ih =>
   intro o h
   rw[List.foldl_cons]
   rcases List.mem_cons.1 h with rfl|h
   ·exact Lg (keep l _) (Yu (l:=o) (s:=x.1))
   ·exact ih _ h
 exact key d [] h
theorem Yw {d:List AI} (hn:DR d=0) (hl:d.length≤(BR d).length) (h2:d.length≤256) {i j:Nat} (hi:i<(AU d).length) (hj:j<(AU d).length)
  (h:FM (GV d (AU d) ((AU d).getD i ByteArray.empty)) (GV d (AU d) ((AU d).getD j ByteArray.empty))=true):Am ((AU d).getD i ByteArray.empty) ((AU d).getD j ByteArray.empty)=true:=by
 have hnl:=Ek d d.length
 rw[List.take_length]at hnl
 have hal:(AU d).length≤4096:=by omega
 generalize hs:(AU d).getD i ByteArray.empty=s at *
 generalize ht:(AU d).getD j ByteArray.empty=t at *
 have hsd:0≤A9 d s:=by
  obtain⟨x,hx,e⟩:=Fl (s:=s) (by rw[←hs];exact DA hi)
  rw[←e];exact Eo hx
 have htd:0≤A9 d t:=by
  obtain⟨x,hx,e⟩:=Fl (s:=t) (by rw[←ht];exact DA hj)
  rw[←e];exact Eo hx
 obtain⟨c1,w1,-⟩:=D5 (d:=d) hal s i
 obtain⟨c2,w2,-⟩:=D5 (d:=d) hal t i
 obtain⟨c3,-,-⟩:=D5 (d:=d) hal s j
 obtain⟨c4,-,-⟩:=D5 (d:=d) hal t j
 unfold FM at h
 rw[Bool.and_eq_true]at h
 have b1:=Sy hn hl (c2.1 (Kg w1 w2 h.1 (c1.2 ⟨hi,by rw[hs];exact Mq hsd⟩))).2
 have b2:=Sy hn hl (c3.1 (Kg w2 w1 h.2 (c4.2 ⟨hj,by rw[ht];exact Mq htd⟩))).2
 rw[hs]at b1
 rw[ht]at b2
 rcases b1 with b1|b1
 ·exact Em b1
 ·rcases b2 with b2|b2
  ·exact b2
  ·omega
end
end Go.Proofs.YtebfihindnhccaaGreat.Fw
