/- Contracts of the program's and the reference's functions, and the plain laws of what they compute: C24 C25 N3 C26 C27 C28 C29 N4 C30 C31 C32 C33 C34 C35 D1 D4 V4 D2 D3 V5 V6 N5 N6 R07a R15c P8 G1 G3 G2 G4 G5 G6 P1 P9 R08a P3 P4 P5 P2 P7 W1 W2 W3 W4 W5 U1 U2 U3. -/
/- Functions of grammarlabref04: name. -/
import Derived.Test.YtebfihindnhccaaGreatHYA
import Derived.Test.YtebfihindnhccaaGreatHZI
import Derived.Test.YtebfihindnhccaaGreatHZJ
set_option linter.unusedVariables false
set_option linter.unusedSimpArgs false
namespace Go.Proofs.YtebfihindnhccaaGreat.Fw
open Go
attribute [local irreducible] Ev
attribute [local go_sem] Xz AN List.toList_toArray Bd evG evK T7 D8 I2 F1 FG FC NF Jj Bv Cq LA B4 CO frz Z3 Fx Cp A3 E6 Bb AV.frz AV.frzs AV.drp AV.drps AV.names AV.namess aq Fz Ji Iu Qs Hq BN BP IK EL HY EM Ha HZ Hb Ri M9 GD Iv E8 Dl Rj Oi qS IL Hc J2 Eh Ds Qt CA Dt ET Oj Ol J3 Ht Iw Cd CU Er DL Gm DJ EU DK Du FA B4 CM Qr Oh MO Ft Hs Hr J1 L3 NC J5 J8 J6 Iz Px J7 I0 Vy NE ND AV.trn AV.trns Dg B9 Obj.trn Ia YK Cf Cy Ce Dv CN EV Ap lk GW Fy Gj w9 Z2 UA Z5 Pw nL nM xC AV.cells Bo II M8 Iy NB B2 L1 Ty.cell1 HX EK DI FX MN Eg It J0 Pt Fv GC Lv Qq Rh Jy Ir Vu Xc Pu L2 CY IJ RV.flat Ty.flat Ty.size St.add upd T6 BT Value.oneCell' Jv Ty.dflt HW Nc Gt Np List.take_succ_cons List.take_zero List.length_cons X8 X9 Nn IX KN Gg IY rW FH LM LN LO LP Oy Oz LQ Hh Rz Option.map_some Option.map_none Option.bind_some Option.getD_some Option.getD_none Option.isNone_none Option.isNone_some Bool.and_true Bool.true_and Bool.and_false Bool.false_and Bool.not_true Bool.not_false if_true if_false List.length_cons List.length_nil and_true true_and and_self List.all_cons List.all_nil List.append_nil List.nil_append List.cons_append List.getElem?_cons_zero List.getElem?_cons_succ List.getElem?_nil List.map_cons List.map_nil List.set_cons_zero List.set_cons_succ List.isEmpty_nil List.isEmpty_cons decide_true decide_false beq_self_eq_true bne_self_eq_false Nat.zero_add Nat.add_zero Nat.sub_zero Int.toNat_natCast Int.toNat_zero Int.toNat_one List.take_length List.length_append List.length_singleton true_or or_true or_self false_or or_false Ty.agg.injEq Ty.slice.injEq Ty.prod.injEq Ty.int.injEq Option.some.injEq beq_iff_eq KL evMG evMQ r7 Gv KJ Bh IW F2 Nh IU Gu Hi JA Jn MX L8 MY Qw KK Nj Nk IV AZ Af Op.operands Call.operands List.filterMap_cons List.filterMap_nil List.append_eq Bool.cond_false_right Bool.cond_true_left cond_true cond_false implies_true decide_eq_true_eq beq_true beq_false Bool.or_true Bool.or_false Bool.true_or Bool.false_or Option.isSome_some E7 LB EW Gk Vx NA E9 Fd Fc Hd Gl Ix J4 UB Z4 UN inB I1 FB Fu IM Ca YB List.drop_zero DP Gx WT EO JG Co AV.fgt AV.fgts Obj.fgt BD Av AZ Cj JF BW F3 List.any_cons List.any_nil aX YE WU YF KO O3 qs List.flatMap_cons List.flatMap_nil List.cons_append tn WW GR List.take_succ_cons List.drop_succ_cons yJ SM RI e7 LV Cu DZ Au FF I9 CB EZ Dm Hy Hg Fg Gr
attribute [local go_sem] ty1 ty2 ty3 ty4 ty5 ty9 yM yN yO yP yQ yR yS yT yU yV yW yX yY yZ y3 y4 y5 y6 y7 y8 y9 zA zB zC zD zE zF zG zH zI zJ zK zL zM zN zO zP zQ zR zS zT zU zV zW zX zY zZ z4 z5 z6 z7 z8 z9 A00 A01 A02 A03 A04 A05 A06 A07 A08 A09 A0a A0b A0c A0d A0e A0f A0g A0h A0i A0j A0k A0l A0m A0n A0o fC fD fE fF fG fH fI fJ fK fL fM fO fP fQ fR fS fT fU fV fW fX fY fZ f6 f7 f8 f9 gB gC gD gE gF gG gH gI gJ gK gL gM gP gQ gR gS gT gU gV gW gX gY gZ g9 hC hD hH hY hZ iA iB iC iD iE iG iH iI iJ iK iL iM iO iP iQ iR iT iU iV iW iX iY iZ i3 i4 i5 i6 i7 i8 i9 jA jB jC jD jE jF jG jH jI jJ jK jL jM jN jO jP jQ jR jS jT jU jV jW jX jY jZ j4 j5 j6 j7 j8 j9 kA kB kC kD kE kF kG kH kI kJ kK kL kM kN kO kP kQ kR kS kT kU kV kW kX kY kZ k4 k5 k6 k7 k8 k9 lA lB lC lD lF lG lH lI lJ lK lL lM lO lQ lR lS lU lV lW
set_option maxRecDepth 100000
set_option maxHeartbeats 4000000
section
attribute [local go_sem] RL bM HF cs0 cs1
def nmG (d:List AI) (all:List ByteArray) (codes:List (List Int)) (b:List Int):Nat→Nat→List ByteArray→ByteArray ⊕ List ByteArray
 | 0,_,l=>.inr l
 | n+1,i,l=>if FM (codes.getD i []) b=true then .inl (all.getD i ByteArray.empty) else nmG d all codes b n (i+1) (if Si b (i:Int)=true then l++[all.getD i ByteArray.empty] else l)
def Yx (l:List ByteArray) (s:ByteArray) (i:Nat):ByteArray:=(if 0<(i:Int) then s++ByteArray.mk #[38] else s)++l.getD i ByteArray.empty
def uG (l:List ByteArray):ByteArray:=(List.range l.length).foldl (Yx l) ByteArray.empty
def HI (d:List AI) (all:List ByteArray) (codes:List (List Int)) (b:List Int):ByteArray :=
 match nmG d all codes b all.length 0 [] with
 | .inl s=>s
 | .inr l=>uG (Bm d l)
theorem MH {d:List AI} {x:ByteArray}:∀ {l o:List ByteArray},x∈l.foldl (Jr d) o→x∈o∨x∈l
 | [],_,h=>.inl h
 | y :: l,o,h=>by
  rw[List.foldl_cons]at h
  rcases MH h with h|h
  ·unfold Jr at h
   split at h
   ·rcases OK h with h|h
    ·exact .inl h
    ·exact .inr (by simp[h])
   ·exact .inl h
  ·exact .inr (by simp[h])
theorem Ws {d:List AI} {l:List ByteArray} {x:ByteArray} (h:x∈Bm d l):x∈l:=by
 unfold Bm Q2 at h
 obtain⟨i,hi,rfl⟩:=List.mem_map.1 h
 rw[List.mem_filter,List.mem_range]at hi
 rcases MH (DA (d:=ByteArray.empty) hi.1) with h|h
 ·cases h
 ·exact h
theorem Wt (d:List AI) (l:List ByteArray):(Bm d l).length≤l.length:=Nat.le_trans (Ym _ _ _) (IA d l)
theorem bV {l:List ByteArray} (h:∀s∈l,s.size≤32) (k:Nat):(l.getD k ByteArray.empty).size≤32:=by
 rw[List.getD_eq_getElem?_getD]
 cases hh:l[k]? with
 | none=>simp
 | some x=>exact h x (List.mem_of_getElem? hh)
def S0 (l:List ByteArray) (n:Nat):ByteArray:=(List.range n).foldl (Yx l) ByteArray.empty
theorem S1 (l:List ByteArray) (n:Nat):S0 l (n+1)=Yx l (S0 l n) n:=by
 unfold S0
 rw[List.range_succ,List.foldl_append]
 rfl
theorem S2 {l:List ByteArray} (h:∀s∈l,s.size≤32):∀n,(S0 l n).size≤33*n
 | 0=>by simp[S0]
 | n+1=>by
  have h1:=S2 h n
  have h2:=bV h n
  rw[S1]
  unfold Yx
  split
  ·rw[ByteArray.size_append,ByteArray.size_append]
   have:(ByteArray.mk #[38]).size=1:=rfl
   omega
  ·rw[ByteArray.size_append]
   omega
def RQ:Ak:={ ins:=[EI,Bj,Qz,A8],pre:=fun(d,all,codes,b,_)=>Sm d∧List.length d≤256∧List.length all≤256∧List.length codes=List.length all∧(∀s∈(all:List ByteArray),s.size≤32)∧(∀x∈(codes:List (List Int)),x.length≤64)∧List.length b≤64,out:=fun(d,all,codes,b,_)=>[.p T9 (HI d all codes b)] }
theorem pC:Ao Tryz.prog 137 RQ:=by
 refine AX Tryz.func137 (by kernel_rfl) rfl Tryz.ntmps137 (by decide) (by kernel_rfl) (AJ [(186,RL),(187,bM),(188,HF)]) (AF oV (AF tV (AF Sq AL))) ?_
 rintro w0 O0 ⟨d,all,codes,b,u⟩ hc-⟨hs,hd,hall,hcd,hsz,hcw,hb⟩
 have hall:all.length≤256:=hall
 have hcd:codes.length=all.length:=hcd
 simp only[RQ,AN]
 repeat'(first|exact trivial|refine eS rfl ?_|refine AB ?_|refine rX [0,1,2,3,8,9,10,11,12,16,24,31,45,49] hc ?_ ?_|refine rC ?_ ?_<;>intro AA<;>try(cases AA;done))
 refine AK (ι:={x:Nat×List ByteArray//x.1≤all.length∧x.2.length≤x.1∧(∀s∈x.2,s.size≤32)∧nmG d all codes b (all.length-x.1) x.1 x.2=nmG d all codes b all.length 0 []}) (fun x=>⟨[(0,.p EI d),(1,.p Bj all),(2,.p Qz codes),(3,.p A8 b),(9,.sr 38 T9 0 x.1.2.length),(10,.p (.int .i64) (x.1.1:Int))],[(38,.arr 9 T9 x.1.2)]⟩) (fun x=>all.length-x.1.1) ⟨(0,[]),by simp,by simp,by simp,rfl⟩ (AC [(38,.nil)] rfl rfl ?_ ?_) (fun x=>?_)
 ·first|exact eN|refine eM ?_
 ·first|exact eN|refine eM ?_
 ·obtain⟨⟨i,l⟩,hi,hli,hls,hg⟩:=x
  simp only at hi hli hls hg
  have hstep:i<all.length→nmG d all codes b (all.length-i) i l=if FM (codes.getD i []) b=true then .inl (all.getD i ByteArray.empty) else nmG d all codes b (all.length-(i+1)) (i+1) (if Si b (i:Int)=true then l++[all.getD i ByteArray.empty] else l):=by
   intro h
   rw[show all.length-i=(all.length-(i+1))+1 by omega]
   rfl
  simp only
  repeat'(first|exact trivial|refine eS rfl ?_|refine AB ?_|refine rX [0,1,2,3,8,9,10,11,12,16,24,31,45,49] hc ?_ ?_|refine rC ?_ ?_<;>intro AA<;>try(cases AA;done))
  ·exact⟨by rw[hcd];exact AA,Nat.le_trans (Ke hcw i) (by decide),Nat.le_trans hb (by decide)⟩
  ·assumption
  ·have hi2:i<all.length:=by exact eV
   have hr:HI d all codes b=all.getD i ByteArray.empty:=by
    unfold HI
    rw[←hg,hstep hi2,if_pos AA]
   exact AH hc [.tmp 8] rfl (.inl rfl) (by simp) (by rw[hr];first|exact eR|refine Ax ?_)
  ·have hi2:i<all.length:=by exact eV
   exact⟨Int.ofNat_lt.2 hi2,by simp only[AP];omega⟩
  ·exact eV
  ·have hi2:i<all.length:=by exact eV
   have hn:=hstep hi2
   rw[if_neg (by rw[‹FM _ _=false›];simp),if_pos AA]at hn
   refine⟨⟨(i+1,l++[all.getD i ByteArray.empty]),by simp only;omega,by simp only[List.length_append,List.length_singleton];omega,?_,hn.symm.trans hg⟩,by simp only;omega,AC [(38,.nm 38)] rfl rfl ?_ ?_⟩
   ·intro s hs
    rcases List.mem_append.1 hs with hs|hs
    ·exact hls s hs
    ·have:s=all.getD i ByteArray.empty:=by simpa using hs
     rw[this]
     exact bV hsz i
   ·first|exact eN|refine eM ?_
   ·first|exact eN|refine eM ?_
  ·exact eV
  ·have hi2:i<all.length:=by exact eV
   have hn:=hstep hi2
   rw[if_neg (by rw[‹FM _ _=false›];simp),if_neg (by rw[AA];simp)]at hn
   refine⟨⟨(i+1,l),by simp only;omega,by simp only;omega,hls,hn.symm.trans hg⟩,by simp only;omega,AC [(38,.nm 38)] rfl rfl ?_ ?_⟩
   ·first|exact eN|refine eM ?_
   ·first|exact eN|refine eM ?_
  ·have hr:HI d all codes b=uG (Bm d l):=by
    unfold HI
    rw[←hg]
    have:all.length-i=0:=by exact eV
    rw[this]
    rfl
   refine Gb [38] ?_
   repeat'(first|exact trivial|refine eS rfl ?_|refine AB ?_|refine rX [0,1,2,3,8,9,10,11,12,16,24,31,45,49] hc ?_ ?_|refine rC ?_ ?_<;>intro AA<;>try(cases AA;done))
   ·exact⟨hs,hd,by omega⟩
   ·have hmm:∀s∈Bm d l,s.size≤32:=fun s h=>hls s (Ws h)
    have hml:=Wt d l
    have hjf:uG (Bm d l)=S0 (Bm d l) (Bm d l).length:=rfl
    rw[hjf]at hr
    generalize Bm d l=m at *
    refine AK (ι:={k:Nat//k≤m.length}) (fun k=>⟨[(9,.p Bj m),(11,.p T9 (S0 m k.1)),(12,.p (.int .i64) (k.1:Int))],[]⟩) (fun k=>m.length-k.1) ⟨0,Nat.zero_le _⟩ (AC [] rfl rfl ?_ ?_) (fun k=>?_)
    ·first|exact eN|refine eM ?_
    ·first|exact eN|refine eM ?_
     rfl
    ·obtain⟨k,hk⟩:=k
     have hk:k≤m.length:=hk
     have hjs:=S2 hmm k
     have hss:=S1 m k
     have hs2:=bV hmm k
     unfold Yx at hss
     simp only
     repeat'(first|exact trivial|refine eS rfl ?_|refine AB ?_|refine rX [0,1,2,3,8,9,10,11,12,16,24,31,45,49] hc ?_ ?_|refine rC ?_ ?_<;>intro AA<;>try(cases AA;done))
     ·have h1:(ByteArray.mk #[38]).size=1:=rfl
      rw[h1]
      simp only[AP]
      exact eV
     ·refine⟨by assumption,?_⟩
      have h1:(ByteArray.mk #[38]).size=1:=rfl
      rw[ByteArray.size_append,h1]
      simp only[AP]
      exact eV
     ·exact eV
     ·have hk2:k<m.length:=by exact eV
      rw[if_pos AA]at hss
      refine⟨⟨k+1,hk2⟩,by simp only;omega,AC [] rfl rfl ?_ ?_⟩
      ·first|exact eN|refine eM ?_
      ·simp only[hss]
       first|exact eN|refine eM ?_
     ·refine⟨by assumption,?_⟩
      simp only[AP]
      exact eV
     ·exact eV
     ·have hk2:k<m.length:=by exact eV
      rw[if_neg (Int.not_lt.2 AA)]at hss
      refine⟨⟨k+1,hk2⟩,by simp only;omega,AC [] rfl rfl ?_ ?_⟩
      ·first|exact eN|refine eM ?_
      ·simp only[hss]
       first|exact eN|refine eM ?_
     ·have hk2:k=m.length:=by exact eV
      rw[←hk2]at hr
      exact AH hc [.tmp 8] rfl (.inl rfl) (by simp) (by rw[hr];first|exact eR|refine Ax ?_)
end
/- Functions of grammarlabref04: Codes. -/
section
attribute [local go_sem] OA JS mG RP RQ RN
def E3 (x:AQ) (out:List AQ):Nat→Nat
 | 0=>0
 | n+1=>if FN x (out.getD n c0)=true then E3 x out n else n+1
def Wu (out:List AQ) (x:AQ):List AQ:=out.take (E3 x out out.length)++[x]++out.drop (E3 x out out.length)
def Ac (d:List AI):List (List Int):=(AU d).map fun s=>GV d (AU d) s
def Fm (d:List AI) (all:List ByteArray) (codes:List (List Int)) (out:List AQ) (b:List Int):List AQ:=Wu out (HI d all codes b,b)
def PN (d:List AI):List AQ→List Int→List AQ:=Fm d (AU d) (Ac d)
theorem Mr (d:List AI) (all:List ByteArray) (codes:List (List Int)):∀(l:List (List Int)) (o:List AQ),(l.foldl (Fm d all codes) o).length=o.length+l.length
 | [],o=>by simp
 | b :: l,o=>by
  rw[List.foldl_cons,Mr d all codes l]
  unfold Fm Wu
  simp only[List.length_append,List.length_take,List.length_drop,List.length_cons,List.length_nil]
  omega
theorem S3 {d:List AI} {all:List ByteArray} {codes:List (List Int)}:∀ {l:List (List Int)} {o:List AQ},(∀c∈l,c.length≤64)→(∀y∈o,y.2.length≤64)→∀y∈l.foldl (Fm d all codes) o,y.2.length≤64
 | [],_,_,ho=>ho
 | b :: l,o,hl,ho=>by
  rw[List.foldl_cons]
  refine S3 (fun c hc=>hl c (by simp[hc])) (fun y hy=>?_)
  unfold Fm Wu at hy
  simp only[List.mem_append,List.mem_singleton]at hy
  rcases hy with (hy|hy)|hy
  ·exact ho y (List.mem_of_mem_take hy)
  ·rw[hy];exact hl b (by simp)
  ·exact ho y (List.mem_of_mem_drop hy)
theorem Yy (x:AQ) (out:List AQ):∀n,E3 x out n≤n
 | 0=>Nat.le_refl _
 | n+1=>by
  unfold E3
  split
  ·exact Nat.le_succ_of_le (Yy x out n)
  ·exact Nat.le_refl _
def Aw (d:List AI):List AQ:=(Ay (Ac d)).foldl (PN d) []
def Bk (d:List AI):List AQ×Int :=
 if BG d≠0 then ([],BG d) else if 256<(Ay (Ac d)).length then ([],7) else (Aw d,0)
theorem bW {s:ByteArray} {b:Bool} (h:EP s b=true):s.size≤32:=by
 unfold EP at h
 rw[Bool.and_eq_true]at h
 have h1:=h.1
 unfold PC at h1
 simp only[Bool.not_eq_true',Bool.or_eq_false_iff,decide_eq_false_iff_not]at h1
 have:=h1.1.1.2
 omega
theorem Yz {d:List AI} (hn:DR d=0):∀s∈AU d,s.size≤32:=by
 intro s hs
 obtain⟨x,hx,rfl⟩:=Fl hs
 obtain⟨j,hj,rfl⟩:=Bn d0 hx
 exact bW (Kh hn j hj).2
def JV (d:List AI) (n:Nat):List (List Int):=((AU d).take n).map fun s=>GV d (AU d) s
theorem bX {d:List AI} {n:Nat} (h:n≤(AU d).length):(JV d n).length=n:=by simp[JV,h]
theorem Y0 {d:List AI} {n:Nat} (h:n<(AU d).length):JV d (n+1)=JV d n++[GV d (AU d) ((AU d).getD n ByteArray.empty)]:=by
 unfold JV
 rw[Ab _ ByteArray.empty h,List.map_append]
 rfl
theorem bZ (d:List AI):JV d (AU d).length=Ac d:=by simp[JV,Ac]
theorem b8 (d:List AI):(Ac d).length=(AU d).length:=by simp[Ac]
theorem Ms {d:List AI} (h:d.length≤256):∀c∈Ac d,c.length≤64:=by
 intro c hc
 unfold Ac at hc
 obtain⟨s,-,rfl⟩:=List.mem_map.1 hc
 have hnl:=Ek d d.length
 rw[List.take_length]at hnl
 exact(D5 (d:=d) (all:=AU d) (by omega) s 0).2.2
theorem Y2 {i:Nat}:∀ {n k:Nat} {l:List (List Int)},(∀c∈l,c.length≤64)→∀c∈GJ i n k l,c.length≤64
 | 0,_,_,h=>h
 | n+1,k,l,h=>by
  unfold GJ
  split
  ·exact Y2 (Yq h i k)
  ·exact h
theorem OL:∀ {n i:Nat} {l:List (List Int)},(∀c∈l,c.length≤64)→∀c∈IB n i l,c.length≤64
 | 0,_,_,h=>h
 | n+1,i,l,h=>by
  unfold IB
  split
  ·exact OL (Y2 h)
  ·exact h
theorem Y3 {out:List AQ} {x y:AQ}:y∈Wu out x↔y=x∨y∈out:=by
 unfold Wu
 rw[List.mem_append,List.mem_append,List.mem_singleton]
 have h:=List.mem_append (a:=y) (s:=out.take (E3 x out out.length)) (t:=out.drop (E3 x out out.length))
 rw[List.take_append_drop]at h
 rw[h]
 constructor
 ·rintro ((h|h)|h)
  ·exact .inr (.inl h)
  ·exact .inl h
  ·exact .inr (.inr h)
 ·rintro (h|h|h)
  ·exact .inl (.inr h)
  ·exact .inl (.inl h)
  ·exact .inr h
def IC:Ak:={ ins:=[EI],pre:=fun _=>True,out:=fun(d,_)=>[.p Ic (Bk d).1,.p YO (Bk d).2] }
theorem OM:Ao Tryz.prog 97 IC:=by
 refine AX Tryz.func97 (by kernel_rfl) rfl Tryz.ntmps97 (by decide) (by kernel_rfl) (AJ [(133,OA),(134,JS),(135,mG),(136,RP),(137,RQ),(138,RN)]) (AF o5 (AF VA (AF A0y (AF pA (AF pC (AF o8 AL)))))) ?_
 rintro w0 O0 ⟨d,u⟩ hc - -
 simp only[IC,AN]
 repeat'(first|exact trivial|refine eS rfl ?_|refine AB ?_|refine rX [0,2,3,4,5,6,7,8,9,10,11,12,13,17,24,41,45,73] hc ?_ ?_|refine rC ?_ ?_<;>intro AA<;>try(cases AA;done))
 ·have h1:Bk d=([],BG d):=by unfold Bk;rw[if_pos AA]
  exact AH hc [.tmp 2,.tmp 3] rfl (.inl rfl) (by simp) (by rw[h1];first|exact eR|refine Ax ?_)
 ·have h3:BG d=0:=by simpa using AA
  obtain⟨-,h2,-⟩:=A5 h3
  exact Nat.le_trans h2 (by decide)
 ·have h3:BG d=0:=by simpa using AA
  obtain⟨hsup,hd,-,hn,-⟩:=A5 h3
  have hal:=Ek d d.length
  rw[List.take_length]at hal
  have hsz:=Yz hn
  refine AK (ι:={n:Nat//n≤(AU d).length}) (fun n=>⟨[(0,.p EI d),(5,.p Bj (AU d)),(6,.sr 36 A8 0 (JV d n.1).length),(7,.p (.int .i64) (n.1:Int))],[(36,.arr 142 A8 (JV d n.1))]⟩) (fun n=>(AU d).length-n.1) ⟨0,Nat.zero_le _⟩ (AC [(36,.nil)] rfl rfl ?_ ?_) (fun n=>?_)
  ·first|exact eN|refine eM ?_
   rfl
  ·first|exact eN|refine eM ?_
   rfl
  ·obtain⟨n,hnn⟩:=n
   have hcl:=bX hnn
   have hs:=fun h=>Y0 (d:=d) (n:=n) h
   simp only
   repeat'(first|exact trivial|refine eS rfl ?_|refine AB ?_|refine rX [0,2,3,4,5,6,7,8,9,10,11,12,13,17,24,41,45,73] hc ?_ ?_|refine rC ?_ ?_<;>intro AA<;>try(cases AA;done))
   ·refine⟨AA,⟨hd,by dsimp only[Ty.den]at *;omega⟩,?_⟩
    simp only[AP]
    dsimp only[Ty.den]at *
    omega
   ·exact eV
   ·have hn2:n<(AU d).length:=by exact eV
    have e:=hs hn2
    refine⟨⟨n+1,by omega⟩,by simp only;omega,AC [(36,.nm 36)] rfl rfl ?_ ?_⟩
    ·simp only[e]
     first|exact eN|refine eM ?_
    ·simp only[e]
     first|exact eN|refine eM ?_
   ·have hn2:n=(AU d).length:=by exact eV
    subst hn2
    rw[bZ]
    have hcL:=b8 d
    have hwid:=Ms hd
    have hfw:∀c∈Ay (Ac d),c.length≤64:=OL hwid
    refine Gb [36] ?_
    repeat'(first|exact trivial|refine eS rfl ?_|refine AB ?_|refine rX [0,2,3,4,5,6,7,8,9,10,11,12,13,17,24,41,45,73] hc ?_ ?_|refine rC ?_ ?_<;>intro AA<;>try(cases AA;done))
    ·exact⟨by omega,hwid⟩
    ·have h1:Bk d=([],7):=by
      unfold Bk
      rw[if_neg (by rw[h3];simp),if_pos (by omega)]
     exact AH hc [.tmp 2,.tmp 3] rfl (.inl rfl) (by simp) (by rw[h1];first|exact eR|refine Ax ?_)
    ·have hr:Bk d=((Ay (Ac d)).foldl (Fm d (AU d) (Ac d)) [],0):=by
      unfold Bk
      rw[if_neg (by rw[h3];simp),if_neg (by omega)]
      rfl
     generalize Ay (Ac d)=fam at *
     generalize Ac d=codes at *
     generalize AU d=all at *
     refine AK (ι:={k:Nat//k≤fam.length}) (fun k=>⟨[(0,.p EI d),(5,.p Bj all),(6,.p Qz codes),(8,.p Qz fam),(9,.sr 9 Wa 0 ((fam.take k.1).foldl (Fm d all codes) []).length),(10,.p (.int .i64) (k.1:Int))],[(9,.arr 144 Wa ((fam.take k.1).foldl (Fm d all codes) []))]⟩) (fun k=>fam.length-k.1) ⟨0,Nat.zero_le _⟩ (AC [(9,.nil)] rfl rfl ?_ ?_) (fun k=>?_)
     ·first|exact eN|refine eM ?_
      rfl
     ·first|exact eN|refine eM ?_
      rfl
     ·obtain⟨k,hk⟩:=k
      have hol:=Mr d all codes (fam.take k) []
      have htl:(fam.take k).length=k:=by rw[List.length_take];exact Nat.min_eq_left hk
      have how:=S3 (d:=d) (all:=all) (codes:=codes) (l:=fam.take k) (o:=[]) (fun c hc=>hfw c (List.mem_of_mem_take hc)) (by simp)
      have hss:=fun h:k<fam.length=>EE (Fm d all codes) fam [] [] h
      rw[htl]at hol
      simp only[List.length_nil,Nat.zero_add]at hol
      generalize ho:(fam.take k).foldl (Fm d all codes) []=out at *
      simp only
      repeat'(first|exact trivial|refine eS rfl ?_|refine AB ?_|refine rX [0,2,3,4,5,6,7,8,9,10,11,12,13,17,24,41,45,73] hc ?_ ?_|refine rC ?_ ?_<;>intro AA<;>try(cases AA;done))
      ·exact⟨AA,⟨hsup,hd,by omega,hcL,hsz,hwid,Ke hfw k⟩,AA⟩
      ·have hk2:k<fam.length:=by exact eV
       have e:=hss hk2
       have hbw:=Ke hfw k
       generalize fam.getD k []=b at *
       unfold Fm at e
       generalize HI d all codes b=nm at *
       refine AK (ι:={q:Nat//q≤out.length∧E3 (nm,b) out q=E3 (nm,b) out out.length}) (fun q=>⟨[(0,.p EI d),(5,.p Bj all),(6,.p Qz codes),(8,.p Qz fam),(9,.sr 9 Wa 0 out.length),(10,.p (.int .i64) (k:Int)),(11,.bp 11 [] 0),(12,.p (.int .i64) (q.1:Int))],[(9,.arr 144 Wa out),(11,.box 144 true [.p T9 nm,.p A8 b])]⟩) (fun q=>q.1) ⟨out.length,Nat.le_refl _,rfl⟩ (AC [(9,.nm 9),(11,.nm 11)] rfl rfl ?_ ?_) (fun q=>?_)
       ·first|exact eN|refine eM ?_
       ·first|exact eN|refine eM ?_
       ·obtain⟨q,hq,hins⟩:=q
        have hq:q≤out.length:=hq
        simp only
        repeat'(first|exact trivial|refine eS rfl ?_|refine AB ?_|refine rX [0,2,3,4,5,6,7,8,9,10,11,12,13,17,24,41,45,73] hc ?_ ?_|refine rC ?_ ?_<;>intro AA<;>try(cases AA;done))
        ·refine⟨fun h=>by omega,fun h=>by exact eV,fun h=>⟨Nat.le_trans hbw (by decide),Nat.le_trans (how _ (AD out c0 (k:=((q:Int)-1).toNat) (by omega))) (by decide)⟩⟩
        ·omega
        ·obtain⟨g1,g2⟩:=AA
         obtain⟨q,rfl⟩:∃r,q=r+1:=⟨q-1,by omega⟩
         have g3:((q+1:Nat):Int)-1=(q:Int):=by omega
         refine⟨⟨q,by omega,?_⟩,Nat.lt_succ_self q,AC [(9,.nm 9),(11,.nm 11)] rfl rfl ?_ ?_⟩
         ·rw[←hins]
          rw[g3,Int.toNat_natCast]at g2
          show _=if FN (nm,b) (out.getD q c0)=true then E3 (nm,b) out q else q+1
          rw[if_pos g2]
         ·first|exact eN|refine eM ?_
         ·first|exact eN|refine eM ?_
          show (q:Int)+1-1=q
          omega
        ·refine⟨Int.ofNat_le.2 hq,?_⟩
         rw[List.length_take]
         simp only[AP]
         omega
        ·rw[List.length_take]
         simp only[AP]
         omega
        ·refine⟨Int.ofNat_le.2 hq,?_⟩
         rw[List.length_take,List.length_drop]
         simp only[AP]
         omega
        ·omega
        ·have hpos:E3 (nm,b) out q=q:=by
          cases q with
          | zero=>rfl
          | succ q =>
           have g3:((q+1:Nat):Int)-1=(q:Int):=by omega
           have:=AA (by omega)
           rw[g3,Int.toNat_natCast]at this
           show (if FN (nm,b) (out.getD q c0)=true then E3 (nm,b) out q else q+1)=q+1
           rw[if_neg (by rw[this];simp)]
         unfold Wu at e
         rw[←hins,hpos]at e
         refine⟨⟨k+1,by omega⟩,by simp only;omega,AC [(9,.nm 80)] rfl rfl ?_ ?_⟩
         ·first|exact eN|refine eM ?_
          exact e.symm
         ·first|exact eN|refine eM ?_
          have e2:=congrArg List.length e
          rw[List.length_append,List.length_append]at e2
          exact e2.symm
      ·have hk2:k=fam.length:=by exact eV
       rw[hk2,List.take_length]at ho
       rw[ho]at hr
       refine Gb [9] ?_
       exact AH hc [.tmp 2,.tmp 3] rfl (.inl rfl) (by simp) (by rw[hr];first|exact eR|refine Ax ?_)
end
/- Plain: each declared type has a number among the codes. -/
section
theorem VO {d:List AI}:∀ {l:List (List Int)} {o:List AQ} {y:AQ},y∈l.foldl (PN d) o↔y∈o∨∃b∈l,y=(HI d (AU d) (Ac d) b,b)
 | [],o,y=>by simp
 | b :: l,o,y=>by
  rw[List.foldl_cons,VO]
  unfold PN Fm
  rw[Y3]
  simp only[List.mem_cons]
  constructor
  ·rintro ((h|h)|⟨c,hc,e⟩)
   ·exact .inr ⟨b,.inl rfl,h⟩
   ·exact .inl h
   ·exact .inr ⟨c,.inr hc,e⟩
  ·rintro (h|⟨c,rfl|hc,e⟩)
   ·exact .inl (.inr h)
   ·exact .inl (.inl e)
   ·exact .inr ⟨c,hc,e⟩
theorem DV {d:List AI} {y:AQ}:y∈Aw d↔∃b∈Ay (Ac d),y=(HI d (AU d) (Ac d) b,b):=by
 unfold Aw
 rw[VO]
 simp
theorem HJ (d:List AI):(Aw d).length=(Ay (Ac d)).length:=by
 have h:=Mr d (AU d) (Ac d) (Ay (Ac d)) []
 rw[List.length_nil,Nat.zero_add]at h
 exact h
theorem uH {l:List (List Int)} {i k:Nat} {c:List Int} (h:c∈l):c∈GI l i k:=by
 unfold GI
 split
 ·exact List.mem_append.2 (.inl h)
 ·exact h
theorem Y4 {i:Nat} {c:List Int}:∀ {n k:Nat} {l:List (List Int)},c∈l→c∈GJ i n k l
 | 0,_,_,h=>h
 | n+1,k,l,h=>by
  unfold GJ
  split
  ·exact Y4 (uH h)
  ·exact h
theorem Y5 {c:List Int}:∀ {n i:Nat} {l:List (List Int)},c∈l→c∈IB n i l
 | 0,_,_,h=>h
 | n+1,i,l,h=>by
  unfold IB
  split
  ·exact Y5 (Y4 h)
  ·exact h
theorem Qb (d:List AI) {i:Nat} (h:i<(AU d).length):(Ac d).getD i []=GV d (AU d) ((AU d).getD i ByteArray.empty):=by
 unfold Ac
 simp[List.getD_eq_getElem?_getD,h]
theorem mH {d:List AI} (hn:DR d=0) (hl:d.length≤(BR d).length) (h2:d.length≤256) {j:Nat} (hj:j<(AU d).length):∀(m i:Nat) (l:List ByteArray),i+m=(AU d).length→i≤j →
  ∃s,nmG d (AU d) (Ac d) ((Ac d).getD j []) m i l=.inl s∧Am s ((AU d).getD j ByteArray.empty)=true
 | 0,i,l,h,hij=>by omega
 | m+1,i,l,h,hij=>by
  unfold nmG
  split
  ·rename_i he
   refine⟨_,rfl,?_⟩
   rw[Qb d (by omega),Qb d hj]at he
   exact Yw hn hl h2 (by omega) hj he
  ·rename_i he
   have hne:i≠j:=by
    intro e
    subst e
    exact he (Ys _)
   exact mH hn hl h2 hj m (i+1) _ (by omega) (by omega)
theorem mI (s:ByteArray):∀(l:List AQ) (k:Nat),PH s k l<((k+l.length:Nat):Int)
 | [],k=>by simp only[PH];omega
 | x :: l,k=>by
  simp only[PH]
  split
  ·simp only[List.length_cons];omega
  ·have:=mI s l (k+1)
   simp only[List.length_cons]
   omega
theorem mJ (s:ByteArray):∀(l:List AQ) (k:Nat) (x:AQ),x∈l→Am x.1 s=true→0≤PH s k l
 | [],_,_,h,_=>by cases h
 | y :: l,k,x,h,e=>by
  simp only[PH]
  split
  ·omega
  ·rename_i hy
   rcases List.mem_cons.1 h with rfl|h
   ·exact absurd e hy
   ·exact mJ s l (k+1) x h e
theorem b9 (l:List AQ) (s:ByteArray):Cw l s<(l.length:Int):=by
 have:=mI s l 0
 rw[Nat.zero_add]at this
 exact this
theorem Qc {d:List AI} (h:BG d=0) {s:ByteArray} (hs:Aa (AU d) s=true):0≤Cw (Aw d) s:=by
 obtain⟨-,h2,-,hn,hl⟩:=A5 h
 obtain⟨t,ht,e⟩:=List.any_eq_true.1 hs
 obtain⟨j,hj,rfl⟩:=Bn ByteArray.empty ht
 obtain⟨u,hu,eu⟩:=mH hn hl h2 hj (AU d).length 0 [] (by omega) (by omega)
 have hlen:(Ac d).length=(AU d).length:=by simp[Ac]
 refine mJ s (Aw d) 0 (u,(Ac d).getD j []) ?_ (Bx eu e)
 rw[DV]
 refine⟨(Ac d).getD j [],Y5 (DA (by omega)),?_⟩
 unfold HI
 rw[hu]
theorem Qd {d:List AI} (h:BG d=0) {x:AI} (hx:x∈d):0≤Cw (Aw d) x.1:=Qc h (Sz hx)
theorem BZ {d:List AI} (h:(Bk d).2=0):BG d=0∧(Ay (Ac d)).length≤256∧(Bk d).1=Aw d:=by
 unfold Bk at h ⊢
 split at h
 ·rename_i h1;exact absurd h h1
 ·rename_i h1
  split at h
  ·cases h
  ·rename_i h2
   exact⟨Classical.byContradiction h1,by omega,by rw[if_neg h1,if_neg h2]⟩
theorem A0E {d:List AI} (h:BG d=0):0<(Aw d).length:=by
 obtain⟨-,-,hr,-,-⟩:=A5 h
 cases d with
 | nil=>cases hr
 | cons x d =>
  have:=Qd h (x:=x) (by simp)
  have h2:=b9 (Aw (x :: d)) x.1
  omega
end
/- Functions of grammarlabref04: Supers. -/
section
attribute [local go_sem] VE
def A2g (l:List AQ) (i k:Int) (m:Nat):Bool:=(m:Int)==i||(m:Int)==k||!MG l k (m:Int)||!MG l (m:Int) i
def pD (l:List AQ) (i k:Int) (n:Nat):Bool:=(List.range n).all (A2g l i k)
def pE (l:List AQ) (i:Int) (k:Nat):Bool:=!((k:Int)==i||!MG l (k:Int) i)&&pD l i (k:Int) l.length
def MI (l:List AQ) (i:Int) (n:Nat):List Int:=((List.range n).filter fun(k:Nat)=>pE l i k).map fun(k:Nat)=>(k:Int)
def Y6 (l:List AQ) (i:Int):List Int:=MI l i l.length
theorem cA (l:List AQ) (i:Int) (n:Nat):MI l i (n+1)=MI l i n++if pE l i n=true then [(n:Int)] else []:=by
 unfold MI
 rw[List.range_succ,List.filter_append,List.map_append]
 congr 1
 rw[List.filter_cons,List.filter_nil]
 split<;>rfl
theorem pF (l:List AQ) (i:Int) (n:Nat):(MI l i n).length≤n:=by
 unfold MI
 rw[List.length_map]
 exact Nat.le_trans (List.length_filter_le _ _) (by simp)
theorem pG (l:List AQ) (i k:Int) (n:Nat):pD l i k (n+1)=(pD l i k n&&A2g l i k n):=by
 unfold pD
 rw[List.range_succ,List.all_append]
 simp
def mK:Ak:={ ins:=[Ic,T3],pre:=fun(l,i,_)=>((0:Int)≤i∧i<(List.length l:Int))∧List.length l≤256∧(∀x∈(l:List AQ),x.2.length≤64),out:=fun(l,i,_)=>[.p Ez (Y6 l i)] }
theorem A0F:Ao Tryz.prog 98 mK:=by
 refine AX Tryz.func98 (by kernel_rfl) rfl Tryz.ntmps98 (by decide) (by kernel_rfl) (AJ [(139,VE)]) (AF mF AL) ?_
 rintro w0 O0 ⟨l,i,u⟩ hc-⟨hi,hl,hx⟩
 have hl:l.length≤256:=hl
 have hx2:∀x∈(l:List AQ),x.2.length≤100000:=fun x h=>Nat.le_trans (hx x h) (by decide)
 simp only[mK,AN]
 repeat'(first|exact trivial|refine eS rfl ?_|refine AB ?_|refine rX [0,1,4,5,6,7,8,12,24,28,56] hc ?_ ?_|refine rC ?_ ?_<;>intro AA<;>try(cases AA;done))
 refine AK (ι:={k:Nat//k≤l.length}) (fun k=>⟨[(0,.p Ic l),(1,.p T3 i),(5,.sr 60 T3 0 (MI l i k.1).length),(6,.p (.int .i64) (k.1:Int))],[(60,.arr 3 T3 (MI l i k.1))]⟩) (fun k=>l.length-k.1) ⟨0,Nat.zero_le _⟩ (AC [(60,.nil)] rfl rfl ?_ ?_) (fun k=>?_)
 ·first|exact eN|refine eM ?_
  rfl
 ·first|exact eN|refine eM ?_
  rfl
 ·obtain⟨k,hk⟩:=k
  have hk:k≤l.length:=hk
  have hz:=pF l i k
  have hs:=cA l i k
  simp only
  repeat'(first|exact trivial|refine eS rfl ?_|refine AB ?_|refine rX [0,1,4,5,6,7,8,12,24,28,56] hc ?_ ?_|refine rC ?_ ?_<;>intro AA<;>try(cases AA;done))
  ·intro h
   exact⟨by assumption,hi,hx2⟩
  ·exact eV
  ·have hk2:k<l.length:=by exact eV
   have hb:pE l i k=false:=by
    unfold pE
    rw[Bool.and_eq_false_iff]
    left
    rw[Bool.not_eq_false',Bool.or_eq_true,beq_iff_eq,Bool.not_eq_true']
    exact AA
   rw[hb,if_neg (by simp),List.append_nil]at hs
   refine⟨⟨k+1,by omega⟩,by simp only;omega,AC [(60,.nm 60)] rfl rfl ?_ ?_⟩
   ·simp only[hs]
    first|exact eN|refine eM ?_
   ·simp only[hs]
    first|exact eN|refine eM ?_
  ·have hk2:k<l.length:=by exact eV
   have hb:pE l i k=pD l i (k:Int) l.length:=by
    unfold pE
    rw[show ((k:Int)==i||!MG l (k:Int) i)=false by
     rw[Bool.or_eq_false_iff,beq_eq_false_iff_ne,Bool.not_eq_false'];exact AA]
    rfl
   refine AK (ι:={m:Nat//m≤l.length}) (fun m=>⟨[(0,.p Ic l),(1,.p T3 i),(5,.sr 60 T3 0 (MI l i k).length),(6,.p (.int .i64) (k:Int)),(7,.p .bool (pD l i (k:Int) m.1)),(8,.p (.int .i64) (m.1:Int))],[(60,.arr 3 T3 (MI l i k))]⟩) (fun m=>l.length-m.1) ⟨0,Nat.zero_le _⟩ (AC [(60,.nm 60)] rfl rfl ?_ ?_) (fun m=>?_)
   ·first|exact eN|refine eM ?_
   ·first|exact eN|refine eM ?_
    rfl
   ·obtain⟨m,hm⟩:=m
    have hm:m≤l.length:=hm
    have hds:=pG l i (k:Int) m
    simp only
    repeat'(first|exact trivial|refine eS rfl ?_|refine AB ?_|refine rX [0,1,4,5,6,7,8,12,24,28,56] hc ?_ ?_|refine rC ?_ ?_<;>intro AA<;>try(cases AA;done))
    ·exact⟨fun h=>⟨by assumption,AA,hx2⟩,fun h=>⟨AA,hi,hx2⟩⟩
    ·exact eV
    ·have hm2:m<l.length:=by exact eV
     refine⟨⟨m+1,by omega⟩,by simp only;omega,AC [(60,.nm 60)] rfl rfl ?_ ?_⟩
     ·first|exact eN|refine eM ?_
     ·simp only[hds]
      unfold A2g
      first|exact eN|refine eM ?_
    ·simp only[AP];dsimp only[Ty.den]at *;omega
    ·exact eV
    ·have hm2:m=l.length:=by exact eV
     subst hm2
     rw[hb,if_pos AA]at hs
     refine⟨⟨k+1,by omega⟩,by simp only;omega,AC [(60,.nm 60)] rfl rfl ?_ ?_⟩
     ·simp only[hs]
      first|exact eN|refine eM ?_
     ·simp only[hs]
      first|exact eN|refine eM ?_
    ·exact eV
    ·have hm2:m=l.length:=by exact eV
     subst hm2
     rw[hb,if_neg (by rw[AA];simp),List.append_nil]at hs
     refine⟨⟨k+1,by omega⟩,by simp only;omega,AC [(60,.nm 60)] rfl rfl ?_ ?_⟩
     ·simp only[hs]
      first|exact eN|refine eM ?_
     ·simp only[hs]
      first|exact eN|refine eM ?_
  ·have hk2:k=l.length:=by exact eV
   subst hk2
   refine Gb [60] ?_
   exact AH hc [.tmp 4] rfl (.inl rfl) (by simp) (by unfold Y6;first|exact eR|refine Ax ?_)
end
/- Functions of grammarlabref05: declarations. -/
section
attribute [local go_sem] JS N0 Dj
abbrev FV:=ByteArray×ByteArray
abbrev f0V:FV:=(ByteArray.empty,ByteArray.empty)
def qQ (all:List ByteArray) (l:List FV):Nat→List FV→Int
 | _,[]=>0
 | k,x :: r=>if EP x.1 true=false then 1 else if ((l.take k).any fun y=>Am y.1 x.1)=true then 4 else if Aa all x.2=false then 5 else qQ all l (k+1) r
def Wv (all:List ByteArray):List AI→Int
 | []=>0
 | x :: l=>if qQ all x.2.2 0 x.2.2≠0 then qQ all x.2.2 0 x.2.2 else Wv all l
def Ki (d:List AI):Int:=Wv (AU d) d
theorem uI (all:List ByteArray) (l:List FV) {k:Nat} (h:k<l.length):qQ all l k (l.drop k)=if EP (l.getD k f0V).1 true=false then 1 else if ((l.take k).any fun y=>Am y.1 (l.getD k f0V).1)=true then 4 else if Aa all (l.getD k f0V).2=false then 5 else qQ all l (k+1) (l.drop (k+1)):=by
 rw[List.drop_eq_getElem_cons h]
 have e:l.getD k f0V=l[k]:=by simp[List.getD_eq_getElem?_getD,h]
 rw[e]
 rfl
theorem pH (all:List ByteArray) (l:List AI) {k:Nat} (h:k<l.length):Wv all (l.drop k)=if qQ all (l.getD k d0).2.2 0 (l.getD k d0).2.2≠0 then qQ all (l.getD k d0).2.2 0 (l.getD k d0).2.2 else Wv all (l.drop (k+1)):=by
 rw[List.drop_eq_getElem_cons h]
 have e:l.getD k d0=l[k]:=by simp[List.getD_eq_getElem?_getD,h]
 rw[e]
 rfl
def Ww:Ak:={ ins:=[EI],pre:=fun(d,_)=>List.length d≤256,out:=fun(d,_)=>[.p YO (Ki d)] }
theorem uJ:Ao Tryz.prog 173 Ww:=by
 refine AX Tryz.func173 (by kernel_rfl) rfl Tryz.ntmps173 (by decide) (by kernel_rfl) (AJ [(134,JS),(204,N0),(183,Dj)]) (AF VA (AF bL (AF F5 AL))) ?_
 rintro w0 O0 ⟨d,u⟩ hc ⟨⟨hdl,hall⟩,-⟩ hd
 have hd:d.length≤256:=hd
 simp only[Ww,AN]
 repeat'(first|exact trivial|refine eS rfl ?_|refine AB ?_|refine rX [0,2,3,4,5,6,7,13,24,33,36,49,57] hc ?_ ?_|refine rC ?_ ?_<;>intro AA<;>try(cases AA;done))
 ·exact Nat.le_trans hd (by decide)
 ·have hdf:Ki d=Wv (AU d) d:=rfl
  rw[hdf]
  generalize AU d=all at *
  refine AK (ι:={i:Nat//i≤d.length∧Wv all (d.drop i)=Wv all d}) (fun i=>⟨[(0,.p EI d),(3,.p Bj all),(4,.p (.int .i64) (i.1:Int))],[]⟩) (fun i=>d.length-i.1) ⟨0,Nat.zero_le _,rfl⟩ (AC [] rfl rfl ?_ ?_) (fun i=>?_)
  ·first|exact eN|refine eM ?_
  ·first|exact eN|refine eM ?_
  ·obtain⟨i,hi,hf⟩:=i
   simp only
   repeat'(first|exact trivial|refine eS rfl ?_|refine AB ?_|refine rX [0,2,3,4,5,6,7,13,24,33,36,49,57] hc ?_ ?_|refine rC ?_ ?_<;>intro AA<;>try(cases AA;done))
   ·exact AA
   ·have hi2:i<d.length:=by exact eV
    rw[pH all d hi2]at hf
    have hfl:(d.getD i d0).2.2.length≤AP:=(hall _ (AD d d0 hi2)).2.2.1
    have hfe:(List.getD d i (ByteArray.empty,[],[])).2.2=(d.getD i d0).2.2:=rfl
    rw[hfe]
    generalize (d.getD i d0).2.2=l at *
    simp only[AP]at hfl
    refine AK (ι:={k:Nat//k≤l.length∧qQ all l k (l.drop k)=qQ all l 0 l}) (fun k=>⟨[(0,.p EI d),(3,.p Bj all),(4,.p (.int .i64) (i:Int)),(5,.p YP l),(6,.p (.int .i64) (k.1:Int))],[]⟩) (fun k=>l.length-k.1) ⟨0,Nat.zero_le _,rfl⟩ (AC [] rfl rfl ?_ ?_) (fun k=>?_)
    ·first|exact eN|refine eM ?_
    ·first|exact eN|refine eM ?_
    ·obtain⟨k,hk,hg⟩:=k
     have hstep:=fun h:k<l.length=>uI all l h
     simp only
     repeat'(first|exact trivial|refine eS rfl ?_|refine AB ?_|refine rX [0,2,3,4,5,6,7,13,24,33,36,49,57] hc ?_ ?_|refine rC ?_ ?_<;>intro AA<;>try(cases AA;done))
     ·exact AA
     ·have hk2:k<l.length:=by exact eV
      rw[hstep hk2,if_pos AA]at hg
      rw[←hg,if_pos (by decide)]at hf
      exact AH hc [.tmp 2] rfl (.inl rfl) (by simp) (by rw[←hf];first|exact eR|refine Ax ?_)
     ·have hk2:k<l.length:=by exact eV
      have hkI:(k:Int)<(l.length:Int):=Int.ofNat_lt.2 hk2
      rw[hstep hk2,if_neg (by rw[AA];simp)]at hg
      refine AK (ι:={m:Nat//m≤k∧((l.take m).any fun y=>Am y.1 (l.getD k f0V).1)=false}) (fun m=>⟨[(0,.p EI d),(3,.p Bj all),(4,.p (.int .i64) (i:Int)),(5,.p YP l),(6,.p (.int .i64) (k:Int)),(7,.p (.int .i64) (m.1:Int))],[]⟩) (fun m=>k-m.1) ⟨0,Nat.zero_le _,rfl⟩ (AC [] rfl rfl ?_ ?_) (fun m=>?_)
      ·first|exact eN|refine eM ?_
      ·first|exact eN|refine eM ?_
      ·obtain⟨m,hm,hany⟩:=m
       have hstep2:=fun h:m<l.length=>LY l f0V (fun y=>Am y.1 (l.getD k f0V).1) h
       simp only
       repeat'(first|exact trivial|refine eS rfl ?_|refine AB ?_|refine rX [0,2,3,4,5,6,7,13,24,33,36,49,57] hc ?_ ?_|refine rC ?_ ?_<;>intro AA<;>try(cases AA;done))
       ·have h1:(m:Int)<(k:Int):=AA
        exact⟨by exact eV,hkI⟩
       ·have hm2:m<k:=Int.ofNat_lt.1 (by assumption)
        have h2:=hstep2 (by omega)
        have h3:((l.take k).any fun y=>Am y.1 (l.getD k f0V).1)=true:=by
         rw[List.any_eq_true]
         exact⟨l.getD m f0V,by
          rw[List.mem_take_iff_getElem]
          refine⟨m,by omega,?_⟩
          simp[List.getD_eq_getElem?_getD,show m<l.length by omega],AA⟩
        rw[if_pos h3]at hg
        rw[←hg,if_pos (by decide)]at hf
        exact AH hc [.tmp 2] rfl (.inl rfl) (by simp) (by rw[←hf];first|exact eR|refine Ax ?_)
       ·omega
       ·have hm2:m<k:=Int.ofNat_lt.1 (by assumption)
        have h2:=hstep2 (by omega)
        refine⟨⟨m+1,by omega,?_⟩,by simp only;omega,AC [] rfl rfl ?_ ?_⟩
        ·rw[h2,hany]
         exact AA
        ·first|exact eN|refine eM ?_
        ·first|exact eN|refine eM ?_
       ·exact hkI
       ·have hm2:m=k:=by omega
        subst hm2
        rw[if_neg (by rw[hany];simp),if_pos AA]at hg
        rw[←hg,if_pos (by decide)]at hf
        exact AH hc [.tmp 2] rfl (.inl rfl) (by simp) (by rw[←hf];first|exact eR|refine Ax ?_)
       ·have:=hdl
        simp only[AP]at this
        omega
       ·have hm2:m=k:=by omega
        subst hm2
        rw[if_neg (by rw[hany];simp),if_neg (by rw[AA];simp)]at hg
        refine⟨⟨m+1,by omega,hg⟩,by simp only;omega,AC [] rfl rfl ?_ ?_⟩
        ·first|exact eN|refine eM ?_
        ·first|exact eN|refine eM ?_
     ·omega
     ·have hk2:l.drop k=[]:=List.drop_eq_nil_of_le (Int.ofNat_le.1 AA)
      rw[hk2]at hg
      rw[←hg,if_neg (by simp[qQ])]at hf
      refine⟨⟨i+1,by omega,hf⟩,by simp only;omega,AC [] rfl rfl ?_ ?_⟩
      ·first|exact eN|refine eM ?_
      ·first|exact eN|refine eM ?_
   ·have hk2:d.drop i=[]:=List.drop_eq_nil_of_le (by exact eV)
    rw[hk2]at hf
    exact AH hc [.tmp 2] rfl (.inl rfl) (by simp) (by rw[←hf];first|exact eR|refine Ax ?_;rfl)
end
/- Functions of grammarlabref05: intro. -/
section
attribute [local go_sem] PI Mf HF cs0
def Qf (s:ByteArray) (o:List ByteArray) (x:AI):List ByteArray:=if (Fk x s).2=true then Dk o x.1 else o
def ID (d:List AI) (s:ByteArray):List ByteArray:=d.foldl (Qf s) []
theorem cB (s:ByteArray) (d:List AI) (k:Nat):(ID (d.take k) s).length≤k:=by
 have key:∀(l:List AI) (o:List ByteArray),(l.foldl (Qf s) o).length≤o.length+l.length:=by
  intro l
  induction l with
  | nil=>intro o;simp
  | cons x l ih =>
   intro o
   have h1:=ih (Qf s o x)
   have h2:(Qf s o x).length≤o.length+1:=by
    unfold Qf
    split
    ·exact KY o x.1
    ·omega
   simp only[List.foldl_cons,List.length_cons]
   omega
 have h1:=key (d.take k) []
 have h2:=List.length_take_le k d
 unfold ID
 simp only[List.length_nil]at h1
 omega
def Fq (d:List AI) (s:ByteArray):ByteArray×Bool:=if (Bm d (ID d s)).length=1 then ((Bm d (ID d s)).getD 0 ByteArray.empty,true) else (ByteArray.empty,false)
def PO:Ak:={ ins:=[EI,T9],pre:=fun(d,_,_)=>Sm d∧List.length d≤256,out:=fun(d,s,_)=>[.p T9 (Fq d s).1,.p .bool (Fq d s).2] }
theorem Y7:Ao Tryz.prog 140 PO:=by
 refine AX Tryz.func140 (by kernel_rfl) rfl Tryz.ntmps140 (by decide) (by kernel_rfl) (AJ [(175,PI),(174,Mf),(188,HF)]) (AF Yo (AF PD (AF Sq AL))) ?_
 rintro w0 O0 ⟨d,s,u⟩ hc-⟨hsup,hd⟩
 have hd:d.length≤256:=hd
 simp only[PO,AN]
 repeat'(first|exact trivial|refine eS rfl ?_|refine AB ?_|refine rX [0,1,4,5,6,7,9,10,14,26,39] hc ?_ ?_|refine rC ?_ ?_<;>intro AA<;>try(cases AA;done))
 refine AK (ι:={i:Nat//i≤d.length}) (fun i=>⟨[(0,.p EI d),(1,.p T9 s),(6,.p Bj (ID (d.take i.1) s)),(7,.p (.int .i64) (i.1:Int))],[]⟩) (fun i=>d.length-i.1) ⟨0,Nat.zero_le _⟩ (AC [] rfl rfl ?_ ?_) (fun i=>?_)
 ·first|exact eN|refine eM ?_
 ·first|exact eN|refine eM ?_
  rfl
 ·obtain⟨i,hi⟩:=i
  have hi:i≤d.length:=hi
  have hn:=cB s d i
  have hs:=fun h:i<d.length=>EE (Qf s) d d0 [] h
  have hfe:∀e,ID e s=e.foldl (Qf s) []:=fun _=>rfl
  rw[←hfe,←hfe]at hs
  unfold Qf at hs
  simp only
  repeat'(first|exact trivial|refine eS rfl ?_|refine AB ?_|refine rX [0,1,4,5,6,7,9,10,14,26,39] hc ?_ ?_|refine rC ?_ ?_<;>intro AA<;>try(cases AA;done))
  ·exact AA
  ·exact⟨by assumption,by omega⟩
  ·exact eV
  ·have hi2:i<d.length:=by exact eV
   have e:=hs hi2
   rw[if_pos AA]at e
   refine⟨⟨i+1,by omega⟩,by simp only;omega,AC [] rfl rfl ?_ ?_⟩
   ·first|exact eN|refine eM ?_
   ·simp only[e]
    first|exact eN|refine eM ?_
  ·exact eV
  ·have hi2:i<d.length:=by exact eV
   have e:=hs hi2
   rw[if_neg (by rw[AA];simp)]at e
   refine⟨⟨i+1,by omega⟩,by simp only;omega,AC [] rfl rfl ?_ ?_⟩
   ·first|exact eN|refine eM ?_
   ·simp only[e]
    first|exact eN|refine eM ?_
  ·exact⟨hsup,hd,by omega⟩
  ·have hi2:d.take i=d:=List.take_of_length_le (by exact eV)
   rw[hi2]at AA ⊢
   have h1:Fq d s=(ByteArray.empty,false):=by
    unfold Fq
    rw[if_neg (by omega)]
   exact AH hc [.tmp 4,.tmp 5] rfl (.inl rfl) (by simp) (by rw[h1];first|exact eR|refine Ax ?_;first|rfl|exact⟨rfl,rfl⟩)
  ·have h2:((Bm d (ID (d.take i) s)).length:Int)=1:=by simpa using AA
   have h3:(0:Int)<((Bm d (ID (d.take i) s)).length:Int):=by rw[h2];decide
   exact h3
  ·have hi2:d.take i=d:=List.take_of_length_le (by exact eV)
   rw[hi2]at AA ⊢
   have h2:((Bm d (ID d s)).length:Int)=1:=by simpa using AA
   have h1:Fq d s=((Bm d (ID d s)).getD 0 ByteArray.empty,true):=by
    unfold Fq
    rw[if_pos (by omega)]
   exact AH hc [.tmp 4,.tmp 5] rfl (.inl rfl) (by simp) (by rw[h1];first|exact eR|refine Ax ?_)
end
/- Functions of grammarlabref05: inherited. -/
section
attribute [local go_sem] PI Lc VE Yg
def UK (l:List AQ) (t:Int) (s:ByteArray) (o:List Int×Bool) (x:AI):List Int×Bool :=
 if (!(Fk x s).2||!MG l (Cw l x.1) t)=true then o else (FL o.1 (l.getD (Cw l (Fk x s).1).toNat c0).2,true)
def S4 (d:List AI) (l:List AQ) (t:Int) (s:ByteArray):List Int×Bool:=d.foldl (UK l t s) ((l.getD 0 c0).2,false)
def A0H (d:List AI) (l:List AQ):Prop:=(∀x∈d,0≤Cw l x.1)∧∀x∈d,∀y∈x.2.2,0≤Cw l y.2
theorem Y8 (s:ByteArray):∀(l:List (ByteArray×ByteArray)),(Yn s l).2=true→∃y∈l,y.2=(Yn s l).1
 | [],h=>by cases h
 | x :: l,h=>by
  simp only[Yn]at h ⊢
  split at h
  ·rename_i h1
   rw[if_pos h1]
   exact⟨x,by simp,rfl⟩
  ·rename_i h1
   rw[if_neg h1]
   obtain⟨y,hy,e⟩:=Y8 s l h
   exact⟨y,by simp[hy],e⟩
theorem A0H.value {d:List AI} {l:List AQ} (h:A0H d l) {x:AI} (hx:x∈d) {s:ByteArray} (hv:(Fk x s).2=true):0≤Cw l (Fk x s).1:=by
 obtain⟨y,hy,e⟩:=Y8 s x.2.2 hv
 have:=h.2 x hx y hy
 rw[e]at this
 exact this
theorem uK {l:List AQ} (t:Int) (s:ByteArray) (x:AI) {o:List Int×Bool} (h:o.1.length≤64):(UK l t s o x).1.length≤64:=by
 unfold UK
 split
 ·exact h
 ·exact Nat.le_trans (Yp _ _) h
theorem S5 {l:List AQ} (t:Int) (s:ByteArray):∀(d:List AI) {o:List Int×Bool},o.1.length≤64→(d.foldl (UK l t s) o).1.length≤64
 | [],_,h=>h
 | x :: d,_,h=>by rw[List.foldl_cons];exact S5 t s d (uK t s x h)
theorem Y9 (s:ByteArray):∀(l:List AQ) (k:Nat),PH s k l<((k+l.length:Nat):Int)
 | [],k=>by simp only[PH];omega
 | x :: l,k=>by
  simp only[PH]
  split
  ·simp only[List.length_cons];omega
  ·have:=Y9 s l (k+1)
   simp only[List.length_cons]
   omega
theorem Qg (l:List AQ) (s:ByteArray):Cw l s<(l.length:Int):=by
 have:=Y9 s l 0
 rw[Nat.zero_add]at this
 exact this
def pI:Ak:={ ins:=[EI,Ic,T3,T9],pre:=fun(d,l,t,_,_)=>A0H d l∧((0:Int)≤t∧t<(List.length l:Int))∧List.length l≤256∧(∀x∈(l:List AQ),x.2.length≤64),out:=fun(d,l,t,s,_)=>[.p A8 (S4 d l t s).1,.p .bool (S4 d l t s).2] }
theorem uL:Ao Tryz.prog 131 pI:=by
 refine AX Tryz.func131 (by kernel_rfl) rfl Tryz.ntmps131 (by decide) (by kernel_rfl) (AJ [(175,PI),(141,Lc),(139,VE),(143,Yg)]) (AF Yo (AF VH (AF mF (AF bN AL)))) ?_
 rintro w0 O0 ⟨d,l,t,s,u⟩ hc ⟨⟨hdl,hall⟩,-⟩ ⟨hnum,ht,hl,hx⟩
 have hl:l.length≤256:=hl
 have hx2:∀x∈(l:List AQ),x.2.length≤100000:=fun x h=>Nat.le_trans (hx x h) (by decide)
 have hlp:0<List.length l:=Int.ofNat_lt.1 (Int.lt_of_le_of_lt ht.1 ht.2)
 simp only[AP]at hdl
 simp only[pI,AN]
 repeat'(first|exact trivial|refine eS rfl ?_|refine AB ?_|refine rX [0,1,2,3,8,9,10,11,12,13,14,22,48] hc ?_ ?_|refine rC ?_ ?_<;>intro AA<;>try(cases AA;done))
 ·exact Int.ofNat_lt.2 hlp
 ·have hif:S4 d l t s=d.foldl (UK l t s) ((l.getD 0 c0).2,false):=rfl
  have hc0:(l.getD 0 c0).2.length≤64:=hx _ (AD l c0 hlp)
  have hc1:(List.getD l 0 (ByteArray.empty,[])).2=(l.getD 0 c0).2:=rfl
  rw[hc1]
  generalize (l.getD 0 c0).2=b0 at *
  refine AK (ι:={i:Nat//i≤d.length}) (fun i=>⟨[(0,.p EI d),(1,.p Ic l),(2,.p T3 t),(3,.p T9 s),(10,.p .bool ((d.take i.1).foldl (UK l t s) (b0,false)).2),(11,.p A8 ((d.take i.1).foldl (UK l t s) (b0,false)).1),(12,.p (.int .i64) (i.1:Int))],[]⟩) (fun i=>d.length-i.1) ⟨0,Nat.zero_le _⟩ (AC [] rfl rfl ?_ ?_) (fun i=>?_)
  ·first|exact eN|refine eM ?_
  ·first|exact eN|refine eM ?_
   exact⟨rfl,rfl⟩
  ·obtain⟨i,hi⟩:=i
   have hi:i≤d.length:=hi
   have hlen:=S5 (l:=l) t s (d.take i) (o:=(b0,false)) hc0
   have hs:=fun h:i<d.length=>EE (UK l t s) d d0 (b0,false) h
   have hnx:=fun h:i<d.length=>hnum.1 _ (AD d d0 h)
   have hnv:=fun(h:i<d.length) (g:(Fk (d.getD i d0) s).2=true)=>hnum.value (AD d d0 h) g
   have hia:∀o x,UK l t s o x=(if (!(Fk x s).2||!MG l (Cw l x.1) t)=true then o else (FL o.1 (l.getD (Cw l (Fk x s).1).toNat c0).2,true)):=fun _ _=>rfl
   generalize ho:(d.take i).foldl (UK l t s) (b0,false)=o at *
   simp only
   repeat'(first|exact trivial|refine eS rfl ?_|refine AB ?_|refine rX [0,1,2,3,8,9,10,11,12,13,14,22,48] hc ?_ ?_|refine rC ?_ ?_<;>intro AA<;>try(cases AA;done))
   ·exact AA
   ·have hi2:i<d.length:=Int.ofNat_lt.1 AA
    exact⟨fun _=>AA,fun _=>⟨⟨hnx hi2,Qg _ _⟩,ht,hx2⟩⟩
   ·exact eV
   ·have hi2:i<d.length:=Int.ofNat_lt.1 (by assumption)
    have e:=hs hi2
    rw[hia,if_pos (by rw[Bool.or_eq_true,Bool.not_eq_true',Bool.not_eq_true'];exact AA)]at e
    refine⟨⟨i+1,by omega⟩,by simp only;omega,AC [] rfl rfl ?_ ?_⟩
    ·first|exact eN|refine eM ?_
    ·first|exact eN|refine eM ?_
     rw[e]
     exact⟨rfl,rfl⟩
   ·have hi2:i<d.length:=Int.ofNat_lt.1 (by assumption)
    exact⟨⟨hnv hi2 AA.1,Qg _ _⟩,Nat.le_trans hlen (by decide)⟩
   ·exact eV
   ·have hi2:i<d.length:=Int.ofNat_lt.1 (by assumption)
    have e:=hs hi2
    have hneg:¬(!(Fk (d.getD i d0) s).2||!MG l (Cw l (d.getD i d0).1) t)=true:=by
     rw[Bool.or_eq_true,Bool.not_eq_true',Bool.not_eq_true']
     rintro (h|h)
     ·rw[show (Fk (d.getD i d0) s).2=true from AA.1]at h;cases h
     ·rw[show MG l (Cw l (d.getD i d0).1) t=true from AA.2]at h;cases h
    rw[hia,if_neg hneg]at e
    refine⟨⟨i+1,by omega⟩,by simp only;omega,AC [] rfl rfl ?_ ?_⟩
    ·first|exact eN|refine eM ?_
    ·first|exact eN|refine eM ?_
     rw[e]
     exact⟨rfl,rfl⟩
   ·have hi2:d.take i=d:=List.take_of_length_le (Int.ofNat_le.1 AA)
    rw[hi2]at ho
    rw[ho]at hif
    exact AH hc [.tmp 8,.tmp 9] rfl (.inl rfl) (by simp) (by rw[hif];first|exact eR|refine Ax ?_)
end
/- Plain: what passes grammarlabref04.Codes and the checks of grammarlabref05. -/
section
theorem Qh:∀ {l:List AI},KW l=0→∀x∈l,x.2.1.length≤256∧x.2.2.length≤256
 | [],_,x,hx=>by cases hx
 | y :: l,h,x,hx=>by
  simp only[KW]at h
  split at h
  ·cases h
  ·rename_i h1
   rcases List.mem_cons.1 hx with rfl|hx
   ·exact⟨by omega,by omega⟩
   ·exact Qh h x hx
theorem JW {d:List AI} (h:BG d=0):∀x∈d,x.2.1.length≤256∧x.2.2.length≤256:=by
 have h1:ER d=0:=by
  unfold BG at h
  split at h
  ·rename_i h1;exact absurd h h1
  ·rename_i h1;exact Classical.byContradiction h1
 unfold ER at h1
 split at h1
 ·cases h1
 ·exact Qh h1
theorem Mt {d:List AI} (h:BG d=0):∀x∈Aw d,x.2.length≤64:=by
 intro x hx
 obtain⟨-,h2,-⟩:=A5 h
 obtain⟨b,hb,rfl⟩:=DV.1 hx
 exact OL (Ms h2) b hb
theorem ZA {all:List ByteArray} {l:List FV}:∀ {r:List FV} {k:Nat},qQ all l k r=0→∀y∈r,Aa all y.2=true
 | [],_,_,y,hy=>by cases hy
 | x :: r,k,h,y,hy=>by
  simp only[qQ]at h
  split at h
  ·cases h
  ·split at h
   ·cases h
   ·split at h
    ·cases h
    ·rename_i h3
     rcases List.mem_cons.1 hy with rfl|hy
     ·simpa using h3
     ·exact ZA h y hy
theorem VP {all:List ByteArray}:∀ {l:List AI},Wv all l=0→∀x∈l,∀y∈x.2.2,Aa all y.2=true
 | [],_,x,hx=>by cases hx
 | z :: l,h,x,hx=>by
  simp only[Wv]at h
  split at h
  ·rename_i h1;exact absurd h h1
  ·rename_i h1
   rcases List.mem_cons.1 hx with rfl|hx
   ·exact ZA (Classical.byContradiction h1)
   ·exact VP h x hx
theorem mL {d:List AI} (h:BG d=0) (h2:Ki d=0):A0H d (Aw d) :=
 ⟨fun x hx=>Qd h hx,fun x hx y hy=>Qc h (VP h2 x hx y hy)⟩
end
/- Functions of grammarlabref05: Check. -/
section
attribute [local go_sem] IC Kd Ww PO pI
def Mu (d:List AI) (l:List AQ) (t:Nat) (s:ByteArray):Bool:=(S4 d l (t:Int) s).2&&((S4 d l (t:Int) s).1.length:Int)==0
def mM (d:List AI) (l:List AQ) (f:List ByteArray) (t:Nat):Bool:=f.any (Mu d l t)
def Kj (d:List AI) (l:List AQ) (f:List ByteArray) (n:Nat):Bool:=(List.range n).any (mM d l f)
theorem ZB (d:List AI) (l:List AQ) (f:List ByteArray) (n:Nat):Kj d l f (n+1)=(Kj d l f n||mM d l f n):=by
 unfold Kj
 rw[List.range_succ,List.any_append]
 simp
def BJ (d:List AI):Int :=
 if (Bk d).2≠0 then (Bk d).2 else if 64<(DU d).length then 7 else if Ki d≠0 then Ki d else
 if ((DU d).all fun s=>(Fq d s).2)=false then 10 else if Kj d (Bk d).1 (DU d) (Bk d).1.length=true then 11 else 0
def Lh:Ak:={ ins:=[EI],pre:=fun _=>True,out:=fun(d,_)=>[.p YO (BJ d)] }
theorem VQ:Ao Tryz.prog 129 Lh:=by
 refine AX Tryz.func129 (by kernel_rfl) rfl Tryz.ntmps129 (by decide) (by kernel_rfl) (AJ [(97,IC),(130,Kd),(173,Ww),(140,PO),(131,pI)]) (AF OM (AF Su (AF uJ (AF Y7 (AF uL AL))))) ?_
 rintro w0 O0 ⟨d,u⟩ hc - -
 simp only[Lh,AN]
 repeat'(first|exact trivial|refine eS rfl ?_|refine AB ?_|refine rX [0,2,3,4,5,6,7,9,10,11,12,13,20,26,30,35,48,52,58,77] hc ?_ ?_|refine rC ?_ ?_<;>intro AA<;>try(cases AA;done))
 ·have h1:BJ d=(Bk d).2:=by unfold BJ;rw[if_pos AA]
  exact AH hc [.tmp 2] rfl (.inl rfl) (by simp) (by rw[h1];first|exact eR|refine Ax ?_)
 ·have hz:(Bk d).2=0:=by simpa using AA
  obtain⟨h3,-,-⟩:=BZ hz
  obtain⟨-,hd,-⟩:=A5 h3
  exact⟨hd,fun x hx=>(JW h3 x hx).2⟩
 ·have hz:(Bk d).2=0:=by simpa using ‹((Bk d).2 != 0)=false›
  have h1:BJ d=7:=by
   unfold BJ
   rw[if_neg (by rw[hz];simp),if_pos (by omega)]
  exact AH hc [.tmp 2] rfl (.inl rfl) (by simp) (by rw[h1];first|exact eR|refine Ax ?_)
 ·have hz:(Bk d).2=0:=by simpa using ‹((Bk d).2 != 0)=false›
  obtain⟨h3,-,-⟩:=BZ hz
  exact(A5 h3).2.1
 ·have hz:(Bk d).2=0:=by simpa using ‹((Bk d).2 != 0)=false›
  have h1:BJ d=Ki d:=by
   unfold BJ
   rw[if_neg (by rw[hz];simp),if_neg (by omega),if_pos AA]
  exact AH hc [.tmp 2] rfl (.inl rfl) (by simp) (by rw[h1];first|exact eR|refine Ax ?_)
 ·have hz:(Bk d).2=0:=by simpa using ‹((Bk d).2 != 0)=false›
  have hdz:Ki d=0:=by simpa using AA
  obtain⟨h3,hlen,hl⟩:=BZ hz
  obtain⟨hsup,hd,-⟩:=A5 h3
  have hnr:=mL h3 hdz
  have hwid:=Mt h3
  have hpos:=A0E h3
  have hll:(Aw d).length≤256:=by rw[HJ];exact hlen
  have hc5:BJ d=if ((DU d).all fun s=>(Fq d s).2)=false then 10 else if Kj d (Bk d).1 (DU d) (Bk d).1.length=true then 11 else 0:=by
   unfold BJ
   rw[if_neg (by rw[hz];simp),if_neg (by omega),if_neg (by rw[hdz];simp)]
  rw[hl]at hc5 ⊢
  generalize Aw d=l at *
  generalize DU d=f at *
  refine AK (ι:={i:Nat//i≤f.length∧((f.take i).all fun s=>(Fq d s).2)=true}) (fun i=>⟨[(0,.p EI d),(3,.p Ic l),(5,.p Bj f),(7,.p (.int .i64) (i.1:Int))],[]⟩) (fun i=>f.length-i.1) ⟨0,Nat.zero_le _,rfl⟩ (AC [] rfl rfl ?_ ?_) (fun i=>?_)
  ·first|exact eN|refine eM ?_
  ·first|exact eN|refine eM ?_
  ·obtain⟨i,hi,hall⟩:=i
   have hstep:=fun h:i<f.length=>Ig f ByteArray.empty (fun s=>(Fq d s).2) h
   simp only
   repeat'(first|exact trivial|refine eS rfl ?_|refine AB ?_|refine rX [0,2,3,4,5,6,7,9,10,11,12,13,20,26,30,35,48,52,58,77] hc ?_ ?_|refine rC ?_ ?_<;>intro AA<;>try(cases AA;done))
   ·exact⟨AA,hsup,hd⟩
   ·have hi2:i<f.length:=Int.ofNat_lt.1 (by assumption)
    have h2:(f.all fun s=>(Fq d s).2)=false:=by
     rw[Bool.eq_false_iff]
     intro h
     have:=List.all_eq_true.1 h _ (AD f ByteArray.empty hi2)
     rw[show (Fq d (f.getD i ByteArray.empty)).2=false from AA]at this
     cases this
    rw[if_pos h2]at hc5
    exact AH hc [.tmp 2] rfl (.inl rfl) (by simp) (by rw[hc5];first|exact eR|refine Ax ?_)
   ·omega
   ·have hi2:i<f.length:=Int.ofNat_lt.1 (by assumption)
    refine⟨⟨i+1,hi2,?_⟩,by simp only;omega,AC [] rfl rfl ?_ ?_⟩
    ·rw[hstep hi2,hall]
     exact AA
    ·first|exact eN|refine eM ?_
    ·first|exact eN|refine eM ?_
   ·have hi2:f.take i=f:=List.take_of_length_le (Int.ofNat_le.1 AA)
    rw[hi2]at hall
    rw[if_neg (by rw[hall];simp)]at hc5
    refine AK (ι:={t:Nat//t≤l.length∧Kj d l f t=false}) (fun t=>⟨[(0,.p EI d),(3,.p Ic l),(5,.p Bj f),(10,.p (.int .i64) (t.1:Int))],[]⟩) (fun t=>l.length-t.1) ⟨0,Nat.zero_le _,rfl⟩ (AC [] rfl rfl ?_ ?_) (fun t=>?_)
    ·first|exact eN|refine eM ?_
    ·first|exact eN|refine eM ?_
    ·obtain⟨t,ht,hvb⟩:=t
     have hvs:=ZB d l f t
     simp only
     repeat'(first|exact trivial|refine eS rfl ?_|refine AB ?_|refine rX [0,2,3,4,5,6,7,9,10,11,12,13,20,26,30,35,48,52,58,77] hc ?_ ?_|refine rC ?_ ?_<;>intro AA<;>try(cases AA;done))
     ·have htl:t<l.length:=Int.ofNat_lt.1 AA
      refine AK (ι:={k:Nat//k≤f.length∧(f.take k).any (Mu d l t)=false}) (fun k=>⟨[(0,.p EI d),(3,.p Ic l),(5,.p Bj f),(10,.p (.int .i64) (t:Int)),(11,.p (.int .i64) (k.1:Int))],[]⟩) (fun k=>f.length-k.1) ⟨0,Nat.zero_le _,rfl⟩ (AC [] rfl rfl ?_ ?_) (fun k=>?_)
      ·first|exact eN|refine eM ?_
      ·first|exact eN|refine eM ?_
      ·obtain⟨k,hk,hany⟩:=k
       have hst:=fun h:k<f.length=>LY f ByteArray.empty (Mu d l t) h
       simp only
       repeat'(first|exact trivial|refine eS rfl ?_|refine AB ?_|refine rX [0,2,3,4,5,6,7,9,10,11,12,13,20,26,30,35,48,52,58,77] hc ?_ ?_|refine rC ?_ ?_<;>intro AA<;>try(cases AA;done))
       ·exact⟨AA,hnr,by assumption,hll,hwid⟩
       ·have hk2:k<f.length:=Int.ofNat_lt.1 (by assumption)
        have hb:Mu d l t (f.getD k ByteArray.empty)=true:=by
         unfold Mu
         rw[Bool.and_eq_true,beq_iff_eq]
         exact AA
        have hB:Kj d l f l.length=true:=by
         unfold Kj
         rw[List.any_eq_true]
         exact⟨t,List.mem_range.2 htl,F4 f ByteArray.empty _ hk2 hb⟩
        rw[if_pos hB]at hc5
        exact AH hc [.tmp 2] rfl (.inl rfl) (by simp) (by rw[hc5];first|exact eR|refine Ax ?_)
       ·omega
       ·have hk2:k<f.length:=Int.ofNat_lt.1 (by assumption)
        have hb:Mu d l t (f.getD k ByteArray.empty)=false:=by
         rw[Bool.eq_false_iff]
         unfold Mu
         intro h
         rw[Bool.and_eq_true,beq_iff_eq]at h
         exact AA h.1 h.2
        refine⟨⟨k+1,hk2,?_⟩,by simp only;omega,AC [] rfl rfl ?_ ?_⟩
        ·rw[hst hk2,hany,hb]
         rfl
        ·first|exact eN|refine eM ?_
        ·first|exact eN|refine eM ?_
       ·omega
       ·have hk2:f.take k=f:=List.take_of_length_le (Int.ofNat_le.1 AA)
        rw[hk2]at hany
        refine⟨⟨t+1,htl,?_⟩,by simp only;omega,AC [] rfl rfl ?_ ?_⟩
        ·rw[hvs,hvb]
         exact hany
        ·first|exact eN|refine eM ?_
        ·first|exact eN|refine eM ?_
     ·have ht2:t=l.length:=by exact eV
      subst ht2
      rw[if_neg (by rw[hvb];simp)]at hc5
      exact AH hc [.tmp 2] rfl (.inl rfl) (by simp) (by rw[hc5];first|exact eR|refine Ax ?_)
end
/- Functions of grammarlabref05: Features. -/
section
attribute [local go_sem] Lh IC Kd PO Lc
abbrev uM:=ByteArray×Int
theorem CG {d:List AI} (h:BJ d=0):(Bk d).2=0∧(DU d).length≤64∧Ki d=0:=by
 unfold BJ at h
 split at h
 ·rename_i h1;exact absurd h h1
 ·rename_i h1
  split at h
  ·cases h
  ·rename_i h2
   split at h
   ·rename_i h3;exact absurd h h3
   ·rename_i h3
    exact⟨Classical.byContradiction h1,by omega,Classical.byContradiction h3⟩
def S6 (d:List AI) (s:ByteArray):uM:=(s,Cw (Aw d) (Fq d s).1)
def EF (d:List AI):List uM×Int:=if BJ d≠0 then ([],BJ d) else ((DU d).map (S6 d),0)
theorem Df {α β:Type} (f:α→β) (l:List α) (d:α) {k:Nat} (h:k<l.length):(l.take (k+1)).map f=(l.take k).map f++[f (l.getD k d)]:=by
 rw[Ab l d h,List.map_append]
 rfl
theorem Wx {α β:Type} (f:α→β) (l:List α) {k:Nat} (h:k≤l.length):((l.take k).map f).length=k:=by simp[h]
def Li:Ak:={ ins:=[EI],pre:=fun _=>True,out:=fun(d,_)=>[.p oL (EF d).1,.p YO (EF d).2] }
theorem ZC:Ao Tryz.prog 99 Li:=by
 refine AX Tryz.func99 (by kernel_rfl) rfl Tryz.ntmps99 (by decide) (by kernel_rfl) (AJ [(129,Lh),(97,IC),(130,Kd),(140,PO),(141,Lc)]) (AF VQ (AF OM (AF Su (AF Y7 (AF VH AL))))) ?_
 rintro w0 O0 ⟨d,u⟩ hc - -
 simp only[Li,AN]
 repeat'(first|exact trivial|refine eS rfl ?_|refine AB ?_|refine rX [0,2,3,4,5,7,8,9,10,15,27] hc ?_ ?_|refine rC ?_ ?_<;>intro AA<;>try(cases AA;done))
 ·have h1:EF d=([],BJ d):=by unfold EF;rw[if_pos AA]
  exact AH hc [.tmp 2,.tmp 3] rfl (.inl rfl) (by simp) (by rw[h1];first|exact eR|refine Ax ?_)
 ·have h5:BJ d=0:=by simpa using AA
  obtain⟨hz,-,-⟩:=CG h5
  obtain⟨h3,-,-⟩:=BZ hz
  exact⟨(A5 h3).2.1,fun x hx=>(JW h3 x hx).2⟩
 ·have h5:BJ d=0:=by simpa using AA
  obtain⟨hz,hf64,-⟩:=CG h5
  obtain⟨h3,-,hl⟩:=BZ hz
  obtain⟨hsup,hd,-⟩:=A5 h3
  have hr:EF d=((DU d).map (S6 d),0):=by unfold EF;rw[if_neg (by rw[h5];simp)]
  rw[hl]
  generalize DU d=f at *
  refine AK (ι:={i:Nat//i≤f.length}) (fun i=>⟨[(0,.p EI d),(5,.p Ic (Aw d)),(7,.p Bj f),(8,.sr 49 s7 0 ((f.take i.1).map (S6 d)).length),(9,.p (.int .i64) (i.1:Int))],[(49,.arr 201 s7 ((f.take i.1).map (S6 d)))]⟩) (fun i=>f.length-i.1) ⟨0,Nat.zero_le _⟩ (AC [(49,.nil)] rfl rfl ?_ ?_) (fun i=>?_)
  ·first|exact eN|refine eM ?_
  ·first|exact eN|refine eM ?_
  ·obtain⟨i,hi⟩:=i
   have hlen:=Wx (S6 d) f hi
   have hs:=fun h:i<f.length=>Df (S6 d) f ByteArray.empty h
   simp only
   repeat'(first|exact trivial|refine eS rfl ?_|refine AB ?_|refine rX [0,2,3,4,5,7,8,9,10,15,27] hc ?_ ?_|refine rC ?_ ?_<;>intro AA<;>try(cases AA;done))
   ·exact⟨AA,hsup,hd⟩
   ·refine⟨AA,?_⟩
    rw[hlen]
    simp only[AP]
    omega
   ·omega
   ·have hi2:i<f.length:=Int.ofNat_lt.1 AA
    have e:=hs hi2
    refine⟨⟨i+1,hi2⟩,by simp only;omega,AC [(49,.nm 49)] rfl rfl ?_ ?_⟩
    ·simp only[e]
     first|exact eN|refine eM ?_
     rfl
    ·simp only[e]
     first|exact eN|refine eM ?_
   ·have hi2:f.take i=f:=List.take_of_length_le (Int.ofNat_le.1 AA)
    rw[hi2]
    refine Gb [49] ?_
    exact AH hc [.tmp 2,.tmp 3] rfl (.inl rfl) (by simp) (by rw[hr];first|exact eR|refine Ax ?_)
end
/- Functions of grammarlabref05: Values. -/
section
attribute [local go_sem] Lh IC Kd pI Wq
def Wy (d:List AI) (l:List AQ) (f:List ByteArray) (t:Nat) (n:Nat):List (Int×Int) :=
 ((List.range n).filter fun(i:Nat)=>(S4 d l (t:Int) (f.getD i ByteArray.empty)).2).map fun(i:Nat)=>((i:Int),Wp l (S4 d l (t:Int) (f.getD i ByteArray.empty)).1)
def Kk (d:List AI) (l:List AQ) (f:List ByteArray) (n:Nat):List (List (Int×Int)):=(List.range n).map fun t=>Wy d l f t f.length
def BK (d:List AI):List (List (Int×Int))×Int:=if BJ d≠0 then ([],BJ d) else (Kk d (Aw d) (DU d) (Aw d).length,0)
theorem pJ (d:List AI) (l:List AQ) (f:List ByteArray) (t n:Nat):Wy d l f t (n+1)=Wy d l f t n++if (S4 d l (t:Int) (f.getD n ByteArray.empty)).2=true then [((n:Int),Wp l (S4 d l (t:Int) (f.getD n ByteArray.empty)).1)] else []:=by
 unfold Wy
 rw[List.range_succ,List.filter_append,List.map_append]
 congr 1
 rw[List.filter_cons,List.filter_nil]
 split<;>rfl
theorem uN (d:List AI) (l:List AQ) (f:List ByteArray) (t n:Nat):(Wy d l f t n).length≤n:=by
 unfold Wy
 rw[List.length_map]
 exact Nat.le_trans (List.length_filter_le _ _) (by simp)
theorem cC (d:List AI) (l:List AQ) (f:List ByteArray) (n:Nat):Kk d l f (n+1)=Kk d l f n++[Wy d l f n f.length]:=by simp[Kk,List.range_succ]
theorem VR (d:List AI) (l:List AQ) (f:List ByteArray) (n:Nat):(Kk d l f n).length=n:=by simp[Kk]
theorem uP {d:List AI} {l:List AQ} (h:∀x∈l,x.2.length≤64) (t:Int) (s:ByteArray):(S4 d l t s).1.length≤64:=by
 unfold S4
 refine S5 t s d ?_
 rw[List.getD_eq_getElem?_getD]
 cases hh:l[0]? with
 | none=>simp
 | some x=>exact h x (List.mem_of_getElem? hh)
def OO:Ak:={ ins:=[EI],pre:=fun _=>True,out:=fun(d,_)=>[.p yL (BK d).1,.p YO (BK d).2] }
theorem cD:Ao Tryz.prog 96 OO:=by
 refine AX Tryz.func96 (by kernel_rfl) rfl Tryz.ntmps96 (by decide) (by kernel_rfl) (AJ [(129,Lh),(97,IC),(130,Kd),(131,pI),(132,Wq)]) (AF VQ (AF OM (AF Su (AF uL (AF t9 AL))))) ?_
 rintro w0 O0 ⟨d,u⟩ hc - -
 simp only[OO,AN]
 repeat'(first|exact trivial|refine eS rfl ?_|refine AB ?_|refine rX [0,2,3,4,5,7,8,9,10,11,12,13,17,29,35,49] hc ?_ ?_|refine rC ?_ ?_<;>intro AA<;>try(cases AA;done))
 ·have h1:BK d=([],BJ d):=by unfold BK;rw[if_pos AA]
  exact AH hc [.tmp 2,.tmp 3] rfl (.inl rfl) (by simp) (by rw[h1];first|exact eR|refine Ax ?_)
 ·have h5:BJ d=0:=by simpa using AA
  obtain⟨hz,-,-⟩:=CG h5
  obtain⟨h3,-,-⟩:=BZ hz
  exact⟨(A5 h3).2.1,fun x hx=>(JW h3 x hx).2⟩
 ·have h5:BJ d=0:=by simpa using AA
  obtain⟨hz,hf64,hdz⟩:=CG h5
  obtain⟨h3,hlen,hl⟩:=BZ hz
  obtain⟨hsup,hd,-⟩:=A5 h3
  have hr:BK d=(Kk d (Aw d) (DU d) (Aw d).length,0):=by unfold BK;rw[if_neg (by rw[h5];simp)]
  have hnr:=mL h3 hdz
  have hwid:=Mt h3
  have hll:(Aw d).length≤256:=by rw[HJ];exact hlen
  rw[hl]
  generalize Aw d=l at *
  generalize DU d=f at *
  have hiw:=fun t s=>uP (d:=d) hwid t s
  refine AK (ι:={t:Nat//t≤l.length}) (fun t=>⟨[(0,.p EI d),(5,.p Ic l),(7,.p Bj f),(8,.sr 61 Wb 0 (Kk d l f t.1).length),(9,.p (.int .i64) (t.1:Int))],[(61,.arr 146 Wb (Kk d l f t.1))]⟩) (fun t=>l.length-t.1) ⟨0,Nat.zero_le _⟩ (AC [(61,.nil)] rfl rfl ?_ ?_) (fun t=>?_)
  ·first|exact eN|refine eM ?_
   rfl
  ·first|exact eN|refine eM ?_
   rfl
  ·obtain⟨t,ht⟩:=t
   have hlen:=VR d l f t
   have hs:=cC d l f t
   simp only
   repeat'(first|exact trivial|refine eS rfl ?_|refine AB ?_|refine rX [0,2,3,4,5,7,8,9,10,11,12,13,17,29,35,49] hc ?_ ?_|refine rC ?_ ?_<;>intro AA<;>try(cases AA;done))
   ·refine AK (ι:={i:Nat//i≤f.length}) (fun i=>⟨[(0,.p EI d),(5,.p Ic l),(7,.p Bj f),(8,.sr 61 Wb 0 (Kk d l f t).length),(9,.p (.int .i64) (t:Int)),(10,.sr 57 s6 0 (Wy d l f t i.1).length),(11,.p (.int .i64) (i.1:Int))],[(61,.arr 146 Wb (Kk d l f t)),(57,.arr 190 s6 (Wy d l f t i.1))]⟩) (fun i=>f.length-i.1) ⟨0,Nat.zero_le _⟩ (AC [(61,.nm 61),(57,.nil)] rfl rfl ?_ ?_) (fun i=>?_)
    ·first|exact eN|refine eM ?_
     rfl
    ·first|exact eN|refine eM ?_
     rfl
    ·obtain⟨i,hi⟩:=i
     have hol:=uN d l f t i
     have hos:=pJ d l f t i
     simp only
     repeat'(first|exact trivial|refine eS rfl ?_|refine AB ?_|refine rX [0,2,3,4,5,7,8,9,10,11,12,13,17,29,35,49] hc ?_ ?_|refine rC ?_ ?_<;>intro AA<;>try(cases AA;done))
     ·exact⟨AA,hnr,by assumption,hll,hwid⟩
     ·refine⟨Nat.le_trans (hiw _ _) (by decide),?_⟩
      simp only[AP]
      omega
     ·omega
     ·have hi2:i<f.length:=Int.ofNat_lt.1 (by assumption)
      rw[if_pos AA]at hos
      refine⟨⟨i+1,hi2⟩,by simp only;omega,AC [(61,.nm 61),(57,.nm 57)] rfl rfl ?_ ?_⟩
      ·simp only[hos]
       first|exact eN|refine eM ?_
      ·simp only[hos]
       first|exact eN|refine eM ?_
     ·omega
     ·have hi2:i<f.length:=Int.ofNat_lt.1 (by assumption)
      rw[if_neg (by rw[AA];simp),List.append_nil]at hos
      refine⟨⟨i+1,hi2⟩,by simp only;omega,AC [(61,.nm 61),(57,.nm 57)] rfl rfl ?_ ?_⟩
      ·simp only[hos]
       first|exact eN|refine eM ?_
      ·simp only[hos]
       first|exact eN|refine eM ?_
     ·rw[hlen]
      simp only[AP]
      omega
     ·omega
     ·have ht2:t<l.length:=Int.ofNat_lt.1 (by assumption)
      have hi2:i=f.length:=by omega
      subst hi2
      refine⟨⟨t+1,ht2⟩,by simp only;omega,AC [(61,.nm 61)] rfl rfl ?_ ?_⟩
      ·simp only[hs]
       first|exact eN|refine eM ?_
      ·simp only[hs]
       first|exact eN|refine eM ?_
   ·have ht2:t=l.length:=by omega
    subst ht2
    refine Gb [61] ?_
    exact AH hc [.tmp 2,.tmp 3] rfl (.inl rfl) (by simp) (by rw[hr];first|exact eR|refine Ax ?_)
end
/- Functions of grammarlabref06: decl. -/
section
attribute [local go_sem] cs0
def Js (l:List ByteArray) (n:Nat):List FV:=(List.range n).map fun k=>(l.getD (2*k) ByteArray.empty,l.getD (2*k+1) ByteArray.empty)
theorem S7 (l:List ByteArray) (n:Nat):Js l (n+1)=Js l n++[(l.getD (2*n) ByteArray.empty,l.getD (2*n+1) ByteArray.empty)]:=by simp[Js,List.range_succ]
theorem VS (l:List ByteArray) (n:Nat):(Js l n).length=n:=by simp[Js]
def Wz (s:ByteArray):List ByteArray:=if Am s ByteArray.empty=true then [] else [s]
def Fa (n s:ByteArray) (l:List ByteArray):AI:=(n,Wz s,Js l (l.length / 2))
def mN:Ak:={ ins:=[T9,T9,Bj],pre:=fun(_,_,l,_)=>List.length l≤1000,out:=fun(n,s,l,_)=>[.p oO (Fa n s l)] }
theorem A0I:Ao Tryz.prog 100 mN:=by
 refine AX Tryz.func100 (by kernel_rfl) rfl Tryz.ntmps100 (by decide) (by kernel_rfl) (AJ []) AL ?_
 rintro w0 O0 ⟨n,s,l,u⟩ hc-hl
 have hl:l.length≤1000:=hl
 simp only[mN,AN]
 repeat'(first|exact trivial|refine eS rfl ?_|refine AB ?_|refine rX [0,1,2,6,7,8,12,20] hc ?_ ?_|refine rC ?_ ?_<;>intro AA<;>try(cases AA;done))
 ·have hcd:=AA
  refine Gb [14] ?_
  refine AK (ι:={k:Nat//2*k≤l.length}) (fun k=>⟨[(2,.p Bj l),(6,.bp 6 [] 0),(7,.bp 7 [] 0),(8,.p (.int .i64) ((2*k.1:Nat):Int))],[(6,.box 154 true [.p T9 ByteArray.empty,.raw (.slice none 0 0),.raw (.slice none 0 0)]),(7,.box 154 true [.p T9 n,.p Bj [s],.sr 36 bD 0 (Js l k.1).length]),(36,.arr 157 bD (Js l k.1))]⟩) (fun k=>l.length-2*k.1) ⟨0,Nat.zero_le _⟩ (AC [(6,.nm 6),(7,.nm 7),(36,.nil)] rfl rfl ?_ ?_) (fun k=>?_)
  ·first|exact eN|refine eM ?_
   exact⟨rfl,rfl⟩
  ·first|exact eN|refine eM ?_
  ·obtain⟨k,hk⟩:=k
   have hpl:=VS l k
   have hps:=S7 l k
   simp only
   repeat'(first|exact trivial|refine eS rfl ?_|refine AB ?_|refine rX [0,1,2,6,7,8,12,20] hc ?_ ?_|refine rC ?_ ?_<;>intro AA<;>try(cases AA;done))
   ·exact eV
   ·refine⟨by exact eV,⟨by exact eV,by exact eV⟩,⟨by exact eV,by exact eV⟩,?_⟩
    rw[hpl]
    simp only[AP]
    exact eV
   ·exact eV
   ·have hk2:2*k+1<l.length:=by exact eV
    have e1:((2*k:Nat):Int)+1=((2*k+1:Nat):Int):=by omega
    refine⟨⟨k+1,by omega⟩,by simp only;omega,AC [(6,.nm 6),(7,.nm 7),(36,.nm 36)] rfl rfl ?_ ?_⟩
    ·simp only[hps]
     first|exact eN|refine eM ?_
     rw[e1]
     rfl
    ·simp only[hps]
     first|exact eN|refine eM ?_
     show ((2*k:Nat):Int)+2=((2*(k+1):Nat):Int)
     omega
   ·have hk2:k=l.length / 2:=by exact eV
    refine Gb [36] ?_
    have hr:Fa n s l=(n,[s],Js l k):=by
     unfold Fa Wz
     rw[←hk2,if_neg (by rw[show Am s ByteArray.empty=false from hcd];simp)]
    exact AH hc [.cell 6 154] rfl (.inl rfl) (by simp) (by rw[hr];first|exact eR|refine Ax ?_)
 ·have hcd:=AA
  refine AK (ι:={k:Nat//2*k≤l.length}) (fun k=>⟨[(2,.p Bj l),(6,.bp 6 [] 0),(7,.bp 7 [] 0),(8,.p (.int .i64) ((2*k.1:Nat):Int))],[(6,.box 154 true [.p T9 ByteArray.empty,.raw (.slice none 0 0),.raw (.slice none 0 0)]),(7,.box 154 true [.p T9 n,.p Bj ([]:List ByteArray),.sr 36 bD 0 (Js l k.1).length]),(36,.arr 157 bD (Js l k.1))]⟩) (fun k=>l.length-2*k.1) ⟨0,Nat.zero_le _⟩ (AC [(6,.nm 6),(7,.nm 7),(36,.nil)] rfl rfl ?_ ?_) (fun k=>?_)
  ·first|exact eN|refine eM ?_
   exact⟨rfl,rfl⟩
  ·first|exact eN|refine eM ?_
  ·obtain⟨k,hk⟩:=k
   have hpl:=VS l k
   have hps:=S7 l k
   simp only
   repeat'(first|exact trivial|refine eS rfl ?_|refine AB ?_|refine rX [0,1,2,6,7,8,12,20] hc ?_ ?_|refine rC ?_ ?_<;>intro AA<;>try(cases AA;done))
   ·exact eV
   ·refine⟨by exact eV,⟨by exact eV,by exact eV⟩,⟨by exact eV,by exact eV⟩,?_⟩
    rw[hpl]
    simp only[AP]
    exact eV
   ·exact eV
   ·have hk2:2*k+1<l.length:=by exact eV
    have e1:((2*k:Nat):Int)+1=((2*k+1:Nat):Int):=by omega
    refine⟨⟨k+1,by omega⟩,by simp only;omega,AC [(6,.nm 6),(7,.nm 7),(36,.nm 36)] rfl rfl ?_ ?_⟩
    ·simp only[hps]
     first|exact eN|refine eM ?_
     rw[e1]
     rfl
    ·simp only[hps]
     first|exact eN|refine eM ?_
     show ((2*k:Nat):Int)+2=((2*(k+1):Nat):Int)
     omega
   ·have hk2:k=l.length / 2:=by exact eV
    refine Gb [36] ?_
    have hr:Fa n s l=(n,([]:List ByteArray),Js l k):=by
     unfold Fa Wz
     rw[←hk2,if_pos (show Am s ByteArray.empty=true from hcd)]
    exact AH hc [.cell 6 154] rfl (.inl rfl) (by simp) (by rw[hr];first|exact eR|refine Ax ?_)
end
/- Functions of grammarlabref06: Prelude. -/
section
attribute [local go_sem] mN cs0 cs1 cs2 cs3 cs4 cs5 cs6 cs7 cs8
def HK:List AI:=[
 Fa { data:=#[116,111,112] } { data:=#[] } [],
 Fa { data:=#[108,105,115,116] } { data:=#[116,111,112] } [],
 Fa { data:=#[99,111,110,115] } { data:=#[108,105,115,116] } [{ data:=#[70,73,82,83,84] },{ data:=#[116,111,112] },{ data:=#[82,69,83,84] },{ data:=#[108,105,115,116] }],
 Fa { data:=#[110,117,108,108] } { data:=#[108,105,115,116] } [],
 Fa { data:=#[100,108,105,115,116] } { data:=#[116,111,112] } [{ data:=#[76,73,83,84] },{ data:=#[108,105,115,116] },{ data:=#[76,65,83,84] },{ data:=#[108,105,115,116] }],
 Fa { data:=#[105,110,100,101,120] } { data:=#[116,111,112] } [],
 Fa { data:=#[104,97,110,100,108,101] } { data:=#[105,110,100,101,120] } [],
 Fa { data:=#[101,118,101,110,116] } { data:=#[105,110,100,101,120] } [],
 Fa { data:=#[101,110,116,105,116,121] } { data:=#[105,110,100,101,120] } [],
 Fa { data:=#[114,101,108] } { data:=#[116,111,112] } [{ data:=#[76,65,66,69,76] },{ data:=#[104,97,110,100,108,101] }],
 Fa { data:=#[113,101,113] } { data:=#[116,111,112] } [{ data:=#[72,73,71,72] },{ data:=#[104,97,110,100,108,101] },{ data:=#[76,79,87] },{ data:=#[104,97,110,100,108,101] }],
 Fa { data:=#[115,101,109] } { data:=#[116,111,112] } [{ data:=#[84,79,80] },{ data:=#[104,97,110,100,108,101] },{ data:=#[73,78,68,69,88] },{ data:=#[105,110,100,101,120] },{ data:=#[82,69,76,83] },{ data:=#[100,108,105,115,116] },{ data:=#[67,79,78,83] },{ data:=#[100,108,105,115,116] }],
 Fa { data:=#[115,105,103,110] } { data:=#[116,111,112] } [{ data:=#[83,69,77] },{ data:=#[115,101,109] },{ data:=#[65,82,71,83] },{ data:=#[108,105,115,116] }]]
def OP:Ak:={ ins:=[],pre:=fun _=>True,out:=fun _=>[.p EI HK] }
theorem cE:Ao Tryz.prog 53 OP:=by
 refine AX Tryz.func53 (by kernel_rfl) rfl Tryz.ntmps53 (by decide) (by kernel_rfl) (AJ [(100,mN)] [3,6,12,14,16,18,20]) (AF A0I AL) ?_
 rintro w0 O0 u hc - -
 simp only[OP,AN]
 repeat'(first|exact trivial|refine eS rfl ?_|refine AB ?_|refine rX [0] hc ?_ ?_|refine rC ?_ ?_<;>intro AA<;>try(cases AA;done))
 exact AH hc [.tmp 0] rfl (.inl rfl) (by simp) (by unfold HK;first|exact eR|refine Ax ?_)
end
/- Functions of grammarlabref06: Compile. -/
section
attribute [local go_sem] OO IC mK Li
abbrev HL:=ByteArray×List Int×List Int×List (Int×Int)
abbrev AM:=List HL×List uM
def Eb (l:List AQ) (v:List (List (Int×Int))) (n:Nat):List HL:=(List.range n).map fun i=>((l.getD i c0).1,(l.getD i c0).2,Y6 l (i:Int),v.getD i [])
theorem cF (l:List AQ) (v:List (List (Int×Int))) (n:Nat):Eb l v (n+1)=Eb l v n++[((l.getD n c0).1,(l.getD n c0).2,Y6 l (n:Int),v.getD n [])]:=by simp[Eb,List.range_succ]
theorem Lj (l:List AQ) (v:List (List (Int×Int))) (n:Nat):(Eb l v n).length=n:=by simp[Eb]
def F6 (d:List AI):AM:=(Eb (Aw d) (BK d).1 (Aw d).length,(EF d).1)
def AY (d:List AI):AM×Int:=if (BK d).2≠0 then (([],[]),(BK d).2) else (F6 d,0)
def Ii:Ak:={ ins:=[EI],pre:=fun _=>True,out:=fun(d,_)=>[.p GS (AY d).1,.p YO (AY d).2] }
theorem S8:Ao Tryz.prog 52 Ii:=by
 refine AX Tryz.func52 (by kernel_rfl) rfl Tryz.ntmps52 (by decide) (by kernel_rfl) (AJ [(96,OO),(97,IC),(98,mK),(99,Li)]) (AF cD (AF OM (AF A0F (AF ZC AL)))) ?_
 rintro w0 O0 ⟨d,u⟩ hc - -
 simp only[Ii,AN]
 repeat'(first|exact trivial|refine eS rfl ?_|refine AB ?_|refine rX [0,2,3,4,5,6,8,9,10,18,29] hc ?_ ?_|refine rC ?_ ?_<;>intro AA<;>try(cases AA;done))
 ·have h1:AY d=(([],[]),(BK d).2):=by unfold AY;rw[if_pos AA]
  exact AH hc [.cell 2 29,.tmp 3] rfl (.inl rfl) (by simp) (by rw[h1];first|exact eR|refine Ax ?_)
 ·have hv:(BK d).2=0:=by simpa using AA
  have h5:BJ d=0:=by
   unfold BK at hv
   split at hv
   ·rename_i h;exact absurd hv h
   ·rename_i h;exact Classical.byContradiction h
  obtain⟨hz,hf64,hdz⟩:=CG h5
  obtain⟨h3,hlen,hl⟩:=BZ hz
  have hr:AY d=(F6 d,0):=by unfold AY;rw[if_neg (by rw[hv];simp)]
  have hvl:(BK d).1.length=(Aw d).length:=by
   unfold BK
   rw[if_neg (by rw[h5];simp)]
   exact VR _ _ _ _
  have hwid:=Mt h3
  have hll:(Aw d).length≤256:=by rw[HJ];exact hlen
  unfold F6 at hr
  rw[hl]
  generalize Aw d=l at *
  generalize (BK d).1=v at *
  refine AK (ι:={n:Nat//n≤l.length}) (fun n=>⟨[(0,.p EI d),(2,.bp 2 [] 0),(4,.p yL v),(6,.p Ic l),(8,.bp 8 [] 0),(9,.p (.int .i64) (n.1:Int))],[(2,.box 29 true [.raw (.slice none 0 0),.raw (.slice none 0 0)]),(8,.box 29 true [.sr 53 oM 0 (Eb l v n.1).length,.raw (.slice none 0 0)]),(53,.arr 148 oM (Eb l v n.1))]⟩) (fun n=>l.length-n.1) ⟨0,Nat.zero_le _⟩ (AC [(2,.nm 2),(8,.nm 8),(53,.nil)] rfl rfl ?_ ?_) (fun n=>?_)
  ·first|exact eN|refine eM ?_
   exact⟨rfl,rfl⟩
  ·first|exact eN|refine eM ?_
  ·obtain⟨n,hn⟩:=n
   have htl:=Lj l v n
   have hts:=cF l v n
   simp only
   repeat'(first|exact trivial|refine eS rfl ?_|refine AB ?_|refine rX [0,2,3,4,5,6,8,9,10,18,29] hc ?_ ?_|refine rC ?_ ?_<;>intro AA<;>try(cases AA;done))
   ·refine⟨AA,AA,⟨AA,hll,hwid⟩,by rw[hvl];exact AA,?_⟩
    rw[htl]
    simp only[AP]
    omega
   ·omega
   ·have hn2:n<l.length:=Int.ofNat_lt.1 AA
    refine⟨⟨n+1,hn2⟩,by simp only;omega,AC [(2,.nm 2),(8,.nm 8),(53,.nm 53)] rfl rfl ?_ ?_⟩
    ·simp only[hts]
     first|exact eN|refine eM ?_
    ·simp only[hts]
     first|exact eN|refine eM ?_
   ·have hn2:n=l.length:=by omega
    subst hn2
    refine Gb [53] ?_
    exact AH hc [.cell 2 29,.tmp 3] rfl (.inl rfl) (by simp) (by rw[hr];first|exact eR|refine Ax ?_)
end
/- Functions of bits: word, Subset; hier: Subsumes. -/
section
def W8:Ak:={ ins:=[A8,T3],pre:=fun(_,i,_)=>(0:Int)≤i,out:=fun(b,i,_)=>[.p Nu (FZ b i)],lend:=true }
attribute [local go_sem] W8
theorem uQ:Ao Tryz.prog 192 W8:=by
 refine AX Tryz.func192 (by kernel_rfl) rfl Tryz.ntmps192 (by decide) (by kernel_rfl) (AJ []) AL ?_
 rintro w0 O0 ⟨b,i,u⟩ hc-hi
 simp only[W8,AN]
 repeat'(first|exact trivial|refine eS rfl ?_|refine AB ?_|refine rX [0,1,4,8] hc ?_ ?_|refine rC ?_ ?_<;>intro AA<;>try(cases AA;done))
 ·exact⟨hi,AA⟩
 ·have h1:FZ b i=b.getD i.toNat 0:=by unfold FZ;rw[if_pos AA]
  exact AH hc [.tmp 4] rfl (.inl rfl) (by simp) (by rw[h1];first|exact eR|refine Ax ?_)
 ·have h1:FZ b i=0:=by unfold FZ;rw[if_neg (Int.not_lt.2 AA)]
  exact AH hc [.tmp 4] rfl (.inl rfl) (by simp) (by rw[h1];first|exact eR|refine Ax ?_)
def Kl (a b:List Int):Bool:=(List.range a.length).all fun i=>CF .andNot .u64 (a.getD i 0) (FZ b (i:Int))==0
def ZD (a b:List Int) (n:Nat):Bool:=(List.range n).all fun i=>CF .andNot .u64 (a.getD i 0) (FZ b (i:Int))==0
theorem cG (a b:List Int) (n:Nat):ZD a b (n+1)=(ZD a b n&&CF .andNot .u64 (a.getD n 0) (FZ b (n:Int))==0):=by
 unfold ZD
 rw[List.range_succ,List.all_append]
 simp
def Km:Ak:={ ins:=[A8,A8],pre:=fun _=>True,out:=fun(a,b,_)=>[.p .bool (Kl a b)],lend:=true }
attribute [local go_sem] Km
theorem cH:Ao Tryz.prog 148 Km:=by
 refine AX Tryz.func148 (by kernel_rfl) rfl Tryz.ntmps148 (by decide) (by kernel_rfl) (AJ [(192,W8)]) (AF uQ AL) ?_
 rintro w0 O0 ⟨a,b,u⟩ hc ⟨⟨hal,-⟩,-⟩ -
 simp only[AP]at hal
 simp only[Km,AN]
 repeat'(first|exact trivial|refine eS rfl ?_|refine AB ?_|refine rX [0,1,4,5,6,7,8,9,10,19] hc ?_ ?_|refine rC ?_ ?_<;>intro AA<;>try(cases AA;done))
 have hfp:Kl a b=ZD a b a.length:=rfl
 refine AK (ι:={n:Nat//n≤a.length∧ZD a b n=true}) (fun n=>⟨[(1,.p A8 b),(7,.p A8 a),(8,.p (.int .i64) (a.length:Int)),(9,.p (.int .i64) (n.1:Int))],[]⟩) (fun n=>a.length-n.1) ⟨0,Nat.zero_le _,rfl⟩ (AC [] rfl rfl ?_ ?_) (fun n=>?_)
 ·first|exact eN|refine eM ?_
 ·first|exact eN|refine eM ?_
 ·obtain⟨n,hn,hall⟩:=n
  have hs:=cG a b n
  simp only
  repeat'(first|exact trivial|refine eS rfl ?_|refine AB ?_|refine rX [0,1,4,5,6,7,8,9,10,19] hc ?_ ?_|refine rC ?_ ?_<;>intro AA<;>try(cases AA;done))
  ·exact AA
  ·have hn2:n<a.length:=by exact eV
   have h1:Kl a b=false:=by
    unfold Kl
    rw[List.all_eq_false]
    exact⟨n,List.mem_range.2 hn2,by simpa using AA⟩
   exact AH hc [.tmp 4] rfl (.inl rfl) (by simp) (by rw[h1];first|exact eR|refine Ax ?_)
  ·exact eV
  ·have hn2:n<a.length:=by exact eV
   refine⟨⟨n+1,hn2,?_⟩,by simp only;omega,AC [] rfl rfl ?_ ?_⟩
   ·rw[hs,hall]
    simpa using AA
   ·first|exact eN|refine eM ?_
   ·first|exact eN|refine eM ?_
  ·have hn2:n=a.length:=by exact eV
   subst hn2
   exact AH hc [.tmp 4] rfl (.inl rfl) (by simp) (by rw[hfp,hall];first|exact eR|refine Ax ?_)
abbrev VT:HL:=(ByteArray.empty,[],[],[])
def DB (h:AM) (a b:Int):Bool:=Kl (h.1.getD b.toNat VT).2.1 (h.1.getD a.toNat VT).2.1
end
/- Functions of bits: normal, And, Equal; hier: Meet. -/
section
attribute [local go_sem] Km
def OQ:Ak:={ ins:=[A8],pre:=fun(b,_)=>List.length b≤100000,out:=fun(b,_)=>[.p A8 (BE b)] }
attribute [local go_sem] OQ
theorem cI:Ao Tryz.prog 147 OQ:=by
 refine AX Tryz.func147 (by kernel_rfl) rfl Tryz.ntmps147 (by decide) (by kernel_rfl) (AJ []) AL ?_
 rintro w0 O0 ⟨b,u⟩ hc-hb
 have hb:b.length≤100000:=hb
 simp only[OQ,AN]
 repeat'(first|exact trivial|refine eS rfl ?_|refine AB ?_|refine rX [0,2,3,15] hc ?_ ?_|refine rC ?_ ?_<;>intro AA<;>try(cases AA;done))
 refine AK (ι:={n:Nat//n≤b.length∧CQ b n=CQ b b.length}) (fun n=>⟨[(0,.p A8 b),(3,.p (.int .i64) (n.1:Int))],[]⟩) (fun n=>n.1) ⟨b.length,Nat.le_refl _,rfl⟩ (AC [] rfl rfl ?_ ?_) (fun n=>?_)
 ·first|exact eN|refine eM ?_
 ·first|exact eN|refine eM ?_
 ·obtain⟨n,hn,hg⟩:=n
  simp only
  repeat'(first|exact trivial|refine eS rfl ?_|refine AB ?_|refine rX [0,2,3,15] hc ?_ ?_|refine rC ?_ ?_<;>intro AA<;>try(cases AA;done))
  ·constructor
   ·exact eV
   ·intro h
    refine⟨?_,?_⟩<;>exact eV
  ·exact eV
  ·obtain⟨h1,h2⟩:=AA
   obtain⟨m,rfl⟩:∃m,n=m+1:=⟨n-1,by omega⟩
   have e:(((m+1:Nat):Int)-1)=(m:Int):=by omega
   rw[e]at h2
   have h2:b.getD m 0=0:=h2
   have hg2:CQ b m=CQ b b.length:=by
    rw[←hg]
    show _=if b.getD m 0=0 then CQ b m else m+1
    rw[if_pos h2]
   refine⟨⟨m,by omega,hg2⟩,by simp,AC [] rfl rfl ?_ ?_⟩
   ·first|exact eN|refine eM ?_
   ·simp only[e]
    first|exact eN|refine eM ?_
  ·exact Int.ofNat_le.2 hn
  ·have hend:CQ b n=n:=by
    cases n with
    | zero=>rfl
    | succ m =>
     have e:(((m+1:Nat):Int)-1)=(m:Int):=by omega
     rw[e]at AA
     have h2:=AA (by omega)
     have h2:¬b.getD m 0=0:=h2
     show (if b.getD m 0=0 then CQ b m else m+1)=m+1
     rw[if_neg h2]
   have h1:BE b=b.take n:=by unfold BE;rw[←hg,hend]
   rw[←h1]
   exact AH hc [.tmp 2] rfl (.inl rfl) (by simp) (by first|exact eR|refine Ax ?_)
def F7 (g:Nat→Int) (n i:Nat):List Int:=(List.range n).map fun j=>if j<i then g j else 0
theorem VU (g:Nat→Int) (n i:Nat):(F7 g n i).length=n:=by simp[F7]
theorem cJ (g:Nat→Int) (n:Nat):F7 g n 0=List.replicate n 0:=by
 apply List.ext_getElem
 ·simp[F7]
 ·intro j h1 h2
  simp[F7]
theorem pK (g:Nat→Int) (n i:Nat):(F7 g n i).set i (g i)=F7 g n (i+1):=by
 apply List.ext_getElem
 ·simp[F7]
 ·intro j h1 h2
  simp only[F7,List.getElem_set,List.getElem_map,List.getElem_range]
  split
  ·rename_i e;rw[if_pos (by omega),e]
  ·rename_i e
   by_cases hj:j<i
   ·rw[if_pos hj,if_pos (by omega)]
   ·rw[if_neg hj,if_neg (by omega)]
def W9 (a b:List Int) (i:Nat):Int:=CF .and .u64 (a.getD i 0) (b.getD i 0)
def FO (a b:List Int):List Int:=BE (F7 (W9 a b) (min a.length b.length) (min a.length b.length))
def mO:Ak:={ ins:=[A8,A8],pre:=fun(a,_,_)=>List.length a≤100000,out:=fun(a,b,_)=>[.p A8 (FO a b)] }
attribute [local go_sem] mO
theorem A0J:Ao Tryz.prog 112 mO:=by
 refine AX Tryz.func112 (by kernel_rfl) rfl Tryz.ntmps112 (by decide) (by kernel_rfl) (AJ [(147,OQ)]) (AF cI AL) ?_
 rintro w0 O0 ⟨a,b,u⟩ hc-ha
 have ha:a.length≤100000:=ha
 simp only[mO,AN]
 repeat'(first|exact trivial|refine eS rfl ?_|refine AB ?_|refine rX [0,1,4,5,6,14,15,16] hc ?_ ?_|refine rC ?_ ?_<;>intro AA<;>try(cases AA;done))
 ·split<;>simp only[AP]<;>dsimp only[Ty.den]at *<;>omega
 ·have hmin:Int.toNat (if ((List.length b:Nat):Int)<((List.length a:Nat):Int) then ((List.length b:Nat):Int) else ((List.length a:Nat):Int))=min (List.length a) (List.length b):=by split<;>omega
  rw[hmin]
  have hr:FO a b=BE (F7 (W9 a b) (min a.length b.length) (min a.length b.length)):=rfl
  have hma:min a.length b.length≤a.length:=Nat.min_le_left _ _
  have hmb:min a.length b.length≤b.length:=Nat.min_le_right _ _
  generalize min a.length b.length=n at *
  refine AK (ι:={i:Nat//i≤n}) (fun i=>⟨[(0,.p A8 a),(1,.p A8 b),(5,.sr 12 Nu 0 n),(14,.p (.int .i64) (n:Int)),(15,.p (.int .i64) (i.1:Int))],[(12,.arr 209 Nu (F7 (W9 a b) n i.1))]⟩) (fun i=>n-i.1) ⟨0,Nat.zero_le _⟩ (AC [(12,.nm 12)] rfl rfl ?_ ?_) (fun i=>?_)
  ·first|exact eN|refine eM ?_
   rw[cJ]
  ·first|exact eN|refine eM ?_
  ·obtain⟨i,hi⟩:=i
   have hfl:=VU (W9 a b) n i
   simp only
   repeat'(first|exact trivial|refine eS rfl ?_|refine AB ?_|refine rX [0,1,4,5,6,14,15,16] hc ?_ ?_|refine rC ?_ ?_<;>intro AA<;>try(cases AA;done))
   ·have hi2:i<n:=Int.ofNat_lt.1 AA
    exact⟨by exact eV,by exact eV,AA⟩
   ·exact eV
   ·have hi2:i<n:=Int.ofNat_lt.1 AA
    refine⟨⟨i+1,hi2⟩,by simp only;omega,AC [(12,.nm 12)] rfl rfl ?_ ?_⟩
    ·simp only[←pK]
     first|exact eN|refine eM ?_
     rfl
    ·first|exact eN|refine eM ?_
   ·have hi2:i=n:=by omega
    subst hi2
    have ht:(F7 (W9 a b) i i).take i=F7 (W9 a b) i i:=List.take_of_length_le (by rw[hfl];exact Nat.le_refl _)
    refine Gb [12] ?_
    repeat'(first|exact trivial|refine eS rfl ?_|refine AB ?_|refine rX [0,1,4,5,6,14,15,16] hc ?_ ?_|refine rC ?_ ?_<;>intro AA<;>try(cases AA;done))
    ·rw[ht,hfl]
     dsimp only[Ty.den]at *
     omega
    ·rw[ht]
     exact AH hc [.tmp 4] rfl (.inl rfl) (by simp) (by rw[hr];first|exact eR|refine Ax ?_)
def DW (a b:List Int):Bool:=Kl a b&&Kl b a
def RR:Ak:={ ins:=[A8,A8],pre:=fun _=>True,out:=fun(a,b,_)=>[.p .bool (DW a b)],lend:=true }
attribute [local go_sem] RR
theorem pL:Ao Tryz.prog 115 RR:=by
 refine AX Tryz.func115 (by kernel_rfl) rfl Tryz.ntmps115 (by decide) (by kernel_rfl) (AJ [(148,Km)]) (AF cH AL) ?_
 rintro w0 O0 ⟨a,b,u⟩ hc - -
 simp only[RR,AN]
 repeat'(first|exact trivial|refine eS rfl ?_|refine AB ?_|refine rX [0,1,4] hc ?_ ?_|refine rC ?_ ?_<;>intro AA<;>try(cases AA;done))
 exact AH hc [.tmp 4] rfl (.inl rfl) (by simp) (by unfold DW;first|exact eR|refine Ax ?_)
def EJ (c:List Int):Nat→List HL→Int
 | _,[]=>-1
 | k,t :: l=>if DW t.2.1 c=true then (k:Int) else EJ c (k+1) l
theorem cK (c:List Int) (l:List HL) {k:Nat} (h:k<l.length):EJ c k (l.drop k)=if DW (l.getD k VT).2.1 c=true then (k:Int) else EJ c (k+1) (l.drop (k+1)):=by
 rw[List.drop_eq_getElem_cons h]
 have e:l.getD k VT=l[k]:=by simp[List.getD_eq_getElem?_getD,h]
 rw[e]
 rfl
theorem uR (c:List Int) (t:HL):FI Tryz.prog 114 [.p oM t,.bp 1 [] 0] [(1,.box 142 false [.p A8 c])] [1] (fun res objs'=>res=.p .bool (DW t.2.1 c)∧objs'=[(1,.box 142 false [.p A8 c])]):=by
 refine Gw Tryz.func114 (by kernel_rfl) rfl Tryz.ntmps114 (by simp only[List.length_cons,List.length_nil];omega) (by kernel_rfl) rfl rfl (AJ [(115,RR)]) (AF pL AL) ?_
 intro w0 K O0 ρ0 hc hok1 hok2
 simp only[Ca]
 repeat'(first|exact trivial|refine eS rfl ?_|refine AB ?_|refine rX [0,1,2,3] hc ?_ ?_|refine rC ?_ ?_<;>intro AA<;>try(cases AA;done))
 refine Ev.ent (σ':=⟨[(3,.p .bool (DW t.2.1 c))],[(1,.box 142 false [.p A8 c])]⟩) ?_ (AC [(1,.nm 1)] rfl rfl ?_ ?_)
 ·exact DN hc [.tmp 3] rfl (.inl rfl) (.p .bool (DW t.2.1 c)) eT ⟨rfl,rfl⟩
 ·first|exact eN|refine eM ?_
 ·first|exact eN|refine eM ?_
theorem pM (l:List HL) (c:List Int) (hl:l.length≤100000):FI Tryz.prog 113 [.p fB l,.clo 114 [1]] [(1,.box 142 false [.p A8 c])] [1] (fun res objs'=>res=.p T3 (EJ c 0 l)∧objs'=[(1,.box 142 false [.p A8 c])]):=by
 refine Gw Tryz.func113 (by kernel_rfl) rfl Tryz.ntmps113 (by simp only[List.length_cons,List.length_nil];omega) (by kernel_rfl) rfl rfl (AJ []) AL ?_
 intro w0 K O0 ρ0 hc hok1 hok2
 simp only[Ca]
 repeat'(first|exact trivial|refine eS rfl ?_|refine AB ?_|refine rX [0,1,4,5,7,8,9,16] hc ?_ ?_|refine rC ?_ ?_<;>intro AA<;>try(cases AA;done))
 refine AK (ι:={k:Nat//k≤l.length∧EJ c k (l.drop k)=EJ c 0 l}) (fun k=>⟨[(0,.p fB l),(1,.clo 114 [1]),(7,.p (.int .i64) (l.length:Int)),(8,.p (.int .i64) (k.1:Int))],[(1,.box 142 false [.p A8 c])]⟩) (fun k=>l.length-k.1) ⟨0,Nat.zero_le _,rfl⟩ (AC [(1,.nm 1)] rfl rfl ?_ ?_) (fun k=>?_)
 ·first|exact eN|refine eM ?_
 ·first|exact eN|refine eM ?_
 ·obtain⟨k,hk,hf⟩:=k
  have hst:=fun h:k<l.length=>cK c l h
  simp only
  repeat'(first|exact trivial|refine eS rfl ?_|refine AB ?_|refine rX [0,1,4,5,7,8,9,16] hc ?_ ?_|refine rC ?_ ?_<;>intro AA<;>try(cases AA;done))
  ·have hk2:k<l.length:=Int.ofNat_lt.1 AA
   have hs2:=hst hk2
   refine cP 5 hc ?_ ?_
   ·exact AA
   ·refine rM hc (uR c (l.getD k VT)) [(1,.nm 1)] [] ?_ ?_ ?_
    ·first|exact eN|refine eM ?_
    ·first|exact eN|refine eM ?_
    ·rintro _ _ ⟨rfl,rfl⟩
     refine⟨[(1,.nm 1)],.p .bool (DW (l.getD k VT).2.1 c),[(1,.box 142 false [.p A8 c])],rfl,rfl,?_,?_,rfl,rfl,Ga ?_⟩
     ·first|exact eN|refine eM ?_
     ·first|exact eN|refine eM ?_
     ·repeat'(first|exact trivial|refine eS rfl ?_|refine AB ?_|refine rX [0,1,4,5,7,8,9,16] hc ?_ ?_|refine rC ?_ ?_<;>intro AA<;>try(cases AA;done))
      ·have AA:DW (l.getD k VT).2.1 c=true:=AA
       rw[if_pos AA,hf]at hs2
       refine Ev.ent (σ':=⟨[(4,.p (.int .i64) (k:Int))],[(1,.box 142 false [.p A8 c])]⟩) ?_ (AC [(1,.nm 1)] rfl rfl ?_ ?_)
       ·exact DN hc [.tmp 4] rfl (.inl rfl) (.p T3 (k:Int)) eT ⟨by rw[hs2],rfl⟩
       ·first|exact eN|refine eM ?_
       ·first|exact eN|refine eM ?_
      ·omega
      ·have AA:DW (l.getD k VT).2.1 c=false:=AA
       rw[if_neg (by rw[AA];simp)]at hs2
       refine⟨⟨k+1,hk2,hs2.symm.trans hf⟩,by simp only;omega,AC [(1,.nm 1)] rfl rfl ?_ ?_⟩
       ·first|exact eN|refine eM ?_
       ·first|exact eN|refine eM ?_
  ·have hk2:l.drop k=[]:=List.drop_eq_nil_of_le (Int.ofNat_le.1 AA)
   rw[hk2]at hf
   have hf:(-1:Int)=EJ c 0 l:=hf
   refine Ev.ent (σ':=⟨[(4,.p (.int .i64) (-1))],[(1,.box 142 false [.p A8 c])]⟩) ?_ (AC [(1,.nm 1)] rfl rfl ?_ ?_)
   ·exact DN hc [.tmp 4] rfl (.inl rfl) (.p T3 (-1)) eT ⟨by rw[hf],rfl⟩
   ·first|exact eN|refine eM ?_
   ·first|exact eN|refine eM ?_
def BI (h:AM) (t:Int):List Int:=(h.1.getD t.toNat VT).2.1
def Bt (h:AM) (a b:Int):Int×Bool :=
 if (FO (BI h a) (BI h b)).length=0 then (0,false) else if EJ (FO (BI h a) (BI h b)) 0 h.1<0 then (0,false) else (EJ (FO (BI h a) (BI h b)) 0 h.1,true)
def mP:Ak:={ ins:=[GS,T3,T3],pre:=fun(h,a,b,_)=>((0:Int)≤a∧a<(List.length (h:AM).1:Int))∧((0:Int)≤b∧b<(List.length (h:AM).1:Int))∧List.length (h:AM).1≤100000∧(∀x∈(h:AM).1,x.2.1.length≤100000),out:=fun(h,a,b,_)=>[.p T3 (Bt h a b).1,.p .bool (Bt h a b).2],lend:=true }
theorem A0K:Ao Tryz.prog 76 mP:=by
 refine AX Tryz.func76 (by kernel_rfl) rfl Tryz.ntmps76 (by decide) (by kernel_rfl) (AJ [(112,mO)]) (AF A0J AL) ?_
 rintro w0 O0 ⟨⟨ht,hf⟩,a,b,u⟩ hc-⟨ha,hb,hl,hx⟩
 simp only[mP,AN]
 refine Ev.ent (σ':=⟨[(0,.p GS (ht,hf)),(1,.p T3 a),(2,.p T3 b)],[]⟩) ?_ (AC [] rfl rfl ?_ ?_)
 ·repeat'(first|exact trivial|refine eS rfl ?_|refine AB ?_|refine rX [0,1,2,3,6,7,8,9,25,31] hc ?_ ?_|refine rC ?_ ?_<;>intro AA<;>try(cases AA;done))
  ·refine⟨ha,hb,?_⟩
   have h1:Int.toNat a<List.length ht:=(Int.toNat_lt ha.1).2 ha.2
   exact hx _ (AD (ht:List HL) VT h1)
  ·have hr:Bt (ht,hf) a b=(0,false):=by
    unfold Bt
    rw[if_pos (by unfold BI;exact Int.ofNat.inj AA)]
   exact AH hc [.tmp 6,.tmp 7] rfl (.inl rfl) (by simp) (by rw[hr];first|exact eR|refine Ax ?_)
  ·have hcd:∀c,c=FO (List.getD ht (Int.toNat a) (ByteArray.empty,[],[],[])).2.1 (List.getD ht (Int.toNat b) (ByteArray.empty,[],[],[])).2.1→c=FO (BI (ht,hf) a) (BI (ht,hf) b):=fun c h=>h
   have hmf:Bt (ht,hf) a b=if EJ (FO (BI (ht,hf) a) (BI (ht,hf) b)) 0 ht<0 then (0,false) else (EJ (FO (BI (ht,hf) a) (BI (ht,hf) b)) 0 ht,true):=by
    unfold Bt
    rw[if_neg (fun h=>AA (by unfold BI at h;exact congrArg Int.ofNat h))]
   generalize hcg:FO (List.getD ht (Int.toNat a) (ByteArray.empty,[],[],[])).2.1 (List.getD ht (Int.toNat b) (ByteArray.empty,[],[],[])).2.1=c at *
   rw[←hcd c rfl]at hmf
   refine cP 3 hc ?_ ?_
   ·trivial
   ·refine rM hc (pM ht c hl) [(1,.nm 8)] [] ?_ ?_ ?_
    ·first|exact eN|refine eM ?_
    ·first|exact eN|refine eM ?_
    ·rintro _ _ ⟨rfl,rfl⟩
     refine⟨[(8,.nm 1)],.p T3 (EJ c 0 ht),[(8,.box 142 false [.p A8 c])],rfl,rfl,?_,?_,rfl,rfl,?_⟩
     ·first|exact eN|refine eM ?_
     ·first|exact eN|refine eM ?_
     ·generalize EJ c 0 ht=m at *
      refine rL [0,1,2,3,6,7,8,9,25,31] hc ?_ ?_
      ·trivial
      ·repeat'(first|exact trivial|refine eS rfl ?_|refine AB ?_|refine rX [0,1,2,3,6,7,8,9,25,31] hc ?_ ?_|refine rC ?_ ?_<;>intro AA<;>try(cases AA;done))
       ·rw[if_pos AA]at hmf
        exact AH hc [.tmp 6,.tmp 7] rfl (.inl rfl) (by simp) (by rw[hmf];first|exact eR|refine Ax ?_)
       ·rw[if_neg (Int.not_lt.2 AA)]at hmf
        exact AH hc [.tmp 6,.tmp 7] rfl (.inl rfl) (by simp) (by rw[hmf];first|exact eR|refine Ax ?_)
 ·first|exact eN|refine eM ?_
 ·first|exact eN|refine eM ?_
end
/- Functions of grammarlabref08, 06, 11: Step, find, Meet, Types. -/
section
attribute [local go_sem] ME Yg
def Mv:Ak:={ ins:=[Ei,T3,T3],pre:=fun(f,n,_,_)=>(0:Int)≤n∧n<(List.length f:Int),out:=fun(f,n,e,_)=>[.p T3 (CK (List.getD (f:List AE) (Int.toNat n) (0,[])).2 e).1,.p .bool (CK (List.getD (f:List AE) (Int.toNat n) (0,[])).2 e).2],lend:=true }
attribute [local go_sem] Mv
theorem ZE:Ao Tryz.prog 106 Mv:=by
 refine AX Tryz.func106 (by kernel_rfl) rfl Tryz.ntmps106 (by decide) (by kernel_rfl) (AJ []) AL ?_
 rintro w0 O0 ⟨f,n,e,u⟩ hc ⟨⟨hlf,hf⟩,-⟩ hn
 simp only[Mv,AN]
 repeat'(first|exact trivial|refine eS rfl ?_|refine AB ?_|refine rX [0,1,2,3,6,7,8,9,19,28] hc ?_ ?_|refine rC ?_ ?_<;>intro AA<;>try(cases AA;done))
 ·exact hn
 ·have hL:List.length (List.getD (f:List AE) (Int.toNat n) (0,[])).2≤AP:=by
   have h1:Int.toNat n<List.length f:=(Int.toNat_lt hn.1).2 hn.2
   have:=hf _ (AD (f:List AE) (0,[]) h1)
   exact this.2.1
  simp only[AP]at hL
  generalize (List.getD (f:List AE) (Int.toNat n) (0,[])).2=l at *
  refine AK (ι:={k:Nat//k≤l.length∧CK (l.drop k) e=CK l e}) (fun k=>⟨[(2,.p T3 e),(8,.p Cb l),(9,.p (.int .i64) (k.1:Int))],[]⟩) (fun k=>l.length-k.1) ⟨0,by simp⟩ (AC [] rfl rfl ?_ ?_) (fun k=>?_)
  ·first|exact eN|refine eM ?_
  ·first|exact eN|refine eM ?_
  ·obtain⟨k,hk,hg⟩:=k
   have hd:k<l.length→l.drop k=l.getD k (0,0) :: l.drop (k+1):=fun h=>by
    rw[List.drop_eq_getElem_cons h,List.getD_eq_getElem?_getD,List.getElem?_eq_getElem h];rfl
   have hgd:k<l.length→(if (l.getD k (0,0)).1=e then ((l.getD k (0,0)).2,true) else CK (l.drop (k+1)) e)=CK l e:=fun h=>by
    rw[hd h]at hg;exact hg
   repeat'(first|exact trivial|refine eS rfl ?_|refine AB ?_|refine rX [0,1,2,3,6,7,8,9,19,28] hc ?_ ?_|refine rC ?_ ?_<;>intro AA<;>try(cases AA;done))
   ·exact eV
   ·exact eV
   ·have hkl:k<l.length:=by exact eV
    have hg:=hgd hkl
    rw[if_pos AA]at hg
    exact AH hc [.tmp 6,.tmp 7] rfl (.inl rfl) (by simp) (by rw[←hg];first|exact eR|refine Ax ?_)
   ·exact eV
   ·have hkl:k<l.length:=by exact eV
    have hg:=hgd hkl
    rw[if_neg AA]at hg
    refine⟨⟨k+1,by omega,hg⟩,by simp only;omega,AC [] rfl rfl ?_ ?_⟩
    ·first|exact eN|refine eM ?_
    ·first|exact eN|refine eM ?_
   ·have hk:l.drop k=[]:=List.drop_eq_nil_of_le (by exact eV)
    rw[hk]at hg
    have hg:(0,false)=CK l e:=hg
    exact AH hc [.tmp 6,.tmp 7] rfl (.inl rfl) (by simp) (by rw[←hg];first|exact eR|refine Ax ?_)
def Ec (b:List Int):List HL→Nat→Int×Bool
 | [],_=>(0,false)
 | t :: r,k=>if t.2.1=b then ((k:Int),true) else Ec b r (k+1)
def XA:Ak:={ ins:=[GS,A8],pre:=fun _=>True,out:=fun(h,b,_)=>[.p T3 (Ec b (h:AM).1 0).1,.p .bool (Ec b (h:AM).1 0).2],lend:=true }
attribute [local go_sem] XA
theorem uS:Ao Tryz.prog 142 XA:=by
 refine AX Tryz.func142 (by kernel_rfl) rfl Tryz.ntmps142 (by decide) (by kernel_rfl) (AJ [(177,ME)]) (AF Wl AL) ?_
 rintro w0 O0 ⟨⟨l,hf⟩,b,u⟩ hc ⟨⟨⟨hl,-⟩,-⟩,-⟩ -
 simp only[AP]at hl
 simp only[XA,AN]
 repeat'(first|exact trivial|refine eS rfl ?_|refine AB ?_|refine rX [0,1,2,4,5,6,11,21] hc ?_ ?_|refine rC ?_ ?_<;>intro AA<;>try(cases AA;done))
 refine AK (ι:={k:Nat//k≤List.length l∧Ec b (List.drop k l) k=Ec b l 0}) (fun k=>⟨[(1,.p A8 b),(2,.bp 2 [] 0),(6,.p (.int .i64) (k.1:Int))],[(2,.box 29 true [.p fB l,.p oL hf])]⟩) (fun k=>List.length l-k.1) ⟨0,by simp⟩ (AC [(2,.nm 2)] rfl rfl ?_ ?_) (fun k=>?_)
 ·first|exact eN|refine eM ?_
 ·first|exact eN|refine eM ?_
 ·obtain⟨k,hk,hg⟩:=k
  have hgd:k<List.length l→(if (List.getD l k VT).2.1=b then ((k:Int),true) else Ec b (List.drop (k+1) l) (k+1))=Ec b l 0:=fun h=>by
   rw[List.drop_eq_getElem_cons h]at hg
   rw[List.getD_eq_getElem?_getD,List.getElem?_eq_getElem h];exact hg
  repeat'(first|exact trivial|refine eS rfl ?_|refine AB ?_|refine rX [0,1,2,4,5,6,11,21] hc ?_ ?_|refine rC ?_ ?_<;>intro AA<;>try(cases AA;done))
  ·exact eV
  ·have hkl:k<List.length l:=by exact eV
   have hg:=hgd hkl
   have AA:(List.getD l k VT).2.1=b:=by simpa[G9] using AA
   rw[if_pos AA]at hg
   exact AH hc [.tmp 4,.tmp 5] rfl (.inl rfl) (by simp) (by rw[←hg];first|exact eR|refine Ax ?_)
  ·exact eV
  ·have hkl:k<List.length l:=by exact eV
   have hg:=hgd hkl
   have AA:¬(List.getD l k VT).2.1=b:=by simpa[G9] using AA
   rw[if_neg AA]at hg
   refine⟨⟨k+1,by omega,hg⟩,by simp only;omega,AC [(2,.nm 2)] rfl rfl ?_ ?_⟩
   ·first|exact eN|refine eM ?_
   ·first|exact eN|refine eM ?_
  ·have hk:List.drop k l=[]:=List.drop_eq_nil_of_le (by exact eV)
   rw[hk]at hg
   have hg:(0,false)=Ec b l 0:=hg
   exact AH hc [.tmp 4,.tmp 5] rfl (.inl rfl) (by simp) (by rw[←hg];first|exact eR|refine Ax ?_)
def Bz (h:AM) (a b:Int):Int×Bool:=Ec (FL (BI h a) (BI h b)) h.1 0
def S9:Ak:={ ins:=[GS,T3,T3],pre:=fun(h,a,b,_)=>((0:Int)≤a∧a<(List.length (h:AM).1:Int))∧((0:Int)≤b∧b<(List.length (h:AM).1:Int))∧(∀x∈(h:AM).1,x.2.1.length≤100000),out:=fun(h,a,b,_)=>[.p T3 (Bz h a b).1,.p .bool (Bz h a b).2],lend:=true }
attribute [local go_sem] S9
theorem uT:Ao Tryz.prog 105 S9:=by
 refine AX Tryz.func105 (by kernel_rfl) rfl Tryz.ntmps105 (by decide) (by kernel_rfl) (AJ [(142,XA),(143,Yg)]) (AF uS (AF bN AL)) ?_
 rintro w0 O0 ⟨⟨ht,hf⟩,a,b,u⟩ hc-⟨ha,hb,hx⟩
 simp only[S9,AN]
 have hcd:∀x:Int,0≤x∧x<(List.length ht:Int)→List.length (BI (ht,hf) x)≤100000:=fun x h1=>by
  have h2:Int.toNat x<List.length ht:=(Int.toNat_lt h1.1).2 h1.2
  exact hx _ (AD (ht:List HL) VT h2)
 repeat'(first|exact trivial|refine eS rfl ?_|refine AB ?_|refine rX [0,1,2,3,6,7] hc ?_ ?_|refine rC ?_ ?_<;>intro AA<;>try(cases AA;done))
 ·refine⟨ha,hb,?_⟩
  exact hcd a ha
 ·exact AH hc [.tmp 6,.tmp 7] rfl (.inl rfl) (by simp) (by unfold Bz BI;first|exact eR|refine Ax ?_)
end
/- Functions of subsume: target, Map, Subsumes. -/
section
def Ly (l:List (Int×Int)) (e:Int):Int:=match l with
 | []=>-1
 | a :: l=>if a.1=e then a.2 else Ly l e
end
/- Functions of subsume: Map, Subsumes. -/
section
structure uU (a b:List AE) (m:List Int):Prop where
 len:m.length=a.length
 rng:∀x∈m,x<(b.length:Int)
theorem uU.set {a b:List AE} {m:List Int} (h:uU a b m) (k:Nat) {v:Int} (hv:v<(b.length:Int)):uU a b (m.set k v):=by
 refine⟨by simp[h.len],fun x hx=>?_⟩
 rcases List.mem_or_eq_of_mem_set hx with hx|hx
 ·exact h.rng x hx
 ·rw[hx];exact hv
theorem uU.get {a b:List AE} {m:List Int} (h:uU a b m) (hb:0<b.length) (k:Nat):m.getD k 0<(b.length:Int):=by
 rw[List.getD_eq_getElem?_getD]
 cases hh:m[k]? with
 | none=>show (0:Int)<_;omega
 | some x=>exact h.rng x (List.mem_of_getElem? hh)
def EH (h:AM) (f:List AE):Prop:=∀x∈f,0≤x.1∧x.1<(h.1.length:Int)
theorem TA {f:List AE} (hf:Ag f) (k:Nat):∀x∈(f.getD k (0,[])).2,0≤x.2∧x.2<(f.length:Int):=by
 intro x hx
 by_cases h:k<f.length
 ·exact(hf.2 _ (AD f (0,[]) h)).2 x hx
 ·rw[List.getD_eq_getElem?_getD,List.getElem?_eq_none (by omega)]at hx
  cases hx
end
/- Functions of grammarlabref11: Types. -/
section
attribute [local go_sem] S9
def HV (h:AM) (l:List AE) (c:List Int):Nat→Option (List Int)
 | 0=>some (List.replicate l.length 0)
 | i+1=>match HV h l c i with
  | none=>none
  | some o=>if (Bz h (o.getD (c.getD i 0).toNat 0) (l.getD i (0,[])).1).2=true then some (o.set (c.getD i 0).toNat (Bz h (o.getD (c.getD i 0).toNat 0) (l.getD i (0,[])).1).1) else none
theorem pN {h:AM} {l:List AE} {c:List Int} {i:Nat} (hn:HV h l c i=none):∀ {j:Nat},i≤j→HV h l c j=none:=by
 intro j hij
 induction j with
 | zero=>rw[show i=0 by omega]at hn;exact hn
 | succ j ih =>
  by_cases e:i=j+1
  ·rw[←e];exact hn
  ·simp only[HV];rw[ih (by omega)]
def Q3 (c o:List Int) (i:Nat):List Int:=((List.range i).map fun(k:Nat)=>o.getD (c.getD k 0).toNat 0)++o.drop i
def HN (h:AM) (l:List AE) (c:List Int):List Int×Bool:=match HV h l c l.length with
 | none=>([],false)
 | some o=>((List.range l.length).map fun(k:Nat)=>o.getD (c.getD k 0).toNat 0,true)
def OT (n:Nat) (c:List Int):Prop:=c.length=n∧∀k:Nat,k<n→0≤c.getD k 0∧c.getD k 0≤(k:Int)∧c.getD (c.getD k 0).toNat 0=c.getD k 0
theorem uV {c o:List Int} {i:Nat} (h:i≤o.length):(Q3 c o i).length=o.length:=by
 unfold Q3
 simp;omega
theorem uW {c o:List Int} {i:Nat} (hi:i<o.length) {x:Int} (hr:OT o.length c) (hx:x=c.getD i 0):(Q3 c o i).getD x.toNat 0=o.getD x.toNat 0:=by
 obtain⟨h1,h2,h3⟩:=hr.2 i hi
 rw[←hx]at h1 h2 h3
 unfold Q3
 by_cases e:x.toNat<i
 ·rw[List.getD_eq_getElem?_getD,List.getElem?_append_left (by simpa using e),List.getElem?_map,List.getElem?_range e]
  simp only[Option.map_some,Option.getD_some]
  rw[h3]
 ·have e:x.toNat=i:=by omega
  rw[e,List.getD_eq_getElem?_getD,List.getElem?_append_right (by simp)]
  simp only[List.length_map,List.length_range,Nat.sub_self,List.getElem?_drop,Nat.add_zero]
  rw[List.getD_eq_getElem?_getD]
theorem uX {c o:List Int} {i:Nat} (hi:i<o.length):(Q3 c o i).set i (o.getD (c.getD i 0).toNat 0)=Q3 c o (i+1):=by
 unfold Q3
 rw[List.set_append_right _ _ (by simp)]
 simp only[List.length_map,List.length_range,Nat.sub_self]
 rw[List.drop_eq_getElem_cons hi,List.set_cons_zero,List.range_succ,List.map_append,List.append_assoc];rfl
theorem pO (c o:List Int):Q3 c o o.length=(List.range o.length).map fun(k:Nat)=>o.getD (c.getD k 0).toNat 0:=by
 unfold Q3
 simp
theorem pP (c o:List Int):Q3 c o 0=o:=by simp[Q3]
theorem ZF (b:List Int):∀(l:List HL) (k:Nat),0≤(Ec b l k).1∧((Ec b l k).2=true→(k:Int)≤(Ec b l k).1∧(Ec b l k).1<(k:Int)+l.length)
 | [],k=>⟨by simp[Ec],by simp[Ec]⟩
 | t :: r,k=>by
  unfold Ec
  split
  ·exact⟨by simp only;omega,fun _=>⟨by simp only;omega,by simp only[List.length_cons];omega⟩⟩
  ·obtain⟨h1,h2⟩:=ZF b r (k+1)
   refine⟨h1,fun h=>?_⟩
   obtain⟨h3,h4⟩:=h2 h
   simp only[List.length_cons]
   omega
theorem pQ {h:AM} {a b:Int} (hm:(Bz h a b).2=true):0≤(Bz h a b).1∧(Bz h a b).1<(h.1.length:Int):=by
 obtain⟨h1,h2⟩:=ZF (FL (BI h a) (BI h b)) h.1 0
 have h2:=h2 hm
 unfold Bz
 exact⟨h1,by omega⟩
def TyR (h:AM) (n:Nat) (o:List Int):Prop:=o.length=n∧∀k,k<n→0≤o.getD k 0∧o.getD k 0<(h.1.length:Int)
theorem PP (l:List Int) (v:Int) (i j:Nat) (hi:i<l.length):(l.set i v).getD j 0=if j=i then v else l.getD j 0:=by
 simp only[List.getD_eq_getElem?_getD,List.getElem?_set]
 by_cases e:i=j
 ·subst e;simp[hi]
 ·rw[if_neg e,if_neg (fun h=>e h.symm)]
theorem Lk {h:AM} (h0:0<h.1.length) {l:List AE} {c:List Int} (hc:OT l.length c):∀ {i:Nat} {o:List Int},i≤l.length→HV h l c i=some o→TyR h l.length o
 | 0,o,_,ho=>by
  simp only[HV]at ho
  cases ho
  refine⟨by simp,fun k hk=>?_⟩
  rw[List.getD_eq_getElem?_getD,List.getElem?_replicate,if_pos hk]
  exact⟨Int.le_refl _,by simp only[Option.getD_some];omega⟩
 | i+1,o,hi,ho=>by
  simp only[HV]at ho
  cases hp:HV h l c i with
  | none=>rw[hp]at ho;cases ho
  | some p =>
   rw[hp]at ho
   simp only at ho
   split at ho
   ·rename_i hm
    cases ho
    obtain⟨h1,h2⟩:=Lk h0 hc (by omega) hp
    obtain⟨c1,c2,_⟩:=hc.2 i (by omega)
    refine⟨by rw[List.length_set];exact h1,fun k hk=>?_⟩
    rw[PP _ _ _ _ (by omega)]
    split
    ·exact pQ hm
    ·exact h2 k hk
   ·cases ho
def TB:Ak:={ ins:=[GS,Ib,Ez],pre:=fun(h,l,c,_)=>OT (List.length l) c∧EH h l∧0<List.length (h:AM).1∧List.length l≤100000∧(∀x∈(h:AM).1,x.2.1.length≤100000),out:=fun(h,l,c,_)=>[.p Ez (HN h l c).1,.p .bool (HN h l c).2] }
attribute [local go_sem] TB
theorem uY:Ao Tryz.prog 67 TB:=by
 refine AX Tryz.func67 (by kernel_rfl) rfl Tryz.ntmps67 (by decide) (by kernel_rfl) (AJ [(105,S9)]) (AF uT AL) ?_
 rintro w0 O0 ⟨⟨ht,hf⟩,l,c,u⟩ hc-⟨hr,hty,h0,hl,hx⟩
 simp only[TB,AN]
 have hcl:=hr.1
 repeat'(first|exact trivial|refine eS rfl ?_|refine AB ?_|refine rX [0,1,2,3,6,7,8,9,10,11,12,19,40,51] hc ?_ ?_|refine rC ?_ ?_<;>intro AA<;>try(cases AA;done))
 ·simp only[AP];exact eV
 ·refine AK (ι:={s:Nat×List Int//s.1≤List.length l∧HV (ht,hf) l c s.1=some s.2}) (fun i=>⟨[(1,.p Ib l),(2,.p Ez c),(3,.bp 3 [] 0),(6,.raw (.slice none 0 0)),(7,.p .bool false),(8,.sr 15 T3 0 (List.length l)),(9,.p (.int .i64) (i.1.1:Int))],[(3,.box 29 true [.p fB ht,.p oL hf]),(15,.arr 3 T3 i.1.2)]⟩) (fun i=>List.length l-i.1.1) ⟨(0,List.replicate (List.length l) 0),by simp,rfl⟩ (AC [(3,.nm 3),(15,.nm 15)] rfl rfl ?_ ?_) (fun i=>?_)
  ·first|exact eN|refine eM ?_
  ·first|exact eN|refine eM ?_
  ·obtain⟨⟨i,o⟩,hi,ho⟩:=i
   simp only at hi ho
   obtain⟨hol,hor⟩:=Lk h0 hr hi ho
   simp only
   have hci:=hr.2 i
   have hoc:=hor (c.getD i 0).toNat
   have htl:=fun h:i<List.length l=>hty _ (AD (l:List AE) (0,[]) h)
   have hnx:HV (ht,hf) l c (i+1)=if (Bz (ht,hf) (o.getD (c.getD i 0).toNat 0) (l.getD i (0,[])).1).2=true then some (o.set (c.getD i 0).toNat (Bz (ht,hf) (o.getD (c.getD i 0).toNat 0) (l.getD i (0,[])).1).1) else none:=by
    simp only[HV,ho]
   have htyp:HN (ht,hf) l c=match HV (ht,hf) l c (List.length l) with
    | none=>([],false)
    | some o=>((List.range (List.length l)).map fun(k:Nat)=>o.getD (c.getD k 0).toNat 0,true):=rfl
   repeat'(first|exact trivial|refine eS rfl ?_|refine AB ?_|refine rX [0,1,2,3,6,7,8,9,10,11,12,19,40,51] hc ?_ ?_|refine rC ?_ ?_<;>intro AA<;>try(cases AA;done))
   ·have hil:i<List.length l:=by exact eV
    obtain⟨c1,c2,c3⟩:=hci hil
    exact⟨by rw[hcl];exact AA,⟨c1,by exact eV⟩,AA,hoc (by omega),htl hil,hx⟩
   ·have hil:i<List.length l:=by exact eV
    rw[if_neg (by rw[AA];simp)]at hnx
    have:=pN hnx (j:=List.length l) (by omega)
    rw[this]at htyp
    exact AH hc [.tmp 6,.tmp 7] rfl (.inl rfl) (by simp) (by rw[htyp];first|exact eR|refine Ax ?_)
   ·have hil:i<List.length l:=by exact eV
    obtain⟨c1,c2,c3⟩:=hci hil
    exact⟨by rw[hcl];assumption,c1,by exact eV⟩
   ·exact eV
   ·have hil:i<List.length l:=by exact eV
    rw[if_pos AA]at hnx
    refine⟨⟨(i+1,_),by simp only;omega,hnx⟩,by simp only;omega,AC [(3,.nm 3),(15,.nm 15)] rfl rfl ?_ ?_⟩
    ·first|exact eN|refine eM ?_
    ·first|exact eN|refine eM ?_
   ·have hil:i=List.length l:=by exact eV
    rw[←hil,ho]at htyp
    simp only at htyp
    have hrc:OT o.length c:=by rw[hol];exact hr
    rw[←hil]at hol
    refine AK (ι:={j:Nat//j≤o.length}) (fun j=>⟨[(1,.p Ib l),(2,.p Ez c),(8,.sr 15 T3 0 (List.length l)),(12,.p (.int .i64) (j.1:Int))],[(15,.arr 3 T3 (Q3 c o j.1))]⟩) (fun j=>o.length-j.1) ⟨0,by omega⟩ (AC [(15,.nm 15)] rfl rfl ?_ ?_) (fun j=>?_)
    ·first|exact eN|refine eM ?_
     rw[pP]
    ·first|exact eN|refine eM ?_
    ·obtain⟨j,hj⟩:=j
     have hjl:=uV (c:=c) hj
     have hjg:=fun h:j<o.length=>uW (x:=c.getD j 0) h hrc rfl
     have hjs:=fun h:j<o.length=>uX (c:=c) h
     have hcj:=hrc.2 j
     simp only
     repeat'(first|exact trivial|refine eS rfl ?_|refine AB ?_|refine rX [0,1,2,3,6,7,8,9,10,11,12,19,40,51] hc ?_ ?_|refine rC ?_ ?_<;>intro AA<;>try(cases AA;done))
     ·have hjl2:j<o.length:=by rw[hol,hil];exact eV
      obtain⟨c1,c2,c3⟩:=hcj hjl2
      exact⟨by rw[hcl];exact AA,⟨c1,by exact eV⟩,AA⟩
     ·exact eV
     ·have hjl2:j<o.length:=by rw[hol,hil];exact eV
      refine⟨⟨j+1,by omega⟩,by simp only;omega,AC [(15,.nm 15)] rfl rfl ?_ ?_⟩
      ·simp only
       rw[←hjs hjl2,←hjg hjl2]
       first|exact eN|refine eM ?_
      ·first|exact eN|refine eM ?_
     ·have hjl2:j=o.length:=by rw[hol,hil]at hj ⊢;exact eV
      subst hjl2
      rw[pO,hol]
      have hlt:((List.range i).map fun(k:Nat)=>o.getD (c.getD k 0).toNat 0).take (List.length l)=(List.range i).map fun(k:Nat)=>o.getD (c.getD k 0).toNat 0:=List.take_of_length_le (by simp;omega)
      exact AH hc [.tmp 6,.tmp 7] rfl (.inl rfl) (by simp) (by rw[htyp];first|exact eR|refine Ax ?_;rw[hil]at hlt ⊢;exact hlt)
end
/- Functions of grammarlabref11: Quotient. -/
section
attribute [local go_sem] Mv Uy
attribute [local go_sem] SQ bC ne_eq not_false_eq_true
def PQ (cl:List Int) (L:List (Int×Int)) (x:Int×Int):List (Int×Int):=if (CK L x.1).2=true then L else L++[(x.1,cl.getD x.2.toNat 0)]
def HO (cl:List Int) (L l:List (Int×Int)):List (Int×Int):=l.foldl (PQ cl) L
def Dp (cl:List Int) (g:List AE) (i:Nat) (l:List (Int×Int)):List AE:=g.set (cl.getD i 0).toNat ((g.getD (cl.getD i 0).toNat (0,[])).1,HO cl (g.getD (cl.getD i 0).toNat (0,[])).2 l)
def CS (l:List AE) (cl types:List Int):Nat→List AE
 | 0=>(List.range l.length).map fun(k:Nat)=>(types.getD k 0,[])
 | i+1=>Dp cl (CS l cl types i) i (l.getD i (0,[])).2
def OU (l:List AE) (cl types:List Int) (root:Int):List AE:=GU (CS l cl types l.length) (cl.getD root.toNat 0)
def TC:Ak:={ ins:=[Ib,Ez,Ez,T3],pre:=fun(l,c,t,r,_)=>Ag l∧List.length c=List.length l∧List.length t=List.length l∧(∀x∈(c:List Int),0≤x∧x<(List.length l:Int))∧((0:Int)≤r∧r<(List.length l:Int))∧List.length l*1000≤100000∧(∀x∈(l:List AE),x.2.length≤1000),out:=fun(l,c,t,r,_)=>[.p Ei (OU l c t r)] }
attribute [local go_sem] TC
def TD (types:List Int) (i:Nat):List AE:=(List.range i).map fun(k:Nat)=>(types.getD k 0,[])
theorem PR (types:List Int) (i:Nat):(TD types i).length=i:=by simp[TD]
theorem cL (types:List Int) (i:Nat):TD types (i+1)=TD types i++[(types.getD i 0,[])]:=by simp[TD,List.range_succ]
theorem cM (l:List AE) (c t:List Int):TD t l.length=CS l c t 0:=rfl
theorem VV (c:List Int) (g:List AE) (i:Nat) (l:List (Int×Int)):(Dp c g i l).length=g.length:=by simp[Dp]
theorem PS (l:List AE) (v:AE) (i j:Nat) (hi:i<l.length):(l.set i v).getD j (0,[])=if j=i then v else l.getD j (0,[]):=by
 simp only[List.getD_eq_getElem?_getD,List.getElem?_set]
 by_cases e:i=j
 ·subst e;simp[hi]
 ·rw[if_neg e,if_neg (fun h=>e h.symm)]
theorem pR {c:List Int} {g:List AE} {i:Nat} {l:List (Int×Int)} (hi:(c.getD i 0).toNat<g.length):(Dp c g i l).getD (c.getD i 0).toNat (0,[])=((g.getD (c.getD i 0).toNat (0,[])).1,HO c (g.getD (c.getD i 0).toNat (0,[])).2 l):=by
 unfold Dp
 rw[PS _ _ _ _ hi,if_pos rfl]
theorem pS {c:List Int} {g:List AE} {i:Nat} (hi:(c.getD i 0).toNat<g.length):Dp c g i []=g:=by
 unfold Dp HO
 simp only[List.foldl_nil]
 apply List.ext_getElem?
 intro j
 rw[List.getElem?_set]
 split
 ·rename_i e
  subst e
  rw[List.getD_eq_getElem?_getD,List.getElem?_eq_getElem hi]
  simp[hi]
 ·rfl
theorem cN {c:List Int} {g:List AE} {i:Nat} {l:List (Int×Int)} {x:Int×Int} (hi:(c.getD i 0).toNat<g.length) :
  ((CK ((Dp c g i l).getD (c.getD i 0).toNat (0,[])).2 x.1).2=true→Dp c g i (l++[x])=Dp c g i l) ∧
  ((CK ((Dp c g i l).getD (c.getD i 0).toNat (0,[])).2 x.1).2=false→Dp c g i (l++[x])=(Dp c g i l).set (c.getD i 0).toNat (((Dp c g i l).getD (c.getD i 0).toNat (0,[])).1,((Dp c g i l).getD (c.getD i 0).toNat (0,[])).2++[(x.1,c.getD x.2.toNat 0)])):=by
 rw[pR hi]
 unfold Dp HO
 rw[List.foldl_append]
 simp only[List.foldl_cons,List.foldl_nil]
 refine⟨fun h=>?_,fun h=>?_⟩
 ·unfold PQ at h ⊢
  rw[if_pos h]
 ·rw[List.set_set]
  unfold PQ at h ⊢
  rw[if_neg (by rw[h];simp)]
def XB (n m:Nat) (g:List AE):Prop:=g.length=n∧∀k,(g.getD k (0,[])).2.length≤m∧∀a∈(g.getD k (0,[])).2,0≤a.2∧a.2<(n:Int)
theorem ZG {c:List Int} {n:Nat} (hcl:c.length=n) (hcr:∀x∈c,0≤x∧x<(n:Int)):∀(l:List (Int×Int)) {L:List (Int×Int)} {m:Nat},L.length≤m→(∀a∈L,0≤a.2∧a.2<(n:Int))→(∀a∈l,0≤a.2∧a.2<(n:Int))→(HO c L l).length≤m+l.length∧∀a∈HO c L l,0≤a.2∧a.2<(n:Int)
 | [],L,m,h1,h2,_=>⟨h1,h2⟩
 | x :: l,L,m,h1,h2,h3=>by
  have hx:=h3 x (by simp)
  have e:HO c L (x :: l)=HO c (PQ c L x) l:=rfl
  rw[e]
  have h4:(PQ c L x).length≤m+1∧∀a∈PQ c L x,0≤a.2∧a.2<(n:Int):=by
   unfold PQ
   split
   ·exact⟨by omega,h2⟩
   ·refine⟨by simp;omega,fun a ha=>?_⟩
    rcases List.mem_append.1 ha with ha|ha
    ·exact h2 a ha
    ·have:a=(x.1,c.getD x.2.toNat 0):=by simpa using ha
     subst this
     exact hcr _ (AD c 0 (by omega))
  have:=ZG hcl hcr l h4.1 h4.2 fun a ha=>h3 a (by simp[ha])
  simp only[List.length_cons]
  exact⟨by omega,this.2⟩
theorem ZH {c:List Int} {n:Nat} (hcl:c.length=n) (hcr:∀x∈c,0≤x∧x<(n:Int)) {g:List AE} {m:Nat} (hg:XB n m g) {i:Nat} (hi:i<n) {l:List (Int×Int)} (hl:∀a∈l,0≤a.2∧a.2<(n:Int)):XB n (m+l.length) (Dp c g i l):=by
 have hci:=hcr _ (AD c 0 (k:=i) (by omega))
 have hlt:(c.getD i 0).toNat<g.length:=by rw[hg.1];omega
 refine⟨by rw[VV];exact hg.1,fun k=>?_⟩
 unfold Dp
 rw[PS _ _ _ _ hlt]
 split
 ·exact ZG hcl hcr l (hg.2 _).1 (hg.2 _).2 hl
 ·exact⟨Nat.le_trans (hg.2 k).1 (by omega),(hg.2 k).2⟩
theorem ZI {l:List AE} {c t:List Int} (hl:Ag l) (hla:∀x∈l,x.2.length≤1000) (hcl:c.length=l.length) (hcr:∀x∈c,0≤x∧x<(l.length:Int)):∀ {i:Nat},i≤l.length→XB l.length (i*1000) (CS l c t i)
 | 0,_=>by
  refine⟨by simp[CS],fun k=>?_⟩
  unfold CS
  rw[List.getD_eq_getElem?_getD,List.getElem?_map]
  cases h:(List.range l.length)[k]? with
  | none=>simp
  | some j=>simp
 | i+1,hi=>by
  have hm:=AD l (0,[]) (k:=i) (by omega)
  have:=ZH hcl hcr (ZI (t:=t) hl hla hcl hcr (i:=i) (by omega)) (i:=i) (by omega) (l:=(l.getD i (0,[])).2) (fun a ha=>(hl.2 _ hm).2 a ha)
  refine⟨this.1,fun k=>⟨Nat.le_trans (this.2 k).1 ?_,(this.2 k).2⟩⟩
  have:=hla _ hm
  omega
theorem pT {n m:Nat} {g:List AE} (h:XB n m g) (hn:n≤100000) (hm:m≤100000):Ag g:=by
 refine⟨by rw[h.1];exact hn,fun x hx=>?_⟩
 obtain⟨k,hk,rfl⟩:=List.mem_iff_getElem.1 hx
 have:=h.2 k
 rw[List.getD_eq_getElem?_getD,List.getElem?_eq_getElem hk]at this
 refine⟨Nat.le_trans this.1 hm,fun a ha=>?_⟩
 rw[h.1]
 exact this.2 a ha
theorem mQ:Ao Tryz.prog 68 TC:=by
 refine AX Tryz.func68 (by kernel_rfl) rfl Tryz.ntmps68 (by decide) (by kernel_rfl) (AJ [(106,Mv),(107,Uy)] [] [(30,108)]) (AF ZE (AF l8 AL)) ?_
 rintro w0 O0 ⟨l,c,t,r,u⟩ hc-⟨hg,hcl,htl,hcr,hr,hll,hla⟩
 simp only[TC,AN]
 repeat'(first|exact trivial|refine eS rfl ?_|refine AB ?_|refine rX [0,1,2,3,8,9,10,11,12,13,14,16,20,36,50,70] hc ?_ ?_|refine rC ?_ ?_<;>intro AA<;>try(cases AA;done))
 refine AK (ι:={i:Nat//i≤List.length l}) (fun i=>⟨[(0,.p Ib l),(1,.p Ez c),(2,.p Ez t),(3,.p T3 r),(8,.bp 8 [] 0),(9,.bp 9 [] 0),(10,.p (.int .i64) (i.1:Int))],[(8,.box 25 true [.raw (.slice none 0 0)]),(9,.box 25 true [.sr 31 JK 0 i.1]),(31,.nest 88 108 T3 ED (TD t i.1) none)]⟩) (fun i=>List.length l-i.1) ⟨0,by omega⟩ (AC [(8,.nm 8),(9,.nm 9),(31,.nil)] rfl rfl ?_ ?_) (fun i=>?_)
 ·first|exact eN|refine eM ?_
  rfl
 ·first|exact eN|refine eM ?_
 ·obtain⟨i,hi⟩:=i
  repeat'(first|exact trivial|refine eS rfl ?_|refine AB ?_|refine rX [0,1,2,3,8,9,10,11,12,13,14,16,20,36,50,70] hc ?_ ?_|refine rC ?_ ?_<;>intro AA<;>try(cases AA;done))
  ·refine⟨by rw[htl];exact AA,(PR t i).symm,?_⟩
   rw[PR]
   simp only[AP]
   dsimp only[Ty.den]at *
   omega
  ·exact eV
  ·have hil:i<List.length l:=by exact eV
   refine⟨⟨i+1,by omega⟩,by simp only;omega,AC [(8,.nm 8),(9,.nm 9),(31,.nm 31)] rfl rfl ?_ ?_⟩
   ·simp only
    rw[cL]
    first|exact eN|refine eM ?_
    rw[PR]
   ·first|exact eN|refine eM ?_
  ·have hil:i=List.length l:=by exact eV
   subst hil
   rw[cM l c t]
   refine AK (ι:={i:Nat//i≤List.length l}) (fun i=>⟨[(0,.p Ib l),(1,.p Ez c),(3,.p T3 r),(8,.bp 8 [] 0),(9,.bp 9 [] 0),(11,.p (.int .i64) (i.1:Int))],[(8,.box 25 true [.raw (.slice none 0 0)]),(9,.box 25 true [.sr 31 JK 0 (List.length l)]),(31,.nest 88 108 T3 ED (CS l c t i.1) none)]⟩) (fun i=>List.length l-i.1) ⟨0,by omega⟩ (AC [(8,.nm 8),(9,.nm 9),(31,.nm 31)] rfl rfl ?_ ?_) (fun i=>?_)
   ·first|exact eN|refine eM ?_
   ·first|exact eN|refine eM ?_
   ·obtain⟨i,hi⟩:=i
    have hRo:=ZI (t:=t) hg hla hcl hcr hi
    simp only
    repeat'(first|exact trivial|refine eS rfl ?_|refine AB ?_|refine rX [0,1,2,3,8,9,10,11,12,13,14,16,20,36,50,70] hc ?_ ?_|refine rC ?_ ?_<;>intro AA<;>try(cases AA;done))
    ·rw[hcl];exact AA
    ·have hil:i<List.length l:=by exact eV
     have hci:=hcr _ (AD (c:List Int) 0 (k:=i) (by omega))
     have hm:=AD (l:List AE) (0,[]) hil
     have hla1:=hla _ hm
     have hlr:=(hg.2 _ hm).2
     have hrs:CS l c t (i+1)=Dp c (CS l c t i) i (List.getD l i (0,[])).2:=rfl
     have hlt:(List.getD c i 0).toNat<(CS l c t i).length:=by rw[hRo.1];exact eV
     generalize CS l c t i=g at *
     have hGk:=fun k=>ZH hcl hcr hRo hil (l:=(List.getD l i (0,[])).2.take k) (fun a ha=>hlr a (List.mem_of_mem_take ha))
     refine AK (ι:={k:Nat//k≤(List.getD l i (0,[])).2.length}) (fun k=>⟨[(0,.p Ib l),(1,.p Ez c),(3,.p T3 r),(8,.bp 8 [] 0),(9,.bp 9 [] 0),(11,.p (.int .i64) (i:Int)),(12,.p T3 (List.getD c i 0)),(13,.p (.int .i64) (k.1:Int))],[(8,.box 25 true [.raw (.slice none 0 0)]),(9,.box 25 true [.sr 31 JK 0 (List.length l)]),(31,.nest 88 108 T3 ED (Dp c g i ((List.getD l i (0,[])).2.take k.1)) none)]⟩) (fun k=>(List.getD l i (0,[])).2.length-k.1) ⟨0,by omega⟩ (AC [(8,.nm 8),(9,.nm 9),(31,.nm 31)] rfl rfl ?_ ?_) (fun k=>?_)
     ·first|exact eN|refine eM ?_
      exact(pS hlt).symm
     ·first|exact eN|refine eM ?_
     ·obtain⟨k,hk⟩:=k
      have hGk:=hGk k
      have hst:=fun(x:Int×Int)=>cN (l:=(List.getD l i (0,[])).2.take k) (x:=x) hlt
      have hsn:=fun(h:k<(List.getD l i (0,[])).2.length)=>Ab (List.getD l i (0,[])).2 (0,0) h
      simp only
      generalize hG:Dp c g i ((List.getD l i (0,[])).2.take k)=G at *
      have htk:List.take (List.length l) G=G:=List.take_of_length_le (by rw[hGk.1];exact Nat.le_refl _)
      have hlG:=hGk.1
      repeat'(first|exact trivial|refine eS rfl ?_|refine AB ?_|refine rX [0,1,2,3,8,9,10,11,12,13,14,16,20,36,50,70] hc ?_ ?_|refine rC ?_ ?_<;>intro AA<;>try(cases AA;done))
      ·exact AA
      ·exact⟨by assumption,AA⟩
      ·rw[htk,hlG];exact hci
      ·rw[htk]at AA
       refine GE drawsAny hc 19 [([3,4,5,6,7,8,9,10,11,12,13,14,15,16,17],18)] [0,1,2] (by kernel_rfl) (Uq ?_ ?_)
       ·refine⟨hci,?_⟩
        rw[hcl]
        exact hlr _ (AD (List.getD l i (0,[])).2 (0,0) (by exact eV))
       ·refine mxN hc 31 ?_ ?_
        ·have:=(hGk.2 (Int.toNat (List.getD c i 0))).1
         have h5:((List.getD l i (0,[])).2.take k).length≤1000:=Nat.le_trans (List.length_take_le _ _) (Nat.le_trans hk hla1)
         simp only[AP]
         dsimp only[Ty.den]at *
         omega
        ·refine qN [0,1,2,3,8,9,10,11,12,13,14,16,20,36,50,70] hc ?_ ?_ ?_
         ·trivial
         ·exact hci
         ·repeat'(first|exact trivial|refine eS rfl ?_|refine AB ?_|refine rX [0,1,2,3,8,9,10,11,12,13,14,16,20,36,50,70] hc ?_ ?_|refine rC ?_ ?_<;>intro AA<;>try(cases AA;done))
          ·exact eV
          ·have hkl:k<(List.getD l i (0,[])).2.length:=by exact eV
           have hst:=(hst (List.getD (List.getD l i (0,[])).2 k (0,0))).2 AA
           refine⟨⟨k+1,by omega⟩,by simp only;omega,AC [(8,.nm 8),(9,.nm 9),(31,.nm 31)] rfl rfl ?_ ?_⟩
           ·simp only
            rw[hsn hkl,hst]
            first|exact eN|refine eM ?_
           ·first|exact eN|refine eM ?_
      ·exact eV
      ·rw[htk]at AA
       have hkl:k<(List.getD l i (0,[])).2.length:=by exact eV
       have hst:=(hst (List.getD (List.getD l i (0,[])).2 k (0,0))).1 AA
       refine⟨⟨k+1,by omega⟩,by simp only;omega,AC [(8,.nm 8),(9,.nm 9),(31,.nm 31)] rfl rfl ?_ ?_⟩
       ·simp only
        rw[hsn hkl,hst]
        first|exact eN|refine eM ?_
       ·first|exact eN|refine eM ?_
      ·exact eV
      ·have hkl:(List.getD l i (0,[])).2.take k=(List.getD l i (0,[])).2:=List.take_of_length_le (by exact eV)
       rw[hkl]at hG
       rw[←hrs]at hG
       refine⟨⟨i+1,by omega⟩,by simp only;omega,AC [(8,.nm 8),(9,.nm 9),(31,.nm 31)] rfl rfl ?_ ?_⟩
       ·simp only
        rw[hG]
        first|exact eN|refine eM ?_
       ·first|exact eN|refine eM ?_
    ·have hil:i=List.length l:=by exact eV
     subst hil
     have hq:OU l c t r=GU (CS l c t (List.length l)) (c.getD r.toNat 0):=rfl
     have hgd:=pT hRo (by omega) (by omega)
     have hlr:=hRo.1
     have htk:List.take (List.length l) (CS l c t (List.length l))=CS l c t (List.length l):=List.take_of_length_le (by rw[hlr];exact Nat.le_refl _)
     generalize CS l c t (List.length l)=g at *
     refine Gb [31] ?_
     repeat'(first|exact trivial|refine eS rfl ?_|refine AB ?_|refine rX [0,1,2,3,8,9,10,11,12,13,14,16,20,36,50,70] hc ?_ ?_|refine rC ?_ ?_<;>intro AA<;>try(cases AA;done))
     ·rw[htk,hlr,hcl]
      exact⟨hr,hgd,hcr _ (AD (c:List Int) 0 (by exact eV))⟩
     ·rw[htk,←hq]
      exact AH hc [.cell 8 25] rfl (.inl rfl) (by simp) (by first|exact eR|refine Ax ?_)
end
/- Plain: the codes of a hierarchy are closed under intersections. -/
section
theorem TE (l:List (List Int)) (i k:Nat):l <+: GI l i k:=by
 unfold GI
 split
 ·exact List.prefix_append _ _
 ·exact List.prefix_refl _
theorem TF (i:Nat):∀(n k:Nat) (l:List (List Int)),l <+: GJ i n k l
 | 0,_,l=>List.prefix_refl l
 | n+1,k,l=>by
  unfold GJ
  split
  ·exact(TE l i k).trans (TF i n (k+1) _)
  ·exact List.prefix_refl l
theorem TG:∀(n i:Nat) (l:List (List Int)),l <+: IB n i l
 | 0,_,l=>List.prefix_refl l
 | n+1,i,l=>by
  unfold IB
  split
  ·exact(TF i i 0 l).trans (TG n (i+1) _)
  ·exact List.prefix_refl l
theorem OV {l m:List (List Int)} (h:l <+: m) {k:Nat} (hk:k<l.length):m.getD k []=l.getD k []:=by
 obtain⟨t,rfl⟩:=h
 simp only[List.getD_eq_getElem?_getD]
 rw[List.getElem?_append_left hk]
def Jt (l:List (List Int)) (q p:Nat):Prop:=FL (l.getD q []) (l.getD p [])=[]∨FL (l.getD q []) (l.getD p [])∈l
theorem Jt.pre {l m:List (List Int)} (h:l <+: m) {q p:Nat} (hq:q<l.length) (hp:p<l.length) (hm:Jt l q p):Jt m q p:=by
 unfold Jt at hm ⊢
 rw[OV h hq,OV h hp]
 rcases hm with hm|hm
 ·exact .inl hm
 ·exact .inr (h.subset hm)
theorem A0L {l:List (List Int)} {b:List Int} (h:bQ l b=true):b∈l:=by
 obtain⟨x,hx,e⟩:=List.any_eq_true.1 h
 have:x=b:=by simpa[G9] using e
 rw[←this]
 exact hx
theorem cO {l:List (List Int)} {i k:Nat} (hi:i<l.length) (hk:k<l.length):Jt (GI l i k) i k:=by
 have hp:=TE l i k
 unfold Jt
 rw[OV hp hi,OV hp hk]
 unfold GI
 split
 ·right;simp
 ·rename_i hc
  rw[Bool.and_eq_true,decide_eq_true_eq,Bool.not_eq_true']at hc
  by_cases h0:0<((FL (l.getD i []) (l.getD k [])).length:Int)
  ·right
   cases hh:bQ l (FL (l.getD i []) (l.getD k [])) with
   | true=>exact A0L hh
   | false=>exact absurd ⟨h0,hh⟩ hc
  ·left
   exact List.eq_nil_of_length_eq_zero (by omega)
theorem TH {i:Nat}:∀ {n k:Nat} {l:List (List Int)},n+k=i→i<l.length→(GJ i n k l).length≤256→(∀p,p<k→Jt l i p)→∀p,p<i→Jt (GJ i n k l) i p
 | 0,k,l,hn,hi,hl,h=>fun p hp=>h p (by omega)
 | n+1,k,l,hn,hi,hl,h=>by
  unfold GJ at hl ⊢
  split at hl
  ·rename_i hc
   rw[if_pos hc]
   have hp:=TE l i k
   refine TH (by omega) (Nat.lt_of_lt_of_le hi hp.length_le) hl fun p hpk=>?_
   by_cases e:p=k
   ·subst e
    exact cO hi (by omega)
   ·exact(h p (by omega)).pre hp hi (by omega)
  ·rename_i hc
   exact absurd (by omega:l.length≤256) hc
theorem TJ:∀ {n i:Nat} {l:List (List Int)},257≤n+i→(IB n i l).length≤256→i≤l.length→(∀q p,p<q→q<i→Jt l q p)→∀q p,p<q→q<(IB n i l).length→Jt (IB n i l) q p
 | 0,i,l,hn,hl,hil,h=>fun q p hpq hq=>by
  have hl':l.length≤256:=hl
  omega
 | n+1,i,l,hn,hl,hil,h=>by
  unfold IB at hl ⊢
  split at hl
  ·rename_i hc
   rw[if_pos hc]
   have hp:=TF i i 0 l
   have hpl:=hp.length_le
   have hgl:=(TG n (i+1) (GJ i i 0 l)).length_le
   refine TJ (by omega) hl (by omega) fun q p hpq hq=>?_
   by_cases e:q=i
   ·subst e
    exact TH (by omega) hc.1 (by omega) (fun p hp=>by omega) p hpq
   ·exact(h q p hpq (by omega)).pre hp (by omega) (by omega)
  ·rename_i hc
   rw[if_neg hc]
   intro q p hpq hq
   exact h q p hpq (by
    refine Classical.byContradiction fun hh=>hc ⟨by omega,hl⟩)
theorem XC {c:List (List Int)} (hl:(Ay c).length≤256):∀q p,p<q→q<(Ay c).length→Jt (Ay c) q p :=
 TJ (by omega) hl (Nat.zero_le _) (fun q p _ h=>by omega)
/-! Bits -/
theorem uZ (a b:List Int) (k:Nat):(FL a b).getD k 0=if k<a.length then CF .and .u64 (a.getD k 0) (b.getD k 0) else 0:=by
 unfold FL
 rw[OH]
 split
 ·rename_i h;exact Ld .and a b h
 ·rename_i h
  rw[List.getD_eq_getElem?_getD,List.getElem?_eq_none (by rw[D0];omega)]
  rfl
theorem F8 {b:List Int} {k:Nat} (h:¬k<b.length):b.getD k 0=0:=by
 rw[List.getD_eq_getElem?_getD,List.getElem?_eq_none (by omega)];rfl
theorem RS {a b:List Int} (ha:Hn a) (hb:Hn b) (i:Nat):BM (FL a b) i=(BM a i&&BM b i):=by
 unfold BM
 rw[uZ]
 split
 ·rw[HG (A6 ha _) (A6 hb _),Int.toNat_natCast,Nat.testBit_and]
 ·rename_i h
  rw[F8 h]
  simp
theorem XD {a b:List Int} (ha:Hn a) (hb:Hn b):Hn (FL a b):=by
 refine Mm fun x hx=>?_
 unfold Fj at hx
 obtain⟨i,-,rfl⟩:=List.mem_map.1 hx
 rw[Gi,HG (A6 ha _) (A6 hb _)]
 have h1:=A6 ha i
 have h2:(a.getD i 0).toNat &&& (b.getD i 0).toNat≤(a.getD i 0).toNat:=Nat.and_le_left
 have h3:=h1.1
 have h4:=h1.2
 exact⟨Int.natCast_nonneg _,by omega⟩
theorem PT (b:List Int):∀n,CQ b n=0∨b.getD (CQ b n-1) 0≠0
 | 0=>.inl rfl
 | n+1=>by
  unfold CQ
  split
  ·exact PT b n
  ·rename_i h
   right
   simpa using h
theorem A0M {n:Nat} (h0:n≠0) (h1:n<18446744073709551616):∃r,r<64∧n.testBit r=true:=by
 refine Classical.byContradiction fun hc=>h0 ?_
 refine Nat.eq_of_testBit_eq fun r=>?_
 rw[Nat.zero_testBit]
 by_cases hr:r<64
 ·cases hb:n.testBit r with
  | false=>rfl
  | true=>exact absurd ⟨r,hr,hb⟩ hc
 ·have e:(18446744073709551616:Nat)=2 ^ 64:=by decide
  rw[e]at h1
  exact Nat.testBit_lt_two_pow (Nat.lt_of_lt_of_le h1 (Nat.pow_le_pow_right (by decide) (by omega)))
theorem u7 {b:List Int} (hb:Hn b) {k:Nat} (h:b.getD k 0≠0):∃i,BM b i=true:=by
 have hu:=A6 hb k
 have h1:=hu.1
 have h2:=hu.2
 obtain⟨r,hr,ht⟩:=A0M (n:=(b.getD k 0).toNat) (by omega) (by omega)
 refine⟨64*k+r,?_⟩
 unfold BM
 rw[show (64*k+r) / 64=k by omega,show (64*k+r) % 64=r by omega]
 exact ht
theorem cQ {b:List Int} (hb:Hn b) (h:BE b≠[]):∃i,BM b i=true:=by
 rcases PT b b.length with h1|h1
 ·exact absurd (by unfold BE;rw[h1];rfl) h
 ·exact u7 hb h1
theorem VW {a b:List Int} (ha:Hn a) (hb:Hn b) (h:∀i,BM a i=true→BM b i=true) (k:Nat):CF .andNot .u64 (a.getD k 0) (b.getD k 0)=0:=by
 rw[PK]
 have:(BitVec.ofInt 64 (a.getD k 0) &&& ~~~BitVec.ofInt 64 (b.getD k 0))=0#64:=by
  apply BitVec.eq_of_getLsbD_eq
  intro r hr
  rw[BitVec.getLsbD_and,BitVec.getLsbD_not,←BitVec.testBit_toNat,←BitVec.testBit_toNat,E2 (A6 ha k),E2 (A6 hb k)]
  have hk:=h (64*k+r)
  unfold BM at hk
  rw[show (64*k+r) / 64=k by omega,show (64*k+r) % 64=r by omega]at hk
  cases hx:(a.getD k 0).toNat.testBit r with
  | false=>simp
  | true=>rw[hk hx];simp
 rw[this]
 rfl
theorem cR {a b:List Int} (ha:Hn a) (hb:Hn b):Ef a b=true↔∀i,BM a i=true→BM b i=true:=by
 constructor
 ·exact fun h i hi=>Kg ha hb h hi
 ·intro h
  unfold Ef PE BE
  have h1:CQ (Fj .andNot a b a.length) (Fj .andNot a b a.length).length=0:=by
   rw[D0]
   exact PM fun k hk=>by rw[Ld _ _ _ hk];exact VW ha hb h k
  rw[h1]
  rfl
end
/- Plain: hier.Meet finds the most general common subtype. -/
section
structure mR (l:List (List Int)):Prop where
 wds:∀c∈l,Hn c
 some:∀c∈l,∃i,BM c i=true
 wid:∀c∈l,c.length≤64
 meet:∀a∈l,∀b∈l,(∃i,BM a i=true∧BM b i=true)→∃t∈l,∀i,BM t i=(BM a i&&BM b i)
structure Bs (l:List (List Int)):Prop where
 wds:∀c∈l,Hn c
 some:∀c∈l,∃i,BM c i=true
theorem VX {l:List (List Int)} {k:Nat} (h:¬k<l.length):l.getD k []=[]:=by
 rw[List.getD_eq_getElem?_getD,List.getElem?_eq_none (by omega)];rfl
theorem Bs.get {l:List (List Int)} (h:Bs l) (k:Nat):Hn (l.getD k []):=by
 by_cases hk:k<l.length
 ·exact h.wds _ (DA hk)
 ·rw[VX hk]
  intro x hx
  cases hx
theorem A0N {l:List (List Int)} (h:Bs l) (i k:Nat):Bs (GI l i k):=by
 unfold GI
 split
 ·rename_i hc
  rw[Bool.and_eq_true,decide_eq_true_eq]at hc
  refine⟨fun c hc'=>?_,fun c hc'=>?_⟩
  ·rcases List.mem_append.1 hc' with hc'|hc'
   ·exact h.wds c hc'
   ·have:c=FL (l.getD i []) (l.getD k []):=by simpa using hc'
    rw[this]
    exact XD (h.get i) (h.get k)
  ·rcases List.mem_append.1 hc' with hc'|hc'
   ·exact h.some c hc'
   ·have:c=FL (l.getD i []) (l.getD k []):=by simpa using hc'
    rw[this]
    have hne:FL (l.getD i []) (l.getD k [])≠[]:=by
     intro e
     rw[e]at hc
     exact absurd hc.1 (by simp)
    have hz:Hn (Fj .and (l.getD i []) (l.getD k []) (l.getD i []).length):=by
     intro x hx
     unfold Fj at hx
     obtain⟨j,-,rfl⟩:=List.mem_map.1 hx
     rw[Gi,HG (A6 (h.get i) _) (A6 (h.get k) _)]
     have h1:=A6 (h.get i) j
     have h2:((l.getD i []).getD j 0).toNat &&& ((l.getD k []).getD j 0).toNat≤((l.getD i []).getD j 0).toNat:=Nat.and_le_left
     have h3:=h1.1
     have h4:=h1.2
     exact⟨Int.natCast_nonneg _,by omega⟩
    obtain⟨j,hj⟩:=cQ hz hne
    exact⟨j,by unfold FL;rw[Ml];exact hj⟩
 ·exact h
theorem mS {i:Nat}:∀ {n k:Nat} {l:List (List Int)},Bs l→Bs (GJ i n k l)
 | 0,_,_,h=>h
 | n+1,k,l,h=>by
  unfold GJ
  split
  ·exact mS (A0N h i k)
  ·exact h
theorem mT:∀ {n i:Nat} {l:List (List Int)},Bs l→Bs (IB n i l)
 | 0,_,_,h=>h
 | n+1,i,l,h=>by
  unfold IB
  split
  ·exact mT (mS h)
  ·exact h
theorem pU {d:List AI} (h3:BG d=0):Bs (Ac d):=by
 obtain⟨-,h2,-⟩:=A5 h3
 have hnl:=Ek d d.length
 rw[List.take_length]at hnl
 have hal:(AU d).length≤4096:=by omega
 refine⟨fun c hc=>?_,fun c hc=>?_⟩
 ·unfold Ac at hc
  obtain⟨s,-,rfl⟩:=List.mem_map.1 hc
  exact(D5 (d:=d) hal s 0).2.1
 ·unfold Ac at hc
  obtain⟨s,hs,rfl⟩:=List.mem_map.1 hc
  obtain⟨j,hj,e⟩:=Bn ByteArray.empty hs
  have hsd:0≤A9 d s:=by
   obtain⟨x,hx,e⟩:=Fl hs
   rw[←e];exact Eo hx
  exact⟨j,(D5 (d:=d) hal s j).1.2 ⟨hj,by rw[e];exact Mq hsd⟩⟩
theorem cS {d:List AI} (h3:BG d=0) (hl:(Ay (Ac d)).length≤256):mR (Ay (Ac d)):=by
 obtain⟨-,h2,-⟩:=A5 h3
 have hb:Bs (Ay (Ac d)):=mT (pU h3)
 have hm:=XC hl
 refine⟨hb.wds,hb.some,OL (Ms h2),fun a ha b hb2 hi=>?_⟩
 obtain⟨q,hq,rfl⟩:=Bn [] ha
 obtain⟨p,hp,rfl⟩:=Bn [] hb2
 have key:∀q p,q<(Ay (Ac d)).length→p<(Ay (Ac d)).length→Jt (Ay (Ac d)) q p→(∃i,BM ((Ay (Ac d)).getD q []) i=true∧BM ((Ay (Ac d)).getD p []) i=true) →
   ∃t∈Ay (Ac d),∀i,BM t i=(BM ((Ay (Ac d)).getD q []) i&&BM ((Ay (Ac d)).getD p []) i):=by
  intro q p hq hp hmm hi
  have hand:=RS (hb.get q) (hb.get p)
  rcases hmm with hmm|hmm
  ·obtain⟨i,i1,i2⟩:=hi
   have:=hand i
   rw[hmm,i1,i2]at this
   unfold BM at this
   simp at this
  ·exact⟨_,hmm,hand⟩
 rcases Nat.lt_trichotomy p q with h|h|h
 ·exact key q p hq hp (hm q p h hq) hi
 ·subst h
  exact⟨_,DA hq,fun i=>by rw[Bool.and_self]⟩
 ·obtain⟨t,ht,e⟩:=key p q hp hq (hm p q h hp) (by obtain⟨i,i1,i2⟩:=hi;exact⟨i,i2,i1⟩)
  exact⟨t,ht,fun i=>by rw[e i,Bool.and_comm]⟩
def T8 (h:AM):Prop:=mR (h.1.map fun t=>t.2.1)∧h.1.length≤256
theorem Ho (d:List AI):T8 (AY d).1:=by
 unfold AY
 split
 ·exact⟨⟨fun c h=>(by cases h),fun c h=>(by cases h),fun c h=>(by cases h),fun c h=>(by cases h)⟩,by simp⟩
 ·rename_i hv
  have hv:(BK d).2=0:=Classical.byContradiction hv
  have h5:BJ d=0:=by
   unfold BK at hv
   split at hv
   ·rename_i h;exact absurd hv h
   ·rename_i h;exact Classical.byContradiction h
  obtain⟨hz,-,-⟩:=CG h5
  obtain⟨h3,hlen,-⟩:=BZ hz
  have hf:=cS h3 hlen
  have hmem:∀c,c∈((F6 d).1.map fun t=>t.2.1)↔c∈Ay (Ac d):=by
   intro c
   have e:((F6 d).1.map fun t=>t.2.1)=(Aw d).map fun x=>x.2:=by
    show ((Eb _ _ _).map fun t=>t.2.1)=_
    unfold Eb
    rw[List.map_map]
    apply List.ext_getElem
    ·simp
    ·intro i h1 h2
     simp[List.getD_eq_getElem?_getD,show i<(Aw d).length by simpa using h1]
   rw[e]
   constructor
   ·intro h
    obtain⟨x,hx,rfl⟩:=List.mem_map.1 h
    obtain⟨b,hb,rfl⟩:=DV.1 hx
    exact hb
   ·intro h
    exact List.mem_map.2 ⟨_,DV.2 ⟨c,h,rfl⟩,rfl⟩
  refine⟨⟨fun c h=>hf.wds c ((hmem c).1 h),fun c h=>hf.some c ((hmem c).1 h),fun c h=>hf.wid c ((hmem c).1 h),fun a ha b hb hi=>?_⟩,?_⟩
  ·obtain⟨t,ht,e⟩:=hf.meet a ((hmem a).1 ha) b ((hmem b).1 hb) hi
   exact⟨t,(hmem t).2 ht,e⟩
  ·show (Eb _ _ _).length≤256
   rw[Lj,HJ]
   exact hlen
/-! Subsumption and meets as sets -/
theorem B0 {h:AM} {t:Int} (g0:0≤t) (g1:t<(h.1.length:Int)):BI h t∈h.1.map fun t=>t.2.1 :=
 List.mem_map.2 ⟨_,AD h.1 VT (k:=t.toNat) (by omega),rfl⟩
theorem TK {a b:List Int} (ha:Hn a) (hb:Hn b):Kl a b=true↔∀i,BM a i=true→BM b i=true:=by
 constructor
 ·intro h i hi
  by_cases hk:i / 64<a.length
  ·have h1:=List.all_eq_true.1 h (i / 64) (List.mem_range.2 hk)
   rw[beq_iff_eq,Gi]at h1
   exact QX (A6 ha _) (A6 hb _) h1 (Nat.mod_lt _ (by decide)) hi
  ·exfalso
   unfold BM at hi
   rw[F8 hk]at hi
   simp at hi
 ·intro h
  unfold Kl
  rw[List.all_eq_true]
  intro k _
  rw[beq_iff_eq,Gi]
  exact VW ha hb h k
theorem u9 {a b:List Int} (ha:Hn a) (hb:Hn b) (i:Nat):BM (FO a b) i=(BM a i&&BM b i):=by
 unfold FO
 rw[Ml]
 unfold BM
 have:(F7 (W9 a b) (min a.length b.length) (min a.length b.length)).getD (i / 64) 0=CF .and .u64 (a.getD (i / 64) 0) (b.getD (i / 64) 0):=by
  by_cases h:i / 64<min a.length b.length
  ·unfold F7
   rw[List.getD_eq_getElem?_getD,List.getElem?_map,List.getElem?_range h]
   show (if i / 64<min a.length b.length then W9 a b (i / 64) else 0)=_
   rw[if_pos h]
   rfl
  ·rw[F8 (by rw[VU];exact h),HG (A6 ha _) (A6 hb _)]
   by_cases h1:i / 64<a.length
   ·rw[F8 (b:=b) (by omega)]
    simp
   ·rw[F8 (b:=a) h1]
    simp
 rw[this,HG (A6 ha _) (A6 hb _),Int.toNat_natCast,Nat.testBit_and]
theorem vA {a b:List Int} (ha:Hn a) (hb:Hn b):Hn (FO a b):=by
 refine Mm fun x hx=>?_
 unfold F7 at hx
 obtain⟨j,-,rfl⟩:=List.mem_map.1 hx
 split
 ·unfold W9
  rw[HG (A6 ha _) (A6 hb _)]
  have h1:=A6 ha j
  have h2:(a.getD j 0).toNat &&& (b.getD j 0).toNat≤(a.getD j 0).toNat:=Nat.and_le_left
  have h3:=h1.1
  have h4:=h1.2
  exact⟨Int.natCast_nonneg _,by omega⟩
 ·exact⟨by decide,by decide⟩
theorem TL (c:List Int):∀(l:List HL) (k:Nat),(EJ c k l=-1∧∀t∈l,DW t.2.1 c=false)∨((k:Int)≤EJ c k l∧EJ c k l<(k:Int)+l.length∧DW (l.getD ((EJ c k l).toNat-k) VT).2.1 c=true)
 | [],k=>.inl ⟨rfl,fun t ht=>by cases ht⟩
 | x :: l,k=>by
  simp only[EJ]
  split
  ·rename_i h
   right
   refine⟨by omega,by simp only[List.length_cons];omega,?_⟩
   rw[show ((k:Int).toNat-k)=0 by omega]
   exact h
  ·rename_i h
   have h:DW x.2.1 c=false:=by simpa using h
   rcases TL c l (k+1) with ⟨h1,h2⟩|⟨h1,h2,h3⟩
   ·left
    refine⟨h1,fun t ht=>?_⟩
    rcases List.mem_cons.1 ht with rfl|ht
    ·exact h
    ·exact h2 t ht
   ·right
    refine⟨by omega,by simp only[List.length_cons];omega,?_⟩
    rw[show ((EJ c (k+1) l).toNat-k)=((EJ c (k+1) l).toNat-(k+1))+1 by omega]
    exact h3
def mU (h:AM) (t:Int) (i:Nat):Bool:=BM (BI h t) i
theorem B8 {h:AM} (hk:T8 h) {a b:Int} (a0:0≤a) (a1:a<(h.1.length:Int)) (b0:0≤b) (b1:b<(h.1.length:Int)):DB h a b=true↔∀i,mU h b i=true→mU h a i=true :=
 TK (hk.1.wds _ (B0 b0 b1)) (hk.1.wds _ (B0 a0 a1))
theorem vB {h:AM} (hk:T8 h) {a b:Int} (a0:0≤a) (a1:a<(h.1.length:Int)) (b0:0≤b) (b1:b<(h.1.length:Int)) :
  ((Bt h a b).2=true→0≤(Bt h a b).1∧(Bt h a b).1<(h.1.length:Int)∧∀i,mU h (Bt h a b).1 i=(mU h a i&&mU h b i))∧((∃i,mU h a i=true∧mU h b i=true)→(Bt h a b).2=true):=by
 have wa:=hk.1.wds _ (B0 a0 a1)
 have wb:=hk.1.wds _ (B0 b0 b1)
 have hbit:=u9 wa wb
 have hwc:=vA wa wb
 have heq:∀t∈h.1,DW t.2.1 (FO (BI h a) (BI h b))=true↔∀i,BM t.2.1 i=BM (FO (BI h a) (BI h b)) i:=by
  intro t ht
  have wt:=hk.1.wds t.2.1 (List.mem_map.2 ⟨t,ht,rfl⟩)
  unfold DW
  rw[Bool.and_eq_true,TK wt hwc,TK hwc wt]
  constructor
  ·rintro⟨e1,e2⟩ i
   rw[Bool.eq_iff_iff]
   exact⟨e1 i,e2 i⟩
  ·intro e
   exact⟨fun i hi=>by rw[←e i];exact hi,fun i hi=>by rw[e i];exact hi⟩
 unfold Bt
 by_cases hz:(FO (BI h a) (BI h b)).length=0
 ·rw[if_pos hz]
  refine⟨fun e=>(by cases e),?_⟩
  rintro⟨i,i1,i2⟩
  exfalso
  have:=hbit i
  rw[List.eq_nil_of_length_eq_zero hz]at this
  unfold mU at i1 i2
  rw[i1,i2]at this
  unfold BM at this
  simp at this
 ·rw[if_neg hz]
  rcases TL (FO (BI h a) (BI h b)) h.1 0 with ⟨h1,h2⟩|⟨h1,h2,h3⟩
  ·rw[if_pos (by omega)]
   refine⟨fun e=>(by cases e),fun hi=>?_⟩
   exfalso
   obtain⟨t,ht,e⟩:=hk.1.meet _ (B0 a0 a1) _ (B0 b0 b1) hi
   obtain⟨x,hx,rfl⟩:=List.mem_map.1 ht
   have:=(heq x hx).2 (fun i=>by rw[hbit i];exact e i)
   rw[h2 x hx]at this
   cases this
  ·have h1:0≤EJ (FO (BI h a) (BI h b)) 0 h.1:=by omega
   rw[if_neg (by omega)]
   refine⟨fun _=>⟨h1,by simp only;omega,fun i=>?_⟩,fun _=>rfl⟩
   rw[Nat.sub_zero]at h3
   have hm:=AD h.1 VT (k:=(EJ (FO (BI h a) (BI h b)) 0 h.1).toNat) (by omega)
   have:=(heq _ hm).1 h3 i
   rw[hbit i]at this
   exact this
theorem ZJ {h:AM} (hk:T8 h) {a b:Int} (a0:0≤a) (a1:a<(h.1.length:Int)) (b0:0≤b) (b1:b<(h.1.length:Int)) :
  ((Bt h a b).2=true→0≤(Bt h a b).1∧(Bt h a b).1<(h.1.length:Int)∧DB h a (Bt h a b).1=true∧DB h b (Bt h a b).1=true) ∧
  ∀x,0≤x→x<(h.1.length:Int)→DB h a x=true→DB h b x=true→(Bt h a b).2=true∧DB h (Bt h a b).1 x=true:=by
 obtain⟨m1,m2⟩:=vB hk a0 a1 b0 b1
 refine⟨fun e=>?_,fun x x0 x1 hax hbx=>?_⟩
 ·obtain⟨q0,q1,q2⟩:=m1 e
  refine⟨q0,q1,(B8 hk a0 a1 q0 q1).2 fun i hi=>?_,(B8 hk b0 b1 q0 q1).2 fun i hi=>?_⟩
  ·rw[q2 i,Bool.and_eq_true]at hi;exact hi.1
  ·rw[q2 i,Bool.and_eq_true]at hi;exact hi.2
 ·have ga:=(B8 hk a0 a1 x0 x1).1 hax
  have gb:=(B8 hk b0 b1 x0 x1).1 hbx
  obtain⟨i,hi⟩:=hk.1.some _ (B0 x0 x1)
  have e:=m2 ⟨i,ga i hi,gb i hi⟩
  obtain⟨q0,q1,q2⟩:=m1 e
  refine⟨e,(B8 hk q0 q1 x0 x1).2 fun j hj=>?_⟩
  rw[q2 j,Bool.and_eq_true]
  exact⟨ga j hj,gb j hj⟩
end
/- Functions of grammarlabref07. -/
section
abbrev A5t:=Int×List (Int×Int)
def GK (f:List A5t):Bool:=decide (f.length≤12)&&f.all fun n=>decide (n.2.length≤12)
def TM:Ak:={ ins:=[Ei],pre:=fun _=>True,out:=fun(f,_)=>[.p .bool (GK f)] }
theorem vC:Ao Tryz.prog 54 TM:=by
 refine AX Tryz.func54 (by kernel_rfl) rfl Tryz.ntmps54 (by decide) (by kernel_rfl) (AJ []) (fun f sp h=>by simp[lk]at h) ?_
 rintro w0 O0 ⟨l,u⟩ hc hok hpre
 simp only[TM,AN]
 repeat'(first|exact trivial|refine eS rfl ?_|refine AB ?_|refine rX [0,1,2,3,7,12,22] hc ?_ ?_|refine rC ?_ ?_<;>intro AA<;>try(cases AA;done))
 ·have h1:GK l=false:=by
   have h:¬(List.length l≤12):=by exact eV
   unfold GK
   rw[decide_eq_false h];rfl
  exact AH hc [.tmp 2] rfl (.inl rfl) (by simp) (by rw[h1];first|exact eR|refine Ax ?_)
 ·refine AK (ι:={k:Nat//k≤l.length∧(l.take k).all (fun n=>decide (n.2.length≤12))=true}) (fun k=>⟨[(0,.p Ei l),(1,.bp 1 [] 0),(3,.p (.int .i64) (k.1:Int))],[(1,.box 25 true [.p Ib l])]⟩) (fun k=>l.length-k.1) ⟨0,by simp⟩ (AC [(1,.nm 1)] rfl rfl ?_ ?_) (fun k=>?_)
  ·first|exact eN|refine eM ?_
  ·first|exact eN|refine eM ?_
  ·obtain⟨k,hk,hall⟩:=k
   repeat'(first|exact trivial|refine eS rfl ?_|refine AB ?_|refine rX [0,1,2,3,7,12,22] hc ?_ ?_|refine rC ?_ ?_<;>intro AA<;>try(cases AA;done))
   ·exact eV
   ·have h1:GK l=false:=by
     have hk:k<l.length:=by exact eV
     have h:=AD l (0,[]) hk
     unfold GK
     rw[Bool.and_eq_false_iff]
     right
     rw[List.all_eq_false]
     exact⟨_,h,by simp only[decide_eq_true_eq];exact eV⟩
    exact AH hc [.tmp 2] rfl (.inl rfl) (by simp) (by rw[h1];first|exact eR|refine Ax ?_)
   ·exact eV
   ·have hk:k<l.length:=by exact eV
    refine⟨⟨k+1,by exact eV,?_⟩,by simp only;exact eV,AC [(1,.nm 1)] rfl rfl ?_ ?_⟩
    ·have h1:=Ab l (0,[]) hk
     have h2:((l.take (k+1)).all fun n=>decide (n.2.length≤12))=_:=congrArg (fun x=>List.all x fun n=>decide (n.2.length≤12)) h1
     rw[h2,List.all_append,hall]
     simp only[List.all_cons,List.all_nil,Bool.and_true,Bool.true_and,decide_eq_true_eq]
     exact eV
    ·first|exact eN|refine eM ?_
    ·first|exact eN|refine eM ?_
   ·have h1:GK l=true:=by
     have hk:l.take k=l:=List.take_of_length_le (by exact eV)
     rw[hk]at hall
     unfold GK
     rw[hall,decide_eq_true (by exact eV)];rfl
    exact AH hc [.tmp 2] rfl (.inl rfl) (by simp) (by rw[h1];first|exact eR|refine Ax ?_)
end
/- Functions of grammarlabref15: LightPaths; grammarlabref07.Atom. -/
section
def ZK:Ak:={ ins:=[T3],pre:=fun _=>True,out:=fun(t,_)=>[.p Ei [(t,[])]] }
theorem A0O:Ao Tryz.prog 59 ZK:=by
 refine AX Tryz.func59 (by kernel_rfl) rfl Tryz.ntmps59 (by decide) (by kernel_rfl) (AJ []) AL ?_
 rintro w0 O0 ⟨t,u⟩ hc - -
 simp only[ZK,AN]
 repeat'(first|exact trivial|refine eS rfl ?_|refine AB ?_|refine rX [0,2] hc ?_ ?_|refine rC ?_ ?_<;>intro AA<;>try(cases AA;done))
 exact AH hc [.cell 2 25] rfl (.inl rfl) (by simp) (by first|exact eR|refine Ax ?_)
end
/- Functions of grammarlabref15: Canonical. -/
section
attribute [local go_sem] TM SZ G0
def ftB (a:Int×Int):Bool:=decide (a.1<64)
def ndB (x:AE):Bool:=decide (x.1<256)&&x.2.all ftB
def DX (f:List AE):Bool:=GK f&&f.all ndB&&((CD f).2==0&&(Ck (CD f).1 f==0))
theorem Kn {f:List AE} (h:GK f=true):f.length≤12∧∀x∈f,x.2.length≤12:=by
 unfold GK at h
 simp only[Bool.and_eq_true,decide_eq_true_eq,List.all_eq_true]at h
 exact h
theorem cU {f:List AE} (hf:Ag f) {n:Int} (h0:0≤n) (h1:n<f.length):FJ (GU f n):=by
 obtain⟨⟨g1,g2⟩,_⟩:=l7 hf h0 h1
 have hfl:=hf.1
 refine⟨?_,fun x hx=>?_⟩
 ·unfold GU
  rw[List.length_map]
  omega
 ·obtain⟨m,_,rfl⟩:=List.mem_map.1 hx
  unfold KU
  simp only[List.length_map,Hk]
  exact KT hf m
theorem ZL {f:List AE} (hs:Wd f):FJ (CD f).1:=by
 unfold CD
 split
 ·rename_i h
  obtain⟨h1,h2⟩:=Md h hs
  exact cU h1 (by omega) (by omega)
 ·exact⟨by simp,fun x hx=>by cases hx⟩
end
/- Functions of Go's library under graph.canonical: isNaN, Compare, byFeature, the sort of what is sorted. -/
section
def pV (l:List (Int×Int)):Prop:=∀i,i+1<l.length→(l.getD i (0,0)).1<(l.getD (i+1) (0,0)).1
end
/- The plain law under graph.canonical: the program's search and the reference's are one, where each node's arcs ascend. -/
section
def FW (f:List AE):Nat→List Int→Int→List Int
 | 0,o,_=>o
 | k+1,o,n=>(f.getD n.toNat (0,[])).2.foldl (fun o a=>if a.2∈o then o else FW f k o a.2) (o++[n])
def Ai (f:List AE) (k:Nat) (o:List Int) (a:Int×Int):List Int:=if a.2∈o then o else FW f k o a.2
theorem Dd (f:List AE) (k:Nat) (o:List Int) (n:Int):FW f (k+1) o n=(f.getD n.toNat (0,[])).2.foldl (Ai f k) (o++[n]):=rfl
structure MJ (f:List AE) (o:List Int):Prop where
 nd:o.Nodup
 rng:∀x∈o,0≤x∧x<(f.length:Int)
theorem MJ.len {f:List AE} {o:List Int} (h:MJ f o):o.length≤f.length:=by
 have h1:(o.map Int.toNat).Nodup:=by
  rw[List.Nodup,List.pairwise_map]
  refine h.nd.imp_of_mem fun {a b} ha hb hne e=>hne ?_
  have:=h.rng a ha
  have:=h.rng b hb
  omega
 have:=EC f.length (o.map Int.toNat) h1 (fun j hj=>by
  obtain⟨x,hx,rfl⟩:=List.mem_map.1 hj
  have:=h.rng x hx
  omega)
 simpa using this
theorem MJ.snoc {f:List AE} {o:List Int} (h:MJ f o) {n:Int} (h0:0≤n) (h1:n<f.length) (hn:n∉o):MJ f (o++[n]):=by
 refine⟨?_,fun x hx=>?_⟩
 ·rw[List.nodup_append]
  refine⟨h.nd,by simp,fun a ha b hb=>?_⟩
  have:b=n:=by simpa using hb
  subst this
  intro e
  subst e
  exact hn ha
 ·rcases List.mem_append.1 hx with hx|hx
  ·exact h.rng x hx
  ·have:x=n:=by simpa using hx
   subst this
   exact⟨h0,h1⟩
theorem Ed {f:List AE} {k:Nat} (hv:∀(o:List Int) (n:Int),MJ f o→0≤n→n<f.length→n∉o→MJ f (FW f k o n)∧o <+: FW f k o n) :
  ∀(l:List (Int×Int)) (o:List Int),(∀a∈l,0≤a.2∧a.2<(f.length:Int))→MJ f o→MJ f (l.foldl (Ai f k) o)∧o <+: l.foldl (Ai f k) o
 | [],o,_,h=>⟨h,List.prefix_refl _⟩
 | a :: l,o,hl,h=>by
  simp only[List.foldl_cons]
  have hstep:MJ f (Ai f k o a)∧o <+: Ai f k o a:=by
   unfold Ai
   split
   ·exact⟨h,List.prefix_refl _⟩
   ·rename_i hn
    exact hv o a.2 h (hl a (by simp)).1 (hl a (by simp)).2 hn
  obtain⟨g1,g2⟩:=Ed hv l _ (fun b hb=>hl b (by simp[hb])) hstep.1
  exact⟨g1,hstep.2.trans g2⟩
theorem Bi {f:List AE} (hf:Ag f) {n:Int} {a:Int×Int} (ha:a∈(f.getD n.toNat (0,[])).2):0≤a.2∧a.2<f.length:=by
 by_cases h:n.toNat<f.length
 ·have hm:f.getD n.toNat (0,[])∈f:=by
   rw[List.getD_eq_getElem?_getD,List.getElem?_eq_getElem h];exact List.getElem_mem h
  exact(hf.2 _ hm).2 a ha
 ·rw[List.getD_eq_getElem?_getD,List.getElem?_eq_none (by omega)]at ha
  simp at ha
theorem D6 {f:List AE} (hf:Ag f):∀(k:Nat) (o:List Int) (n:Int),MJ f o→0≤n→n<f.length→n∉o→MJ f (FW f k o n)∧o <+: FW f k o n
 | 0,o,n,h,_,_,_=>⟨h,List.prefix_refl _⟩
 | k+1,o,n,h,h0,h1,h2=>by
  obtain⟨g1,g2⟩:=Ed (D6 hf k) _ _ (fun a ha=>Bi hf ha) (h.snoc h0 h1 h2)
  rw[Dd]
  exact⟨g1,(List.prefix_append o [n]).trans g2⟩
theorem HP {f:List AE} (hf:Ag f):∀(k:Nat) (o:List Int) (n:Int),MJ f o→0≤n→n<f.length→n∉o→f.length-o.length≤k →
  n∈FW f k o n∧∀x∈FW f k o n,x∈o∨∀a∈(f.getD x.toNat (0,[])).2,a.2∈FW f k o n
 | 0,o,n,h,h0,h1,h2,hk=>by
  have:=(h.snoc h0 h1 h2).len
  simp only[List.length_append,List.length_singleton]at this
  omega
 | k+1,o,n,h,h0,h1,h2,hk=>by
  have key:∀(l:List (Int×Int)) (t:List Int),(∀a∈l,0≤a.2∧a.2<(f.length:Int))→MJ f t→f.length-t.length≤k →
    (∀a∈l,a.2∈l.foldl (Ai f k) t)∧∀x∈l.foldl (Ai f k) t,x∈t∨∀a∈(f.getD x.toNat (0,[])).2,a.2∈l.foldl (Ai f k) t:=by
   intro l
   induction l with
   | nil=>exact fun t _ _ _=>⟨fun a ha=>(by cases ha),fun x hx=>.inl hx⟩
   | cons a l ih =>
    intro t hl ht hlen
    simp only[List.foldl_cons]
    have hstep:MJ f (Ai f k t a)∧t <+: Ai f k t a∧a.2∈Ai f k t a∧∀x∈Ai f k t a,x∈t∨∀b∈(f.getD x.toNat (0,[])).2,b.2∈Ai f k t a:=by
     unfold Ai
     split
     ·rename_i hn
      exact⟨ht,List.prefix_refl _,hn,fun x hx=>.inl hx⟩
     ·rename_i hn
      have q:=hl a (by simp)
      obtain⟨g1,g2⟩:=D6 hf k t a.2 ht q.1 q.2 hn
      obtain⟨g3,g4⟩:=HP hf k t a.2 ht q.1 q.2 hn hlen
      exact⟨g1,g2,g3,g4⟩
    obtain⟨g1,g2,g3,g4⟩:=hstep
    have hle:=g2.length_le
    obtain⟨i1,i2⟩:=ih (Ai f k t a) (fun b hb=>hl b (by simp[hb])) g1 (by omega)
    obtain⟨_,j2⟩:=Ed (D6 hf k) l (Ai f k t a) (fun b hb=>hl b (by simp[hb])) g1
    refine⟨fun b hb=>?_,fun x hx=>?_⟩
    ·rcases List.mem_cons.1 hb with rfl|hb
     ·exact j2.subset g3
     ·exact i1 b hb
    ·rcases i2 x hx with hx|hx
     ·rcases g4 x hx with hx|hx
      ·exact .inl hx
      ·exact .inr fun b hb=>j2.subset (hx b hb)
     ·exact .inr hx
  have hs:=h.snoc h0 h1 h2
  obtain⟨g1,g2⟩:=key (f.getD n.toNat (0,[])).2 (o++[n]) (fun a ha=>Bi hf ha) hs (by simp only[List.length_append,List.length_singleton];omega)
  obtain⟨_,g3⟩:=Ed (D6 hf k) (f.getD n.toNat (0,[])).2 (o++[n]) (fun a ha=>Bi hf ha) hs
  rw[Dd]
  refine⟨g3.subset (by simp),fun x hx=>?_⟩
  rcases g2 x hx with hx|hx
  ·rcases List.mem_append.1 hx with hx|hx
   ·exact .inl hx
   ·have:x=n:=by simpa using hx
    subst this
    exact .inr g1
  ·exact .inr hx
def Bw (o:List Int) (x:Int):Int:=if x∈o then (o.idxOf x:Int) else 0
def XE (o:List Int) (a:Int×Int):Int×Int:=(a.1,Bw o a.2)
def F9 (f:List AE) (o:List Int) (n:Int):AE:=((f.getD n.toNat (0,[])).1,(f.getD n.toNat (0,[])).2.map (XE o))
def AR (f:List AE) (root:Int):List AE:=(FW f f.length [] root).map (F9 f (FW f f.length [] root))
def Q4 (f:List AE):Prop:=∀x∈f,pV x.2∧x.2.length≤200
theorem vD {f:List AE} (hf:Q4 f) (n:Int):pV (f.getD n.toNat (0,[])).2∧(f.getD n.toNat (0,[])).2.length≤200:=by
 by_cases h:n.toNat<f.length
 ·have hm:f.getD n.toNat (0,[])∈f:=by
   rw[List.getD_eq_getElem?_getD,List.getElem?_eq_getElem h];exact List.getElem_mem h
  exact hf _ hm
 ·rw[List.getD_eq_getElem?_getD,List.getElem?_eq_none (by omega)]
  exact⟨fun i hi=>by simp at hi,by simp⟩
theorem Ko {l:List (Int×Int)} (h:pV l):Ah l=l:=by
 have key:∀i,i≤l.length→Ah (l.take i)=l.take i:=by
  intro i
  induction i with
  | zero=>intro _;rfl
  | succ i ih =>
   intro hi
   rw[Ab l (0,0) (by omega),JM,ih (by omega)]
   have hlen:(l.take i).length=i:=by rw[List.length_take];omega
   have hpos:Jw (l.getD i (0,0)) (l.take i) (l.take i).length=(l.take i).length:=by
    rw[hlen]
    cases i with
    | zero=>rfl
    | succ i =>
     have h1:=h i (by omega)
     have h2:(l.take (i+1)).getD i (0,0)=l.getD i (0,0):=by
      simp only[List.getD_eq_getElem?_getD]
      rw[List.getElem?_take];simp
     simp only[Jw]
     rw[h2,if_neg (by omega)]
   unfold O9
   rw[hpos,List.take_length,List.drop_length,List.append_nil]
 have:=key l.length (Nat.le_refl _)
 rwa [List.take_length]at this
structure Ju (f:List AE) (num o:List Int):Prop where
 len:num.length=f.length
 get:∀j,j<f.length→num.getD j 0=if (j:Int)∈o then (o.idxOf (j:Int):Int) else -1
theorem Ju.neg {f:List AE} {num o:List Int} (h:Ju f num o) {n:Int} (h0:0≤n) (h1:n<f.length):num.getD n.toNat 0<0↔n∉o:=by
 have:=h.get n.toNat (by omega)
 rw[show ((n.toNat:Nat):Int)=n by omega]at this
 rw[this]
 split
 ·rename_i hm
  constructor
  ·intro e;omega
  ·intro e;exact absurd hm e
 ·rename_i hm
  exact⟨fun _=>hm,fun _=>by omega⟩
theorem pW {o:List Int} {x n:Int} (h:x∈o):(o++[n]).idxOf x=o.idxOf x:=by rw[List.idxOf_append,if_pos h]
theorem pX {o:List Int} {n:Int} (h:n∉o):(o++[n]).idxOf n=o.length:=by rw[List.idxOf_append,if_neg h];simp
theorem Ju.snoc {f:List AE} {num o:List Int} (h:Ju f num o) {n:Int} (h0:0≤n) (h1:n<f.length) (hn:n∉o):Ju f (num.set n.toNat (o.length:Int)) (o++[n]):=by
 refine⟨by simpa using h.len,fun j hj=>?_⟩
 have hj':j<num.length:=by rw[h.len];exact hj
 by_cases e:j=n.toNat
 ·subst e
  have en:((n.toNat:Nat):Int)=n:=by omega
  rw[en]
  simp only[List.getD_eq_getElem?_getD]
  rw[List.getElem?_set_self hj',if_pos (by simp),pX hn]
  simp
 ·have en:¬(j:Int)=n:=by omega
  simp only[List.getD_eq_getElem?_getD]
  rw[List.getElem?_set_ne (fun e'=>e e'.symm)]
  have:=h.get j hj
  simp only[List.getD_eq_getElem?_getD]at this
  rw[this]
  by_cases hm:(j:Int)∈o
  ·rw[if_pos hm,if_pos (by simp[hm]),pW hm]
  ·rw[if_neg hm,if_neg (by simp[hm,en])]
theorem TN {f:List AE} (hf:Ag f) (hs:Q4 f):∀(k:Nat) (s:List Int×List Int) (n:Int),Ju f s.1 s.2→MJ f s.2→0≤n→n<f.length→n∉s.2→(DQ f k s n).2=FW f k s.2 n∧Ju f (DQ f k s n).1 (DQ f k s n).2
 | 0,s,n,h,_,_,_,_=>⟨rfl,h⟩
 | k+1,s,n,h,hd,h0,h1,h2=>by
  have key:∀(l:List (Int×Int)) (t:List Int×List Int),(∀a∈l,0≤a.2∧a.2<(f.length:Int))→Ju f t.1 t.2→MJ f t.2→(l.foldl (Dn f k) t).2=l.foldl (Ai f k) t.2∧Ju f (l.foldl (Dn f k) t).1 (l.foldl (Dn f k) t).2:=by
   intro l
   induction l with
   | nil=>exact fun t _ ht _=>⟨rfl,ht⟩
   | cons a l ih =>
    intro t hl ht htd
    simp only[List.foldl_cons]
    have q:=hl a (by simp)
    have hq:=ht.neg q.1 q.2
    have hstep:(Dn f k t a).2=Ai f k t.2 a∧Ju f (Dn f k t a).1 (Dn f k t a).2∧MJ f (Dn f k t a).2:=by
     unfold Dn Ai
     by_cases hm:a.2∈t.2
     ·rw[if_pos hm,if_neg (by rw[hq];exact fun e=>e hm)]
      exact⟨rfl,ht,htd⟩
     ·rw[if_neg hm,if_pos (by rw[hq];exact hm)]
      obtain⟨g1,g2⟩:=TN hf hs k t a.2 ht htd q.1 q.2 hm
      exact⟨g1,g2,by rw[g1];exact(D6 hf k t.2 a.2 htd q.1 q.2 hm).1⟩
    obtain⟨g1,g2,g3⟩:=hstep
    obtain⟨i1,i2⟩:=ih (Dn f k t a) (fun b hb=>hl b (by simp[hb])) g2 g3
    rw[g1]at i1
    exact⟨i1,i2⟩
  rw[E0,Dd,Ko (vD hs n).1]
  exact key _ (s.1.set n.toNat (s.2.length:Int),s.2++[n]) (fun a ha=>Bi hf ha) (h.snoc h0 h1 h2) (hd.snoc h0 h1 h2)
theorem Kp {f:List AE} (hf:Ag f) (hs:Q4 f) {root:Int} (h0:0≤root) (h1:root<f.length):GU f root=AR f root:=by
 have hn0:Ju f (List.replicate f.length (-1)) []:=⟨by simp,fun j hj=>by simp[List.getD_eq_getElem?_getD,List.getElem?_replicate,hj]⟩
 have hd0:MJ f []:=⟨by simp,fun x hx=>by cases hx⟩
 obtain⟨g1,g2⟩:=TN hf hs f.length (List.replicate f.length (-1),[]) root hn0 hd0 h0 h1 (by simp)
 have g1:(GT f root).2=FW f f.length [] root:=g1
 have g2:Ju f (GT f root).1 (GT f root).2:=g2
 have hc:=(HP hf f.length [] root hd0 h0 h1 (by simp) (by simp)).2
 have ho:=(D6 hf f.length [] root hd0 h0 h1 (by simp)).1
 unfold GU AR
 rw[g1]at g2 ⊢
 generalize FW f f.length [] root=o at *
 refine List.map_congr_left fun x hx=>?_
 unfold KU F9
 rw[Ko (vD hs x).1]
 refine congrArg _ (List.map_congr_left fun a ha=>?_)
 unfold UI XE Bw
 have hin:a.2∈o:=by
  rcases hc x hx with hx'|hx'
  ·cases hx'
  ·exact hx' a ha
 have hr:=Bi hf ha
 have:=g2.get a.2.toNat (by omega)
 rw[show ((a.2.toNat:Nat):Int)=a.2 by omega]at this
 rw[this,if_pos hin,if_pos hin]
/-! The program's map of numbers -/
theorem MK {α:Type} {p:List α→Prop} (h0:p []) (h1:∀l a,p l→p (l++[a])) (l:List α):p l:=by
 have:∀n (l:List α),l.length=n→p l:=by
  intro n
  induction n with
  | zero=>intro l hl;rw[List.length_eq_zero_iff.1 hl];exact h0
  | succ n ih =>
   intro l hl
   have hne:l≠[]:=by intro e;subst e;simp at hl
   rw[←List.dropLast_concat_getLast hne]
   exact h1 _ _ (ih _ (by simp[hl]))
 exact this _ l rfl
end
/- Functions of Go's library under graph.canonical: the sort of sorted elements. -/
section
open Go
end
/- Functions of Go's library under graph.canonical: Values, AppendSeq, Collect, SortFunc, SortedFunc, of what is sorted. -/
section
open Go
end
/- Functions of graph: canonical's search. -/
section
open Go
end
/- Functions of graph: canonical, Sub. -/
section
open Go
end
/- Functions of restrict: part, at its three closures. -/
section
def vF (acc:Int→Int×Int→Bool) (f:List AE) (i:Nat):AE:=((f.getD i (0,[])).1,(f.getD i (0,[])).2.filter (acc (i:Int)))
def Fb (acc:Int→Int×Int→Bool) (f:List AE) (i:Nat):List AE:=(List.range i).map (vF acc f)
def TP (acc:Int→Int×Int→Bool) (f:List AE):List AE:=AR (Fb acc f f.length) 0
theorem Ij (acc:Int→Int×Int→Bool) (f:List AE) (i:Nat):(Fb acc f i).length=i:=by simp[Fb]
theorem Ik (l:List (Int×Int)):pV l↔l.Pairwise (fun a b=>a.1<b.1):=by
 constructor
 ·intro h
  rw[List.pairwise_iff_getElem]
  have key:∀d i,i+d+1<l.length→(l.getD i (0,0)).1<(l.getD (i+d+1) (0,0)).1:=by
   intro d
   induction d with
   | zero=>intro i hi;exact h i hi
   | succ d ih =>
    intro i hi
    have h1:=ih i (by omega)
    have h2:=h (i+d+1) (by omega)
    have:i+(d+1)+1=i+d+1+1:=by omega
    rw[this]
    omega
  intro i j hi hj hij
  have h1:=key (j-i-1) i (by omega)
  rw[show i+(j-i-1)+1=j by omega]at h1
  simpa[List.getD_eq_getElem?_getD,hi,hj] using h1
 ·intro h i hi
  rw[List.pairwise_iff_getElem]at h
  have:=h i (i+1) (by omega) hi (by omega)
  simpa[List.getD_eq_getElem?_getD,hi,show i<l.length by omega] using this
theorem ZM {l:List (Int×Int)} (h:pV l) (p:Int×Int→Bool):pV (l.filter p):=by
 rw[Ik]at h ⊢
 exact h.sublist List.filter_sublist
theorem VY {f:List AE} (hf:Ag f) (hs:Q4 f) (acc:Int→Int×Int→Bool):Ag (Fb acc f f.length)∧Q4 (Fb acc f f.length):=by
 have hget:∀i,i<f.length→f.getD i (0,[])∈f:=fun i hi=>AD f (0,[]) hi
 refine⟨⟨by rw[Ij];exact hf.1,fun x hx=>?_⟩,fun x hx=>?_⟩
 ·obtain⟨i,hi,rfl⟩:=List.mem_map.1 hx
  have hi:i<f.length:=List.mem_range.1 hi
  obtain⟨h1,h2⟩:=hf.2 _ (hget i hi)
  rw[Ij]
  exact⟨Nat.le_trans (List.length_filter_le _ _) h1,fun a ha=>h2 a (List.mem_filter.1 ha).1⟩
 ·obtain⟨i,hi,rfl⟩:=List.mem_map.1 hx
  have hi:i<f.length:=List.mem_range.1 hi
  obtain⟨h1,h2⟩:=hs _ (hget i hi)
  exact⟨ZM h1 _,Nat.le_trans (List.length_filter_le _ _) h2⟩
end
/- What a canonical feature structure is: its arcs ascend. -/
section
theorem Il {x y:Int} {xs ys:List Int} (h:JL (x :: xs) (y :: ys)=0):x=y∧JL xs ys=0:=by
 simp only[JL]at h
 split at h
 ·cases h
 ·split at h
  ·cases h
  ·exact⟨by omega,h⟩
theorem TQ:∀ {l m:List (Int×Int)} {r s:List Int},l.length=m.length→JL (l.flatMap (fun a=>[a.1,a.2])++r) (m.flatMap (fun a=>[a.1,a.2])++s)=0→l=m∧JL r s=0
 | [],[],_,_,_,h=>⟨rfl,by simpa using h⟩
 | [],_ :: _,_,_,hl,_=>by simp at hl
 | _ :: _,[],_,_,hl,_=>by simp at hl
 | (a1,a2) :: l,(b1,b2) :: m,r,s,hl,h=>by
  have h:JL (a1 :: a2 :: (l.flatMap (fun a=>[a.1,a.2])++r)) (b1 :: b2 :: (m.flatMap (fun a=>[a.1,a.2])++s))=0:=by simpa using h
  obtain⟨e1,h3⟩:=Il h
  obtain⟨e2,h4⟩:=Il h3
  obtain⟨e3,h5⟩:=TQ (l:=l) (m:=m) (by simpa using hl) h4
  exact⟨by rw[e1,e2,e3],h5⟩
theorem TR:∀ {l m:List AE} {r s:List Int},l.length=m.length→JL (l.flatMap ST++r) (m.flatMap ST++s)=0→l=m∧JL r s=0
 | [],[],_,_,_,h=>⟨rfl,by simpa using h⟩
 | [],_ :: _,_,_,hl,_=>by simp at hl
 | _ :: _,[],_,_,hl,_=>by simp at hl
 | (a1,a2) :: l,(b1,b2) :: m,r,s,hl,h=>by
  have h:JL (a1 :: (a2.length:Int) :: (a2.flatMap (fun a=>[a.1,a.2])++(l.flatMap ST++r))) (b1 :: (b2.length:Int) :: (b2.flatMap (fun a=>[a.1,a.2])++(m.flatMap ST++s)))=0:=by simpa[ST] using h
  obtain⟨e1,h3⟩:=Il h
  obtain⟨e2,h4⟩:=Il h3
  obtain⟨e3,h5⟩:=TQ (l:=a2) (m:=b2) (by omega) h4
  obtain⟨e4,h6⟩:=TR (l:=l) (m:=m) (by simpa using hl) h5
  exact⟨by rw[e1,e3,e4],h6⟩
theorem Kq {a b:List AE} (h:Ck a b=0):a=b:=by
 unfold Ck BX at h
 obtain⟨h1,h2⟩:=Il h
 have:=TR (l:=a) (m:=b) (r:=[]) (s:=[]) (by omega) (by simpa using h2)
 exact this.1
theorem VZ:∀l:List Int,JL l l=0
 | []=>rfl
 | x :: l=>by simp[JL,VZ l]
theorem ML (a:List AE):Ck a a=0:=VZ _
/-! The sort ascends -/
theorem Va (x:Int×Int) (s:List (Int×Int)):∀n,(∀j,Jw x s n≤j→j<n→x.1<(s.getD j (0,0)).1)∧(0<Jw x s n→(s.getD (Jw x s n-1) (0,0)).1≤x.1)
 | 0=>⟨fun j h1 h2=>by omega,fun h=>by simp[Jw]at h⟩
 | n+1=>by
  obtain⟨h1,h2⟩:=Va x s n
  unfold Jw
  split
  ·rename_i hc
   refine⟨fun j g1 g2=>?_,h2⟩
   by_cases e:j=n
   ·subst e;exact hc
   ·exact h1 j g1 (by omega)
  ·rename_i hc
   exact⟨fun j g1 g2=>by omega,fun _=>by simp only[Nat.add_sub_cancel];omega⟩
theorem A2h {l:List (Int×Int)} (h:l.Pairwise (fun a b=>a.1≤b.1)) {i j:Nat} (hij:i≤j) (hj:j<l.length):(l.getD i (0,0)).1≤(l.getD j (0,0)).1:=by
 rcases Nat.eq_or_lt_of_le hij with rfl|hlt
 ·exact Int.le_refl _
 ·rw[List.pairwise_iff_getElem]at h
  have:=h i j (by omega) hj hlt
  simpa[List.getD_eq_getElem?_getD,hj,show i<l.length by omega] using this
theorem ZN {s:List (Int×Int)} (h:s.Pairwise (fun a b=>a.1≤b.1)) (x:Int×Int):(O9 s x).Pairwise (fun a b=>a.1≤b.1):=by
 obtain⟨h1,h2⟩:=Va x s s.length
 have hp:=Wc x s s.length
 unfold O9
 generalize Jw x s s.length=p at *
 rw[List.pairwise_append,List.pairwise_append]
 have hlow:∀a∈s.take p,a.1≤x.1:=fun a ha=>by
  obtain⟨i,hi,rfl⟩:=List.mem_iff_getElem.1 ha
  rw[List.length_take]at hi
  have h3:=A2h h (i:=i) (j:=p-1) (by omega) (by omega)
  have h4:=h2 (by omega)
  have e:(s.take p)[i].1=(s.getD i (0,0)).1:=by simp[List.getD_eq_getElem?_getD,show i<s.length by omega]
  rw[e]
  omega
 have hhigh:∀b∈s.drop p,x.1≤b.1:=fun b hb=>by
  obtain⟨i,hi,rfl⟩:=List.mem_iff_getElem.1 hb
  rw[List.length_drop]at hi
  have h3:=h1 (p+i) (by omega) (by omega)
  have e:(s.drop p)[i].1=(s.getD (p+i) (0,0)).1:=by simp[List.getD_eq_getElem?_getD,show p+i<s.length by omega]
  rw[e]
  omega
 refine⟨⟨h.sublist (List.take_sublist _ _),by simp,fun a ha b hb=>?_⟩,h.sublist (List.drop_sublist _ _),fun a ha b hb=>?_⟩
 ·have:b=x:=by simpa using hb
  rw[this]
  exact hlow a ha
 ·rcases List.mem_append.1 ha with ha|ha
  ·exact Int.le_trans (hlow a ha) (hhigh b hb)
  ·have:a=x:=by simpa using ha
   rw[this]
   exact hhigh b hb
theorem Kr (l:List (Int×Int)):(Ah l).Pairwise (fun a b=>a.1≤b.1):=by
 induction l using MK with
 | h0=>exact List.Pairwise.nil
 | h1 l a ih=>rw[JM];exact ZN ih a
theorem Qi {n:Int}:∀ {l seen:List (Int×Int)},Nv n seen l=0→(l.map (·.1)).Nodup∧∀a∈l,∀b∈seen,b.1≠a.1
 | [],_,_=>⟨by simp,fun a ha=>by cases ha⟩
 | x :: l,seen,h=>by
  simp only[Nv]at h
  split at h
  ·cases h
  ·split at h
   ·cases h
   ·rename_i h1 h2
    obtain⟨g1,g2⟩:=Qi h
    have h2:∀b∈seen,b.1≠x.1:=fun b hb e=>h2 (List.any_eq_true.2 ⟨b,hb,by simp[e]⟩)
    refine⟨?_,fun a ha b hb=>?_⟩
    ·rw[List.map_cons,List.nodup_cons]
     refine⟨fun hm=>?_,g1⟩
     obtain⟨a,ha,e⟩:=List.mem_map.1 hm
     exact g2 a ha x (by simp) e.symm
    ·rcases List.mem_cons.1 ha with rfl|ha
     ·exact h2 b hb
     ·exact g2 a ha b (by simp[hb])
theorem TS {m:Int}:∀ {f:List AE},Jo m f=0→∀x∈f,Id x.2 m=0
 | [],_,x,hx=>by cases hx
 | y :: f,h,x,hx=>by
  simp only[Jo]at h
  split at h
  ·cases h
  ·split at h
   ·rename_i h1 h2;exact absurd h h2
   ·rename_i h1 h2
    rcases List.mem_cons.1 hx with rfl|hx
    ·exact Classical.byContradiction h2
    ·exact TS h x hx
theorem pY {l:List (Int×Int)} (h:l.Pairwise (fun a b=>a.1≤b.1)) (hn:(l.map (·.1)).Nodup):l.Pairwise (fun a b=>a.1<b.1):=by
 rw[List.Nodup,List.pairwise_map]at hn
 refine(h.and hn).imp fun {a b} hab=>?_
 have h1:=hab.1
 have h2:¬a.1=b.1:=hab.2
 omega
theorem Ks {f:List AE} (h:DX f=true):Ag f∧Q4 f∧0<f.length∧GK f=true:=by
 unfold DX at h
 simp only[Bool.and_eq_true,beq_iff_eq]at h
 obtain⟨⟨hl,_⟩,hc,he⟩:=h
 obtain⟨hl1,hl2⟩:=Kn hl
 have hsa:Wd f:=fun x hx=>Nat.le_trans (hl2 x hx) (by omega)
 have hform:Dy f=0:=by
  unfold CD at hc
  split at hc
  ·assumption
  ·exact hc
 obtain⟨hg,h0⟩:=Md hform hsa
 have hcf:(CD f).1=GU f 0:=by unfold CD;rw[if_pos hform]
 rw[hcf]at he
 have hfe:=Kq he
 refine⟨hg,fun x hx=>⟨?_,Nat.le_trans (hl2 x hx) (by omega)⟩,h0,hl⟩
 rw[←hfe]at hx
 obtain⟨n,_,rfl⟩:=List.mem_map.1 hx
 rw[Ik]
 have harcs:((f.getD n.toNat (0,[])).2.map (·.1)).Nodup:=by
  by_cases hlt:n.toNat<f.length
  ·have hm:f.getD n.toNat (0,[])∈f:=AD f (0,[]) hlt
   have hfg:Jo f.length f=0:=by
    unfold Dy at hform
    split at hform
    ·cases hform
    ·split at hform
     ·cases hform
     ·exact hform
   exact(Qi (TS hfg _ hm)).1
  ·rw[List.getD_eq_getElem?_getD,List.getElem?_eq_none (by omega)]
   simp
 have hst:=pY (Kr (f.getD n.toNat (0,[])).2) (((CC _).map (·.1)).nodup_iff.2 harcs)
 unfold KU
 simp only
 rw[List.pairwise_map]
 exact hst.imp fun hab=>hab
end
/- Plain: the breadth-first search of grammarlabref08.First. -/
section
open Go
end
/- Functions of path: Clone, firsts, First. -/
section
/-! The plain law -/
theorem getD_set_ne {α:Type} (l:List α) (d v:α) {i j:Nat} (h:i≠j):(l.set i v).getD j d=l.getD j d:=by
 simp only[List.getD_eq_getElem?_getD];rw[List.getElem?_set_ne h]
theorem IE {α:Type} (l:List α) (d v:α) {i:Nat} (h:i<l.length):(l.set i v).getD i d=v:=by
 simp only[List.getD_eq_getElem?_getD];rw[List.getElem?_set_self h];rfl
end
/- Functions of path: firsts, First. -/
section
open Go
end
/- Functions of restrict: Depth. -/
section
open Go
end
/- Functions of restrict: Keep. -/
section
abbrev A69:=List ((Int×Int)×Bool)
def vG (l:List (Int×Int)) (x:Int):Int:=l.foldl (fun t a=>if a.1=x then a.2 else t) (-1)
end
/- Functions of grammarlablaw15: exampleHolds. -/
section
attribute [local go_sem] G0 ZK
end
/- The plain laws under RestrictWhole: the first paths lead to their nodes and are shorter than the nodes are many; all nodes of a canonical feature structure are come to. -/
section
abbrev AW (f:List AE) (n:Int):List (Int×Int):=(f.getD n.toNat (0,[])).2
def A1 (f:List AE):Int→List Int→Option Int
 | n,[]=>some n
 | n,x :: r=>if vG (AW f n) x<0 then none else A1 f (vG (AW f n) x) r
theorem JY (f:List AE):∀(p:List Int) (n m x:Int),A1 f n p=some m→A1 f n (p++[x])=if vG (AW f m) x<0 then none else some (vG (AW f m) x)
 | [],n,m,x,h=>by
  simp only[A1,Option.some.injEq]at h
  subst h
  rfl
 | y :: p,n,m,x,h=>by
  simp only[A1,List.cons_append]at h ⊢
  split at h
  ·cases h
  ·rename_i hc
   rw[if_neg hc]
   exact JY f p _ m x h
theorem A0P {l:List (Int×Int)} (h:l.Pairwise (fun a b=>a.1<b.1)) {a:Int×Int} (ha:a∈l):vG l a.1=a.2:=by
 have keep:∀(l:List (Int×Int)) (t:Int),(∀b∈l,¬b.1=a.1)→l.foldl (fun t b=>if b.1=a.1 then b.2 else t) t=t:=by
  intro l
  induction l with
  | nil=>intro t _;rfl
  | cons b l ih =>
   intro t hl
   rw[List.foldl_cons,if_neg (hl b (by simp))]
   exact ih t (fun c hc=>hl c (by simp[hc]))
 obtain⟨l1,l2,rfl⟩:=List.append_of_mem ha
 rw[List.pairwise_append,List.pairwise_cons]at h
 obtain⟨-,⟨h2,-⟩,-⟩:=h
 unfold vG
 rw[List.foldl_append,List.foldl_cons,if_pos rfl]
 exact keep l2 _ (fun b hb e=>by have:=h2 b hb;omega)
theorem MM {f:List AE} (h:DX f=true):AR f 0=f:=by
 obtain⟨hg,hs,h0,_⟩:=Ks h
 unfold DX at h
 simp only[Bool.and_eq_true,beq_iff_eq]at h
 obtain⟨_,hc,he⟩:=h
 have hcf:(CD f).1=GU f 0:=by
  unfold CD at hc ⊢
  split at hc
  ·rename_i hh;rw[if_pos hh]
  ·rename_i hh;exact absurd hc hh
 rw[hcf]at he
 rw[←Kp hg hs (by omega) (by omega)]
 exact Kq he
/-! The parts -/
theorem cV {acc:Int→Int×Int→Bool} {f:List AE} (h:∀i,i<f.length→∀a∈(f.getD i (0,[])).2,acc (i:Int) a=true):Fb acc f f.length=f:=by
 apply List.ext_getElem
 ·exact Ij _ _ _
 ·intro i h1 h2
  have e:f.getD i (0,[])=f[i]:=by simp[List.getD_eq_getElem?_getD,h2]
  have:=h i h2
  simp only[Fb,List.getElem_map,List.getElem_range,vF]
  rw[List.filter_eq_self.2 this,e]
theorem cW {acc:Int→Int×Int→Bool} {f:List AE} (hc:DX f=true) (h:∀i,i<f.length→∀a∈(f.getD i (0,[])).2,acc (i:Int) a=true):TP acc f=f:=by
 unfold TP
 rw[cV h]
 exact MM hc
/-! Keep all paths -/
abbrev has (m:A69) (k:Int×Int):Prop:=(Pv A2c .bool k m).getD false=true
end
/- Plain: structures that differ in their nodes' names alone have one canonical form; a part of a part is a part. -/
section
theorem ZO {f:List AE} (hf:Ag f):∀(k:Nat) (o:List Int) (n:Int),MJ f o→0≤n→n<f.length→n∉o→f.length-o.length≤k→FW f (k+1) o n=FW f k o n
 | 0,o,n,h,h0,h1,h2,hk=>by
  have:=(h.snoc h0 h1 h2).len
  simp only[List.length_append,List.length_singleton]at this
  omega
 | k+1,o,n,h,h0,h1,h2,hk=>by
  rw[Dd,Dd]
  have key:∀(l:List (Int×Int)) (t:List Int),(∀a∈l,0≤a.2∧a.2<(f.length:Int))→MJ f t→f.length-t.length≤k→l.foldl (Ai f (k+1)) t=l.foldl (Ai f k) t:=by
   intro l
   induction l with
   | nil=>intros;rfl
   | cons a l ih =>
    intro t hl ht hlen
    have hq:=hl a (by simp)
    have hs:Ai f (k+1) t a=Ai f k t a:=by
     unfold Ai
     split
     ·rfl
     ·rename_i hn
      exact ZO hf k t a.2 ht hq.1 hq.2 hn hlen
    have h3:MJ f (Ai f k t a)∧t <+: Ai f k t a:=by
     unfold Ai
     split
     ·exact⟨ht,List.prefix_refl _⟩
     ·rename_i hn
      exact D6 hf k t a.2 ht hq.1 hq.2 hn
    rw[List.foldl_cons,List.foldl_cons,hs]
    have:=h3.2.length_le
    exact ih _ (fun b hb=>hl b (by simp[hb])) h3.1 (by omega)
  exact key _ _ (fun a ha=>Bi hf ha) (h.snoc h0 h1 h2) (by simp only[List.length_append,List.length_singleton];omega)
theorem Gc (f:List AE):MJ f []:=⟨by simp,fun x hx=>by cases hx⟩
theorem TT {f:List AE} (hf:Ag f) {n:Int} (h0:0≤n) (h1:n<f.length):∀m,FW f (f.length+m) [] n=FW f f.length [] n
 | 0=>rfl
 | m+1=>by
  rw[←Nat.add_assoc,ZO hf _ [] n (Gc f) h0 h1 (by simp) (by simp only[List.length_nil];omega)]
  exact TT hf h0 h1 m
structure Iso (Q R:List AE) (ψ:Int→Int) (C:Int→Prop):Prop where
 arc:∀i,C i→AW R (ψ i)=(AW Q i).map fun a=>(a.1,ψ a.2)
 cl:∀i,C i→∀a∈AW Q i,C a.2
 inj:∀i j,C i→C j→ψ i=ψ j→i=j
theorem RT {Q R:List AE} {ψ:Int→Int} {C:Int→Prop} (h:Iso Q R ψ C):∀(k:Nat) (t:List Int) (i:Int),(∀x∈t,C x)→C i→FW R k (t.map ψ) (ψ i)=(FW Q k t i).map ψ∧∀x∈FW Q k t i,C x
 | 0,t,i,ht,hi=>⟨rfl,ht⟩
 | k+1,t,i,ht,hi=>by
  have key:∀(l:List (Int×Int)) (t:List Int),(∀a∈l,C a.2)→(∀x∈t,C x) →
    (l.map fun a=>(a.1,ψ a.2)).foldl (Ai R k) (t.map ψ)=(l.foldl (Ai Q k) t).map ψ∧∀x∈l.foldl (Ai Q k) t,C x:=by
   intro l
   induction l with
   | nil=>intro t _ ht;exact⟨rfl,ht⟩
   | cons a l ih =>
    intro t hl ht
    have ha:=hl a (by simp)
    have hs:Ai R k (t.map ψ) (a.1,ψ a.2)=(Ai Q k t a).map ψ∧∀x∈Ai Q k t a,C x:=by
     unfold Ai
     by_cases hm:a.2∈t
     ·rw[if_pos hm,if_pos (List.mem_map.2 ⟨_,hm,rfl⟩)]
      exact⟨rfl,ht⟩
     ·have hm2:¬ψ a.2∈t.map ψ:=by
       intro hh
       obtain⟨x,hx,e⟩:=List.mem_map.1 hh
       exact hm (h.inj x a.2 (ht x hx) ha e▸hx)
      rw[if_neg hm]
      simp only[if_neg hm2]
      exact RT h k t a.2 ht ha
    rw[List.map_cons,List.foldl_cons,List.foldl_cons,hs.1]
    exact ih _ (fun b hb=>hl b (by simp[hb])) hs.2
  rw[Dd,Dd]
  have e:t.map ψ++[ψ i]=(t++[i]).map ψ:=by simp
  have ea:(R.getD (ψ i).toNat (0,[])).2=(AW Q i).map fun a=>(a.1,ψ a.2):=h.arc i hi
  rw[ea,e]
  refine key _ _ (h.cl i hi) fun x hx=>?_
  rcases List.mem_append.1 hx with hx|hx
  ·exact ht x hx
  ·have:x=i:=by simpa using hx
   rw[this];exact hi
theorem vH {o:List Int} {ψ:Int→Int} {x:Int} (h:∀y∈o,ψ y=ψ x→y=x):Bw (o.map ψ) (ψ x)=Bw o x:=by
 have hi:(o.map ψ).idxOf (ψ x)=o.idxOf x:=by
  induction o with
  | nil=>rfl
  | cons y o ih =>
   rw[List.map_cons,List.idxOf_cons,List.idxOf_cons]
   have hy:=h y (by simp)
   by_cases e:y=x
   ·subst e;simp
   ·have e2:¬ψ y=ψ x:=fun hh=>e (hy hh)
    have b1:(y==x)=false:=by simpa using e
    have b2:(ψ y==ψ x)=false:=by simpa using e2
    rw[b1,b2,ih (fun z hz=>h z (by simp[hz]))]
 unfold Bw
 by_cases hm:x∈o
 ·rw[if_pos hm,if_pos (List.mem_map.2 ⟨x,hm,rfl⟩),hi]
 ·rw[if_neg hm,if_neg]
  intro hh
  obtain⟨y,hy,e⟩:=List.mem_map.1 hh
  exact hm (h y hy e▸hy)
theorem UL {Q R:List AE} {ψ:Int→Int} {C:Int→Prop} (h:Iso Q R ψ C) (hQ:Ag Q) (hC0:C 0) (h0:ψ 0=0) (hQ0:0<Q.length) (hlen:Q.length≤R.length)
  (hty:∀i,C i→(R.getD (ψ i).toNat (0,[])).1=(Q.getD i.toNat (0,[])).1):AR R 0=AR Q 0:=by
 have hd:FW R R.length [] 0=(FW Q Q.length [] 0).map ψ∧∀x∈FW Q Q.length [] 0,C x:=by
  have h1:=RT h R.length [] 0 (fun x hx=>by cases hx) hC0
  rw[h0]at h1
  have h2:=TT hQ (n:=0) (by omega) (by omega) (R.length-Q.length)
  rw[show Q.length+(R.length-Q.length)=R.length by omega]at h2
  rw[h2]at h1
  exact h1
 unfold AR
 rw[hd.1]
 generalize FW Q Q.length [] 0=o at *
 rw[List.map_map]
 refine List.map_congr_left fun i hi=>?_
 have hci:=hd.2 i hi
 show F9 R (o.map ψ) (ψ i)=F9 Q o i
 unfold F9
 have ea:(R.getD (ψ i).toNat (0,[])).2=(AW Q i).map fun a=>(a.1,ψ a.2):=h.arc i hci
 rw[hty i hci,ea,List.map_map]
 refine congrArg _ (List.map_congr_left fun a ha=>?_)
 show (a.1,Bw (o.map ψ) (ψ a.2))=(a.1,Bw o a.2)
 rw[vH fun y hy e=>h.inj y a.2 (hd.2 y hy) (h.cl i hci a ha) e]
/-! Nodes come to -/
structure Ord (f:List AE) (o:List Int):Prop where
 ok:MJ f o
 zero:o.getD 0 0=0∧0<o.length
 cl:∀n∈o,∀a∈AW f n,a.2∈o
theorem vI {f:List AE} (hf:Ag f) (h0:0<f.length):[0] <+: FW f f.length [] 0:=by
 obtain⟨k,hk⟩:∃k,f.length=k+1:=⟨f.length-1,by omega⟩
 rw[hk,Dd]
 exact(Ed (D6 hf k) _ _ (fun a ha=>Bi hf ha) ((Gc f).snoc (by omega) (by omega) (by simp))).2
theorem vJ {f:List AE} (hf:Ag f) (h0:0<f.length):Ord f (FW f f.length [] 0):=by
 have h1:=D6 hf f.length [] 0 (Gc f) (by omega) (by omega) (by simp)
 have h2:=HP hf f.length [] 0 (Gc f) (by omega) (by omega) (by simp) (by simp)
 have h3:=vI hf h0
 refine⟨h1.1,?_,fun n hn a ha=>?_⟩
 ·obtain⟨t,ht⟩:=h3
  rw[←ht]
  exact⟨rfl,by simp⟩
 ·rcases h2.2 n hn with h|h
  ·cases h
  ·exact h a ha
where
 getD_mem' {l:List Int} {d:Int} {k:Nat} (h:k<l.length):l.getD k d∈l:=by
  rw[List.getD_eq_getElem?_getD,List.getElem?_eq_getElem h]
  exact List.getElem_mem h
theorem Im {o:List Int} (hn:o.Nodup) {i:Nat} (hi:i<o.length):Bw o (o.getD i 0)=(i:Int):=by
 have e:o.getD i 0=o[i]:=by rw[List.getD_eq_getElem?_getD,List.getElem?_eq_getElem hi];rfl
 rw[e]
 unfold Bw
 rw[if_pos (List.getElem_mem hi),hn.idxOf_getElem i hi]
theorem GA {o:List Int} {x:Int} (h:x∈o):0≤Bw o x∧Bw o x<(o.length:Int)∧o.getD (Bw o x).toNat 0=x:=by
 unfold Bw
 rw[if_pos h]
 have hl:=List.idxOf_lt_length_of_mem h
 refine⟨by omega,by omega,?_⟩
 rw[Int.toNat_natCast,List.getD_eq_getElem?_getD,List.getElem?_eq_getElem hl]
 show o[o.idxOf x]=x
 exact List.getElem_idxOf hl
theorem pZ (f:List AE):(AR f 0).length=(FW f f.length [] 0).length:=by simp[AR]
theorem p4 {f:List AE} {i:Nat} (hi:i<(FW f f.length [] 0).length):(AR f 0).getD i (0,[])=F9 f (FW f f.length [] 0) ((FW f f.length [] 0).getD i 0):=by
 unfold AR
 simp[List.getD_eq_getElem?_getD,hi]
theorem ZP (acc:Int→Int×Int→Bool) {f:List AE} {n:Int} (h0:0≤n) (h1:n<f.length):(Fb acc f f.length).getD n.toNat (0,[])=((f.getD n.toNat (0,[])).1,(AW f n).filter (acc n)):=by
 have hn:n.toNat<f.length:=by omega
 have e:((n.toNat:Nat):Int)=n:=by omega
 unfold Fb
 simp only[List.getD_eq_getElem?_getD,List.getElem?_map,List.getElem?_range hn,Option.map_some,Option.getD_some,vF]
 rw[e]
 rfl
end
/- Plain: what Keep keeps; Keep twice is Keep. -/
section
theorem A0Q (l:List (Int×Int)) (x:Int):vG l x=-1∨∃a∈l,a.1=x∧a.2=vG l x:=by
 have key:∀(l:List (Int×Int)) (t:Int),l.foldl (fun t a=>if a.1=x then a.2 else t) t=t∨∃a∈l,a.1=x∧a.2=l.foldl (fun t a=>if a.1=x then a.2 else t) t:=by
  intro l
  induction l with
  | nil=>intro t;exact .inl rfl
  | cons b l ih =>
   intro t
   rw[List.foldl_cons]
   by_cases h:b.1=x
   ·rw[if_pos h]
    rcases ih b.2 with e|⟨a,ha,e⟩
    ·exact .inr ⟨b,by simp,h,e.symm⟩
    ·exact .inr ⟨a,by simp[ha],e⟩
   ·rw[if_neg h]
    rcases ih t with e|⟨a,ha,e⟩
    ·exact .inl e
    ·exact .inr ⟨a,by simp[ha],e⟩
 exact key l (-1)
theorem vK {l:List (Int×Int)} {x:Int} (h:0≤vG l x):∃a∈l,a.1=x∧a.2=vG l x:=by
 rcases A0Q l x with e|h1
 ·omega
 ·exact h1
theorem p5 {f:List AE} (hf:Ag f) (hs:Q4 f) (h0:0<f.length) (acc:Int→Int×Int→Bool) {n:Int} (hn:n∈FW (Fb acc f f.length) f.length [] 0) :
  AW (TP acc f) (Bw (FW (Fb acc f f.length) f.length [] 0) n)=((AW f n).filter (acc n)).map (XE (FW (Fb acc f f.length) f.length [] 0)):=by
 obtain⟨hPg,hPs⟩:=VY hf hs acc
 have hPl:=Ij acc f f.length
 have ho:=vJ hPg (by omega)
 have hg:=fun i=>p4 (f:=Fb acc f f.length) (i:=i)
 rw[hPl]at ho hg
 obtain⟨g0,g1,g2⟩:=GA hn
 have hr:=ho.ok.rng n hn
 rw[hPl]at hr
 show ((TP acc f).getD _ (0,[])).2=_
 have:TP acc f=AR (Fb acc f f.length) 0:=rfl
 rw[this,hg _ (by omega),g2]
 unfold F9
 rw[ZP acc hr.1 hr.2]
end
/- Plain: the first paths are shortest; Depth twice is the lesser Depth. -/
section
theorem PU {f:List AE}:∀(p:List Int) (n:Int) (z:List Int),A1 f n p=none→A1 f n (p++z)=none
 | [],_,_,h=>by cases h
 | x :: p,n,z,h=>by
  simp only[A1,List.cons_append]at h ⊢
  split
  ·rfl
  ·rename_i hc
   rw[if_neg hc]at h
   exact PU p _ z h
theorem PW {f:List AE} {p:List Int} {e y:Int} (h:A1 f 0 (p++[e])=some y):∃x,A1 f 0 p=some x∧∃a∈AW f x,a.1=e∧a.2=y:=by
 cases hh:A1 f 0 p with
 | none=>rw[PU p 0 [e] hh]at h;cases h
 | some x =>
  have hw:=JY f p 0 x e hh
  rw[h]at hw
  split at hw
  ·cases hw
  ·rename_i hc
   obtain⟨a,ha,e1,e2⟩:=vK (l:=AW f x) (x:=e) (by omega)
   exact⟨x,rfl,a,ha,e1,by rw[e2];exact(Option.some.inj hw).symm⟩
end
/- Plain: subsume.Map finds a map if there is one; parts subsume, and parts of what subsumes subsume parts. -/
section
structure Lz (h:AM) (a b:List AE) (m:Int→Int):Prop where
 zero:m 0=0
 rng:∀i,0≤i→i<(a.length:Int)→0≤m i∧m i<(b.length:Int)
 ty:∀i,0≤i→i<(a.length:Int)→DB h (a.getD i.toNat (0,[])).1 (b.getD (m i).toNat (0,[])).1=true
 arc:∀i,0≤i→i<(a.length:Int)→∀x∈AW a i,Ly (AW b (m i)) x.1=m x.2
theorem Kt {l:List (Int×Int)} (h:l.Pairwise (fun a b=>a.1<b.1)) {a:Int×Int} (ha:a∈l):Ly l a.1=a.2:=by
 induction l with
 | nil=>cases ha
 | cons b l ih =>
  obtain⟨h1,h2⟩:=List.pairwise_cons.1 h
  simp only[Ly]
  rcases List.mem_cons.1 ha with rfl|ha
  ·rw[if_pos rfl]
  ·rw[if_neg (by have:=h1 a ha;omega)]
   exact ih h2 ha
theorem OW {l:List (Int×Int)} {e:Int} (h:0≤Ly l e):∃a∈l,a.1=e∧a.2=Ly l e:=by
 induction l with
 | nil=>simp only[Ly]at h;omega
 | cons b l ih =>
  simp only[Ly]at h ⊢
  split
  ·rename_i hb
   exact⟨b,by simp,hb,rfl⟩
  ·rename_i hb
   rw[if_neg hb]at h
   obtain⟨a,ha,e1,e2⟩:=ih h
   exact⟨a,by simp[ha],e1,e2⟩
def RO (f:List AE):Prop:=∀i:Int,0<i→i<(f.length:Int)→∃j,0≤j∧j<i∧∃x∈AW f j,x.2=i
/-! The map is found -/
theorem A0R {M:List Int} {k j:Nat} {v:Int} (hk:k<M.length):(M.set k v).getD j 0=if k=j then v else M.getD j 0:=by
 by_cases h:k=j
 ·subst h;rw[if_pos rfl,IE _ _ _ hk]
 ·rw[if_neg h,getD_set_ne _ _ _ h]
/-! What is found is a map -/
/-! A canonical form is led through in order -/
theorem TU {f:List AE} (hf:Ag f):∀(k:Nat) (t:List Int) (n:Int),MJ f t→0≤n→n<f.length→n∉t →
  ∀q,t.length<q→q<(FW f k t n).length→∃j,j<q∧∃a∈AW f ((FW f k t n).getD j 0),a.2=(FW f k t n).getD q 0
 | 0,t,n,h,h0,h1,h2,q,hq1,hq2=>by simp only[FW]at hq2;omega
 | k+1,t,n,h,h0,h1,h2,q,hq1,hq2=>by
  have key:∀(l:List (Int×Int)) (u:List Int),(∀a∈l,a∈AW f n)→MJ f u→t++[n] <+: u →
    (∀q,t.length<q→q<u.length→∃j,j<q∧∃a∈AW f (u.getD j 0),a.2=u.getD q 0) →
    ∀q,t.length<q→q<(l.foldl (Ai f k) u).length→∃j,j<q∧∃a∈AW f ((l.foldl (Ai f k) u).getD j 0),a.2=(l.foldl (Ai f k) u).getD q 0:=by
   intro l
   induction l with
   | nil=>intro u _ _ _ hu q g1 g2;exact hu q g1 g2
   | cons a l ih =>
    intro u hl hu hpre hlead
    have ha:=hl a (by simp)
    have hr:=Bi hf ha
    rw[List.foldl_cons]
    by_cases hm:a.2∈u
    ·have hs:Ai f k u a=u:=by unfold Ai;rw[if_pos hm]
     rw[hs]
     exact ih u (fun b hb=>hl b (by simp[hb])) hu hpre hlead
    ·have hs:Ai f k u a=FW f k u a.2:=by unfold Ai;rw[if_neg hm]
     rw[hs]
     obtain⟨d1,d2⟩:=D6 hf k u a.2 hu hr.1 hr.2 hm
     have hget:∀j,j<u.length→(FW f k u a.2).getD j 0=u.getD j 0:=fun j hj=>by
      obtain⟨v,hv⟩:=d2
      rw[←hv]
      simp only[List.getD_eq_getElem?_getD]
      rw[List.getElem?_append_left hj]
     have hun:u.getD t.length 0=n:=by
      obtain⟨v,hv⟩:=hpre
      rw[←hv]
      simp[List.getD_eq_getElem?_getD]
     have hul:t.length<u.length:=by
      have:=hpre.length_le
      simp at this
      omega
     refine ih (FW f k u a.2) (fun b hb=>hl b (by simp[hb])) d1 (hpre.trans d2) (fun q g1 g2=>?_)
     by_cases hq:q<u.length
     ·obtain⟨j,j1,b,hb,e⟩:=hlead q g1 hq
      refine⟨j,j1,b,?_,?_⟩
      ·rw[hget j (by omega)];exact hb
      ·rw[hget q hq];exact e
     ·by_cases hq2:q=u.length
      ·subst hq2
       refine⟨t.length,hul,a,?_,?_⟩
       ·rw[hget _ hul,hun];exact ha
       ·cases k with
        | zero=>simp only[FW]at g2;omega
        | succ k =>
         have hp:u++[a.2] <+: FW f (k+1) u a.2:=by
          rw[Dd]
          exact(Ed (D6 hf k) _ _ (fun b hb=>Bi hf hb) (hu.snoc hr.1 hr.2 hm)).2
         obtain⟨v,hv⟩:=hp
         rw[←hv]
         simp[List.getD_eq_getElem?_getD]
      ·exact TU hf k u a.2 hu hr.1 hr.2 hm q (by omega) g2
  rw[Dd]at hq2 ⊢
  exact key _ (t++[n]) (fun a ha=>ha) (h.snoc h0 h1 h2) (List.prefix_refl _) (fun q g1 g2=>by simp only[List.length_append,List.length_singleton]at g2;omega) q hq1 hq2
theorem A0S {f:List AE} (hf:Ag f) (hs:Q4 f) (h0:0<f.length) (acc:Int→Int×Int→Bool):RO (TP acc f):=by
 obtain⟨hPg,hPs⟩:=VY hf hs acc
 have hPl:=Ij acc f f.length
 have ho:=vJ hPg (by omega)
 have hcl:=pZ (Fb acc f f.length)
 have hlead:=TU hPg (Fb acc f f.length).length [] 0 (Gc _) (by omega) (by omega) (by simp)
 have har:=fun n hn=>p5 hf hs h0 acc (n:=n) hn
 rw[hPl]at ho hcl hlead
 have hpf:(TP acc f).length=(FW (Fb acc f f.length) f.length [] 0).length:=hcl
 intro i g0 g1
 rw[hpf]at g1
 generalize FW (Fb acc f f.length) f.length [] 0=o at *
 obtain⟨j,j1,a,ha,e⟩:=hlead i.toNat (by simp only[List.length_nil];omega) (by omega)
 have hjm:o.getD j 0∈o:=AD _ 0 (by omega)
 have hr:=ho.ok.rng _ hjm
 rw[hPl]at hr
 rw[AW,ZP acc hr.1 hr.2]at ha
 refine⟨(j:Int),by omega,by omega,XE o a,?_,?_⟩
 ·have:=har _ hjm
  rw[Im ho.ok.nd (by omega)]at this
  rw[this]
  exact List.mem_map.2 ⟨a,ha,rfl⟩
 ·show Bw o a.2=i
  rw[e,Im ho.ok.nd (by omega)]
  omega
/-! Types -/
theorem cX (x:List Int):Kl x x=true:=by
 unfold Kl
 rw[List.all_eq_true]
 intro i hi
 rw[Gi,beq_iff_eq]
 exact QY
theorem PX (h:AM) (t:Int):DB h t t=true:=cX _
end
/- Plain: a forest of representatives; a path halved leaves the representatives as they are. -/
section
abbrev par (p:List Int) (n:Int):Int:=p.getD n.toNat 0
structure Fo (p:List Int) (rk:Int→Nat):Prop where
 rng:∀n,0≤n→n<(p.length:Int)→0≤par p n∧par p n<(p.length:Int)
 dec:∀n,0≤n→n<(p.length:Int)→par p n≠n→rk (par p n)<rk n
inductive Rt (p:List Int):Int→Int→Prop
 | base {n:Int} (h:par p n=n):Rt p n n
 | step {n r:Int} (h:par p n≠n) (h2:Rt p (par p n) r):Rt p n r
theorem Rt.det {p:List Int} {n r s:Int} (h:Rt p n r) (g:Rt p n s):r=s:=by
 induction h with
 | base h =>
  cases g with
  | base g=>rfl
  | step g _=>exact absurd h g
 | step h _ ih =>
  cases g with
  | base g=>exact absurd g h
  | step _ g2=>exact ih g2
theorem Rt.root {p:List Int} {n r:Int} (h:Rt p n r):par p r=r:=by
 induction h with
 | base h=>exact h
 | step _ _ ih=>exact ih
theorem Fo.ex {p:List Int} {rk:Int→Nat} (h:Fo p rk):∀(k:Nat) (n:Int),rk n≤k→0≤n→n<(p.length:Int)→∃r,Rt p n r∧0≤r∧r<(p.length:Int)
 | 0,n,hk,h0,h1=>by
  by_cases e:par p n=n
  ·exact⟨n,.base e,h0,h1⟩
  ·have:=h.dec n h0 h1 e
   omega
 | k+1,n,hk,h0,h1=>by
  by_cases e:par p n=n
  ·exact⟨n,.base e,h0,h1⟩
  ·have hd:=h.dec n h0 h1 e
   have hr:=h.rng n h0 h1
   obtain⟨r,g1,g2,g3⟩:=h.ex k (par p n) (by omega) hr.1 hr.2
   exact⟨r,.step e g1,g2,g3⟩
theorem Fo.root {p:List Int} {rk:Int→Nat} (h:Fo p rk) {n:Int} (h0:0≤n) (h1:n<(p.length:Int)):∃r,Rt p n r∧0≤r∧r<(p.length:Int):=h.ex (rk n) n (Nat.le_refl _) h0 h1
theorem CV {p:List Int} {n v:Int} (h0:0≤n) (h1:n<(p.length:Int)) (x:Int) (hx:0≤x):par (p.set n.toNat v) x=if x=n then v else par p x:=by
 unfold par
 rw[A0R (by omega)]
 by_cases e:x=n
 ·subst e;rw[if_pos rfl,if_pos rfl]
 ·rw[if_neg (by omega),if_neg e]
def FP (p:List Int) (n:Int):List Int:=p.set n.toNat (par p (par p n))
theorem PY (p:List Int) (n:Int):(FP p n).length=p.length:=by simp[FP]
theorem vL {p:List Int} {rk:Int→Nat} (h:Fo p rk) {n:Int} (h0:0≤n) (h1:n<(p.length:Int)) (hn:par p n≠n):Fo (FP p n) rk:=by
 have hr:=h.rng n h0 h1
 have hr2:=h.rng _ hr.1 hr.2
 have hd:=h.dec n h0 h1 hn
 have hle:rk (par p (par p n))≤rk (par p n):=by
  by_cases e:par p (par p n)=par p n
  ·rw[e];exact Nat.le_refl _
  ·exact Nat.le_of_lt (h.dec _ hr.1 hr.2 e)
 refine⟨fun x x0 x1=>?_,fun x x0 x1 hx=>?_⟩
 ·rw[PY]at x1 ⊢
  unfold FP
  rw[CV h0 h1 x x0]
  split
  ·exact hr2
  ·exact h.rng x x0 x1
 ·rw[PY]at x1
  unfold FP at hx ⊢
  rw[CV h0 h1 x x0]at hx ⊢
  split
  ·rename_i e
   subst e
   omega
  ·rename_i e
   rw[if_neg e]at hx
   exact h.dec x x0 x1 hx
theorem ZQ {p:List Int} {rk:Int→Nat} (h:Fo p rk) {n:Int} (h0:0≤n) (h1:n<(p.length:Int)) (hn:par p n≠n):∀(k:Nat) (x r:Int),rk x≤k→0≤x→x<(p.length:Int)→Rt p x r→Rt (FP p n) x r:=by
 intro k
 induction k with
 | zero =>
  intro x r hk x0 x1 hx
  have e:par p x=x:=Classical.byContradiction fun e=>by have:=h.dec x x0 x1 e;omega
  have hxn:x≠n:=fun e2=>hn (e2▸e)
  have:=hx.det (.base e)
  rw[this]
  refine .base ?_
  unfold FP
  rw[CV h0 h1 x x0,if_neg hxn]
  exact e
 | succ k ih =>
  intro x r hk x0 x1 hx
  by_cases e:par p x=x
  ·have hxn:x≠n:=fun e2=>hn (e2▸e)
   have:=hx.det (.base e)
   rw[this]
   refine .base ?_
   unfold FP
   rw[CV h0 h1 x x0,if_neg hxn]
   exact e
  ·have hd:=h.dec x x0 x1 e
   have hr:=h.rng x x0 x1
   have hx2:Rt p (par p x) r:=by
    cases hx with
    | base g=>exact absurd g e
    | step _ g=>exact g
   by_cases hxn:x=n
   ·subst hxn
    by_cases e2:par p (par p x)=par p x
    ·have:=hx2.det (.base e2)
     rw[this]at hx2 ⊢
     refine .step (r:=par p x) ?_ ?_
     ·unfold FP
      rw[CV h0 h1 x x0,if_pos rfl,e2]
      exact e
     ·have hp:par (FP p x) x=par p x:=by
       unfold FP
       rw[CV h0 h1 x x0,if_pos rfl,e2]
      rw[hp]
      exact ih _ _ (by omega) hr.1 hr.2 hx2
    ·have hd2:=h.dec _ hr.1 hr.2 e2
     have hr2:=h.rng _ hr.1 hr.2
     have hx3:Rt p (par p (par p x)) r:=by
      cases hx2 with
      | base g=>exact absurd g e2
      | step _ g=>exact g
     have hp:par (FP p x) x=par p (par p x):=by
      unfold FP
      rw[CV h0 h1 x x0,if_pos rfl]
     refine .step ?_ ?_
     ·rw[hp]
      intro e3
      rw[e3]at hd2
      omega
     ·rw[hp]
      exact ih _ _ (by omega) hr2.1 hr2.2 hx3
   ·have hp:par (FP p n) x=par p x:=by
     unfold FP
     rw[CV h0 h1 x x0,if_neg hxn]
    refine .step ?_ ?_
    ·rw[hp];exact e
    ·rw[hp]
     exact ih _ _ (by omega) hr.1 hr.2 hx2
def D7 (p q:List Int):Prop:=p.length=q.length∧∀x r,0≤x→x<(p.length:Int)→(Rt p x r↔Rt q x r)
theorem D7.refl (p:List Int):D7 p p:=⟨rfl,fun _ _ _ _=>Iff.rfl⟩
theorem D7.trans {p q s:List Int} (h:D7 p q) (g:D7 q s):D7 p s :=
 ⟨h.1.trans g.1,fun x r x0 x1=>(h.2 x r x0 x1).trans (g.2 x r x0 (by rw[←h.1];exact x1))⟩
theorem cZ {p:List Int} {rk:Int→Nat} (h:Fo p rk) {n:Int} (h0:0≤n) (h1:n<(p.length:Int)) (hn:par p n≠n):D7 p (FP p n):=by
 refine⟨(PY p n).symm,fun x r x0 x1=>⟨fun hx=>ZQ h h0 h1 hn _ x r (Nat.le_refl _) x0 x1 hx,fun hx=>?_⟩⟩
 obtain⟨s,hs,-,-⟩:=h.root x0 x1
 have:=ZQ h h0 h1 hn _ x s (Nat.le_refl _) x0 x1 hs
 have e:=this.det hx
 rw[←e]
 exact hs
end
/- Functions of unify.classes: find, add. -/
section
def Qj (h:AM) (p ty:List Int) (ar:List (List (Int×Int))):List (Nat×Obj):=[(1,.box 94 true [.p GS h,.sr 2 T3 0 p.length,.sr 3 T3 0 ty.length,.sr 4 Cb 0 ar.length]),(2,.arr 3 T3 p),(3,.arr 3 T3 ty),(4,.arr 86 Cb ar)]
theorem XF (h:AM) (ty:List Int) (ar:List (List (Int×Int))) (rk:Int→Nat) {p:List Int} (hp:Fo p rk) {n:Int} (h0:0≤n) (h1:n<(p.length:Int)):FI Tryz.prog 102 [.bp 1 [] 0,.p T3 n] (Qj h p ty ar) [1]
  (fun res objs'=>∃(p':List Int) (r:Int),res=.p T3 r∧objs'=Qj h p' ty ar∧Fo p' rk∧D7 p p'∧Rt p n r):=by
 refine Gw Tryz.func102 (by kernel_rfl) rfl Tryz.ntmps102 (by simp only[List.length_cons,List.length_nil];omega) (by kernel_rfl) rfl rfl (AJ []) AL ?_
 intro w0 K O0 ρ0 hc hok1 hok2
 simp only[Ca,Qj]
 repeat'(first|exact trivial|refine eS rfl ?_|refine AB ?_|refine rX [0,1,4,13] hc ?_ ?_|refine rC ?_ ?_<;>intro AA<;>try(cases AA;done))
 refine AK (ι:={x:List Int×Int//Fo x.1 rk∧D7 p x.1∧0≤x.2∧x.2<(p.length:Int)∧(∀r,Rt x.1 x.2 r→Rt p n r)}) (fun x=>⟨[(0,.bp 1 [] 0),(1,.p T3 x.1.2)],[(1,.box 94 true [.p GS h,.sr 2 T3 0 p.length,.sr 3 T3 0 ty.length,.sr 4 Cb 0 ar.length]),(2,.arr 3 T3 x.1.1),(3,.arr 3 T3 ty),(4,.arr 86 Cb ar)]⟩) (fun x=>rk x.1.2) ⟨(p,n),hp,D7.refl p,h0,h1,fun _ g=>g⟩ (AC [(1,.nm 1),(2,.nm 2),(3,.nm 3),(4,.nm 4)] rfl rfl ?_ ?_) (fun x=>?_)
 ·first|exact eN|refine eM ?_
 ·first|exact eN|refine eM ?_
 ·obtain⟨⟨q,m⟩,hq,hs,m0,m1,hrt⟩:=x
  simp only at hq hs m0 m1 hrt
  have hql:q.length=p.length:=hs.1.symm
  have hr:=hq.rng m m0 (by omega)
  simp only
  repeat'(first|exact trivial|refine eS rfl ?_|refine AB ?_|refine rX [0,1,4,13] hc ?_ ?_|refine rC ?_ ?_<;>intro AA<;>try(cases AA;done))
  ·exact⟨m0,m1⟩
  ·exact⟨⟨m0,m1⟩,⟨hr.1,by rw[←hql];exact hr.2⟩,m0,m1⟩
  ·exact⟨m0,m1⟩
  ·have hne:par q m≠m:=AA
   have hd:=hq.dec m m0 (by omega) hne
   have hr2:=hq.rng _ hr.1 hr.2
   have hd2:rk (par q (par q m))≤rk (par q m):=by
    by_cases e:par q (par q m)=par q m
    ·rw[e];exact Nat.le_refl _
    ·exact Nat.le_of_lt (hq.dec _ hr.1 hr.2 e)
   have hsm:=cZ hq m0 (by omega) hne
   have hpm:par (FP q m) m=par q (par q m):=by
    unfold FP
    rw[CV m0 (by omega) m m0,if_pos rfl]
   refine⟨⟨(FP q m,par q (par q m)),vL hq m0 (by omega) hne,hs.trans hsm,hr2.1,by rw[←hql];exact hr2.2,fun r hr3=>hrt r ?_⟩,by simp only;omega,AC [(1,.nm 1),(2,.nm 2),(3,.nm 3),(4,.nm 4)] rfl rfl ?_ ?_⟩
   ·refine(hsm.2 m r m0 (by omega)).2 (.step ?_ ?_)
    ·rw[hpm]
     intro e
     rw[e]at hd2
     omega
    ·rw[hpm]
     exact hr3
   ·first|exact eN|refine eM ?_
    rfl
   ·first|exact eN|refine eM ?_
    exact hpm
  ·have he:par q m=m:=by simpa using AA
   refine Ev.ent (σ':=⟨[(4,.p T3 m)],Qj h q ty ar⟩) ?_ (AC [(1,.nm 1),(2,.nm 2),(3,.nm 3),(4,.nm 4)] rfl rfl ?_ ?_)
   ·exact DN hc [.tmp 4] rfl (.inl rfl) (.p T3 m) eT ⟨q,m,rfl,rfl,hq,hs,hrt m (.base he)⟩
   ·unfold Qj
    rw[hql]
    first|exact eN|refine eM ?_
   ·first|exact eN|refine eM ?_
end
/- Functions of unify.classes: add. -/
section
def BF (b n:Nat):List Int:=(List.range n).map fun i=>((b+i:Nat):Int)
def BA (b:Nat) (l:List (Int×Int)):List (Int×Int):=l.map fun a=>(a.1,a.2+(b:Int))
def BS (l:List AE) (n:Nat):List Int:=(l.take n).map fun x=>x.1
def Cl (b:Nat) (l:List AE) (n:Nat):List (List (Int×Int)):=(l.take n).map fun x=>BA b x.2
theorem c6 (b n:Nat):BF b (n+1)=BF b n++[((b+n:Nat):Int)]:=by simp[BF,List.range_succ]
theorem Fs (b n:Nat):(BF b n).length=n:=by simp[BF]
theorem TV (h:AM) (p ty:List Int) (ar:List (List (Int×Int))) (l:List AE) (hl:Ag l) (hpl:p.length≤100000) (htl:ty.length=p.length) (hal:ar.length=p.length) :
  FI Tryz.prog 60 [.bp 1 [] 0,.p Ib l] (Qj h p ty ar) [1]
  (fun res objs'=>res=.raw (.tuple #[])∧objs'=Qj h (p++BF p.length l.length) (ty++BS l l.length) (ar++Cl p.length l l.length)):=by
 refine Gw Tryz.func60 (by kernel_rfl) rfl Tryz.ntmps60 (by simp only[List.length_cons,List.length_nil];omega) (by kernel_rfl) rfl rfl (AJ []) AL ?_
 intro w0 K O0 ρ0 hc hok1 hok2
 have hll:=hl.1
 simp only[Ca,Qj]
 repeat'(first|exact trivial|refine eS rfl ?_|refine AB ?_|refine rX [0,1,4,5,6,7,9,15,16,17,18,46,47,48,49] hc ?_ ?_|refine rC ?_ ?_<;>intro AA<;>try(cases AA;done))
 refine AK (ι:={i:Nat//i≤l.length}) (fun i=>⟨[(0,.bp 1 [] 0),(4,.p (.int .i64) (p.length:Int)),(15,.p Ib l),(16,.p (.int .i64) (l.length:Int)),(17,.p (.int .i64) (i.1:Int))],[(1,.box 94 true [.p GS h,.sr 2 T3 0 (p++BF p.length i.1).length,.sr 3 T3 0 (ty++BS l i.1).length,.sr 4 Cb 0 (ar++Cl p.length l i.1).length]),(2,.arr 3 T3 (p++BF p.length i.1)),(3,.arr 3 T3 (ty++BS l i.1)),(4,.arr 86 Cb (ar++Cl p.length l i.1))]⟩) (fun i=>l.length-i.1) ⟨0,Nat.zero_le _⟩ (AC [(1,.nm 1),(2,.nm 2),(3,.nm 3),(4,.nm 4)] rfl rfl ?_ ?_) (fun i=>?_)
 ·first|exact eN|refine eM ?_
  simp[BF,BS,Cl]
 ·first|exact eN|refine eM ?_
 ·obtain⟨i,hi⟩:=i
  have hnl:=Fs p.length i
  have hns:=c6 p.length i
  have htl2:(BS l i).length=i:=by unfold BS;rw[List.length_map,List.length_take];omega
  have hal2:(Cl p.length l i).length=i:=by unfold Cl;rw[List.length_map,List.length_take];omega
  have hts:=fun h:i<l.length=>Df (fun x:AE=>x.1) l (0,[]) h
  have has:=fun h:i<l.length=>Df (fun x:AE=>BA p.length x.2) l (0,[]) h
  simp only
  repeat'(first|exact trivial|refine eS rfl ?_|refine AB ?_|refine rX [0,1,4,5,6,7,9,15,16,17,18,46,47,48,49] hc ?_ ?_|refine rC ?_ ?_<;>intro AA<;>try(cases AA;done))
  ·exact AA
  ·refine⟨⟨by omega,by omega⟩,?_⟩
   rw[hnl]
   simp only[AP]
   omega
  ·have hi2:i<l.length:=Int.ofNat_lt.1 AA
   refine GE drawsAny hc 9 [([1,2,3,4,5,6,7],8)] [0] (by kernel_rfl) (Uq ?_ ?_)
   ·trivial
   ·refine fA hc [3] ?_ ?_
    ·rw[htl2]
     simp only[AP]
     omega
    ·refine qN [0,1,4,5,6,7,9,15,16,17,18,46,47,48,49] hc ?_ ?_ ?_
     ·trivial
     ·trivial
     ·have hts2:=hts hi2
      have has2:=has hi2
      have eP:p++BF p.length i++[(p.length:Int)+(i:Int)]=p++BF p.length (i+1):=by
       rw[hns,List.append_assoc]
       rfl
      have eT:ty++BS l i++[(l.getD i (0,[])).1]=ty++BS l (i+1):=by
       unfold BS
       rw[hts2,List.append_assoc]
      have lP:p.length+(BF p.length i).length+1=(p++BF p.length (i+1)).length:=by rw[List.length_append,Fs,Fs];omega
      have lT:ty.length+(BS l i).length+1=(ty++BS l (i+1)).length:=by rw[←eT,List.length_append,List.length_append,List.length_singleton]
      have hrng:=TA hl i
      have hxl:(l.getD i (0,[])).2.length≤100000:=(hl.2 _ (AD l (0,[]) hi2)).1
      repeat'(first|exact trivial|refine eS rfl ?_|refine AB ?_|refine rX [0,1,4,5,6,7,9,15,16,17,18,46,47,48,49] hc ?_ ?_|refine rC ?_ ?_<;>intro AA<;>try(cases AA;done))
      rw[eP,eT,lP,lT]
      generalize hxd:(l.getD i (0,[])).2=xs at *
      refine AK (ι:={k:Nat//k≤xs.length}) (fun k=>⟨[(0,.bp 1 [] 0),(4,.p (.int .i64) (p.length:Int)),(7,.sr 61 ED 0 (BA p.length (xs.take k.1)).length),(15,.p Ib l),(16,.p (.int .i64) (l.length:Int)),(17,.p (.int .i64) (i:Int)),(46,.p Cb xs),(47,.p (.int .i64) (xs.length:Int)),(48,.p (.int .i64) (k.1:Int))],[(1,.box 94 true [.p GS h,.sr 2 T3 0 (p++BF p.length (i+1)).length,.sr 3 T3 0 (ty++BS l (i+1)).length,.sr 4 Cb 0 (ar++Cl p.length l i).length]),(2,.arr 3 T3 (p++BF p.length (i+1))),(3,.arr 3 T3 (ty++BS l (i+1))),(4,.arr 86 Cb (ar++Cl p.length l i)),(61,.arr 108 ED (BA p.length (xs.take k.1)))]⟩) (fun k=>xs.length-k.1) ⟨0,Nat.zero_le _⟩ (AC [(1,.nm 1),(2,.nm 2),(3,.nm 3),(4,.nm 4),(61,.nil)] rfl rfl ?_ ?_) (fun k=>?_)
      ·first|exact eN|refine eM ?_
       rfl
      ·first|exact eN|refine eM ?_
       rfl
      ·obtain⟨k,hk⟩:=k
       have hsl:(BA p.length (xs.take k)).length=k:=by unfold BA;rw[List.length_map,List.length_take];omega
       have hss:=fun h:k<xs.length=>Df (fun a:Int×Int=>(a.1,a.2+(p.length:Int))) xs (0,0) h
       have hkr:=fun h:k<xs.length=>hrng _ (AD xs (0,0) h)
       simp only
       repeat'(first|exact trivial|refine eS rfl ?_|refine AB ?_|refine rX [0,1,4,5,6,7,9,15,16,17,18,46,47,48,49] hc ?_ ?_|refine rC ?_ ?_<;>intro AA<;>try(cases AA;done))
       ·exact AA
       ·have hk2:k<xs.length:=Int.ofNat_lt.1 AA
        have hkr2:=hkr hk2
        refine⟨⟨by omega,by omega⟩,?_⟩
        rw[hsl]
        simp only[AP]
        omega
       ·omega
       ·have hk2:k<xs.length:=Int.ofNat_lt.1 AA
        have hss2:BA p.length (xs.take (k+1))=BA p.length (xs.take k)++[((xs.getD k (0,0)).1,(xs.getD k (0,0)).2+(p.length:Int))]:=hss hk2
        refine⟨⟨k+1,hk2⟩,by simp only;omega,AC [(1,.nm 1),(2,.nm 2),(3,.nm 3),(4,.nm 4),(61,.nm 61)] rfl rfl ?_ ?_⟩
        ·simp only[hss2]
         first|exact eN|refine eM ?_
        ·simp only[hss2]
         first|exact eN|refine eM ?_
       ·rw[hal2]
        simp only[AP]
        omega
       ·omega
       ·have hk2:xs.take k=xs:=List.take_of_length_le (Int.ofNat_le.1 AA)
        rw[hk2]
        have eA:ar++Cl p.length l i++[BA p.length xs]=ar++Cl p.length l (i+1):=by
         unfold Cl
         rw[has2,List.append_assoc]
        refine⟨⟨i+1,hi2⟩,by simp only;omega,AC [(1,.nm 1),(2,.nm 2),(3,.nm 3),(4,.nm 4)] rfl rfl ?_ ?_⟩
        ·simp only[←eA]
         first|exact eN|refine eM ?_
        ·first|exact eN|refine eM ?_
  ·have hi2:i=l.length:=by omega
   subst hi2
   refine Ev.ent (σ':=⟨[],Qj h (p++BF p.length l.length) (ty++BS l l.length) (ar++Cl p.length l l.length)⟩) ?_ (AC [(1,.nm 1),(2,.nm 2),(3,.nm 3),(4,.nm 4)] rfl rfl ?_ ?_)
   ·exact DN hc [] rfl (.inr rfl) (.raw (.tuple #[])) rfl ⟨rfl,rfl⟩
   ·unfold Qj
    first|exact eN|refine eM ?_
   ·first|exact eN|refine eM ?_
end
end Go.Proofs.YtebfihindnhccaaGreat.Fw
