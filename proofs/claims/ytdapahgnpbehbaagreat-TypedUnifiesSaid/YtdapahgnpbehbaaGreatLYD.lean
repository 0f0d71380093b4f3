/- Contracts of the program's and the reference's functions, and the plain laws of what they compute: U4 U5 U6 U7 U8 U9 U10 U11 U12 N8 N9 V1 V2 V4 V5 V6 V9 V10 T19 T20. -/
import Derived.Test.YtdapahgnpbehbaaGreatLYC
import Derived.Test.YtdapahgnpbehbaaGreatLZI
import Derived.Test.YtdapahgnpbehbaaGreatLYB
import Derived.Test.YtdapahgnpbehbaaGreatLYA
set_option linter.unusedVariables false
set_option linter.unusedSimpArgs false
namespace Go.Proofs.YtdapahgnpbehbaaGreat.Fw
open Go
attribute [local irreducible] Ev
attribute [local go_sem] XB AM List.toList_toArray Br evG evK Te Ef Ju Fm E6 F7 Nl KI CG Ct K2 B0 Ck frz aD GX DJ A7 FY BW AV.frz AV.frzs AV.drp AV.drps AV.names AV.namess aq GY KH Jl Qq ID BQ BX JJ Ea Hn Eb Hq Ho Hr Si Nf GZ JK Fa Dz Sj PJ xZ JL II Kw FE Dk IJ Jn EE Qr Ca EF Eq PK IK PM Lk IL Jo Cs Cj FK Dl HL DR Er DS EH FJ B0 Ci O6 O8 MB F5 IG IE Jm MC Ni Ll K0 Ky Jr PN Kz Js Wa Nk Nj AV.trn AV.trns Dy CZ Obj.trn JY Y8 DF DT DE EI CV Es Aj lk Gr GP HJ yC aC Tc aF PI pY pZ pfs AV.cells CE JG OB Jq Nh CU L9 Ty.cell1 Hm Ep Dj F4 Kv EZ KG Lj O7 Eo Gy L8 Qp Sg L5 KF WX Yj O9 MA Cr JH RV.flat Ty.flat Ty.size St.add upd del Bd Value.oneCell' Kt Ty.dflt Hl M7 G0 ND List.take_succ_cons List.take_zero List.length_cons XI XJ NC IV KS Ge H9 uE E7 LB LC LD LE OL OM JQ Hx Q1 Option.map_some Option.map_none Option.bind_some Option.getD_some Option.getD_none Option.isNone_none Option.isNone_some Bool.and_true Bool.true_and Bool.and_false Bool.false_and Bool.not_true Bool.not_false if_true if_false List.length_cons List.length_nil and_true true_and and_self List.all_cons List.all_nil List.append_nil List.nil_append List.cons_append List.getElem?_cons_zero List.getElem?_cons_succ List.getElem?_nil List.map_cons List.map_nil List.set_cons_zero List.set_cons_succ List.isEmpty_nil List.isEmpty_cons decide_true decide_false beq_self_eq_true bne_self_eq_false Nat.zero_add Nat.add_zero Nat.sub_zero Int.toNat_natCast Int.toNat_zero Int.toNat_one List.take_length List.length_append List.length_singleton true_or or_true or_self false_or or_false Ty.agg.injEq Ty.slice.injEq Ty.prod.injEq Ty.int.injEq Option.some.injEq beq_iff_eq Lr evMG evMQ x5 HQ Lq Bx JS GL MN JR HP Hy JT KR MO MQ MP Q2 KQ M9 NA H8 AY Al Op.operands Call.operands List.filterMap_cons List.filterMap_nil List.append_eq Bool.cond_false_right Bool.cond_true_left cond_true cond_false implies_true decide_eq_true_eq beq_true beq_false Bool.or_true Bool.or_false Bool.true_or Bool.false_or Option.isSome_some Array.empty_append List.append_toArray FZ K3 Et He WZ Ng FI Fg Ff IM HK Jp Kx Td aE Jk inB Jt FT F6 X1 Ah XK List.drop_zero De Hi We CK Jz BV AV.fgt AV.fgts Obj.fgt Af Ai AY Cu IW BH GB List.any_cons List.any_nil lD Y5 Wf Y6 L6 Pl qs List.flatMap_cons List.flatMap_nil List.cons_append tn Wg Hj List.take_succ_cons List.drop_succ_cons Wh HS Bl bT KU B2 CO Aa Ex Jy Bg Ew Dm HN Hw GA HO
attribute [local go_sem] J3 mO ty3 ty4 ty5 ty9 A02 A03 A04 A05 A06 A07 A08 A09 A0a A0b A0c A0d A0e A0f A0g A0h A0i A0j A0k A0l A0m A0n A0o A0p A0q A0r A0s A0t A0u A0v A0w A0x A0y A0z A0A A0B A0C A0D A0E A0F A0G A0H A0I A0J A0K A0L A0M A0N A0O A0P A0Q A0R A0S A0T A0U A0V A0W A0X A0Y A0Z A10 A11 A12 A13 A14 A15 A16 A17 A18 A19 A1a A1b A1c A1d b6 b7 b8 b9 cA cB cC cE cF cG cH cI cJ cK cL cM cN cO cQ cR cS cU cV cW cX cZ c5 c6 c7 c8 c9 dA dB dC dD dE dF dG dH dI dJ dK dL dM dN dP dQ dR dS dT dU dV dW dX dY dZ d3 d4 d5 d6 d7 d8 d9 eB eC eD eE eF eG eH eI eJ eK eL eO eQ eU eX eY eZ e5 e7 e9 fA fB fC fD fE fF fG fH fJ fL fN fO fP fQ fR fS fT fU fV fW fX fY fZ f3 f4 f5 f6 f7 f9 gB gC gD gE gF gG gH
set_option maxRecDepth 100000
set_option maxHeartbeats 4000000
section
attribute [local go_sem] rV
def Bz:List (Int×Int)→List (Int×Int)→List (Int×Int)×List (Int×Int)
 | [],y=>(y,[])
 | a :: x,[]=>(a :: x,[])
 | a :: x,b :: y =>
  if a.1<b.1 then (a :: (Bz x (b :: y)).1,(Bz x (b :: y)).2)
  else if b.1<a.1 then (b :: (Bz (a :: x) y).1,(Bz (a :: x) y).2)
  else (a :: (Bz x y).1,(a.2,b.2) :: (Bz x y).2)
termination_by x y=>x.length+y.length
structure oY (xs ys:List (Int×Int)) (W0:List (Int×Int)) (s:(List (Int×Int)×List (Int×Int))×(List (Int×Int)×List (Int×Int)×Nat)):Prop where
 hi:s.2.2.2≤s.2.2.1.length
 both:s.2.1++(Bz s.1.1 s.1.2).1=(Bz xs ys).1
 wait:s.2.2.1.take s.2.2.2++(Bz s.1.1 s.1.2).2=W0++(Bz xs ys).2
 len:s.2.1.length+s.1.1.length+s.1.2.length≤xs.length+ys.length
 num:s.2.2.2+s.1.1.length≤W0.length+xs.length
theorem A9y {x y:List (Int×Int)} (h0:0<x.length) (h:y.length=0∨(x.getD 0 (0,0)).1<(y.getD 0 (0,0)).1):Bz x y=(x.getD 0 (0,0) :: (Bz (x.drop 1) y).1,(Bz (x.drop 1) y).2):=by
 cases x with
 | nil=>simp at h0
 | cons a x =>
  cases y with
  | nil =>
   simp only[ABl,AAv];cases x<;>simp[Bz]
  | cons b y =>
   have h:a.1<b.1:=by simpa using h
   simp only[ABl,AAv];rw[Bz,BY h];rfl
theorem A9z {x y:List (Int×Int)} (h0:0<y.length) (h:x.length=0∨(y.getD 0 (0,0)).1<(x.getD 0 (0,0)).1):Bz x y=(y.getD 0 (0,0) :: (Bz x (y.drop 1)).1,(Bz x (y.drop 1)).2):=by
 cases y with
 | nil=>simp at h0
 | cons b y =>
  cases x with
  | nil=>simp[Bz]
  | cons a x =>
   have h:b.1<a.1:=by simpa using h
   simp only[ABl,AAv];rw[Bz,At (by omega),BY h];rfl
theorem A6M {x y:List (Int×Int)} (h0:0<x.length) (h1:0<y.length) (h:(x.getD 0 (0,0)).1=(y.getD 0 (0,0)).1):Bz x y=(x.getD 0 (0,0) :: (Bz (x.drop 1) (y.drop 1)).1,((x.getD 0 (0,0)).2,(y.getD 0 (0,0)).2) :: (Bz (x.drop 1) (y.drop 1)).2):=by
 cases x with
 | nil=>simp at h0
 | cons a x =>
  cases y with
  | nil=>simp at h1
  | cons b y =>
   have h:a.1=b.1:=by simpa using h
   simp only[ABl,AAv];rw[Bz,At (by omega),At (by omega)];rfl
section
variable {xs ys W0 x y bo V:List (Int×Int)} {k:Nat}
theorem A6N (h:oY xs ys W0 ((x,y),bo,V,k)) (h0:0<x.length) (f:y.length=0∨(x.getD 0 (0,0)).1<(y.getD 0 (0,0)).1):oY xs ys W0 ((x.drop 1,y),bo++[x.getD 0 (0,0)],V,k):=by
 have e:=A9y h0 f;obtain⟨h1,a,b,c,d⟩:=h;simp only at h1 a b c d;rw[e]at a b;exact⟨h1,by rw[oF];exact a,b,by simp only[Do,aS,AAr];omega,by simp only[AAr];omega⟩
theorem A6O (h:oY xs ys W0 ((x,y),bo,V,k)) (h0:0<y.length) (f:x.length=0∨(y.getD 0 (0,0)).1<(x.getD 0 (0,0)).1):oY xs ys W0 ((x,y.drop 1),bo++[y.getD 0 (0,0)],V,k):=by
 have e:=A9z h0 f;obtain⟨h1,a,b,d,c⟩:=h;simp only at h1 a b d c;rw[e]at a b;exact⟨h1,by rw[oF];exact a,b,by simp only[Do,aS,AAr];omega,c⟩
theorem A5b (h:oY xs ys W0 ((x,y),bo,V,k)) (h0:0<x.length) (h1:0<y.length) (g:(x.getD 0 (0,0)).1=(y.getD 0 (0,0)).1):oY xs ys W0 ((x.drop 1,y.drop 1),bo++[x.getD 0 (0,0)],V.take k++[((x.getD 0 (0,0)).2,(y.getD 0 (0,0)).2)],k+1):=by
 have e:=A6M h0 h1 g;obtain⟨c,a,b,d,f⟩:=h;simp only at c a b d f;rw[e]at a b;have i:(V.take k++[((x.getD 0 (0,0)).2,(y.getD 0 (0,0)).2)]).length=k+1:=by simp only[Do,aS,OS];omega
 exact⟨by simp only[i];omega,by rw[oF];exact a,by simp only;rw[An (by omega),oF];exact b,by simp only[Do,aS,AAr];omega,by simp only[AAr];omega⟩
end
def mgO (h:AJ) (p ty:List Int) (ar:List (List (Int×Int))) (W:List (Int×Int)) (hi:Nat):List (Nat×Obj) :=
 [(1,.box 130 true [.p GN h,.sr 2 T3 0 p.length,.sr 3 T3 0 ty.length,.sr 4 Cl 0 ar.length]),(2,.arr 3 T3 p),(3,.arr 3 T3 ty),(4,.arr 47 Cl ar),(5,.box 127 false [.bp 1 [] 0]),(6,.box 167 false [.sr 7 J2 0 hi]),(7,.arr 166 J2 W)]
theorem A2G (h:AJ) (hh:h.1.length≤100000) (G:∀x∈h.1,x.2.1.length≤100000) (p ty:List Int) (ar:List (List (Int×Int))) (W:List (Int×Int)) (hi:Nat) (H:hi≤W.length) (N:hi≤100000000000) {a b:Int} (a0:0≤a) (L:a<(p.length:Int)) (n:0≤b) (b1:b<(p.length:Int)) (T:ty.length=p.length) (M:ar.length=p.length)
  (ta:0≤ty.getD a.toNat 0∧ty.getD a.toNat 0<(h.1.length:Int)) (tb:0≤ty.getD b.toNat 0∧ty.getD b.toNat 0<(h.1.length:Int)) (O:(ar.getD a.toNat []).length≤10000000) (P:(ar.getD b.toNat []).length≤10000000) :
  BA Tryz.prog 117 [.p T3 a,.p T3 b,.bp 5 [] 0,.bp 6 [] 0] (mgO h p ty ar W hi) [1,5,6]
  (fun res z=>((CD h (ty.getD a.toNat 0) (ty.getD b.toNat 0)).2=false∧res=.p .bool false∧z=mgO h p ty ar W hi) ∨
   ((CD h (ty.getD a.toNat 0) (ty.getD b.toNat 0)).2=true∧res=.p .bool true∧∃m o,o≤m.length∧m.take o=W.take hi++(Bz (ar.getD a.toNat []) (ar.getD b.toNat [])).2 ∧
    z=mgO h (p.set b.toNat a) (ty.set a.toNat (CD h (ty.getD a.toNat 0) (ty.getD b.toNat 0)).1) (ar.set a.toNat (Bz (ar.getD a.toNat []) (ar.getD b.toNat [])).1) m o)):=by
 refine J1 [0,1,2,3,6,7,8,9,10,11,35,71,94,122] [] [] Tryz.func117 Tryz.ntmps117 (AF rW AG) ?_;intro w0 K O0 ρ0 d Q R;have r:a<(ty.length:Int):=by omega
 have B:b<(ty.length:Int):=by omega
 have q:a<(ar.length:Int):=by omega
 have A:b<(ar.length:Int):=by omega
 simp only[mgO,Ah];repeat'(first|exact trivial|refine eS rfl ?_|refine AB ?_|refine rX d ?_ ?_|refine rC ?_ ?_<;>intro c<;>try(cases c;done))
 ·refine⟨⟨a0,r⟩,⟨n,B⟩,ta,tb,hh,G⟩
 ·refine Ev.ent (σ':=⟨[(6,.p .bool false)],mgO h p ty ar W hi⟩) ?_ (AC [(1,.nm 1),(2,.nm 2),(3,.nm 3),(4,.nm 4),(5,.nm 5),(6,.nm 6),(7,.nm 7)] rfl rfl ?_ ?_)
  ·exact fM d [.tmp 6] (.p .bool false) eT (.inl ⟨c,rfl,rfl⟩)
  ·unfold mgO;exact eN
  ·exact eN
 ·exact⟨n,b1⟩
 ·exact⟨a0,r⟩
 ·exact⟨⟨a0,q⟩,n,A⟩
 ·generalize S:(CD h (ty.getD a.toNat 0) (ty.getD b.toNat 0)).1=t at *;generalize U:ar.getD a.toNat []=xs at *;generalize X:ar.getD b.toNat []=ys at *;refine AH (ι:={s:(List (Int×Int)×List (Int×Int))×(List (Int×Int)×List (Int×Int)×Nat)//oY xs ys (W.take hi) s}) (fun s=>⟨[(0,.p T3 a),(1,.p T3 b),(2,.bp 5 [] 0),(3,.bp 6 [] 0),(9,.p Cl s.1.1.1),(10,.p Cl s.1.1.2),(11,.sr 11 BE 0 s.1.2.1.length)],[(1,.box 130 true [.p GN h,.sr 2 T3 0 p.length,.sr 3 T3 0 ty.length,.sr 4 Cl 0 ar.length]),(2,.arr 3 T3 (p.set b.toNat a)),(3,.arr 3 T3 (ty.set a.toNat t)),(4,.arr 47 Cl ar),(5,.box 127 false [.bp 1 [] 0]),(6,.box 167 false [.sr 7 J2 0 s.1.2.2.2]),(7,.arr 166 J2 s.1.2.2.1),(11,.arr 53 BE s.1.2.1)]⟩) (fun s=>s.1.1.1.length+s.1.1.2.length) ⟨((xs,ys),([],W,hi)),H,rfl,rfl,by simp,by simp only[OS];omega⟩ (eW [(1,.nm 1),(2,.nm 2),(3,.nm 3),(4,.nm 4),(5,.nm 5),(6,.nm 6),(7,.nm 7),(11,.nil)]) (fun s=>?_)
  ·obtain⟨⟨⟨x,y⟩,bo,V,k⟩,i⟩:=s;have I:=i.len;have J:=i.num;have v:=i.hi;simp only[OS]at I J v ⊢;repeat'(first|exact trivial|refine eS rfl ?_|refine AB ?_|refine rX d ?_ ?_|refine rC ?_ ?_<;>intro c<;>try(cases c;done))
   ·refine⟨fun h=>?_,fun h=>?_⟩
    ·rw[As,IS]at h;exact h.2
    ·rw[As,bY,AB8]at h;have D:=h.1;have l:y.length≠0:=fun e=>D (by rw[e];rfl);exact OR.2 (ABe l)
   ·have f:0<x.length:=by
     rcases c with c|c
     ·omega
     ·exact OR.1 c.1
    have E:y.length=0∨(x.getD 0 (0,0)).1<(y.getD 0 (0,0)).1:=by
     rcases c with c|c
     ·exact .inl (ACq c)
     ·exact .inr c.2
    refine B3 drawsAny d 9 [([0,1,2,3,4],5),([],8)] [6,7] (by kernel_rfl) (Ls ?_ ?_)
    ·exact⟨OR.2 f,f8.2 f⟩
    ·refine Ns d [11] ?_ ?_
     ·simp only[AO];omega
     ·refine Ls ?_ ?_
      ·exact f8.2 f
      ·refine Ns d [] ?_ ?_
       ·trivial
       ·refine Pp d ?_ ?_ ?_
        ·exact f8.2 f
        ·trivial
        ·repeat'(first|exact trivial|refine eS rfl ?_|refine AB ?_|refine rX d ?_ ?_|refine rC ?_ ?_<;>intro c<;>try(cases c;done))
         exact⟨⟨((x.drop 1,y),bo++[x.getD 0 (0,0)],V,k),A6N i f E⟩,by simp only[AAr];omega,eW [(1,.nm 1),(2,.nm 2),(3,.nm 3),(4,.nm 4),(5,.nm 5),(6,.nm 6),(7,.nm 7),(11,.nm 11)]⟩
   ·have l:y.length≠0:=fun e=>c.1 (by rw[e];rfl);have C:0<y.length:=ABe l;refine⟨fun h=>OR.2 C,fun h=>?_⟩
    ·rw[bY,AB8]at h;have l:x.length≠0:=fun e=>h (by rw[e];rfl);exact OR.2 (ABe l)
   ·have g:0<y.length:=ABe fun e=>(by assumption:¬_∧_).1 (by rw[e];rfl);have j:x.length=0∨(y.getD 0 (0,0)).1<(x.getD 0 (0,0)).1:=by
     rcases c with c|c
     ·exact .inl (ACq c)
     ·exact .inr c
    refine B3 drawsAny d 9 [([0,1,2,3,4],5),([],8)] [6,7] (by kernel_rfl) (Ls ?_ ?_)
    ·exact⟨OR.2 g,f8.2 g⟩
    ·refine Ns d [11] ?_ ?_
     ·simp only[AO];omega
     ·refine Ls ?_ ?_
      ·exact f8.2 g
      ·refine Ns d [] ?_ ?_
       ·trivial
       ·refine Pp d ?_ ?_ ?_
        ·exact f8.2 g
        ·trivial
        ·repeat'(first|exact trivial|refine eS rfl ?_|refine AB ?_|refine rX d ?_ ?_|refine rC ?_ ?_<;>intro c<;>try(cases c;done))
         exact⟨⟨((x,y.drop 1),bo++[y.getD 0 (0,0)],V,k),A6O i g j⟩,by simp only[AAr];omega,eW [(1,.nm 1),(2,.nm 2),(3,.nm 3),(4,.nm 4),(5,.nm 5),(6,.nm 6),(7,.nm 7),(11,.nm 11)]⟩
   ·rename_i j;have f:0<x.length:=ABe fun e=>c.1 (by rw[e];rfl);have g:0<y.length:=ABe fun e=>j.1 (by rw[e];rfl);refine⟨OR.2 f,OR.2 g,?_⟩;simp only[AO];omega
   ·rename_i j;have f:0<x.length:=ABe fun e=>c.1 (by rw[e];rfl);have g:0<y.length:=ABe fun e=>j.1 (by rw[e];rfl);have F:(x.getD 0 (0,0)).1=(y.getD 0 (0,0)).1:=Int.le_antisymm c.2 (j.2 (OR.2 f));refine B3 drawsAny d 12 [([0,1,2,3,4],5),([],10),([6,7],11)] [8,9] (by kernel_rfl) (Ls ?_ ?_)
    ·exact⟨OR.2 f,f8.2 f,f8.2 g⟩
    ·refine Ns d [11] ?_ ?_
     ·simp only[AO];omega
     ·refine Ls ?_ ?_
      ·exact⟨f8.2 f,f8.2 g⟩
      ·refine Ns d [] ?_ ?_
       ·trivial
       ·refine Ls ?_ ?_
        ·exact⟨f8.2 f,f8.2 g⟩
        ·refine Ns d [] ?_ ?_
         ·trivial
         ·refine Pp d ?_ ?_ ?_
          ·exact f8.2 g
          ·trivial
          ·repeat'(first|exact trivial|refine eS rfl ?_|refine AB ?_|refine rX d ?_ ?_|refine rC ?_ ?_<;>intro c<;>try(cases c;done))
           exact⟨⟨((x.drop 1,y.drop 1),bo++[x.getD 0 (0,0)],V.take k++[((x.getD 0 (0,0)).2,(y.getD 0 (0,0)).2)],k+1),A5b i f g F⟩,by simp only[AAr];omega,eW [(1,.nm 1),(2,.nm 2),(3,.nm 3),(4,.nm 4),(5,.nm 5),(6,.nm 6),(7,.nm 7),(11,.nm 11)]⟩
   ·exact⟨a0,q⟩
   ·have f:x=[]:=nO (by omega);have g:y=[]:=nO (by omega);subst f g;have u:=i.both;have w:=i.wait;simp only[Bz,AAh]at u w;refine Ev.ent (σ':=⟨[(6,.p .bool true)],mgO h (p.set b.toNat a) (ty.set a.toNat t) (ar.set a.toNat bo) V k⟩) ?_ (AC [(1,.nm 1),(2,.nm 2),(3,.nm 3),(4,.nm 4),(5,.nm 5),(6,.nm 6),(7,.nm 7)] rfl rfl ?_ ?_)
    ·exact fM d [.tmp 6] (.p .bool true) eT (.inr ⟨by assumption,rfl,V,k,v,w,by rw[u];rfl⟩)
    ·unfold mgO;simp only[AAm];exact eN
    ·exact eN
end
theorem Lc {h:AJ} (hk:HW h) {a b c:Int} (a0:0≤a) (d:a<(h.1.length:Int)) (e:0≤b) (b1:b<(h.1.length:Int)) (c0:0≤c) (c1:c<(h.1.length:Int)) (h1:A6 h a b=true) (f:A6 h b c=true):A6 h a c=true :=
 (BO hk a0 d c0 c1).2 fun i hi=>(BO hk a0 d e b1).1 h1 i ((BO hk e b1 c0 c1).1 f i hi)
theorem Qd:∀ {x y:List (Int×Int)} {a:Int×Int},a∈x→a∈(Bz x y).1
 | [],_,_,h=>by cases h
 | b :: x,[],a,h=>by simpa[Bz] using h
 | b :: x,c :: y,a,h=>by
  rw[Bz];split
  ·rcases By.1 h with rfl|h
   ·simp
   ·exact If _ (Qd h)
  ·split
   ·exact If _ (Qd h)
   ·rcases By.1 h with rfl|h
    ·simp
    ·exact If _ (Qd h)
termination_by x y=>x.length+y.length
theorem NS:∀ {x y:List (Int×Int)} {a:Int×Int},a∈y→a∈(Bz x y).1∨∃t,(a.1,t)∈(Bz x y).1∧(t,a.2)∈(Bz x y).2
 | [],y,a,h=>by
  left;simpa[Bz] using h
 | b :: x,[],a,h=>by cases h
 | b :: x,c :: y,a,h=>by
  rw[Bz];split
  ·rcases NS (x:=x) h with g|⟨t,d,e⟩
   ·exact .inl (If _ g)
   ·exact .inr ⟨t,If _ d,e⟩
  ·split
   ·rcases By.1 h with rfl|h
    ·left;simp
    ·rcases NS (x:=b :: x) h with g|⟨t,d,e⟩
     ·exact .inl (If _ g)
     ·exact .inr ⟨t,If _ d,e⟩
   ·rcases By.1 h with rfl|h
    ·right;exact⟨b.2,by rw[show a.1=b.1 by omega];simp,by simp⟩
    ·rcases NS (x:=x) h with g|⟨t,d,e⟩
     ·exact .inl (If _ g)
     ·exact .inr ⟨t,If _ d,If _ e⟩
termination_by x y=>x.length+y.length
theorem Ji:∀ {x y:List (Int×Int)} {a:Int×Int},a∈(Bz x y).1→a∈x∨a∈y
 | [],y,a,h=>by
  right;simpa[Bz] using h
 | b :: x,[],a,h=>by
  left;simpa[Bz] using h
 | b :: x,c :: y,a,h=>by
  rw[Bz]at h;split at h
  ·rcases By.1 h with rfl|h
   ·left;simp
   ·rcases Ji h with g|g
    ·exact .inl (If _ g)
    ·exact .inr g
  ·split at h
   ·rcases By.1 h with rfl|h
    ·right;simp
    ·rcases Ji h with g|g
     ·exact .inl g
     ·exact .inr (If _ g)
   ·rcases By.1 h with rfl|h
    ·left;simp
    ·rcases Ji h with g|g
     ·exact .inl (If _ g)
     ·exact .inr (If _ g)
termination_by x y=>x.length+y.length
theorem Qf:∀ {x y:List (Int×Int)} {q:Int×Int},q∈(Bz x y).2→∃e,(e,q.1)∈x∧(e,q.2)∈y
 | [],y,q,h=>by simp[Bz]at h
 | b :: x,[],q,h=>by simp[Bz]at h
 | b :: x,c :: y,q,h=>by
  rw[Bz]at h;split at h
  ·obtain⟨e,h1,a⟩:=Qf h;exact⟨e,If _ h1,a⟩
  ·split at h
   ·obtain⟨e,h1,a⟩:=Qf h;exact⟨e,h1,If _ a⟩
   ·rcases By.1 h with rfl|h
    ·exact⟨b.1,by simp,by rw[show b.1=c.1 by omega];simp⟩
    ·obtain⟨e,h1,a⟩:=Qf h;exact⟨e,If _ h1,If _ a⟩
termination_by x y=>x.length+y.length
theorem TT:∀ {x y:List (Int×Int)},(Bz x y).2.length≤x.length
 | [],y=>by simp[Bz]
 | b :: x,[]=>by simp[Bz]
 | b :: x,c :: y=>by
  rw[Bz];split
  ·have:=TT (x:=x) (y:=c :: y);simp only[OF];omega
  ·split
   ·exact TT (x:=b :: x) (y:=y)
   ·have:=TT (x:=x) (y:=y);simp only[OF];omega
termination_by x y=>x.length+y.length
abbrev Vk (l:List (Int×Int)):Prop:=l.Pairwise (fun a b=>a.1<b.1)
theorem TU:∀ {x y:List (Int×Int)},Vk x→Vk y→Vk (Bz x y).1
 | [],y,_,h=>by simpa[Bz] using h
 | b :: x,[],h,_=>by simpa[Bz] using h
 | b :: x,c :: y,i,j=>by
  have d:=AAx.1 i;have e:=AAx.1 j;rw[Bz];split
  ·rename_i f;refine AAx.2 ⟨fun a ha=>?_,TU d.2 j⟩;rcases Ji ha with g|g
   ·exact d.1 a g
   ·rcases By.1 g with rfl|g
    ·exact f
    ·have:=e.1 a g;omega
  ·split
   ·rename_i f;refine AAx.2 ⟨fun a ha=>?_,TU i e.2⟩;rcases Ji ha with g|g
    ·rcases By.1 g with rfl|g
     ·exact f
     ·have:=d.1 a g;omega
    ·exact e.1 a g
   ·refine AAx.2 ⟨fun a ha=>?_,TU d.2 e.2⟩;rcases Ji ha with g|g
    ·exact d.1 a g
    ·have:=e.1 a g;omega
termination_by x y=>x.length+y.length
theorem A5c {p:List Int} {m:Int→Nat} (hp:Fo p m) {a b:Int} (a0:0≤a) (c:0≤b) (b1:b<(p.length:Int)) (ha:Du p a=a) (j:Du p b=b) (f:a≠b) {x r:Int} (d:0≤x) (o:x<(p.length:Int)) (h:Rt p x r):Rt (p.set b.toNat a) x (if r=b then a else r):=by
 have k:Rt (p.set b.toNat a) a a:=.base (by rw[DH c b1 a a0,At f];exact ha);induction h with
 | @base n hn =>
  split
  ·rename_i e;rw[e];exact .step (by rw[DH c b1 b c,BY rfl];exact f) (by rw[DH c b1 b c,BY rfl];exact k)
  ·rename_i e;exact .base (by rw[DH c b1 n d,At e];exact hn)
 | @step n r hn _ l =>
  have g:n≠b:=fun e=>hn (e▸j);have i:=hp.rng n d o;exact .step (by rw[DH c b1 n d,At g];exact hn) (by rw[DH c b1 n d,At g];exact l i.1 i.2)
theorem A5d {p:List Int} {c:Int→Nat} (hp:Fo p c) {a b:Int} (a0:0≤a) (h:a<(p.length:Int)) (d:0≤b) (b1:b<(p.length:Int)) (ha:Du p a=a) (k:Du p b=b) (j:a≠b):∃m,Fo (p.set b.toNat a) m:=by
 classical
 refine⟨fun x=>if Rt p x b then c x+c a+1 else c x,fun n n0 n1=>?_,fun n n0 n1 hn=>?_⟩
 ·rw[AAm]at n1 ⊢;rw[DH d b1 n n0];split
  ·exact⟨a0,h⟩
  ·exact hp.rng n n0 n1
 ·rw[AAm]at n1;rw[DH d b1 n n0]at hn ⊢;by_cases e:n=b
  ·subst e;rw[BY rfl];have h1:¬Rt p a n:=fun g=>j (g.det (.base ha)).symm;rw[At h1,BY (.base k)];omega
  ·rw[At e]at hn ⊢;have l:=hp.dec n n0 n1 hn;have f:Rt p n b↔Rt p (Du p n) b:=by
    constructor
    ·intro g;cases g with
     | base g=>exact absurd g hn
     | step _ g=>exact g
    ·exact fun g=>.step hn g
   by_cases g:Rt p n b
   ·rw[BY g,BY (f.1 g)];omega
   ·rw[At g,At (fun i=>g (f.2 i))];exact l
inductive EG (n:Nat) (p:List Int) (W:List (Int×Int)):Int→Int→Prop
 | cls {x y r:Int} (x0:0≤x) (x1:x<(n:Int)) (y0:0≤y) (y1:y<(n:Int)) (h:Rt p x r) (g:Rt p y r):EG n p W x y
 | wt {x y:Int} (h:(x,y)∈W):EG n p W x y
 | symm {x y:Int} (h:EG n p W x y):EG n p W y x
 | trans {x y z:Int} (h:EG n p W x y) (g:EG n p W y z):EG n p W x z
theorem EG.mono {n:Nat} {p q:List Int} {W V:List (Int×Int)} (h1:∀x y r,0≤x→x<(n:Int)→0≤y→y<(n:Int)→Rt p x r→Rt p y r→EG n q V x y) (a:∀x y,(x,y)∈W→EG n q V x y) {x y:Int} (h:EG n p W x y):EG n q V x y:=by
 induction h with
 | cls e f i j h g=>exact h1 _ _ _ e f i j h g
 | wt h=>exact a _ _ h
 | symm _ b=>exact .symm b
 | trans _ _ c d=>exact .trans c d
structure sQ (h:AJ) (N:List AE) (P:List (Int×Int)) (X:List AE) (v:Int→Int):Prop where
 rng:∀x,0≤x→x<(N.length:Int)→0≤v x∧v x<(X.length:Int)
 ty:∀x,0≤x→x<(N.length:Int)→A6 h (N.getD x.toNat (0,[])).1 (X.getD (v x).toNat (0,[])).1=true
 arc:∀x,0≤x→x<(N.length:Int)→∀a∈Ap N x,Qc (Ap X (v x)) a.1=v a.2
 eq:∀q∈P,v q.1=v q.2
structure JX (h:AJ) (X:List AE) (v:Int→Int) (n:Nat) (p ty:List Int) (ar:List (List (Int×Int))) (W:List (Int×Int)):Prop where
 cls:∀x r,0≤x→x<(n:Int)→Rt p x r→v x=v r
 wt:∀w∈W,v w.1=v w.2
 ty:∀r,0≤r→r<(n:Int)→Du p r=r→A6 h (ty.getD r.toNat 0) (X.getD (v r).toNat (0,[])).1=true
 arc:∀r,0≤r→r<(n:Int)→Du p r=r→∀a∈ar.getD r.toNat [],Qc (Ap X (v r)) a.1=v a.2
def Ds (N:List AE):List Int:=N.flatMap fun x=>x.2.map (·.1)
structure JI (h:AJ) (N:List AE) (P:List (Int×Int)) (p ty:List Int) (ar:List (List (Int×Int))) (W:List (Int×Int)):Prop where
 nty:I5 h N
 fo:∃rk,Fo p rk
 lp:p.length=N.length
 lt:ty.length=N.length
 la:ar.length=N.length
 wr:∀w∈W,(0≤w.1∧w.1<(N.length:Int))∧(0≤w.2∧w.2<(N.length:Int))
 tyr:∀x,0≤x→x<(N.length:Int)→0≤ty.getD x.toNat 0∧ty.getD x.toNat 0<(h.1.length:Int)
 arr:∀k,∀a∈ar.getD k [],(0≤a.2∧a.2<(N.length:Int))∧a.1∈Ds N
 srt:∀k,Vk (ar.getD k [])
 sp:∀q∈P,EG N.length p W q.1 q.2
 st:∀x r,0≤x→x<(N.length:Int)→Rt p x r→A6 h (N.getD x.toNat (0,[])).1 (ty.getD r.toNat 0)=true
 sa:∀x r,0≤x→x<(N.length:Int)→Rt p x r→∀a∈Ap N x,∃t,(a.1,t)∈ar.getD r.toNat []∧EG N.length p W a.2 t
 co:∀X v,I5 h X→sQ h N P X v→JX h X v N.length p ty ar W
theorem GJ {p:List Int} {a:Int→Nat} (hp:Fo p a) {x r:Int} (c:0≤x) (d:x<(p.length:Int)) (h:Rt p x r):0≤r∧r<(p.length:Int):=by
 obtain⟨s,hs,b,s1⟩:=hp.root c d;rw[h.det hs];exact⟨b,s1⟩
theorem Rd {p q:List Int} (h:E4 p q) {r:Int} (a:0≤r) (b:r<(p.length:Int)):Du p r=r↔Du q r=r :=
 ⟨fun e=>((h.2 r r a b).1 (.base e)).root,fun e=>((h.2 r r a b).2 (.base e)).root⟩
theorem A5e {h:AJ} {N:List AE} {P:List (Int×Int)} {p q ty:List Int} {ar:List (List (Int×Int))} {W:List (Int×Int)} (hs:E4 p q) (k:∃A,Fo q A) (w:JI h N P p ty ar W):JI h N P q ty ar W:=by
 obtain⟨nty,fo,lp,lt,la,wr,tyr,arr,srt,sp,st,sa,co⟩:=w;have e:∀x r,0≤x→x<(N.length:Int)→(Rt p x r↔Rt q x r):=fun x r b c=>hs.2 x r b (by rw[lp];exact c);have l:∀ {x y},EG N.length p W x y→EG N.length q W x y:=fun {x y} g=>g.mono (fun x y r b c m n h1 j=>.cls b c m n ((e x r b c).1 h1) ((e y r m n).1 j)) (fun _ _ h=>.wt h);refine⟨nty,k,by rw[←hs.1];exact lp,lt,la,wr,tyr,arr,srt,fun q k=>l (sp q k),fun x r b c d=>st x r b c ((e x r b c).2 d),fun x r b c d a ha=>?_,fun X v u z=>?_⟩
 ·obtain⟨t,h1,j⟩:=sa x r b c ((e x r b c).2 d) a ha;exact⟨t,h1,l j⟩
 ·obtain⟨c1,c2,o,s⟩:=co X v u z;exact⟨fun x r b c d=>c1 x r b c ((e x r b c).2 d),c2,fun r f i d=>o r f i ((Rd hs f (by rw[lp];exact i)).2 d),fun r f i d=>s r f i ((Rd hs f (by rw[lp];exact i)).2 d)⟩
section
variable {h:AJ} {N:List AE} {P:List (Int×Int)} {p ty:List Int} {ar:List (List (Int×Int))} {W:List (Int×Int)} {s t a b:Int}
theorem A5f (n:JI h N P p ty ar (W++[(s,t)])) (hs:Rt p s a) (A:Rt p t a):JI h N P p ty ar W:=by
 obtain⟨nty,fo,lp,lt,la,wr,tyr,arr,srt,sp,st,sa,co⟩:=n;have b:=wr (s,t) (by simp);have j:∀ {x y},EG N.length p (W++[(s,t)]) x y→EG N.length p W x y:=fun {x y} g=>g.mono (fun x y r f i C D h1 d=>.cls f i C D h1 d) (fun x y c=>by
  rcases Of.1 c with c|c
  ·exact .wt c
  ·have e:(x,y)=(s,t):=by simpa using c
   cases e;exact .cls b.1.1 b.1.2 b.2.1 b.2.2 hs A)
 refine⟨nty,fo,lp,lt,la,fun w b=>wr w (AAp _ b),tyr,arr,srt,fun q o=>j (sp q o),st,fun x r f i z a ha=>?_,fun X v m B=>?_⟩
 ·obtain⟨u,h1,d⟩:=sa x r f i z a ha;exact⟨u,h1,j d⟩
 ·obtain⟨c1,c2,k,l⟩:=co X v m B;exact⟨c1,fun w b=>c2 w (AAp _ b),k,l⟩
theorem sR (hk:HW h) (c:JI h N P p ty ar (W++[(s,t)])) (hs:Rt p s a) (g:Rt p t b) {X:List AE} {v:Int→Int} (o:I5 h X) (q:sQ h N P X v) :
  v a=v b∧(CD h (ty.getD a.toNat 0) (ty.getD b.toNat 0)).2=true∧A6 h (CD h (ty.getD a.toNat 0) (ty.getD b.toNat 0)).1 (X.getD (v a).toNat (0,[])).1=true:=by
 obtain⟨D,fo⟩:=c.fo;obtain⟨⟨i,s1⟩,j,l⟩:=c.wr (s,t) (by simp);simp only at i s1 j l;have d:=GJ fo i (by rw[c.lp];exact s1) hs;have f:=GJ fo j (by rw[c.lp];exact l) g;rw[c.lp]at d f;obtain⟨c1,c2,m,B⟩:=c.co X v o q;have u:=c1 s a i s1 hs;have w:=c1 t b j l g;have x:v s=v t:=c2 (s,t) (by simp);have e:v a=v b:=by rw[←u,←w,x]
 have y:=m a d.1 d.2 hs.root;have n:=m b f.1 f.2 g.root;rw[←e]at n;have C:=q.rng a d.1 d.2;have r:=o _ (AD X (0,[]) (k:=(v a).toNat) (by omega));have ta:=c.tyr a d.1 d.2;have tb:=c.tyr b f.1 f.2;obtain⟨z,A⟩:=(Mk hk ta.1 ta.2 tb.1 tb.2).2 _ r.1 r.2 y n;exact⟨e,z,A⟩
theorem YK {α:Type} {l:List α} {d v:α} {a r:Int} (a0:0≤a) (b:a<(l.length:Int)) (c:0≤r):(l.set a.toNat v).getD r.toNat d=if r=a then v else l.getD r.toNat d:=by
 by_cases e:r=a
 ·subst e;rw[BY rfl,Nz _ _ _ (by omega)]
 ·rw[At e,getD_set_ne _ _ _ (by omega)]
theorem A2H (hk:HW h) (al:JI h N P p ty ar (W++[(s,t)])) (hs:Rt p s a) (V:Rt p t b) (T:a≠b) (aq:(CD h (ty.getD a.toNat 0) (ty.getD b.toNat 0)).2=true) :
  JI h N P (p.set b.toNat a) (ty.set a.toNat (CD h (ty.getD a.toNat 0) (ty.getD b.toNat 0)).1) (ar.set a.toNat (Bz (ar.getD a.toNat []) (ar.getD b.toNat [])).1) (W++(Bz (ar.getD a.toNat []) (ar.getD b.toNat [])).2):=by
 have au:=fun X v S Z=>sR (X:=X) (v:=v) hk al hs V S Z;obtain⟨nty,⟨bb,fo⟩,lp,lt,la,wr,tyr,arr,srt,sp,st,sa,co⟩:=al;obtain⟨⟨aa,s1⟩,ab,ad⟩:=wr (s,t) (by simp);simp only at aa s1 ab ad;have A:=GJ fo aa (by rw[lp];exact s1) hs;have C:=GJ fo ab (by rw[lp];exact ad) V;have ha:=hs.root;have U:=V.root;have O:=fun {x r:Int} (c:0≤x) (i:x<(N.length:Int)) (F:Rt p x r)=>A5c fo A.1 C.1 C.2 ha U T c (by rw[lp];exact i) F;have ah:∀ {x r:Int},0≤x→x<(N.length:Int)→Rt (p.set b.toNat a) x r→∃z,Rt p x z∧r=if z=b then a else z:=fun {x r} c i F=>by
  obtain⟨z,h1,-,-⟩:=fo.root c (by rw[lp];exact i);exact⟨z,h1,F.det (O c i h1)⟩
 have ta:=tyr a A.1 (by rw[←lp];exact A.2);have tb:=tyr b C.1 (by rw[←lp];exact C.2);obtain⟨aj,ak,ay,az⟩:=(Mk hk ta.1 ta.2 tb.1 tb.2).1 aq;generalize ba:(CD h (ty.getD a.toNat 0) (ty.getD b.toNat 0)).1=m at *;generalize G:ar.getD a.toNat []=xs at *;generalize H:ar.getD b.toNat []=ys at *;have aw:EG N.length (p.set b.toNat a) (W++(Bz xs ys).2) s t:=by
  have h1:=O aa s1 hs;have E:=O ab ad V;rw[At T]at h1;rw[BY rfl]at E;exact .cls aa s1 ab ad h1 E
 have L:∀ {x y},EG N.length p (W++[(s,t)]) x y→EG N.length (p.set b.toNat a) (W++(Bz xs ys).2) x y:=fun {x y} g=>g.mono (fun x y r c i an ao h1 E=>.cls c i an ao (O c i h1) (O an ao E)) (fun x y Q=>by
  rcases Of.1 Q with Q|Q
  ·exact .wt (AAp _ Q)
  ·have e:(x,y)=(s,t):=by simpa using Q
   cases e;exact aw)
 have Y:=fun {r:Int} (B:0≤r)=>YK (l:=ty) (d:=0) (v:=m) A.1 (by rw[lt,←lp];exact A.2) B;have M:=fun {r:Int} (B:0≤r)=>YK (l:=ar) (d:=[]) (v:=(Bz xs ys).1) A.1 (by rw[la,←lp];exact A.2) B;refine⟨nty,A5d fo A.1 A.2 C.1 C.2 ha U T,by rw[AAm];exact lp,by rw[AAm];exact lt,by rw[AAm];exact la,fun w D=>?_,fun x c i=>?_,fun k y j=>?_,fun k=>?_,fun q av=>L (sp q av),fun x r c i o=>?_,fun x r c i o y j=>?_,fun X v S Z=>?_⟩
 ·rcases Of.1 D with D|D
  ·exact wr w (AAp _ D)
  ·obtain⟨e,K,n⟩:=Qf D;rw[←G]at K;rw[←H]at n;exact⟨(arr _ _ K).1,(arr _ _ n).1⟩
 ·rw[Y c];split
  ·exact⟨aj,ak⟩
  ·exact tyr x c i
 ·have h1:=M (r:=(k:Int)) (by omega);rw[iN]at h1;rw[h1]at j;split at j
  ·rcases Ji j with j|j
   ·rw[←G]at j;exact arr _ _ j
   ·rw[←H]at j;exact arr _ _ j
  ·exact arr _ _ j
 ·have h1:=M (r:=(k:Int)) (by omega);rw[iN]at h1;rw[h1];split
  ·exact TU (by rw[←G];exact srt _) (by rw[←H];exact srt _)
  ·exact srt k
 ·obtain⟨z,h1,rfl⟩:=ah c i o;have F:=nty _ (AD N (0,[]) (k:=x.toNat) (by omega));have ai:=GJ fo c (by rw[lp];exact i) h1;by_cases e:z=b
  ·rw[BY e,Y A.1,BY rfl];exact Lc hk F.1 F.2 tb.1 tb.2 aj ak (by rw[←e];exact st x z c i h1) az
  ·rw[At e,Y ai.1];split
   ·rename_i n;exact Lc hk F.1 F.2 ta.1 ta.2 aj ak (by rw[←n];exact st x z c i h1) ay
   ·exact st x z c i h1
 ·obtain⟨z,h1,rfl⟩:=ah c i o;have ai:=GJ fo c (by rw[lp];exact i) h1;obtain⟨u,R,ae⟩:=sa x z c i h1 y j;by_cases e:z=b
  ·rw[BY e,M A.1,BY rfl];rw[e,H]at R;rcases NS (x:=xs) R with g|⟨w,af,ag⟩
   ·exact⟨u,g,L ae⟩
   ·exact⟨w,af,.trans (L ae) (.symm (.wt (ABa _ ag)))⟩
  ·rw[At e,M ai.1];split
   ·rename_i n;rw[n,G]at R;exact⟨u,Qd R,L ae⟩
   ·exact⟨u,R,L ae⟩
 ·obtain⟨c1,c2,ap,J⟩:=co X v S Z;obtain⟨e,-,ax⟩:=au X v S Z;have am:∀r,0≤r→r<(N.length:Int)→Du (p.set b.toNat a) r=r→r≠b∧Du p r=r:=fun r B I o=>by
   rw[DH C.1 C.2 r B]at o;split at o
   ·rename_i e;rw[e]at o;exact absurd o T
   ·rename_i e;exact⟨e,o⟩
  refine⟨fun x r c i o=>?_,fun w D=>?_,fun r B I o=>?_,fun r B I o y j=>?_⟩
  ·obtain⟨z,h1,rfl⟩:=ah c i o;have:=c1 x z c i h1;split
   ·rename_i n;rw[this,n,e]
   ·exact this
  ·rcases Of.1 D with D|D
   ·exact c2 w (AAp _ D)
   ·obtain⟨f,K,n⟩:=Qf D;rw[←G]at K;rw[←H]at n;have af:=J a A.1 (by rw[←lp];exact A.2) ha _ K;have ag:=J b C.1 (by rw[←lp];exact C.2) U _ n;rw[←af,←ag,e]
  ·obtain⟨-,E⟩:=am r B I o;rw[Y B];split
   ·rename_i n;rw[n];exact ax
   ·exact ap r B I E
  ·obtain⟨-,E⟩:=am r B I o;rw[M B]at j;split at j
   ·rename_i n;rw[n];rcases Ji j with j|j
    ·exact J a A.1 (by rw[←lp];exact A.2) ha y (by rw[G];exact j)
    ·rw[e];exact J b C.1 (by rw[←lp];exact C.2) U y (by rw[H];exact j)
   ·exact J r B I E y j
end
theorem jY {l:List Nat} {f g:Nat→Bool} {b:Nat} (hn:l.Nodup) (c:b∈l) (h1:f b=true) (d:g b=false) (h:∀x∈l,x≠b→g x=f x):(l.filter g).length+1=(l.filter f).length:=by
 induction l with
 | nil=>cases c
 | cons x l m =>
  obtain⟨k,j⟩:=AAt.1 hn;by_cases e:x=b
  ·subst e;have:l.filter g=l.filter f:=List.filter_congr fun y a=>h y (by simp[a]) (fun e=>k (e▸a));rw[AAn,AAn,At (by rw[d];simp),BY h1,this];rfl
  ·have i:b∈l:=by
    rcases By.1 c with g|g
    ·exact absurd g.symm e
    ·exact g
   have n:=m j i (fun y a=>h y (by simp[a]));rw[AAn,AAn,h x (by simp) e];split
   ·simp only[OF];omega
   ·exact n
def nR (p:List Int):Nat:=((List.range p.length).filter fun k=>p.getD k 0==(k:Int)).length
theorem A9A (p:List Int):nR p≤p.length:=by
 have:=AAK (fun k=>p.getD k 0==(k:Int)) (List.range p.length);rw[ABI]at this;exact this
theorem sS {p q:List Int} (h:E4 p q):nR q=nR p:=by
 unfold nR;rw[←h.1];refine AB6 List.length (List.filter_congr fun k hk=>?_);have a:=oN.1 hk;have:=Rd h (r:=(k:Int)) (by omega) (by omega);unfold Du at this;rw[iN]at this;rw[ABx,AAq,AAq];exact this.symm
theorem A5g {p:List Int} {a b:Int} (d:0≤b) (b1:b<(p.length:Int)) (c:Du p b=b) (e:a≠b):nR (p.set b.toNat a)+1=nR p:=by
 unfold nR;rw[AAm];refine jY (b:=b.toNat) List.nodup_range (oN.2 (by omega)) ?_ ?_ fun x _ f=>?_
 ·rw[AAq];unfold Du at c;omega
 ·rw[Nz _ _ _ (by omega),AB8];omega
 ·rw[getD_set_ne _ _ _ (by omega)]
theorem Re {α:Type} [DecidableEq α]:∀ {l l':List α},l.Nodup→(∀x∈l,x∈l')→l.length≤l'.length
 | [],_,_,_=>by simp
 | x :: l,l',hn,h=>by
  obtain⟨d,c⟩:=AAt.1 hn;have a:=h x (by simp);have:=Re (l:=l) (l':=l'.erase x) c (fun y b=>(ACo (fun e:y=x=>d (by rw[←e];exact b))).2 (h y (by simp[b])));rw[List.length_erase_of_mem a]at this;have:=AC8 a;simp only[OF];omega
theorem sT {l:List (Int×Int)} (h:Vk l) {S:List Int} (hs:∀a∈l,a.1∈S):l.length≤S.length:=by
 have hn:(l.map (·.1)).Nodup:=by
  unfold List.Nodup;rw[AAR];exact h.imp fun g=>by omega
 have:=Re hn (l':=S) (fun x b=>by
  obtain⟨a,ha,rfl⟩:=GO.1 b;exact hs a ha)
 rwa [To]at this
theorem A2I {h:AJ} {N:List AE} {P:List (Int×Int)} {p ty:List Int} {ar:List (List (Int×Int))} (t:JI h N P p ty ar []) {a b:Int} (ha:0≤a∧a<(N.length:Int)) (s:0≤b∧b<(N.length:Int)):JI h N (P++[(a,b)]) p ty ar [(a,b)]:=by
 obtain⟨nty,fo,lp,lt,la,wr,tyr,arr,srt,sp,st,sa,co⟩:=t;have l:∀ {x y},EG N.length p [] x y→EG N.length p [(a,b)] x y:=fun {x y} g=>g.mono (fun x y r j k C D h1 f=>.cls j k C D h1 f) (fun x y A=>by cases A);refine⟨nty,fo,lp,lt,la,fun w i=>?_,tyr,arr,srt,fun q c=>?_,st,fun x r j k z y B=>?_,fun X v o d=>?_⟩
 ·have e:w=(a,b):=by simpa using i
  subst e;exact⟨ha,s⟩
 ·rcases Of.1 c with c|c
  ·exact l (sp q c)
  ·have e:q=(a,b):=by simpa using c
   subst e;exact .wt (by simp)
 ·obtain⟨u,h1,f⟩:=sa x r j k z y B;exact⟨u,h1,l f⟩
 ·obtain⟨c1,c2,m,n⟩:=co X v o ⟨d.rng,d.ty,d.arc,fun q c=>d.eq q (AAp _ c)⟩;refine⟨c1,fun w i=>?_,m,n⟩;have e:w=(a,b):=by simpa using i
  subst e;exact d.eq _ (by simp)
def sU (h:AJ) (p ty:List Int) (ar:List (List (Int×Int))):List (Nat×Obj):=[(101,.box 130 true [.p GN h,.sr 102 T3 0 p.length,.sr 103 T3 0 ty.length,.sr 104 Cl 0 ar.length]),(102,.arr 3 T3 p),(103,.arr 3 T3 ty),(104,.arr 47 Cl ar)]
theorem A5h (h:AJ) (hk:HW h) {N:List AE} {P:List (Int×Int)} {p ty:List Int} {ar:List (List (Int×Int))} (Y:JI h N P p ty ar []) {a b:Int} (ha:0≤a∧a<(N.length:Int)) (ah:0≤b∧b<(N.length:Int)) (af:N.length≤10000) (hF:(Ds N).length≤1000000) :
  BA Tryz.prog 83 [.bp 101 [] 0,.p T3 a,.p T3 b] (sU h p ty ar) [101]
  (fun res M=>(res=.p .bool true∧∃B H u,M=sU h B H u∧JI h N (P++[(a,b)]) B H u [])∨(res=.p .bool false∧(∃B H u,M=sU h B H u)∧∀X v,I5 h X→¬sQ h N (P++[(a,b)]) X v)):=by
 refine J1 [0,1,2,3,6,7,8,9,10,11,19,48] [] [] Tryz.func83 Tryz.ntmps83 AG ?_;intro w0 K O0 ρ0 e ba bb;have hh:h.1.length≤100000:=TO hk.2 (by omega);have ai:∀x∈h.1,x.2.1.length≤100000:=fun x av=>TO (hk.1.wid x.2.1 (GO.2 ⟨x,av,rfl⟩)) (by omega);have aj:=A2I Y ha ah;generalize az:P++[(a,b)]=Q at *;have ay:N.length*((Ds N).length+1)≤10000*1000001:=Nat.mul_le_mul af (by omega);simp only[sU,Ah];repeat'(first|exact trivial|refine eS rfl ?_|refine AB ?_|refine rX e ?_ ?_|refine rC ?_ ?_<;>intro g<;>try(cases g;done))
 refine AH (ι:={s:(List Int×List Int×List (List (Int×Int)))×(List (Int×Int)×Nat)//JI h N Q s.1.1 s.1.2.1 s.1.2.2 (s.2.1.take s.2.2)∧s.2.2≤s.2.1.length∧nR s.1.1*((Ds N).length+1)+s.2.2≤N.length*((Ds N).length+1)+1}) (fun s=>⟨[(3,.bp 3 [] 0),(7,.bp 7 [] 0),(8,.clo 117 [3,7])],[(101,.box 130 true [.p GN h,.sr 102 T3 0 s.1.1.1.length,.sr 103 T3 0 s.1.1.2.1.length,.sr 104 Cl 0 s.1.1.2.2.length]),(102,.arr 3 T3 s.1.1.1),(103,.arr 3 T3 s.1.1.2.1),(104,.arr 47 Cl s.1.1.2.2),(3,.box 127 false [.bp 101 [] 0]),(7,.box 167 false [.sr 15 J2 0 s.1.2.2]),(15,.arr 166 J2 s.1.2.1)]⟩) (fun s=>nR s.1.1.1*((Ds N).length+1)+s.1.2.2) ⟨((p,ty,ar),([(a,b)],1)),aj,by simp,by have:=oS ((Ds N).length+1) (A9A p);rw[Y.lp]at this;simp only;omega⟩ (eW [(101,.nm 101),(102,.nm 102),(103,.nm 103),(104,.nm 104),(3,.nm 3),(7,.nm 7),(15,.nm 15)]) (fun s=>?_)
 ·obtain⟨⟨⟨q,d,aq⟩,V,k⟩,l,ak,ae⟩:=s;simp only at l ak ae ⊢;repeat'(first|exact trivial|refine eS rfl ?_|refine AB ?_|refine rX e ?_ ?_|refine rC ?_ ?_<;>intro g<;>try(cases g;done))
  ·exact eV
  ·exact eV
  ·have Z:0<k:=OR.1 g;have al:((k:Int)-1).toNat=k-1:=by omega
   have U:=AX V (0,0) (k:=k-1) (by omega);rw[show k-1+1=k by omega]at U;rw[al];generalize bd:V.getD (k-1) (0,0)=st at *;obtain⟨s,t⟩:=st;rw[U]at l;obtain⟨⟨D,s1⟩,F,G⟩:=l.wr (s,t) (by simp);simp only at D s1 F G;obtain⟨O,fo⟩:=l.fo;have C:=l.lp;refine B3 drawsAny e 8 [([0,1,2],3),([4,5,6],7)] [] (by kernel_rfl) (Ls ?_ ?_)
   ·trivial
   ·refine mxC e (Zn h d aq O fo D (by rw[C];exact s1)) [(1,.nm 101),(2,.nm 102),(3,.nm 103),(4,.nm 104)] [102,103,104] ?_ ?_ ?_
    ·exact eN
    ·simp only[YJ];exact eN
    ·rintro _ _ ⟨ab,c,rfl,rfl,ad,E,aw⟩;refine⟨[(101,.nm 1),(102,.nm 2),(103,.nm 3),(104,.nm 4)],.p T3 c,[(101,.box 130 true [.p GN h,.sr 102 T3 0 ab.length,.sr 103 T3 0 d.length,.sr 104 Cl 0 aq.length]),(102,.arr 3 T3 ab),(103,.arr 3 T3 d),(104,.arr 47 Cl aq)],rfl,rfl,?_,?_,rfl,rfl,rfl,?_⟩
     ·simp only[YJ];exact eN
     ·exact eN
     ·refine Ls ?_ ?_
      ·trivial
      ·refine mxC e (Zn h d aq O ad F (by rw[←E.1,C];exact G)) [(1,.nm 101),(2,.nm 102),(3,.nm 103),(4,.nm 104)] [102,103,104] ?_ ?_ ?_
       ·exact eN
       ·simp only[YJ];exact eN
       ·rintro _ _ ⟨i,f,rfl,rfl,J,S,ax⟩;refine⟨[(101,.nm 1),(102,.nm 2),(103,.nm 3),(104,.nm 4)],.p T3 f,[(101,.box 130 true [.p GN h,.sr 102 T3 0 i.length,.sr 103 T3 0 d.length,.sr 104 Cl 0 aq.length]),(102,.arr 3 T3 i),(103,.arr 3 T3 d),(104,.arr 47 Cl aq)],rfl,rfl,?_,?_,rfl,rfl,rfl,?_⟩
        ·simp only[YJ];exact eN
        ·exact eN
        ·refine Pp e ?_ ?_ ?_
         ·trivial
         ·trivial
         ·repeat'(first|exact trivial|refine eS rfl ?_|refine AB ?_|refine rX e ?_ ?_|refine rC ?_ ?_<;>intro g<;>try(cases g;done))
          have j:=A5e (E.trans S) ⟨O,J⟩ l;have R:=E.trans S;have A:=(R.2 s c D (by rw[C];exact s1)).1 aw;have o:=(S.2 t f F (by rw[←E.1,C];exact G)).1 ax;have n:=j.lp;have w:=GJ J D (by rw[n];exact s1) A;have m:=GJ J F (by rw[n];exact G) o;refine evP e 4 ?_ ?_
          ·trivial
          ·by_cases z:c=f
           ·subst z;rw[show (c != c)=false from bne_self_eq_false c];refine rL e ?_ ?_
            ·trivial
            ·repeat'(first|exact trivial|refine eS rfl ?_|refine AB ?_|refine rX e ?_ ?_|refine rC ?_ ?_<;>intro g<;>try(cases g;done))
             have y:=A5f j A o;have hn:=sS R;exact⟨⟨((i,d,aq),V,k-1),y,by simp only;omega,by simp only;rw[hn];omega⟩,by simp only;rw[hn];omega,eW [(101,.nm 101),(102,.nm 102),(103,.nm 103),(104,.nm 104),(3,.nm 3),(7,.nm 7),(15,.nm 15)]⟩
           ·rw[show (c != f)=true by simpa using z];refine rN 3 e ?_ ?_
            ·trivial
            ·have L:=fun r:Int=>sT (j.srt r.toNat) (fun a ha=>(j.arr r.toNat a ha).2);refine clG e (A2G h hh ai i d aq V (k-1) (by omega) (by omega) w.1 w.2 m.1 m.2 (by rw[j.lt,n]) (by rw[j.la,n]) (j.tyr c w.1 (by rw[←n];exact w.2)) (j.tyr f m.1 (by rw[←n];exact m.2)) (TO (L c) (by omega)) (TO (L f) (by omega))) [(1,.nm 101),(2,.nm 102),(3,.nm 103),(4,.nm 104),(5,.nm 3),(6,.nm 7),(7,.nm 15)] [102,103,104,15] ?_ ?_ ?_
             ·exact eN
             ·simp only[mgO];exact eN
             ·rintro res M (⟨I,rfl,rfl⟩|⟨I,rfl,T,W,ap,aa,rfl⟩)
              ·refine⟨[(101,.nm 1),(102,.nm 2),(103,.nm 3),(104,.nm 4),(3,.nm 5),(7,.nm 6),(15,.nm 7)],.p .bool false,[(101,.box 130 true [.p GN h,.sr 102 T3 0 i.length,.sr 103 T3 0 d.length,.sr 104 Cl 0 aq.length]),(102,.arr 3 T3 i),(103,.arr 3 T3 d),(104,.arr 47 Cl aq),(3,.box 127 false [.bp 101 [] 0]),(7,.box 167 false [.sr 15 J2 0 (k-1)]),(15,.arr 166 J2 V)],rfl,rfl,?_,?_,rfl,rfl,?_⟩
               ·simp only[mgO];exact eN
               ·exact eN
               ·refine rL e ?_ ?_
                ·trivial
                ·repeat'(first|exact trivial|refine eS rfl ?_|refine AB ?_|refine rX e ?_ ?_|refine rC ?_ ?_<;>intro g<;>try(cases g;done))
                 refine Ev.ent (σ':=⟨[(6,.p .bool false)],sU h i d aq⟩) ?_ (AC [(101,.nm 101),(102,.nm 102),(103,.nm 103),(104,.nm 104)] rfl rfl ?_ ?_)
                 ·exact fM e [.tmp 6] (.p .bool false) eT (.inr ⟨rfl,⟨i,d,aq,rfl⟩,fun X v ag ao=>by
                   have:=(sR hk j A o ag ao).2.1;rw[I]at this;cases this⟩)
                 ·unfold sU;exact eN
                 ·exact eN
              ·refine⟨[(101,.nm 1),(102,.nm 2),(103,.nm 3),(104,.nm 4),(3,.nm 5),(7,.nm 6),(15,.nm 7)],.p .bool true,[(101,.box 130 true [.p GN h,.sr 102 T3 0 (i.set f.toNat c).length,.sr 103 T3 0 (d.set c.toNat (CD h (d.getD c.toNat 0) (d.getD f.toNat 0)).1).length,.sr 104 Cl 0 (aq.set c.toNat (Bz (aq.getD c.toNat []) (aq.getD f.toNat [])).1).length]),(102,.arr 3 T3 (i.set f.toNat c)),(103,.arr 3 T3 (d.set c.toNat (CD h (d.getD c.toNat 0) (d.getD f.toNat 0)).1)),(104,.arr 47 Cl (aq.set c.toNat (Bz (aq.getD c.toNat []) (aq.getD f.toNat [])).1)),(3,.box 127 false [.bp 101 [] 0]),(7,.box 167 false [.sr 15 J2 0 W]),(15,.arr 166 J2 T)],rfl,rfl,?_,?_,rfl,rfl,?_⟩
               ·simp only[mgO];exact eN
               ·exact eN
               ·refine rL e ?_ ?_
                ·trivial
                ·repeat'(first|exact trivial|refine eS rfl ?_|refine AB ?_|refine rX e ?_ ?_|refine rC ?_ ?_<;>intro g<;>try(cases g;done))
                 have y:=A2H hk j A o z I;rw[←aa]at y;have hn:=sS R;have an:=A5g (a:=c) m.1 m.2 o.root z;have bc:(Bz (aq.getD c.toNat []) (aq.getD f.toNat [])).2.length≤(Ds N).length:=TO TT (L c);have au:=AB6 List.length aa;rw[Do,OS,OS]at au;have am:nR i*((Ds N).length+1)=nR (i.set f.toNat c)*((Ds N).length+1)+((Ds N).length+1):=by rw[←an,ACt,Nat.one_mul]
                 rw[hn]at am;exact⟨⟨((i.set f.toNat c,d.set c.toNat (CD h (d.getD c.toNat 0) (d.getD f.toNat 0)).1,aq.set c.toNat (Bz (aq.getD c.toNat []) (aq.getD f.toNat [])).1),T,W),y,ap,by simp only;omega⟩,by simp only;omega,eW [(101,.nm 101),(102,.nm 102),(103,.nm 103),(104,.nm 104),(3,.nm 3),(7,.nm 7),(15,.nm 15)]⟩
  ·have Z:k=0:=by
    have:=f8.1 g;omega
   subst Z;rw[AAX]at l;refine Ev.ent (σ':=⟨[(6,.p .bool true)],sU h q d aq⟩) ?_ (AC [(101,.nm 101),(102,.nm 102),(103,.nm 103),(104,.nm 104)] rfl rfl ?_ ?_)
   ·exact fM e [.tmp 6] (.p .bool true) eT (.inl ⟨rfl,q,d,aq,rfl,l⟩)
   ·unfold sU;exact eN
   ·exact eN
open Classical in
noncomputable def El (p:List Int) (x:Int):Int:=if h:∃r,Rt p x r then h.choose else x
theorem Zo {p:List Int} {x r:Int} (h:Rt p x r):El p x=r:=by
 unfold El;rw[dif_pos ⟨r,h⟩];exact(Exists.choose_spec (p:=fun r=>Rt p x r) ⟨r,h⟩).det h
theorem Ou {p:List Int} {a:Int→Nat} (hp:Fo p a) {x:Int} (b:0≤x) (c:x<(p.length:Int)):Rt p x (El p x):=by
 obtain⟨r,h,-,-⟩:=hp.root b c;rw[Zo h];exact h
noncomputable def quo (p ty:List Int) (ar:List (List (Int×Int))):List AE:=(List.range p.length).map fun k=>(ty.getD k 0,(ar.getD k []).map fun a=>(a.1,El p a.2))
theorem EC (p ty:List Int) (ar:List (List (Int×Int))):(quo p ty ar).length=p.length:=by simp[quo]
theorem Ld {p ty:List Int} {ar:List (List (Int×Int))} {n:Int} (n0:0≤n) (n1:n<(p.length:Int)):(quo p ty ar).getD n.toNat (0,[])=(ty.getD n.toNat 0,(ar.getD n.toNat []).map fun a=>(a.1,El p a.2)):=by
 unfold quo;rw[AS,AA0,AAF (by omega)];rfl
def Le (len:Nat) (o:List Int):List Int:=(List.range len).map fun(k:Nat)=>if (k:Int)∈o then ((o.idxOf (k:Int):Nat):Int) else -1
theorem Vl (len:Nat) (o:List Int):(Le len o).length=len:=by simp[Le]
theorem Vm {len:Nat} {o:List Int} {n:Int} (n0:0≤n) (n1:n<(len:Int)):(Le len o).getD n.toNat 0=if n∈o then (o.idxOf n:Int) else -1:=by
 unfold Le;rw[AS,AA0,AAF (by omega)];simp only[ABd,AB7];rw[show ((n.toNat:Nat):Int)=n by omega]
theorem Vn {o:List Int} {n:Int} (h:n∉o):(o++[n]).idxOf n=o.length:=by
 rw[ACc,At h];simp
theorem YL {o t:List Int} {n:Int} (h:n∈o):(o++t).idxOf n=o.idxOf n:=by
 rw[ACc,BY h]
theorem A2J {len:Nat} {o:List Int} {n:Int} (n0:0≤n) (n1:n<(len:Int)) (h:n∉o):(Le len o).set n.toNat (o.length:Int)=Le len (o++[n]):=by
 apply AAE
 ·simp[Le]
 ·intro i h1 c;rw[List.getElem_set];simp only[Le,ABZ,ABR];by_cases e:n.toNat=i
  ·rw[BY e];have b:(i:Int)=n:=by omega
   rw[b,BY (by simp),Vn h]
  ·rw[At e];have b:(i:Int)≠n:=by omega
   by_cases a:(i:Int)∈o
   ·rw[BY a,BY (by simp[a]),YL a]
   ·rw[At a,At (by simp[a,b])]
theorem Vo {o t:List Int} {x:Int} (h:x∈o):CL (o++t) x=CL o x:=by
 unfold CL;rw[BY (AAp _ h),BY h,YL h]
theorem Qg {f:List AE} (hf:Ae f) (k:Nat):∀(l:List (Int×Int)) (t:List Int),(∀a∈l,0≤a.2∧a.2<(f.length:Int))→La f t→f.length-t.length≤k →
  (∀a∈l,a.2∈l.foldl (Ac f k) t)∧∀x∈l.foldl (Ac f k) t,x∈t∨∀a∈(f.getD x.toNat (0,[])).2,a.2∈l.foldl (Ac f k) t:=by
 intro l;induction l with
 | nil=>exact fun t _ _ _=>⟨fun a ha=>(by cases ha),fun x c=>.inl c⟩
 | cons a l u =>
  intro t j m o;simp only[O5];have p:La f (Ac f k t a)∧t <+: Ac f k t a∧a.2∈Ac f k t a∧∀x∈Ac f k t a,x∈t∨∀b∈(f.getD x.toNat (0,[])).2,b.2∈Ac f k t a:=by
   unfold Ac;split
   ·rename_i hn;exact⟨m,AAH _,hn,fun x c=>.inl c⟩
   ·rename_i hn;have q:=j a (by simp);obtain⟨e,g⟩:=EB hf k t a.2 m q.1 q.2 hn;obtain⟨h,i⟩:=Ix hf k t a.2 m q.1 q.2 hn o;exact⟨e,g,h,i⟩
  obtain⟨e,g,h,i⟩:=p;have v:=g.length_le;obtain⟨r,s⟩:=u (Ac f k t a) (fun b d=>j b (by simp[d])) e (by omega);obtain⟨_,n⟩:=E1 (EB hf k) l (Ac f k t a) (fun b d=>j b (by simp[d])) e;refine⟨fun b d=>?_,fun x c=>?_⟩
  ·rcases By.1 d with rfl|d
   ·exact n.subset h
   ·exact r b d
  ·rcases s x c with c|c
   ·rcases i x c with c|c
    ·exact .inl c
    ·exact .inr fun b d=>n.subset (c b d)
   ·exact .inr c
def Ha (f:List AE) (o a:List Int):List AE:=(a.drop o.length).map (E2 f a)
theorem w3 {f:List AE} {o t:List Int} {x:Int} (h:∀a∈(f.getD x.toNat (0,[])).2,a.2∈o):E2 f (o++t) x=E2 f o x:=by
 unfold E2;refine AB6 _ (tO fun a ha=>?_);unfold Oo;rw[Vo (h a ha)]
theorem A2K {f:List AE} {c b d:List Int} (g:c <+: b) (i:b <+: d) (j:∀x∈b,x∈c∨∀a∈(f.getD x.toNat (0,[])).2,a.2∈b) (hn:b.Nodup):Ha f c b++Ha f b d=Ha f c d:=by
 obtain⟨t,rfl⟩:=g;obtain⟨s,rfl⟩:=i;unfold Ha;rw[ABP,ABP,oF,ABP,←oF,AAl]
 congr 1
 refine tO fun x e=>?_;refine(w3 fun a ha=>?_).symm;rcases j x (ABa _ e) with h|h
 ·exact absurd rfl ((AAN.1 hn).2.2 x h x e)
 ·exact h a ha
theorem YM (f:List AE) (o:List Int):Ha f o o=[]:=by
 unfold Ha;rw[ABN];rfl
theorem YN {α β:Type} (f:α→β) {l:List α} (d:α) (e:β) {i:Nat} (h:i<l.length):(l.map f).getD i e=f (l.getD i d):=by
 simp[AS,AT h]
structure A9B (Q:List AE) (o1:List Int) (L:List (Int×Int)) (j:Nat) (oo:Nat→List Int):Prop where
 zero:oo 0=o1
 succ:∀i,i<L.length→oo (i+1)=Ac Q j (oo i) (0,(L.getD i (0,0)).2)
 dok:∀i,La Q (oo i)
 pre:∀i,o1 <+: oo i
 nxt:∀i,oo i <+: oo (i+1)
 tgt:∀i,∀a∈L.take i,a.2∈oo i
 cls:∀i,∀x∈oo i,x∈o1∨∀a∈(Q.getD x.toNat (0,[])).2,a.2∈oo i
 last:oo L.length=L.foldl (Ac Q j) o1
theorem A5i {Q:List AE} (c:Ae Q) {b:List Int} {L:List (Int×Int)} {j:Nat} (g:∀a∈L,0≤a.2∧a.2<(Q.length:Int)) (h1:La Q b) (k:Q.length-b.length≤j):A9B Q b L j (fun i=>(L.take i).foldl (Ac Q j) b):=by
 have f:=fun i=>fun a (ha:a∈L.take i)=>g a (AAu ha);have hs:∀i,i<L.length→(L.take (i+1)).foldl (Ac Q j) b=Ac Q j ((L.take i).foldl (Ac Q j) b) (0,(L.getD i (0,0)).2):=fun i hi=>NK (Ac Q j) L (0,0) b hi;have d:=fun i=>E1 (EB c j) (L.take i) b (f i) h1;refine⟨rfl,hs,fun i=>(d i).1,fun i=>(d i).2,fun i=>?_,fun i=>(Qg c j _ b (f i) h1 k).1,fun i=>(Qg c j _ b (f i) h1 k).2,by simp only[iS]⟩;by_cases h:i<L.length
 ·show _ <+: (L.take (i+1)).foldl (Ac Q j) b;rw[hs i h];have l:=g _ (AD L (0,0) h);exact(E1 (EB c j) [(0,(L.getD i (0,0)).2)] _ (fun a ha=>by
   have e:a=(0,(L.getD i (0,0)).2):=by simpa using ha
   subst e;exact l) (d i).1).2
 ·show (L.take i).foldl (Ac Q j) b <+: (L.take (i+1)).foldl (Ac Q j) b;rw[An (by omega),An (by omega)];exact AAH _
theorem A5j {α:Type} (l:List α) (x y:α) (t:List α) {k:Nat} (hk:k=l.length):(l++[x]++t).set k y=l++y :: t:=by
 subst hk;rw[oF,AAO _ _ (by omega),AAI];rfl
theorem w4 {Q:List AE} {o a:List Int} {n:Int} (h:o++[n] <+: a):Ha Q o a=E2 Q a n :: Ha Q (o++[n]) a:=by
 obtain⟨t,rfl⟩:=h;unfold Ha;rw[ABP,oF,ABP];rfl
def uO (h:AJ) (p ty:List Int) (ar:List (List (Int×Int))) (M:List Int) (out:List AE):List (Nat×Obj):=[(101,.box 130 true [.p GN h,.sr 102 T3 0 p.length,.sr 103 T3 0 ty.length,.sr 104 Cl 0 ar.length]),(102,.arr 3 T3 p),(103,.arr 3 T3 ty),(104,.arr 47 Cl ar),(105,.box 127 false [.bp 101 [] 0]),(106,.box 60 false [.sr 107 T3 0 M.length]),(107,.arr 3 T3 M),(108,.box 25 true [.sr 109 JD 0 out.length]),(109,.arr 49 JD out),(110,.box 168 false [.clo 119 [105,106,108,110]])]
def A6P (h:AJ) (p0 ty:List Int) (ar:List (List (Int×Int))) (k:Nat):Prop:=∀(p o:List Int) (out:List AE) (n:Int),(∃b,Fo p b)→E4 p0 p→La (quo p0 ty ar) o→out.length=o.length→0≤n→n<(p0.length:Int)→p0.length-o.length≤k →
 BA Tryz.prog 119 [.p T3 n,.bp 105 [] 0,.bp 106 [] 0,.bp 108 [] 0,.bp 110 [] 0] (uO h p ty ar (Le p0.length o) out) [101,105,106,108,110]
  (fun res c=>∃a,(∃b,Fo a b)∧E4 p0 a∧res=.p T3 (CL (Ac (quo p0 ty ar) k o (0,El p0 n)) (El p0 n))∧c=uO h a ty ar (Le p0.length (Ac (quo p0 ty ar) k o (0,El p0 n))) (out++Ha (quo p0 ty ar) o (Ac (quo p0 ty ar) k o (0,El p0 n))))
theorem jZ (h:AJ) {p0 ty:List Int} {ar:List (List (Int×Int))} (ai:∃m,Fo p0 m) (v:Ae (quo p0 ty ar)) (aw:ty.length=p0.length) (ae:ar.length=p0.length) (ag:∀k,∀a∈ar.getD k [],0≤a.2∧a.2<(p0.length:Int)) (k:Nat) (ay:∀j,k=j+1→A6P h p0 ty ar j):A6P h p0 ty ar k:=by
 intro p o out n aj F O y n0 n1 hk;obtain⟨m,fo⟩:=aj;obtain⟨bj,L⟩:=ai;have U:=Ou L n0 n1;have d:=GJ L n0 n1 U;have hp:=v.1;rw[EC]at hp;have C:=Vl p0.length o;generalize bd:El p0 n=b at *;refine J1 [0,1,2,3,4,6,7,8,10,18,49,50,51,52] [] [] Tryz.func119 Tryz.ntmps119 AG ?_;intro w0 K O0 ρ0 f be bf;simp only[uO,Ah];repeat'(first|exact trivial|refine eS rfl ?_|refine AB ?_|refine rX f ?_ ?_|refine rC ?_ ?_<;>intro g<;>try(cases g;done))
 refine cP 2 f ?_ ?_
 ·trivial
 ·refine rM f (Zn h ty ar m fo n0 (by rw[←F.1];exact n1)) [(1,.nm 101),(2,.nm 102),(3,.nm 103),(4,.nm 104)] [102,103,104] ?_ ?_ ?_
  ·exact eN
  ·simp only[YJ];exact eN
  ·rintro _ _ ⟨u,bi,rfl,rfl,M,bc,ba⟩;have aa:=F.trans bc;have e:=((F.2 n b n0 n1).1 U).det ba;subst e;refine⟨[(101,.nm 1),(102,.nm 2),(103,.nm 3),(104,.nm 4)],.p T3 b,[(101,.box 130 true [.p GN h,.sr 102 T3 0 u.length,.sr 103 T3 0 ty.length,.sr 104 Cl 0 ar.length]),(102,.arr 3 T3 u),(103,.arr 3 T3 ty),(104,.arr 47 Cl ar)],rfl,rfl,?_,?_,rfl,rfl,?_⟩
   ·simp only[YJ];exact eN
   ·exact eN
   ·refine rL f ?_ ?_
    ·trivial
    ·repeat'(first|exact trivial|refine eS rfl ?_|refine AB ?_|refine rX f ?_ ?_|refine rC ?_ ?_<;>intro g<;>try(cases g;done))
     ·exact⟨d.1,by rw[C];exact d.2⟩
     ·exact⟨d.1,by rw[C];exact d.2⟩
     ·rw[Vm d.1 d.2]at g;have B:b∈o:=DO fun e=>by rw[At e]at g;omega
      have W:Ac (quo p0 ty ar) k o (0,b)=o:=BY B;have A:CL o b=(Le p0.length o).getD b.toNat 0:=by
       rw[Vm d.1 d.2,BY B];unfold CL;rw[BY B]
      refine Ev.ent (σ':=⟨[(6,.p T3 (CL o b))],uO h u ty ar (Le p0.length o) out⟩) ?_ (AC [(101,.nm 101),(102,.nm 102),(103,.nm 103),(104,.nm 104),(105,.nm 105),(106,.nm 106),(107,.nm 107),(108,.nm 108),(109,.nm 109),(110,.nm 110)] rfl rfl ?_ ?_)
      ·refine fM f [.tmp 6] (.p T3 (CL o b)) eT ⟨u,⟨m,M⟩,aa,by rw[W],?_⟩;rw[W,YM,AAh];rfl
      ·unfold uO;exact eN
      ·refine eM ?_;exact A.symm
     ·exact⟨d.1,by rw[C];exact d.2⟩
     ·refine⟨⟨d.1,by rw[aw];exact d.2⟩,?_⟩;have:=O.len;rw[EC]at this;simp only[AO];omega
     ·exact⟨d.1,by rw[ae];exact d.2⟩
     ·rw[Vm d.1 d.2]at g;have w:b∉o:=fun e=>by rw[BY e]at g;omega
      have N:=O.snoc d.1 (by rw[EC];exact d.2) w;have an:=N.len;rw[EC,Do,aS]at an;obtain⟨j,rfl⟩:∃j,k=j+1:=⟨k-1,by omega⟩;have am:=ay j rfl;have x:=Ld (p:=p0) (ty:=ty) (ar:=ar) d.1 d.2;have ax:=fun a (ha:a∈ar.getD b.toNat [])=>ag b.toNat a ha;have bg:(ar.getD b.toNat []).length≤100000:=by
       have:=(v.2 _ (AD (quo p0 ty ar) (0,[]) (k:=b.toNat) (by rw[EC];omega))).1;rw[x,To]at this;exact this
      have ad:∀a∈((ar.getD b.toNat []).map fun a=>(a.1,El p0 a.2)),0≤a.2∧a.2<((quo p0 ty ar).length:Int):=fun a ha=>by
       refine B9 v (n:=b) ?_;rw[x];exact ha
      obtain⟨c,l⟩:∃c,A9B (quo p0 ty ar) (o++[b]) ((ar.getD b.toNat []).map fun a=>(a.1,El p0 a.2)) j c:=⟨_,A5i v (j:=j) ad N (by rw[EC,Do,aS];omega)⟩;have G:Ac (quo p0 ty ar) (j+1) o (0,b)=((ar.getD b.toNat []).map fun a=>(a.1,El p0 a.2)).foldl (Ac (quo p0 ty ar) j) (o++[b]):=by
       unfold Ac;rw[At w];show Eh (quo p0 ty ar) (j+1) o b=_;rw[DB,x];rfl
      rw[←l.last,To]at G;have ap:=fun(i:Nat) (hi:i<(ar.getD b.toNat []).length)=>show (((ar.getD b.toNat []).map fun a=>(a.1,El p0 a.2)).getD i (0,0))=(((ar.getD b.toNat []).getD i (0,0)).1,El p0 ((ar.getD b.toNat []).getD i (0,0)).2) by
       exact YN (fun a:Int×Int=>(a.1,El p0 a.2)) (0,0) (0,0) hi
      rw[y,A2J d.1 d.2 w];generalize bh:ar.getD b.toNat []=xs at *;refine AH (ι:={s:Nat×List Int//s.1≤xs.length∧(∃m,Fo s.2 m)∧E4 p0 s.2}) (fun s=>⟨[(0,.p T3 b),(1,.bp 105 [] 0),(2,.bp 106 [] 0),(3,.bp 108 [] 0),(4,.bp 110 [] 0),(7,.p (.int .i64) (o.length:Int)),(8,.sr 64 BE 0 ((xs.take s.1.1).map fun a=>(a.1,CL (c s.1.1) (El p0 a.2))).length),(49,.p Cl xs),(50,.p (.int .i64) (xs.length:Int)),(51,.p (.int .i64) (s.1.1:Int))],uO h s.1.2 ty ar (Le p0.length (c s.1.1)) (out++[(ty.getD b.toNat 0,[])]++Ha (quo p0 ty ar) (o++[b]) (c s.1.1))++[(64,.arr 53 BE ((xs.take s.1.1).map fun a=>(a.1,CL (c s.1.1) (El p0 a.2))))]⟩) (fun s=>xs.length-s.1.1) ⟨(0,u),NO _,⟨m,M⟩,aa⟩ (AC [(101,.nm 101),(102,.nm 102),(103,.nm 103),(104,.nm 104),(105,.nm 105),(106,.nm 106),(107,.nm 107),(108,.nm 108),(109,.nm 109),(110,.nm 110),(64,.nil)] rfl rfl ?_ ?_) (fun s=>?_)
      ·unfold uO;simp only[l.zero,YM,AAh];refine eM ?_;exact⟨by rw[Vl,Vl],y.symm⟩
      ·exact eN
      ·obtain⟨⟨i,q⟩,hi,⟨Z,P⟩,V⟩:=s;have E:=l.pre i;have z:=l.dok i;have au:=E.length_le;have ah:=z.len;rw[Do,aS]at au;rw[EC]at ah;have R:(out++[(ty.getD b.toNat 0,[])]++Ha (quo p0 ty ar) (o++[b]) (c i)).length=(c i).length:=by
        unfold Ha;simp only[Do,aS,To,AAr];omega
       have S:out.length+1+(Ha (quo p0 ty ar) (o++[b]) (c i)).length=(c i).length:=by
        rw[←R,Do,Do,aS]
       simp only[uO];repeat'(first|exact trivial|refine eS rfl ?_|refine AB ?_|refine rX f ?_ ?_|refine rC ?_ ?_<;>intro g<;>try(cases g;done))
       ·exact g
       ·have r:i<xs.length:=OR.1 g;have Y:=ax _ (AD xs (0,0) r);have X:=l.succ i (by rw[To];exact r);rw[ap i r]at X;have af:=A2K E (l.nxt i) (l.cls i) z.nd;have av:=l.pre (i+1);have T:out.length+1+(Ha (quo p0 ty ar) (o++[b]) (c (i+1))).length=(c (i+1)).length:=by
         have h1:=av.length_le;rw[Do,aS]at h1;unfold Ha;simp only[Do,aS,To,AAr];omega
        have J:((xs.take i).map fun a=>(a.1,CL (c i) (El p0 a.2)))++[((xs.getD i (0,0)).1,CL (c (i+1)) (El p0 (xs.getD i (0,0)).2))]=(xs.take (i+1)).map fun a=>(a.1,CL (c (i+1)) (El p0 a.2)):=by
         rw[FP _ xs (0,0) r]
         congr 1
         refine tO fun a ha=>?_;obtain⟨t,H⟩:=l.nxt i;rw[←H,Vo (l.tgt i (a.1,El p0 a.2) (by rw[←List.map_take];exact GO.2 ⟨a,ha,rfl⟩))]
        rw[S];refine B3 drawsAny f 10 [([3,4,5],6),([1,2],7),([],8),([0],9)] [] (by kernel_rfl) (Ls ?_ ?_)
        ·trivial
        ·refine mxC f (am q (c i) (out++[(ty.getD b.toNat 0,[])]++Ha (quo p0 ty ar) (o++[b]) (c i)) (xs.getD i (0,0)).2 ⟨Z,P⟩ V z R Y.1 Y.2 (by omega)) [(101,.nm 101),(102,.nm 102),(103,.nm 103),(104,.nm 104),(105,.nm 105),(106,.nm 106),(107,.nm 107),(108,.nm 108),(109,.nm 109),(110,.nm 110)] [102,103,104,107,109] ?_ ?_ ?_
         ·exact eN
         ·simp only[uO];refine eM ?_;exact S.symm
         ·rintro _ _ ⟨I,⟨az,ab⟩,bb,rfl,rfl⟩;rw[←X,oF _ _ (Ha _ (c i) _),af];refine⟨[(101,.nm 101),(102,.nm 102),(103,.nm 103),(104,.nm 104),(105,.nm 105),(106,.nm 106),(107,.nm 107),(108,.nm 108),(109,.nm 109),(110,.nm 110)],.p T3 (CL (c (i+1)) (El p0 (xs.getD i (0,0)).2)),[(101,.box 130 true [.p GN h,.sr 102 T3 0 I.length,.sr 103 T3 0 ty.length,.sr 104 Cl 0 ar.length]),(102,.arr 3 T3 I),(103,.arr 3 T3 ty),(104,.arr 47 Cl ar),(105,.box 127 false [.bp 101 [] 0]),(106,.box 60 false [.sr 107 T3 0 (Le p0.length (c (i+1))).length]),(107,.arr 3 T3 (Le p0.length (c (i+1)))),(108,.box 25 true [.sr 109 JD 0 (c (i+1)).length]),(109,.arr 49 JD (out++[(ty.getD b.toNat 0,[])]++Ha (quo p0 ty ar) (o++[b]) (c (i+1)))),(110,.box 168 false [.clo 119 [105,106,108,110]])],rfl,rfl,?_,?_,rfl,rfl,rfl,?_⟩
          ·simp only[uO];refine eM ?_;exact T
          ·exact eN
          ·refine Ls ?_ ?_
           ·trivial
           ·refine Ns f [] ?_ ?_
            ·trivial
            ·refine Ls ?_ ?_
             ·trivial
             ·refine Ns f [] ?_ ?_
              ·trivial
              ·refine Ls ?_ ?_
               ·trivial
               ·refine Ns f [64] ?_ ?_
                ·rw[To,OS];simp only[AO];omega
                ·refine Pp f ?_ ?_ ?_
                 ·trivial
                 ·trivial
                 ·repeat'(first|exact trivial|refine eS rfl ?_|refine AB ?_|refine rX f ?_ ?_|refine rC ?_ ?_<;>intro g<;>try(cases g;done))
                  ·exact eV
                  ·refine⟨⟨(i+1,I),r,⟨az,ab⟩,bb⟩,by simp only;omega,AC [(101,.nm 101),(102,.nm 102),(103,.nm 103),(104,.nm 104),(105,.nm 105),(106,.nm 106),(107,.nm 107),(108,.nm 108),(109,.nm 109),(110,.nm 110),(64,.nm 64)] rfl rfl ?_ ?_⟩
                   ·simp only[uO,←J];refine eM ?_;exact T.symm
                   ·simp only[←J];exact eN
       ·exact OR.2 (by omega)
       ·have al:i=xs.length:=by
         have:=f8.1 g;omega
        subst al;obtain⟨t,H⟩:=E;have A:CL (c xs.length) b=(o.length:Int):=by
         rw[←H,Vo (by simp)];unfold CL;rw[BY (by simp),Vn w]
        have aq:E2 (quo p0 ty ar) (c xs.length) b=(ty.getD b.toNat 0,xs.map fun a=>(a.1,CL (c xs.length) (El p0 a.2))):=by
         unfold E2;rw[x];simp only[ABb];rfl
        have ak:(out++[(ty.getD b.toNat 0,([]:List (Int×Int)))]++Ha (quo p0 ty ar) (o++[b]) (c xs.length)).getD o.length (0,[])=(ty.getD b.toNat 0,[]):=by
         rw[←y];simp[AS]
        have D:=w4 (Q:=quo p0 ty ar) (l.pre xs.length);rw[aq]at D;rw[iS,ak,A5j out _ _ _ y.symm,←D];have ao:out.length+1+(Ha (quo p0 ty ar) (o++[b]) (c xs.length)).length=(out++Ha (quo p0 ty ar) o (c xs.length)).length:=by
         rw[D];simp only[Do,OF];omega
        rw[ao];refine Ev.ent (σ':=⟨[(6,.p T3 (CL (c xs.length) b))],uO h q ty ar (Le p0.length (c xs.length)) (out++Ha (quo p0 ty ar) o (c xs.length))⟩) ?_ (AC [(101,.nm 101),(102,.nm 102),(103,.nm 103),(104,.nm 104),(105,.nm 105),(106,.nm 106),(107,.nm 107),(108,.nm 108),(109,.nm 109),(110,.nm 110)] rfl rfl ?_ ?_)
        ·exact fM f [.tmp 6] (.p T3 (CL (c xs.length) b)) eT ⟨q,⟨Z,P⟩,V,by rw[G],by rw[G];rfl⟩
        ·unfold uO;exact eN
        ·refine eM ?_;exact A.symm
theorem A2L (h:AJ) {p0 ty:List Int} {ar:List (List (Int×Int))} (f:∃i,Fo p0 i) (b:Ae (quo p0 ty ar)) (g:ty.length=p0.length) (c:ar.length=p0.length) (d:∀k,∀a∈ar.getD k [],0≤a.2∧a.2<(p0.length:Int)):∀k,A6P h p0 ty ar k
 | 0=>jZ h f b g c d 0 (fun j e=>by cases e)
 | k+1=>jZ h f b g c d (k+1) (fun j e=>by cases e;exact A2L h f b g c d k)
theorem A2M (len:Nat):Le len []=List.replicate len (-1):=by
 unfold Le;apply AAE
 ·simp
 ·intro i h1 a;simp
theorem A2N {α:Type} (x y:α) {n i:Nat} (h:i<n):(List.replicate i x++List.replicate (n-i) y).set i x=List.replicate (i+1) x++List.replicate (n-(i+1)) y:=by
 obtain⟨m,a⟩:∃m,n-i=m+1:=⟨n-i-1,by omega⟩;have b:n-(i+1)=m:=by omega
 rw[a,b,AAO _ _ (by simp),ABU,AAI,AC0,ABf,List.replicate_succ',oF];rfl
theorem A2O (h:AJ) {p ty:List Int} {ar:List (List (Int×Int))} (g:∃y,Fo p y) (f:Ae (quo p ty ar)) (t:ty.length=p.length) (m:ar.length=p.length) (n:∀k,∀a∈ar.getD k [],0≤a.2∧a.2<(p.length:Int)) {r:Int} (v:0≤r) (w:r<(p.length:Int)) :
  BA Tryz.prog 84 [.bp 101 [] 0,.p T3 r] (sU h p ty ar) [101]
  (fun res _=>res=.p E9 (AQ (quo p ty ar) (El p r))):=by
 have d:=A2L h g f t m n p.length p [] [] r g (E4.refl p) ⟨by simp,fun x u=>by cases u⟩ rfl v w (by simp);have o:Ha (quo p ty ar) [] (Ac (quo p ty ar) p.length [] (0,El p r))=AQ (quo p ty ar) (El p r):=by
  have e:Ac (quo p ty ar) p.length [] (0,El p r)=Eh (quo p ty ar) p.length [] (El p r):=At (by simp);rw[e];unfold Ha AQ;rw[EC];rfl
 rw[ABo,o,A2M]at d;have s:=f.1;rw[EC]at s;generalize AQ (quo p ty ar) (El p r)=G at *;generalize CL _ _=z at d;generalize Le _ _=M at d;refine J1 [0,1,2,4,5,6,7,8,16,17,18] [] [] Tryz.func84 Tryz.ntmps84 AG ?_;intro w0 K O0 ρ0 c B C;simp only[sU,Ah];repeat'(first|exact trivial|refine eS rfl ?_|refine AB ?_|refine rX c ?_ ?_|refine rC ?_ ?_<;>intro b<;>try(cases b;done))
 ·simp only[AO];omega
 ·refine AH (ι:={i:Nat//i≤p.length}) (fun i=>⟨[(0,.bp 101 [] 0),(1,.p T3 r),(2,.bp 2 [] 0),(4,.bp 4 [] 0),(5,.bp 5 [] 0),(16,.p (.int .i64) (p.length:Int)),(17,.p (.int .i64) (i.1:Int))],[(5,.box 60 false [.sr 14 T3 0 p.length]),(14,.arr 3 T3 (List.replicate i.1 (-1)++List.replicate (p.length-i.1) 0)),(4,.box 25 true [.raw (.slice none 0 0)]),(2,.box 127 false [.bp 101 [] 0]),(101,.box 130 true [.p GN h,.sr 102 T3 0 p.length,.sr 103 T3 0 ty.length,.sr 104 Cl 0 ar.length]),(102,.arr 3 T3 p),(103,.arr 3 T3 ty),(104,.arr 47 Cl ar)]⟩) (fun i=>p.length-i.1) ⟨0,by omega⟩ (AC [(5,.nm 5),(14,.nm 14),(4,.nm 4),(2,.nm 2),(101,.nm 101),(102,.nm 102),(103,.nm 103),(104,.nm 104)] rfl rfl ?_ ?_) (fun i=>?_)
  ·refine eM ?_;rfl
  ·exact eN
  ·obtain⟨i,hi⟩:=i;simp only;repeat'(first|exact trivial|refine eS rfl ?_|refine AB ?_|refine rX c ?_ ?_|refine rC ?_ ?_<;>intro b<;>try(cases b;done))
   ·exact b
   ·exact eV
   ·have j:i<p.length:=OR.1 b;refine⟨⟨i+1,j⟩,by simp only;omega,AC [(5,.nm 5),(14,.nm 14),(4,.nm 4),(2,.nm 2),(101,.nm 101),(102,.nm 102),(103,.nm 103),(104,.nm 104)] rfl rfl ?_ ?_⟩
    ·refine eM ?_;exact A2N _ _ j
    ·exact eN
   ·have q:i=p.length:=by
     have:=f8.1 b;omega
    subst q;rw[AAI,List.replicate_zero,AAh];refine cP 2 c ?_ ?_
    ·trivial
    ·refine rM c (d) [(101,.nm 101),(102,.nm 102),(103,.nm 103),(104,.nm 104),(105,.nm 2),(106,.nm 5),(107,.nm 14),(108,.nm 7),(109,.nil),(110,.nm 8)] [102,103,104,14] ?_ ?_ ?_
     ·exact eN
     ·simp only[uO];refine eM ?_;exact ABU.symm
     ·rintro _ _ ⟨l,A,D,rfl,rfl⟩;refine⟨[(101,.nm 101),(102,.nm 102),(103,.nm 103),(104,.nm 104),(2,.nm 105),(5,.nm 106),(14,.nm 107),(7,.nm 108),(120,.nm 109),(8,.nm 110)],.p T3 z,[(101,.box 130 true [.p GN h,.sr 102 T3 0 l.length,.sr 103 T3 0 ty.length,.sr 104 Cl 0 ar.length]),(102,.arr 3 T3 l),(103,.arr 3 T3 ty),(104,.arr 47 Cl ar),(2,.box 127 false [.bp 101 [] 0]),(5,.box 60 false [.sr 14 T3 0 M.length]),(14,.arr 3 T3 M),(7,.box 25 true [.sr 120 JD 0 G.length]),(120,.arr 49 JD G),(8,.box 168 false [.clo 119 [2,5,7,8]])],rfl,rfl,?_,?_,rfl,rfl,CS ?_⟩
      ·simp only[uO];exact eN
      ·exact eN
      ·refine Gg [120] ?_;repeat'(first|exact trivial|refine eS rfl ?_|refine AB ?_|refine rX c ?_ ?_|refine rC ?_ ?_<;>intro b<;>try(cases b;done))
       exact fM c [.cell 4 25] (.p E9 G) eT rfl
structure A9C (f:List AE) (r:Int) (o:List Int):Prop where
 ok:La f o
 zero:o.getD 0 0=r∧0<o.length
 cl:∀n∈o,∀a∈Ap f n,a.2∈o
theorem sV {f:List AE} (hf:Ae f) {r:Int} (b:0≤r) (c:r<(f.length:Int)):A9C f r (Eh f f.length [] r):=by
 have h1:=EB hf f.length [] r (H3 f) b c (by simp);have d:=Ix hf f.length [] r (H3 f) b c (by simp) (by simp);have e:[r] <+: Eh f f.length [] r:=by
  obtain⟨k,hk⟩:∃k,f.length=k+1:=⟨f.length-1,by omega⟩;rw[hk,DB];exact(E1 (EB hf k) _ _ (fun a ha=>B9 hf ha) ((H3 f).snoc b c (by simp))).2
 refine⟨h1.1,?_,fun n hn a ha=>?_⟩
 ·obtain⟨t,g⟩:=e;rw[←g];exact⟨rfl,by simp⟩
 ·rcases d.2 n hn with h|h
  ·cases h
  ·exact h a ha
theorem j5 {f:List AE} {r:Int} {i:Nat} (hi:i<(Eh f f.length [] r).length):(AQ f r).getD i (0,[])=E2 f (Eh f f.length [] r) ((Eh f f.length [] r).getD i 0):=by
 unfold AQ;simp[AS,hi]
theorem j6 (f:List AE) (r:Int):(AQ f r).length=(Eh f f.length [] r).length:=by simp[AQ]
def Ao (f g:List AE):List AE:=f++g.map fun x=>(x.1,CM f.length x.2)
theorem Dt (f g:List AE):(Ao f g).length=f.length+g.length:=by simp[Ao]
theorem Ov {f g:List AE} {x:Int} (a:0≤x) (b:x<(f.length:Int)):(Ao f g).getD x.toNat (0,[])=f.getD x.toNat (0,[]):=by
 unfold Ao;rw[AS,AS,AA5 (by omega)]
theorem Mr {f g:List AE} {y:Int} (a:0≤y) (b:y<(g.length:Int)):(Ao f g).getD ((f.length:Int)+y).toNat (0,[])=((g.getD y.toNat (0,[])).1,CM f.length (g.getD y.toNat (0,[])).2):=by
 unfold Ao;have e:((f.length:Int)+y).toNat=f.length+y.toNat:=by omega
 rw[e,AS,AA2 (by omega),Nat.add_sub_cancel_left];rw[←AS];exact YN (fun x:AE=>(x.1,CM f.length x.2)) (0,[]) (0,[]) (by omega)
theorem sW {n:Nat} {p:List Int} {x y:Int} (h:EG n p [] x y):El p x=El p y:=by
 induction h with
 | cls _ _ _ _ h g=>rw[Zo h,Zo g]
 | wt h=>cases h
 | symm _ a=>exact a.symm
 | trans _ _ b c=>exact b.trans c
noncomputable abbrev Rf (p ty:List Int) (ar:List (List (Int×Int))):List Int:=Eh (quo p ty ar) (quo p ty ar).length [] (El p 0)
structure A60 (h:AJ) (N:List AE) (P:List (Int×Int)) (U:List AE) (v:Int→Int):Prop where
 good:Ae U
 pos:0<U.length
 str:∀x∈U,Vk x.2
 feat:∀x∈U,∀a∈x.2,a.1∈Ds N
 ty:I5 h U
 ro:RO U
 zero:v 0=0
 proj:sQ h N P U v
 least:∀X w,I5 h X→sQ h N P X w→w 0=0→∃m,WW h U X m
 len:U.length≤N.length
section
variable {h:AJ} {N:List AE} {P:List (Int×Int)} {p ty:List Int} {ar:List (List (Int×Int))}
theorem Rg (a:JI h N P p ty ar []) (b:Ae (quo p ty ar)) (c:0<N.length):A9C (quo p ty ar) (El p 0) (Rf p ty ar):=by
 obtain⟨d,fo⟩:=a.fo;have lp:=a.lp;have:=GJ fo (x:=0) (by omega) (by omega) (Ou fo (by omega) (by omega));exact sV b this.1 (by rw[EC];exact this.2)
theorem Vp (d:JI h N P p ty ar []) (c:Ae (quo p ty ar)) (b:0<N.length):El p 0∈Rf p ty ar:=by
 have a:=Rg d c b;have:=AD (Rf p ty ar) 0 a.zero.2;rw[a.zero.1]at this;exact this
theorem A2P (a:JI h N P p ty ar []) {x y:Int} (b:(x,y)∈P) (c:El p x∈Rf p ty ar):El p y∈Rf p ty ar:=by
 rw[←sW (a.sp (x,y) b)];exact c
theorem oZ (b:JI h N P p ty ar []) (f:Ae (quo p ty ar)) (e:0<N.length) {x:Int} (c:0≤x) (k:x<(N.length:Int)) (j:El p x∈Rf p ty ar) {a:Int×Int} (ha:a∈Ap N x):El p a.2∈Rf p ty ar:=by
 obtain⟨l,fo⟩:=b.fo;have lp:=b.lp;obtain⟨t,i,g⟩:=b.sa x _ c k (Ou fo c (by omega)) a ha;rw[sW g];have d:=GJ fo c (by omega) (Ou fo c (by omega));refine(Rg b f e).cl _ j (a.1,El p t) ?_;rw[Ap,Ld d.1 d.2];exact GO.2 ⟨(a.1,t),i,rfl⟩
def w5 (N:List AE) (k:Nat) (g:List AE):Prop:=∀i:Int,0≤i→i<(g.length:Int)→(k:Int)+i<(N.length:Int)∧N.getD ((k:Int)+i).toNat (0,[])=((g.getD i.toNat (0,[])).1,CM k (g.getD i.toNat (0,[])).2)
theorem Vq (m:JI h N P p ty ar []) (f:Ae (quo p ty ar)) (e:0<N.length) {k:Nat} {g:List AE} (l:w5 N k g) (r:RO g) (hk:El p (k:Int)∈Rf p ty ar):∀(n:Nat) (i:Int),i.toNat≤n→0≤i→i<(g.length:Int)→El p ((k:Int)+i)∈Rf p ty ar:=by
 intro n;induction n with
 | zero =>
  intro i hn o c;have:i=0:=by omega
  subst this;rw[ACC];exact hk
 | succ n q =>
  intro i hn o c;by_cases hi:i=0
  ·subst hi;rw[ACC];exact hk
  ·obtain⟨j,d,s,a,ha,rfl⟩:=r i (by omega) c;have b:=l j d (by omega);have:=oZ m f e (x:=(k:Int)+j) (by omega) b.1 (q j (by omega) d (by omega)) (a:=(a.1,a.2+(k:Int))) (by
    rw[Ap,b.2];exact GO.2 ⟨a,ha,rfl⟩)
   rw[Int.add_comm];exact this
end
theorem j7 {h:AJ} {N:List AE} {P:List (Int×Int)} {f:List AE} {v:Int→Int} (e:sQ h N P f v) {k:Nat} {g:List AE} (d:w5 N k g) (j:v (k:Int)=0):WW h g f fun i=>v ((k:Int)+i):=by
 refine⟨by show v ((k:Int)+0)=0;rw[ACC];exact j,fun i b c=>?_,fun i b c=>?_,fun i b c a ha=>?_⟩
 ·exact e.rng _ (by omega) (d i b c).1
 ·have:=e.ty _ (by omega) (d i b c).1;rw[(d i b c).2]at this;exact this
 ·have:=e.arc _ (by omega) (d i b c).1 (a.1,a.2+(k:Int)) (by
   rw[Ap,(d i b c).2];exact GO.2 ⟨a,ha,rfl⟩)
  rw[Int.add_comm (k:Int) a.2];exact this
theorem TV {h:AJ} {g X:List AE} {m:Int→Int} (a:WW h g X m):sQ h g [] X m:=⟨a.rng,a.ty,a.arc,fun q b=>by cases b⟩
theorem j8 {h:AJ} {f g X:List AE} (hf:Ae f) (m:Ae g) {v w:Int→Int} (h1:sQ h f [] X v) (i:sQ h g [] X w):sQ h (Ao f g) [] X (fun x=>if x<(f.length:Int) then v x else w (x-(f.length:Int))):=by
 have j:=Dt f g;refine⟨fun x d e=>?_,fun x d e=>?_,fun x d e a ha=>?_,fun q n=>by cases n⟩
 ·rw[j]at e;show _∧_;try simp only
  split
  ·exact h1.rng x d (by assumption)
  ·exact i.rng _ (by omega) (by omega)
 ·rw[j]at e;try simp only
  by_cases c:x<(f.length:Int)
  ·rw[BY c,Ov d c];exact h1.ty x d c
  ·rw[At c];have:=Mr (f:=f) (g:=g) (y:=x-(f.length:Int)) (by omega) (by omega);rw[show (f.length:Int)+(x-(f.length:Int))=x by omega]at this;rw[this];exact i.ty _ (by omega) (by omega)
 ·rw[j]at e;try simp only
  by_cases c:x<(f.length:Int)
  ·rw[BY c];rw[Ap,Ov d c]at ha;have l:=B9 hf ha;rw[BY l.2];exact h1.arc x d c a ha
  ·rw[At c];have:=Mr (f:=f) (g:=g) (y:=x-(f.length:Int)) (by omega) (by omega);rw[show (f.length:Int)+(x-(f.length:Int))=x by omega]at this;rw[Ap,this]at ha;obtain⟨b,k,rfl⟩:=GO.1 ha;have l:=B9 m k;rw[At (by simp only;omega)];try simp only
   rw[show b.2+(f.length:Int)-(f.length:Int)=b.2 by omega];exact i.arc _ (by omega) (by omega) b k
theorem A2Q {h:AJ} {N X:List AE} {P:List (Int×Int)} {v:Int→Int} (h1:sQ h N [] X v) (a:∀q∈P,v q.1=v q.2):sQ h N P X v:=⟨h1.rng,h1.ty,h1.arc,a⟩
theorem YO {N f g:List AE} {k:Nat} (h:w5 f k N):w5 (Ao f g) k N:=by
 intro i a b;have:=h i a b;rw[Dt,Ov (by omega) this.1];exact⟨by omega,this.2⟩
theorem YP {f:List AE}:w5 f 0 f:=by
 intro i c b;rw[show ((0:Nat):Int)+i=i by omega];refine⟨b,?_⟩;have:CM 0 (f.getD i.toNat (0,[])).2=(f.getD i.toNat (0,[])).2:=by
  unfold CM;rw[tO (g:=id) (fun a _=>by show (a.1,a.2+((0:Nat):Int))=a;rw[Int.natCast_zero,ACC]),List.map_id]
 rw[this]
theorem Vr {f g:List AE}:w5 (Ao f g) f.length g:=by
 intro i a b;rw[Dt,Mr a b];exact⟨by omega,rfl⟩
set_option maxHeartbeats 1000000 in
theorem A6Q {h:AJ} {N:List AE} {P:List (Int×Int)} {p ty:List Int} {ar:List (List (Int×Int))} (L:JI h N P p ty ar []) (E:Ae (quo p ty ar)) (O:0<N.length) (H:∀x,0≤x→x<(N.length:Int)→El p x∈Rf p ty ar) :
  A60 h N P (AQ (quo p ty ar) (El p 0)) (fun x=>CL (Rf p ty ar) (El p x)):=by
 have s:=Rg L E O
 have af:=Vp L E O
 obtain⟨nty,⟨av,fo⟩,lp,lt,la,wr,tyr,arr,srt,sp,st,sa,co⟩:=L
 have aj:=EC p ty ar
 have w:=fun {x:Int} (C:0≤x) (D:x<(N.length:Int))=>Ou fo C (by rw[lp];exact D)
 have J:=fun {x:Int} (C:0≤x) (D:x<(N.length:Int))=>GJ fo C (by rw[lp];exact D) (w C D)
 have K:=j6 (quo p ty ar) (El p 0)
 have aa:=fun i=>j5 (f:=quo p ty ar) (r:=El p 0) (i:=i)
 have M:∀x:Int,0≤x→x<(N.length:Int)→Ap (quo p ty ar) x=(ar.getD x.toNat []).map fun a=>(a.1,El p a.2):=fun x C D=>by
  rw[Ap,Ld C (by rw[lp];exact D)]
 have u:∀x∈Rf p ty ar,(0≤x∧x<(N.length:Int))∧Du p x=x:=by
  have ag:Iso (quo p ty ar) (quo p ty ar) id (fun x=>(0≤x∧x<(N.length:Int))∧Du p x=x):=by
   refine⟨fun i _=>by simp,fun i hi a ha=>?_,fun i j _ _ e=>e⟩
   rw[M i hi.1.1 hi.1.2]at ha
   obtain⟨b,m,rfl⟩:=List.mem_map.1 ha
   have c:=(arr _ b m).1
   have:=J c.1 c.2
   rw[lp]at this
   exact⟨this,(w c.1 c.2).root⟩
  have R:=J (x:=0) (by omega) (by omega)
  rw[lp]at R
  exact(TS ag _ [] _ (fun x d=>by cases d) ⟨R,(w (x:=0) (by omega) (by omega)).root⟩).2
 have ah:=fun(q:Nat)=>Vj E (quo p ty ar).length [] (El p 0) (H3 _) (J (x:=0) (by omega) (by omega)).1 (by rw[aj];exact(J (x:=0) (by omega) (by omega)).2) (by simp) q
 unfold Rf at s af H u ⊢
 generalize ao:AQ (quo p ty ar) (El p 0)=F at *
 generalize aq:Eh (quo p ty ar) (quo p ty ar).length [] (El p 0)=o at *
 have z:∀i:Int,0≤i→i<(o.length:Int)→o.getD i.toNat 0∈o∧CL o (o.getD i.toNat 0)=i:=fun i g l=>by
  refine⟨AD o 0 (by omega),?_⟩
  rw[Kl s.ok.nd (by omega)]
  omega
 have A:∀x∈o,F.getD (CL o x).toNat (0,[])=(ty.getD x.toNat 0,(ar.getD x.toNat []).map fun a=>(a.1,CL o (El p a.2))):=fun x d=>by
  have am:=HI d
  have c:=(u x d).1
  rw[aa _ (by omega),am.2.2]
  unfold E2
  rw[Ld c.1 (by rw[lp];exact c.2),List.map_map]
  rfl
 have Q:∀x∈o,∀a∈ar.getD x.toNat [],El p a.2∈o:=fun x d a ha=>by
  have c:=(u x d).1
  exact s.cl x d (a.1,El p a.2) (by rw[M x c.1 c.2];exact List.mem_map.2 ⟨a,ha,rfl⟩)
 have S:∀k,Vk ((ar.getD k []).map fun a=>(a.1,CL o (El p a.2))):=fun k=>by
  unfold Vk
  rw[List.pairwise_map]
  exact srt k
 have G:∀x∈F,∃y∈o,x=(ty.getD y.toNat 0,(ar.getD y.toNat []).map fun a=>(a.1,CL o (El p a.2))):=fun x d=>by
  obtain⟨i,hi,rfl⟩:=Cf (0,[]) d
  have h1:=z (i:Int) (by omega) (by omega)
  refine⟨_,h1.1,?_⟩
  rw[←A _ h1.1,h1.2]
  rw[Int.toNat_natCast]
 have ae:CL o (El p 0)=0:=by
  have:=Kl s.ok.nd s.zero.2
  rw[s.zero.1]at this
  exact this
 have ap:=s.ok.len
 have an:=E.1
 refine⟨⟨by omega,fun x d=>?_⟩,by rw[K];exact s.zero.2,fun x d=>?_,fun x d a ha=>?_,fun x d=>?_,fun i g l=>?_,ae,⟨fun i g l=>?_,fun i g l=>?_,fun i g l a ha=>?_,fun q ai=>?_⟩,fun X v ab T al=>?_,by omega⟩
 ·obtain⟨y,B,rfl⟩:=G x d
  have c:=(u y B).1
  refine⟨?_,fun a ha=>?_⟩
  ·have:=(E.2 _ (AD (quo p ty ar) (0,[]) (k:=y.toNat) (by omega))).1
   rw[Ld c.1 (by rw[lp];exact c.2),List.length_map]at this
   simp only[List.length_map]
   exact this
  ·obtain⟨b,m,rfl⟩:=List.mem_map.1 ha
   have:=HI (Q y B b m)
   rw[K]
   exact⟨this.1,this.2.1⟩
 ·obtain⟨y,B,rfl⟩:=G x d
  exact S _
 ·obtain⟨y,B,rfl⟩:=G x d
  obtain⟨b,m,rfl⟩:=List.mem_map.1 ha
  exact(arr _ b m).2
 ·obtain⟨y,B,rfl⟩:=G x d
  have c:=(u y B).1
  exact tyr y c.1 c.2
 · -- in order
  obtain⟨j,au,a,ha,e⟩:=ah i.toNat (by simp only[List.length_nil];omega) (by omega)
  have h1:=z (j:Int) (by omega) (by omega)
  have W:=z i (by omega) (by omega)
  rw[Int.toNat_natCast]at h1
  have c:=(u _ h1.1).1
  rw[M _ c.1 c.2]at ha
  obtain⟨b,m,rfl⟩:=List.mem_map.1 ha
  refine⟨(j:Int),by omega,by omega,(b.1,CL o (El p b.2)),?_,?_⟩
  ·have:=A _ h1.1
   rw[h1.2]at this
   rw[Ap,this]
   exact List.mem_map.2 ⟨b,m,rfl⟩
  ·show CL o (El p b.2)=i
   simp only at e
   rw[e,W.2]
 ·have:=HI (H i g l)
  rw[K]
  exact⟨this.1,this.2.1⟩
 ·show A6 h _ (F.getD (CL o (El p i)).toNat (0,[])).1=true
  rw[A _ (H i g l)]
  exact st i _ g l (w g l)
 ·obtain⟨t,ak,ad⟩:=sa i _ g l (w g l) a ha
  have e:=sW ad
  show Qc (Ap F (CL o (El p i))) a.1=CL o (El p a.2)
  rw[e,Ap,A _ (H i g l)]
  exact Vi (S _) (a:=(a.1,CL o (El p t))) (List.mem_map.2 ⟨(a.1,t),ak,rfl⟩)
 ·show CL o (El p q.1)=CL o (El p q.2)
  rw[sW (sp q ai)]
 ·obtain⟨c1,c2,U,V⟩:=co X v ab T
  refine⟨fun i=>v (o.getD i.toNat 0),?_,fun i g l=>?_,fun i g l=>?_,fun i g l a ha=>?_⟩
  ·show v (o.getD 0 0)=0
   rw[s.zero.1,←c1 0 _ (by omega) (by omega) (w (by omega) (by omega))]
   exact al
  ·have n:=z i g (by omega)
   have c:=(u _ n.1).1
   exact T.rng _ c.1 c.2
  ·have n:=z i g (by omega)
   have c:=u _ n.1
   have hn:=A _ n.1
   rw[n.2]at hn
   rw[hn]
   exact U _ c.1.1 c.1.2 c.2
  ·have n:=z i g (by omega)
   have c:=u _ n.1
   have hn:=A _ n.1
   rw[n.2]at hn
   rw[Ap,hn]at ha
   obtain⟨b,m,rfl⟩:=List.mem_map.1 ha
   have Y:=V _ c.1.1 c.1.2 c.2 b m
   have I:=(arr _ b m).1
   have Z:=HI (Q _ n.1 b m)
   simp only
   rw[Z.2.2,←c1 b.2 _ I.1 I.2 (w I.1 I.2)]
   exact Y
structure VF (h:AJ) (f:List AE):Prop where
 good:Ae f
 pos:0<f.length
 ty:I5 h f
 str:∀x∈f,Vk x.2
 ft:∀x∈f,∀a∈x.2,0≤a.1∧a.1<(h.2.length:Int)
 can:AQ f 0=f
 ro:RO f
structure HU (h:AJ):Prop where
 ok:HW h
 inj:HX h
 ft:h.2.length≤64
def j9 (U:List AE):Prop:=(Eh U U.length [] 0).length=U.length∧∀k,(hk:k<(Eh U U.length [] 0).length)→(Eh U U.length [] 0)[k]=(k:Int)
theorem Zp {Q:List AE} (m:Ae Q) {r:Int} (L:0≤r) (M:r<(Q.length:Int)):Ae (AQ Q r)∧j9 (AQ Q r):=by
 have d:=sV m L M;have D:=j6 Q r;have C:=fun i=>j5 (f:=Q) (r:=r) (i:=i);generalize O:AQ Q r=c at *;generalize H:Eh Q Q.length [] r=o at *;have R:=d.ok.len;have N:=m.1;have g:∀i:Int,0≤i→i<(o.length:Int)→o.getD i.toNat 0∈o∧CL o (o.getD i.toNat 0)=i:=fun i J K=>by
  refine⟨AD o 0 (by omega),?_⟩;rw[Kl d.ok.nd (by omega)];omega
 have p:∀i:Int,0≤i→i<(o.length:Int)→Ap c i=(Ap Q (o.getD i.toNat 0)).map (Oo o):=fun i J K=>by
  rw[Ap,C i.toNat (by omega)];rfl
 have F:Iso c Q (fun i=>o.getD i.toNat 0) (fun i=>0≤i∧i<(o.length:Int)):=by
  refine⟨fun i hi=>?_,fun i hi a ha=>?_,fun i j hi B e=>?_⟩
  ·rw[p i hi.1 hi.2,ABb];have:∀a∈Ap Q (o.getD i.toNat 0),((fun a:Int×Int=>(a.1,o.getD a.2.toNat 0))∘Oo o) a=a:=fun a ha=>by
    show (a.1,o.getD (CL o a.2).toNat 0)=a;rw[(HI (d.cl _ (g i hi.1 hi.2).1 a ha)).2.2]
   rw[tO this,List.map_id']
  ·rw[p i hi.1 hi.2]at ha;obtain⟨b,q,rfl⟩:=GO.1 ha;have:=HI (d.cl _ (g i hi.1 hi.2).1 b q);exact⟨this.1,this.2.1⟩
  ·have h1:=(g i hi.1 hi.2).2;have h:=(g j B.1 B.2).2;have e:o.getD i.toNat 0=o.getD j.toNat 0:=e;rw[←h1,←h,e]
 have h0:(0:Int)<(o.length:Int):=by have:=d.zero.2;omega
 have v:Ae c:=by
  refine⟨by omega,fun x u=>?_⟩;obtain⟨i,hi,rfl⟩:=Cf (0,[]) u;have h1:=p (i:Int) (by omega) (by omega);rw[Ap,iN]at h1;rw[h1];have t:=g (i:Int) (by omega) (by omega);rw[iN]at t;have S:=d.ok.rng _ t.1;refine⟨?_,fun a ha=>?_⟩
  ·rw[To];exact(m.2 _ (AD Q (0,[]) (k:=(o.getD i 0).toNat) (by omega))).1
  ·obtain⟨b,q,rfl⟩:=GO.1 ha;have:=HI (d.cl _ t.1 b q);rw[D];exact⟨this.1,this.2.1⟩
 have s:=TS F Q.length [] 0 (fun x u=>by cases u) ⟨by omega,h0⟩;have I:o.getD (0:Int).toNat 0=r:=d.zero.1;rw[ACi,I,H]at s;have A:=Vh v (n:=0) (by omega) (by omega) (Q.length-c.length);rw[show c.length+(Q.length-c.length)=Q.length by omega]at A;rw[A]at s;unfold j9;refine⟨v,?_⟩;generalize Eh c c.length [] 0=l at *;obtain⟨y,E⟩:=s;have P:l.length=o.length:=by
  have:=AB6 List.length y;rw[To]at this;exact this.symm
 have G:∀k,(hk:k<l.length)→l[k]=(k:Int):=fun k hk=>by
  have w:=E l[k] (AAs hk);have h1:=(g l[k] w.1 w.2).2;have h:=(g (k:Int) (by omega) (by omega)).2;have e:o.getD k 0=o.getD (l[k]).toNat 0:=by
   exact(AB6 (fun z:List Int=>z.getD k 0) y).trans (by simp[AS,hk])
  rw[iN,e]at h;rw[←h1,h]
 exact⟨by omega,G⟩
theorem Vs {b:List AE} (g:Ae b) (k:j9 b):AQ b 0=b:=by
 unfold AQ;obtain⟨q,c⟩:=k;generalize Eh b b.length [] 0=l at *;have o:l.Nodup:=by
  unfold List.Nodup;rw[oR];intro i j hi n p e;rw[c i hi,c j n]at e;omega
 have m:∀x,0≤x→x<(l.length:Int)→CL l x=x:=fun x r s=>by
  have:=Kl o (i:=x.toNat) (by omega);have e:l.getD x.toNat 0=x:=by
   rw[AS,AT (by omega)];show l[x.toNat]=x;rw[c _ (by omega)];omega
  rw[e]at this;rw[this];omega
 apply AAE
 ·rw[To];omega
 ·intro i h1 d;rw[ABZ,c i (by simpa using h1)];have f:b.getD (i:Int).toNat (0,[])=b[i]:=by simp[AS,d]
  unfold E2;rw[f];have:∀a∈b[i].2,Oo l a=a:=fun a ha=>by
   have h:=(g.2 _ (AAs d)).2 a ha;unfold Oo;rw[m a.2 h.1 (by omega)]
  rw[tO this,List.map_id']
theorem A2R {Q:List AE} (a:Ae Q) {r:Int} (b:0≤r) (c:r<(Q.length:Int)):AQ (AQ Q r) 0=AQ Q r :=
 Vs (Zp a b c).1 (Zp a b c).2
theorem kA {h:AJ} {a X:List AE} (g:RO a) {m f:Int→Int} (h1:WW h a X m) (b:WW h a X f):∀(k:Nat) (i:Int),i.toNat≤k→0≤i→i<(a.length:Int)→m i=f i:=by
 intro k;induction k with
 | zero =>
  intro i hk l e;have:i=0:=by omega
  subst this;rw[h1.zero,b.zero]
 | succ k n =>
  intro i hk l e;by_cases hi:i=0
  ·subst hi;rw[h1.zero,b.zero]
  ·obtain⟨j,c,o,x,d,rfl⟩:=g i (by omega) e;rw[←h1.arc j c (by omega) x d,←b.arc j c (by omega) x d,n j (by omega) c (by omega)]
theorem kB {h:AJ} (hk:HW h) {a b c:List AE} (w:Ae a) (ta:I5 h a) (tb:I5 h b) (A:I5 h c) {m n:Int→Int} (h1:WW h a b m) (j:WW h b c n):WW h a c fun i=>n (m i):=by
 refine⟨by show n (m 0)=0;rw[h1.zero,j.zero],fun i f g=>?_,fun i f g=>?_,fun i f g x p=>?_⟩
 ·have:=h1.rng i f g;exact j.rng _ this.1 this.2
 ·have d:=h1.rng i f g;have B:=j.rng _ d.1 d.2;have r:=ta _ (AD a (0,[]) (k:=i.toNat) (by omega));have s:=tb _ (AD b (0,[]) (k:=(m i).toNat) (by omega));have t:=A _ (AD c (0,[]) (k:=(n (m i)).toNat) (by omega));exact Lc hk r.1 r.2 s.1 s.2 t.1 t.2 (h1.ty i f g) (j.ty _ d.1 d.2)
 ·have d:=h1.rng i f g;have q:=B9 w p;have o:=h1.arc i f g x p;obtain⟨y,z,u,v⟩:=jW (l:=Ap b (m i)) (e:=x.1) (by rw[o];exact(h1.rng _ q.1 q.2).1);have:=j.arc (m i) d.1 d.2 y z;rw[u,v,o]at this;exact this
theorem Zq {a:List AE} (hs:∀x∈a,Vk x.2) (n:Int):Vk (Ap a n):=by
 unfold Ap;by_cases h:n.toNat<a.length
 ·exact hs _ (AD a (0,[]) h)
 ·rw[AS,dO (by omega)];exact .nil
theorem A2S {h:AJ} {a:List AE} (hs:∀x∈a,Vk x.2):WW h a a id :=
 ⟨rfl,fun i c d=>⟨c,d⟩,fun i _ _=>YI h _,fun i _ _ x b=>Vi (Zq hs i) b⟩
theorem sX:∀ {l m:List (Int×Int)},Vk l→Vk m→(∀x,x∈l↔x∈m)→l=m
 | [],[],_,_,_=>rfl
 | [],b :: m,_,_,h=>by have:=(h b).2 (by simp);cases this
 | a :: l,[],_,_,h=>by have:=(h a).1 (by simp);cases this
 | a :: l,b :: m,h1,i,h=>by
  obtain⟨f,g⟩:=AAx.1 h1;obtain⟨b1,b2⟩:=AAx.1 i;have e:a=b:=by
   rcases By.1 ((h a).1 (by simp)) with e|e
   ·exact e
   ·rcases By.1 ((h b).2 (by simp)) with d|d
    ·exact d.symm
    ·have:=f b d;have:=b1 a e;omega
  subst e;refine AB6 _ (sX g b2 fun x=>⟨fun c=>?_,fun c=>?_⟩)
  ·rcases By.1 ((h x).1 (by simp[c])) with e|e
   ·subst e;have:=f x c;omega
   ·exact e
  ·rcases By.1 ((h x).2 (by simp[c])) with e|e
   ·subst e;have:=b1 x c;omega
   ·exact e
theorem A9D {h:AJ} (hu:HU h) {c V:List AE} (b:VF h c) (d:VF h V) {m p:Int→Int} (h1:WW h c V m) (n:WW h V c p):c=V:=by
 have key:∀ {c V:List AE},VF h c→VF h V→∀ {m p:Int→Int},WW h c V m→WW h V c p→c.length≤V.length→c=V:=by
  clear b d h1 n;intro c V b d m p h1 n L;have c1:=kB hu.ok b.good b.ty d.ty b.ty h1 n;have c2:=kB hu.ok d.good d.ty b.ty d.ty n h1;have u:∀i,0≤i→i<(c.length:Int)→p (m i)=i:=fun i s t=>kA b.ro c1 (A2S b.str) i.toNat i (Is _) s t;have I:∀i,0≤i→i<(V.length:Int)→m (p i)=i:=fun i s t=>kA d.ro c2 (A2S d.str) i.toNat i (Is _) s t;have D:∀ {A B:List AE} {f:Int→Int},Ae A→WW h A B f→∀i,0≤i→i<(A.length:Int)→∀x∈Ap A i,(x.1,f x.2)∈Ap B (f i):=fun {A B f} J hf i s t x o=>by
   have r:=B9 J o;have F:=hf.arc i s t x o;obtain⟨y,C,w,v⟩:=jW (l:=Ap B (f i)) (e:=x.1) (by rw[F];exact(hf.rng _ r.1 r.2).1);rw[←w,←F,←v];exact C
  have K:Iso c V m (fun i=>0≤i∧i<(c.length:Int)):=by
   refine⟨fun i hi=>?_,fun i hi a ha=>B9 b.good ha,fun i j hi E e=>?_⟩
   ·have q:=h1.rng i hi.1 hi.2;refine sX (Zq d.str _) ?_ fun x=>⟨fun o=>?_,fun o=>?_⟩
    ·unfold Vk;rw[AAR];exact Zq b.str i
    ·have g:=D d.good n (m i) q.1 q.2 x o;rw[u i hi.1 hi.2]at g;refine GO.2 ⟨_,g,?_⟩;have r:=B9 d.good o;show (x.1,m (p x.2))=x;rw[I x.2 r.1 r.2]
    ·obtain⟨y,C,rfl⟩:=GO.1 o;exact D b.good h1 i hi.1 hi.2 y C
   ·rw[←u i hi.1 hi.2,←u j E.1 E.2,e]
  have M:=b.pos;have:=Wq K b.good ⟨by omega,by omega⟩ h1.zero b.pos L fun i hi=>by
   have q:=h1.rng i hi.1 hi.2;have w:=h1.ty i hi.1 hi.2;have v:=n.ty (m i) q.1 q.2;rw[u i hi.1 hi.2]at v;have G:=b.ty _ (AD c (0,[]) (k:=i.toNat) (by omega));have H:=d.ty _ (AD V (0,[]) (k:=(m i).toNat) (by omega));exact hu.inj _ _ H.1 H.2 G.1 G.2 v w
  rw[d.can,b.can]at this;exact this.symm
 rcases Nat.le_total c.length V.length with z|z
 ·exact key b d h1 n z
 ·exact(key d b n h1 z).symm
structure o4 (h:AJ) (a b U:List AE):Prop where
 vf:VF h U
 left:∃m,WW h a U m
 right:∃m,WW h b U m
 least:∀X,I5 h X→∀m1,WW h a X m1→∀m2,WW h b X m2→∃m,WW h U X m
 len:U.length≤a.length+b.length
theorem A5k {h:AJ} (hu:HU h) {a b d V:List AE} (h1:o4 h a b d) (c:o4 h a b V):d=V:=by
 obtain⟨l,e⟩:=c.left;obtain⟨n,f⟩:=c.right;obtain⟨o,g⟩:=h1.left;obtain⟨p,i⟩:=h1.right;obtain⟨m,j⟩:=h1.least V c.vf.ty l e n f;obtain⟨q,k⟩:=c.least d h1.vf.ty o g p i;exact A9D hu h1.vf c.vf j k
open Classical in
noncomputable def FH (h:AJ) (a b:List AE):List AE×Bool:=if H:∃U,o4 h a b U then (H.choose,true) else ([],false)
theorem SZ {h:AJ} (hu:HU h) {a b U:List AE} (h1:o4 h a b U):FH h a b=(U,true):=by
 unfold FH;have H:∃U,o4 h a b U:=⟨U,h1⟩;rw[dif_pos H,A5k hu H.choose_spec h1]
theorem kC {h:AJ} {a b:List AE} (h1:∀X,I5 h X→∀d,WW h a X d→∀e,¬WW h b X e):FH h a b=([],false):=by
 unfold FH;rw[dif_neg];rintro⟨f,c⟩;obtain⟨d,g⟩:=c.left;obtain⟨e,i⟩:=c.right;exact h1 f c.vf.ty d g e i
theorem Ms {h:AJ} {a b:List AE} (h1:(FH h a b).2=true):o4 h a b (FH h a b).1:=by
 unfold FH at h1 ⊢;split at h1
 ·rename_i H;rw[dif_pos H];exact H.choose_spec
 ·cases h1
theorem Vt {f:List AE} {e:Int} (h:e∈Ds f):∃x∈f,∃a∈x.2,a.1=e:=by
 unfold Ds at h;obtain⟨x,c,b⟩:=ACP.1 h;obtain⟨a,ha,e⟩:=GO.1 b;exact⟨x,c,a,ha,e⟩
theorem A6R {h:AJ} {N:List AE} {P:List (Int×Int)} {p ty:List Int} {ar:List (List (Int×Int))} (d:JI h N P p ty ar []) (g:Ae (quo p ty ar)) (m:0<N.length) (j:∀x∈N,∀a∈x.2,0≤a.1∧a.1<(h.2.length:Int)) {v:Int→Int} (c:A60 h N P (AQ (quo p ty ar) (El p 0)) v):VF h (AQ (quo p ty ar) (El p 0)):=by
 have f:0≤El p 0∧El p 0<((quo p ty ar).length:Int):=by
  obtain⟨n,fo⟩:=d.fo;have:=d.lp;have:=GJ fo (x:=0) (by omega) (by omega) (Ou fo (by omega) (by omega));rw[EC];exact this
 refine⟨c.good,c.pos,c.ty,c.str,fun x k a ha=>?_,A2R g f.1 f.2,c.ro⟩;obtain⟨y,l,b,i,e⟩:=Vt (c.feat x k a ha);rw[←e];exact j y l b i
theorem w7 {h:AJ} {f g:List AE} (hf:VF h f) (e:VF h g):∀x∈Ao f g,∀a∈x.2,0≤a.1∧a.1<(h.2.length:Int):=by
 intro x c;unfold Ao at c;rcases Of.1 c with c|c
 ·exact hf.ft x c
 ·obtain⟨y,i,rfl⟩:=GO.1 c;intro a ha;obtain⟨b,d,rfl⟩:=GO.1 ha;exact e.ft y i b d
theorem sY {h:AJ} {f g:List AE} (hf:VF h f) (i:VF h g) {p ty:List Int} {ar:List (List (Int×Int))} (b:JI h (Ao f g) [(0,(f.length:Int))] p ty ar []) (d:Ae (quo p ty ar)):o4 h f g (AQ (quo p ty ar) (El p 0)):=by
 have v:=hf.pos;have u:=Dt f g;have c:0<(Ao f g).length:=by omega
 have h0:=Vp b d c;have l:=Vq b d c (YO (g:=g) YP) hf.ro h0;have n:=Vq b d c (Vr (f:=f)) i.ro (A2P b (by simp) h0);have a:=A6Q b d c fun x t w=>by
  by_cases o:x<(f.length:Int)
  ·have:=l x.toNat x (Is _) t o
   rwa [show ((0:Nat):Int)+x=x by omega]at this
  ·have:=n _ (x-(f.length:Int)) (Is _) (by omega) (by omega)
   rwa [show (f.length:Int)+(x-(f.length:Int))=x by omega]at this
 refine⟨A6R b d c (w7 hf i) a,⟨_,j7 a.proj (YO (g:=g) YP) a.zero⟩,⟨_,j7 a.proj (Vr (f:=f)) (by rw[←a.proj.eq (0,(f.length:Int)) (by simp)];exact a.zero)⟩,fun X k r h1 s j=>?_,by have:=a.len;omega⟩;refine a.least X _ k (A2Q (j8 hf.good i.good (TV h1) (TV j)) fun q m=>?_) ?_
 ·have e:q=(0,(f.length:Int)):=by simpa using m
  subst e;try simp only
  rw[BY (by omega),At (by omega),Int.sub_self,h1.zero,j.zero]
 ·show (if (0:Int)<(f.length:Int) then r 0 else s (0-(f.length:Int)))=0;rw[BY (by omega)];exact h1.zero
theorem YQ {h:AJ} {f g:List AE} (hf:VF h f) (c:VF h g) (d:∀X v,I5 h X→¬sQ h (Ao f g) [(0,(f.length:Int))] X v):FH h f g=([],false):=by
 have j:=hf.pos;refine kC fun X b k h1 l a=>d X _ b (A2Q (j8 hf.good c.good (TV h1) (TV a)) fun q i=>?_);have e:q=(0,(f.length:Int)):=by simpa using i
 subst e;try simp only
 rw[BY (by omega),At (by omega),Int.sub_self,h1.zero,a.zero]
theorem kD (l:List (Int×Int)):CM 0 l=l:=by
 unfold CM;rw[tO (g:=id) (fun a _=>by show (a.1,a.2+((0:Nat):Int))=a;rw[Int.natCast_zero,ACC]),List.map_id]
theorem w8 (a b:Nat):DC 0 a++DC a b=DC 0 (a+b):=by
 unfold DC;rw[List.range_add,AAl,ABb]
 congr 1
 ·refine tO fun i _=>?_;show ((a+i:Nat):Int)=((0+(a+i):Nat):Int);rw[AAS]
theorem w9 {n k:Nat} (h:k<n):(DC 0 n).getD k 0=(k:Int):=by
 unfold DC;rw[AS,AA0,AAF h];show ((0+k:Nat):Int)=k;rw[AAS]
theorem Mt {n:Nat} {x:Int} (a:0≤x) (b:x<(n:Int)):Du (DC 0 n) x=x:=by
 unfold Du;rw[w9 (by omega)];omega
def Ow (N:List AE):List Int:=N.map (·.1)
def Vu (N:List AE):List (List (Int×Int)):=N.map (·.2)
theorem Ox (N:List AE) (k:Nat):(Ow N).getD k 0=(N.getD k (0,[])).1:=by
 unfold Ow;rw[AS,AA0,AS];cases N[k]?<;>rfl
theorem NT (N:List AE) (k:Nat):(Vu N).getD k []=(N.getD k (0,[])).2:=by
 unfold Vu;rw[AS,AA0,AS];cases N[k]?<;>rfl
theorem o5 (f g:List AE):DP f f.length++DP g g.length=Ow (Ao f g):=by
 unfold DP Ow Ao;rw[iS,iS,AAl,ABb];rfl
theorem xA (f g:List AE):Fz 0 f f.length++Fz f.length g g.length=Vu (Ao f g):=by
 unfold Fz Vu Ao;rw[iS,iS,AAl,ABb]
 congr 1
 exact tO fun x _=>kD x.2
theorem Zr {n:Nat} {x r:Int} (a:0≤x) (b:x<(n:Int)) (h:Rt (DC 0 n) x r):r=x:=h.det (.base (Mt a b))
theorem A5l {h:AJ} {N:List AE} (l:Ae N) (m:I5 h N) (hs:∀x∈N,Vk x.2):JI h N [] (DC 0 N.length) (Ow N) (Vu N) []:=by
 have f:(DC 0 N.length).length=N.length:=Km 0 N.length;refine⟨m,⟨fun _=>0,fun n n0 n1=>?_,fun n n0 n1 hn=>?_⟩,f,by simp[Ow],by simp[Vu],fun w g=>(by cases g),fun x c d=>?_,fun k a ha=>?_,fun k=>?_,fun q p=>(by cases p),fun x r c d e=>?_,fun x r c d e a ha=>?_,fun X v s o=>?_⟩
 ·rw[f]at n1 ⊢;rw[Mt n0 n1];exact⟨n0,n1⟩
 ·rw[f]at n1;exact absurd (Mt n0 n1) hn
 ·rw[Ox];exact m _ (AD N (0,[]) (by omega))
 ·rw[NT]at ha;refine⟨jV l k a ha,?_⟩;by_cases hk:k<N.length
  ·exact ACP.2 ⟨_,AD N (0,[]) hk,GO.2 ⟨a,ha,rfl⟩⟩
  ·rw[AS,dO (by omega)]at ha;cases ha
 ·rw[NT];have:=Zq hs (k:Int)
  rwa [Ap,iN]at this
 ·rw[Zr c d e,Ox];exact YI h _
 ·rw[Zr c d e,NT];have b:=B9 l ha;exact⟨a.2,ha,.cls b.1 b.2 b.1 b.2 (.base (Mt b.1 b.2)) (.base (Mt b.1 b.2))⟩
 ·refine⟨fun x r c d e=>by rw[Zr c d e],fun w g=>(by cases g),fun r i j _=>?_,fun r i j _ a ha=>?_⟩
  ·rw[Ox];exact o.ty r i j
  ·rw[NT]at ha;exact o.arc r i j a ha
theorem Lf {f g:List AE} (hf:Ae f) (d:Ae g) (j:f.length+g.length≤100000):Ae (Ao f g):=by
 have i:=Dt f g;refine⟨by omega,fun x c=>?_⟩;unfold Ao at c;rcases Of.1 c with c|c
 ·refine⟨(hf.2 x c).1,fun a ha=>?_⟩;have:=(hf.2 x c).2 a ha;omega
 ·obtain⟨y,e,rfl⟩:=GO.1 c;refine⟨by simp only[CM,To];exact(d.2 y e).1,fun a ha=>?_⟩;obtain⟨b,h,rfl⟩:=GO.1 ha;have:=(d.2 y e).2 b h;simp only;omega
theorem Kn {f g:List AE} (hf:∀x∈f,Vk x.2) (b:∀x∈g,Vk x.2):∀x∈Ao f g,Vk x.2:=by
 intro x a;unfold Ao at a;rcases Of.1 a with a|a
 ·exact hf x a
 ·obtain⟨y,c,rfl⟩:=GO.1 a;unfold Vk CM;rw[AAR];exact b y c
theorem Vv {h:AJ} {f g:List AE} (hf:I5 h f) (b:I5 h g):I5 h (Ao f g):=by
 intro x a;unfold Ao at a;rcases Of.1 a with a|a
 ·exact hf x a
 ·obtain⟨y,c,rfl⟩:=GO.1 a;exact b y c
def kE (N:List AE):Prop:=∀x∈N,∀a∈x.2,0≤a.1∧a.1<64
theorem Vx {f g:List AE} (hf:kE f) (e:kE g):kE (Ao f g):=by
 intro x c;unfold Ao at c;rcases Of.1 c with c|c
 ·exact hf x c
 ·obtain⟨y,h,rfl⟩:=GO.1 c;intro a ha;obtain⟨b,d,rfl⟩:=GO.1 ha;exact e y h b d
theorem Vy {l:List (Int×Int)} (h:Vk l) (hf:∀a∈l,0≤a.1∧a.1<64):l.length≤64:=by
 have:=sT h (S:=(List.range 64).map fun(i:Nat)=>(i:Int)) (fun a ha=>GO.2 ⟨a.1.toNat,oN.2 (by have:=hf a ha;omega),by have:=hf a ha;omega⟩)
 rwa [To,ABI]at this
theorem o6 {N:List AE} (h:∀x∈N,x.2.length≤64):(Ds N).length≤64*N.length:=by
 induction N with
 | nil=>simp[Ds]
 | cons x N b =>
  have h1:=h x (by simp);have c:=b fun y a=>h y (by simp[a]);have e:Ds (x :: N)=x.2.map (·.1)++Ds N:=rfl;rw[e,Do,To,OF];omega
theorem xB {N:List AE} (h:kE N) {e:Int} (b:e∈Ds N):0≤e∧e<64:=by
 obtain⟨x,c,a,ha,rfl⟩:=Vt b;exact h x c a ha
theorem kF {h:AJ} {N:List AE} {P:List (Int×Int)} {p ty:List Int} {ar:List (List (Int×Int))} (c:JI h N P p ty ar []) (k:N.length≤100000) (hf:kE N):Ae (quo p ty ar):=by
 have g:=EC p ty ar;obtain⟨l,fo⟩:=c.fo;have lp:=c.lp;refine⟨by omega,fun x j=>?_⟩;obtain⟨i,hi,rfl⟩:=Cf (0,[]) j;have e:=Ld (p:=p) (ty:=ty) (ar:=ar) (n:=(i:Int)) (by omega) (by omega);rw[iN]at e;rw[e];refine⟨?_,fun a ha=>?_⟩
 ·simp only[To];have:=Vy (c.srt i) (fun a ha=>xB hf (c.arr i a ha).2);omega
 ·obtain⟨b,f,rfl⟩:=GO.1 ha;have d:=(c.arr i b f).1;have:=GJ fo (x:=b.2) d.1 (by omega) (Ou fo d.1 (by omega));rw[g];exact this
theorem VF.ft64 {h:AJ} {f:List AE} (b:VF h f) (hu:HU h):kE f:=fun x c a ha=>by
 have h1:=b.ft x c a ha;have d:=hu.ft;omega
def A9E (d:List AI) (o:List ByteArray) (i:Nat):Prop:=∀j,j<i→∀x∈d,AW x.2.1 (o.getD j ByteArray.empty)=true→AW o x.1=true
theorem A2T {c:ByteArray} {o:List ByteArray} {x:AI} (h:AW x.2.1 c=true):AW (FN c o x) x.1=true:=by
 unfold FN;split
 ·rw[OX,Cw,Bool.or_true]
 ·rename_i a;rw[h,AC6,bY]at a;simpa using a
theorem YR {c:ByteArray} {x:AI} (h:AW x.2.1 c=true):∀ {l:List AI} {o:List ByteArray},x∈l→AW (l.foldl (FN c) o) x.1=true
 | [],_,a=>by cases a
 | y :: l,o,a=>by
  rw[O5];rcases By.1 a with rfl|a
  ·exact KY (fun z b=>NI b) (A2T h)
  ·exact YR h a
theorem Vz {d:List AI}:∀ {n i:Nat} {o:List ByteArray},ZL d o→d.length≤n+i→A9E d o i→i≤o.length→∃m,A9E d (Cn d n i o) m∧(Cn d n i o).length≤m
 | 0,i,o,ha,f,a,hi=>⟨i,a,by
  have:=ha.len;show o.length≤i;omega⟩
 | n+1,i,o,ha,f,a,hi=>by
  unfold Cn;split
  ·rename_i q;obtain⟨c,k⟩:=Uf (o.getD i ByteArray.empty) (l:=d) (o:=o) (fun _ h=>h) ha;refine Vz c (by omega) (fun j p x b hs=>?_) (by omega);rw[RH _ (by omega)]at hs;by_cases e:j=i
   ·subst e;exact YR hs b
   ·exact KY (fun z g=>NI g) (a j (by omega) x b hs)
  ·exact⟨i,a,by omega⟩
theorem Rh {α:Type} {p:α→Bool}:∀ {l:List α},l.countP p=1→∀x∈l,p x=true→∀y∈l,p y=true→x=y
 | [],h,x,a,_,_,_,_=>by cases a
 | z :: l,h,x,a,c,y,b,d=>by
  rw[ABi]at h;by_cases f:p z=true
  ·rw[BY f]at h;have h0:l.countP p=0:=by omega
   rw[List.countP_eq_zero]at h0;have g:x=z:=by
    rcases By.1 a with e|a
    ·exact e
    ·exact absurd c (h0 x a)
   have i:y=z:=by
    rcases By.1 b with e|b
    ·exact e
    ·exact absurd d (h0 y b)
   rw[g,i]
  ·rw[At f]at h;have a:x∈l:=by
    rcases By.1 a with e|a
    ·rw[e]at c;exact absurd c f
    ·exact a
   have b:y∈l:=by
    rcases By.1 b with e|b
    ·rw[e]at d;exact absurd d f
    ·exact b
   exact Rh (by omega) x a c y b d
theorem V0 (s:ByteArray):∀(l:List AI) (k:Nat),0≤Cv s k l→∃x∈l,Ab x.1 s=true
 | [],k,h=>by
  simp only[Cv]at h;omega
 | y :: l,k,h=>by
  simp only[Cv]at h;split at h
  ·rename_i e;exact⟨y,by simp,e⟩
  ·obtain⟨x,a,e⟩:=V0 s l (k+1) h;exact⟨x,by simp[a],e⟩
theorem o7 {d:List AI} (t:A3 d=0):∃r∈d,∀x∈d,AW (Co d r.1) x.1=true:=by
 obtain⟨hs,I,h1,hn,l⟩:=Aw t;have C:0<d.countP fun x=>x.2.1.length==0:=by
  have:Ig d=d.countP fun x=>x.2.1.length==0:=rfl;omega
 obtain⟨r,c,q⟩:=List.countP_pos_iff.1 C;refine⟨r,c,?_⟩;have D:=Df c;have u:ZL d [r.1]:=⟨fun s hs=>by
  have:s=r.1:=by simpa using hs
  rw[this];exact D,by simp⟩
 obtain⟨m,B,J⟩:=Vz (d:=d) (n:=d.length) (i:=0) u (by omega) (fun j A=>by omega) (by omega);have p:r.1∈Cn d d.length 0 [r.1]:=LS (by simp);have v:Co d r.1=KX (Cn d d.length 0 [r.1]):=by unfold Co;rw[At (by omega)]
 rw[v];generalize Cn d d.length 0 [r.1]=o at *;have key:∀(k:Nat) (x:AI),x∈d→GT d x.1≤k→AW o x.1=true:=by
  intro k;induction k with
  | zero =>
   intro x a hk;by_cases g:x.2.1.length=0
   ·have e:=Rh h1 x a (by simpa using g) r c q;rw[e];exact Fu p
   ·obtain⟨s,b⟩:∃s,s∈x.2.1:=ACl (by omega);have:=LR hn l a (Fu b);omega
  | succ k H =>
   intro x a hk;by_cases g:x.2.1.length=0
   ·have e:=Rh h1 x a (by simpa using g) r c q;rw[e];exact Fu p
   ·obtain⟨s,b⟩:∃s,s∈x.2.1:=ACl (by omega);have E:=LR hn l a (Fu b);obtain⟨y,G,e⟩:=V0 s d 0 (hs x a s b);rw[←Il d e]at E;obtain⟨z,h,f⟩:=gO.1 (H y G (by omega));obtain⟨j,A,rfl⟩:=Cf ByteArray.empty h;refine B j (by omega) x a ?_;exact gO.2 ⟨s,b,D7 (BT f e)⟩
 intro x a;obtain⟨z,h,e⟩:=gO.1 (key _ x a (Is _));obtain⟨w,F,f⟩:=gO.1 (QE (o:=[]) h);exact gO.2 ⟨w,F,BT f e⟩
abbrev cnt (c:List Int):Nat:=(Ic c).length
theorem A2V {w:Int} (a:U64 w) {r:Nat} (d:r<64):A1p w (r:Int)=w.toNat.testBit r:=by
 have h0:=a.1;have h1:=a.2;have c:w.toNat / 2 ^ r≤w.toNat:=Nat.div_le_self _ _;have e:WY .u64 w (r:Int)=((w.toNat / 2 ^ r:Nat):Int):=by
  unfold WY;have b:min ((r:Int)).toNat IntKind.u64.bits=r:=by
   show min ((r:Int)).toNat 64=r;omega
  have hp:(0:Int)≤2 ^ r:=ACU (Int.pow_pos (by decide));rw[b,ABW _ hp,Int.natCast_ediv,ABm h0];simp
 unfold A1p;rw[Nat.testBit_eq_decide_div_mod_eq,e];generalize w.toNat / 2 ^ r=z at *;rw[Ij ⟨by omega,by omega⟩ ⟨by decide,by decide⟩,iN,show (1:Int).toNat=1 from rfl,Nat.and_one_is_mod,ABx,AAq,IS];omega
theorem TW {b:List Int} (d:Ik b) (i:Nat):RE b (i:Int)=BC b i:=by
 have a:Int.tdiv (i:Int) 64=((i / 64:Nat):Int):=by rw[AAG (by omega)];omega
 have c:Int.tmod (i:Int) 64=((i % 64:Nat):Int):=by rw[ABy (by omega)];omega
 unfold RE BC;rw[a,c,iN];by_cases hk:i / 64<b.length
 ·rw[At (by rw[AAi,IS,IS];omega),A2V (BG d _) (by omega)]
 ·rw[BY (by rw[AAi,IS,IS];omega),HE hk];simp
theorem kG (c:List Int):(Ic c).Nodup:=by
 unfold Ic Nu List.Nodup;rw[AAR];refine List.Pairwise.imp (fun h e=>h ?_) (List.Pairwise.filter _ List.nodup_range);exact ACq e
theorem NU {c:List Int} (b:Ik c) {x:Int}:x∈Ic c↔∃i:Nat,x=(i:Int)∧BC c i=true:=by
 unfold Ic Nu;rw[GO];constructor
 ·rintro⟨i,hi,rfl⟩;rw[AAk]at hi;exact⟨i,rfl,by rw[←TW b];exact hi.2⟩
 ·rintro⟨i,rfl,a⟩;refine⟨i,AAk.2 ⟨oN.2 ?_,by rw[TW b];exact a⟩,rfl⟩;refine DO fun d=>?_;unfold BC at a;rw[HE (by omega)]at a;simp at a
theorem A6S {a b:List Int} (ha:Ik a) (f:Ik b) (h:∀i,BC a i=true→BC b i=true) (g:cnt b≤cnt a) (i:Nat) (hi:BC b i=true):BC a i=true:=by
 refine DO fun hn=>?_;have c:(i:Int)∉Ic a:=fun k=>by
  obtain⟨j,e,d⟩:=(NU ha).1 k;have:i=j:=ACq e;rw[this]at hn;exact hn d
 have:=Re (l:=(i:Int) :: Ic a) (l':=Ic b) (AAt.2 ⟨c,kG a⟩) fun x c=>by
  rcases By.1 c with rfl|c
  ·exact(NU f).2 ⟨i,rfl,hi⟩
  ·obtain⟨j,rfl,d⟩:=(NU ha).1 c;exact(NU f).2 ⟨j,rfl,h j d⟩
 rw[OF]at this;unfold cnt at g;omega
theorem WA (x:AP) (out:List AP):∀n,(Fv x out n=0→n=0∨GC x (out.getD 0 c0)=true)∧∀k,Fv x out n=k+1→GC x (out.getD k c0)=false
 | 0=>⟨fun _=>.inl rfl,fun k h=>by simp[Fv]at h⟩
 | n+1=>by
  obtain⟨h1,b⟩:=WA x out n;unfold Fv;split
  ·rename_i a;refine⟨fun e=>?_,b⟩;rcases h1 e with e|e
   ·subst e;exact .inr a
   ·exact .inr e
  ·rename_i a;refine⟨fun e=>by omega,fun k e=>?_⟩;have:n=k:=by omega
   subst this;simpa using a
theorem kH {a b:AP} (h:GC a b=true):cnt b.2≤cnt a.2:=by
 unfold GC at h;rw[AAi,As,IS,AAq]at h;unfold cnt;omega
theorem Zs {a b:AP} (h:GC a b=false):cnt a.2≤cnt b.2:=by
 unfold GC at h;rw[AAC,On]at h;unfold cnt;omega
def HM (out:List AP):Prop:=∀y∈out,cnt y.2≤cnt (out.getD 0 c0).2
theorem A5m {out:List AP} (h:HM out) (x:AP):HM (ZT out x):=by
 obtain⟨s1,s2⟩:=WA x out out.length;have b:=iA x out out.length;intro y a;rw[iE]at a;unfold ZT;cases hk:Fv x out out.length with
 | zero =>
  rw[AAX,AAv,ABo];have e:([x]++out).getD 0 c0=x:=rfl;rw[e];rcases a with rfl|a
  ·exact Is _
  ·have h1:=h y a;rcases s1 hk with e|e
   ·rw[nO e]at a;cases a
   ·exact TO h1 (kH e)
 | succ k =>
  have c:=Zs (s2 k hk);rw[hk]at b;have e:(out.take (k+1)++[x]++out.drop (k+1)).getD 0 c0=out.getD 0 c0:=by
   cases out with
   | nil=>simp at b
   | cons z out=>rfl
  rw[e];rcases a with rfl|a
  ·exact TO c (h _ (BF (by omega)))
  ·exact h y a
theorem kI {d:List AI}:∀ {l:List (List Int)} {o:List AP},HM o→HM (l.foldl (RM d) o)
 | [],_,h=>h
 | b :: l,o,h=>by
  rw[O5];exact kI (A5m h _)
def In (n:Nat) (c:List Int):Prop:=Ik c∧∀i,BC c i=true→i<n
theorem A6T (n:Nat):In n []:=⟨fun x a=>(by cases a),fun i hi=>by unfold BC at hi;simp at hi⟩
theorem A6U {n:Nat} {a b:List Int} (ha:In n a) (c:In n b):In n (EO a b) :=
 ⟨NL ha.1 c.1,fun i hi=>by
  rw[LY ha.1 c.1,As]at hi;exact ha.2 i hi.1⟩
theorem sZ {n:Nat} {l:List (List Int)} (h:∀c∈l,In n c) (k:Nat):In n (l.getD k []):=by
 by_cases hk:k<l.length
 ·exact h _ (BF hk)
 ·rw[RW hk];exact A6T n
theorem A5n {n:Nat} {l:List (List Int)} (h:∀c∈l,In n c) (i k:Nat):∀c∈Gj l i k,In n c:=by
 intro c a;unfold Gj at a;split at a
 ·rcases Of.1 a with a|a
  ·exact h c a
  ·have:c=EO (l.getD i []) (l.getD k []):=by simpa using a
   rw[this];exact A6U (sZ h i) (sZ h k)
 ·exact h c a
theorem s5 {q i:Nat}:∀ {n k:Nat} {l:List (List Int)},(∀c∈l,In q c)→∀c∈Gk i n k l,In q c
 | 0,_,_,h=>h
 | n+1,k,l,h=>by
  unfold Gk;split
  ·exact s5 (A5n h i k)
  ·exact h
theorem Zt {q:Nat}:∀ {n i:Nat} {l:List (List Int)},(∀c∈l,In q c)→∀c∈Ii n i l,In q c
 | 0,_,_,h=>h
 | n+1,i,l,h=>by
  unfold Ii;split
  ·exact Zt (s5 h)
  ·exact h
def Zu (h:AJ):Prop:=∀t,0≤t→t<(h.1.length:Int)→A6 h 0 t=true
theorem Mu (d:List AI):Zu (Ay d).1:=by
 have hk:=HF d;unfold Ay at hk ⊢;split
 ·intro t h0 h1;simp at h1;omega
 ·rename_i a;rw[At a]at hk;have a:(BB d).2=0:=DO a;have E:Av d=0:=by
   unfold BB at a;split at a
   ·rename_i h;exact absurd a h
   ·rename_i h;exact DO h
  obtain⟨O,-,-⟩:=CC E;obtain⟨m,Q,-⟩:=BU O;obtain⟨-,D,-,hn,P⟩:=Aw m;have L:=D6 d d.length;rw[iS]at L;have j:(AN d).length≤4096:=by omega
  obtain⟨r,z,G⟩:=o7 m;have g:∀c∈Au (AR d),In (AN d).length c:=Zt fun c k=>by
   obtain⟨s,hs,rfl⟩:=GO.1 k;exact⟨(Bt (d:=d) j s 0).2.1,fun i hi=>((Bt (d:=d) j s i).1.1 hi).1⟩
  obtain⟨s,hs,C⟩:=gO.1 (Od z);have M:s=r.1:=by
   obtain⟨x,f,rfl⟩:=Cy hs;rw[QC hn f z C]
  subst M;have p:E0 d (AN d) r.1∈Au (AR d):=by
   have hp:AR d <+: Au (AR d):=QQ 257 0 (AR d);exact hp.subset (GO.2 ⟨_,hs,rfl⟩)
  have n:∀i,i<(AN d).length→BC (E0 d (AN d) r.1) i=true:=fun i hi=>by
   refine(Bt (d:=d) j r.1 i).1.2 ⟨hi,?_⟩;obtain⟨x,f,e⟩:=Cy (BF (d:=ByteArray.empty) hi);rw[←e];exact G x f
  have F:HM (AL d):=kI fun y N=>by cases N
  have v:=Dg.2 ⟨_,p,rfl⟩;have w:0<(AL d).length:=AC8 v;have u:=F _ v;obtain⟨b,o,l⟩:=Dg.1 (BF (d:=c0) w);rw[l]at u;have J:=A6S (g b o).1 (g _ p).1 (fun i hi=>n i ((g b o).2 i hi)) u;have I:BM (Bm d) 0=b:=by
   show ((Eg (AL d) _ _).getD 0 RT).2.1=b;have:(Eg (AL d) (BB d).1 (AL d).length).getD 0 RT=(((AL d).getD 0 c0).1,((AL d).getD 0 c0).2,Xo (AL d) ((0:Nat):Int),(BB d).1.getD 0 []):=by
    unfold Eg;rw[AS,AA0,AAF w];rfl
   rw[this,l]
  have R:(Bm d).1.length=(AL d).length:=Kb _ _ _;intro t A B;refine(BO hk (by omega) (by show (0:Int)<((Bm d).1.length:Int);omega) A B).2 fun i hi=>?_;show BC (BM (Bm d) 0) i=true;rw[I];refine J i (n i ?_);have H:=B7 A B;have K:BM (Bm d) t∈Au (AR d):=by
   have e:((Bm d).1.map fun t=>t.2.1)=(AL d).map fun x=>x.2:=by
    show ((Eg _ _ _).map fun t=>t.2.1)=_;unfold Eg;rw[ABb];apply AAE
    ·simp
    ·intro i h1 D;simp[AS,show i<(AL d).length by simpa using h1]
   have q:BM (Bm d) t∈(Bm d).1.map fun t=>t.2.1:=H;rw[e]at q;obtain⟨x,f,ex⟩:=GO.1 q;obtain⟨c,k,rfl⟩:=Dg.1 f;rw[←ex];exact k
  exact(g _ K).2 i hi
theorem WB (d:List AI):Nd ((Ay d).1.1.map fun t=>t.2.1):=by
 unfold Ay;split
 ·exact⟨.nil,fun c h=>(by cases h)⟩
 ·rename_i a;have a:(BB d).2=0:=DO a;have g:Av d=0:=by
   unfold BB at a;split at a
   ·rename_i h;exact absurd a h
   ·rename_i h;exact DO h
  obtain⟨m,-,-⟩:=CC g;obtain⟨f,o,-⟩:=BU m;have hf:Nd (Au (AR d)):=TH (RY f);have e:((Bm d).1.map fun t=>t.2.1)=(AL d).map fun x=>x.2:=by
   show ((Eg _ _ _).map fun t=>t.2.1)=_;unfold Eg;rw[ABb];apply AAE
   ·simp
   ·intro i h1 n;simp[AS,show i<(AL d).length by simpa using h1]
  show Nd ((Bm d).1.map fun t=>t.2.1);rw[e];refine⟨Mm (by simpa using hf.nd),fun c k=>?_⟩;obtain⟨x,l,rfl⟩:=GO.1 k;obtain⟨b,j,rfl⟩:=Dg.1 l;exact hf.nrm b j
def A0 (n:Nat):List Int:=(List.range n).map fun(i:Nat)=>(i:Int)
theorem DD (n:Nat):(A0 n).length=n:=by simp[A0]
theorem Sa (n:Nat):A0 (n+1)=A0 n++[(n:Int)]:=by simp[A0,AAd]
theorem Fe {n k:Nat} (h:k<n):(A0 n).getD k 0=(k:Int):=by
 unfold A0;rw[AS,AA0,AAF h];rfl
def o8:Ad:={ ins:=[T3],pre:=fun(n,_)=>(0:Int)≤n∧n≤(100000:Int),out:=fun(n,_)=>[.own 3 T3 (A0 (Int.toNat n))] }
theorem A2W:Ag Tryz.prog 88 o8:=by
 refine fK [0,2,3,4,7] Tryz.func88 Tryz.ntmps88 AG ?_;rintro w0 O0 ⟨n,u⟩ b-⟨h0,h1⟩;simp only[o8,AM];repeat'(first|exact trivial|refine eS rfl ?_|refine AB ?_|refine rX b ?_ ?_|refine rC ?_ ?_<;>intro a<;>try(cases a;done))
 refine AH (ι:={i:Nat//i≤n.toNat}) (fun i=>⟨[(0,.p T3 n),(3,.sr 13 T3 0 i.1),(4,.p (.int .i64) (i.1:Int))],[(13,.arr 3 T3 (A0 i.1))]⟩) (fun i=>n.toNat-i.1) ⟨0,by omega⟩ (AC [(13,.nil)] rfl rfl ?_ ?_) (fun i=>?_)
 ·refine eM ?_;rfl
 ·exact eN
 ·obtain⟨i,hi⟩:=i;repeat'(first|exact trivial|refine eS rfl ?_|refine AB ?_|refine rX b ?_ ?_|refine rC ?_ ?_<;>intro a<;>try(cases a;done))
  ·simp only[AO];exact eV
  ·exact eV
  ·have c:(A0 i).take i=A0 i:=An (by rw[DD];exact Is i);refine⟨⟨i+1,by exact eV⟩,by simp only;exact eV,AC [(13,.nm 13)] rfl rfl ?_ ?_⟩
   ·simp only;rw[c,Sa];exact eN
   ·exact eN
  ·have hn:i=n.toNat:=by exact eV
   subst hn;exact Gd b (.inl rfl) (rv:=.tmp 2) rfl (by simp only[IT,Hv,GQ,go_sem,Nat.reduceEqDiff,reduceCtorEq,Nat.reduceAdd,Nat.reduceSub,Nat.reduceMul,Nat.reduceLeDiff,Nat.reduceLT,Int.reduceLE,Int.reduceToNat,Int.reduceNeg,↓reduceIte];exact(DD _).symm)
def EU (c:List Int) (m n:Int):Int:=if c.getD n.toNat 0<c.getD m.toNat 0 then c.getD n.toNat 0 else c.getD m.toNat 0
def Cb (c:List Int) (m n:Int):Int:=if c.getD m.toNat 0<c.getD n.toNat 0 then c.getD n.toNat 0 else c.getD m.toNat 0
def H4 (hi lo x:Int):Int:=if x=hi then lo else x
def CN (c:List Int) (m n:Int):List Int:=c.map (H4 (Cb c m n) (EU c m n))
def o9:Ad:={ ins:=[GM,T3,T3],pre:=fun(c,m,n,_)=>List.length c≤100000∧((0:Int)≤m∧m<(List.length c:Int))∧((0:Int)≤n∧n<(List.length c:Int)),out:=fun(c,m,n,_)=>[.p GM (CN c m n)] }
theorem A2X:Ag Tryz.prog 87 o9:=by
 refine fK [0,1,2,6,7,8,9,10,35,43] Tryz.func87 Tryz.ntmps87 AG ?_;rintro w0 O0 ⟨c,m,n,u⟩ d-⟨w,j,hn⟩;simp only[o9,AM];repeat'(first|exact trivial|refine eS rfl ?_|refine AB ?_|refine rX d ?_ ?_|refine rC ?_ ?_<;>intro b<;>try(cases b;done))
 ·exact⟨j,hn⟩
 ·exact⟨j,hn⟩
 ·simp only[AO];exact eV
 ·have s:(if List.getD c (Int.toNat n) 0<List.getD c (Int.toNat m) 0 then List.getD c (Int.toNat n) 0 else List.getD c (Int.toNat m) 0)=EU c m n:=rfl;have q:(if List.getD c (Int.toNat m) 0<List.getD c (Int.toNat n) 0 then List.getD c (Int.toNat n) 0 else List.getD c (Int.toNat m) 0)=Cb c m n:=rfl;rw[s,q];have k:CN c m n=c.map (H4 (Cb c m n) (EU c m n)):=rfl;generalize EU c m n=lo at *;generalize Cb c m n=hi at *;refine AH (ι:={i:Nat//i≤c.length}) (fun i=>⟨[(7,.p T3 lo),(8,.p T3 hi),(9,.sr 29 T3 0 c.length),(10,.p (.int .i64) (i.1:Int))],[(29,.arr 3 T3 ((c.take i.1).map (H4 hi lo)++c.drop i.1))]⟩) (fun i=>c.length-i.1) ⟨0,by omega⟩ (eW [(29,.nm 29)]) (fun i=>?_)
  ·obtain⟨i,g⟩:=i;have f:i<c.length→((c.take i).map (H4 hi lo)++c.drop i).getD i 0=c.getD i 0:=fun h=>by
    rw[AS,AA2 (by simp;omega)];simp only[To,OS,AAU g,AAI,AAz,ACS];rw[AS]
   have v:∀x,i<c.length→((c.take i).map (H4 hi lo)++c.drop i).set i x=(c.take i).map (H4 hi lo)++[x]++c.drop (i+1):=fun x h=>by
    rw[AAO _ _ (by simp;omega)];simp only[To,OS,AAU g,AAI];rw[ON h,ABf,oF];rfl
   have l:∀x,i<c.length→x=H4 hi lo (c.getD i 0)→(c.take i).map (H4 hi lo)++[x]++c.drop (i+1)=(c.take (i+1)).map (H4 hi lo)++c.drop (i+1):=fun x h e=>by
    rw[AX c 0 h,AAl,e];rfl
   have r:i<c.length→(c.take i).map (H4 hi lo)++c.drop i=(c.take i).map (H4 hi lo)++[c.getD i 0]++c.drop (i+1):=fun h=>by
    rw[ON h,oF,AS,AT h];rfl
   repeat'(first|exact trivial|refine eS rfl ?_|refine AB ?_|refine rX d ?_ ?_|refine rC ?_ ?_<;>intro b<;>try(cases b;done))
   ·exact b
   ·exact eV
   ·exact eV
   ·have a:i<c.length:=by exact eV
    rw[f a]at b;refine⟨⟨i+1,by omega⟩,by simp only;omega,AC [(29,.nm 29)] rfl rfl ?_ ?_⟩
    ·simp only;rw[←l lo a (by unfold H4;rw[BY b]),←v lo a];exact eN
    ·exact eN
   ·exact eV
   ·have a:i<c.length:=by exact eV
    rw[f a]at b;refine⟨⟨i+1,by omega⟩,by simp only;omega,AC [(29,.nm 29)] rfl rfl ?_ ?_⟩
    ·simp only;rw[←l (c.getD i 0) a (by unfold H4;rw[At b]),←r a];exact eN
    ·exact eN
   ·have a:c.length≤i:=by exact eV
    have o:(c.take i).map (H4 hi lo)++c.drop i=CN c m n:=by
     rw[An a,IF a,AAh,k]
    rw[o];have t:(CN c m n).take c.length=CN c m n:=An (by rw[k,To];exact Is _);exact fI d [.tmp 6] (by first|exact eR|refine bW ?_;exact t)
def EV (l:List (Int×Int)) (e:Int):Int×Bool:=match l with
 | []=>(0,false)
 | a :: r=>if a.1=e then (a.2,true) else EV r e
def pA:Ad:={ ins:=[Cl,T3],pre:=fun _=>True,out:=fun(l,e,_)=>[.p T3 (EV l e).1,.p .bool (EV l e).2],lend:=true }
theorem A2Y:Ag Tryz.prog 120 pA:=by
 refine fK [0,1,4,5,6,10,19] Tryz.func120 Tryz.ntmps120 AG ?_;rintro w0 O0 ⟨l,n,u⟩ d ⟨⟨f,-⟩,-⟩ -;simp only[AO]at f;simp only[pA,AM];repeat'(first|exact trivial|refine eS rfl ?_|refine AB ?_|refine rX d ?_ ?_|refine rC ?_ ?_<;>intro b<;>try(cases b;done))
 refine AH (ι:={k:Nat//k≤l.length∧EV (l.drop k) n=EV l n}) (fun k=>⟨[(0,.p Cl l),(1,.p T3 n),(6,.p (.int .i64) (k.1:Int))],[]⟩) (fun k=>l.length-k.1) ⟨0,by simp⟩ (eW []) (fun k=>?_)
 ·obtain⟨k,hk,a⟩:=k;repeat'(first|exact trivial|refine eS rfl ?_|refine AB ?_|refine rX d ?_ ?_|refine rC ?_ ?_<;>intro b<;>try(cases b;done))
  ·exact b
  ·exact eV
  ·have c:k<l.length:=by exact eV
   have e:l.drop k=l.getD k (0,0) :: l.drop (k+1):=by
    rw[ON c,AS,AT c];rfl
   rw[e]at a;have a:(if (l.getD k (0,0)).1=n then ((l.getD k (0,0)).2,true) else EV (l.drop (k+1)) n)=EV l n:=a;rw[BY b]at a;exact fI d [.tmp 4,.tmp 5] (by rw[←a];exact eR)
  ·exact eV
  ·have c:k<l.length:=by exact eV
   have e:l.drop k=l.getD k (0,0) :: l.drop (k+1):=by
    rw[ON c,AS,AT c];rfl
   rw[e]at a;have a:(if (l.getD k (0,0)).1=n then ((l.getD k (0,0)).2,true) else EV (l.drop (k+1)) n)=EV l n:=a;rw[At b]at a;exact⟨⟨k+1,by omega,a⟩,by simp only;omega,eW []⟩
  ·have hk:l.drop k=[]:=IF (by exact eV);rw[hk]at a;have a:(0,false)=EV l n:=a;exact fI d [.tmp 4,.tmp 5] (by rw[←a];exact eR)
def Ee (l h:List (Int×Int)):List (Int×Int):=h.filterMap fun x=>if (EV l x.1).2=true then some ((EV l x.1).1,x.2) else none
def F0 (l h:List (Int×Int)):List (Int×Int):=l++h.filter fun x=>!(EV l x.1).2
theorem WC (l h:List (Int×Int)):(F0 l h).length+(Ee l h).length=l.length+h.length:=by
 unfold F0 Ee;induction h with
 | nil=>simp
 | cons x h a =>
  simp only[Do,AAn,List.filterMap_cons,OF]at a ⊢;cases b:(EV l x.1).2
  ·simp only[ACg,AAQ,AAT,ABk,OF];omega
  ·simp only[AC7,AAT,ABk,AAQ,OF];omega
theorem Zv {l h:List (Int×Int)} {x:Int×Int} (a:(EV l x.1).2=true):Ee l (h++[x])=Ee l h++[((EV l x.1).1,x.2)]∧F0 l (h++[x])=F0 l h:=by
 unfold Ee F0;simp[List.filterMap_append,a]
theorem Zw {l h:List (Int×Int)} {x:Int×Int} (a:(EV l x.1).2=false):Ee l (h++[x])=Ee l h∧F0 l (h++[x])=F0 l h++[x]:=by
 unfold Ee F0;simp[List.filterMap_append,a]
theorem TX {l:List (Int×Int)} {e:Int} (h:(EV l e).2=true):(e,(EV l e).1)∈l:=by
 induction l with
 | nil=>cases h
 | cons a r b =>
  unfold EV at h ⊢;by_cases ha:a.1=e
  ·rw[BY ha];subst ha;exact ABq
  ·rw[At ha]at h ⊢;exact If _ (b h)
theorem kJ {l:List (Int×Int)} {e:Int} (a:Int×Int) (ha:a∈l) (d:a.1=e):(EV l e).2=true:=by
 induction l with
 | nil=>cases ha
 | cons b r f =>
  unfold EV;by_cases c:b.1=e
  ·rw[BY c]
  ·rw[At c];rcases By.1 ha with rfl|ha
   ·exact absurd d c
   ·exact f ha
def Qh:Nat→(Nat→Nat)→Nat
 | 0,_=>0
 | n+1,f=>Qh n f+f n
theorem pB {n:Nat} {f g:Nat→Nat} (h:∀k,k<n→g k=f k):Qh n g=Qh n f:=by
 induction n with
 | zero=>rfl
 | succ n a=>simp only[Qh];rw[a fun k hk=>h k (by omega),h n (by omega)]
theorem kK {n:Nat} {f g:Nat→Nat} {a:Nat} (ha:a<n) (h:∀k,k<n→k≠a→g k=f k):Qh n g+f a=Qh n f+g a:=by
 induction n with
 | zero=>omega
 | succ n b =>
  simp only[Qh];by_cases e:a=n
  ·subst e;rw[pB (n:=a) (f:=f) fun k hk=>h k (by omega) (by omega)];omega
  ·have:=b (by omega) fun k hk=>h k (by omega);have:=h n (by omega) (fun h=>e h.symm);omega
theorem kL {n:Nat} {f g:Nat→Nat} {a b:Nat} (ha:a<n) (i:b<n) (d:a≠b) (h:∀k,k<n→k≠a→k≠b→g k=f k):Qh n g+f a+f b=Qh n f+g a+g b:=by
 have h1:=kK (f:=f) (g:=fun k=>if k=a then g a else f k) ha (fun k hk j=>by simp only[At j]);have c:=kK (f:=fun k=>if k=a then g a else f k) (g:=g) i (fun k hk l=>by
  by_cases e:k=a
  ·subst e;simp
  ·simp only[At e];exact h k hk e l)
 simp only[AAQ,At (fun e:b=a=>d e.symm)]at h1 c;omega
theorem A2Z {n:Nat} {f:Nat→Nat} {a b:Nat} (ha:a<n) (e:b<n) (d:a≠b):f a+f b≤Qh n f:=by
 have:=kL (f:=f) (g:=fun k=>if k=a∨k=b then 0 else f k) ha e d (fun k _ h1 c=>by simp[h1,c]);simp at this;omega
theorem pC {n B:Nat} {f:Nat→Nat} (h:∀k,k<n→f k≤B):Qh n f≤n*B:=by
 induction n with
 | zero=>simp[Qh]
 | succ n a =>
  simp only[Qh];have:=a fun k hk=>h k (by omega);have:=h n (by omega);rw[AB0];omega
def Oy (o:List Int) (ar:List (List (Int×Int))):Nat:=Qh o.length fun k=>if o.getD k 0=(k:Int) then (ar.getD k []).length else 0
structure CI (n:Nat) (o:List Int) (ar:List (List (Int×Int))) (W:List (Int×Int)):Prop where
 lo:o.length=n
 la:ar.length=n
 rep:∀k:Nat,k<n→0≤o.getD k 0∧o.getD k 0≤(k:Int)∧o.getD (o.getD k 0).toNat 0=o.getD k 0
 wr:∀w∈W,(0≤w.1∧w.1<(n:Int))∧(0≤w.2∧w.2<(n:Int))
 ta:∀k,∀a∈ar.getD k [],0≤a.2∧a.2<(n:Int)
theorem CI.rng {n:Nat} {o:List Int} {ar:List (List (Int×Int))} {W:List (Int×Int)} (h:CI n o ar W) {x:Int} (c:0≤x) (d:x<(n:Int)):0≤o.getD x.toNat 0∧o.getD x.toNat 0<(n:Int)∧o.getD (o.getD x.toNat 0).toNat 0=o.getD x.toNat 0:=by
 obtain⟨h1,b,a⟩:=h.rep x.toNat (by omega);exact⟨h1,by omega,a⟩
theorem NV {c:List Int} {m n:Int} {k:Nat} (hk:k<c.length):(CN c m n).getD k 0=H4 (Cb c m n) (EU c m n) (c.getD k 0):=by
 unfold CN;rw[AS,AA0,AT hk,AS,AT hk];rfl
theorem Ko (c:List Int) (m n:Int):(CN c m n).length=c.length:=by simp[CN]
structure LH (o:List Int) (n:Nat) (lo hi:Int):Prop where
 l0:0≤lo
 lt:lo<hi
 h1:hi<(n:Int)
 rl:o.getD lo.toNat 0=lo
 rh:o.getD hi.toNat 0=hi
section
variable {n:Nat} {o:List Int} {ar:List (List (Int×Int))} {W:List (Int×Int)} {x y:Int}
theorem A30 (h:CI n o ar W) (i:0≤x) (j:x<(n:Int)) (k:0≤y) (l:y<(n:Int)) (a:EU o x y≠Cb o x y):LH o n (EU o x y) (Cb o x y):=by
 obtain⟨f,g,d⟩:=h.rng i j;obtain⟨b1,b2,e⟩:=h.rng k l;unfold EU Cb at a ⊢;by_cases b:o.getD y.toNat 0<o.getD x.toNat 0
 ·rw[BY b,At (by omega)];exact⟨b1,b,g,e,d⟩
 ·rw[At b]at a ⊢;by_cases c:o.getD x.toNat 0<o.getD y.toNat 0
  ·rw[BY c];exact⟨f,c,b2,d,e⟩
  ·rw[At c]at a;exact absurd rfl a
theorem s6 {w:Int×Int} (h:CI n o ar (w :: W)):CI n o ar W:=⟨h.lo,h.la,h.rep,fun u hu=>h.wr u (If _ hu),h.ta⟩
theorem I6 (l:List (List (Int×Int))) (v:List (Int×Int)) (i j:Nat) (hi:i<l.length):(l.set i v).getD j []=if j=i then v else l.getD j []:=by
 simp only[AS,AAy];by_cases e:i=j
 ·subst e;simp[hi]
 ·rw[At e,At (fun h=>e h.symm)]
theorem Hb {hi lo v:Int} (h:v≠hi):H4 hi lo v=v:=At h
theorem I7 {hi lo:Int}:H4 hi lo hi=lo:=BY rfl
theorem kM (h:CI n o ar W) (f:LH o n (EU o x y) (Cb o x y)) :
  CI n (CN o x y) (ar.set (EU o x y).toNat (F0 (ar.getD (EU o x y).toNat []) (ar.getD (Cb o x y).toNat []))) (W++Ee (ar.getD (EU o x y).toNat []) (ar.getD (Cb o x y).toNat [])):=by
 have d:=fun(k:Nat) (hk:k<n)=>NV (m:=x) (n:=y) (show k<o.length by rw[h.lo];exact hk);have j:=Ko o x y;generalize EU o x y=lo at *;generalize Cb o x y=hi at *;obtain⟨l0,lt,h1,rl,rh⟩:=f;have i:=h.lo;have g:=h.la;refine⟨by rw[j];exact i,by rw[AAm];exact g,fun k hk=>?_,fun w b=>?_,fun k a ha=>?_⟩
 ·obtain⟨p,q,r⟩:=h.rep k hk;rw[d k hk];by_cases e:o.getD k 0=hi
  ·rw[e,I7,d _ (by omega),rl,Hb (by omega)];exact⟨l0,by omega,rfl⟩
  ·rw[Hb e,d _ (by omega),r,Hb e];exact⟨p,q,rfl⟩
 ·rcases Of.1 b with b|b
  ·exact h.wr w b
  ·obtain⟨a,ha,c⟩:=ABB.1 b;split at c
   ·rename_i l;cases c;exact⟨h.ta _ _ (TX l),h.ta _ a ha⟩
   ·cases c
 ·rw[I6 _ _ _ _ (by omega)]at ha;split at ha
  ·rcases Of.1 ha with ha|ha
   ·exact h.ta _ a ha
   ·exact h.ta _ a (AAk.1 ha).1
  ·exact h.ta _ a ha
theorem WD (h:CI n o ar W) (p:LH o n (EU o x y) (Cb o x y)) :
  Oy (CN o x y) (ar.set (EU o x y).toNat (F0 (ar.getD (EU o x y).toNat []) (ar.getD (Cb o x y).toNat [])))+(Ee (ar.getD (EU o x y).toNat []) (ar.getD (Cb o x y).toNat [])).length=Oy o ar:=by
 have c:=fun(k:Nat) (hk:k<n)=>NV (m:=x) (n:=y) (show k<o.length by rw[h.lo];exact hk);have r:=Ko o x y;generalize EU o x y=lo at *;generalize Cb o x y=hi at *;obtain⟨l0,lt,h1,rl,rh⟩:=p;have q:=h.lo;have u:=h.la;have t:=WC (ar.getD lo.toNat []) (ar.getD hi.toNat []);have hs:=kL (n:=n) (f:=fun k=>if o.getD k 0=(k:Int) then (ar.getD k []).length else 0)
  (g:=fun k=>if (CN o x y).getD k 0=(k:Int) then ((ar.set lo.toNat (F0 (ar.getD lo.toNat []) (ar.getD hi.toNat []))).getD k []).length else 0)
  (a:=lo.toNat) (b:=hi.toNat) (by omega) (by omega) (by omega) (fun k hk s v=>by
   rw[c k hk,I6 _ _ _ _ (by omega),At s];by_cases e:o.getD k 0=hi
   ·rw[e,I7,At (by omega),At (by omega)]
   ·rw[Hb e])
 have d:(o.getD lo.toNat 0=((lo.toNat:Nat):Int)):=by rw[rl];omega
 have i:(o.getD hi.toNat 0=((hi.toNat:Nat):Int)):=by rw[rh];omega
 have j:((CN o x y).getD lo.toNat 0=((lo.toNat:Nat):Int)):=by rw[c _ (by omega),rl,Hb (by omega)];omega
 have l:¬((CN o x y).getD hi.toNat 0=((hi.toNat:Nat):Int)):=by rw[c _ (by omega),rh,I7];omega
 simp only[BY d,BY i,BY j,At l]at hs;rw[I6 _ _ _ _ (by omega),BY rfl]at hs;unfold Oy;rw[r,q];omega
theorem A31 (h:CI n o ar W) {lo hi:Int} (e:LH o n lo hi):(ar.getD lo.toNat []).length+(ar.getD hi.toNat []).length≤Oy o ar:=by
 obtain⟨l0,lt,h1,rl,rh⟩:=e;have g:=h.lo;have:=A2Z (n:=n) (f:=fun k=>if o.getD k 0=(k:Int) then (ar.getD k []).length else 0) (a:=lo.toNat) (b:=hi.toNat) (by omega) (by omega) (by omega);have c:(o.getD lo.toNat 0=((lo.toNat:Nat):Int)):=by rw[rl];omega
 have d:(o.getD hi.toNat 0=((hi.toNat:Nat):Int)):=by rw[rh];omega
 simp only[BY c,BY d]at this;unfold Oy;rw[g];exact this
end
def KC:Nat→List Int→List (List (Int×Int))→List (Int×Int)→List Int
 | 0,o,_,_=>o
 | _+1,o,_,[]=>o
 | k+1,o,ar,w :: W=>if EU o w.1 w.2=Cb o w.1 w.2 then KC k o ar W
  else KC k (CN o w.1 w.2) (ar.set (EU o w.1 w.2).toNat (F0 (ar.getD (EU o w.1 w.2).toNat []) (ar.getD (Cb o w.1 w.2).toNat []))) (W++Ee (ar.getD (EU o w.1 w.2).toNat []) (ar.getD (Cb o w.1 w.2).toNat []))
theorem pD (k:Nat) (o:List Int) (ar:List (List (Int×Int))):KC k o ar []=o:=by cases k<;>rfl
def E5 (c:List Int) (i:Nat):List (Int×Int):=((List.range i).filter fun(k:Nat)=>decide (c.getD k 0≠(k:Int))).map fun(k:Nat)=>((k:Int),c.getD k 0)
theorem xC (c:List Int) (i:Nat):(E5 c i).length≤i:=by
 unfold E5;rw[To];exact TO (AAK _ _) (by simp)
theorem kN {c:List Int} {i:Nat} (h:c.getD i 0≠(i:Int)):E5 c (i+1)=E5 c i++[((i:Int),c.getD i 0)]:=by
 unfold E5;have e:[i].filter (fun(k:Nat)=>decide (c.getD k 0≠(k:Int)))=[i]:=by rw[AAn,BY (by simpa using h)];rfl
 rw[AAd,ABr,AAl,e];rfl
theorem kO {c:List Int} {i:Nat} (h:c.getD i 0=(i:Int)):E5 c (i+1)=E5 c i:=by
 unfold E5;have e:[i].filter (fun(k:Nat)=>decide (c.getD k 0≠(k:Int)))=[]:=by rw[AAn,At (by simpa using h)];rfl
 rw[AAd,ABr,AAl,e,ACi,AAh]
def GW (l:List AE):List (List (Int×Int)):=l.map (·.2)
theorem Kp (l:List AE) (k:Nat):(GW l).getD k []=(l.getD k (0,[])).2:=by
 unfold GW;rw[AS,AA0,AS];cases l[k]?<;>rfl
def Ri (l:List AE) (c:List Int):List Int:=KC (Oy (A0 l.length) (GW l)+(E5 c l.length).length) (A0 l.length) (GW l) (E5 c l.length)
theorem kP {l:List AE} (e:Ae l) {c:List Int} (d:∀x∈c,0≤x∧x<(l.length:Int)) (f:c.length=l.length):CI l.length (A0 l.length) (GW l) (E5 c l.length):=by
 refine⟨DD _,by simp[GW],fun k hk=>?_,fun w b=>?_,fun k a ha=>?_⟩
 ·rw[Fe hk];exact⟨by omega,by omega,by rw[Fe (by omega)];omega⟩
 ·unfold E5 at b;obtain⟨k,hk,rfl⟩:=GO.1 b;have hk:=(AAk.1 hk).1;have hk:=oN.1 hk;refine⟨⟨by simp only;omega,by simp only;omega⟩,d _ (AD c 0 (by omega))⟩
 ·rw[Kp]at ha;by_cases hk:k<l.length
  ·exact(e.2 _ (AD l (0,[]) hk)).2 a ha
  ·rw[AS,dO (by omega)]at ha;cases ha
theorem pE {l:List AE} (a:Ae l):Oy (A0 l.length) (GW l)≤10000000000:=by
 unfold Oy;rw[DD];have:=pC (n:=l.length) (B:=100000) (f:=fun k=>if (A0 l.length).getD k 0=(k:Int) then ((GW l).getD k []).length else 0) (fun k hk=>by
  split
  ·rw[Kp];exact(a.2 _ (AD l (0,[]) hk)).1
  ·omega)
 have h1:=a.1;have:l.length*100000≤100000*100000:=oS _ h1;omega
section
attribute [local go_sem] Ud A1s
def Zx:Ad:={ ins:=[E9,T3,T3],pre:=fun(f,n,_,_)=>(0:Int)≤n∧n<(List.length f:Int),out:=fun(f,n,e,_)=>[.p T3 (EV (List.getD (f:List AE) (Int.toNat n) (0,[])).2 e).1,.p .bool (EV (List.getD (f:List AE) (Int.toNat n) (0,[])).2 e).2],lend:=true }
attribute [local go_sem] Zx
theorem A32:Ag Tryz.prog 53 Zx:=by
 refine fK [0,1,2,3,6,7,8,9,19,28] Tryz.func53 Tryz.ntmps53 AG ?_;rintro w0 O0 ⟨f,n,e,u⟩ c ⟨⟨m,hf⟩,-⟩ hn;simp only[Zx,AM];repeat'(first|exact trivial|refine eS rfl ?_|refine AB ?_|refine rX c ?_ ?_|refine rC ?_ ?_<;>intro b<;>try(cases b;done))
 ·exact hn
 ·have i:List.length (List.getD (f:List AE) (Int.toNat n) (0,[])).2≤AO:=by
   have h1:Int.toNat n<List.length f:=(ACk hn.1).2 hn.2;have:=hf _ (AD (f:List AE) (0,[]) h1);exact this.2.1
  simp only[AO]at i;generalize (List.getD (f:List AE) (Int.toNat n) (0,[])).2=l at *;refine AH (ι:={k:Nat//k≤l.length∧EV (l.drop k) e=EV l e}) (fun k=>⟨[(2,.p T3 e),(8,.p Cl l),(9,.p (.int .i64) (k.1:Int))],[]⟩) (fun k=>l.length-k.1) ⟨0,by simp⟩ (eW []) (fun k=>?_)
  ·obtain⟨k,hk,a⟩:=k;have j:k<l.length→l.drop k=l.getD k (0,0) :: l.drop (k+1):=fun h=>by
    rw[ON h,AS,AT h];rfl
   have g:k<l.length→(if (l.getD k (0,0)).1=e then ((l.getD k (0,0)).2,true) else EV (l.drop (k+1)) e)=EV l e:=fun h=>by
    rw[j h]at a;exact a
   repeat'(first|exact trivial|refine eS rfl ?_|refine AB ?_|refine rX c ?_ ?_|refine rC ?_ ?_<;>intro b<;>try(cases b;done))
   ·exact eV
   ·exact eV
   ·have d:k<l.length:=by exact eV
    have a:=g d;rw[BY b]at a;exact fI c [.tmp 6,.tmp 7] (by rw[←a];exact eR)
   ·exact eV
   ·have d:k<l.length:=by exact eV
    have a:=g d;rw[At b]at a;exact⟨⟨k+1,by omega,a⟩,by simp only;omega,eW []⟩
   ·have hk:l.drop k=[]:=IF (by exact eV);rw[hk]at a;have a:(0,false)=EV l e:=a;exact fI c [.tmp 6,.tmp 7] (by rw[←a];exact eR)
def K1 (b:List Int):List HA→Nat→Int×Bool
 | [],_=>(0,false)
 | t :: r,k=>if t.2.1=b then ((k:Int),true) else K1 b r (k+1)
def pF:Ad:={ ins:=[GN,EM],pre:=fun _=>True,out:=fun(h,b,_)=>[.p T3 (K1 b (h:AJ).1 0).1,.p .bool (K1 b (h:AJ).1 0).2],lend:=true }
attribute [local go_sem] pF
theorem A33:Ag Tryz.prog 111 pF:=by
 refine fK [0,1,2,4,5,6,11,21] Tryz.func111 Tryz.ntmps111 (AF ZF AG) ?_;rintro w0 O0 ⟨⟨l,hf⟩,b,u⟩ d ⟨⟨⟨g,-⟩,-⟩,-⟩ -;simp only[AO]at g;simp only[pF,AM];repeat'(first|exact trivial|refine eS rfl ?_|refine AB ?_|refine rX d ?_ ?_|refine rC ?_ ?_<;>intro c<;>try(cases c;done))
 refine AH (ι:={k:Nat//k≤List.length l∧K1 b (List.drop k l) k=K1 b l 0}) (fun k=>⟨[(1,.p EM b),(2,.bp 2 [] 0),(6,.p (.int .i64) (k.1:Int))],[(2,.box 31 true [.p So l,.p UZ hf])]⟩) (fun k=>List.length l-k.1) ⟨0,by simp⟩ (eW [(2,.nm 2)]) (fun k=>?_)
 ·obtain⟨k,hk,a⟩:=k;have f:k<List.length l→(if (List.getD l k RT).2.1=b then ((k:Int),true) else K1 b (List.drop (k+1) l) (k+1))=K1 b l 0:=fun h=>by
   rw[ON h]at a;rw[AS,AT h];exact a
  repeat'(first|exact trivial|refine eS rfl ?_|refine AB ?_|refine rX d ?_ ?_|refine rC ?_ ?_<;>intro c<;>try(cases c;done))
  ·exact eV
  ·have e:k<List.length l:=by exact eV
   have a:=f e;have c:(List.getD l k RT).2.1=b:=by simpa[GS] using c
   rw[BY c]at a;exact fI d [.tmp 4,.tmp 5] (by rw[←a];exact eR)
  ·exact eV
  ·have e:k<List.length l:=by exact eV
   have a:=f e;have c:¬(List.getD l k RT).2.1=b:=by simpa[GS] using c
   rw[At c]at a;exact⟨⟨k+1,by omega,a⟩,by simp only;omega,eW [(2,.nm 2)]⟩
  ·have hk:List.drop k l=[]:=IF (by exact eV);rw[hk]at a;have a:(0,false)=K1 b l 0:=a;exact fI d [.tmp 4,.tmp 5] (by rw[←a];exact eR)
def Bp (h:AJ) (a b:Int):Int×Bool:=K1 (EO (BM h a) (BM h b)) h.1 0
def WE:Ad:={ ins:=[GN,T3,T3],pre:=fun(h,a,b,_)=>((0:Int)≤a∧a<(List.length (h:AJ).1:Int))∧((0:Int)≤b∧b<(List.length (h:AJ).1:Int))∧(∀x∈(h:AJ).1,x.2.1.length≤100000),out:=fun(h,a,b,_)=>[.p T3 (Bp h a b).1,.p .bool (Bp h a b).2],lend:=true }
attribute [local go_sem] WE
theorem kQ:Ag Tryz.prog 73 WE:=by
 refine fK [0,1,2,3,6,7] Tryz.func73 Tryz.ntmps73 (AF A33 (AF mU AG)) ?_;rintro w0 O0 ⟨⟨c,hf⟩,a,b,u⟩ d-⟨ha,g,i⟩;simp only[WE,AM];have h:∀x:Int,0≤x∧x<(List.length c:Int)→List.length (BM (c,hf) x)≤100000:=fun x h1=>by
  have f:Int.toNat x<List.length c:=(ACk h1.1).2 h1.2;exact i _ (AD (c:List HA) RT f)
 repeat'(first|exact trivial|refine eS rfl ?_|refine AB ?_|refine rX d ?_ ?_|refine rC ?_ ?_<;>intro e<;>try(cases e;done))
 ·refine⟨ha,g,?_⟩;exact h a ha
 ·exact fI d [.tmp 6,.tmp 7] (by unfold Bp BM;exact eR)
end
section
attribute [local go_sem] WE
def JF (h:AJ) (l:List AE) (c:List Int):Nat→Option (List Int)
 | 0=>some (List.replicate l.length 0)
 | i+1=>match JF h l c i with
  | none=>none
  | some o=>if (Bp h (o.getD (c.getD i 0).toNat 0) (l.getD i (0,[])).1).2=true then some (o.set (c.getD i 0).toNat (Bp h (o.getD (c.getD i 0).toNat 0) (l.getD i (0,[])).1).1) else none
theorem xD {h:AJ} {l:List AE} {c:List Int} {i:Nat} (hn:JF h l c i=none):∀ {j:Nat},i≤j→JF h l c j=none:=by
 intro j b;induction j with
 | zero=>rw[show i=0 by omega]at hn;exact hn
 | succ j a =>
  by_cases e:i=j+1
  ·rw[←e];exact hn
  ·simp only[JF];rw[a (by omega)]
def Ss (c o:List Int) (i:Nat):List Int:=((List.range i).map fun(k:Nat)=>o.getD (c.getD k 0).toNat 0)++o.drop i
def I8 (h:AJ) (l:List AE) (c:List Int):List Int×Bool:=match JF h l c l.length with
 | none=>([],false)
 | some o=>((List.range l.length).map fun(k:Nat)=>o.getD (c.getD k 0).toNat 0,true)
def Rj (n:Nat) (c:List Int):Prop:=c.length=n∧∀k:Nat,k<n→0≤c.getD k 0∧c.getD k 0≤(k:Int)∧c.getD (c.getD k 0).toNat 0=c.getD k 0
theorem A34 {c o:List Int} {i:Nat} (h:i≤o.length):(Ss c o i).length=o.length:=by
 unfold Ss;simp;omega
theorem A35 {c o:List Int} {i:Nat} (hi:i<o.length) {x:Int} (d:Rj o.length c) (f:x=c.getD i 0):(Ss c o i).getD x.toNat 0=o.getD x.toNat 0:=by
 obtain⟨h1,b,a⟩:=d.2 i hi;rw[←f]at h1 b a;unfold Ss;by_cases e:x.toNat<i
 ·rw[AS,AA5 (by simpa using e),AA0,AAF e];simp only[ABd,AB7];rw[a]
 ·have e:x.toNat=i:=by omega
  rw[e,AS,AA2 (by simp)];simp only[To,ABI,AAI,AAz,ACS];rw[AS]
theorem A36 {c o:List Int} {i:Nat} (hi:i<o.length):(Ss c o i).set i (o.getD (c.getD i 0).toNat 0)=Ss c o (i+1):=by
 unfold Ss;rw[AAO _ _ (by simp)];simp only[To,ABI,AAI];rw[ON hi,ABf,AAd,AAl,oF];rfl
theorem xE (c o:List Int):Ss c o o.length=(List.range o.length).map fun(k:Nat)=>o.getD (c.getD k 0).toNat 0:=by
 unfold Ss;simp
theorem xF (c o:List Int):Ss c o 0=o:=by simp[Ss]
theorem kR (b:List Int):∀(l:List HA) (k:Nat),0≤(K1 b l k).1∧((K1 b l k).2=true→(k:Int)≤(K1 b l k).1∧(K1 b l k).1<(k:Int)+l.length)
 | [],k=>⟨by simp[K1],by simp[K1]⟩
 | t :: r,k=>by
  unfold K1;split
  ·exact⟨by simp only;omega,fun _=>⟨by simp only;omega,by simp only[OF];omega⟩⟩
  ·obtain⟨h1,a⟩:=kR b r (k+1);refine⟨h1,fun h=>?_⟩;obtain⟨c,d⟩:=a h;simp only[OF];omega
theorem xG {h:AJ} {a b:Int} (d:(Bp h a b).2=true):0≤(Bp h a b).1∧(Bp h a b).1<(h.1.length:Int):=by
 obtain⟨h1,c⟩:=kR (EO (BM h a) (BM h b)) h.1 0;have c:=c d;unfold Bp;exact⟨h1,by omega⟩
def TyR (h:AJ) (n:Nat) (o:List Int):Prop:=o.length=n∧∀k,k<n→0≤o.getD k 0∧o.getD k 0<(h.1.length:Int)
theorem Rk (l:List Int) (v:Int) (i j:Nat) (hi:i<l.length):(l.set i v).getD j 0=if j=i then v else l.getD j 0:=by
 simp only[AS,AAy];by_cases e:i=j
 ·subst e;simp[hi]
 ·rw[At e,At (fun h=>e h.symm)]
theorem Qi {h:AJ} (h0:0<h.1.length) {l:List AE} {c:List Int} (b:Rj l.length c):∀ {i:Nat} {o:List Int},i≤l.length→JF h l c i=some o→TyR h l.length o
 | 0,o,_,a=>by
  simp only[JF]at a;cases a;refine⟨by simp,fun k hk=>?_⟩;rw[AS,AAY,BY hk];exact⟨ACd _,by simp only[AB7];omega⟩
 | i+1,o,hi,a=>by
  simp only[JF]at a;cases hp:JF h l c i with
  | none=>rw[hp]at a;cases a
  | some p =>
   rw[hp]at a;simp only at a;split at a
   ·rename_i e;cases a;obtain⟨h1,d⟩:=Qi h0 b (by omega) hp;obtain⟨c1,c2,_⟩:=b.2 i (by omega);refine⟨by rw[AAm];exact h1,fun k hk=>?_⟩;rw[Rk _ _ _ _ (by omega)];split
    ·exact xG e
    ·exact d k hk
   ·cases a
def Zy:Ad:={ ins:=[GN,Em,GM],pre:=fun(h,l,c,_)=>Rj (List.length l) c∧I5 h l∧0<List.length (h:AJ).1∧List.length l≤100000∧(∀x∈(h:AJ).1,x.2.1.length≤100000),out:=fun(h,l,c,_)=>[.p GM (I8 h l c).1,.p .bool (I8 h l c).2] }
attribute [local go_sem] Zy
theorem A37:Ag Tryz.prog 89 Zy:=by
 refine fK [0,1,2,3,6,7,8,9,10,11,12,19,40,51] Tryz.func89 Tryz.ntmps89 (AF kQ AG) ?_;rintro w0 O0 ⟨⟨d,hf⟩,l,c,u⟩ g-⟨r,H,h0,K,I⟩;simp only[Zy,AM];have t:=r.1;repeat'(first|exact trivial|refine eS rfl ?_|refine AB ?_|refine rX g ?_ ?_|refine rC ?_ ?_<;>intro b<;>try(cases b;done))
 ·simp only[AO];exact eV
 ·refine AH (ι:={s:Nat×List Int//s.1≤List.length l∧JF (d,hf) l c s.1=some s.2}) (fun i=>⟨[(1,.p Em l),(2,.p GM c),(3,.bp 3 [] 0),(6,.raw (.slice none 0 0)),(7,.p .bool false),(8,.sr 15 T3 0 (List.length l)),(9,.p (.int .i64) (i.1.1:Int))],[(3,.box 31 true [.p So d,.p UZ hf]),(15,.arr 3 T3 i.1.2)]⟩) (fun i=>List.length l-i.1.1) ⟨(0,List.replicate (List.length l) 0),by simp,rfl⟩ (eW [(3,.nm 3),(15,.nm 15)]) (fun i=>?_)
  ·obtain⟨⟨i,o⟩,hi,q⟩:=i;simp only at hi q;obtain⟨f,F⟩:=Qi h0 r hi q;simp only;have w:=r.2 i;have E:=F (c.getD i 0).toNat;have G:=fun h:i<List.length l=>H _ (AD (l:List AE) (0,[]) h);have n:JF (d,hf) l c (i+1)=if (Bp (d,hf) (o.getD (c.getD i 0).toNat 0) (l.getD i (0,[])).1).2=true then some (o.set (c.getD i 0).toNat (Bp (d,hf) (o.getD (c.getD i 0).toNat 0) (l.getD i (0,[])).1).1) else none:=by
    simp only[JF,q]
   have m:I8 (d,hf) l c=match JF (d,hf) l c (List.length l) with
    | none=>([],false)
    | some o=>((List.range (List.length l)).map fun(k:Nat)=>o.getD (c.getD k 0).toNat 0,true):=rfl
   repeat'(first|exact trivial|refine eS rfl ?_|refine AB ?_|refine rX g ?_ ?_|refine rC ?_ ?_<;>intro b<;>try(cases b;done))
   ·have a:i<List.length l:=by exact eV
    obtain⟨c1,c2,v⟩:=w a;exact⟨by rw[t];exact b,⟨c1,by exact eV⟩,b,E (by omega),G a,I⟩
   ·have a:i<List.length l:=by exact eV
    rw[At (by rw[b];simp)]at n;have:=xD n (j:=List.length l) (by omega);rw[this]at m;exact fI g [.tmp 6,.tmp 7] (by rw[m];exact eR)
   ·have a:i<List.length l:=by exact eV
    obtain⟨c1,c2,v⟩:=w a;exact⟨by rw[t];assumption,c1,by exact eV⟩
   ·exact eV
   ·have a:i<List.length l:=by exact eV
    rw[BY b]at n;exact⟨⟨(i+1,_),by simp only;omega,n⟩,by simp only;omega,eW [(3,.nm 3),(15,.nm 15)]⟩
   ·have a:i=List.length l:=by exact eV
    rw[←a,q]at m;simp only at m;have A:Rj o.length c:=by rw[f];exact r
    rw[←a]at f;refine AH (ι:={j:Nat//j≤o.length}) (fun j=>⟨[(1,.p Em l),(2,.p GM c),(8,.sr 15 T3 0 (List.length l)),(12,.p (.int .i64) (j.1:Int))],[(15,.arr 3 T3 (Ss c o j.1))]⟩) (fun j=>o.length-j.1) ⟨0,by omega⟩ (AC [(15,.nm 15)] rfl rfl ?_ ?_) (fun j=>?_)
    ·refine eM ?_;rw[xF]
    ·exact eN
    ·obtain⟨j,y⟩:=j;have J:=A34 (c:=c) y;have C:=fun h:j<o.length=>A35 (x:=c.getD j 0) h A rfl;have D:=fun h:j<o.length=>A36 (c:=c) h;have B:=A.2 j;simp only;repeat'(first|exact trivial|refine eS rfl ?_|refine AB ?_|refine rX g ?_ ?_|refine rC ?_ ?_<;>intro b<;>try(cases b;done))
     ·have e:j<o.length:=by rw[f,a];exact eV
      obtain⟨c1,c2,v⟩:=B e;exact⟨by rw[t];exact b,⟨c1,by exact eV⟩,b⟩
     ·exact eV
     ·have e:j<o.length:=by rw[f,a];exact eV
      refine⟨⟨j+1,by omega⟩,by simp only;omega,AC [(15,.nm 15)] rfl rfl ?_ ?_⟩
      ·simp only;rw[←D e,←C e];exact eN
      ·exact eN
     ·have e:j=o.length:=by rw[f,a]at y ⊢;exact eV
      subst e;rw[xE,f];have z:((List.range i).map fun(k:Nat)=>o.getD (c.getD k 0).toNat 0).take (List.length l)=(List.range i).map fun(k:Nat)=>o.getD (c.getD k 0).toNat 0:=An (by simp;omega);exact fI g [.tmp 6,.tmp 7] (by rw[m];first|exact eR|refine bW ?_;rw[a]at z ⊢;exact z)
end
section
attribute [local go_sem] Zx rR
attribute [local go_sem] UX mG ne_eq not_false_eq_true
def Rl (cl:List Int) (L:List (Int×Int)) (x:Int×Int):List (Int×Int):=if (EV L x.1).2=true then L else L++[(x.1,cl.getD x.2.toNat 0)]
def I9 (cl:List Int) (L l:List (Int×Int)):List (Int×Int):=l.foldl (Rl cl) L
def Ej (cl:List Int) (g:List AE) (i:Nat) (l:List (Int×Int)):List AE:=g.set (cl.getD i 0).toNat ((g.getD (cl.getD i 0).toNat (0,[])).1,I9 cl (g.getD (cl.getD i 0).toNat (0,[])).2 l)
def DZ (l:List AE) (cl types:List Int):Nat→List AE
 | 0=>(List.range l.length).map fun(k:Nat)=>(types.getD k 0,[])
 | i+1=>Ej cl (DZ l cl types i) i (l.getD i (0,[])).2
def YS (l:List AE) (cl types:List Int) (root:Int):List AE:=Fx (DZ l cl types l.length) (cl.getD root.toNat 0)
def s7:Ad:={ ins:=[Em,GM,GM,T3],pre:=fun(l,c,t,r,_)=>Ae l∧List.length c=List.length l∧List.length t=List.length l∧(∀x∈(c:List Int),0≤x∧x<(List.length l:Int))∧((0:Int)≤r∧r<(List.length l:Int))∧List.length l*1000≤100000∧(∀x∈(l:List AE),x.2.length≤1000),out:=fun(l,c,t,r,_)=>[.p E9 (YS l c t r)] }
attribute [local go_sem] s7
def WF (types:List Int) (i:Nat):List AE:=(List.range i).map fun(k:Nat)=>(types.getD k 0,[])
theorem Rm (types:List Int) (i:Nat):(WF types i).length=i:=by simp[WF]
theorem pG (types:List Int) (i:Nat):WF types (i+1)=WF types i++[(types.getD i 0,[])]:=by simp[WF,AAd]
theorem pH (l:List AE) (c t:List Int):WF t l.length=DZ l c t 0:=rfl
theorem YT (c:List Int) (g:List AE) (i:Nat) (l:List (Int×Int)):(Ej c g i l).length=g.length:=by simp[Ej]
theorem Rn (l:List AE) (v:AE) (i j:Nat) (hi:i<l.length):(l.set i v).getD j (0,[])=if j=i then v else l.getD j (0,[]):=by
 simp only[AS,AAy];by_cases e:i=j
 ·subst e;simp[hi]
 ·rw[At e,At (fun h=>e h.symm)]
theorem xH {c:List Int} {g:List AE} {i:Nat} {l:List (Int×Int)} (hi:(c.getD i 0).toNat<g.length):(Ej c g i l).getD (c.getD i 0).toNat (0,[])=((g.getD (c.getD i 0).toNat (0,[])).1,I9 c (g.getD (c.getD i 0).toNat (0,[])).2 l):=by
 unfold Ej;rw[Rn _ _ _ _ hi,BY rfl]
theorem xI {c:List Int} {g:List AE} {i:Nat} (hi:(c.getD i 0).toNat<g.length):Ej c g i []=g:=by
 unfold Ej I9;simp only[ACE];apply ABJ;intro j;rw[AAy];split
 ·rename_i e;subst e;rw[AS,AT hi];simp[hi]
 ·rfl
theorem pI {c:List Int} {g:List AE} {i:Nat} {l:List (Int×Int)} {x:Int×Int} (hi:(c.getD i 0).toNat<g.length) :
  ((EV ((Ej c g i l).getD (c.getD i 0).toNat (0,[])).2 x.1).2=true→Ej c g i (l++[x])=Ej c g i l) ∧
  ((EV ((Ej c g i l).getD (c.getD i 0).toNat (0,[])).2 x.1).2=false→Ej c g i (l++[x])=(Ej c g i l).set (c.getD i 0).toNat (((Ej c g i l).getD (c.getD i 0).toNat (0,[])).1,((Ej c g i l).getD (c.getD i 0).toNat (0,[])).2++[(x.1,c.getD x.2.toNat 0)])):=by
 rw[xH hi];unfold Ej I9;rw[ABu];simp only[O5,ACE];refine⟨fun h=>?_,fun h=>?_⟩
 ·unfold Rl at h ⊢;rw[BY h]
 ·rw[List.set_set];unfold Rl at h ⊢;rw[At (by rw[h];simp)]
def Zz (n m:Nat) (g:List AE):Prop:=g.length=n∧∀k,(g.getD k (0,[])).2.length≤m∧∀a∈(g.getD k (0,[])).2,0≤a.2∧a.2<(n:Int)
theorem kS {c:List Int} {n:Nat} (h:c.length=n) (g:∀x∈c,0≤x∧x<(n:Int)):∀(l:List (Int×Int)) {L:List (Int×Int)} {m:Nat},L.length≤m→(∀a∈L,0≤a.2∧a.2<(n:Int))→(∀a∈l,0≤a.2∧a.2<(n:Int))→(I9 c L l).length≤m+l.length∧∀a∈I9 c L l,0≤a.2∧a.2<(n:Int)
 | [],L,m,h1,b,_=>⟨h1,b⟩
 | x :: l,L,m,h1,b,d=>by
  have i:=d x (by simp);have e:I9 c L (x :: l)=I9 c (Rl c L x) l:=rfl;rw[e];have f:(Rl c L x).length≤m+1∧∀a∈Rl c L x,0≤a.2∧a.2<(n:Int):=by
   unfold Rl;split
   ·exact⟨by omega,b⟩
   ·refine⟨by simp;omega,fun a ha=>?_⟩;rcases Of.1 ha with ha|ha
    ·exact b a ha
    ·have:a=(x.1,c.getD x.2.toNat 0):=by simpa using ha
     subst this;exact g _ (AD c 0 (by omega))
  have:=kS h g l f.1 f.2 fun a ha=>d a (by simp[ha]);simp only[OF];exact⟨by omega,this.2⟩
theorem kT {c:List Int} {n:Nat} (e:c.length=n) (d:∀x∈c,0≤x∧x<(n:Int)) {g:List AE} {m:Nat} (b:Zz n m g) {i:Nat} (hi:i<n) {l:List (Int×Int)} (f:∀a∈l,0≤a.2∧a.2<(n:Int)):Zz n (m+l.length) (Ej c g i l):=by
 have j:=d _ (AD c 0 (k:=i) (by omega));have h:(c.getD i 0).toNat<g.length:=by rw[b.1];omega
 refine⟨by rw[YT];exact b.1,fun k=>?_⟩;unfold Ej;rw[Rn _ _ _ _ h];split
 ·exact kS e d l (b.2 _).1 (b.2 _).2 f
 ·exact⟨TO (b.2 k).1 (by omega),(b.2 k).2⟩
theorem kU {l:List AE} {c t:List Int} (e:Ae l) (f:∀x∈l,x.2.length≤1000) (b:c.length=l.length) (d:∀x∈c,0≤x∧x<(l.length:Int)):∀ {i:Nat},i≤l.length→Zz l.length (i*1000) (DZ l c t i)
 | 0,_=>by
  refine⟨by simp[DZ],fun k=>?_⟩;unfold DZ;rw[AS,AA0];cases h:(List.range l.length)[k]? with
  | none=>simp
  | some j=>simp
 | i+1,hi=>by
  have g:=AD l (0,[]) (k:=i) (by omega);have:=kT b d (kU (t:=t) e f b d (i:=i) (by omega)) (i:=i) (by omega) (l:=(l.getD i (0,[])).2) (fun a ha=>(e.2 _ g).2 a ha);refine⟨this.1,fun k=>⟨TO (this.2 k).1 ?_,(this.2 k).2⟩⟩;have:=f _ g;omega
theorem xJ {n m:Nat} {g:List AE} (h:Zz n m g) (hn:n≤100000) (b:m≤100000):Ae g:=by
 refine⟨by rw[h.1];exact hn,fun x c=>?_⟩;obtain⟨k,hk,rfl⟩:=AA6.1 c;have:=h.2 k;rw[AS,AT hk]at this;refine⟨TO this.1 b,fun a ha=>?_⟩;rw[h.1];exact this.2 a ha
theorem A5o:Ag Tryz.prog 90 s7:=by
 refine fKP [0,1,2,3,8,9,10,11,12,13,14,16,20,36,50,70] [] [(30,53)] Tryz.func90 Tryz.ntmps90 (AF A32 (AF rS AG)) ?_;rintro w0 O0 ⟨l,c,t,r,u⟩ d-⟨z,n,L,v,J,N,A⟩;simp only[s7,AM];repeat'(first|exact trivial|refine eS rfl ?_|refine AB ?_|refine rX d ?_ ?_|refine rC ?_ ?_<;>intro b<;>try(cases b;done))
 refine AH (ι:={i:Nat//i≤List.length l}) (fun i=>⟨[(0,.p Em l),(1,.p GM c),(2,.p GM t),(3,.p T3 r),(8,.bp 8 [] 0),(9,.bp 9 [] 0),(10,.p (.int .i64) (i.1:Int))],[(8,.box 25 true [.raw (.slice none 0 0)]),(9,.box 25 true [.sr 31 JD 0 i.1]),(31,.nest 49 53 T3 BE (WF t i.1) none)]⟩) (fun i=>List.length l-i.1) ⟨0,by omega⟩ (AC [(8,.nm 8),(9,.nm 9),(31,.nil)] rfl rfl ?_ ?_) (fun i=>?_)
 ·refine eM ?_;rfl
 ·exact eN
 ·obtain⟨i,hi⟩:=i;repeat'(first|exact trivial|refine eS rfl ?_|refine AB ?_|refine rX d ?_ ?_|refine rC ?_ ?_<;>intro b<;>try(cases b;done))
  ·refine⟨by rw[L];exact b,(Rm t i).symm,?_⟩;rw[Rm];simp only[AO];dsimp only[Ty.den]at *;omega
  ·exact eV
  ·have e:i<List.length l:=by exact eV
   refine⟨⟨i+1,by omega⟩,by simp only;omega,AC [(8,.nm 8),(9,.nm 9),(31,.nm 31)] rfl rfl ?_ ?_⟩
   ·simp only;rw[pG];refine eM ?_;rw[Rm]
   ·exact eN
  ·have e:i=List.length l:=by exact eV
   subst e;rw[pH l c t];refine AH (ι:={i:Nat//i≤List.length l}) (fun i=>⟨[(0,.p Em l),(1,.p GM c),(3,.p T3 r),(8,.bp 8 [] 0),(9,.bp 9 [] 0),(11,.p (.int .i64) (i.1:Int))],[(8,.box 25 true [.raw (.slice none 0 0)]),(9,.box 25 true [.sr 31 JD 0 (List.length l)]),(31,.nest 49 53 T3 BE (DZ l c t i.1) none)]⟩) (fun i=>List.length l-i.1) ⟨0,by omega⟩ (eW [(8,.nm 8),(9,.nm 9),(31,.nm 31)]) (fun i=>?_)
   ·obtain⟨i,hi⟩:=i;have s:=kU (t:=t) z A n v hi;simp only;repeat'(first|exact trivial|refine eS rfl ?_|refine AB ?_|refine rX d ?_ ?_|refine rC ?_ ?_<;>intro b<;>try(cases b;done))
    ·rw[n];exact b
    ·have e:i<List.length l:=by exact eV
     have y:=v _ (AD (c:List Int) 0 (k:=i) (by omega));have C:=AD (l:List AE) (0,[]) e;have H:=A _ C;have q:=(z.2 _ C).2;have K:DZ l c t (i+1)=Ej c (DZ l c t i) i (List.getD l i (0,[])).2:=rfl;have B:(List.getD c i 0).toNat<(DZ l c t i).length:=by rw[s.1];exact eV
     generalize DZ l c t i=g at *;have m:=fun k=>kT n v s e (l:=(List.getD l i (0,[])).2.take k) (fun a ha=>q a (AAu ha));refine AH (ι:={k:Nat//k≤(List.getD l i (0,[])).2.length}) (fun k=>⟨[(0,.p Em l),(1,.p GM c),(3,.p T3 r),(8,.bp 8 [] 0),(9,.bp 9 [] 0),(11,.p (.int .i64) (i:Int)),(12,.p T3 (List.getD c i 0)),(13,.p (.int .i64) (k.1:Int))],[(8,.box 25 true [.raw (.slice none 0 0)]),(9,.box 25 true [.sr 31 JD 0 (List.length l)]),(31,.nest 49 53 T3 BE (Ej c g i ((List.getD l i (0,[])).2.take k.1)) none)]⟩) (fun k=>(List.getD l i (0,[])).2.length-k.1) ⟨0,by omega⟩ (AC [(8,.nm 8),(9,.nm 9),(31,.nm 31)] rfl rfl ?_ ?_) (fun k=>?_)
     ·refine eM ?_;exact(xI B).symm
     ·exact eN
     ·obtain⟨k,hk⟩:=k;have m:=m k;have f:=fun(x:Int×Int)=>pI (l:=(List.getD l i (0,[])).2.take k) (x:=x) B;have D:=fun(h:k<(List.getD l i (0,[])).2.length)=>AX (List.getD l i (0,[])).2 (0,0) h;simp only;generalize w:Ej c g i ((List.getD l i (0,[])).2.take k)=G at *;have j:List.take (List.length l) G=G:=An (by rw[m.1];exact Is _);have F:=m.1;repeat'(first|exact trivial|refine eS rfl ?_|refine AB ?_|refine rX d ?_ ?_|refine rC ?_ ?_<;>intro b<;>try(cases b;done))
      ·exact b
      ·exact⟨by assumption,b⟩
      ·rw[j,F];exact y
      ·rw[j]at b;refine B3 drawsAny d 19 [([3,4,5,6,7,8,9,10,11,12,13,14,15,16,17],18)] [0,1,2] (by kernel_rfl) (Ls ?_ ?_)
       ·refine⟨y,?_⟩;rw[n];exact q _ (AD (List.getD l i (0,[])).2 (0,0) (by exact eV))
       ·refine mxN d 31 ?_ ?_
        ·have:=(m.2 (Int.toNat (List.getD c i 0))).1;have M:((List.getD l i (0,[])).2.take k).length≤1000:=TO (AAo _ _) (TO hk H);simp only[AO];dsimp only[Ty.den]at *;omega
        ·refine Pp d ?_ ?_ ?_
         ·trivial
         ·exact y
         ·repeat'(first|exact trivial|refine eS rfl ?_|refine AB ?_|refine rX d ?_ ?_|refine rC ?_ ?_<;>intro b<;>try(cases b;done))
          ·exact eV
          ·have o:k<(List.getD l i (0,[])).2.length:=by exact eV
           have f:=(f (List.getD (List.getD l i (0,[])).2 k (0,0))).2 b;refine⟨⟨k+1,by omega⟩,by simp only;omega,AC [(8,.nm 8),(9,.nm 9),(31,.nm 31)] rfl rfl ?_ ?_⟩
           ·simp only;rw[D o,f];exact eN
           ·exact eN
      ·exact eV
      ·rw[j]at b;have o:k<(List.getD l i (0,[])).2.length:=by exact eV
       have f:=(f (List.getD (List.getD l i (0,[])).2 k (0,0))).1 b;refine⟨⟨k+1,by omega⟩,by simp only;omega,AC [(8,.nm 8),(9,.nm 9),(31,.nm 31)] rfl rfl ?_ ?_⟩
       ·simp only;rw[D o,f];exact eN
       ·exact eN
      ·exact eV
      ·have o:(List.getD l i (0,[])).2.take k=(List.getD l i (0,[])).2:=An (by exact eV);rw[o]at w;rw[←K]at w;refine⟨⟨i+1,by omega⟩,by simp only;omega,AC [(8,.nm 8),(9,.nm 9),(31,.nm 31)] rfl rfl ?_ ?_⟩
       ·simp only;rw[w];exact eN
       ·exact eN
    ·have e:i=List.length l:=by exact eV
     subst e;have I:YS l c t r=Fx (DZ l c t (List.length l)) (c.getD r.toNat 0):=rfl;have E:=xJ s (by omega) (by omega);have q:=s.1;have j:List.take (List.length l) (DZ l c t (List.length l))=DZ l c t (List.length l):=An (by rw[q];exact Is _);generalize DZ l c t (List.length l)=g at *;refine Gg [31] ?_;repeat'(first|exact trivial|refine eS rfl ?_|refine AB ?_|refine rX d ?_ ?_|refine rC ?_ ?_<;>intro b<;>try(cases b;done))
     ·rw[j,q,n];exact⟨J,E,v _ (AD (c:List Int) 0 (by exact eV))⟩
     ·rw[j,←I];exact fI d [.cell 8 25]
end
inductive EQ (n:Nat) (o:List Int) (W:List (Int×Int)):Int→Int→Prop
 | cls {x y:Int} (x0:0≤x) (x1:x<(n:Int)) (y0:0≤y) (y1:y<(n:Int)) (h:o.getD x.toNat 0=o.getD y.toNat 0):EQ n o W x y
 | wt {x y:Int} (h:(x,y)∈W):EQ n o W x y
 | symm {x y:Int} (h:EQ n o W x y):EQ n o W y x
 | trans {x y z:Int} (h:EQ n o W x y) (g:EQ n o W y z):EQ n o W x z
theorem EQ.mono {n:Nat} {o b:List Int} {W a:List (Int×Int)} (h1:∀x y,0≤x→x<(n:Int)→0≤y→y<(n:Int)→o.getD x.toNat 0=o.getD y.toNat 0→EQ n b a x y) (c:∀x y,(x,y)∈W→EQ n b a x y) {x y:Int} (h:EQ n o W x y):EQ n b a x y:=by
 induction h with
 | cls g i j k h=>exact h1 _ _ g i j k h
 | wt h=>exact c _ _ h
 | symm _ d=>exact .symm d
 | trans _ _ e f=>exact .trans e f
theorem EQ.nil {n:Nat} {o:List Int} {x y:Int} (h:EQ n o [] x y):o.getD x.toNat 0=o.getD y.toNat 0:=by
 induction h with
 | cls _ _ _ _ h=>exact h
 | wt h=>cases h
 | symm _ a=>exact a.symm
 | trans _ _ b c=>exact b.trans c
structure JC (h:AJ) (N:List AE) (P:List (Int×Int)) (o:List Int) (ar:List (List (Int×Int))) (W:List (Int×Int)):Prop where
 ci:CI N.length o ar W
 nd:∀k,((ar.getD k []).map (·.1)).Nodup
 sp:∀q∈P,EQ N.length o W q.1 q.2
 sa:∀x,0≤x→x<(N.length:Int)→∀a∈Ap N x,∃t,(a.1,t)∈ar.getD (o.getD x.toNat 0).toNat []∧EQ N.length o W a.2 t
 co:∀X v,sQ h N P X v→(∀x,0≤x→x<(N.length:Int)→v x=v (o.getD x.toNat 0))∧(∀w∈W,v w.1=v w.2)∧(∀r,0≤r→r<(N.length:Int)→o.getD r.toNat 0=r→∀a∈ar.getD r.toNat [],Qc (Ap X (v r)) a.1=v a.2)
section
variable {h:AJ} {N:List AE} {P:List (Int×Int)} {o:List Int} {ar:List (List (Int×Int))} {W:List (Int×Int)} {w:Int×Int}
theorem Z0 (o:List Int) (x y:Int):(EU o x y=o.getD x.toNat 0∧Cb o x y=o.getD y.toNat 0)∨(EU o x y=o.getD y.toNat 0∧Cb o x y=o.getD x.toNat 0):=by
 unfold EU Cb;by_cases a:o.getD y.toNat 0<o.getD x.toNat 0
 ·rw[BY a,At (by omega)];exact .inr ⟨rfl,rfl⟩
 ·rw[At a];by_cases b:o.getD x.toNat 0<o.getD y.toNat 0
  ·rw[BY b];exact .inl ⟨rfl,rfl⟩
  ·rw[At b];exact .inl ⟨rfl,by omega⟩
theorem A5p (c:JC h N P o ar (w :: W)) (j:EU o w.1 w.2=Cb o w.1 w.2):JC h N P o ar W:=by
 have d:=c.ci.wr w (by simp);have m:o.getD w.1.toNat 0=o.getD w.2.toNat 0:=by
  rcases Z0 o w.1 w.2 with ⟨h1,b⟩|⟨h1,b⟩
  ·rw[←h1,←b,j]
  ·rw[←h1,←b,j]
 have k:∀ {x y},EQ N.length o (w :: W) x y→EQ N.length o W x y:=fun {x y} g=>g.mono (fun x y f i s z e=>.cls f i s z e) fun x y r=>by
  rcases By.1 r with e|e
  ·subst e;exact .cls d.1.1 d.1.2 d.2.1 d.2.2 m
  ·exact .wt e
 refine⟨s6 c.ci,c.nd,fun q n=>k (c.sp q n),fun x f i a ha=>?_,fun X v p=>?_⟩
 ·obtain⟨t,h1,b⟩:=c.sa x f i a ha;exact⟨t,h1,k b⟩
 ·obtain⟨h1,b,l⟩:=c.co X v p;exact⟨h1,fun u hu=>b u (If _ hu),l⟩
theorem A5q {l g:List (Int×Int)} (f:(l.map (·.1)).Nodup) (d:(g.map (·.1)).Nodup):((F0 l g).map (·.1)).Nodup:=by
 unfold F0;rw[AAl,AAN];refine⟨f,(d.sublist ((ACu).map _)),fun x h y i e=>?_⟩;obtain⟨a,ha,rfl⟩:=GO.1 h;obtain⟨b,c,rfl⟩:=GO.1 i;have c:=(AAk.1 c).2;rw[kJ a ha e]at c;cases c
theorem A38 (d:JC h N P o ar (w :: W)) (V:EU o w.1 w.2≠Cb o w.1 w.2) :
  JC h N P (CN o w.1 w.2) (ar.set (EU o w.1 w.2).toNat (F0 (ar.getD (EU o w.1 w.2).toNat []) (ar.getD (Cb o w.1 w.2).toNat []))) (W++Ee (ar.getD (EU o w.1 w.2).toNat []) (ar.getD (Cb o w.1 w.2).toNat [])):=by
 have b:=d.ci.wr w (by simp);have L:=A30 d.ci b.1.1 b.1.2 b.2.1 b.2.2 V;have T:=kM (s6 d.ci) L;have U:=fun(k:Nat) (hk:k<N.length)=>NV (m:=w.1) (n:=w.2) (show k<o.length by rw[d.ci.lo];exact hk);have M:=Z0 o w.1 w.2;have ag:=d.ci.la;have Z:=fun x=>d.ci.rng (x:=x);generalize CN o w.1 w.2=C at *;generalize EU o w.1 w.2=lo at *;generalize Cb o w.1 w.2=hi at *;obtain⟨l0,lt,h1,rl,rh⟩:=L;have l:∀x,0≤x→x<(N.length:Int)→C.getD x.toNat 0=H4 hi lo (o.getD x.toNat 0):=fun x f i=>U _ (by omega);have ad:C.getD w.1.toNat 0=C.getD w.2.toNat 0:=by
  rw[l _ b.1.1 b.1.2,l _ b.2.1 b.2.2];rcases M with ⟨j,c⟩|⟨j,c⟩
  ·rw[←j,←c,I7,Hb (by omega)]
  ·rw[←j,←c,I7,Hb (by omega)]
 generalize F:W++Ee (ar.getD lo.toNat []) (ar.getD hi.toNat [])=K at *;have O:∀ {x y},EQ N.length o (w :: W) x y→EQ N.length C K x y:=fun {x y} g=>g.mono (fun x y f i Q R e=>.cls f i Q R (by rw[l x f i,l y Q R,e])) fun x y af=>by
  rcases By.1 af with e|e
  ·subst e;exact .cls b.1.1 b.1.2 b.2.1 b.2.2 ad
  ·exact .wt (by rw[←F];exact AAp _ e)
 have S:∀x∈ar.getD hi.toNat [],(EV (ar.getD lo.toNat []) x.1).2=true→((EV (ar.getD lo.toNat []) x.1).1,x.2)∈K:=fun x ae p=>by
  rw[←F];exact ABa _ (ABB.2 ⟨x,ae,by rw[BY p]⟩)
 refine⟨T,fun k=>?_,fun q Y=>O (d.sp q Y),fun x f i a ha=>?_,fun X v ab=>?_⟩
 ·rw[I6 _ _ _ _ (by omega)];split
  ·exact A5q (d.nd _) (d.nd _)
  ·exact d.nd k
 ·obtain⟨t,A,s⟩:=d.sa x f i a ha;have s:=O s;rw[l x f i];obtain⟨I,J,ah⟩:=Z x f i;by_cases e:o.getD x.toNat 0=hi
  ·rw[e,I7];rw[e]at A;rw[I6 _ _ _ _ (by omega),BY rfl];cases p:(EV (ar.getD lo.toNat []) a.1).2 with
   | true=>exact⟨_,AAp _ (TX p),s.trans (.symm (.wt (S (a.1,t) A p)))⟩
   | false=>exact⟨t,ABa _ (AAk.2 ⟨A,by show (!(EV (ar.getD lo.toNat []) a.1).2)=true;rw[p];rfl⟩),s⟩
  ·rw[Hb e,I6 _ _ _ _ (by omega)];split
   ·rename_i c;refine⟨t,AAp _ ?_,s⟩;rw[←c];exact A
   ·exact⟨t,A,s⟩
 ·obtain⟨c1,c2,z⟩:=d.co X v ab;have H:v lo=v hi:=by
   have e:=c2 w (by simp);have j:=c1 w.1 b.1.1 b.1.2;have c:=c1 w.2 b.2.1 b.2.2;rcases M with ⟨D,E⟩|⟨D,E⟩
   ·rw[D,E,←j,←c,e]
   ·rw[D,E,←j,←c,e]
  refine⟨fun x f i=>?_,fun u hu=>?_,fun r I J B a ha=>?_⟩
  ·rw[l x f i,c1 x f i];by_cases e:o.getD x.toNat 0=hi
   ·rw[e,I7,H]
   ·rw[Hb e]
  ·rw[←F]at hu;rcases Of.1 hu with hu|hu
   ·exact c2 u (If _ hu)
   ·obtain⟨a,ha,G⟩:=ABB.1 hu;split at G
    ·rename_i p;cases G;have j:=z lo l0 (by omega) rl _ (TX p);have c:=z hi (by omega) h1 rh a ha;rw[←H,j]at c;exact c
    ·cases G
  ·rw[I6 _ _ _ _ (by omega)]at ha;rw[l r I J]at B;have aa:o.getD r.toNat 0=r:=by
    by_cases e:o.getD r.toNat 0=hi
    ·rw[e,I7]at B;rw[←B];exact rl
    ·rw[Hb e]at B;exact B
   split at ha
   ·rename_i c;have c:r=lo:=by omega
    rcases Of.1 ha with ha|ha
    ·rw[c];exact z lo l0 (by omega) rl a ha
    ·rw[c,H];exact z hi (by omega) h1 rh a (AAk.1 ha).1
   ·exact z r I J aa a ha
end
theorem WG {h:AJ} {N:List AE} {P:List (Int×Int)}:∀(k:Nat) {o:List Int} {ar:List (List (Int×Int))} {W:List (Int×Int)},JC h N P o ar W→Oy o ar+W.length≤k→∃d,JC h N P (KC k o ar W) d []
 | 0,o,ar,W,a,hk=>by
  have:W=[]:=nO (by omega);subst this;exact⟨ar,a⟩
 | k+1,o,ar,[],a,hk=>⟨ar,a⟩
 | k+1,o,ar,w :: W,a,hk=>by
  simp only[KC];simp only[OF]at hk;split
  ·rename_i f;exact WG k (A5p a f) (by omega)
  ·rename_i c;have b:=a.ci.wr w (by simp);have e:=A30 a.ci b.1.1 b.1.2 b.2.1 b.2.2 c;have g:=WD a.ci e;exact WG k (A38 a c) (by rw[Do];omega)
theorem A39 {c:List Int} {n:Nat} {w:Int×Int} (a:w∈E5 c n):∃k:Nat,k<n∧c.getD k 0≠(k:Int)∧w=((k:Int),c.getD k 0):=by
 unfold E5 at a;obtain⟨k,hk,rfl⟩:=GO.1 a;obtain⟨h1,b⟩:=AAk.1 hk;exact⟨k,oN.1 h1,by simpa using b,rfl⟩
theorem A3a {c:List Int} {n k:Nat} (hk:k<n) (h:c.getD k 0≠(k:Int)):((k:Int),c.getD k 0)∈E5 c n:=by
 unfold E5;exact GO.2 ⟨k,AAk.2 ⟨oN.2 hk,by simpa using h⟩,rfl⟩
theorem Sb {n:Nat} {x y:Int} (c:0≤x) (d:x<(n:Int)) (e:0≤y) (f:y<(n:Int)):((EU (A0 n) x y=x∧Cb (A0 n) x y=y)∨(EU (A0 n) x y=y∧Cb (A0 n) x y=x))∧∀k:Nat,k<n→(CN (A0 n) x y).getD k 0=H4 (Cb (A0 n) x y) (EU (A0 n) x y) (k:Int):=by
 have a:(A0 n).getD x.toNat 0=x:=by rw[Fe (by omega)];omega
 have b:(A0 n).getD y.toNat 0=y:=by rw[Fe (by omega)];omega
 refine⟨?_,fun k hk=>?_⟩
 ·have:=Z0 (A0 n) x y;rw[a,b]at this;exact this
 ·rw[NV (by rw[DD];exact hk),Fe hk]
theorem A3b {h:AJ} {N:List AE} (o:Ae N) (hs:∀k,((N.getD k (0,[])).2.map (·.1)).Nodup) {x y:Int} (l:0≤x) (m:x<(N.length:Int)) (E:0≤y) (F:y<(N.length:Int)):JC h N [(x,y)] (A0 N.length) (GW N) (E5 (CN (A0 N.length) x y) N.length):=by
 obtain⟨f,j⟩:=Sb l m E F;have p:=Ko (A0 N.length) x y;rw[DD]at p;generalize CN (A0 N.length) x y=c at *;generalize EU (A0 N.length) x y=lo at *;generalize Cb (A0 N.length) x y=hi at *;have u:∀z∈c,0≤z∧z<(N.length:Int):=fun z B=>by
  obtain⟨k,hk,rfl⟩:=AA6.1 B;have:=j k (by omega);rw[AS,AT hk]at this;simp only[AB7]at this;rw[this];unfold H4;split
  ·rcases f with ⟨e,_⟩|⟨e,_⟩<;>rw[e]<;>omega
  ·omega
 have t:lo≠hi→(hi,lo)∈E5 c N.length:=fun g=>by
  have h0:0≤hi∧hi<(N.length:Int):=by rcases f with ⟨_,e⟩|⟨_,e⟩<;>rw[e]<;>omega
  have b:((hi.toNat:Nat):Int)=hi:=by omega
  have d:=j hi.toNat (by omega);rw[b,I7]at d;have:=A3a (c:=c) (n:=N.length) (k:=hi.toNat) (by omega) (by rw[d,b];exact g);rw[b,d]at this;exact this
 refine⟨kP o u p,fun k=>?_,fun q i=>?_,fun z G H a ha=>?_,fun X v s=>?_⟩
 ·rw[Kp];exact hs k
 ·have:q=(x,y):=by simpa using i
  subst this;simp only;by_cases e:lo=hi
  ·have:x=y:=by rcases f with ⟨b,d⟩|⟨b,d⟩<;>omega
   subst this;exact .cls l m l m rfl
  ·rcases f with ⟨b,d⟩|⟨b,d⟩
   ·rw[←b,←d];exact .symm (.wt (t e))
   ·rw[←b,←d];exact .wt (t e)
 ·refine⟨a.2,?_,?_⟩
  ·rw[Fe (by omega),Kp,iN];exact ha
  ·have:=(o.2 _ (AD N (0,[]) (k:=z.toNat) (by omega))).2 a ha;exact .cls this.1 this.2 this.1 this.2 rfl
 ·refine⟨fun z G H=>?_,fun w A=>?_,fun r C D _ a ha=>?_⟩
  ·rw[Fe (by omega)]
   congr 1
   omega
  ·obtain⟨k,hk,g,rfl⟩:=A39 A;simp only;rw[j k hk]at g ⊢;by_cases e:(k:Int)=hi
   ·rw[e,I7];have i:=s.eq (x,y) (by simp);simp only at i;rcases f with ⟨b,d⟩|⟨b,d⟩
    ·rw[b,d];exact i.symm
    ·rw[b,d];exact i
   ·rw[Hb e]at g;exact absurd rfl g
  ·rw[Kp]at ha;exact s.arc r C D a ha
theorem A6V {N:List AE} (hs:∀x∈N,Vk x.2) (k:Nat):((N.getD k (0,[])).2.map (·.1)).Nodup:=by
 have:Vk (N.getD k (0,[])).2:=by
  by_cases hk:k<N.length
  ·exact hs _ (AD N (0,[]) hk)
  ·rw[AS,dO (by omega)];exact List.Pairwise.nil
 rw[List.Nodup,AAR];exact this.imp fun h e=>by omega
theorem xK {h:AJ} {N:List AE} (a:Ae N) (hs:∀k,((N.getD k (0,[])).2.map (·.1)).Nodup) {x y:Int} (b:0≤x) (c:x<(N.length:Int)) (d:0≤y) (e:y<(N.length:Int)):∃ar,JC h N [(x,y)] (Ri N (CN (A0 N.length) x y)) ar [] :=
 WG _ (A3b a hs b c d e) (Is _)
def Su (h:AJ):Prop:=∀t∈h.1,Nrm t.2.1
theorem WH {b:List Int}:∀ {l:List HA} {k:Nat},(K1 b l k).2=true→∃j:Nat,j<l.length∧(K1 b l k).1=((k+j:Nat):Int)∧(l.getD j RT).2.1=b
 | [],k,h=>by cases h
 | t :: r,k,h=>by
  unfold K1 at h ⊢;by_cases e:t.2.1=b
  ·rw[BY e];exact⟨0,by simp,by simp,by simpa using e⟩
  ·rw[At e]at h ⊢;obtain⟨j,h1,a,c⟩:=WH h;exact⟨j+1,by simp only[OF];omega,by rw[a];congr 1;omega,by simpa using c⟩
theorem kV {b:List Int}:∀ {l:List HA} {k:Nat},(∃t∈l,t.2.1=b)→(K1 b l k).2=true
 | [],k,⟨t,c,_⟩=>by cases c
 | t :: r,k,⟨u,hu,e⟩=>by
  unfold K1;by_cases a:t.2.1=b
  ·rw[BY a]
  ·rw[At a];rcases By.1 hu with rfl|hu
   ·exact absurd e a
   ·exact kV ⟨u,hu,e⟩
theorem xL {h:AJ} (hk:HW h) (hn:Su h) {a b:Int} (a0:0≤a) (g:a<(h.1.length:Int)) (k:0≤b) (b1:b<(h.1.length:Int)) :
  ((Bp h a b).2=true→0≤(Bp h a b).1∧(Bp h a b).1<(h.1.length:Int)∧∀i,iW h (Bp h a b).1 i=(iW h a i&&iW h b i))∧((∃i,iW h a i=true∧iW h b i=true)→(Bp h a b).2=true):=by
 have d:=hk.1.wds _ (B7 a0 g);have f:=hk.1.wds _ (B7 k b1);refine⟨fun o=>?_,fun hi=>?_⟩
 ·obtain⟨j,h1,c,n⟩:=WH o;have c:(Bp h a b).1=((0+j:Nat):Int):=c;refine⟨by omega,by omega,fun i=>?_⟩;have e:BM h (Bp h a b).1=EO (BM h a) (BM h b):=by
   rw[←n];unfold BM;rw[c];simp
  unfold iW;rw[e,LY d f]
 ·obtain⟨t,l,e⟩:=hk.1.meet _ (B7 a0 g) _ (B7 k b1) hi;obtain⟨x,m,rfl⟩:=GO.1 l;exact kV ⟨x,m,Zd (hk.1.wds _ l) (NL d f) (hn x m) (LZ _) fun i=>by rw[e i,LY d f]⟩
theorem F1 {h:AJ} (hk:HW h) (hn:Su h) {a b:Int} (a0:0≤a) (l:a<(h.1.length:Int)) (m:0≤b) (b1:b<(h.1.length:Int)) :
  ((Bp h a b).2=true→0≤(Bp h a b).1∧(Bp h a b).1<(h.1.length:Int)∧A6 h a (Bp h a b).1=true∧A6 h b (Bp h a b).1=true) ∧
  ∀x,0≤x→x<(h.1.length:Int)→A6 h a x=true→A6 h b x=true→(Bp h a b).2=true∧A6 h (Bp h a b).1 x=true:=by
 obtain⟨q,t⟩:=xL hk hn a0 l m b1;refine⟨fun e=>?_,fun x g k r s=>?_⟩
 ·obtain⟨c,d,f⟩:=q e;refine⟨c,d,(BO hk a0 l c d).2 fun i hi=>?_,(BO hk m b1 c d).2 fun i hi=>?_⟩
  ·rw[f i,As]at hi;exact hi.1
  ·rw[f i,As]at hi;exact hi.2
 ·have n:=(BO hk a0 l g k).1 r;have o:=(BO hk m b1 g k).1 s;obtain⟨i,hi⟩:=hk.1.some _ (B7 g k);have e:=t ⟨i,n i hi,o i hi⟩;obtain⟨c,d,f⟩:=q e;refine⟨e,(BO hk c d g k).2 fun j p=>?_⟩;rw[f j,As];exact⟨n j p,o j p⟩
section
variable {h:AJ} {N:List AE} {c:List Int}
theorem WI (a:I5 h N) {x:Nat} (b:x<N.length):0≤(N.getD x (0,[])).1∧(N.getD x (0,[])).1<(h.1.length:Int):=a _ (AD N (0,[]) b)
theorem s8 (hk:HW h) (hn:Su h) (h0:0<h.1.length) (f:I5 h N) (a:Rj N.length c):∀ {i:Nat} {p:List Int},i≤N.length→JF h N c i=some p→∀x,x<i→A6 h (N.getD x (0,[])).1 (p.getD (c.getD x 0).toNat 0)=true
 | 0,p,_,_,x,m=>by omega
 | i+1,p,hi,hp,x,m=>by
  simp only[JF]at hp;cases b:JF h N c i with
  | none=>rw[b]at hp;cases hp
  | some q =>
   rw[b]at hp;simp only at hp;split at hp
   ·rename_i l;cases hp;obtain⟨u,t⟩:=Qi h0 a (by omega) b;obtain⟨v,w,y⟩:=a.2 i (by omega);have d:=t (c.getD i 0).toNat (by omega);have ti:=WI f (x:=i) (by omega);obtain⟨n,o,r,s⟩:=(F1 hk hn d.1 d.2 ti.1 ti.2).1 l;obtain⟨s1,s2,z⟩:=a.2 x (by omega);rw[Rk _ _ _ _ (by omega)];by_cases e:x=i
    ·subst e;rw[BY rfl];exact s
    ·have g:=s8 hk hn h0 f a (by omega) b x (by omega);split
     ·rename_i k;rw[k]at g;have j:=WI f (x:=x) (by omega);exact Lc hk j.1 j.2 d.1 d.2 n o g r
     ·exact g
   ·cases hp
theorem Oz (hk:HW h) (hn:Su h) (h0:0<h.1.length) (j:Zu h) (g:I5 h N) (a:Rj N.length c) {u:Nat→Int} (hu:∀k,k<N.length→0≤u k∧u k<(h.1.length:Int)) (b:∀x,x<N.length→A6 h (N.getD x (0,[])).1 (u (c.getD x 0).toNat)=true) :
  ∀ {i:Nat},i≤N.length→∃p,JF h N c i=some p∧∀k,k<N.length→A6 h (p.getD k 0) (u k)=true
 | 0,_=>by
  refine⟨_,rfl,fun k hk=>?_⟩;rw[AS,AAY,BY hk];exact j _ (hu k hk).1 (hu k hk).2
 | i+1,hi=>by
  obtain⟨q,d,f⟩:=Oz hk hn h0 j g a hu b (i:=i) (by omega);obtain⟨s,r⟩:=Qi h0 a (by omega) d;obtain⟨t,v,w⟩:=a.2 i (by omega);have m:=r (c.getD i 0).toNat (by omega);have ti:=WI g (x:=i) (by omega);have l:=hu (c.getD i 0).toNat (by omega);obtain⟨n,o⟩:=(F1 hk hn m.1 m.2 ti.1 ti.2).2 _ l.1 l.2 (f _ (by omega)) (b i (by omega));refine⟨q.set (c.getD i 0).toNat (Bp h (q.getD (c.getD i 0).toNat 0) (N.getD i (0,[])).1).1,by simp only[JF,d];rw[BY n],fun k hk=>?_⟩;rw[Rk _ _ _ _ (by omega)];split
  ·rename_i e;rw[e];exact o
  ·exact f k hk
end
theorem YU (c:List Int):∀(l L:List (Int×Int)),(L.map (·.1)).Nodup→((I9 c L l).map (·.1)).Nodup∧(∀a∈L,a∈I9 c L l)∧(∀a∈I9 c L l,a∈L∨∃b∈l,a=(b.1,c.getD b.2.toNat 0))∧(∀b∈l,∃t,(b.1,t)∈I9 c L l)
 | [],L,f=>⟨f,fun _ h=>h,fun _ h=>.inl h,fun _ h=>by cases h⟩
 | x :: l,L,f=>by
  have e:I9 c L (x :: l)=I9 c (Rl c L x) l:=rfl;rw[e];have h1:((Rl c L x).map (·.1)).Nodup∧(∀a∈L,a∈Rl c L x)∧(∀a∈Rl c L x,a∈L∨a=(x.1,c.getD x.2.toNat 0))∧∃t,(x.1,t)∈Rl c L x:=by
   unfold Rl;split
   ·rename_i g;exact⟨f,fun _ h=>h,fun _ h=>.inl h,_,TX g⟩
   ·rename_i g;refine⟨?_,fun _ h=>AAp _ h,fun a h=>?_,c.getD x.2.toNat 0,ABa _ (by simp)⟩
    ·rw[AAl,AAN];refine⟨f,by simp,fun y k z i e=>?_⟩;obtain⟨a,ha,rfl⟩:=GO.1 k;have i:z=x.1:=by simpa using i
     exact g (kJ a ha (e.trans i))
    ·rcases Of.1 h with h|h
     ·exact .inl h
     ·exact .inr (by simpa using h)
  obtain⟨n1,s1,m,p,j⟩:=h1;obtain⟨o,s2,n,c2⟩:=YU c l _ n1;refine⟨o,fun a ha=>s2 a (s1 a ha),fun a ha=>?_,fun b d=>?_⟩
  ·rcases n a ha with h|⟨b,d,h⟩
   ·rcases m a h with h|h
    ·exact .inl h
    ·exact .inr ⟨x,by simp,h⟩
   ·exact .inr ⟨b,by simp[d],h⟩
  ·rcases By.1 d with rfl|d
   ·exact⟨p,s2 _ j⟩
   ·exact c2 b d
structure A61 (N:List AE) (c t:List Int) (i:Nat) (g:List AE):Prop where
 len:g.length=N.length
 ty:∀k,k<N.length→(g.getD k (0,[])).1=t.getD k 0
 nd:∀k,((g.getD k (0,[])).2.map (·.1)).Nodup
 inn:∀k,∀a∈(g.getD k (0,[])).2,∃x,x<i∧(c.getD x 0).toNat=k∧∃b∈(N.getD x (0,[])).2,b.1=a.1∧a.2=c.getD b.2.toNat 0
 cov:∀x,x<i→∀b∈(N.getD x (0,[])).2,∃u,(b.1,u)∈(g.getD (c.getD x 0).toNat (0,[])).2
theorem YV {N:List AE} {c t:List Int} (m:Rj N.length c):∀ {i:Nat},i≤N.length→A61 N c t i (DZ N c t i)
 | 0,_=>by
  have f:∀k,(DZ N c t 0).getD k (0,[])=if k<N.length then (t.getD k 0,[]) else (0,[]):=fun k=>by
   unfold DZ;rw[AS,AA0];by_cases hk:k<N.length
   ·rw[AAF hk,BY hk];rfl
   ·rw[dO (by simp;omega),At hk];rfl
  refine⟨by simp[DZ],fun k hk=>by rw[f,BY hk],fun k=>?_,fun k a ha=>?_,fun x o=>by omega⟩
  ·rw[f];split<;>simp
  ·rw[f]at ha;split at ha<;>cases ha
 | i+1,hi=>by
  have d:=YV (t:=t) m (i:=i) (by omega);obtain⟨v,w,y⟩:=m.2 i (by omega);have n:(c.getD i 0).toNat<(DZ N c t i).length:=by rw[d.len];omega
  have e:DZ N c t (i+1)=Ej c (DZ N c t i) i (N.getD i (0,[])).2:=rfl;rw[e];generalize DZ N c t i=g at *;obtain⟨p,q,r,s⟩:=YU c (N.getD i (0,[])).2 (g.getD (c.getD i 0).toNat (0,[])).2 (d.nd _);have f:∀k,(Ej c g i (N.getD i (0,[])).2).getD k (0,[])=if k=(c.getD i 0).toNat then ((g.getD k (0,[])).1,I9 c (g.getD k (0,[])).2 (N.getD i (0,[])).2) else g.getD k (0,[]):=fun k=>by
   unfold Ej;rw[Rn _ _ _ _ n];by_cases e:k=(c.getD i 0).toNat
   ·rw[BY e,BY e,e]
   ·rw[At e,At e]
  refine⟨by rw[YT];exact d.len,fun k hk=>?_,fun k=>?_,fun k a ha=>?_,fun x o b j=>?_⟩
  ·rw[f];split
   ·exact d.ty k hk
   ·exact d.ty k hk
  ·rw[f];split
   ·rename_i e;rw[e];exact p
   ·exact d.nd k
  ·rw[f]at ha;split at ha
   ·rename_i e;subst e;rcases r a ha with h|⟨b,j,h⟩
    ·obtain⟨x,h1,l⟩:=d.inn _ a h;exact⟨x,by omega,l⟩
    ·exact⟨i,by omega,rfl,b,j,by rw[h],by rw[h]⟩
   ·obtain⟨x,h1,l⟩:=d.inn _ a ha;exact⟨x,by omega,l⟩
  ·rw[f];by_cases ex:x=i
   ·subst ex;rw[BY rfl];exact s b j
   ·obtain⟨u,hu⟩:=d.cov x (by omega) b j;split
    ·rename_i e;rw[e]at hu ⊢;exact⟨u,q _ hu⟩
    ·exact⟨u,hu⟩
section
variable {d:List AI}
theorem Kq (d:List AI):((Bm d).1.map fun t=>t.2.1)=(AL d).map fun x=>x.2:=by
 show ((Eg _ _ _).map fun t=>t.2.1)=_;unfold Eg;rw[ABb];apply AAE
 ·simp
 ·intro i h1 a;simp[AS,show i<(AL d).length by simpa using h1]
theorem Z1 (d:List AI):(Bm d).1.length=(AL d).length:=Kb _ _ _
theorem A3c (d:List AI) {k:Nat} (hk:k<(AL d).length):(Bm d).1.getD k RT=(((AL d).getD k c0).1,((AL d).getD k c0).2,Xo (AL d) (k:Int),(BB d).1.getD k []):=by
 unfold Bm Eg;simp[AS,hk]
theorem NW (d:List AI) {t:Int} (a:0≤t) (b:t<((AL d).length:Int)):BM (Bm d) t=((AL d).getD t.toNat c0).2:=by
 unfold BM;rw[A3c d (by omega)]
theorem kW (a:Av d=0):(BB d).2=0∧(BB d).1=Ka d (AL d) (BL d) (AL d).length:=by
 unfold BB;rw[At (by rw[a];simp)];exact⟨rfl,rfl⟩
theorem TY (a:Av d=0):(Ay d).1=Bm d:=by
 unfold Ay;rw[At (by rw[(kW a).1];simp)]
theorem A62 (b:Av d=0):HW (Bm d)∧Nd ((Bm d).1.map fun t=>t.2.1):=by
 have h1:=HF d;have a:=WB d;rw[TY b]at h1 a;exact⟨h1,a⟩
theorem WJ (a:Av d=0):(Bm d).2=(BL d).map (QJ d):=by
 unfold Bm EY;rw[At (by rw[a];simp)]
theorem A3d (a:Av d=0) {t:Int} (b:0≤t) (c:t<((AL d).length:Int)):J9 (Bm d) t=Sq d (AL d) (BL d) t.toNat (BL d).length:=by
 unfold J9;rw[A3c d (by omega)];show (BB d).1.getD t.toNat []=_;rw[(kW a).2];unfold Ka;simp[AS,show t.toNat<(AL d).length by omega]
theorem pJ (a:Av d=0):A3 d=0∧(B4 d).1=AL d∧LU d=0∧(∀s∈BL d,(Dh d s).2=true)∧Ip d (AL d) (BL d) (AL d).length=false:=by
 obtain⟨b,-,f⟩:=CC a;obtain⟨e,-,c⟩:=BU b;refine⟨e,c,f,?_,?_⟩
 ·unfold Av at a;split at a
  ·rename_i h;exact absurd b h
  ·split at a
   ·cases a
   ·split at a
    ·rename_i h;exact absurd a h
    ·split at a
     ·cases a
     ·rename_i h;exact IN.1 (by simpa using h)
 ·unfold Av at a;split at a
  ·rename_i h;exact absurd b h
  ·split at a
   ·cases a
   ·split at a
    ·rename_i h;exact absurd a h
    ·split at a
     ·cases a
     ·split at a
      ·cases a
      ·rename_i h;rw[c]at h;simpa using h
def Cd (l:List (List Int)) (c:List Int):Prop:=c=[]∨c∈l
theorem A3e {l:List (List Int)} (hk:Jf l) {c:List Int} (h:Cd l c):Ik c:=by
 rcases h with rfl|h
 ·exact fun x a=>by cases a
 ·exact hk.wds c h
theorem A6W {l:List (List Int)} (hk:Jf l) (hn:Nd l) {a b:List Int} (ha:Cd l a) (j:b∈l):Cd l (EO a b):=by
 have f:=A3e hk ha;have g:=hk.wds b j;have m:Nrm (EO a b):=by unfold EO;exact LZ _
 have k:=fun i=>LY f g i;by_cases hi:∃i,BC a i=true∧BC b i=true
 ·rcases ha with rfl|ha
  ·obtain⟨i,h1,-⟩:=hi;unfold BC at h1;simp at h1
  ·obtain⟨t,d,e⟩:=hk.meet a ha b j hi;right;rw[Zd (NL f g) (hk.wds t d) m (hn.nrm t d) fun i=>by rw[k,e]];exact d
 ·left;refine DO fun n=>?_;unfold EO at n;have o:Ik (EO a b):=NL f g;have:∃i,BC (EO a b) i=true:=by
   have c:=m;rcases c with c|c
   ·exact absurd (nO c) n
   ·exact iV o c
  obtain⟨i,h⟩:=this;rw[k,As]at h;exact hi ⟨i,h⟩
def UsD (d:List AI) (t:Int) (s:ByteArray) (x:AI):Prop:=(DM x s).2=true∧A6 (Bm d) (BK (AL d) x.1) t=true
def vcD (d:List AI) (s:ByteArray) (x:AI):List Int:=((AL d).getD (BK (AL d) (DM x s).1).toNat c0).2
theorem TZ (hn:nJ d (AL d)) {x:AI} (a:x∈d):0≤BK (AL d) x.1∧BK (AL d) x.1<((AL d).length:Int):=⟨hn.1 x a,Io _ _⟩
theorem A3f (hn:nJ d (AL d)) {x:AI} (b:x∈d) {s:ByteArray} (a:(DM x s).2=true):0≤BK (AL d) (DM x s).1∧BK (AL d) (DM x s).1<((AL d).length:Int):=⟨hn.value b a,Io _ _⟩
theorem s9 (d:List AI) {k:Int} (a:0≤k) (b:k<((AL d).length:Int)):((AL d).getD k.toNat c0).2∈(AL d).map fun x=>x.2:=GO.2 ⟨_,BF (by omega),rfl⟩
theorem xM (hk:HW (Bm d)) {a t:Int} (a0:0≤a) (f:a<((AL d).length:Int)) (b:0≤t) (g:t<((AL d).length:Int)):Lt (AL d) a t=A6 (Bm d) a t:=by
 have i:=Z1 d;have c:a<((Bm d).1.length:Int):=by omega
 have e:t<((Bm d).1.length:Int):=by omega
 have h:=hk.1.wds _ (B7 a0 c);have wt:=hk.1.wds _ (B7 b e);rw[ABx];unfold Lt;rw[←NW d a0 f,←NW d b g,Gm wt h];exact(BO hk a0 c b e).symm
theorem Z2 (hk:HW (Bm d)) (h:Nd ((Bm d).1.map fun t=>t.2.1)) (hn:nJ d (AL d)) {t:Int} (p:0≤t) (q:t<((AL d).length:Int)) (s:ByteArray):∀(r:List AI) (o:List Int×Bool),(∀x∈r,x∈d)→Cd ((AL d).map fun x=>x.2) o.1 →
  Cd ((AL d).map fun x=>x.2) (r.foldl (KZ (AL d) t s) o).1∧((r.foldl (KZ (AL d) t s) o).2=true↔o.2=true∨∃x∈r,UsD d t s x)∧∀i,BC (r.foldl (KZ (AL d) t s) o).1 i=true↔BC o.1 i=true∧∀x∈r,UsD d t s x→BC (vcD d s x) i=true
 | [],o,_,g=>⟨g,by simp,fun i=>by simp⟩
 | x :: r,o,n,g=>by
  rw[Kq]at h;have m:Jf ((AL d).map fun x=>x.2):=by have:=hk.1;rwa [Kq]at this
  have w:=n x (by simp);obtain⟨n0,n1⟩:=TZ hn w;have u:=xM hk n0 n1 p q;rw[O5];by_cases hu:UsD d t s x
  ·obtain⟨v0,v1⟩:=A3f hn w hu.1;have e:KZ (AL d) t s o x=(EO o.1 (vcD d s x),true):=by
    unfold KZ;rw[At]
    ·rfl
    ·rw[hu.1,u,hu.2];simp
   have v:vcD d s x∈(AL d).map fun x=>x.2:=s9 d v0 v1;obtain⟨h1,k,l⟩:=Z2 hk (by rw[Kq];exact h) hn p q s r (KZ (AL d) t s o x) (fun y f=>n y (by simp[f])) (by rw[e];exact A6W m h g v);refine⟨h1,?_,fun i=>?_⟩
   ·rw[k,e];exact⟨fun _=>.inr ⟨x,by simp,hu⟩,fun _=>.inl rfl⟩
   ·rw[l,e];simp only;rw[LY (A3e m g) (m.wds _ v),As];constructor
    ·rintro⟨⟨a,b⟩,c⟩;refine⟨a,fun y f j=>?_⟩;rcases By.1 f with rfl|f
     ·exact b
     ·exact c y f j
    ·rintro⟨a,b⟩;exact⟨⟨a,b x (by simp) hu⟩,fun y f=>b y (by simp[f])⟩
  ·have e:KZ (AL d) t s o x=o:=by
    unfold KZ;rw[BY];rw[u];unfold UsD at hu;cases h1:(DM x s).2 with
    | false=>simp
    | true =>
     rw[h1]at hu;have:A6 (Bm d) (BK (AL d) x.1) t=false:=by simpa using hu
     rw[this];simp
   obtain⟨h1,k,l⟩:=Z2 hk (by rw[Kq];exact h) hn p q s r (KZ (AL d) t s o x) (fun y f=>n y (by simp[f])) (by rw[e];exact g);refine⟨h1,?_,fun i=>?_⟩
   ·rw[k,e];constructor
    ·rintro (a|⟨y,f,a⟩)
     ·exact .inl a
     ·exact .inr ⟨y,by simp[f],a⟩
    ·rintro (a|⟨y,f,a⟩)
     ·exact .inl a
     ·rcases By.1 f with rfl|f
      ·exact absurd a hu
      ·exact .inr ⟨y,f,a⟩
   ·rw[l,e];constructor
    ·rintro⟨a,b⟩;refine⟨a,fun y f j=>?_⟩;rcases By.1 f with rfl|f
     ·exact absurd j hu
     ·exact b y f j
    ·rintro⟨a,b⟩;exact⟨a,fun y f=>b y (by simp[f])⟩
theorem WK {b:List Int}:∀ {l:List AP} {k:Nat},(∃x∈l,x.2=b)→∃j:Nat,j<l.length∧Py b k l=((k+j:Nat):Int)∧(l.getD j c0).2=b
 | [],k,⟨x,a,_⟩=>by cases a
 | y :: l,k,⟨x,a,e⟩=>by
  unfold Py;by_cases h:GS y.2 b=true
  ·rw[BY h];exact⟨0,by simp,rfl,by simpa[GS] using h⟩
  ·rw[At h];rcases By.1 a with rfl|a
   ·exact absurd (by simpa[GS] using e) h
   ·obtain⟨j,h1,c,d⟩:=WK (k:=k+1) ⟨x,a,e⟩;exact⟨j+1,by simp only[OF];omega,by rw[c];congr 1;omega,by simpa using d⟩
theorem pK {b:List Int} (h:Nrm b):BJ b=b:=by
 unfold BJ;have:Ce b b.length=b.length:=by
  rcases h with h|h
  ·rw[h];rfl
  ·cases e:b.length with
   | zero=>rfl
   | succ m =>
    rw[e]at h;show (if b.getD m 0=0 then Ce b m else m+1)=m+1;rw[At (by simpa using h)]
 rw[this,iS]
theorem Qj (b:Av d=0) {t:Int} (z:0≤t) (J:t<((AL d).length:Int)) {s:ByteArray} (hs:s∈BL d) :
  ((FG d (AL d) t s).2=true↔∃x∈d,UsD d t s x)∧((FG d (AL d) t s).2=true→(0≤HT (AL d) (FG d (AL d) t s).1∧HT (AL d) (FG d (AL d) t s).1<((AL d).length:Int)) ∧
   ∀i,BC (BM (Bm d) (HT (AL d) (FG d (AL d) t s).1)) i=true↔∀x∈d,UsD d t s x→BC (vcD d s x) i=true):=by
 obtain⟨n,-,D,-,u⟩:=pJ b;obtain⟨hk,p⟩:=A62 b;have hn:=QI n D;have L:=rK n;have r:=Mu d;rw[TY b]at r;have K:Jf ((AL d).map fun x=>x.2):=by have:=hk.1;rwa [Kq]at this
 have q:=p;rw[Kq]at q;have A:=s9 d (ACd 0) (by omega:(0:Int)<((AL d).length:Int));obtain⟨g,a,m⟩:=Z2 hk p hn z J s d (((AL d).getD 0 c0).2,false) (fun x f=>f) (.inr A);have e:FG d (AL d) t s=d.foldl (KZ (AL d) t s) (((AL d).getD 0 c0).2,false):=rfl;rw[←e]at g a m;refine⟨by rw[a];simp,fun hu=>?_⟩;have E:(FG d (AL d) t s).1≠[]:=by
  intro G;have h1:LW d (AL d) t.toNat s=true:=by
   unfold LW;rw[ABm z,hu,G];rfl
  have B:Ip d (AL d) (BL d) (AL d).length=true:=by
   unfold Ip;refine gO.2 ⟨t.toNat,oN.2 (by omega),?_⟩;unfold ZW;exact gO.2 ⟨s,hs,h1⟩
  rw[B]at u;cases u
 have o:(FG d (AL d) t s).1∈(AL d).map fun x=>x.2:=g.resolve_left E;obtain⟨x,f,ex⟩:=GO.1 o;obtain⟨j,M,H,I⟩:=WK (l:=AL d) (k:=0) ⟨x,f,ex⟩;have hf:HT (AL d) (FG d (AL d) t s).1=(j:Int):=by
  unfold HT;rw[pK (q.nrm _ o),H];simp
 rw[hf];refine⟨⟨AA1 _,by omega⟩,fun i=>?_⟩;rw[NW d (AA1 _) (by omega),iN,I,m];constructor
 ·exact fun h=>h.2
 ·intro h;refine⟨?_,h⟩;obtain⟨y,v,w⟩:=(a.1 hu).resolve_left (by simp);obtain⟨v0,v1⟩:=A3f hn v w.1;have C:=h y v w;have c:=Z1 d;have F:=r _ v0 (by rw[c];exact v1);have:=(BO hk (ACd 0) (by rw[c];omega) v0 (by rw[c];exact v1)).1 F i;unfold iW at this;rw[NW d (ACd 0) (by omega),NW d v0 v1]at this;exact this C
theorem Ro {s:ByteArray}:∀ {r:List AI} {o:List ByteArray} {y:ByteArray},y∈r.foldl (Hk s) o→y∈o∨∃x∈r,x.1=y∧(DM x s).2=true
 | [],_,_,h=>.inl h
 | x :: r,o,y,h=>by
  rw[O5]at h;rcases Ro h with h|⟨z,b,h⟩
  ·unfold Hk at h;split at h
   ·rename_i a;rcases G7 h with h|h
    ·exact .inl h
    ·exact .inr ⟨x,by simp,h.symm,a⟩
   ·exact .inl h
  ·exact .inr ⟨z,by simp[b],h⟩
theorem WL {s:ByteArray} (h:(Dh d s).2=true):∃x∈d,x.1=(Dh d s).1∧(DM x s).2=true:=by
 unfold Dh at h ⊢;split
 ·rename_i h1;have a:(Ax d (Fc d s)).getD 0 ByteArray.empty∈Ax d (Fc d s):=BF (by omega);exact(Ro (Hz a)).resolve_left (by simp)
 ·rename_i h1;rw[At h1]at h;cases h
theorem pL (d:List AI):Wn (Ay d).1:=by
 by_cases a:Av d=0
 ·rw[TY a];obtain⟨j,-,l,m,-⟩:=pJ a;have hn:=QI j l;have g:=Z1 d;refine⟨fun x b=>?_,fun t f p hp=>?_⟩
  ·rw[WJ a]at b;obtain⟨s,hs,rfl⟩:=GO.1 b;obtain⟨y,n,e,-⟩:=WL (m s hs);rw[g];show 0≤BK (AL d) (Dh d s).1∧BK (AL d) (Dh d s).1<((AL d).length:Int);rw[←e];exact TZ hn n
  ·obtain⟨k,hk,e⟩:=Cf RT f;rw[g]at hk ⊢;have c:=A3d a (t:=(k:Int)) (AA1 _) (by omega);unfold J9 at c;rw[iN,e]at c;rw[c]at hp;unfold Sq at hp;obtain⟨i,hi,rfl⟩:=GO.1 hp;obtain⟨h1,h⟩:=AAk.1 hi;have h1:=oN.1 h1;exact((Qj a (t:=(k:Int)) (AA1 _) (by omega) (BF h1)).2 h).1
 ·have:(Ay d).1=([],[]):=by
   unfold Ay BB;rw[BY a,BY a]
  rw[this];exact⟨fun x b=>(by cases b),fun t f=>(by cases f)⟩
end
structure HAp (h:AJ):Prop where
 iff:∀t f,0≤t→t<(h.1.length:Int)→0≤f→f<(h.2.length:Int)→((B8 h t f).2=true↔A6 h (Ke h f) t=true)
 mono:∀t t' f,0≤t→t<(h.1.length:Int)→0≤t'→t'<(h.1.length:Int)→0≤f→f<(h.2.length:Int)→A6 h t t'=true→(B8 h t f).2=true→A6 h (B8 h t f).1 (B8 h t' f).1=true
def Hc (h:AJ) (m:Nat) (u:List Int):Prop:=u.length=m∧∀t∈u,0≤t∧t<(h.1.length:Int)
theorem Hc.get {h:AJ} {m:Nat} {u:List Int} (hu:Hc h m u) {n:Nat} (n1:n<m):0≤u.getD n 0∧u.getD n 0<(h.1.length:Int):=by
 have a:n<u.length:=by rw[hu.1];exact n1
 rw[AS,AT a];exact hu.2 _ (AAs a)
theorem NP.tyl {h:AJ} {m:Nat} {s:ER} (hs:NP h m s):Hc h m s.1:=⟨hs.len,hs.ty⟩
def F3 (h:AJ) (m:Nat) (u v:List Int):Prop:=∀i,i<m→A6 h (u.getD i 0) (v.getD i 0)=true
def WM (h:AJ) (u:List Int) (n:Int) (l:List (Int×Int)):Prop:=∀a∈l,(B8 h (u.getD n.toNat 0) a.1).2=true∧A6 h (B8 h (u.getD n.toNat 0) a.1).1 (u.getD a.2.toNat 0)=true
def WTy (h:AJ) (f:List AE) (u:List Int):Prop:=∀i,i<f.length→WM h u (i:Int) (f.getD i (0,[])).2
theorem F3.refl {h:AJ} (hk:HW h) {m:Nat} {u:List Int} (hu:Hc h m u):F3 h m u u:=fun i hi=>TL hk (hu.get hi).1 (hu.get hi).2
theorem F3.trans {h:AJ} (hk:HW h) {m:Nat} {u v w:List Int} (hu:Hc h m u) (a:Hc h m v) (b:Hc h m w) (h1:F3 h m u v) (c:F3 h m v w):F3 h m u w:=fun i hi =>
 GH hk (hu.get hi).1 (hu.get hi).2 (a.get hi).1 (a.get hi).2 (b.get hi).1 (b.get hi).2 (h1 i hi) (c i hi)
theorem F3.anti {h:AJ} (hi:HX h) {m:Nat} {u v:List Int} (hu:Hc h m u) (b:Hc h m v) (h1:F3 h m u v) (d:F3 h m v u):u=v:=by
 refine AAE (by rw[hu.1,b.1]) fun i c e=>?_;have a:i<m:=by rw[←hu.1];exact c
 have:=hi _ _ (hu.get a).1 (hu.get a).2 (b.get a).1 (b.get a).2 (h1 i a) (d i a)
 rwa [AS,AT c,AS,AT e]at this
structure tA (h:AJ) (m:Nat) (s s':ER):Prop where
 up:F3 h m s.1 s'.1
 pre:s.2 <+: s'.2
 ch:∀k:Nat,k<m→s'.1.getD k 0=s.1.getD k 0∨(k:Int)∈s'.2.drop s.2.length
theorem tA.refl {h:AJ} (hk:HW h) {m:Nat} {s:ER} (hs:NP h m s):tA h m s s:=⟨F3.refl hk hs.tyl,AAH _,fun _ _=>.inl rfl⟩
theorem Rp {l l':List Int} (hp:l <+: l') {n:Nat} {x:Int} (h:x∈l.drop n):x∈l'.drop n:=by
 obtain⟨r,rfl⟩:=hp;rw[ACQ];exact AAp _ h
theorem Qk {l:List Int} {a b:Nat} (c:a≤b) {x:Int} (h:x∈l.drop b):x∈l.drop a:=by
 have:l.drop b=(l.drop a).drop (b-a):=by rw[ABY];congr 1;omega
 rw[this]at h;exact ABt h
theorem tA.trans {h:AJ} (hk:HW h) {m:Nat} {a b c:ER} (ha:NP h m a) (i:NP h m b) (j:NP h m c) (h1:tA h m a b) (d:tA h m b c):tA h m a c:=by
 refine⟨h1.up.trans hk ha.tyl i.tyl j.tyl d.up,h1.pre.trans d.pre,fun k g=>?_⟩;rcases d.ch k g with f|f
 ·rcases h1.ch k g with e|e
  ·exact .inl (f.trans e)
  ·exact .inr (Rp d.pre e)
 ·exact .inr (Qk h1.pre.length_le f)
theorem Rq {h:AJ} (hk:HW h) (hi:HX h) {m:Nat} {s c:ER} (hs:NP h m s) {n t:Int} (n0:0≤n) (n1:n<(m:Int)) (f:0≤t) (g:t<(h.1.length:Int)) (e:DN h s n t=some c) :
  tA h m s c∧A6 h t (c.1.getD n.toNat 0)=true:=by
 have r:=(FC hk hi hs n0 n1 f g e).1;obtain⟨i,j⟩:=hs.get n0 n1;unfold DN at e;split at e
 ·rename_i o;obtain⟨u,w,q,d⟩:=(Mk hk i j f g).1 o;generalize (CD h (s.1.getD n.toNat 0) t).1=v at *;injection e with e
  split at e
  ·rename_i p;subst e;exact⟨tA.refl hk hs,by rw[←p];exact d⟩
  ·subst e;have l:n.toNat<s.1.length:=by rw[hs.len];omega
   have a:∀k:Nat,(s.1.set n.toNat v).getD k 0=if k=n.toNat then v else s.1.getD k 0:=fun k=>Gp _ _ _ l k
   refine⟨⟨fun k b=>?_,ACz _ _,fun k b=>?_⟩,?_⟩
   ·simp only;rw[a];split
    ·rename_i e;rw[e];exact q
    ·exact TL hk (hs.tyl.get b).1 (hs.tyl.get b).2
   ·simp only;rw[a];split
    ·rename_i e;right;rw[ACQ,AAI,AAv];exact ABa _ (by simp;omega)
    ·exact .inl rfl
   ·simp only;rw[a,BY rfl];exact d
 ·cases e
theorem YW {h:AJ} (hk:HW h) (hi:HX h) {m:Nat} {s:ER} (hs:NP h m s) {n t:Int} (n0:0≤n) (n1:n<(m:Int)) (p:0≤t) (q:t<(h.1.length:Int)) {u:List Int} (hu:Hc h m u) (a:F3 h m s.1 u) (j:A6 h t (u.getD n.toNat 0)=true) :
  ∃c,DN h s n t=some c∧F3 h m c.1 u:=by
 obtain⟨d,f⟩:=hs.get n0 n1;have b:n.toNat<m:=by omega
 obtain⟨r,v⟩:=hu.get b;obtain⟨l,o⟩:=(Mk hk d f p q).2 _ r v (a _ b) j;unfold DN;rw[BY l];refine⟨_,rfl,?_⟩;split
 ·exact a
 ·intro k g;have i:n.toNat<s.1.length:=by rw[hs.len];omega
  simp only;rw[Gp _ _ _ i k];split
  ·rename_i e;rw[e];exact o
  ·exact a k g
section
variable {h:AJ} (hk:HW h) (hi:HX h) (hf:Wn h) (hap:HAp h) {m:Nat} {n:Int} (n0:0≤n) (n1:n<(m:Int))
include hk hi hf n0 n1
theorem Z3:∀ {l:List (Int×Int)} {s c:ER},(∀a∈l,FQ h m a)→NP h m s→Mo h n l s=some c→tA h m s c∧∀a∈l,A6 h (Ke h a.1) (c.1.getD n.toNat 0)=true
 | [],s,c,_,hs,e=>by
  injection e with e
  subst e;exact⟨tA.refl hk hs,fun a ha=>by cases ha⟩
 | a :: l,s,c,o,hs,e=>by
  unfold Mo at e;cases g:DN h s n (Ke h a.1) with
  | none=>rw[g]at e;cases e
  | some s1 =>
   rw[g]at e;obtain⟨⟨a0,r⟩,-⟩:=o a (by simp);obtain⟨j,k⟩:=HH hf a0 r;obtain⟨d,-,-⟩:=FC hk hi hs n0 n1 j k g;obtain⟨u,v⟩:=Rq hk hi hs n0 n1 j k g;have p:∀b∈l,FQ h m b:=fun b f=>o b (If _ f);have e:Mo h n l s1=some c:=e;obtain⟨q,t⟩:=Z3 p d e;have i:=(QY hk hi hf n0 n1 p d e).1;refine⟨u.trans hk hs d i q,fun b f=>?_⟩;rcases By.1 f with rfl|f
   ·exact GH hk j k (d.get n0 n1).1 (d.get n0 n1).2 (i.get n0 n1).1 (i.get n0 n1).2 v (q.up _ (by omega))
   ·exact t b f
theorem tB:∀ {l:List (Int×Int)} {s c:ER},(∀a∈l,FQ h m a)→NP h m s→Nc h n l s=some c→tA h m s c∧(n∈c.2.drop s.2.length∨(c.1.getD n.toNat 0=s.1.getD n.toNat 0∧∀a∈l,(B8 h (s.1.getD n.toNat 0) a.1).2=true∧A6 h (B8 h (s.1.getD n.toNat 0) a.1).1 (c.1.getD a.2.toNat 0)=true))
 | [],s,c,_,hs,e=>by
  injection e with e
  subst e;exact⟨tA.refl hk hs,.inr ⟨rfl,fun a ha=>by cases ha⟩⟩
 | a :: l,s,c,t,hs,e=>by
  unfold Nc at e;split at e
  ·rename_i v;obtain⟨w,x⟩:=hs.get n0 n1;obtain⟨o,p⟩:=E3 hf w x v;cases j:DN h s a.2 (B8 h (s.1.getD n.toNat 0) a.1).1 with
   | none=>rw[j]at e;cases e
   | some s1 =>
    rw[j]at e;obtain⟨-,d,b1⟩:=t a (by simp);obtain⟨g,-,-⟩:=FC hk hi hs d b1 o p j;obtain⟨r,A⟩:=Rq hk hi hs d b1 o p j;have u:∀b∈l,FQ h m b:=fun b f=>t b (If _ f);have e:Nc h n l s1=some c:=e;obtain⟨q,i⟩:=tB u g e;have k:=(TM hk hi hf n0 n1 u g e).1;refine⟨r.trans hk hs g k q,?_⟩;have y:((n.toNat:Nat):Int)=n:=ABm n0;rcases r.ch n.toNat (by omega) with c1|c1
    ·rcases i with i|⟨i,z⟩
     ·exact .inl (Qk r.pre.length_le i)
     ·refine .inr ⟨i.trans c1,fun b f=>?_⟩;rcases By.1 f with rfl|f
      ·exact⟨v,GH hk o p (g.get d b1).1 (g.get d b1).2 (k.get d b1).1 (k.get d b1).2 A (q.up _ (by omega))⟩
      ·have:=z b f
       rwa [c1]at this
    ·rw[y]at c1;exact .inl (Rp q.pre c1)
  ·cases e
include hap
theorem tC {u:List Int} (hu:Hc h m u):∀ {l:List (Int×Int)} {s:ER},(∀a∈l,FQ h m a)→NP h m s→F3 h m s.1 u→(∀a∈l,(B8 h (u.getD n.toNat 0) a.1).2=true)→∃c,Mo h n l s=some c∧F3 h m c.1 u
 | [],s,_,_,e,_=>⟨s,rfl,e⟩
 | a :: l,s,i,hs,e,j=>by
  obtain⟨⟨a0,f⟩,-⟩:=i a (by simp);obtain⟨k,o⟩:=HH hf a0 f;obtain⟨t,v⟩:=hu.get (show n.toNat<m by omega);obtain⟨s1,g,h1⟩:=YW hk hi hs n0 n1 k o hu e ((hap.iff _ _ t v a0 f).1 (j a (by simp)));obtain⟨q,-,-⟩:=FC hk hi hs n0 n1 k o g;obtain⟨c,p,r⟩:=tC hu (fun b d=>i b (If _ d)) q h1 fun b d=>j b (If _ d);exact⟨c,by unfold Mo;rw[g];exact p,r⟩
theorem tD {u:List Int} (hu:Hc h m u):∀ {l:List (Int×Int)} {s:ER},(∀a∈l,FQ h m a)→NP h m s→F3 h m s.1 u→(∀a∈l,A6 h (Ke h a.1) (s.1.getD n.toNat 0)=true)→WM h u n l→∃j,Nc h n l s=some j∧F3 h m j.1 u
 | [],s,_,_,f,_,_=>⟨s,rfl,f⟩
 | a :: l,s,p,hs,f,x,y=>by
  obtain⟨⟨a0,v⟩,k,b1⟩:=p a (by simp);obtain⟨d,e⟩:=hs.get n0 n1;have q:n.toNat<m:=by omega
  have w:a.2.toNat<m:=by omega
  obtain⟨z,A⟩:=hu.get q;have r:=(hap.iff _ _ d e a0 v).2 (x a (by simp));obtain⟨g,i⟩:=E3 hf d e r;obtain⟨H,I⟩:=y a (by simp);obtain⟨v0,v1⟩:=E3 hf z A H;have D:=hap.mono _ _ a.1 d e z A a0 v (f _ q) r;obtain⟨s1,o,h1⟩:=YW hk hi hs k b1 g i hu f (GH hk g i v0 v1 (hu.get w).1 (hu.get w).2 D I);obtain⟨t,-,-⟩:=FC hk hi hs k b1 g i o;obtain⟨G,-⟩:=Rq hk hi hs k b1 g i o;obtain⟨j,B,C⟩:=tD hu (fun b c=>p b (If _ c)) t h1 (fun b c=>by
   obtain⟨⟨c0,c1⟩,-⟩:=p b (If _ c);obtain⟨E,F⟩:=HH hf c0 c1;exact GH hk E F d e (t.get n0 n1).1 (t.get n0 n1).2 (x b (If _ c)) (G.up _ q)) fun b c=>y b (If _ c)
  exact⟨j,by unfold Nc;rw[BY r,o];exact B,C⟩
end
section
variable {h:AJ} (hk:HW h) (hi:HX h) (hf:Wn h) (hap:HAp h) {f:List AE} (ha:Lb h f)
include hk hi hf hap ha
theorem A3g {n:Int} (n0:0≤n) (n1:n<(f.length:Int)) {s c:ER} (hs:NP h f.length s) (e:Kg h f n s=some c):tA h f.length s c∧(n∈c.2.drop s.2.length∨WM h c.1 n (f.getD n.toNat (0,[])).2):=by
 have _:=hap;have g:=Mp ha n0 n1;unfold Kg at e;cases d:Mo h n (f.getD n.toNat (0,[])).2 s with
 | none=>rw[d]at e;cases e
 | some s1 =>
  rw[d]at e;have i:=(QY hk hi hf n0 n1 g hs d).1;obtain⟨j,-⟩:=Z3 hk hi hf n0 n1 g hs d;have e:Nc h n (f.getD n.toNat (0,[])).2 s1=some c:=e;have k:=(TM hk hi hf n0 n1 g i e).1;obtain⟨l,b⟩:=tB hk hi hf n0 n1 g i e;refine⟨j.trans hk hs i k l,?_⟩;rcases b with b|⟨b,m⟩
  ·exact .inl (Qk j.pre.length_le b)
  ·refine .inr fun a ha=>?_;rw[b];exact m a ha
theorem A3h {n:Int} (n0:0≤n) (n1:n<(f.length:Int)) {s:ER} (hs:NP h f.length s) {u:List Int} (hu:Hc h f.length u) (d:WM h u n (f.getD n.toNat (0,[])).2) (j:F3 h f.length s.1 u):∃e,Kg h f n s=some e∧F3 h f.length e.1 u:=by
 have b:=Mp ha n0 n1;obtain⟨s1,c,h1⟩:=tC hk hi hf hap n0 n1 hu b hs j fun a ha=>(d a ha).1;have k:=(QY hk hi hf n0 n1 b hs c).1;obtain⟨-,l⟩:=Z3 hk hi hf n0 n1 b hs c;obtain⟨s2,g,i⟩:=tD hk hi hf hap n0 n1 hu b k h1 l d;exact⟨s2,by unfold Kg;rw[c];exact g,i⟩
def A9F (h:AJ) (f:List AE) (i:Nat) (s:ER):Prop:=∀n:Nat,n<f.length→WM h s.1 (n:Int) (f.getD n (0,[])).2∨(n:Int)∈s.2.drop i
theorem A5s {n:Nat} (hn:n<f.length) {s d:ER} (hs:NP h f.length s) (i:NP h f.length d) (j:tA h f.length s d) (p:WM h s.1 (n:Int) (f.getD n (0,[])).2):WM h d.1 (n:Int) (f.getD n (0,[])).2∨(n:Int)∈d.2.drop s.2.length:=by
 have _:=hap;have _:=hi;have o:∀a∈(f.getD n (0,[])).2,FQ h f.length a:=ha _ (AD f (0,[]) hn);rcases j.ch n hn with c|c
 ·left;intro a g;obtain⟨e,k⟩:=p a g;obtain⟨-,b,b1⟩:=o a g;rw[iN]at e k ⊢;rw[c];obtain⟨l,m⟩:=hs.tyl.get hn;obtain⟨q,r⟩:=E3 hf l m e;exact⟨e,GH hk q r (hs.get b b1).1 (hs.get b b1).2 (i.get b b1).1 (i.get b b1).2 k (j.up _ (by omega))⟩
 ·exact .inr c
theorem tE:∀ {k i:Nat} {s:ER} {ty:List Int},NP h f.length s→A9F h f i s→sI h f k i s=some ty→WTy h f ty∧F3 h f.length s.1 ty∧Hc h f.length ty
 | 0,_,_,_,_,_,e=>by cases e
 | k+1,i,s,ty,hs,hp,e=>by
  unfold sI at e;split at e
  ·rename_i d;have p:=AD s.2 (0:Int) d;obtain⟨n0,n1⟩:=hs.wt _ p;generalize hn:s.2.getD i 0=n at *;cases c:Kg h f n s with
   | none=>rw[c]at e;cases e
   | some s1 =>
    rw[c]at e;have g:=(QZ hk hi hf ha n0 n1 hs c).1;obtain⟨j,b⟩:=A3g hk hi hf hap ha n0 n1 hs c;have r:A9F h f (i+1) s1:=by
     intro m l;rcases hp m l with q|a
     ·rcases A5s hk hi hf hap ha l hs g j q with h1|h1
      ·exact .inl h1
      ·exact .inr (Qk (by omega) h1)
     ·have t:s.2.drop i=n :: s.2.drop (i+1):=by
       rw[ON d,←hn,AS,AT d];rfl
      rw[t]at a;rcases By.1 a with a|a
      ·rcases b with b|b
       ·exact .inr (by rw[a];exact Qk (by omega) b)
       ·left;rw[a];have:n.toNat=m:=by omega
        rw[this]at b;exact b
      ·exact .inr (Rp j.pre a)
    have e:sI h f k (i+1) s1=some ty:=e;obtain⟨u,v,o⟩:=tE g r e;exact⟨u,j.up.trans hk hs.tyl g.tyl o v,o⟩
  ·rename_i d;injection e with e
   subst e;refine⟨fun n hn=>?_,F3.refl hk hs.tyl,hs.tyl⟩;rcases hp n hn with h1|h1
   ·exact h1
   ·rw[IF (by omega)]at h1;cases h1
theorem A3i {u:List Int} (hu:Hc h f.length u) (d:WTy h f u):∀ {k i:Nat} {s:ER},NP h f.length s→i≤s.2.length→NQ h s.1+s.2.length+1≤k+i→F3 h f.length s.1 u→∃ty,sI h f k i s=some ty∧F3 h f.length ty u
 | 0,i,s,hs,j,l,b=>by omega
 | k+1,i,s,hs,j,l,b=>by
  unfold sI;by_cases a:i<s.2.length
  ·rw[BY a];obtain⟨n0,n1⟩:=hs.wt _ (AD s.2 (0:Int) a);have e:=d (s.2.getD i 0).toNat (by omega);rw[ABm n0]at e;obtain⟨s1,c,h1⟩:=A3h hk hi hf hap ha n0 n1 hs hu e b;obtain⟨g,m,n⟩:=QZ hk hi hf ha n0 n1 hs c;rw[c];exact A3i hu d g (by omega) (by omega) h1
  ·rw[At a];exact⟨s.1,rfl,b⟩
theorem WN (a:∀x∈f,0≤x.1∧x.1<(h.1.length:Int)) {ty:List Int} (e:HZ h f=some ty):WTy h f ty∧F3 h f.length (A5 f) ty∧Hc h f.length ty:=by
 have e:sI h f (I0 h f) 0 (A5 f,Ei f)=some ty:=e;refine tE hk hi hf hap ha (k:=I0 h f) (i:=0) (s:=(A5 f,Ei f)) (YB a) (fun n hn=>.inr ?_) e;rw[AAv];exact GO.2 ⟨n,oN.2 hn,rfl⟩
theorem Sc (b:∀x∈f,0≤x.1∧x.1<(h.1.length:Int)) {u:List Int} (hu:Hc h f.length u) (c:WTy h f u) (a:F3 h f.length (A5 f) u):∃ty,HZ h f=some ty∧F3 h f.length ty u :=
 A3i hk hi hf hap ha hu c (k:=I0 h f) (i:=0) (s:=(A5 f,Ei f)) (YB b) (NO _) (Zj h f) a
end
end Go.Proofs.YtdapahgnpbehbaaGreat.Fw
