/- Contracts of the program's and the reference's functions, and the plain laws of what they compute: U3 U4 U5 U6 U7 U8 U9 U10 U11 U12 N8 N9 V1 V2 V4 V5 V6 V9 V10 T19 T20 T22 T24 W6 T26 U14 W7 T27 T21 T23 T25 U13 V3 SN. -/
import Derived.Test.YtdapahgnpbehbaaGreatJYB
import Derived.Test.YtdapahgnpbehbaaGreatJZI
import Derived.Test.YtdapahgnpbehbaaGreatJYA
import Derived.Laws.Strings
set_option linter.unusedVariables false
set_option linter.unusedSimpArgs false
namespace Go.Proofs.YtdapahgnpbehbaaGreat.Fw
open Go
attribute [local irreducible] Ev
attribute [local go_sem] bL AM List.toList_toArray B0 evG evK Wp E2 Kp Gz F5 GK O7 LZ CO DY Mr CZ Cr frz gX Gv DX BB Fx Bc AV.frz AV.frzs AV.drp AV.drps AV.names AV.namess aq Gx LY Ke Sy JY Bd Bk Jy Ek I3 El I5 I4 I6 Tt Oz HJ Kh Fz Ec Tu Qr y3 Jz I7 Lw K1 Dz Jb Ki Em Sz Ck Eo FC Qs I8 Qt Lx Jc Kj DL DA Fa D0 Hw Dh FD Di Ep F1 CZ Cq Ox Qq Nx Gm Ja JZ Kg Nc O4 Lz L3 L1 Km R6 L2 Kn Yv O6 O5 AV.trn AV.trns EY Cj Obj.trn KE b9 DN Dk DM Eq Cc FE Ah lk Hb Gw Ht bin gW Ws gZ R4 uM uN pfs AV.cells CJ Jw Oy Kl O3 CX Na Ty.cell1 I2 E8 Dy GJ LX Eh Kd Lv Qp FZ HI NV Sw Ts Lu Ka Yt aN R3 Nb DE Jx RV.flat Ty.flat Ty.size St.add upd del Be Value.oneCell' Lr Ty.dflt I1 PZ H7 Pg List.take_succ_cons List.take_zero List.length_cons bT bU Pf KB MG Ho KC zY F6 M2 M3 M4 M5 Q3 Q4 Ky JG UL Option.map_some Option.map_none Option.bind_some Option.getD_some Option.getD_none Option.isNone_none Option.isNone_some Bool.and_true Bool.true_and Bool.and_false Bool.false_and Bool.not_true Bool.not_false if_true if_false List.length_cons List.length_nil and_true true_and and_self List.all_cons List.all_nil List.append_nil List.nil_append List.cons_append List.getElem?_cons_zero List.getElem?_cons_succ List.getElem?_nil List.map_cons List.map_nil List.set_cons_zero List.set_cons_succ List.isEmpty_nil List.isEmpty_cons decide_true decide_false beq_self_eq_true bne_self_eq_false Nat.zero_add Nat.add_zero Nat.sub_zero Int.toNat_natCast Int.toNat_zero Int.toNat_one List.take_length List.length_append List.length_singleton true_or or_true or_self false_or or_false Ty.agg.injEq Ty.slice.injEq Ty.prod.injEq Ty.int.injEq Option.some.injEq beq_iff_eq Ls evMG evMQ z3 H9 MD B3 KA Ga Ni J8 H8 JH Kz Le OH Nj OI S2 ME Pb Pc J9 AY Am Op.operands Call.operands List.filterMap_cons List.filterMap_nil List.append_eq Bool.cond_false_right Bool.cond_true_left cond_true cond_false implies_true decide_eq_true_eq beq_true beq_false Bool.or_true Bool.or_false Bool.true_or Bool.false_or Option.isSome_some Array.empty_append List.append_toArray Fy Ms FF Hu Yu O2 F0 GU GT I9 Hv Kk Ly Wt gY Jt inB Ko F2 Gn J0 Aj bV List.drop_zero Dp IA ZH CU K4 Ba AV.fgt AV.fgts Obj.fgt Al Ak AY DQ Iz BM G0 List.any_cons List.any_nil iW bZ ZI b4 MJ Q9 qs List.flatMap_cons List.flatMap_nil List.cons_append tn ZK IG List.take_succ_cons List.drop_succ_cons ZO IJ Bw nJ M9 CB CT Ab FI Kx Bm FH D7 H5 JF GZ H6
attribute [local go_sem] Ju nN ty3 ty4 ty5 ty9 A3I A3J A3K A3L A3M A3N A3O A3P A3Q A3R A3S A3T A3U A3V A3W A3X A3Y A3Z A40 A41 A42 A43 A44 A45 A46 A47 A48 A49 A4a A4b A4c A4d A4e A4f A4g A4h A4i A4j A4k A4l A4m A4n A4o A4p A4q A4r A4s A4t A4u A4v A4w A4x A4y A4z A4A A4B A4C A4D A4E A4F A4G A4H A4I A4J A4K A4L A4M A4N A4O A4P A4Q A4R A4S A4T nP nQ nS nT nU nV nW nX nY nZ n4 n5 n6 n7 n8 n9 oA oB oC oD oE oG oH oI oJ oK oL oM oO oP oQ oT oU oV oW oX oY oZ o4 o5 o6 o7 o8 o9 pA pB pC pD pE pF pG pH pI pJ pK pL pM pN pO pP pQ pR pS pT pU pV pW pX pY pZ p4 p5 p6 p7 p8 p9 qA qB qC qD qE qF qG qH qI qJ qK qL qM qN qO qP qQ qR qS qT qU qV qW qX qY qZ q9 rA rE rF rG rH rI rJ rK rO rQ rR rS rT rU rV rW
set_option maxRecDepth 100000
set_option maxHeartbeats 4000000
def Cz (b n:Nat):List Int:=(List.range n).map λi=>((b+i:Nat):Int)
def Au (b:Nat) (l:List (Int×Int)):List (Int×Int):=l.map λa=>(a.1,a.2+(b:Int))
def DJ (l:List AE) (n:Nat):List Int:=(l.take n).map λx=>x.1
def Fq (b:Nat) (l:List AE) (n:Nat):List (List (Int×Int)):=(l.take n).map λx=>Au b x.2
theorem lG (b n:Nat):Cz b (n+1)=Cz b n++[((b+n:Nat):Int)]:=by simp[Cz,AAq]
theorem KT (b n:Nat):(Cz b n).length=n:=by simp[Cz]
theorem A1S (h:AJ) (p ty:List Int) (ar:List (List (Int×Int))) (l:List AE) (f:Ad l) (J:p.length<=100000) (L:ty.length=p.length) (E:ar.length=p.length) :
  BA Tryz.prog 82 [.bp 1 [] 0,.p Dv l] (YU h p ty ar) [1]
  (λres D=>res=.raw (.tuple #[])/\D=YU h (p++Cz p.length l.length) (ty++DJ l l.length) (ar++Fq p.length l l.length)):=by
 refine Jh [0,1,4,5,6,7,9,15,16,17,18,46,47,48,49] [] [] Tryz.func82 Tryz.ntmps82 AH ?_;intro w0 K O0 ρ0 c H I;have G:=f.1;simp only[Aj,YU];repeat'(first|exact trivial|refine eS rfl ?_|refine rX c ?_ ?_)
 refine AG (ι:={i:Nat//i<=l.length}) (λi=>⟨[(0,.bp 1 [] 0),(4,.p (.int .i64) (p.length:Int)),(15,.p Dv l),(16,.p (.int .i64) (l.length:Int)),(17,.p (.int .i64) (i.1:Int))],[(1,.box 130 true [.p F7 h,.sr 2 T3 0 (p++Cz p.length i.1).length,.sr 3 T3 0 (ty++DJ l i.1).length,.sr 4 Ce 0 (ar++Fq p.length l i.1).length]),(2,.arr 3 T3 (p++Cz p.length i.1)),(3,.arr 3 T3 (ty++DJ l i.1)),(4,.arr 47 Ce (ar++Fq p.length l i.1))]⟩) (λi=>l.length-i.1) ⟨0,Is _⟩ (AC [(1,.nm 1),(2,.nm 2),(3,.nm 3),(4,.nm 4)] rfl rfl ?_ ?_) (λi=>?_)
 ·refine eM ?_;simp[Cz,DJ,Fq]
 ·exact eN
 ·obtain⟨i,hi⟩:=i;have s:=KT p.length i;have t:=lG p.length i;have y:(DJ l i).length=i:=by unfold DJ;rw[On,ON];omega
  have n:(Fq p.length l i).length=i:=by unfold Fq;rw[On,ON];omega
  have z:=λh:i<l.length=>Df (λx:AE=>x.1) l (0,[]) h;have o:=λh:i<l.length=>Df (λx:AE=>Au p.length x.2) l (0,[]) h;simp only;repeat'(first|exact trivial|refine eS rfl ?_|refine rX c ?_ ?_|refine rC ?_ ?_<;>intro b<;>try(cases b;done))
  ·exact b
  ·refine⟨⟨by omega,by omega⟩,?_⟩;rw[s];simp only[AO];omega
  ·have d:i<l.length:=No.1 b;refine B4 drawsAny c 9 [([1,2,3,4,5,6,7],8)] [0] (by kernel_rfl) (Lf ?_ ?_)
   ·trivial
   ·refine Nm c [3] ?_ ?_
    ·rw[y];simp only[AO];omega
    ·refine Pm c ?_ ?_ ?_
     ·trivial
     ·trivial
     ·have A:=z d;have q:=o d;have m:p++Cz p.length i++[(p.length:Int)+(i:Int)]=p++Cz p.length (i+1):=by
       rw[t,oF];rfl
      have eT:ty++DJ l i++[(l.getD i (0,[])).1]=ty++DJ l (i+1):=by
       unfold DJ;rw[A,oF]
      have B:p.length+(Cz p.length i).length+1=(p++Cz p.length (i+1)).length:=by rw[GO,KT,KT];omega
      have C:ty.length+(DJ l i).length+1=(ty++DJ l (i+1)).length:=by rw[<-eT,GO,GO,aS]
      have u:=QZ f i;have N:(l.getD i (0,[])).2.length<=100000:=(f.2 _ (AD l (0,[]) d)).1;repeat'(first|exact trivial|refine eS rfl ?_|refine rX c ?_ ?_)
      rw[m,eT,B,C];generalize M:(l.getD i (0,[])).2=xs at *;refine AG (ι:={k:Nat//k<=xs.length}) (λk=>⟨[(0,.bp 1 [] 0),(4,.p (.int .i64) (p.length:Int)),(7,.sr 61 BE 0 (Au p.length (xs.take k.1)).length),(15,.p Dv l),(16,.p (.int .i64) (l.length:Int)),(17,.p (.int .i64) (i:Int)),(46,.p Ce xs),(47,.p (.int .i64) (xs.length:Int)),(48,.p (.int .i64) (k.1:Int))],[(1,.box 130 true [.p F7 h,.sr 2 T3 0 (p++Cz p.length (i+1)).length,.sr 3 T3 0 (ty++DJ l (i+1)).length,.sr 4 Ce 0 (ar++Fq p.length l i).length]),(2,.arr 3 T3 (p++Cz p.length (i+1))),(3,.arr 3 T3 (ty++DJ l (i+1))),(4,.arr 47 Ce (ar++Fq p.length l i)),(61,.arr 53 BE (Au p.length (xs.take k.1)))]⟩) (λk=>xs.length-k.1) ⟨0,Is _⟩ (AC [(1,.nm 1),(2,.nm 2),(3,.nm 3),(4,.nm 4),(61,.nil)] rfl rfl ?_ ?_) (λk=>?_)
      ·refine eM ?_;rfl
      ·refine eM ?_;rfl
      ·obtain⟨k,hk⟩:=k;have v:(Au p.length (xs.take k)).length=k:=by unfold Au;rw[On,ON];omega
       have w:=λh:k<xs.length=>Df (λa:Int×Int=>(a.1,a.2+(p.length:Int))) xs (0,0) h;have r:=λh:k<xs.length=>u _ (AD xs (0,0) h);simp only;repeat'(first|exact trivial|refine eS rfl ?_|refine AB ?_|refine rX c ?_ ?_|refine rC ?_ ?_<;>intro b<;>try(cases b;done))
       ·exact b
       ·have e:k<xs.length:=No.1 b;have F:=r e;refine⟨⟨by omega,by omega⟩,?_⟩;rw[v];simp only[AO];omega
       ·omega
       ·have e:k<xs.length:=No.1 b;have g:Au p.length (xs.take (k+1))=Au p.length (xs.take k)++[((xs.getD k (0,0)).1,(xs.getD k (0,0)).2+(p.length:Int))]:=w e;refine⟨⟨k+1,e⟩,by simp only;omega,AC [(1,.nm 1),(2,.nm 2),(3,.nm 3),(4,.nm 4),(61,.nm 61)] rfl rfl ?_ ?_⟩
        ·simp only[g];exact eN
        ·simp only[g];exact eN
       ·rw[n];simp only[AO];omega
       ·omega
       ·have e:xs.take k=xs:=An (aT.1 b);rw[e];have j:ar++Fq p.length l i++[Au p.length xs]=ar++Fq p.length l (i+1):=by
         unfold Fq;rw[q,oF]
        refine⟨⟨i+1,d⟩,by simp only;omega,AC [(1,.nm 1),(2,.nm 2),(3,.nm 3),(4,.nm 4)] rfl rfl ?_ ?_⟩
        ·simp only[<-j];exact eN
        ·exact eN
  ·have d:i=l.length:=by omega
   subst d;refine Ev.ent (σ':=⟨[],YU h (p++Cz p.length l.length) (ty++DJ l l.length) (ar++Fq p.length l l.length)⟩) ?_ (AC [(1,.nm 1),(2,.nm 2),(3,.nm 3),(4,.nm 4)] rfl rfl ?_ ?_)
   ·exact fM c [] (.raw (.tuple #[])) rfl ⟨rfl,rfl⟩
   ·unfold YU;exact eN
   ·exact eN
section
attribute [local go_sem] sP
def B1:List (Int×Int)->List (Int×Int)->List (Int×Int)×List (Int×Int)
 | [],y=>(y,[])
 | a :: x,[]=>(a :: x,[])
 | a :: x,b :: y =>
  if a.1<b.1 then (a :: (B1 x (b :: y)).1,(B1 x (b :: y)).2)
  else if b.1<a.1 then (b :: (B1 (a :: x) y).1,(B1 (a :: x) y).2)
  else (a :: (B1 x y).1,(a.2,b.2) :: (B1 x y).2)
termination_by x y=>x.length+y.length
structure lH (xs ys:List (Int×Int)) (W0:List (Int×Int)) (s:(List (Int×Int)×List (Int×Int))×(List (Int×Int)×List (Int×Int)×Nat)):Prop where
 hi:s.2.2.2<=s.2.2.1.length
 both:s.2.1++(B1 s.1.1 s.1.2).1=(B1 xs ys).1
 wait:s.2.2.1.take s.2.2.2++(B1 s.1.1 s.1.2).2=W0++(B1 xs ys).2
 len:s.2.1.length+s.1.1.length+s.1.2.length<=xs.length+ys.length
 num:s.2.2.2+s.1.1.length<=W0.length+xs.length
theorem AA2 {x y:List (Int×Int)} (h0:0<x.length) (h:y.length=0\/(x.getD 0 (0,0)).1<(y.getD 0 (0,0)).1):B1 x y=(x.getD 0 (0,0) :: (B1 (x.drop 1) y).1,(B1 (x.drop 1) y).2):=by
 cases x with
 | nil=>simp at h0
 | cons a x =>
  cases y with
  | nil =>
   simp only[ABL,AAV];cases x<;>simp[B1]
  | cons b y =>
   have h:a.1<b.1:=by simpa using h
   simp only[ABL,AAV];rw[B1,BY h];rfl
theorem AA3 {x y:List (Int×Int)} (h0:0<y.length) (h:x.length=0\/(y.getD 0 (0,0)).1<(x.getD 0 (0,0)).1):B1 x y=(y.getD 0 (0,0) :: (B1 x (y.drop 1)).1,(B1 x (y.drop 1)).2):=by
 cases y with
 | nil=>simp at h0
 | cons b y =>
  cases x with
  | nil=>simp[B1]
  | cons a x =>
   have h:b.1<a.1:=by simpa using h
   simp only[ABL,AAV];rw[B1,At (by omega),BY h];rfl
theorem A7f {x y:List (Int×Int)} (h0:0<x.length) (h1:0<y.length) (h:(x.getD 0 (0,0)).1=(y.getD 0 (0,0)).1):B1 x y=(x.getD 0 (0,0) :: (B1 (x.drop 1) (y.drop 1)).1,((x.getD 0 (0,0)).2,(y.getD 0 (0,0)).2) :: (B1 (x.drop 1) (y.drop 1)).2):=by
 cases x with
 | nil=>simp at h0
 | cons a x =>
  cases y with
  | nil=>simp at h1
  | cons b y =>
   have h:a.1=b.1:=by simpa using h
   simp only[ABL,AAV];rw[B1,At (by omega),At (by omega)];rfl
section
variable {xs ys W0 x y bo V:List (Int×Int)} {k:Nat}
theorem A7g (h:lH xs ys W0 ((x,y),bo,V,k)) (h0:0<x.length) (f:y.length=0\/(x.getD 0 (0,0)).1<(y.getD 0 (0,0)).1):lH xs ys W0 ((x.drop 1,y),bo++[x.getD 0 (0,0)],V,k):=by
 have e:=AA2 h0 f;obtain⟨h1,a,b,c,d⟩:=h;simp only at h1 a b c d;rw[e]at a b;exact⟨h1,by rw[oF];exact a,b,by simp only[GO,aS,AAQ];omega,by simp only[AAQ];omega⟩
theorem A7h (h:lH xs ys W0 ((x,y),bo,V,k)) (h0:0<y.length) (f:x.length=0\/(y.getD 0 (0,0)).1<(x.getD 0 (0,0)).1):lH xs ys W0 ((x,y.drop 1),bo++[y.getD 0 (0,0)],V,k):=by
 have e:=AA3 h0 f;obtain⟨h1,a,b,d,c⟩:=h;simp only at h1 a b d c;rw[e]at a b;exact⟨h1,by rw[oF];exact a,b,by simp only[GO,aS,AAQ];omega,c⟩
theorem A5D (h:lH xs ys W0 ((x,y),bo,V,k)) (h0:0<x.length) (h1:0<y.length) (g:(x.getD 0 (0,0)).1=(y.getD 0 (0,0)).1):lH xs ys W0 ((x.drop 1,y.drop 1),bo++[x.getD 0 (0,0)],V.take k++[((x.getD 0 (0,0)).2,(y.getD 0 (0,0)).2)],k+1):=by
 have e:=A7f h0 h1 g;obtain⟨c,a,b,d,f⟩:=h;simp only at c a b d f;rw[e]at a b;have i:(V.take k++[((x.getD 0 (0,0)).2,(y.getD 0 (0,0)).2)]).length=k+1:=by simp only[GO,aS,ON];omega
 exact⟨by simp only[i];omega,by rw[oF];exact a,by simp only;rw[An (by omega),oF];exact b,by simp only[GO,aS,AAQ];omega,by simp only[AAQ];omega⟩
end
def mgO (h:AJ) (p ty:List Int) (ar:List (List (Int×Int))) (W:List (Int×Int)) (hi:Nat):List (Nat×Obj) :=
 [(1,.box 130 true [.p F7 h,.sr 2 T3 0 p.length,.sr 3 T3 0 ty.length,.sr 4 Ce 0 ar.length]),(2,.arr 3 T3 p),(3,.arr 3 T3 ty),(4,.arr 47 Ce ar),(5,.box 127 false [.bp 1 [] 0]),(6,.box 167 false [.sr 7 Ji 0 hi]),(7,.arr 166 Ji W)]
theorem A1U (h:AJ) (hh:h.1.length<=100000) (G:∀x∈h.1,x.2.1.length<=100000) (p ty:List Int) (ar:List (List (Int×Int))) (W:List (Int×Int)) (hi:Nat) (H:hi<=W.length) (N:hi<=100000000000) {a b:Int} (a0:0<=a) (L:a<(p.length:Int)) (n:0<=b) (b1:b<(p.length:Int)) (T:ty.length=p.length) (M:ar.length=p.length)
  (ta:0<=ty.getD a.toNat 0/\ty.getD a.toNat 0<(h.1.length:Int)) (tb:0<=ty.getD b.toNat 0/\ty.getD b.toNat 0<(h.1.length:Int)) (O:(ar.getD a.toNat []).length<=10000000) (P:(ar.getD b.toNat []).length<=10000000) :
  BA Tryz.prog 117 [.p T3 a,.p T3 b,.bp 5 [] 0,.bp 6 [] 0] (mgO h p ty ar W hi) [1,5,6]
  (λres z=>((CD h (ty.getD a.toNat 0) (ty.getD b.toNat 0)).2=false/\res=.p .bool false/\z=mgO h p ty ar W hi) \/
   ((CD h (ty.getD a.toNat 0) (ty.getD b.toNat 0)).2=true/\res=.p .bool true/\∃m o,o<=m.length/\m.take o=W.take hi++(B1 (ar.getD a.toNat []) (ar.getD b.toNat [])).2 /\
    z=mgO h (p.set b.toNat a) (ty.set a.toNat (CD h (ty.getD a.toNat 0) (ty.getD b.toNat 0)).1) (ar.set a.toNat (B1 (ar.getD a.toNat []) (ar.getD b.toNat [])).1) m o)):=by
 refine Jh [0,1,2,3,6,7,8,9,10,11,35,71,94,122] [] [] Tryz.func117 Tryz.ntmps117 (AF sQ AH) ?_;intro w0 K O0 ρ0 d Q R;have r:a<(ty.length:Int):=by omega
 have B:b<(ty.length:Int):=by omega
 have q:a<(ar.length:Int):=by omega
 have A:b<(ar.length:Int):=by omega
 simp only[mgO,Aj];repeat'(first|exact trivial|refine eS rfl ?_|refine rX d ?_ ?_|refine rC ?_ ?_<;>intro c<;>try(cases c;done))
 ·refine⟨⟨a0,r⟩,⟨n,B⟩,ta,tb,hh,G⟩
 ·refine Ev.ent (σ':=⟨[(6,.p .bool false)],mgO h p ty ar W hi⟩) ?_ (AC [(1,.nm 1),(2,.nm 2),(3,.nm 3),(4,.nm 4),(5,.nm 5),(6,.nm 6),(7,.nm 7)] rfl rfl ?_ ?_)
  ·exact fM d [.tmp 6] (.p .bool false) eT (.inl ⟨c,rfl,rfl⟩)
  ·unfold mgO;exact eN
  ·exact eN
 ·exact⟨n,b1⟩
 ·exact⟨a0,r⟩
 ·exact⟨⟨a0,q⟩,n,A⟩
 ·generalize S:(CD h (ty.getD a.toNat 0) (ty.getD b.toNat 0)).1=t at *;generalize U:ar.getD a.toNat []=xs at *;generalize X:ar.getD b.toNat []=ys at *;refine AG (ι:={s:(List (Int×Int)×List (Int×Int))×(List (Int×Int)×List (Int×Int)×Nat)//lH xs ys (W.take hi) s}) (λs=>⟨[(0,.p T3 a),(1,.p T3 b),(2,.bp 5 [] 0),(3,.bp 6 [] 0),(9,.p Ce s.1.1.1),(10,.p Ce s.1.1.2),(11,.sr 11 BE 0 s.1.2.1.length)],[(1,.box 130 true [.p F7 h,.sr 2 T3 0 p.length,.sr 3 T3 0 ty.length,.sr 4 Ce 0 ar.length]),(2,.arr 3 T3 (p.set b.toNat a)),(3,.arr 3 T3 (ty.set a.toNat t)),(4,.arr 47 Ce ar),(5,.box 127 false [.bp 1 [] 0]),(6,.box 167 false [.sr 7 Ji 0 s.1.2.2.2]),(7,.arr 166 Ji s.1.2.2.1),(11,.arr 53 BE s.1.2.1)]⟩) (λs=>s.1.1.1.length+s.1.1.2.length) ⟨((xs,ys),([],W,hi)),H,rfl,rfl,by simp,by simp only[ON];omega⟩ (eW [(1,.nm 1),(2,.nm 2),(3,.nm 3),(4,.nm 4),(5,.nm 5),(6,.nm 6),(7,.nm 7),(11,.nil)]) (λs=>?_)
  ·obtain⟨⟨⟨x,y⟩,bo,V,k⟩,i⟩:=s;have I:=i.len;have J:=i.num;have v:=i.hi;simp only[ON]at I J v ⊢;repeat'(first|exact trivial|refine eS rfl ?_|refine rX d ?_ ?_|refine rC ?_ ?_<;>intro c<;>try(cases c;done))
   ·refine⟨λh=>?_,λh=>?_⟩
    ·rw[As,IS]at h;exact h.2
    ·rw[As,dO,ABy]at h;have D:=h.1;have l:y.length≠0:=λe=>D (by rw[e];rfl);exact No.2 (ABE l)
   ·have f:0<x.length:=by
     rcases c with c|c
     ·omega
     ·exact No.1 c.1
    have E:y.length=0\/(x.getD 0 (0,0)).1<(y.getD 0 (0,0)).1:=by
     rcases c with c|c
     ·exact .inl (ACR c)
     ·exact .inr c.2
    refine B4 drawsAny d 9 [([0,1,2,3,4],5),([],8)] [6,7] (by kernel_rfl) (Lf ?_ ?_)
    ·exact⟨No.2 f,aT.2 f⟩
    ·refine Nm d [11] ?_ ?_
     ·simp only[AO];omega
     ·refine Lf ?_ ?_
      ·exact aT.2 f
      ·refine Nm d [] ?_ ?_
       ·trivial
       ·refine Pm d ?_ ?_ ?_
        ·exact aT.2 f
        ·trivial
        ·repeat'(first|refine eS rfl ?_|refine AB ?_)
         exact⟨⟨((x.drop 1,y),bo++[x.getD 0 (0,0)],V,k),A7g i f E⟩,by simp only[AAQ];omega,eW [(1,.nm 1),(2,.nm 2),(3,.nm 3),(4,.nm 4),(5,.nm 5),(6,.nm 6),(7,.nm 7),(11,.nm 11)]⟩
   ·have l:y.length≠0:=λe=>c.1 (by rw[e];rfl);have C:0<y.length:=ABE l;refine⟨λh=>No.2 C,λh=>?_⟩
    ·rw[dO,ABy]at h;have l:x.length≠0:=λe=>h (by rw[e];rfl);exact No.2 (ABE l)
   ·have g:0<y.length:=ABE λe=>(by assumption:¬_/\_).1 (by rw[e];rfl);have j:x.length=0\/(y.getD 0 (0,0)).1<(x.getD 0 (0,0)).1:=by
     rcases c with c|c
     ·exact .inl (ACR c)
     ·exact .inr c
    refine B4 drawsAny d 9 [([0,1,2,3,4],5),([],8)] [6,7] (by kernel_rfl) (Lf ?_ ?_)
    ·exact⟨No.2 g,aT.2 g⟩
    ·refine Nm d [11] ?_ ?_
     ·simp only[AO];omega
     ·refine Lf ?_ ?_
      ·exact aT.2 g
      ·refine Nm d [] ?_ ?_
       ·trivial
       ·refine Pm d ?_ ?_ ?_
        ·exact aT.2 g
        ·trivial
        ·repeat'(first|refine eS rfl ?_|refine AB ?_)
         exact⟨⟨((x,y.drop 1),bo++[y.getD 0 (0,0)],V,k),A7h i g j⟩,by simp only[AAQ];omega,eW [(1,.nm 1),(2,.nm 2),(3,.nm 3),(4,.nm 4),(5,.nm 5),(6,.nm 6),(7,.nm 7),(11,.nm 11)]⟩
   ·rename_i j;have f:0<x.length:=ABE λe=>c.1 (by rw[e];rfl);have g:0<y.length:=ABE λe=>j.1 (by rw[e];rfl);refine⟨No.2 f,No.2 g,?_⟩;simp only[AO];omega
   ·rename_i j;have f:0<x.length:=ABE λe=>c.1 (by rw[e];rfl);have g:0<y.length:=ABE λe=>j.1 (by rw[e];rfl);have F:(x.getD 0 (0,0)).1=(y.getD 0 (0,0)).1:=Int.le_antisymm c.2 (j.2 (No.2 f));refine B4 drawsAny d 12 [([0,1,2,3,4],5),([],10),([6,7],11)] [8,9] (by kernel_rfl) (Lf ?_ ?_)
    ·exact⟨No.2 f,aT.2 f,aT.2 g⟩
    ·refine Nm d [11] ?_ ?_
     ·simp only[AO];omega
     ·refine Lf ?_ ?_
      ·exact⟨aT.2 f,aT.2 g⟩
      ·refine Nm d [] ?_ ?_
       ·trivial
       ·refine Lf ?_ ?_
        ·exact⟨aT.2 f,aT.2 g⟩
        ·refine Nm d [] ?_ ?_
         ·trivial
         ·refine Pm d ?_ ?_ ?_
          ·exact aT.2 g
          ·trivial
          ·repeat'(first|refine eS rfl ?_|refine AB ?_)
           exact⟨⟨((x.drop 1,y.drop 1),bo++[x.getD 0 (0,0)],V.take k++[((x.getD 0 (0,0)).2,(y.getD 0 (0,0)).2)],k+1),A5D i f g F⟩,by simp only[AAQ];omega,eW [(1,.nm 1),(2,.nm 2),(3,.nm 3),(4,.nm 4),(5,.nm 5),(6,.nm 6),(7,.nm 7),(11,.nm 11)]⟩
   ·exact⟨a0,q⟩
   ·have f:x=[]:=oN (by omega);have g:y=[]:=oN (by omega);subst f g;have u:=i.both;have w:=i.wait;simp only[B1,AAu]at u w;refine Ev.ent (σ':=⟨[(6,.p .bool true)],mgO h (p.set b.toNat a) (ty.set a.toNat t) (ar.set a.toNat bo) V k⟩) ?_ (AC [(1,.nm 1),(2,.nm 2),(3,.nm 3),(4,.nm 4),(5,.nm 5),(6,.nm 6),(7,.nm 7)] rfl rfl ?_ ?_)
    ·exact fM d [.tmp 6] (.p .bool true) eT (.inr ⟨by assumption,rfl,V,k,v,w,by rw[u];rfl⟩)
    ·unfold mgO;simp only[AAD];exact eN
    ·exact eN
end
theorem LP {h:AJ} (hk:HO h) {a b c:Int} (a0:0<=a) (d:a<(h.1.length:Int)) (e:0<=b) (b1:b<(h.1.length:Int)) (c0:0<=c) (c1:c<(h.1.length:Int)) (h1:A7 h a b=true) (f:A7 h b c=true):A7 h a c=true :=
 (BP hk a0 d c0 c1).2 λi hi=>(BP hk a0 d e b1).1 h1 i ((BP hk e b1 c0 c1).1 f i hi)
theorem Qb:∀ {x y:List (Int×Int)} {a:Int×Int},a∈x->a∈(B1 x y).1
 | [],_,_,h=>by cases h
 | b :: x,[],a,h=>by simpa[B1] using h
 | b :: x,c :: y,a,h=>by
  rw[B1];split
  ·rcases By.1 h with rfl|h
   ·simp
   ·exact If _ (Qb h)
  ·split
   ·exact If _ (Qb h)
   ·rcases By.1 h with rfl|h
    ·simp
    ·exact If _ (Qb h)
termination_by x y=>x.length+y.length
theorem NN:∀ {x y:List (Int×Int)} {a:Int×Int},a∈y->a∈(B1 x y).1\/∃t,(a.1,t)∈(B1 x y).1/\(t,a.2)∈(B1 x y).2
 | [],y,a,h=>by
  left;simpa[B1] using h
 | b :: x,[],a,h=>by cases h
 | b :: x,c :: y,a,h=>by
  rw[B1];split
  ·rcases NN (x:=x) h with g|⟨t,d,e⟩
   ·exact .inl (If _ g)
   ·exact .inr ⟨t,If _ d,e⟩
  ·split
   ·rcases By.1 h with rfl|h
    ·left;simp
    ·rcases NN (x:=b :: x) h with g|⟨t,d,e⟩
     ·exact .inl (If _ g)
     ·exact .inr ⟨t,If _ d,e⟩
   ·rcases By.1 h with rfl|h
    ·right;exact⟨b.2,by rw[show a.1=b.1 by omega];simp,by simp⟩
    ·rcases NN (x:=x) h with g|⟨t,d,e⟩
     ·exact .inl (If _ g)
     ·exact .inr ⟨t,If _ d,If _ e⟩
termination_by x y=>x.length+y.length
theorem JV:∀ {x y:List (Int×Int)} {a:Int×Int},a∈(B1 x y).1->a∈x\/a∈y
 | [],y,a,h=>by
  right;simpa[B1] using h
 | b :: x,[],a,h=>by
  left;simpa[B1] using h
 | b :: x,c :: y,a,h=>by
  rw[B1]at h;split at h
  ·rcases By.1 h with rfl|h
   ·left;simp
   ·rcases JV h with g|g
    ·exact .inl (If _ g)
    ·exact .inr g
  ·split at h
   ·rcases By.1 h with rfl|h
    ·right;simp
    ·rcases JV h with g|g
     ·exact .inl g
     ·exact .inr (If _ g)
   ·rcases By.1 h with rfl|h
    ·left;simp
    ·rcases JV h with g|g
     ·exact .inl (If _ g)
     ·exact .inr (If _ g)
termination_by x y=>x.length+y.length
theorem Qc:∀ {x y:List (Int×Int)} {q:Int×Int},q∈(B1 x y).2->∃e,(e,q.1)∈x/\(e,q.2)∈y
 | [],y,q,h=>by simp[B1]at h
 | b :: x,[],q,h=>by simp[B1]at h
 | b :: x,c :: y,q,h=>by
  rw[B1]at h;split at h
  ·obtain⟨e,h1,a⟩:=Qc h;exact⟨e,If _ h1,a⟩
  ·split at h
   ·obtain⟨e,h1,a⟩:=Qc h;exact⟨e,h1,If _ a⟩
   ·rcases By.1 h with rfl|h
    ·exact⟨b.1,by simp,by rw[show b.1=c.1 by omega];simp⟩
    ·obtain⟨e,h1,a⟩:=Qc h;exact⟨e,If _ h1,If _ a⟩
termination_by x y=>x.length+y.length
theorem Tj:∀ {x y:List (Int×Int)},(B1 x y).2.length<=x.length
 | [],y=>by simp[B1]
 | b :: x,[]=>by simp[B1]
 | b :: x,c :: y=>by
  rw[B1];split
  ·have:=Tj (x:=x) (y:=c :: y);simp only[OS];omega
  ·split
   ·exact Tj (x:=b :: x) (y:=y)
   ·have:=Tj (x:=x) (y:=y);simp only[OS];omega
termination_by x y=>x.length+y.length
abbrev Sk (l:List (Int×Int)):Prop:=l.Pairwise (λa b=>a.1<b.1)
theorem Tk:∀ {x y:List (Int×Int)},Sk x->Sk y->Sk (B1 x y).1
 | [],y,_,h=>by simpa[B1] using h
 | b :: x,[],h,_=>by simpa[B1] using h
 | b :: x,c :: y,i,j=>by
  have d:=AAX.1 i;have e:=AAX.1 j;rw[B1];split
  ·rename_i f;refine AAX.2 ⟨λa ha=>?_,Tk d.2 j⟩;rcases JV ha with g|g
   ·exact d.1 a g
   ·rcases By.1 g with rfl|g
    ·exact f
    ·have:=e.1 a g;omega
  ·split
   ·rename_i f;refine AAX.2 ⟨λa ha=>?_,Tk i e.2⟩;rcases JV ha with g|g
    ·rcases By.1 g with rfl|g
     ·exact f
     ·have:=d.1 a g;omega
    ·exact e.1 a g
   ·refine AAX.2 ⟨λa ha=>?_,Tk d.2 e.2⟩;rcases JV ha with g|g
    ·exact d.1 a g
    ·have:=e.1 a g;omega
termination_by x y=>x.length+y.length
theorem A5E {p:List Int} {m:Int->Nat} (hp:Fo p m) {a b:Int} (a0:0<=a) (c:0<=b) (b1:b<(p.length:Int)) (ha:Dt p a=a) (j:Dt p b=b) (f:a≠b) {x r:Int} (d:0<=x) (o:x<(p.length:Int)) (h:Rt p x r):Rt (p.set b.toNat a) x (if r=b then a else r):=by
 have k:Rt (p.set b.toNat a) a a:=.base (by rw[DC c b1 a a0,At f];exact ha);induction h with
 | @base n hn =>
  split
  ·rename_i e;rw[e];exact .step (by rw[DC c b1 b c,BY rfl];exact f) (by rw[DC c b1 b c,BY rfl];exact k)
  ·rename_i e;exact .base (by rw[DC c b1 n d,At e];exact hn)
 | @step n r hn _ l =>
  have g:n≠b:=λe=>hn (e▸j);have i:=hp.rng n d o;exact .step (by rw[DC c b1 n d,At g];exact hn) (by rw[DC c b1 n d,At g];exact l i.1 i.2)
theorem A5F {p:List Int} {c:Int->Nat} (hp:Fo p c) {a b:Int} (a0:0<=a) (h:a<(p.length:Int)) (d:0<=b) (b1:b<(p.length:Int)) (ha:Dt p a=a) (k:Dt p b=b) (j:a≠b):∃m,Fo (p.set b.toNat a) m:=by
 classical
 refine⟨λx=>if Rt p x b then c x+c a+1 else c x,λn n0 n1=>?_,λn n0 n1 hn=>?_⟩
 ·rw[AAD]at n1 ⊢;rw[DC d b1 n n0];split
  ·exact⟨a0,h⟩
  ·exact hp.rng n n0 n1
 ·rw[AAD]at n1;rw[DC d b1 n n0]at hn ⊢;by_cases e:n=b
  ·subst e;rw[BY rfl];have h1:¬Rt p a n:=λg=>j (g.det (.base ha)).symm;rw[At h1,BY (.base k)];omega
  ·rw[At e]at hn ⊢;have l:=hp.dec n n0 n1 hn;have f:Rt p n b↔Rt p (Dt p n) b:=by
    constructor
    ·intro g;cases g with
     | base g=>exact absurd g hn
     | step _ g=>exact g
    ·exact λg=>.step hn g
   by_cases g:Rt p n b
   ·rw[BY g,BY (f.1 g)];omega
   ·rw[At g,At (λi=>g (f.2 i))];exact l
inductive EG (n:Nat) (p:List Int) (W:List (Int×Int)):Int->Int->Prop
 | cls {x y r:Int} (x0:0<=x) (x1:x<(n:Int)) (y0:0<=y) (y1:y<(n:Int)) (h:Rt p x r) (g:Rt p y r):EG n p W x y
 | wt {x y:Int} (h:(x,y)∈W):EG n p W x y
 | symm {x y:Int} (h:EG n p W x y):EG n p W y x
 | trans {x y z:Int} (h:EG n p W x y) (g:EG n p W y z):EG n p W x z
theorem EG.mono {n:Nat} {p q:List Int} {W V:List (Int×Int)} (h1:∀x y r,0<=x->x<(n:Int)->0<=y->y<(n:Int)->Rt p x r->Rt p y r->EG n q V x y) (a:∀x y,(x,y)∈W->EG n q V x y) {x y:Int} (h:EG n p W x y):EG n q V x y:=by
 induction h with
 | cls e f i j h g=>exact h1 _ _ _ e f i j h g
 | wt h=>exact a _ _ h
 | symm _ b=>exact .symm b
 | trans _ _ c d=>exact .trans c d
structure tF (h:AJ) (N:List AE) (P:List (Int×Int)) (X:List AE) (v:Int->Int):Prop where
 rng:∀x,0<=x->x<(N.length:Int)->0<=v x/\v x<(X.length:Int)
 ty:∀x,0<=x->x<(N.length:Int)->A7 h (N.getD x.toNat (0,[])).1 (X.getD (v x).toNat (0,[])).1=true
 arc:∀x,0<=x->x<(N.length:Int)->∀a∈Ag N x,Oi (Ag X (v x)) a.1=v a.2
 eq:∀q∈P,v q.1=v q.2
structure JX (h:AJ) (X:List AE) (v:Int->Int) (n:Nat) (p ty:List Int) (ar:List (List (Int×Int))) (W:List (Int×Int)):Prop where
 cls:∀x r,0<=x->x<(n:Int)->Rt p x r->v x=v r
 wt:∀w∈W,v w.1=v w.2
 ty:∀r,0<=r->r<(n:Int)->Dt p r=r->A7 h (ty.getD r.toNat 0) (X.getD (v r).toNat (0,[])).1=true
 arc:∀r,0<=r->r<(n:Int)->Dt p r=r->∀a∈ar.getD r.toNat [],Oi (Ag X (v r)) a.1=v a.2
def Dr (N:List AE):List Int:=N.flatMap λx=>x.2.map (·.1)
structure JI (h:AJ) (N:List AE) (P:List (Int×Int)) (p ty:List Int) (ar:List (List (Int×Int))) (W:List (Int×Int)):Prop where
 nty:Ip h N
 fo:∃rk,Fo p rk
 lp:p.length=N.length
 lt:ty.length=N.length
 la:ar.length=N.length
 wr:∀w∈W,(0<=w.1/\w.1<(N.length:Int))/\(0<=w.2/\w.2<(N.length:Int))
 tyr:∀x,0<=x->x<(N.length:Int)->0<=ty.getD x.toNat 0/\ty.getD x.toNat 0<(h.1.length:Int)
 arr:∀k,∀a∈ar.getD k [],(0<=a.2/\a.2<(N.length:Int))/\a.1∈Dr N
 srt:∀k,Sk (ar.getD k [])
 sp:∀q∈P,EG N.length p W q.1 q.2
 st:∀x r,0<=x->x<(N.length:Int)->Rt p x r->A7 h (N.getD x.toNat (0,[])).1 (ty.getD r.toNat 0)=true
 sa:∀x r,0<=x->x<(N.length:Int)->Rt p x r->∀a∈Ag N x,∃t,(a.1,t)∈ar.getD r.toNat []/\EG N.length p W a.2 t
 co:∀X v,Ip h X->tF h N P X v->JX h X v N.length p ty ar W
theorem GG {p:List Int} {a:Int->Nat} (hp:Fo p a) {x r:Int} (c:0<=x) (d:x<(p.length:Int)) (h:Rt p x r):0<=r/\r<(p.length:Int):=by
 obtain⟨s,hs,b,s1⟩:=hp.root c d;rw[h.det hs];exact⟨b,s1⟩
theorem Ri {p q:List Int} (h:Ez p q) {r:Int} (a:0<=r) (b:r<(p.length:Int)):Dt p r=r↔Dt q r=r :=
 ⟨λe=>((h.2 r r a b).1 (.base e)).root,λe=>((h.2 r r a b).2 (.base e)).root⟩
theorem A5G {h:AJ} {N:List AE} {P:List (Int×Int)} {p q ty:List Int} {ar:List (List (Int×Int))} {W:List (Int×Int)} (hs:Ez p q) (k:∃A,Fo q A) (w:JI h N P p ty ar W):JI h N P q ty ar W:=by
 obtain⟨nty,fo,lp,lt,la,wr,tyr,arr,srt,sp,st,sa,co⟩:=w;have e:∀x r,0<=x->x<(N.length:Int)->(Rt p x r↔Rt q x r):=λx r b c=>hs.2 x r b (by rw[lp];exact c);have l:∀ {x y},EG N.length p W x y->EG N.length q W x y:=λ{x y} g=>g.mono (λx y r b c m n h1 j=>.cls b c m n ((e x r b c).1 h1) ((e y r m n).1 j)) (λ_ _ h=>.wt h);refine⟨nty,k,by rw[<-hs.1];exact lp,lt,la,wr,tyr,arr,srt,λq k=>l (sp q k),λx r b c d=>st x r b c ((e x r b c).2 d),λx r b c d a ha=>?_,λX v u z=>?_⟩
 ·obtain⟨t,h1,j⟩:=sa x r b c ((e x r b c).2 d) a ha;exact⟨t,h1,l j⟩
 ·obtain⟨c1,c2,o,s⟩:=co X v u z;exact⟨λx r b c d=>c1 x r b c ((e x r b c).2 d),c2,λr f i d=>o r f i ((Ri hs f (by rw[lp];exact i)).2 d),λr f i d=>s r f i ((Ri hs f (by rw[lp];exact i)).2 d)⟩
section
variable {h:AJ} {N:List AE} {P:List (Int×Int)} {p ty:List Int} {ar:List (List (Int×Int))} {W:List (Int×Int)} {s t a b:Int}
theorem A5H (n:JI h N P p ty ar (W++[(s,t)])) (hs:Rt p s a) (A:Rt p t a):JI h N P p ty ar W:=by
 obtain⟨nty,fo,lp,lt,la,wr,tyr,arr,srt,sp,st,sa,co⟩:=n;have b:=wr (s,t) (by simp);have j:∀ {x y},EG N.length p (W++[(s,t)]) x y->EG N.length p W x y:=λ{x y} g=>g.mono (λx y r f i C D h1 d=>.cls f i C D h1 d) (λx y c=>by
  rcases OF.1 c with c|c
  ·exact .wt c
  ·have e:(x,y)=(s,t):=by simpa using c
   cases e;exact .cls b.1.1 b.1.2 b.2.1 b.2.2 hs A)
 refine⟨nty,fo,lp,lt,la,λw b=>wr w (AAM _ b),tyr,arr,srt,λq o=>j (sp q o),st,λx r f i z a ha=>?_,λX v m B=>?_⟩
 ·obtain⟨u,h1,d⟩:=sa x r f i z a ha;exact⟨u,h1,j d⟩
 ·obtain⟨c1,c2,k,l⟩:=co X v m B;exact⟨c1,λw b=>c2 w (AAM _ b),k,l⟩
theorem tG (hk:HO h) (c:JI h N P p ty ar (W++[(s,t)])) (hs:Rt p s a) (g:Rt p t b) {X:List AE} {v:Int->Int} (o:Ip h X) (q:tF h N P X v) :
  v a=v b/\(CD h (ty.getD a.toNat 0) (ty.getD b.toNat 0)).2=true/\A7 h (CD h (ty.getD a.toNat 0) (ty.getD b.toNat 0)).1 (X.getD (v a).toNat (0,[])).1=true:=by
 obtain⟨D,fo⟩:=c.fo;obtain⟨⟨i,s1⟩,j,l⟩:=c.wr (s,t) (by simp);simp only at i s1 j l;have d:=GG fo i (by rw[c.lp];exact s1) hs;have f:=GG fo j (by rw[c.lp];exact l) g;rw[c.lp]at d f;obtain⟨c1,c2,m,B⟩:=c.co X v o q;have u:=c1 s a i s1 hs;have w:=c1 t b j l g;have x:v s=v t:=c2 (s,t) (by simp);have e:v a=v b:=by rw[<-u,<-w,x]
 have y:=m a d.1 d.2 hs.root;have n:=m b f.1 f.2 g.root;rw[<-e]at n;have C:=q.rng a d.1 d.2;have r:=o _ (AD X (0,[]) (k:=(v a).toNat) (by omega));have ta:=c.tyr a d.1 d.2;have tb:=c.tyr b f.1 f.2;obtain⟨z,A⟩:=(Mc hk ta.1 ta.2 tb.1 tb.2).2 _ r.1 r.2 y n;exact⟨e,z,A⟩
theorem YV {α:Type} {l:List α} {d v:α} {a r:Int} (a0:0<=a) (b:a<(l.length:Int)) (c:0<=r):(l.set a.toNat v).getD r.toNat d=if r=a then v else l.getD r.toNat d:=by
 by_cases e:r=a
 ·subst e;rw[BY rfl,Nu _ _ _ (by omega)]
 ·rw[At e,getD_set_ne _ _ _ (by omega)]
theorem A1V (hk:HO h) (al:JI h N P p ty ar (W++[(s,t)])) (hs:Rt p s a) (V:Rt p t b) (T:a≠b) (aq:(CD h (ty.getD a.toNat 0) (ty.getD b.toNat 0)).2=true) :
  JI h N P (p.set b.toNat a) (ty.set a.toNat (CD h (ty.getD a.toNat 0) (ty.getD b.toNat 0)).1) (ar.set a.toNat (B1 (ar.getD a.toNat []) (ar.getD b.toNat [])).1) (W++(B1 (ar.getD a.toNat []) (ar.getD b.toNat [])).2):=by
 have au:=λX v S Z=>tG (X:=X) (v:=v) hk al hs V S Z;obtain⟨nty,⟨bb,fo⟩,lp,lt,la,wr,tyr,arr,srt,sp,st,sa,co⟩:=al;obtain⟨⟨aa,s1⟩,ab,ad⟩:=wr (s,t) (by simp);simp only at aa s1 ab ad;have A:=GG fo aa (by rw[lp];exact s1) hs;have C:=GG fo ab (by rw[lp];exact ad) V;have ha:=hs.root;have U:=V.root;have O:=λ{x r:Int} (c:0<=x) (i:x<(N.length:Int)) (F:Rt p x r)=>A5E fo A.1 C.1 C.2 ha U T c (by rw[lp];exact i) F;have ah:∀ {x r:Int},0<=x->x<(N.length:Int)->Rt (p.set b.toNat a) x r->∃z,Rt p x z/\r=if z=b then a else z:=λ{x r} c i F=>by
  obtain⟨z,h1,-,-⟩:=fo.root c (by rw[lp];exact i);exact⟨z,h1,F.det (O c i h1)⟩
 have ta:=tyr a A.1 (by rw[<-lp];exact A.2);have tb:=tyr b C.1 (by rw[<-lp];exact C.2);obtain⟨aj,ak,ay,az⟩:=(Mc hk ta.1 ta.2 tb.1 tb.2).1 aq;generalize ba:(CD h (ty.getD a.toNat 0) (ty.getD b.toNat 0)).1=m at *;generalize G:ar.getD a.toNat []=xs at *;generalize H:ar.getD b.toNat []=ys at *;have aw:EG N.length (p.set b.toNat a) (W++(B1 xs ys).2) s t:=by
  have h1:=O aa s1 hs;have E:=O ab ad V;rw[At T]at h1;rw[BY rfl]at E;exact .cls aa s1 ab ad h1 E
 have L:∀ {x y},EG N.length p (W++[(s,t)]) x y->EG N.length (p.set b.toNat a) (W++(B1 xs ys).2) x y:=λ{x y} g=>g.mono (λx y r c i an ao h1 E=>.cls c i an ao (O c i h1) (O an ao E)) (λx y Q=>by
  rcases OF.1 Q with Q|Q
  ·exact .wt (AAM _ Q)
  ·have e:(x,y)=(s,t):=by simpa using Q
   cases e;exact aw)
 have Y:=λ{r:Int} (B:0<=r)=>YV (l:=ty) (d:=0) (v:=m) A.1 (by rw[lt,<-lp];exact A.2) B;have M:=λ{r:Int} (B:0<=r)=>YV (l:=ar) (d:=[]) (v:=(B1 xs ys).1) A.1 (by rw[la,<-lp];exact A.2) B;refine⟨nty,A5F fo A.1 A.2 C.1 C.2 ha U T,by rw[AAD];exact lp,by rw[AAD];exact lt,by rw[AAD];exact la,λw D=>?_,λx c i=>?_,λk y j=>?_,λk=>?_,λq av=>L (sp q av),λx r c i o=>?_,λx r c i o y j=>?_,λX v S Z=>?_⟩
 ·rcases OF.1 D with D|D
  ·exact wr w (AAM _ D)
  ·obtain⟨e,K,n⟩:=Qc D;rw[<-G]at K;rw[<-H]at n;exact⟨(arr _ _ K).1,(arr _ _ n).1⟩
 ·rw[Y c];split
  ·exact⟨aj,ak⟩
  ·exact tyr x c i
 ·have h1:=M (r:=(k:Int)) (by omega);rw[gO]at h1;rw[h1]at j;split at j
  ·rcases JV j with j|j
   ·rw[<-G]at j;exact arr _ _ j
   ·rw[<-H]at j;exact arr _ _ j
  ·exact arr _ _ j
 ·have h1:=M (r:=(k:Int)) (by omega);rw[gO]at h1;rw[h1];split
  ·exact Tk (by rw[<-G];exact srt _) (by rw[<-H];exact srt _)
  ·exact srt k
 ·obtain⟨z,h1,rfl⟩:=ah c i o;have F:=nty _ (AD N (0,[]) (k:=x.toNat) (by omega));have ai:=GG fo c (by rw[lp];exact i) h1;by_cases e:z=b
  ·rw[BY e,Y A.1,BY rfl];exact LP hk F.1 F.2 tb.1 tb.2 aj ak (by rw[<-e];exact st x z c i h1) az
  ·rw[At e,Y ai.1];split
   ·rename_i n;exact LP hk F.1 F.2 ta.1 ta.2 aj ak (by rw[<-n];exact st x z c i h1) ay
   ·exact st x z c i h1
 ·obtain⟨z,h1,rfl⟩:=ah c i o;have ai:=GG fo c (by rw[lp];exact i) h1;obtain⟨u,R,ae⟩:=sa x z c i h1 y j;by_cases e:z=b
  ·rw[BY e,M A.1,BY rfl];rw[e,H]at R;rcases NN (x:=xs) R with g|⟨w,af,ag⟩
   ·exact⟨u,g,L ae⟩
   ·exact⟨w,af,.trans (L ae) (.symm (.wt (ABB _ ag)))⟩
  ·rw[At e,M ai.1];split
   ·rename_i n;rw[n,G]at R;exact⟨u,Qb R,L ae⟩
   ·exact⟨u,R,L ae⟩
 ·obtain⟨c1,c2,ap,J⟩:=co X v S Z;obtain⟨e,-,ax⟩:=au X v S Z;have am:∀r,0<=r->r<(N.length:Int)->Dt (p.set b.toNat a) r=r->r≠b/\Dt p r=r:=λr B I o=>by
   rw[DC C.1 C.2 r B]at o;split at o
   ·rename_i e;rw[e]at o;exact absurd o T
   ·rename_i e;exact⟨e,o⟩
  refine⟨λx r c i o=>?_,λw D=>?_,λr B I o=>?_,λr B I o y j=>?_⟩
  ·obtain⟨z,h1,rfl⟩:=ah c i o;have:=c1 x z c i h1;split
   ·rename_i n;rw[this,n,e]
   ·exact this
  ·rcases OF.1 D with D|D
   ·exact c2 w (AAM _ D)
   ·obtain⟨f,K,n⟩:=Qc D;rw[<-G]at K;rw[<-H]at n;have af:=J a A.1 (by rw[<-lp];exact A.2) ha _ K;have ag:=J b C.1 (by rw[<-lp];exact C.2) U _ n;rw[<-af,<-ag,e]
  ·obtain⟨-,E⟩:=am r B I o;rw[Y B];split
   ·rename_i n;rw[n];exact ax
   ·exact ap r B I E
  ·obtain⟨-,E⟩:=am r B I o;rw[M B]at j;split at j
   ·rename_i n;rw[n];rcases JV j with j|j
    ·exact J a A.1 (by rw[<-lp];exact A.2) ha y (by rw[G];exact j)
    ·rw[e];exact J b C.1 (by rw[<-lp];exact C.2) U y (by rw[H];exact j)
   ·exact J r B I E y j
end
theorem fF {l:List Nat} {f g:Nat->Bool} {b:Nat} (hn:l.Nodup) (c:b∈l) (h1:f b=true) (d:g b=false) (h:∀x∈l,x≠b->g x=f x):(l.filter g).length+1=(l.filter f).length:=by
 induction l with
 | nil=>cases c
 | cons x l m =>
  obtain⟨k,j⟩:=AAS.1 hn;by_cases e:x=b
  ·subst e;have:l.filter g=l.filter f:=List.filter_congr λy a=>h y (by simp[a]) (λe=>k (e▸a));rw[AAE,AAE,At (by rw[d];simp),BY h1,this];rfl
  ·have i:b∈l:=by
    rcases By.1 c with g|g
    ·exact absurd g.symm e
    ·exact g
   have n:=m j i (λy a=>h y (by simp[a]));rw[AAE,AAE,h x (by simp) e];split
   ·simp only[OS];omega
   ·exact n
def nR (p:List Int):Nat:=((List.range p.length).filter λk=>p.getD k 0==(k:Int)).length
theorem AA4 (p:List Int):nR p<=p.length:=by
 have:=AB9 (λk=>p.getD k 0==(k:Int)) (List.range p.length);rw[ABT]at this;exact this
theorem tH {p q:List Int} (h:Ez p q):nR q=nR p:=by
 unfold nR;rw[<-h.1];refine ABr List.length (List.filter_congr λk hk=>?_);have a:=oR.1 hk;have:=Ri h (r:=(k:Int)) (by omega) (by omega);unfold Dt at this;rw[gO]at this;rw[ABX,AAN,AAN];exact this.symm
theorem A5I {p:List Int} {a b:Int} (d:0<=b) (b1:b<(p.length:Int)) (c:Dt p b=b) (e:a≠b):nR (p.set b.toNat a)+1=nR p:=by
 unfold nR;rw[AAD];refine fF (b:=b.toNat) List.nodup_range (oR.2 (by omega)) ?_ ?_ λx _ f=>?_
 ·rw[AAN];unfold Dt at c;omega
 ·rw[Nu _ _ _ (by omega),ABy];omega
 ·rw[getD_set_ne _ _ _ (by omega)]
theorem Rj {α:Type} [DecidableEq α]:∀ {l l':List α},l.Nodup->(∀x∈l,x∈l')->l.length<=l'.length
 | [],_,_,_=>by simp
 | x :: l,l',hn,h=>by
  obtain⟨d,c⟩:=AAS.1 hn;have a:=h x (by simp);have:=Rj (l:=l) (l':=l'.erase x) c (λy b=>(ACP (λe:y=x=>d (by rw[<-e];exact b))).2 (h y (by simp[b])));rw[List.length_erase_of_mem a]at this;have:=ACz a;simp only[OS];omega
theorem tI {l:List (Int×Int)} (h:Sk l) {S:List Int} (hs:∀a∈l,a.1∈S):l.length<=S.length:=by
 have hn:(l.map (·.1)).Nodup:=by
  unfold List.Nodup;rw[ABc];exact h.imp λg=>by omega
 have:=Rj hn (l':=S) (λx b=>by
  obtain⟨a,ha,rfl⟩:=Do.1 b;exact hs a ha)
 rwa [On]at this
theorem A1W {h:AJ} {N:List AE} {P:List (Int×Int)} {p ty:List Int} {ar:List (List (Int×Int))} (t:JI h N P p ty ar []) {a b:Int} (ha:0<=a/\a<(N.length:Int)) (s:0<=b/\b<(N.length:Int)):JI h N (P++[(a,b)]) p ty ar [(a,b)]:=by
 obtain⟨nty,fo,lp,lt,la,wr,tyr,arr,srt,sp,st,sa,co⟩:=t;have l:∀ {x y},EG N.length p [] x y->EG N.length p [(a,b)] x y:=λ{x y} g=>g.mono (λx y r j k C D h1 f=>.cls j k C D h1 f) (λx y A=>by cases A);refine⟨nty,fo,lp,lt,la,λw i=>?_,tyr,arr,srt,λq c=>?_,st,λx r j k z y B=>?_,λX v o d=>?_⟩
 ·have e:w=(a,b):=by simpa using i
  subst e;exact⟨ha,s⟩
 ·rcases OF.1 c with c|c
  ·exact l (sp q c)
  ·have e:q=(a,b):=by simpa using c
   subst e;exact .wt (by simp)
 ·obtain⟨u,h1,f⟩:=sa x r j k z y B;exact⟨u,h1,l f⟩
 ·obtain⟨c1,c2,m,n⟩:=co X v o ⟨d.rng,d.ty,d.arc,λq c=>d.eq q (AAM _ c)⟩;refine⟨c1,λw i=>?_,m,n⟩;have e:w=(a,b):=by simpa using i
  subst e;exact d.eq _ (by simp)
def tJ (h:AJ) (p ty:List Int) (ar:List (List (Int×Int))):List (Nat×Obj):=[(101,.box 130 true [.p F7 h,.sr 102 T3 0 p.length,.sr 103 T3 0 ty.length,.sr 104 Ce 0 ar.length]),(102,.arr 3 T3 p),(103,.arr 3 T3 ty),(104,.arr 47 Ce ar)]
theorem A5J (h:AJ) (hk:HO h) {N:List AE} {P:List (Int×Int)} {p ty:List Int} {ar:List (List (Int×Int))} (Y:JI h N P p ty ar []) {a b:Int} (ha:0<=a/\a<(N.length:Int)) (ah:0<=b/\b<(N.length:Int)) (af:N.length<=10000) (hF:(Dr N).length<=1000000) :
  BA Tryz.prog 83 [.bp 101 [] 0,.p T3 a,.p T3 b] (tJ h p ty ar) [101]
  (λres M=>(res=.p .bool true/\∃B H u,M=tJ h B H u/\JI h N (P++[(a,b)]) B H u [])\/(res=.p .bool false/\(∃B H u,M=tJ h B H u)/\∀X v,Ip h X->¬tF h N (P++[(a,b)]) X v)):=by
 refine Jh [0,1,2,3,6,7,8,9,10,11,19,48] [] [] Tryz.func83 Tryz.ntmps83 AH ?_;intro w0 K O0 ρ0 f ba bb;have hh:h.1.length<=100000:=Qo hk.2 (by omega);have ai:∀x∈h.1,x.2.1.length<=100000:=λx av=>Qo (hk.1.wid x.2.1 (Do.2 ⟨x,av,rfl⟩)) (by omega);have aj:=A1W Y ha ah;generalize az:P++[(a,b)]=Q at *;have ay:N.length*((Dr N).length+1)<=10000*1000001:=Nat.mul_le_mul af (by omega);simp only[tJ,Aj];repeat'(first|exact trivial|refine eS rfl ?_|refine rX f ?_ ?_)
 refine AG (ι:={s:(List Int×List Int×List (List (Int×Int)))×(List (Int×Int)×Nat)//JI h N Q s.1.1 s.1.2.1 s.1.2.2 (s.2.1.take s.2.2)/\s.2.2<=s.2.1.length/\nR s.1.1*((Dr N).length+1)+s.2.2<=N.length*((Dr N).length+1)+1}) (λs=>⟨[(3,.bp 3 [] 0),(7,.bp 7 [] 0),(8,.clo 117 [3,7])],[(101,.box 130 true [.p F7 h,.sr 102 T3 0 s.1.1.1.length,.sr 103 T3 0 s.1.1.2.1.length,.sr 104 Ce 0 s.1.1.2.2.length]),(102,.arr 3 T3 s.1.1.1),(103,.arr 3 T3 s.1.1.2.1),(104,.arr 47 Ce s.1.1.2.2),(3,.box 127 false [.bp 101 [] 0]),(7,.box 167 false [.sr 15 Ji 0 s.1.2.2]),(15,.arr 166 Ji s.1.2.1)]⟩) (λs=>nR s.1.1.1*((Dr N).length+1)+s.1.2.2) ⟨((p,ty,ar),([(a,b)],1)),aj,by simp,by have:=AAm ((Dr N).length+1) (AA4 p);rw[Y.lp]at this;simp only;omega⟩ (eW [(101,.nm 101),(102,.nm 102),(103,.nm 103),(104,.nm 104),(3,.nm 3),(7,.nm 7),(15,.nm 15)]) (λs=>?_)
 ·obtain⟨⟨⟨q,d,aq⟩,V,k⟩,l,ak,ae⟩:=s;simp only at l ak ae ⊢;repeat'(first|exact trivial|refine eS rfl ?_|refine rX f ?_ ?_|refine rC ?_ ?_<;>intro j<;>try(cases j;done))
  ·exact eV
  ·exact eV
  ·have Z:0<k:=No.1 j;have al:((k:Int)-1).toNat=k-1:=by omega
   have U:=AW V (0,0) (k:=k-1) (by omega);rw[show k-1+1=k by omega]at U;rw[al];generalize bd:V.getD (k-1) (0,0)=st at *;obtain⟨s,t⟩:=st;rw[U]at l;obtain⟨⟨D,s1⟩,F,G⟩:=l.wr (s,t) (by simp);simp only at D s1 F G;obtain⟨O,fo⟩:=l.fo;have C:=l.lp;refine B4 drawsAny f 8 [([0,1,2],3),([4,5,6],7)] [] (by kernel_rfl) (Lf ?_ ?_)
   ·trivial
   ·refine mxC f (Z0 h d aq O fo D (by rw[C];exact s1)) [(1,.nm 101),(2,.nm 102),(3,.nm 103),(4,.nm 104)] [102,103,104] ?_ ?_ ?_
    ·exact eN
    ·simp only[YU];exact eN
    ·rintro _ _ ⟨ab,c,rfl,rfl,ad,E,aw⟩;refine⟨[(101,.nm 1),(102,.nm 2),(103,.nm 3),(104,.nm 4)],.p T3 c,[(101,.box 130 true [.p F7 h,.sr 102 T3 0 ab.length,.sr 103 T3 0 d.length,.sr 104 Ce 0 aq.length]),(102,.arr 3 T3 ab),(103,.arr 3 T3 d),(104,.arr 47 Ce aq)],rfl,rfl,?_,?_,rfl,rfl,rfl,?_⟩
     ·simp only[YU];exact eN
     ·exact eN
     ·refine Lf ?_ ?_
      ·trivial
      ·refine mxC f (Z0 h d aq O ad F (by rw[<-E.1,C];exact G)) [(1,.nm 101),(2,.nm 102),(3,.nm 103),(4,.nm 104)] [102,103,104] ?_ ?_ ?_
       ·exact eN
       ·simp only[YU];exact eN
       ·rintro _ _ ⟨g,e,rfl,rfl,J,S,ax⟩;refine⟨[(101,.nm 1),(102,.nm 2),(103,.nm 3),(104,.nm 4)],.p T3 e,[(101,.box 130 true [.p F7 h,.sr 102 T3 0 g.length,.sr 103 T3 0 d.length,.sr 104 Ce 0 aq.length]),(102,.arr 3 T3 g),(103,.arr 3 T3 d),(104,.arr 47 Ce aq)],rfl,rfl,?_,?_,rfl,rfl,rfl,?_⟩
        ·simp only[YU];exact eN
        ·exact eN
        ·refine Pm f ?_ ?_ ?_
         ·trivial
         ·trivial
         ·repeat' refine eS rfl ?_
          have i:=A5G (E.trans S) ⟨O,J⟩ l;have R:=E.trans S;have A:=(R.2 s c D (by rw[C];exact s1)).1 aw;have o:=(S.2 t e F (by rw[<-E.1,C];exact G)).1 ax;have n:=i.lp;have w:=GG J D (by rw[n];exact s1) A;have m:=GG J F (by rw[n];exact G) o;refine evP f 4 ?_ ?_
          ·trivial
          ·by_cases z:c=e
           ·subst z;rw[show (c != c)=false from bne_self_eq_false c];refine rL f ?_ ?_
            ·trivial
            ·repeat'(first|refine eS rfl ?_|refine AB ?_|refine rC ?_ ?_<;>intro j<;>try(cases j;done))
             have y:=A5H i A o;have hn:=tH R;exact⟨⟨((g,d,aq),V,k-1),y,by simp only;omega,by simp only;rw[hn];omega⟩,by simp only;rw[hn];omega,eW [(101,.nm 101),(102,.nm 102),(103,.nm 103),(104,.nm 104),(3,.nm 3),(7,.nm 7),(15,.nm 15)]⟩
           ·rw[show (c != e)=true by simpa using z];refine rN 3 f ?_ ?_
            ·trivial
            ·have L:=λr:Int=>tI (i.srt r.toNat) (λa ha=>(i.arr r.toNat a ha).2);refine clG f (A1U h hh ai g d aq V (k-1) (by omega) (by omega) w.1 w.2 m.1 m.2 (by rw[i.lt,n]) (by rw[i.la,n]) (i.tyr c w.1 (by rw[<-n];exact w.2)) (i.tyr e m.1 (by rw[<-n];exact m.2)) (Qo (L c) (by omega)) (Qo (L e) (by omega))) [(1,.nm 101),(2,.nm 102),(3,.nm 103),(4,.nm 104),(5,.nm 3),(6,.nm 7),(7,.nm 15)] [102,103,104,15] ?_ ?_ ?_
             ·exact eN
             ·simp only[mgO];exact eN
             ·rintro res M (⟨I,rfl,rfl⟩|⟨I,rfl,T,W,ap,aa,rfl⟩)
              ·refine⟨[(101,.nm 1),(102,.nm 2),(103,.nm 3),(104,.nm 4),(3,.nm 5),(7,.nm 6),(15,.nm 7)],.p .bool false,[(101,.box 130 true [.p F7 h,.sr 102 T3 0 g.length,.sr 103 T3 0 d.length,.sr 104 Ce 0 aq.length]),(102,.arr 3 T3 g),(103,.arr 3 T3 d),(104,.arr 47 Ce aq),(3,.box 127 false [.bp 101 [] 0]),(7,.box 167 false [.sr 15 Ji 0 (k-1)]),(15,.arr 166 Ji V)],rfl,rfl,?_,?_,rfl,rfl,?_⟩
               ·simp only[mgO];exact eN
               ·exact eN
               ·refine rL f ?_ ?_
                ·trivial
                ·repeat'(first|exact trivial|refine eS rfl ?_|refine rX f ?_ ?_|refine rC ?_ ?_<;>intro j<;>try(cases j;done))
                 refine Ev.ent (σ':=⟨[(6,.p .bool false)],tJ h g d aq⟩) ?_ (AC [(101,.nm 101),(102,.nm 102),(103,.nm 103),(104,.nm 104)] rfl rfl ?_ ?_)
                 ·exact fM f [.tmp 6] (.p .bool false) eT (.inr ⟨rfl,⟨g,d,aq,rfl⟩,λX v ag ao=>by
                   have:=(tG hk i A o ag ao).2.1;rw[I]at this;cases this⟩)
                 ·unfold tJ;exact eN
                 ·exact eN
              ·refine⟨[(101,.nm 1),(102,.nm 2),(103,.nm 3),(104,.nm 4),(3,.nm 5),(7,.nm 6),(15,.nm 7)],.p .bool true,[(101,.box 130 true [.p F7 h,.sr 102 T3 0 (g.set e.toNat c).length,.sr 103 T3 0 (d.set c.toNat (CD h (d.getD c.toNat 0) (d.getD e.toNat 0)).1).length,.sr 104 Ce 0 (aq.set c.toNat (B1 (aq.getD c.toNat []) (aq.getD e.toNat [])).1).length]),(102,.arr 3 T3 (g.set e.toNat c)),(103,.arr 3 T3 (d.set c.toNat (CD h (d.getD c.toNat 0) (d.getD e.toNat 0)).1)),(104,.arr 47 Ce (aq.set c.toNat (B1 (aq.getD c.toNat []) (aq.getD e.toNat [])).1)),(3,.box 127 false [.bp 101 [] 0]),(7,.box 167 false [.sr 15 Ji 0 W]),(15,.arr 166 Ji T)],rfl,rfl,?_,?_,rfl,rfl,?_⟩
               ·simp only[mgO];exact eN
               ·exact eN
               ·refine rL f ?_ ?_
                ·trivial
                ·repeat'(first|refine eS rfl ?_|refine AB ?_|refine rC ?_ ?_<;>intro j<;>try(cases j;done))
                 have y:=A1V hk i A o z I;rw[<-aa]at y;have hn:=tH R;have an:=A5I (a:=c) m.1 m.2 o.root z;have bc:(B1 (aq.getD c.toNat []) (aq.getD e.toNat [])).2.length<=(Dr N).length:=Qo Tj (L c);have au:=ABr List.length aa;rw[GO,ON,ON]at au;have am:nR g*((Dr N).length+1)=nR (g.set e.toNat c)*((Dr N).length+1)+((Dr N).length+1):=by rw[<-an,ACU,Nat.one_mul]
                 rw[hn]at am;exact⟨⟨((g.set e.toNat c,d.set c.toNat (CD h (d.getD c.toNat 0) (d.getD e.toNat 0)).1,aq.set c.toNat (B1 (aq.getD c.toNat []) (aq.getD e.toNat [])).1),T,W),y,ap,by simp only;omega⟩,by simp only;omega,eW [(101,.nm 101),(102,.nm 102),(103,.nm 103),(104,.nm 104),(3,.nm 3),(7,.nm 7),(15,.nm 15)]⟩
  ·have Z:k=0:=by
    have:=aT.1 j;omega
   subst Z;rw[ABo]at l;refine Ev.ent (σ':=⟨[(6,.p .bool true)],tJ h q d aq⟩) ?_ (AC [(101,.nm 101),(102,.nm 102),(103,.nm 103),(104,.nm 104)] rfl rfl ?_ ?_)
   ·exact fM f [.tmp 6] (.p .bool true) eT (.inl ⟨rfl,q,d,aq,rfl,l⟩)
   ·unfold tJ;exact eN
   ·exact eN
open Classical in
noncomputable def Ej (p:List Int) (x:Int):Int:=if h:∃r,Rt p x r then h.choose else x
theorem Z1 {p:List Int} {x r:Int} (h:Rt p x r):Ej p x=r:=by
 unfold Ej;rw[dif_pos ⟨r,h⟩];exact(Exists.choose_spec (p:=λr=>Rt p x r) ⟨r,h⟩).det h
theorem Oj {p:List Int} {a:Int->Nat} (hp:Fo p a) {x:Int} (b:0<=x) (c:x<(p.length:Int)):Rt p x (Ej p x):=by
 obtain⟨r,h,-,-⟩:=hp.root b c;rw[Z1 h];exact h
noncomputable def quo (p ty:List Int) (ar:List (List (Int×Int))):List AE:=(List.range p.length).map λk=>(ty.getD k 0,(ar.getD k []).map λa=>(a.1,Ej p a.2))
theorem EF (p ty:List Int) (ar:List (List (Int×Int))):(quo p ty ar).length=p.length:=by simp[quo]
theorem LQ {p ty:List Int} {ar:List (List (Int×Int))} {n:Int} (n0:0<=n) (n1:n<(p.length:Int)):(quo p ty ar).getD n.toNat (0,[])=(ty.getD n.toNat 0,(ar.getD n.toNat []).map λa=>(a.1,Ej p a.2)):=by
 unfold quo;rw[AS,AA1,AB1 (by omega)];rfl
def LR (len:Nat) (o:List Int):List Int:=(List.range len).map λ(k:Nat)=>if (k:Int)∈o then ((o.idxOf (k:Int):Nat):Int) else -1
theorem Vz (len:Nat) (o:List Int):(LR len o).length=len:=by simp[LR]
theorem V0 {len:Nat} {o:List Int} {n:Int} (n0:0<=n) (n1:n<(len:Int)):(LR len o).getD n.toNat 0=if n∈o then (o.idxOf n:Int) else -1:=by
 unfold LR;rw[AS,AA1,AB1 (by omega)];simp only[ABD,ABx];rw[show ((n.toNat:Nat):Int)=n by omega]
theorem WA {o:List Int} {n:Int} (h:n∉o):(o++[n]).idxOf n=o.length:=by
 rw[ACD,At h];simp
theorem YW {o t:List Int} {n:Int} (h:n∈o):(o++t).idxOf n=o.idxOf n:=by
 rw[ACD,BY h]
theorem A1X {len:Nat} {o:List Int} {n:Int} (n0:0<=n) (n1:n<(len:Int)) (h:n∉o):(LR len o).set n.toNat (o.length:Int)=LR len (o++[n]):=by
 apply AAU
 ·simp[LR]
 ·intro i h1 c;rw[List.getElem_set];simp only[LR,ABZ,AC3];by_cases e:n.toNat=i
  ·rw[BY e];have b:(i:Int)=n:=by omega
   rw[b,BY (by simp),WA h]
  ·rw[At e];have b:(i:Int)≠n:=by omega
   by_cases a:(i:Int)∈o
   ·rw[BY a,BY (by simp[a]),YW a]
   ·rw[At a,At (by simp[a,b])]
theorem WB {o t:List Int} {x:Int} (h:x∈o):CE (o++t) x=CE o x:=by
 unfold CE;rw[BY (AAM _ h),BY h,YW h]
theorem Qd {f:List AE} (hf:Ad f) (k:Nat):∀(l:List (Int×Int)) (t:List Int),(∀a∈l,0<=a.2/\a.2<(f.length:Int))->LN f t->f.length-t.length<=k ->
  (∀a∈l,a.2∈l.foldl (AZ f k) t)/\∀x∈l.foldl (AZ f k) t,x∈t\/∀a∈(f.getD x.toNat (0,[])).2,a.2∈l.foldl (AZ f k) t:=by
 intro l;induction l with
 | nil=>exact λt _ _ _=>⟨λa ha=>(by cases ha),λx c=>.inl c⟩
 | cons a l u =>
  intro t j m o;simp only[TO];have p:LN f (AZ f k t a)/\t <+: AZ f k t a/\a.2∈AZ f k t a/\∀x∈AZ f k t a,x∈t\/∀b∈(f.getD x.toNat (0,[])).2,b.2∈AZ f k t a:=by
   unfold AZ;split
   ·rename_i hn;exact⟨m,AB6 _,hn,λx c=>.inl c⟩
   ·rename_i hn;have q:=j a (by simp);obtain⟨e,g⟩:=EE hf k t a.2 m q.1 q.2 hn;obtain⟨h,i⟩:=Ie hf k t a.2 m q.1 q.2 hn o;exact⟨e,g,h,i⟩
  obtain⟨e,g,h,i⟩:=p;have v:=g.length_le;obtain⟨r,s⟩:=u (AZ f k t a) (λb d=>j b (by simp[d])) e (by omega);obtain⟨_,n⟩:=Ex (EE hf k) l (AZ f k t a) (λb d=>j b (by simp[d])) e;refine⟨λb d=>?_,λx c=>?_⟩
  ·rcases By.1 d with rfl|d
   ·exact n.subset h
   ·exact r b d
  ·rcases s x c with c|c
   ·rcases i x c with c|c
    ·exact .inl c
    ·exact .inr λb d=>n.subset (c b d)
   ·exact .inr c
def HS (f:List AE) (o a:List Int):List AE:=(a.drop o.length).map (Ee f a)
theorem xQ {f:List AE} {o t:List Int} {x:Int} (h:∀a∈(f.getD x.toNat (0,[])).2,a.2∈o):Ee f (o++t) x=Ee f o x:=by
 unfold Ee;refine ABr _ (oS λa ha=>?_);unfold Mf;rw[WB (h a ha)]
theorem A1Y {f:List AE} {c b d:List Int} (g:c <+: b) (i:b <+: d) (j:∀x∈b,x∈c\/∀a∈(f.getD x.toNat (0,[])).2,a.2∈b) (hn:b.Nodup):HS f c b++HS f b d=HS f c d:=by
 obtain⟨t,rfl⟩:=g;obtain⟨s,rfl⟩:=i;unfold HS;rw[ACg,ACg,oF,ACg,<-oF,AAs]
 congr 1
 refine oS λx e=>?_;refine(xQ λa ha=>?_).symm;rcases j x (ABB _ e) with h|h
 ·exact absurd rfl ((ABd.1 hn).2.2 x h x e)
 ·exact h a ha
theorem YX (f:List AE) (o:List Int):HS f o o=[]:=by
 unfold HS;rw[ACe];rfl
theorem Rk {α β:Type} (f:α->β) {l:List α} (d:α) (e:β) {i:Nat} (h:i<l.length):(l.map f).getD i e=f (l.getD i d):=by
 simp[AS,AT h]
structure AA5 (Q:List AE) (o1:List Int) (L:List (Int×Int)) (j:Nat) (oo:Nat->List Int):Prop where
 zero:oo 0=o1
 succ:∀i,i<L.length->oo (i+1)=AZ Q j (oo i) (0,(L.getD i (0,0)).2)
 dok:∀i,LN Q (oo i)
 pre:∀i,o1 <+: oo i
 nxt:∀i,oo i <+: oo (i+1)
 tgt:∀i,∀a∈L.take i,a.2∈oo i
 cls:∀i,∀x∈oo i,x∈o1\/∀a∈(Q.getD x.toNat (0,[])).2,a.2∈oo i
 last:oo L.length=L.foldl (AZ Q j) o1
theorem A5K {Q:List AE} (c:Ad Q) {b:List Int} {L:List (Int×Int)} {j:Nat} (g:∀a∈L,0<=a.2/\a.2<(Q.length:Int)) (h1:LN Q b) (k:Q.length-b.length<=j):AA5 Q b L j (λi=>(L.take i).foldl (AZ Q j) b):=by
 have f:=λi=>λa (ha:a∈L.take i)=>g a (AAT ha);have hs:∀i,i<L.length->(L.take (i+1)).foldl (AZ Q j) b=AZ Q j ((L.take i).foldl (AZ Q j) b) (0,(L.getD i (0,0)).2):=λi hi=>NF (AZ Q j) L (0,0) b hi;have d:=λi=>Ex (EE c j) (L.take i) b (f i) h1;refine⟨rfl,hs,λi=>(d i).1,λi=>(d i).2,λi=>?_,λi=>(Qd c j _ b (f i) h1 k).1,λi=>(Qd c j _ b (f i) h1 k).2,by simp only[iN]⟩;by_cases h:i<L.length
 ·show _ <+: (L.take (i+1)).foldl (AZ Q j) b;rw[hs i h];have l:=g _ (AD L (0,0) h);exact(Ex (EE c j) [(0,(L.getD i (0,0)).2)] _ (λa ha=>by
   have e:a=(0,(L.getD i (0,0)).2):=by simpa using ha
   subst e;exact l) (d i).1).2
 ·show (L.take i).foldl (AZ Q j) b <+: (L.take (i+1)).foldl (AZ Q j) b;rw[An (by omega),An (by omega)];exact AB6 _
theorem A5L {α:Type} (l:List α) (x y:α) (t:List α) {k:Nat} (hk:k=l.length):(l++[x]++t).set k y=l++y :: t:=by
 subst hk;rw[oF,ABg _ _ (by omega),AB7];rfl
theorem xR {Q:List AE} {o a:List Int} {n:Int} (h:o++[n] <+: a):HS Q o a=Ee Q a n :: HS Q (o++[n]) a:=by
 obtain⟨t,rfl⟩:=h;unfold HS;rw[ACg,oF,ACg];rfl
def uO (h:AJ) (p ty:List Int) (ar:List (List (Int×Int))) (M:List Int) (out:List AE):List (Nat×Obj):=[(101,.box 130 true [.p F7 h,.sr 102 T3 0 p.length,.sr 103 T3 0 ty.length,.sr 104 Ce 0 ar.length]),(102,.arr 3 T3 p),(103,.arr 3 T3 ty),(104,.arr 47 Ce ar),(105,.box 127 false [.bp 101 [] 0]),(106,.box 60 false [.sr 107 T3 0 M.length]),(107,.arr 3 T3 M),(108,.box 25 true [.sr 109 GH 0 out.length]),(109,.arr 49 GH out),(110,.box 168 false [.clo 119 [105,106,108,110]])]
def A7i (h:AJ) (p0 ty:List Int) (ar:List (List (Int×Int))) (k:Nat):Prop:=∀(p o:List Int) (out:List AE) (n:Int),(∃b,Fo p b)->Ez p0 p->LN (quo p0 ty ar) o->out.length=o.length->0<=n->n<(p0.length:Int)->p0.length-o.length<=k ->
 BA Tryz.prog 119 [.p T3 n,.bp 105 [] 0,.bp 106 [] 0,.bp 108 [] 0,.bp 110 [] 0] (uO h p ty ar (LR p0.length o) out) [101,105,106,108,110]
  (λres c=>∃a,(∃b,Fo a b)/\Ez p0 a/\res=.p T3 (CE (AZ (quo p0 ty ar) k o (0,Ej p0 n)) (Ej p0 n))/\c=uO h a ty ar (LR p0.length (AZ (quo p0 ty ar) k o (0,Ej p0 n))) (out++HS (quo p0 ty ar) o (AZ (quo p0 ty ar) k o (0,Ej p0 n))))
theorem fG (h:AJ) {p0 ty:List Int} {ar:List (List (Int×Int))} (ai:∃m,Fo p0 m) (v:Ad (quo p0 ty ar)) (aw:ty.length=p0.length) (ae:ar.length=p0.length) (ag:∀k,∀a∈ar.getD k [],0<=a.2/\a.2<(p0.length:Int)) (k:Nat) (ay:∀j,k=j+1->A7i h p0 ty ar j):A7i h p0 ty ar k:=by
 intro p o out n aj F O y n0 n1 hk;obtain⟨m,fo⟩:=aj;obtain⟨bj,L⟩:=ai;have U:=Oj L n0 n1;have d:=GG L n0 n1 U;have hp:=v.1;rw[EF]at hp;have C:=Vz p0.length o;generalize bd:Ej p0 n=b at *;refine Jh [0,1,2,3,4,6,7,8,10,18,49,50,51,52] [] [] Tryz.func119 Tryz.ntmps119 AH ?_;intro w0 K O0 ρ0 f be bf;simp only[uO,Aj];repeat'(first|exact trivial|refine eS rfl ?_|refine rX f ?_ ?_)
 refine cP 2 f ?_ ?_
 ·trivial
 ·refine rM f (Z0 h ty ar m fo n0 (by rw[<-F.1];exact n1)) [(1,.nm 101),(2,.nm 102),(3,.nm 103),(4,.nm 104)] [102,103,104] ?_ ?_ ?_
  ·exact eN
  ·simp only[YU];exact eN
  ·rintro _ _ ⟨u,bi,rfl,rfl,M,bc,ba⟩;have aa:=F.trans bc;have e:=((F.2 n b n0 n1).1 U).det ba;subst e;refine⟨[(101,.nm 1),(102,.nm 2),(103,.nm 3),(104,.nm 4)],.p T3 b,[(101,.box 130 true [.p F7 h,.sr 102 T3 0 u.length,.sr 103 T3 0 ty.length,.sr 104 Ce 0 ar.length]),(102,.arr 3 T3 u),(103,.arr 3 T3 ty),(104,.arr 47 Ce ar)],rfl,rfl,?_,?_,rfl,rfl,?_⟩
   ·simp only[YU];exact eN
   ·exact eN
   ·refine rL f ?_ ?_
    ·trivial
    ·repeat'(first|exact trivial|refine eS rfl ?_|refine rX f ?_ ?_|refine rC ?_ ?_<;>intro l<;>try(cases l;done))
     ·exact⟨d.1,by rw[C];exact d.2⟩
     ·exact⟨d.1,by rw[C];exact d.2⟩
     ·rw[V0 d.1 d.2]at l;have B:b∈o:=DO λe=>by rw[At e]at l;omega
      have W:AZ (quo p0 ty ar) k o (0,b)=o:=BY B;have A:CE o b=(LR p0.length o).getD b.toNat 0:=by
       rw[V0 d.1 d.2,BY B];unfold CE;rw[BY B]
      refine Ev.ent (σ':=⟨[(6,.p T3 (CE o b))],uO h u ty ar (LR p0.length o) out⟩) ?_ (AC [(101,.nm 101),(102,.nm 102),(103,.nm 103),(104,.nm 104),(105,.nm 105),(106,.nm 106),(107,.nm 107),(108,.nm 108),(109,.nm 109),(110,.nm 110)] rfl rfl ?_ ?_)
      ·refine fM f [.tmp 6] (.p T3 (CE o b)) eT ⟨u,⟨m,M⟩,aa,by rw[W],?_⟩;rw[W,YX,AAu];rfl
      ·unfold uO;exact eN
      ·refine eM ?_;exact A.symm
     ·exact⟨d.1,by rw[C];exact d.2⟩
     ·refine⟨⟨d.1,by rw[aw];exact d.2⟩,?_⟩;have:=O.len;rw[EF]at this;simp only[AO];omega
     ·exact⟨d.1,by rw[ae];exact d.2⟩
     ·rw[V0 d.1 d.2]at l;have w:b∉o:=λe=>by rw[BY e]at l;omega
      have N:=O.snoc d.1 (by rw[EF];exact d.2) w;have an:=N.len;rw[EF,GO,aS]at an;obtain⟨j,rfl⟩:∃j,k=j+1:=⟨k-1,by omega⟩;have am:=ay j rfl;have x:=LQ (p:=p0) (ty:=ty) (ar:=ar) d.1 d.2;have ax:=λa (ha:a∈ar.getD b.toNat [])=>ag b.toNat a ha;have bg:(ar.getD b.toNat []).length<=100000:=by
       have:=(v.2 _ (AD (quo p0 ty ar) (0,[]) (k:=b.toNat) (by rw[EF];omega))).1;rw[x,On]at this;exact this
      have ad:∀a∈((ar.getD b.toNat []).map λa=>(a.1,Ej p0 a.2)),0<=a.2/\a.2<((quo p0 ty ar).length:Int):=λa ha=>by
       refine Bv v (n:=b) ?_;rw[x];exact ha
      obtain⟨c,g⟩:∃c,AA5 (quo p0 ty ar) (o++[b]) ((ar.getD b.toNat []).map λa=>(a.1,Ej p0 a.2)) j c:=⟨_,A5K v (j:=j) ad N (by rw[EF,GO,aS];omega)⟩;have G:AZ (quo p0 ty ar) (j+1) o (0,b)=((ar.getD b.toNat []).map λa=>(a.1,Ej p0 a.2)).foldl (AZ (quo p0 ty ar) j) (o++[b]):=by
       unfold AZ;rw[At w];show Dq (quo p0 ty ar) (j+1) o b=_;rw[CH,x];rfl
      rw[<-g.last,On]at G;have ap:=λ(i:Nat) (hi:i<(ar.getD b.toNat []).length)=>show (((ar.getD b.toNat []).map λa=>(a.1,Ej p0 a.2)).getD i (0,0))=(((ar.getD b.toNat []).getD i (0,0)).1,Ej p0 ((ar.getD b.toNat []).getD i (0,0)).2) by
       exact Rk (λa:Int×Int=>(a.1,Ej p0 a.2)) (0,0) (0,0) hi
      rw[y,A1X d.1 d.2 w];generalize bh:ar.getD b.toNat []=xs at *;refine AG (ι:={s:Nat×List Int//s.1<=xs.length/\(∃m,Fo s.2 m)/\Ez p0 s.2}) (λs=>⟨[(0,.p T3 b),(1,.bp 105 [] 0),(2,.bp 106 [] 0),(3,.bp 108 [] 0),(4,.bp 110 [] 0),(7,.p (.int .i64) (o.length:Int)),(8,.sr 64 BE 0 ((xs.take s.1.1).map λa=>(a.1,CE (c s.1.1) (Ej p0 a.2))).length),(49,.p Ce xs),(50,.p (.int .i64) (xs.length:Int)),(51,.p (.int .i64) (s.1.1:Int))],uO h s.1.2 ty ar (LR p0.length (c s.1.1)) (out++[(ty.getD b.toNat 0,[])]++HS (quo p0 ty ar) (o++[b]) (c s.1.1))++[(64,.arr 53 BE ((xs.take s.1.1).map λa=>(a.1,CE (c s.1.1) (Ej p0 a.2))))]⟩) (λs=>xs.length-s.1.1) ⟨(0,u),Is _,⟨m,M⟩,aa⟩ (AC [(101,.nm 101),(102,.nm 102),(103,.nm 103),(104,.nm 104),(105,.nm 105),(106,.nm 106),(107,.nm 107),(108,.nm 108),(109,.nm 109),(110,.nm 110),(64,.nil)] rfl rfl ?_ ?_) (λs=>?_)
      ·unfold uO;simp only[g.zero,YX,AAu];refine eM ?_;exact⟨by rw[Vz,Vz],y.symm⟩
      ·exact eN
      ·obtain⟨⟨i,q⟩,hi,⟨Z,P⟩,V⟩:=s;have E:=g.pre i;have z:=g.dok i;have au:=E.length_le;have ah:=z.len;rw[GO,aS]at au;rw[EF]at ah;have R:(out++[(ty.getD b.toNat 0,[])]++HS (quo p0 ty ar) (o++[b]) (c i)).length=(c i).length:=by
        unfold HS;simp only[GO,aS,On,AAQ];omega
       have S:out.length+1+(HS (quo p0 ty ar) (o++[b]) (c i)).length=(c i).length:=by
        rw[<-R,GO,GO,aS]
       simp only[uO];repeat'(first|exact trivial|refine eS rfl ?_|refine rX f ?_ ?_|refine rC ?_ ?_<;>intro l<;>try(cases l;done))
       ·exact l
       ·have r:i<xs.length:=No.1 l;have Y:=ax _ (AD xs (0,0) r);have X:=g.succ i (by rw[On];exact r);rw[ap i r]at X;have af:=A1Y E (g.nxt i) (g.cls i) z.nd;have av:=g.pre (i+1);have T:out.length+1+(HS (quo p0 ty ar) (o++[b]) (c (i+1))).length=(c (i+1)).length:=by
         have h1:=av.length_le;rw[GO,aS]at h1;unfold HS;simp only[GO,aS,On,AAQ];omega
        have J:((xs.take i).map λa=>(a.1,CE (c i) (Ej p0 a.2)))++[((xs.getD i (0,0)).1,CE (c (i+1)) (Ej p0 (xs.getD i (0,0)).2))]=(xs.take (i+1)).map λa=>(a.1,CE (c (i+1)) (Ej p0 a.2)):=by
         rw[Df _ xs (0,0) r]
         congr 1
         refine oS λa ha=>?_;obtain⟨t,H⟩:=g.nxt i;rw[<-H,WB (g.tgt i (a.1,Ej p0 a.2) (by rw[<-List.map_take];exact Do.2 ⟨a,ha,rfl⟩))]
        rw[S];refine B4 drawsAny f 10 [([3,4,5],6),([1,2],7),([],8),([0],9)] [] (by kernel_rfl) (Lf ?_ ?_)
        ·trivial
        ·refine mxC f (am q (c i) (out++[(ty.getD b.toNat 0,[])]++HS (quo p0 ty ar) (o++[b]) (c i)) (xs.getD i (0,0)).2 ⟨Z,P⟩ V z R Y.1 Y.2 (by omega)) [(101,.nm 101),(102,.nm 102),(103,.nm 103),(104,.nm 104),(105,.nm 105),(106,.nm 106),(107,.nm 107),(108,.nm 108),(109,.nm 109),(110,.nm 110)] [102,103,104,107,109] ?_ ?_ ?_
         ·exact eN
         ·simp only[uO];refine eM ?_;exact S.symm
         ·rintro _ _ ⟨I,⟨az,ab⟩,bb,rfl,rfl⟩;rw[<-X,oF _ _ (HS _ (c i) _),af];refine⟨[(101,.nm 101),(102,.nm 102),(103,.nm 103),(104,.nm 104),(105,.nm 105),(106,.nm 106),(107,.nm 107),(108,.nm 108),(109,.nm 109),(110,.nm 110)],.p T3 (CE (c (i+1)) (Ej p0 (xs.getD i (0,0)).2)),[(101,.box 130 true [.p F7 h,.sr 102 T3 0 I.length,.sr 103 T3 0 ty.length,.sr 104 Ce 0 ar.length]),(102,.arr 3 T3 I),(103,.arr 3 T3 ty),(104,.arr 47 Ce ar),(105,.box 127 false [.bp 101 [] 0]),(106,.box 60 false [.sr 107 T3 0 (LR p0.length (c (i+1))).length]),(107,.arr 3 T3 (LR p0.length (c (i+1)))),(108,.box 25 true [.sr 109 GH 0 (c (i+1)).length]),(109,.arr 49 GH (out++[(ty.getD b.toNat 0,[])]++HS (quo p0 ty ar) (o++[b]) (c (i+1)))),(110,.box 168 false [.clo 119 [105,106,108,110]])],rfl,rfl,?_,?_,rfl,rfl,rfl,?_⟩
          ·simp only[uO];refine eM ?_;exact T
          ·exact eN
          ·refine Lf ?_ ?_
           ·trivial
           ·refine Nm f [] ?_ ?_
            ·trivial
            ·refine Lf ?_ ?_
             ·trivial
             ·refine Nm f [] ?_ ?_
              ·trivial
              ·refine Lf ?_ ?_
               ·trivial
               ·refine Nm f [64] ?_ ?_
                ·rw[On,ON];simp only[AO];omega
                ·refine Pm f ?_ ?_ ?_
                 ·trivial
                 ·trivial
                 ·repeat'(first|refine eS rfl ?_|refine AB ?_|refine rX f ?_ ?_)
                  ·exact eV
                  ·refine⟨⟨(i+1,I),r,⟨az,ab⟩,bb⟩,by simp only;omega,AC [(101,.nm 101),(102,.nm 102),(103,.nm 103),(104,.nm 104),(105,.nm 105),(106,.nm 106),(107,.nm 107),(108,.nm 108),(109,.nm 109),(110,.nm 110),(64,.nm 64)] rfl rfl ?_ ?_⟩
                   ·simp only[uO,<-J];refine eM ?_;exact T.symm
                   ·simp only[<-J];exact eN
       ·exact No.2 (by omega)
       ·have al:i=xs.length:=by
         have:=aT.1 l;omega
        subst al;obtain⟨t,H⟩:=E;have A:CE (c xs.length) b=(o.length:Int):=by
         rw[<-H,WB (by simp)];unfold CE;rw[BY (by simp),WA w]
        have aq:Ee (quo p0 ty ar) (c xs.length) b=(ty.getD b.toNat 0,xs.map λa=>(a.1,CE (c xs.length) (Ej p0 a.2))):=by
         unfold Ee;rw[x];simp only[ABm];rfl
        have ak:(out++[(ty.getD b.toNat 0,([]:List (Int×Int)))]++HS (quo p0 ty ar) (o++[b]) (c xs.length)).getD o.length (0,[])=(ty.getD b.toNat 0,[]):=by
         rw[<-y];simp[AS]
        have D:=xR (Q:=quo p0 ty ar) (g.pre xs.length);rw[aq]at D;rw[iN,ak,A5L out _ _ _ y.symm,<-D];have ao:out.length+1+(HS (quo p0 ty ar) (o++[b]) (c xs.length)).length=(out++HS (quo p0 ty ar) o (c xs.length)).length:=by
         rw[D];simp only[GO,OS];omega
        rw[ao];refine Ev.ent (σ':=⟨[(6,.p T3 (CE (c xs.length) b))],uO h q ty ar (LR p0.length (c xs.length)) (out++HS (quo p0 ty ar) o (c xs.length))⟩) ?_ (AC [(101,.nm 101),(102,.nm 102),(103,.nm 103),(104,.nm 104),(105,.nm 105),(106,.nm 106),(107,.nm 107),(108,.nm 108),(109,.nm 109),(110,.nm 110)] rfl rfl ?_ ?_)
        ·exact fM f [.tmp 6] (.p T3 (CE (c xs.length) b)) eT ⟨q,⟨Z,P⟩,V,by rw[G],by rw[G];rfl⟩
        ·unfold uO;exact eN
        ·refine eM ?_;exact A.symm
theorem A1Z (h:AJ) {p0 ty:List Int} {ar:List (List (Int×Int))} (f:∃i,Fo p0 i) (b:Ad (quo p0 ty ar)) (g:ty.length=p0.length) (c:ar.length=p0.length) (d:∀k,∀a∈ar.getD k [],0<=a.2/\a.2<(p0.length:Int)):∀k,A7i h p0 ty ar k
 | 0=>fG h f b g c d 0 (λj e=>by cases e)
 | k+1=>fG h f b g c d (k+1) (λj e=>by cases e;exact A1Z h f b g c d k)
theorem A20 (len:Nat):LR len []=List.replicate len (-1):=by
 unfold LR;apply AAU
 ·simp
 ·intro i h1 a;simp
theorem A21 {α:Type} (x y:α) {n i:Nat} (h:i<n):(List.replicate i x++List.replicate (n-i) y).set i x=List.replicate (i+1) x++List.replicate (n-(i+1)) y:=by
 obtain⟨m,a⟩:∃m,n-i=m+1:=⟨n-i-1,by omega⟩;have b:n-(i+1)=m:=by omega
 rw[a,b,ABg _ _ (by simp),ACk,AB7,ACp,ABF,List.replicate_succ',oF];rfl
theorem A22 (h:AJ) {p ty:List Int} {ar:List (List (Int×Int))} (g:∃y,Fo p y) (f:Ad (quo p ty ar)) (t:ty.length=p.length) (m:ar.length=p.length) (n:∀k,∀a∈ar.getD k [],0<=a.2/\a.2<(p.length:Int)) {r:Int} (v:0<=r) (w:r<(p.length:Int)) :
  BA Tryz.prog 84 [.bp 101 [] 0,.p T3 r] (tJ h p ty ar) [101]
  (λres _=>res=.p D8 (AP (quo p ty ar) (Ej p r))):=by
 have d:=A1Z h g f t m n p.length p [] [] r g (Ez.refl p) ⟨by simp,λx u=>by cases u⟩ rfl v w (by simp);have o:HS (quo p ty ar) [] (AZ (quo p ty ar) p.length [] (0,Ej p r))=AP (quo p ty ar) (Ej p r):=by
  have e:AZ (quo p ty ar) p.length [] (0,Ej p r)=Dq (quo p ty ar) p.length [] (Ej p r):=At (by simp);rw[e];unfold HS AP;rw[EF];rfl
 rw[ABN,o,A20]at d;have s:=f.1;rw[EF]at s;generalize AP (quo p ty ar) (Ej p r)=G at *;generalize CE _ _=z at d;generalize LR _ _=M at d;refine Jh [0,1,2,4,5,6,7,8,16,17,18] [] [] Tryz.func84 Tryz.ntmps84 AH ?_;intro w0 K O0 ρ0 b B C;simp only[tJ,Aj];repeat'(first|exact trivial|refine eS rfl ?_|refine rX b ?_ ?_)
 ·simp only[AO];omega
 ·refine AG (ι:={i:Nat//i<=p.length}) (λi=>⟨[(0,.bp 101 [] 0),(1,.p T3 r),(2,.bp 2 [] 0),(4,.bp 4 [] 0),(5,.bp 5 [] 0),(16,.p (.int .i64) (p.length:Int)),(17,.p (.int .i64) (i.1:Int))],[(5,.box 60 false [.sr 14 T3 0 p.length]),(14,.arr 3 T3 (List.replicate i.1 (-1)++List.replicate (p.length-i.1) 0)),(4,.box 25 true [.raw (.slice none 0 0)]),(2,.box 127 false [.bp 101 [] 0]),(101,.box 130 true [.p F7 h,.sr 102 T3 0 p.length,.sr 103 T3 0 ty.length,.sr 104 Ce 0 ar.length]),(102,.arr 3 T3 p),(103,.arr 3 T3 ty),(104,.arr 47 Ce ar)]⟩) (λi=>p.length-i.1) ⟨0,by omega⟩ (AC [(5,.nm 5),(14,.nm 14),(4,.nm 4),(2,.nm 2),(101,.nm 101),(102,.nm 102),(103,.nm 103),(104,.nm 104)] rfl rfl ?_ ?_) (λi=>?_)
  ·refine eM ?_;rfl
  ·exact eN
  ·obtain⟨i,hi⟩:=i;simp only;repeat'(first|exact trivial|refine eS rfl ?_|refine AB ?_|refine rX b ?_ ?_|refine rC ?_ ?_<;>intro c<;>try(cases c;done))
   ·exact c
   ·exact eV
   ·have j:i<p.length:=No.1 c;refine⟨⟨i+1,j⟩,by simp only;omega,AC [(5,.nm 5),(14,.nm 14),(4,.nm 4),(2,.nm 2),(101,.nm 101),(102,.nm 102),(103,.nm 103),(104,.nm 104)] rfl rfl ?_ ?_⟩
    ·refine eM ?_;exact A21 _ _ j
    ·exact eN
   ·have q:i=p.length:=by
     have:=aT.1 c;omega
    subst q;rw[AB7,List.replicate_zero,AAu];refine cP 2 b ?_ ?_
    ·trivial
    ·refine rM b (d) [(101,.nm 101),(102,.nm 102),(103,.nm 103),(104,.nm 104),(105,.nm 2),(106,.nm 5),(107,.nm 14),(108,.nm 7),(109,.nil),(110,.nm 8)] [102,103,104,14] ?_ ?_ ?_
     ·exact eN
     ·simp only[uO];refine eM ?_;exact ACk.symm
     ·rintro _ _ ⟨l,A,D,rfl,rfl⟩;refine⟨[(101,.nm 101),(102,.nm 102),(103,.nm 103),(104,.nm 104),(2,.nm 105),(5,.nm 106),(14,.nm 107),(7,.nm 108),(120,.nm 109),(8,.nm 110)],.p T3 z,[(101,.box 130 true [.p F7 h,.sr 102 T3 0 l.length,.sr 103 T3 0 ty.length,.sr 104 Ce 0 ar.length]),(102,.arr 3 T3 l),(103,.arr 3 T3 ty),(104,.arr 47 Ce ar),(2,.box 127 false [.bp 101 [] 0]),(5,.box 60 false [.sr 14 T3 0 M.length]),(14,.arr 3 T3 M),(7,.box 25 true [.sr 120 GH 0 G.length]),(120,.arr 49 GH G),(8,.box 168 false [.clo 119 [2,5,7,8]])],rfl,rfl,?_,?_,rfl,rfl,CQ ?_⟩
      ·simp only[uO];exact eN
      ·exact eN
      ·refine Gc [120] ?_;repeat'(first|exact trivial|refine eS rfl ?_|refine rX b ?_ ?_)
       exact fM b [.cell 4 25] (.p D8 G) eT rfl
structure AA6 (f:List AE) (r:Int) (o:List Int):Prop where
 ok:LN f o
 zero:o.getD 0 0=r/\0<o.length
 cl:∀n∈o,∀a∈Ag f n,a.2∈o
theorem Z2 {f:List AE} (hf:Ad f) {r:Int} (b:0<=r) (c:r<(f.length:Int)):AA6 f r (Dq f f.length [] r):=by
 have h1:=EE hf f.length [] r (Hj f) b c (by simp);have d:=Ie hf f.length [] r (Hj f) b c (by simp) (by simp);have e:[r] <+: Dq f f.length [] r:=by
  obtain⟨k,hk⟩:∃k,f.length=k+1:=⟨f.length-1,by omega⟩;rw[hk,CH];exact(Ex (EE hf k) _ _ (λa ha=>Bv hf ha) ((Hj f).snoc b c (by simp))).2
 refine⟨h1.1,?_,λn hn a ha=>?_⟩
 ·obtain⟨t,g⟩:=e;rw[<-g];exact⟨rfl,by simp⟩
 ·rcases d.2 n hn with h|h
  ·cases h
  ·exact h a ha
theorem WC {f:List AE} {r:Int} {i:Nat} (hi:i<(Dq f f.length [] r).length):(AP f r).getD i (0,[])=Ee f (Dq f f.length [] r) ((Dq f f.length [] r).getD i 0):=by
 unfold AP;simp[AS,hi]
theorem WD (f:List AE) (r:Int):(AP f r).length=(Dq f f.length [] r).length:=by simp[AP]
def Ap (f g:List AE):List AE:=f++g.map λx=>(x.1,Au f.length x.2)
theorem Ds (f g:List AE):(Ap f g).length=f.length+g.length:=by simp[Ap]
theorem Ol {f g:List AE} {x:Int} (a:0<=x) (b:x<(f.length:Int)):(Ap f g).getD x.toNat (0,[])=f.getD x.toNat (0,[]):=by
 unfold Ap;rw[AS,AS,AAo (by omega)]
theorem Mk {f g:List AE} {y:Int} (a:0<=y) (b:y<(g.length:Int)):(Ap f g).getD ((f.length:Int)+y).toNat (0,[])=((g.getD y.toNat (0,[])).1,Au f.length (g.getD y.toNat (0,[])).2):=by
 unfold Ap;have e:((f.length:Int)+y).toNat=f.length+y.toNat:=by omega
 rw[e,AS,AAl (by omega),ACs];rw[<-AS];exact Rk (λx:AE=>(x.1,Au f.length x.2)) (0,[]) (0,[]) (by omega)
theorem tK {n:Nat} {p:List Int} {x y:Int} (h:EG n p [] x y):Ej p x=Ej p y:=by
 induction h with
 | cls _ _ _ _ h g=>rw[Z1 h,Z1 g]
 | wt h=>cases h
 | symm _ a=>exact a.symm
 | trans _ _ b c=>exact b.trans c
noncomputable abbrev Rl (p ty:List Int) (ar:List (List (Int×Int))):List Int:=Dq (quo p ty ar) (quo p ty ar).length [] (Ej p 0)
structure A6s (h:AJ) (N:List AE) (P:List (Int×Int)) (U:List AE) (v:Int->Int):Prop where
 good:Ad U
 pos:0<U.length
 str:∀x∈U,Sk x.2
 feat:∀x∈U,∀a∈x.2,a.1∈Dr N
 ty:Ip h U
 ro:RO U
 zero:v 0=0
 proj:tF h N P U v
 least:∀X w,Ip h X->tF h N P X w->w 0=0->∃m,Vx h U X m
 len:U.length<=N.length
section
variable {h:AJ} {N:List AE} {P:List (Int×Int)} {p ty:List Int} {ar:List (List (Int×Int))}
theorem Rm (a:JI h N P p ty ar []) (b:Ad (quo p ty ar)) (c:0<N.length):AA6 (quo p ty ar) (Ej p 0) (Rl p ty ar):=by
 obtain⟨d,fo⟩:=a.fo;have lp:=a.lp;have:=GG fo (x:=0) (by omega) (by omega) (Oj fo (by omega) (by omega));exact Z2 b this.1 (by rw[EF];exact this.2)
theorem WE (d:JI h N P p ty ar []) (c:Ad (quo p ty ar)) (b:0<N.length):Ej p 0∈Rl p ty ar:=by
 have a:=Rm d c b;have:=AD (Rl p ty ar) 0 a.zero.2;rw[a.zero.1]at this;exact this
theorem A23 (a:JI h N P p ty ar []) {x y:Int} (b:(x,y)∈P) (c:Ej p x∈Rl p ty ar):Ej p y∈Rl p ty ar:=by
 rw[<-tK (a.sp (x,y) b)];exact c
theorem lI (b:JI h N P p ty ar []) (f:Ad (quo p ty ar)) (e:0<N.length) {x:Int} (c:0<=x) (k:x<(N.length:Int)) (j:Ej p x∈Rl p ty ar) {a:Int×Int} (ha:a∈Ag N x):Ej p a.2∈Rl p ty ar:=by
 obtain⟨l,fo⟩:=b.fo;have lp:=b.lp;obtain⟨t,i,g⟩:=b.sa x _ c k (Oj fo c (by omega)) a ha;rw[tK g];have d:=GG fo c (by omega) (Oj fo c (by omega));refine(Rm b f e).cl _ j (a.1,Ej p t) ?_;rw[Ag,LQ d.1 d.2];exact Do.2 ⟨(a.1,t),i,rfl⟩
def xS (N:List AE) (k:Nat) (g:List AE):Prop:=∀i:Int,0<=i->i<(g.length:Int)->(k:Int)+i<(N.length:Int)/\N.getD ((k:Int)+i).toNat (0,[])=((g.getD i.toNat (0,[])).1,Au k (g.getD i.toNat (0,[])).2)
theorem WF (m:JI h N P p ty ar []) (f:Ad (quo p ty ar)) (e:0<N.length) {k:Nat} {g:List AE} (l:xS N k g) (r:RO g) (hk:Ej p (k:Int)∈Rl p ty ar):∀(n:Nat) (i:Int),i.toNat<=n->0<=i->i<(g.length:Int)->Ej p ((k:Int)+i)∈Rl p ty ar:=by
 intro n;induction n with
 | zero =>
  intro i hn o c;have:i=0:=by omega
  subst this;rw[ACL];exact hk
 | succ n q =>
  intro i hn o c;by_cases hi:i=0
  ·subst hi;rw[ACL];exact hk
  ·obtain⟨j,d,s,a,ha,rfl⟩:=r i (by omega) c;have b:=l j d (by omega);have:=lI m f e (x:=(k:Int)+j) (by omega) b.1 (q j (by omega) d (by omega)) (a:=(a.1,a.2+(k:Int))) (by
    rw[Ag,b.2];exact Do.2 ⟨a,ha,rfl⟩)
   rw[Int.add_comm];exact this
end
theorem fH {h:AJ} {N:List AE} {P:List (Int×Int)} {f:List AE} {v:Int->Int} (e:tF h N P f v) {k:Nat} {g:List AE} (d:xS N k g) (j:v (k:Int)=0):Vx h g f λi=>v ((k:Int)+i):=by
 refine⟨by show v ((k:Int)+0)=0;rw[ACL];exact j,λi b c=>?_,λi b c=>?_,λi b c a ha=>?_⟩
 ·exact e.rng _ (by omega) (d i b c).1
 ·have:=e.ty _ (by omega) (d i b c).1;rw[(d i b c).2]at this;exact this
 ·have:=e.arc _ (by omega) (d i b c).1 (a.1,a.2+(k:Int)) (by
   rw[Ag,(d i b c).2];exact Do.2 ⟨a,ha,rfl⟩)
  rw[Int.add_comm (k:Int) a.2];exact this
theorem Tl {h:AJ} {g X:List AE} {m:Int->Int} (a:Vx h g X m):tF h g [] X m:=⟨a.rng,a.ty,a.arc,λq b=>by cases b⟩
theorem fJ {h:AJ} {f g X:List AE} (hf:Ad f) (m:Ad g) {v w:Int->Int} (h1:tF h f [] X v) (i:tF h g [] X w):tF h (Ap f g) [] X (λx=>if x<(f.length:Int) then v x else w (x-(f.length:Int))):=by
 have j:=Ds f g;refine⟨λx d e=>?_,λx d e=>?_,λx d e a ha=>?_,λq n=>by cases n⟩
 ·rw[j]at e;show _/\_;try simp only
  split
  ·exact h1.rng x d (by assumption)
  ·exact i.rng _ (by omega) (by omega)
 ·rw[j]at e;try simp only
  by_cases c:x<(f.length:Int)
  ·rw[BY c,Ol d c];exact h1.ty x d c
  ·rw[At c];have:=Mk (f:=f) (g:=g) (y:=x-(f.length:Int)) (by omega) (by omega);rw[show (f.length:Int)+(x-(f.length:Int))=x by omega]at this;rw[this];exact i.ty _ (by omega) (by omega)
 ·rw[j]at e;try simp only
  by_cases c:x<(f.length:Int)
  ·rw[BY c];rw[Ag,Ol d c]at ha;have l:=Bv hf ha;rw[BY l.2];exact h1.arc x d c a ha
  ·rw[At c];have:=Mk (f:=f) (g:=g) (y:=x-(f.length:Int)) (by omega) (by omega);rw[show (f.length:Int)+(x-(f.length:Int))=x by omega]at this;rw[Ag,this]at ha;obtain⟨b,k,rfl⟩:=Do.1 ha;have l:=Bv m k;rw[At (by simp only;omega)];try simp only
   rw[show b.2+(f.length:Int)-(f.length:Int)=b.2 by omega];exact i.arc _ (by omega) (by omega) b k
theorem A24 {h:AJ} {N X:List AE} {P:List (Int×Int)} {v:Int->Int} (h1:tF h N [] X v) (a:∀q∈P,v q.1=v q.2):tF h N P X v:=⟨h1.rng,h1.ty,h1.arc,a⟩
theorem YY {N f g:List AE} {k:Nat} (h:xS f k N):xS (Ap f g) k N:=by
 intro i a b;have:=h i a b;rw[Ds,Ol (by omega) this.1];exact⟨by omega,this.2⟩
theorem YZ {f:List AE}:xS f 0 f:=by
 intro i c b;rw[show ((0:Nat):Int)+i=i by omega];refine⟨b,?_⟩;have:Au 0 (f.getD i.toNat (0,[])).2=(f.getD i.toNat (0,[])).2:=by
  unfold Au;rw[oS (g:=id) (λa _=>by show (a.1,a.2+((0:Nat):Int))=a;rw[Int.natCast_zero,ACL]),List.map_id]
 rw[this]
theorem WG {f g:List AE}:xS (Ap f g) f.length g:=by
 intro i a b;rw[Ds,Mk a b];exact⟨by omega,rfl⟩
set_option maxHeartbeats 1000000 in
theorem A7j {h:AJ} {N:List AE} {P:List (Int×Int)} {p ty:List Int} {ar:List (List (Int×Int))} (L:JI h N P p ty ar []) (E:Ad (quo p ty ar)) (O:0<N.length) (H:∀x,0<=x->x<(N.length:Int)->Ej p x∈Rl p ty ar) :
  A6s h N P (AP (quo p ty ar) (Ej p 0)) (λx=>CE (Rl p ty ar) (Ej p x)):=by
 have s:=Rm L E O
 have af:=WE L E O
 obtain⟨nty,⟨av,fo⟩,lp,lt,la,wr,tyr,arr,srt,sp,st,sa,co⟩:=L
 have aj:=EF p ty ar
 have w:=λ{x:Int} (C:0<=x) (D:x<(N.length:Int))=>Oj fo C (by rw[lp];exact D)
 have J:=λ{x:Int} (C:0<=x) (D:x<(N.length:Int))=>GG fo C (by rw[lp];exact D) (w C D)
 have K:=WD (quo p ty ar) (Ej p 0)
 have aa:=λi=>WC (f:=quo p ty ar) (r:=Ej p 0) (i:=i)
 have M:∀x:Int,0<=x->x<(N.length:Int)->Ag (quo p ty ar) x=(ar.getD x.toNat []).map λa=>(a.1,Ej p a.2):=λx C D=>by
  rw[Ag,LQ C (by rw[lp];exact D)]
 have u:∀x∈Rl p ty ar,(0<=x/\x<(N.length:Int))/\Dt p x=x:=by
  have ag:Iso (quo p ty ar) (quo p ty ar) id (λx=>(0<=x/\x<(N.length:Int))/\Dt p x=x):=by
   refine⟨λi _=>by simp,λi hi a ha=>?_,λi j _ _ e=>e⟩
   rw[M i hi.1.1 hi.1.2]at ha
   obtain⟨b,m,rfl⟩:=List.mem_map.1 ha
   have c:=(arr _ b m).1
   have:=J c.1 c.2
   rw[lp]at this
   exact⟨this,(w c.1 c.2).root⟩
  have R:=J (x:=0) (by omega) (by omega)
  rw[lp]at R
  exact(Ti ag _ [] _ (λx d=>by cases d) ⟨R,(w (x:=0) (by omega) (by omega)).root⟩).2
 have ah:=λ(q:Nat)=>Vy E (quo p ty ar).length [] (Ej p 0) (Hj _) (J (x:=0) (by omega) (by omega)).1 (by rw[aj];exact(J (x:=0) (by omega) (by omega)).2) (by simp) q
 unfold Rl at s af H u ⊢
 generalize ao:AP (quo p ty ar) (Ej p 0)=F at *
 generalize aq:Dq (quo p ty ar) (quo p ty ar).length [] (Ej p 0)=o at *
 have z:∀i:Int,0<=i->i<(o.length:Int)->o.getD i.toNat 0∈o/\CE o (o.getD i.toNat 0)=i:=λi g l=>by
  refine⟨AD o 0 (by omega),?_⟩
  rw[Io s.ok.nd (by omega)]
  omega
 have A:∀x∈o,F.getD (CE o x).toNat (0,[])=(ty.getD x.toNat 0,(ar.getD x.toNat []).map λa=>(a.1,CE o (Ej p a.2))):=λx d=>by
  have am:=GE d
  have c:=(u x d).1
  rw[aa _ (by omega),am.2.2]
  unfold Ee
  rw[LQ c.1 (by rw[lp];exact c.2),List.map_map]
  rfl
 have Q:∀x∈o,∀a∈ar.getD x.toNat [],Ej p a.2∈o:=λx d a ha=>by
  have c:=(u x d).1
  exact s.cl x d (a.1,Ej p a.2) (by rw[M x c.1 c.2];exact List.mem_map.2 ⟨a,ha,rfl⟩)
 have S:∀k,Sk ((ar.getD k []).map λa=>(a.1,CE o (Ej p a.2))):=λk=>by
  unfold Sk
  rw[List.pairwise_map]
  exact srt k
 have G:∀x∈F,∃y∈o,x=(ty.getD y.toNat 0,(ar.getD y.toNat []).map λa=>(a.1,CE o (Ej p a.2))):=λx d=>by
  obtain⟨i,hi,rfl⟩:=Cg (0,[]) d
  have h1:=z (i:Int) (by omega) (by omega)
  refine⟨_,h1.1,?_⟩
  rw[<-A _ h1.1,h1.2]
  rw[Int.toNat_natCast]
 have ae:CE o (Ej p 0)=0:=by
  have:=Io s.ok.nd s.zero.2
  rw[s.zero.1]at this
  exact this
 have ap:=s.ok.len
 have an:=E.1
 refine⟨⟨by omega,λx d=>?_⟩,by rw[K];exact s.zero.2,λx d=>?_,λx d a ha=>?_,λx d=>?_,λi g l=>?_,ae,⟨λi g l=>?_,λi g l=>?_,λi g l a ha=>?_,λq ai=>?_⟩,λX v ab T al=>?_,by omega⟩
 ·obtain⟨y,B,rfl⟩:=G x d
  have c:=(u y B).1
  refine⟨?_,λa ha=>?_⟩
  ·have:=(E.2 _ (AD (quo p ty ar) (0,[]) (k:=y.toNat) (by omega))).1
   rw[LQ c.1 (by rw[lp];exact c.2),List.length_map]at this
   simp only[List.length_map]
   exact this
  ·obtain⟨b,m,rfl⟩:=List.mem_map.1 ha
   have:=GE (Q y B b m)
   rw[K]
   exact⟨this.1,this.2.1⟩
 ·obtain⟨y,B,rfl⟩:=G x d
  exact S _
 ·obtain⟨y,B,rfl⟩:=G x d
  obtain⟨b,m,rfl⟩:=List.mem_map.1 ha
  exact(arr _ b m).2
 ·obtain⟨y,B,rfl⟩:=G x d
  have c:=(u y B).1
  exact tyr y c.1 c.2
 · -- in order
  obtain⟨j,au,a,ha,e⟩:=ah i.toNat (by simp only[List.length_nil];omega) (by omega)
  have h1:=z (j:Int) (by omega) (by omega)
  have W:=z i (by omega) (by omega)
  rw[Int.toNat_natCast]at h1
  have c:=(u _ h1.1).1
  rw[M _ c.1 c.2]at ha
  obtain⟨b,m,rfl⟩:=List.mem_map.1 ha
  refine⟨(j:Int),by omega,by omega,(b.1,CE o (Ej p b.2)),?_,?_⟩
  ·have:=A _ h1.1
   rw[h1.2]at this
   rw[Ag,this]
   exact List.mem_map.2 ⟨b,m,rfl⟩
  ·show CE o (Ej p b.2)=i
   simp only at e
   rw[e,W.2]
 ·have:=GE (H i g l)
  rw[K]
  exact⟨this.1,this.2.1⟩
 ·show A7 h _ (F.getD (CE o (Ej p i)).toNat (0,[])).1=true
  rw[A _ (H i g l)]
  exact st i _ g l (w g l)
 ·obtain⟨t,ak,ad⟩:=sa i _ g l (w g l) a ha
  have e:=tK ad
  show Oi (Ag F (CE o (Ej p i))) a.1=CE o (Ej p a.2)
  rw[e,Ag,A _ (H i g l)]
  exact Qa (S _) (a:=(a.1,CE o (Ej p t))) (List.mem_map.2 ⟨(a.1,t),ak,rfl⟩)
 ·show CE o (Ej p q.1)=CE o (Ej p q.2)
  rw[tK (sp q ai)]
 ·obtain⟨c1,c2,U,V⟩:=co X v ab T
  refine⟨λi=>v (o.getD i.toNat 0),?_,λi g l=>?_,λi g l=>?_,λi g l a ha=>?_⟩
  ·show v (o.getD 0 0)=0
   rw[s.zero.1,<-c1 0 _ (by omega) (by omega) (w (by omega) (by omega))]
   exact al
  ·have n:=z i g (by omega)
   have c:=(u _ n.1).1
   exact T.rng _ c.1 c.2
  ·have n:=z i g (by omega)
   have c:=u _ n.1
   have hn:=A _ n.1
   rw[n.2]at hn
   rw[hn]
   exact U _ c.1.1 c.1.2 c.2
  ·have n:=z i g (by omega)
   have c:=u _ n.1
   have hn:=A _ n.1
   rw[n.2]at hn
   rw[Ag,hn]at ha
   obtain⟨b,m,rfl⟩:=List.mem_map.1 ha
   have Y:=V _ c.1.1 c.1.2 c.2 b m
   have I:=(arr _ b m).1
   have Z:=GE (Q _ n.1 b m)
   simp only
   rw[Z.2.2,<-c1 b.2 _ I.1 I.2 (w I.1 I.2)]
   exact Y
structure VF (h:AJ) (f:List AE):Prop where
 good:Ad f
 pos:0<f.length
 ty:Ip h f
 str:∀x∈f,Sk x.2
 ft:∀x∈f,∀a∈x.2,0<=a.1/\a.1<(h.2.length:Int)
 can:AP f 0=f
 ro:RO f
structure HU (h:AJ):Prop where
 ok:HO h
 inj:HP h
 ft:h.2.length<=64
def fL (U:List AE):Prop:=(Dq U U.length [] 0).length=U.length/\∀k,(hk:k<(Dq U U.length [] 0).length)->(Dq U U.length [] 0)[k]=(k:Int)
theorem Z3 {Q:List AE} (m:Ad Q) {r:Int} (L:0<=r) (M:r<(Q.length:Int)):Ad (AP Q r)/\fL (AP Q r):=by
 have d:=Z2 m L M;have D:=WD Q r;have C:=λi=>WC (f:=Q) (r:=r) (i:=i);generalize O:AP Q r=c at *;generalize H:Dq Q Q.length [] r=o at *;have R:=d.ok.len;have N:=m.1;have g:∀i:Int,0<=i->i<(o.length:Int)->o.getD i.toNat 0∈o/\CE o (o.getD i.toNat 0)=i:=λi J K=>by
  refine⟨AD o 0 (by omega),?_⟩;rw[Io d.ok.nd (by omega)];omega
 have p:∀i:Int,0<=i->i<(o.length:Int)->Ag c i=(Ag Q (o.getD i.toNat 0)).map (Mf o):=λi J K=>by
  rw[Ag,C i.toNat (by omega)];rfl
 have F:Iso c Q (λi=>o.getD i.toNat 0) (λi=>0<=i/\i<(o.length:Int)):=by
  refine⟨λi hi=>?_,λi hi a ha=>?_,λi j hi B e=>?_⟩
  ·rw[p i hi.1 hi.2,ABm];have:∀a∈Ag Q (o.getD i.toNat 0),((λa:Int×Int=>(a.1,o.getD a.2.toNat 0))∘Mf o) a=a:=λa ha=>by
    show (a.1,o.getD (CE o a.2).toNat 0)=a;rw[(GE (d.cl _ (g i hi.1 hi.2).1 a ha)).2.2]
   rw[oS this,List.map_id']
  ·rw[p i hi.1 hi.2]at ha;obtain⟨b,q,rfl⟩:=Do.1 ha;have:=GE (d.cl _ (g i hi.1 hi.2).1 b q);exact⟨this.1,this.2.1⟩
  ·have h1:=(g i hi.1 hi.2).2;have h:=(g j B.1 B.2).2;have e:o.getD i.toNat 0=o.getD j.toNat 0:=e;rw[<-h1,<-h,e]
 have h0:(0:Int)<(o.length:Int):=by have:=d.zero.2;omega
 have v:Ad c:=by
  refine⟨by omega,λx u=>?_⟩;obtain⟨i,hi,rfl⟩:=Cg (0,[]) u;have h1:=p (i:Int) (by omega) (by omega);rw[Ag,gO]at h1;rw[h1];have t:=g (i:Int) (by omega) (by omega);rw[gO]at t;have S:=d.ok.rng _ t.1;refine⟨?_,λa ha=>?_⟩
  ·rw[On];exact(m.2 _ (AD Q (0,[]) (k:=(o.getD i 0).toNat) (by omega))).1
  ·obtain⟨b,q,rfl⟩:=Do.1 ha;have:=GE (d.cl _ t.1 b q);rw[D];exact⟨this.1,this.2.1⟩
 have s:=Ti F Q.length [] 0 (λx u=>by cases u) ⟨by omega,h0⟩;have I:o.getD (0:Int).toNat 0=r:=d.zero.1;rw[ACq,I,H]at s;have A:=Vv v (n:=0) (by omega) (by omega) (Q.length-c.length);rw[show c.length+(Q.length-c.length)=Q.length by omega]at A;rw[A]at s;unfold fL;refine⟨v,?_⟩;generalize Dq c c.length [] 0=l at *;obtain⟨y,E⟩:=s;have P:l.length=o.length:=by
  have:=ABr List.length y;rw[On]at this;exact this.symm
 have G:∀k,(hk:k<l.length)->l[k]=(k:Int):=λk hk=>by
  have w:=E l[k] (AAR hk);have h1:=(g l[k] w.1 w.2).2;have h:=(g (k:Int) (by omega) (by omega)).2;have e:o.getD k 0=o.getD (l[k]).toNat 0:=by
   exact(ABr (λz:List Int=>z.getD k 0) y).trans (by simp[AS,hk])
  rw[gO,e]at h;rw[<-h1,h]
 exact⟨by omega,G⟩
theorem WH {b:List AE} (g:Ad b) (k:fL b):AP b 0=b:=by
 unfold AP;obtain⟨q,c⟩:=k;generalize Dq b b.length [] 0=l at *;have o:l.Nodup:=by
  unfold List.Nodup;rw[tO];intro i j hi n p e;rw[c i hi,c j n]at e;omega
 have m:∀x,0<=x->x<(l.length:Int)->CE l x=x:=λx r s=>by
  have:=Io o (i:=x.toNat) (by omega);have e:l.getD x.toNat 0=x:=by
   rw[AS,AT (by omega)];show l[x.toNat]=x;rw[c _ (by omega)];omega
  rw[e]at this;rw[this];omega
 apply AAU
 ·rw[On];omega
 ·intro i h1 d;rw[ABZ,c i (by simpa using h1)];have f:b.getD (i:Int).toNat (0,[])=b[i]:=by simp[AS,d]
  unfold Ee;rw[f];have:∀a∈b[i].2,Mf l a=a:=λa ha=>by
   have h:=(g.2 _ (AAR d)).2 a ha;unfold Mf;rw[m a.2 h.1 (by omega)]
  rw[oS this,List.map_id']
theorem A25 {Q:List AE} (a:Ad Q) {r:Int} (b:0<=r) (c:r<(Q.length:Int)):AP (AP Q r) 0=AP Q r :=
 WH (Z3 a b c).1 (Z3 a b c).2
theorem WI {h:AJ} {a X:List AE} (g:RO a) {m f:Int->Int} (h1:Vx h a X m) (b:Vx h a X f):∀(k:Nat) (i:Int),i.toNat<=k->0<=i->i<(a.length:Int)->m i=f i:=by
 intro k;induction k with
 | zero =>
  intro i hk l e;have:i=0:=by omega
  subst this;rw[h1.zero,b.zero]
 | succ k n =>
  intro i hk l e;by_cases hi:i=0
  ·subst hi;rw[h1.zero,b.zero]
  ·obtain⟨j,c,o,x,d,rfl⟩:=g i (by omega) e;rw[<-h1.arc j c (by omega) x d,<-b.arc j c (by omega) x d,n j (by omega) c (by omega)]
theorem fN {h:AJ} (hk:HO h) {a b c:List AE} (w:Ad a) (ta:Ip h a) (tb:Ip h b) (A:Ip h c) {m n:Int->Int} (h1:Vx h a b m) (j:Vx h b c n):Vx h a c λi=>n (m i):=by
 refine⟨by show n (m 0)=0;rw[h1.zero,j.zero],λi f g=>?_,λi f g=>?_,λi f g x p=>?_⟩
 ·have:=h1.rng i f g;exact j.rng _ this.1 this.2
 ·have d:=h1.rng i f g;have B:=j.rng _ d.1 d.2;have r:=ta _ (AD a (0,[]) (k:=i.toNat) (by omega));have s:=tb _ (AD b (0,[]) (k:=(m i).toNat) (by omega));have t:=A _ (AD c (0,[]) (k:=(n (m i)).toNat) (by omega));exact LP hk r.1 r.2 s.1 s.2 t.1 t.2 (h1.ty i f g) (j.ty _ d.1 d.2)
 ·have d:=h1.rng i f g;have q:=Bv w p;have o:=h1.arc i f g x p;obtain⟨y,z,u,v⟩:=fD (l:=Ag b (m i)) (e:=x.1) (by rw[o];exact(h1.rng _ q.1 q.2).1);have:=j.arc (m i) d.1 d.2 y z;rw[u,v,o]at this;exact this
theorem WJ {a:List AE} (hs:∀x∈a,Sk x.2) (n:Int):Sk (Ag a n):=by
 unfold Ag;by_cases h:n.toNat<a.length
 ·exact hs _ (AD a (0,[]) h)
 ·rw[AS,iF (by omega)];exact .nil
theorem lJ {h:AJ} {a:List AE} (hs:∀x∈a,Sk x.2):Vx h a a id :=
 ⟨rfl,λi c d=>⟨c,d⟩,λi _ _=>Rg h _,λi _ _ x b=>Qa (WJ hs i) b⟩
theorem tL:∀ {l m:List (Int×Int)},Sk l->Sk m->(∀x,x∈l↔x∈m)->l=m
 | [],[],_,_,_=>rfl
 | [],b :: m,_,_,h=>by have:=(h b).2 (by simp);cases this
 | a :: l,[],_,_,h=>by have:=(h a).1 (by simp);cases this
 | a :: l,b :: m,h1,i,h=>by
  obtain⟨f,g⟩:=AAX.1 h1;obtain⟨b1,b2⟩:=AAX.1 i;have e:a=b:=by
   rcases By.1 ((h a).1 (by simp)) with e|e
   ·exact e
   ·rcases By.1 ((h b).2 (by simp)) with d|d
    ·exact d.symm
    ·have:=f b d;have:=b1 a e;omega
  subst e;refine ABr _ (tL g b2 λx=>⟨λc=>?_,λc=>?_⟩)
  ·rcases By.1 ((h x).1 (by simp[c])) with e|e
   ·subst e;have:=f x c;omega
   ·exact e
  ·rcases By.1 ((h x).2 (by simp[c])) with e|e
   ·subst e;have:=b1 x c;omega
   ·exact e
theorem AA7 {h:AJ} (hu:HU h) {c V:List AE} (b:VF h c) (d:VF h V) {m p:Int->Int} (h1:Vx h c V m) (n:Vx h V c p):c=V:=by
 have key:∀ {c V:List AE},VF h c->VF h V->∀ {m p:Int->Int},Vx h c V m->Vx h V c p->c.length<=V.length->c=V:=by
  clear b d h1 n;intro c V b d m p h1 n L;have c1:=fN hu.ok b.good b.ty d.ty b.ty h1 n;have c2:=fN hu.ok d.good d.ty b.ty d.ty n h1;have u:∀i,0<=i->i<(c.length:Int)->p (m i)=i:=λi s t=>WI b.ro c1 (lJ b.str) i.toNat i (NO _) s t;have I:∀i,0<=i->i<(V.length:Int)->m (p i)=i:=λi s t=>WI d.ro c2 (lJ d.str) i.toNat i (NO _) s t;have D:∀ {A B:List AE} {f:Int->Int},Ad A->Vx h A B f->∀i,0<=i->i<(A.length:Int)->∀x∈Ag A i,(x.1,f x.2)∈Ag B (f i):=λ{A B f} J hf i s t x o=>by
   have r:=Bv J o;have F:=hf.arc i s t x o;obtain⟨y,C,w,v⟩:=fD (l:=Ag B (f i)) (e:=x.1) (by rw[F];exact(hf.rng _ r.1 r.2).1);rw[<-w,<-F,<-v];exact C
  have K:Iso c V m (λi=>0<=i/\i<(c.length:Int)):=by
   refine⟨λi hi=>?_,λi hi a ha=>Bv b.good ha,λi j hi E e=>?_⟩
   ·have q:=h1.rng i hi.1 hi.2;refine tL (WJ d.str _) ?_ λx=>⟨λo=>?_,λo=>?_⟩
    ·unfold Sk;rw[ABc];exact WJ b.str i
    ·have g:=D d.good n (m i) q.1 q.2 x o;rw[u i hi.1 hi.2]at g;refine Do.2 ⟨_,g,?_⟩;have r:=Bv d.good o;show (x.1,m (p x.2))=x;rw[I x.2 r.1 r.2]
    ·obtain⟨y,C,rfl⟩:=Do.1 o;exact D b.good h1 i hi.1 hi.2 y C
   ·rw[<-u i hi.1 hi.2,<-u j E.1 E.2,e]
  have M:=b.pos;have:=XD K b.good ⟨by omega,by omega⟩ h1.zero b.pos L λi hi=>by
   have q:=h1.rng i hi.1 hi.2;have w:=h1.ty i hi.1 hi.2;have v:=n.ty (m i) q.1 q.2;rw[u i hi.1 hi.2]at v;have G:=b.ty _ (AD c (0,[]) (k:=i.toNat) (by omega));have H:=d.ty _ (AD V (0,[]) (k:=(m i).toNat) (by omega));exact hu.inj _ _ H.1 H.2 G.1 G.2 v w
  rw[d.can,b.can]at this;exact this.symm
 rcases Nat.le_total c.length V.length with z|z
 ·exact key b d h1 n z
 ·exact(key d b n h1 z).symm
structure lK (h:AJ) (a b U:List AE):Prop where
 vf:VF h U
 left:∃m,Vx h a U m
 right:∃m,Vx h b U m
 least:∀X,Ip h X->∀m1,Vx h a X m1->∀m2,Vx h b X m2->∃m,Vx h U X m
 len:U.length<=a.length+b.length
theorem A5M {h:AJ} (hu:HU h) {a b d V:List AE} (h1:lK h a b d) (c:lK h a b V):d=V:=by
 obtain⟨l,e⟩:=c.left;obtain⟨n,f⟩:=c.right;obtain⟨o,g⟩:=h1.left;obtain⟨p,i⟩:=h1.right;obtain⟨m,j⟩:=h1.least V c.vf.ty l e n f;obtain⟨q,k⟩:=c.least d h1.vf.ty o g p i;exact AA7 hu h1.vf c.vf j k
open Classical in
noncomputable def E0 (h:AJ) (a b:List AE):List AE×Bool:=if H:∃U,lK h a b U then (H.choose,true) else ([],false)
theorem Sl {h:AJ} (hu:HU h) {a b U:List AE} (h1:lK h a b U):E0 h a b=(U,true):=by
 unfold E0;have H:∃U,lK h a b U:=⟨U,h1⟩;rw[dif_pos H,A5M hu H.choose_spec h1]
theorem fO {h:AJ} {a b:List AE} (h1:∀X,Ip h X->∀d,Vx h a X d->∀e,¬Vx h b X e):E0 h a b=([],false):=by
 unfold E0;rw[dif_neg];rintro⟨f,c⟩;obtain⟨d,g⟩:=c.left;obtain⟨e,i⟩:=c.right;exact h1 f c.vf.ty d g e i
theorem Ml {h:AJ} {a b:List AE} (h1:(E0 h a b).2=true):lK h a b (E0 h a b).1:=by
 unfold E0 at h1 ⊢;split at h1
 ·rename_i H;rw[dif_pos H];exact H.choose_spec
 ·cases h1
theorem WK {f:List AE} {e:Int} (h:e∈Dr f):∃x∈f,∃a∈x.2,a.1=e:=by
 unfold Dr at h;obtain⟨x,c,b⟩:=ADf.1 h;obtain⟨a,ha,e⟩:=Do.1 b;exact⟨x,c,a,ha,e⟩
theorem A7k {h:AJ} {N:List AE} {P:List (Int×Int)} {p ty:List Int} {ar:List (List (Int×Int))} (d:JI h N P p ty ar []) (g:Ad (quo p ty ar)) (m:0<N.length) (j:∀x∈N,∀a∈x.2,0<=a.1/\a.1<(h.2.length:Int)) {v:Int->Int} (c:A6s h N P (AP (quo p ty ar) (Ej p 0)) v):VF h (AP (quo p ty ar) (Ej p 0)):=by
 have f:0<=Ej p 0/\Ej p 0<((quo p ty ar).length:Int):=by
  obtain⟨n,fo⟩:=d.fo;have:=d.lp;have:=GG fo (x:=0) (by omega) (by omega) (Oj fo (by omega) (by omega));rw[EF];exact this
 refine⟨c.good,c.pos,c.ty,c.str,λx k a ha=>?_,A25 g f.1 f.2,c.ro⟩;obtain⟨y,l,b,i,e⟩:=WK (c.feat x k a ha);rw[<-e];exact j y l b i
theorem xT {h:AJ} {f g:List AE} (hf:VF h f) (e:VF h g):∀x∈Ap f g,∀a∈x.2,0<=a.1/\a.1<(h.2.length:Int):=by
 intro x c;unfold Ap at c;rcases OF.1 c with c|c
 ·exact hf.ft x c
 ·obtain⟨y,i,rfl⟩:=Do.1 c;intro a ha;obtain⟨b,d,rfl⟩:=Do.1 ha;exact e.ft y i b d
theorem tM {h:AJ} {f g:List AE} (hf:VF h f) (i:VF h g) {p ty:List Int} {ar:List (List (Int×Int))} (b:JI h (Ap f g) [(0,(f.length:Int))] p ty ar []) (d:Ad (quo p ty ar)):lK h f g (AP (quo p ty ar) (Ej p 0)):=by
 have v:=hf.pos;have u:=Ds f g;have c:0<(Ap f g).length:=by omega
 have h0:=WE b d c;have l:=WF b d c (YY (g:=g) YZ) hf.ro h0;have n:=WF b d c (WG (f:=f)) i.ro (A23 b (by simp) h0);have a:=A7j b d c λx t w=>by
  by_cases o:x<(f.length:Int)
  ·have:=l x.toNat x (NO _) t o
   rwa [show ((0:Nat):Int)+x=x by omega]at this
  ·have:=n _ (x-(f.length:Int)) (NO _) (by omega) (by omega)
   rwa [show (f.length:Int)+(x-(f.length:Int))=x by omega]at this
 refine⟨A7k b d c (xT hf i) a,⟨_,fH a.proj (YY (g:=g) YZ) a.zero⟩,⟨_,fH a.proj (WG (f:=f)) (by rw[<-a.proj.eq (0,(f.length:Int)) (by simp)];exact a.zero)⟩,λX k r h1 s j=>?_,by have:=a.len;omega⟩;refine a.least X _ k (A24 (fJ hf.good i.good (Tl h1) (Tl j)) λq m=>?_) ?_
 ·have e:q=(0,(f.length:Int)):=by simpa using m
  subst e;try simp only
  rw[BY (by omega),At (by omega),Int.sub_self,h1.zero,j.zero]
 ·show (if (0:Int)<(f.length:Int) then r 0 else s (0-(f.length:Int)))=0;rw[BY (by omega)];exact h1.zero
theorem Ya {h:AJ} {f g:List AE} (hf:VF h f) (c:VF h g) (d:∀X v,Ip h X->¬tF h (Ap f g) [(0,(f.length:Int))] X v):E0 h f g=([],false):=by
 have j:=hf.pos;refine fO λX b k h1 l a=>d X _ b (A24 (fJ hf.good c.good (Tl h1) (Tl a)) λq i=>?_);have e:q=(0,(f.length:Int)):=by simpa using i
 subst e;try simp only
 rw[BY (by omega),At (by omega),Int.sub_self,h1.zero,a.zero]
theorem fP (l:List (Int×Int)):Au 0 l=l:=by
 unfold Au;rw[oS (g:=id) (λa _=>by show (a.1,a.2+((0:Nat):Int))=a;rw[Int.natCast_zero,ACL]),List.map_id]
theorem xU (a b:Nat):Cz 0 a++Cz a b=Cz 0 (a+b):=by
 unfold Cz;rw[List.range_add,AAs,ABm]
 congr 1
 ·refine oS λi _=>?_;show ((a+i:Nat):Int)=((0+(a+i):Nat):Int);rw[ABf]
theorem xV {n k:Nat} (h:k<n):(Cz 0 n).getD k 0=(k:Int):=by
 unfold Cz;rw[AS,AA1,AB1 h];show ((0+k:Nat):Int)=k;rw[ABf]
theorem Mm {n:Nat} {x:Int} (a:0<=x) (b:x<(n:Int)):Dt (Cz 0 n) x=x:=by
 unfold Dt;rw[xV (by omega)];omega
def Om (N:List AE):List Int:=N.map (·.1)
def WL (N:List AE):List (List (Int×Int)):=N.map (·.2)
theorem Oo (N:List AE) (k:Nat):(Om N).getD k 0=(N.getD k (0,[])).1:=by
 unfold Om;rw[AS,AA1,AS];cases N[k]?<;>rfl
theorem NP (N:List AE) (k:Nat):(WL N).getD k []=(N.getD k (0,[])).2:=by
 unfold WL;rw[AS,AA1,AS];cases N[k]?<;>rfl
theorem lL (f g:List AE):DJ f f.length++DJ g g.length=Om (Ap f g):=by
 unfold DJ Om Ap;rw[iN,iN,AAs,ABm];rfl
theorem xW (f g:List AE):Fq 0 f f.length++Fq f.length g g.length=WL (Ap f g):=by
 unfold Fq WL Ap;rw[iN,iN,AAs,ABm]
 congr 1
 exact oS λx _=>fP x.2
theorem Z4 {n:Nat} {x r:Int} (a:0<=x) (b:x<(n:Int)) (h:Rt (Cz 0 n) x r):r=x:=h.det (.base (Mm a b))
theorem A5N {h:AJ} {N:List AE} (l:Ad N) (m:Ip h N) (hs:∀x∈N,Sk x.2):JI h N [] (Cz 0 N.length) (Om N) (WL N) []:=by
 have f:(Cz 0 N.length).length=N.length:=KT 0 N.length;refine⟨m,⟨λ_=>0,λn n0 n1=>?_,λn n0 n1 hn=>?_⟩,f,by simp[Om],by simp[WL],λw g=>(by cases g),λx c d=>?_,λk a ha=>?_,λk=>?_,λq p=>(by cases p),λx r c d e=>?_,λx r c d e a ha=>?_,λX v s o=>?_⟩
 ·rw[f]at n1 ⊢;rw[Mm n0 n1];exact⟨n0,n1⟩
 ·rw[f]at n1;exact absurd (Mm n0 n1) hn
 ·rw[Oo];exact m _ (AD N (0,[]) (by omega))
 ·rw[NP]at ha;refine⟨QZ l k a ha,?_⟩;by_cases hk:k<N.length
  ·exact ADf.2 ⟨_,AD N (0,[]) hk,Do.2 ⟨a,ha,rfl⟩⟩
  ·rw[AS,iF (by omega)]at ha;cases ha
 ·rw[NP];have:=WJ hs (k:Int)
  rwa [Ag,gO]at this
 ·rw[Z4 c d e,Oo];exact Rg h _
 ·rw[Z4 c d e,NP];have b:=Bv l ha;exact⟨a.2,ha,.cls b.1 b.2 b.1 b.2 (.base (Mm b.1 b.2)) (.base (Mm b.1 b.2))⟩
 ·refine⟨λx r c d e=>by rw[Z4 c d e],λw g=>(by cases g),λr i j _=>?_,λr i j _ a ha=>?_⟩
  ·rw[Oo];exact o.ty r i j
  ·rw[NP]at ha;exact o.arc r i j a ha
theorem LS {f g:List AE} (hf:Ad f) (d:Ad g) (j:f.length+g.length<=100000):Ad (Ap f g):=by
 have i:=Ds f g;refine⟨by omega,λx c=>?_⟩;unfold Ap at c;rcases OF.1 c with c|c
 ·refine⟨(hf.2 x c).1,λa ha=>?_⟩;have:=(hf.2 x c).2 a ha;omega
 ·obtain⟨y,e,rfl⟩:=Do.1 c;refine⟨by simp only[Au,On];exact(d.2 y e).1,λa ha=>?_⟩;obtain⟨b,h,rfl⟩:=Do.1 ha;have:=(d.2 y e).2 b h;simp only;omega
theorem KU {f g:List AE} (hf:∀x∈f,Sk x.2) (b:∀x∈g,Sk x.2):∀x∈Ap f g,Sk x.2:=by
 intro x a;unfold Ap at a;rcases OF.1 a with a|a
 ·exact hf x a
 ·obtain⟨y,c,rfl⟩:=Do.1 a;unfold Sk Au;rw[ABc];exact b y c
theorem WM {h:AJ} {f g:List AE} (hf:Ip h f) (b:Ip h g):Ip h (Ap f g):=by
 intro x a;unfold Ap at a;rcases OF.1 a with a|a
 ·exact hf x a
 ·obtain⟨y,c,rfl⟩:=Do.1 a;exact b y c
def fQ (N:List AE):Prop:=∀x∈N,∀a∈x.2,0<=a.1/\a.1<64
theorem WN {f g:List AE} (hf:fQ f) (e:fQ g):fQ (Ap f g):=by
 intro x c;unfold Ap at c;rcases OF.1 c with c|c
 ·exact hf x c
 ·obtain⟨y,h,rfl⟩:=Do.1 c;intro a ha;obtain⟨b,d,rfl⟩:=Do.1 ha;exact e y h b d
theorem WO {l:List (Int×Int)} (h:Sk l) (hf:∀a∈l,0<=a.1/\a.1<64):l.length<=64:=by
 have:=tI h (S:=(List.range 64).map λ(i:Nat)=>(i:Int)) (λa ha=>Do.2 ⟨a.1.toNat,oR.2 (by have:=hf a ha;omega),by have:=hf a ha;omega⟩)
 rwa [On,ABT]at this
theorem lM {N:List AE} (h:∀x∈N,x.2.length<=64):(Dr N).length<=64*N.length:=by
 induction N with
 | nil=>simp[Dr]
 | cons x N b =>
  have h1:=h x (by simp);have c:=b λy a=>h y (by simp[a]);have e:Dr (x :: N)=x.2.map (·.1)++Dr N:=rfl;rw[e,GO,On,OS];omega
theorem xX {N:List AE} (h:fQ N) {e:Int} (b:e∈Dr N):0<=e/\e<64:=by
 obtain⟨x,c,a,ha,rfl⟩:=WK b;exact h x c a ha
theorem fR {h:AJ} {N:List AE} {P:List (Int×Int)} {p ty:List Int} {ar:List (List (Int×Int))} (c:JI h N P p ty ar []) (k:N.length<=100000) (hf:fQ N):Ad (quo p ty ar):=by
 have g:=EF p ty ar;obtain⟨l,fo⟩:=c.fo;have lp:=c.lp;refine⟨by omega,λx j=>?_⟩;obtain⟨i,hi,rfl⟩:=Cg (0,[]) j;have e:=LQ (p:=p) (ty:=ty) (ar:=ar) (n:=(i:Int)) (by omega) (by omega);rw[gO]at e;rw[e];refine⟨?_,λa ha=>?_⟩
 ·simp only[On];have:=WO (c.srt i) (λa ha=>xX hf (c.arr i a ha).2);omega
 ·obtain⟨b,f,rfl⟩:=Do.1 ha;have d:=(c.arr i b f).1;have:=GG fo (x:=b.2) d.1 (by omega) (Oj fo d.1 (by omega));rw[g];exact this
theorem VF.ft64 {h:AJ} {f:List AE} (b:VF h f) (hu:HU h):fQ f:=λx c a ha=>by
 have h1:=b.ft x c a ha;have d:=hu.ft;omega
def AA8 (d:List AI) (o:List ByteArray) (i:Nat):Prop:=∀j,j<i->∀x∈d,AX x.2.1 (o.getD j ByteArray.empty)=true->AX o x.1=true
theorem A26 {c:ByteArray} {o:List ByteArray} {x:AI} (h:AX x.2.1 c=true):AX (FK c o x) x.1=true:=by
 unfold FK;split
 ·rw[OQ,Ct,Bool.or_true]
 ·rename_i a;rw[h,ACx,dO]at a;simpa using a
theorem Yb {c:ByteArray} {x:AI} (h:AX x.2.1 c=true):∀ {l:List AI} {o:List ByteArray},x∈l->AX (l.foldl (FK c) o) x.1=true
 | [],_,a=>by cases a
 | y :: l,o,a=>by
  rw[TO];rcases By.1 a with rfl|a
  ·exact KI (λz b=>ND b) (A26 h)
  ·exact Yb h a
theorem WP {d:List AI}:∀ {n i:Nat} {o:List ByteArray},ZY d o->d.length<=n+i->AA8 d o i->i<=o.length->∃m,AA8 d (Cm d n i o) m/\(Cm d n i o).length<=m
 | 0,i,o,ha,f,a,hi=>⟨i,a,by
  have:=ha.len;show o.length<=i;omega⟩
 | n+1,i,o,ha,f,a,hi=>by
  unfold Cm;split
  ·rename_i q;obtain⟨c,k⟩:=Uv (o.getD i ByteArray.empty) (l:=d) (o:=o) (λ_ h=>h) ha;refine WP c (by omega) (λj p x b hs=>?_) (by omega);rw[RK _ (by omega)]at hs;by_cases e:j=i
   ·subst e;exact Yb hs b
   ·exact KI (λz g=>ND g) (a j (by omega) x b hs)
  ·exact⟨i,a,by omega⟩
theorem Rn {α:Type} {p:α->Bool}:∀ {l:List α},l.countP p=1->∀x∈l,p x=true->∀y∈l,p y=true->x=y
 | [],h,x,a,_,_,_,_=>by cases a
 | z :: l,h,x,a,c,y,b,d=>by
  rw[ABI]at h;by_cases f:p z=true
  ·rw[BY f]at h;have h0:l.countP p=0:=by omega
   rw[List.countP_eq_zero]at h0;have g:x=z:=by
    rcases By.1 a with e|a
    ·exact e
    ·exact absurd c (h0 x a)
   have i:y=z:=by
    rcases By.1 b with e|b
    ·exact e
    ·exact absurd d (h0 y b)
   rw[g,i]
  ·rw[At f]at h;have a:x∈l:=by
    rcases By.1 a with e|a
    ·rw[e]at c;exact absurd c f
    ·exact a
   have b:y∈l:=by
    rcases By.1 b with e|b
    ·rw[e]at d;exact absurd d f
    ·exact b
   exact Rn (by omega) x a c y b d
theorem WQ (s:ByteArray):∀(l:List AI) (k:Nat),0<=Cs s k l->∃x∈l,Ac x.1 s=true
 | [],k,h=>by
  simp only[Cs]at h;omega
 | y :: l,k,h=>by
  simp only[Cs]at h;split at h
  ·rename_i e;exact⟨y,by simp,e⟩
  ·obtain⟨x,a,e⟩:=WQ s l (k+1) h;exact⟨x,by simp[a],e⟩
theorem lN {d:List AI} (t:A4 d=0):∃r∈d,∀x∈d,AX (Cn d r.1) x.1=true:=by
 obtain⟨hs,I,h1,hn,l⟩:=Ax t;have C:0<d.countP λx=>x.2.1.length==0:=by
  have:X1 d=d.countP λx=>x.2.1.length==0:=rfl;omega
 obtain⟨r,c,q⟩:=List.countP_pos_iff.1 C;refine⟨r,c,?_⟩;have D:=Db c;have u:ZY d [r.1]:=⟨λs hs=>by
  have:s=r.1:=by simpa using hs
  rw[this];exact D,by simp⟩
 obtain⟨m,B,J⟩:=WP (d:=d) (n:=d.length) (i:=0) u (by omega) (λj A=>by omega) (by omega);have p:r.1∈Cm d d.length 0 [r.1]:=LE (by simp);have v:Cn d r.1=KH (Cm d d.length 0 [r.1]):=by unfold Cn;rw[At (by omega)]
 rw[v];generalize Cm d d.length 0 [r.1]=o at *;have key:∀(k:Nat) (x:AI),x∈d->GP d x.1<=k->AX o x.1=true:=by
  intro k;induction k with
  | zero =>
   intro x a hk;by_cases g:x.2.1.length=0
   ·have e:=Rn h1 x a (by simpa using g) r c q;rw[e];exact Fj p
   ·obtain⟨s,b⟩:∃s,s∈x.2.1:=ACM (by omega);have:=LD hn l a (Fj b);omega
  | succ k H =>
   intro x a hk;by_cases g:x.2.1.length=0
   ·have e:=Rn h1 x a (by simpa using g) r c q;rw[e];exact Fj p
   ·obtain⟨s,b⟩:∃s,s∈x.2.1:=ACM (by omega);have E:=LD hn l a (Fj b);obtain⟨y,G,e⟩:=WQ s d 0 (hs x a s b);rw[<-IU d e]at E;obtain⟨z,h,f⟩:=iS.1 (H y G (by omega));obtain⟨j,A,rfl⟩:=Cg ByteArray.empty h;refine B j (by omega) x a ?_;exact iS.2 ⟨s,b,EA (BT f e)⟩
 intro x a;obtain⟨z,h,e⟩:=iS.1 (key _ x a (NO _));obtain⟨w,F,f⟩:=iS.1 (QB (o:=[]) h);exact iS.2 ⟨w,F,BT f e⟩
abbrev cnt (c:List Int):Nat:=(IK c).length
theorem A28 {w:Int} (a:U64 w) {r:Nat} (d:r<64):A0D w (r:Int)=w.toNat.testBit r:=by
 have h0:=a.1;have h1:=a.2;have c:w.toNat / 2 ^ r<=w.toNat:=Nat.div_le_self _ _;have e:Wr .u64 w (r:Int)=((w.toNat / 2 ^ r:Nat):Int):=by
  unfold Wr;have b:min ((r:Int)).toNat IntKind.u64.bits=r:=by
   show min ((r:Int)).toNat 64=r;omega
  have hp:(0:Int)<=2 ^ r:=ADk (Int.pow_pos (by decide));rw[b,ACm _ hp,Int.natCast_ediv,ABz h0];simp
 unfold A0D;rw[Nat.testBit_eq_decide_div_mod_eq,e];generalize w.toNat / 2 ^ r=z at *;rw[IR ⟨by omega,by omega⟩ ⟨by decide,by decide⟩,gO,show (1:Int).toNat=1 from rfl,Nat.and_one_is_mod,ABX,AAN,IS];omega
theorem Tm {b:List Int} (d:IT b) (i:Nat):RH b (i:Int)=BF b i:=by
 have a:Int.tdiv (i:Int) 64=((i / 64:Nat):Int):=by rw[AB5 (by omega)];omega
 have c:Int.tmod (i:Int) 64=((i % 64:Nat):Int):=by rw[ABY (by omega)];omega
 unfold RH BF;rw[a,c,gO];by_cases hk:i / 64<b.length
 ·rw[At (by rw[AAz,IS,IS];omega),A28 (BH d _) (by omega)]
 ·rw[BY (by rw[AAz,IS,IS];omega),HE hk];simp
theorem fS (c:List Int):(IK c).Nodup:=by
 unfold IK Np List.Nodup;rw[ABc];refine List.Pairwise.imp (λh e=>h ?_) (List.Pairwise.filter _ List.nodup_range);exact ACR e
theorem NQ {c:List Int} (b:IT c) {x:Int}:x∈IK c↔∃i:Nat,x=(i:Int)/\BF c i=true:=by
 unfold IK Np;rw[Do];constructor
 ·rintro⟨i,hi,rfl⟩;rw[AAC]at hi;exact⟨i,rfl,by rw[<-Tm b];exact hi.2⟩
 ·rintro⟨i,rfl,a⟩;refine⟨i,AAC.2 ⟨oR.2 ?_,by rw[Tm b];exact a⟩,rfl⟩;refine DO λd=>?_;unfold BF at a;rw[HE (by omega)]at a;simp at a
theorem A7l {a b:List Int} (ha:IT a) (f:IT b) (h:∀i,BF a i=true->BF b i=true) (g:cnt b<=cnt a) (i:Nat) (hi:BF b i=true):BF a i=true:=by
 refine DO λhn=>?_;have c:(i:Int)∉IK a:=λk=>by
  obtain⟨j,e,d⟩:=(NQ ha).1 k;have:i=j:=ACR e;rw[this]at hn;exact hn d
 have:=Rj (l:=(i:Int) :: IK a) (l':=IK b) (AAS.2 ⟨c,fS a⟩) λx c=>by
  rcases By.1 c with rfl|c
  ·exact(NQ f).2 ⟨i,rfl,hi⟩
  ·obtain⟨j,rfl,d⟩:=(NQ ha).1 c;exact(NQ f).2 ⟨j,rfl,h j d⟩
 rw[OS]at this;unfold cnt at g;omega
theorem WR (x:AQ) (out:List AQ):∀n,(Fk x out n=0->n=0\/F8 x (out.getD 0 c0)=true)/\∀k,Fk x out n=k+1->F8 x (out.getD k c0)=false
 | 0=>⟨λ_=>.inl rfl,λk h=>by simp[Fk]at h⟩
 | n+1=>by
  obtain⟨h1,b⟩:=WR x out n;unfold Fk;split
  ·rename_i a;refine⟨λe=>?_,b⟩;rcases h1 e with e|e
   ·subst e;exact .inr a
   ·exact .inr e
  ·rename_i a;refine⟨λe=>by omega,λk e=>?_⟩;have:n=k:=by omega
   subst this;simpa using a
theorem fT {a b:AQ} (h:F8 a b=true):cnt b.2<=cnt a.2:=by
 unfold F8 at h;rw[AAz,As,IS,AAN]at h;unfold cnt;omega
theorem Z5 {a b:AQ} (h:F8 a b=false):cnt a.2<=cnt b.2:=by
 unfold F8 at h;rw[AB3,To]at h;unfold cnt;omega
def HM (out:List AQ):Prop:=∀y∈out,cnt y.2<=cnt (out.getD 0 c0).2
theorem A5O {out:List AQ} (h:HM out) (x:AQ):HM (Zg out x):=by
 obtain⟨s1,s2⟩:=WR x out out.length;have b:=dE x out out.length;intro y a;rw[dI]at a;unfold Zg;cases hk:Fk x out out.length with
 | zero =>
  rw[ABo,AAV,ABN];have e:([x]++out).getD 0 c0=x:=rfl;rw[e];rcases a with rfl|a
  ·exact NO _
  ·have h1:=h y a;rcases s1 hk with e|e
   ·rw[oN e]at a;cases a
   ·exact Qo h1 (fT e)
 | succ k =>
  have c:=Z5 (s2 k hk);rw[hk]at b;have e:(out.take (k+1)++[x]++out.drop (k+1)).getD 0 c0=out.getD 0 c0:=by
   cases out with
   | nil=>simp at b
   | cons z out=>rfl
  rw[e];rcases a with rfl|a
  ·exact Qo c (h _ (BD (by omega)))
  ·exact h y a
theorem fU {d:List AI}:∀ {l:List (List Int)} {o:List AQ},HM o->HM (l.foldl (RQ d) o)
 | [],_,h=>h
 | b :: l,o,h=>by
  rw[TO];exact fU (A5O h _)
def In (n:Nat) (c:List Int):Prop:=IT c/\∀i,BF c i=true->i<n
theorem A7m (n:Nat):In n []:=⟨λx a=>(by cases a),λi hi=>by unfold BF at hi;simp at hi⟩
theorem A7n {n:Nat} {a b:List Int} (ha:In n a) (c:In n b):In n (EM a b) :=
 ⟨NG ha.1 c.1,λi hi=>by
  rw[LL ha.1 c.1,As]at hi;exact ha.2 i hi.1⟩
theorem tN {n:Nat} {l:List (List Int)} (h:∀c∈l,In n c) (k:Nat):In n (l.getD k []):=by
 by_cases hk:k<l.length
 ·exact h _ (BD hk)
 ·rw[Ra hk];exact A7m n
theorem A5P {n:Nat} {l:List (List Int)} (h:∀c∈l,In n c) (i k:Nat):∀c∈Gf l i k,In n c:=by
 intro c a;unfold Gf at a;split at a
 ·rcases OF.1 a with a|a
  ·exact h c a
  ·have:c=EM (l.getD i []) (l.getD k []):=by simpa using a
   rw[this];exact A7n (tN h i) (tN h k)
 ·exact h c a
theorem tP {q i:Nat}:∀ {n k:Nat} {l:List (List Int)},(∀c∈l,In q c)->∀c∈Gg i n k l,In q c
 | 0,_,_,h=>h
 | n+1,k,l,h=>by
  unfold Gg;split
  ·exact tP (A5P h i k)
  ·exact h
theorem Z6 {q:Nat}:∀ {n i:Nat} {l:List (List Int)},(∀c∈l,In q c)->∀c∈IQ n i l,In q c
 | 0,_,_,h=>h
 | n+1,i,l,h=>by
  unfold IQ;split
  ·exact Z6 (tP h)
  ·exact h
def XE (h:AJ):Prop:=∀t,0<=t->t<(h.1.length:Int)->A7 h 0 t=true
theorem Mn (d:List AI):XE (Az d).1:=by
 have hk:=HF d;unfold Az at hk ⊢;split
 ·intro t h0 h1;simp at h1;omega
 ·rename_i a;rw[At a]at hk;have a:(BC d).2=0:=DO a;have E:Aw d=0:=by
   unfold BC at a;split at a
   ·rename_i h;exact absurd a h
   ·rename_i h;exact DO h
  obtain⟨O,-,-⟩:=CC E;obtain⟨m,Q,-⟩:=BU O;obtain⟨-,D,-,hn,P⟩:=Ax m;have L:=D9 d d.length;rw[iN]at L;have j:(AN d).length<=4096:=by omega
  obtain⟨r,z,G⟩:=lN m;have g:∀c∈Av (AR d),In (AN d).length c:=Z6 λc k=>by
   obtain⟨s,hs,rfl⟩:=Do.1 k;exact⟨(Bt (d:=d) j s 0).2.1,λi hi=>((Bt (d:=d) j s i).1.1 hi).1⟩
  obtain⟨s,hs,C⟩:=iS.1 (OY z);have M:s=r.1:=by
   obtain⟨x,f,rfl⟩:=Cu hs;rw[P6 hn f z C]
  subst M;have p:Ew d (AN d) r.1∈Av (AR d):=by
   have hp:AR d <+: Av (AR d):=QN 257 0 (AR d);exact hp.subset (Do.2 ⟨_,hs,rfl⟩)
  have n:∀i,i<(AN d).length->BF (Ew d (AN d) r.1) i=true:=λi hi=>by
   refine(Bt (d:=d) j r.1 i).1.2 ⟨hi,?_⟩;obtain⟨x,f,e⟩:=Cu (BD (d:=ByteArray.empty) hi);rw[<-e];exact G x f
  have F:HM (AL d):=fU λy N=>by cases N
  have v:=Dd.2 ⟨_,p,rfl⟩;have w:0<(AL d).length:=ACz v;have u:=F _ v;obtain⟨b,o,l⟩:=Dd.1 (BD (d:=c0) w);rw[l]at u;have J:=A7l (g b o).1 (g _ p).1 (λi hi=>n i ((g b o).2 i hi)) u;have I:BN (Bn d) 0=b:=by
   show ((Ed (AL d) _ _).getD 0 RY).2.1=b;have:(Ed (AL d) (BC d).1 (AL d).length).getD 0 RY=(((AL d).getD 0 c0).1,((AL d).getD 0 c0).2,X0 (AL d) ((0:Nat):Int),(BC d).1.getD 0 []):=by
    unfold Ed;rw[AS,AA1,AB1 w];rfl
   rw[this,l]
  have R:(Bn d).1.length=(AL d).length:=KL _ _ _;intro t A B;refine(BP hk (by omega) (by show (0:Int)<((Bn d).1.length:Int);omega) A B).2 λi hi=>?_;show BF (BN (Bn d) 0) i=true;rw[I];refine J i (n i ?_);have H:=B7 A B;have K:BN (Bn d) t∈Av (AR d):=by
   have e:((Bn d).1.map λt=>t.2.1)=(AL d).map λx=>x.2:=by
    show ((Ed _ _ _).map λt=>t.2.1)=_;unfold Ed;rw[ABm];apply AAU
    ·simp
    ·intro i h1 D;simp[AS,show i<(AL d).length by simpa using h1]
   have q:BN (Bn d) t∈(Bn d).1.map λt=>t.2.1:=H;rw[e]at q;obtain⟨x,f,ex⟩:=Do.1 q;obtain⟨c,k,rfl⟩:=Dd.1 f;rw[<-ex];exact k
  exact(g _ K).2 i hi
theorem WS (d:List AI):Nd ((Az d).1.1.map λt=>t.2.1):=by
 unfold Az;split
 ·exact⟨.nil,λc h=>(by cases h)⟩
 ·rename_i a;have a:(BC d).2=0:=DO a;have g:Aw d=0:=by
   unfold BC at a;split at a
   ·rename_i h;exact absurd a h
   ·rename_i h;exact DO h
  obtain⟨m,-,-⟩:=CC g;obtain⟨f,o,-⟩:=BU m;have hf:Nd (Av (AR d)):=TZ (Rb f);have e:((Bn d).1.map λt=>t.2.1)=(AL d).map λx=>x.2:=by
   show ((Ed _ _ _).map λt=>t.2.1)=_;unfold Ed;rw[ABm];apply AAU
   ·simp
   ·intro i h1 n;simp[AS,show i<(AL d).length by simpa using h1]
  show Nd ((Bn d).1.map λt=>t.2.1);rw[e];refine⟨Me (by simpa using hf.nd),λc k=>?_⟩;obtain⟨x,l,rfl⟩:=Do.1 k;obtain⟨b,j,rfl⟩:=Dd.1 l;exact hf.nrm b j
def A1 (n:Nat):List Int:=(List.range n).map λ(i:Nat)=>(i:Int)
theorem C0 (n:Nat):(A1 n).length=n:=by simp[A1]
theorem Sm (n:Nat):A1 (n+1)=A1 n++[(n:Int)]:=by simp[A1,AAq]
theorem FX {n k:Nat} (h:k<n):(A1 n).getD k 0=(k:Int):=by
 unfold A1;rw[AS,AA1,AB1 h];rfl
def lO:Ae:={ ins:=[T3],pre:=λ(n,_)=>(0:Int)<=n/\n<=(100000:Int),out:=λ(n,_)=>[.own 3 T3 (A1 (Int.toNat n))] }
theorem A29:Af Tryz.prog 88 lO:=by
 refine fK [0,2,3,4,7] Tryz.func88 Tryz.ntmps88 AH ?_;rintro w0 O0 ⟨n,u⟩ a-⟨h0,h1⟩;simp only[lO,AM];repeat'(first|exact trivial|refine eS rfl ?_|refine rX a ?_ ?_)
 refine AG (ι:={i:Nat//i<=n.toNat}) (λi=>⟨[(0,.p T3 n),(3,.sr 13 T3 0 i.1),(4,.p (.int .i64) (i.1:Int))],[(13,.arr 3 T3 (A1 i.1))]⟩) (λi=>n.toNat-i.1) ⟨0,by omega⟩ (AC [(13,.nil)] rfl rfl ?_ ?_) (λi=>?_)
 ·refine eM ?_;rfl
 ·exact eN
 ·obtain⟨i,hi⟩:=i;repeat'(first|exact trivial|refine eS rfl ?_|refine AB ?_|refine rX a ?_ ?_|refine rC ?_ ?_<;>intro b<;>try(cases b;done))
  ·simp only[AO];exact eV
  ·exact eV
  ·have c:(A1 i).take i=A1 i:=An (by rw[C0];exact NO i);refine⟨⟨i+1,by exact eV⟩,by simp only;exact eV,AC [(13,.nm 13)] rfl rfl ?_ ?_⟩
   ·simp only;rw[c,Sm];exact eN
   ·exact eN
  ·have hn:i=n.toNat:=by exact eV
   subst hn;exact GY a (.inl rfl) (rv:=.tmp 2) rfl (by simp only[H0,Hf,GL,go_sem,Nat.reduceEqDiff,reduceCtorEq,Nat.reduceAdd,Nat.reduceSub,Nat.reduceMul,Nat.reduceLeDiff,Nat.reduceLT,Int.reduceLE,Int.reduceToNat,Int.reduceNeg,↓reduceIte];exact(C0 _).symm)
def ET (c:List Int) (m n:Int):Int:=if c.getD n.toNat 0<c.getD m.toNat 0 then c.getD n.toNat 0 else c.getD m.toNat 0
def CY (c:List Int) (m n:Int):Int:=if c.getD m.toNat 0<c.getD n.toNat 0 then c.getD n.toNat 0 else c.getD m.toNat 0
def Hk (hi lo x:Int):Int:=if x=hi then lo else x
def CL (c:List Int) (m n:Int):List Int:=c.map (Hk (CY c m n) (ET c m n))
def lQ:Ae:={ ins:=[Es,T3,T3],pre:=λ(c,m,n,_)=>List.length c<=100000/\((0:Int)<=m/\m<(List.length c:Int))/\((0:Int)<=n/\n<(List.length c:Int)),out:=λ(c,m,n,_)=>[.p Es (CL c m n)] }
theorem A2a:Af Tryz.prog 87 lQ:=by
 refine fK [0,1,2,6,7,8,9,10,35,43] Tryz.func87 Tryz.ntmps87 AH ?_;rintro w0 O0 ⟨c,m,n,u⟩ d-⟨w,j,hn⟩;simp only[lQ,AM];repeat'(first|exact trivial|refine eS rfl ?_|refine rX d ?_ ?_)
 ·exact⟨j,hn⟩
 ·exact⟨j,hn⟩
 ·simp only[AO];exact eV
 ·have s:(if List.getD c (Int.toNat n) 0<List.getD c (Int.toNat m) 0 then List.getD c (Int.toNat n) 0 else List.getD c (Int.toNat m) 0)=ET c m n:=rfl;have q:(if List.getD c (Int.toNat m) 0<List.getD c (Int.toNat n) 0 then List.getD c (Int.toNat n) 0 else List.getD c (Int.toNat m) 0)=CY c m n:=rfl;rw[s,q];have k:CL c m n=c.map (Hk (CY c m n) (ET c m n)):=rfl;generalize ET c m n=lo at *;generalize CY c m n=hi at *;refine AG (ι:={i:Nat//i<=c.length}) (λi=>⟨[(7,.p T3 lo),(8,.p T3 hi),(9,.sr 29 T3 0 c.length),(10,.p (.int .i64) (i.1:Int))],[(29,.arr 3 T3 ((c.take i.1).map (Hk hi lo)++c.drop i.1))]⟩) (λi=>c.length-i.1) ⟨0,by omega⟩ (eW [(29,.nm 29)]) (λi=>?_)
  ·obtain⟨i,g⟩:=i;have f:i<c.length->((c.take i).map (Hk hi lo)++c.drop i).getD i 0=c.getD i 0:=λh=>by
    rw[AS,AAl (by simp;omega)];simp only[On,ON,ABk g,AB7,AAZ,ADi];rw[AS]
   have v:∀x,i<c.length->((c.take i).map (Hk hi lo)++c.drop i).set i x=(c.take i).map (Hk hi lo)++[x]++c.drop (i+1):=λx h=>by
    rw[ABg _ _ (by simp;omega)];simp only[On,ON,ABk g,AB7];rw[Of h,ABF,oF];rfl
   have l:∀x,i<c.length->x=Hk hi lo (c.getD i 0)->(c.take i).map (Hk hi lo)++[x]++c.drop (i+1)=(c.take (i+1)).map (Hk hi lo)++c.drop (i+1):=λx h e=>by
    rw[AW c 0 h,AAs,e];rfl
   have r:i<c.length->(c.take i).map (Hk hi lo)++c.drop i=(c.take i).map (Hk hi lo)++[c.getD i 0]++c.drop (i+1):=λh=>by
    rw[Of h,oF,AS,AT h];rfl
   repeat'(first|exact trivial|refine eS rfl ?_|refine AB ?_|refine rX d ?_ ?_|refine rC ?_ ?_<;>intro b<;>try(cases b;done))
   ·exact b
   ·exact eV
   ·exact eV
   ·have a:i<c.length:=by exact eV
    rw[f a]at b;refine⟨⟨i+1,by omega⟩,by simp only;omega,AC [(29,.nm 29)] rfl rfl ?_ ?_⟩
    ·simp only;rw[<-l lo a (by unfold Hk;rw[BY b]),<-v lo a];exact eN
    ·exact eN
   ·exact eV
   ·have a:i<c.length:=by exact eV
    rw[f a]at b;refine⟨⟨i+1,by omega⟩,by simp only;omega,AC [(29,.nm 29)] rfl rfl ?_ ?_⟩
    ·simp only;rw[<-l (c.getD i 0) a (by unfold Hk;rw[At b]),<-r a];exact eN
    ·exact eN
   ·have a:c.length<=i:=by exact eV
    have o:(c.take i).map (Hk hi lo)++c.drop i=CL c m n:=by
     rw[An a,IF a,AAu,k]
    rw[o];have t:(CL c m n).take c.length=CL c m n:=An (by rw[k,On];exact NO _);exact fI d [.tmp 6] (by first|exact eR|refine cG ?_;exact t)
def EU (l:List (Int×Int)) (e:Int):Int×Bool:=match l with
 | []=>(0,false)
 | a :: r=>if a.1=e then (a.2,true) else EU r e
def lR:Ae:={ ins:=[Ce,T3],pre:=λ_=>True,out:=λ(l,e,_)=>[.p T3 (EU l e).1,.p .bool (EU l e).2],lend:=true }
theorem A2b:Af Tryz.prog 120 lR:=by
 refine fK [0,1,4,5,6,10,19] Tryz.func120 Tryz.ntmps120 AH ?_;rintro w0 O0 ⟨l,n,u⟩ d ⟨⟨f,-⟩,-⟩ -;simp only[AO]at f;simp only[lR,AM];repeat'(first|exact trivial|refine eS rfl ?_|refine rX d ?_ ?_)
 refine AG (ι:={k:Nat//k<=l.length/\EU (l.drop k) n=EU l n}) (λk=>⟨[(0,.p Ce l),(1,.p T3 n),(6,.p (.int .i64) (k.1:Int))],[]⟩) (λk=>l.length-k.1) ⟨0,by simp⟩ (eW []) (λk=>?_)
 ·obtain⟨k,hk,a⟩:=k;repeat'(first|exact trivial|refine eS rfl ?_|refine AB ?_|refine rX d ?_ ?_|refine rC ?_ ?_<;>intro c<;>try(cases c;done))
  ·exact c
  ·exact eV
  ·have b:k<l.length:=by exact eV
   have e:l.drop k=l.getD k (0,0) :: l.drop (k+1):=by
    rw[Of b,AS,AT b];rfl
   rw[e]at a;have a:(if (l.getD k (0,0)).1=n then ((l.getD k (0,0)).2,true) else EU (l.drop (k+1)) n)=EU l n:=a;rw[BY c]at a;exact fI d [.tmp 4,.tmp 5] (by rw[<-a];exact eR)
  ·exact eV
  ·have b:k<l.length:=by exact eV
   have e:l.drop k=l.getD k (0,0) :: l.drop (k+1):=by
    rw[Of b,AS,AT b];rfl
   rw[e]at a;have a:(if (l.getD k (0,0)).1=n then ((l.getD k (0,0)).2,true) else EU (l.drop (k+1)) n)=EU l n:=a;rw[At c]at a;exact⟨⟨k+1,by omega,a⟩,by simp only;omega,eW []⟩
  ·have hk:l.drop k=[]:=IF (by exact eV);rw[hk]at a;have a:(0,false)=EU l n:=a;exact fI d [.tmp 4,.tmp 5] (by rw[<-a];exact eR)
def Eb (l h:List (Int×Int)):List (Int×Int):=h.filterMap λx=>if (EU l x.1).2=true then some ((EU l x.1).1,x.2) else none
def Fs (l h:List (Int×Int)):List (Int×Int):=l++h.filter λx=>!(EU l x.1).2
theorem WT (l h:List (Int×Int)):(Fs l h).length+(Eb l h).length=l.length+h.length:=by
 unfold Fs Eb;induction h with
 | nil=>simp
 | cons x h a =>
  simp only[GO,AAE,List.filterMap_cons,OS]at a ⊢;cases b:(EU l x.1).2
  ·simp only[ACH,ABi,ABj,ABK,OS];omega
  ·simp only[ACy,ABj,ABK,ABi,OS];omega
theorem Z7 {l h:List (Int×Int)} {x:Int×Int} (a:(EU l x.1).2=true):Eb l (h++[x])=Eb l h++[((EU l x.1).1,x.2)]/\Fs l (h++[x])=Fs l h:=by
 unfold Eb Fs;simp[List.filterMap_append,a]
theorem Z8 {l h:List (Int×Int)} {x:Int×Int} (a:(EU l x.1).2=false):Eb l (h++[x])=Eb l h/\Fs l (h++[x])=Fs l h++[x]:=by
 unfold Eb Fs;simp[List.filterMap_append,a]
theorem Tn {l:List (Int×Int)} {e:Int} (h:(EU l e).2=true):(e,(EU l e).1)∈l:=by
 induction l with
 | nil=>cases h
 | cons a r b =>
  unfold EU at h ⊢;by_cases ha:a.1=e
  ·rw[BY ha];subst ha;exact ABP
  ·rw[At ha]at h ⊢;exact If _ (b h)
theorem fV {l:List (Int×Int)} {e:Int} (a:Int×Int) (ha:a∈l) (d:a.1=e):(EU l e).2=true:=by
 induction l with
 | nil=>cases ha
 | cons b r f =>
  unfold EU;by_cases c:b.1=e
  ·rw[BY c]
  ·rw[At c];rcases By.1 ha with rfl|ha
   ·exact absurd d c
   ·exact f ha
def Qf:Nat->(Nat->Nat)->Nat
 | 0,_=>0
 | n+1,f=>Qf n f+f n
theorem lS {n:Nat} {f g:Nat->Nat} (h:∀k,k<n->g k=f k):Qf n g=Qf n f:=by
 induction n with
 | zero=>rfl
 | succ n a=>simp only[Qf];rw[a λk hk=>h k (by omega),h n (by omega)]
theorem fW {n:Nat} {f g:Nat->Nat} {a:Nat} (ha:a<n) (h:∀k,k<n->k≠a->g k=f k):Qf n g+f a=Qf n f+g a:=by
 induction n with
 | zero=>omega
 | succ n b =>
  simp only[Qf];by_cases e:a=n
  ·subst e;rw[lS (n:=a) (f:=f) λk hk=>h k (by omega) (by omega)];omega
  ·have:=b (by omega) λk hk=>h k (by omega);have:=h n (by omega) (λh=>e h.symm);omega
theorem fX {n:Nat} {f g:Nat->Nat} {a b:Nat} (ha:a<n) (i:b<n) (d:a≠b) (h:∀k,k<n->k≠a->k≠b->g k=f k):Qf n g+f a+f b=Qf n f+g a+g b:=by
 have h1:=fW (f:=f) (g:=λk=>if k=a then g a else f k) ha (λk hk j=>by simp only[At j]);have c:=fW (f:=λk=>if k=a then g a else f k) (g:=g) i (λk hk l=>by
  by_cases e:k=a
  ·subst e;simp
  ·simp only[At e];exact h k hk e l)
 simp only[ABi,At (λe:b=a=>d e.symm)]at h1 c;omega
theorem A2c {n:Nat} {f:Nat->Nat} {a b:Nat} (ha:a<n) (e:b<n) (d:a≠b):f a+f b<=Qf n f:=by
 have:=fX (f:=f) (g:=λk=>if k=a\/k=b then 0 else f k) ha e d (λk _ h1 c=>by simp[h1,c]);simp at this;omega
theorem lU {n B:Nat} {f:Nat->Nat} (h:∀k,k<n->f k<=B):Qf n f<=n*B:=by
 induction n with
 | zero=>simp[Qf]
 | succ n a =>
  simp only[Qf];have:=a λk hk=>h k (by omega);have:=h n (by omega);rw[ABs];omega
def Oq (o:List Int) (ar:List (List (Int×Int))):Nat:=Qf o.length λk=>if o.getD k 0=(k:Int) then (ar.getD k []).length else 0
structure CI (n:Nat) (o:List Int) (ar:List (List (Int×Int))) (W:List (Int×Int)):Prop where
 lo:o.length=n
 la:ar.length=n
 rep:∀k:Nat,k<n->0<=o.getD k 0/\o.getD k 0<=(k:Int)/\o.getD (o.getD k 0).toNat 0=o.getD k 0
 wr:∀w∈W,(0<=w.1/\w.1<(n:Int))/\(0<=w.2/\w.2<(n:Int))
 ta:∀k,∀a∈ar.getD k [],0<=a.2/\a.2<(n:Int)
theorem CI.rng {n:Nat} {o:List Int} {ar:List (List (Int×Int))} {W:List (Int×Int)} (h:CI n o ar W) {x:Int} (c:0<=x) (d:x<(n:Int)):0<=o.getD x.toNat 0/\o.getD x.toNat 0<(n:Int)/\o.getD (o.getD x.toNat 0).toNat 0=o.getD x.toNat 0:=by
 obtain⟨h1,b,a⟩:=h.rep x.toNat (by omega);exact⟨h1,by omega,a⟩
theorem NR {c:List Int} {m n:Int} {k:Nat} (hk:k<c.length):(CL c m n).getD k 0=Hk (CY c m n) (ET c m n) (c.getD k 0):=by
 unfold CL;rw[AS,AA1,AT hk,AS,AT hk];rfl
theorem KV (c:List Int) (m n:Int):(CL c m n).length=c.length:=by simp[CL]
structure LH (o:List Int) (n:Nat) (lo hi:Int):Prop where
 l0:0<=lo
 lt:lo<hi
 h1:hi<(n:Int)
 rl:o.getD lo.toNat 0=lo
 rh:o.getD hi.toNat 0=hi
section
variable {n:Nat} {o:List Int} {ar:List (List (Int×Int))} {W:List (Int×Int)} {x y:Int}
theorem A2d (h:CI n o ar W) (i:0<=x) (j:x<(n:Int)) (k:0<=y) (l:y<(n:Int)) (a:ET o x y≠CY o x y):LH o n (ET o x y) (CY o x y):=by
 obtain⟨f,g,d⟩:=h.rng i j;obtain⟨b1,b2,e⟩:=h.rng k l;unfold ET CY at a ⊢;by_cases b:o.getD y.toNat 0<o.getD x.toNat 0
 ·rw[BY b,At (by omega)];exact⟨b1,b,g,e,d⟩
 ·rw[At b]at a ⊢;by_cases c:o.getD x.toNat 0<o.getD y.toNat 0
  ·rw[BY c];exact⟨f,c,b2,d,e⟩
  ·rw[At c]at a;exact absurd rfl a
theorem tQ {w:Int×Int} (h:CI n o ar (w :: W)):CI n o ar W:=⟨h.lo,h.la,h.rep,λu hu=>h.wr u (If _ hu),h.ta⟩
theorem Iq (l:List (List (Int×Int))) (v:List (Int×Int)) (i j:Nat) (hi:i<l.length):(l.set i v).getD j []=if j=i then v else l.getD j []:=by
 simp only[AS,AAY];by_cases e:i=j
 ·subst e;simp[hi]
 ·rw[At e,At (λh=>e h.symm)]
theorem HT {hi lo v:Int} (h:v≠hi):Hk hi lo v=v:=At h
theorem Ir {hi lo:Int}:Hk hi lo hi=lo:=BY rfl
theorem fY (h:CI n o ar W) (f:LH o n (ET o x y) (CY o x y)) :
  CI n (CL o x y) (ar.set (ET o x y).toNat (Fs (ar.getD (ET o x y).toNat []) (ar.getD (CY o x y).toNat []))) (W++Eb (ar.getD (ET o x y).toNat []) (ar.getD (CY o x y).toNat [])):=by
 have d:=λ(k:Nat) (hk:k<n)=>NR (m:=x) (n:=y) (show k<o.length by rw[h.lo];exact hk);have j:=KV o x y;generalize ET o x y=lo at *;generalize CY o x y=hi at *;obtain⟨l0,lt,h1,rl,rh⟩:=f;have i:=h.lo;have g:=h.la;refine⟨by rw[j];exact i,by rw[AAD];exact g,λk hk=>?_,λw b=>?_,λk a ha=>?_⟩
 ·obtain⟨p,q,r⟩:=h.rep k hk;rw[d k hk];by_cases e:o.getD k 0=hi
  ·rw[e,Ir,d _ (by omega),rl,HT (by omega)];exact⟨l0,by omega,rfl⟩
  ·rw[HT e,d _ (by omega),r,HT e];exact⟨p,q,rfl⟩
 ·rcases OF.1 b with b|b
  ·exact h.wr w b
  ·obtain⟨a,ha,c⟩:=AC2.1 b;split at c
   ·rename_i l;cases c;exact⟨h.ta _ _ (Tn l),h.ta _ a ha⟩
   ·cases c
 ·rw[Iq _ _ _ _ (by omega)]at ha;split at ha
  ·rcases OF.1 ha with ha|ha
   ·exact h.ta _ a ha
   ·exact h.ta _ a (AAC.1 ha).1
  ·exact h.ta _ a ha
theorem WU (h:CI n o ar W) (p:LH o n (ET o x y) (CY o x y)) :
  Oq (CL o x y) (ar.set (ET o x y).toNat (Fs (ar.getD (ET o x y).toNat []) (ar.getD (CY o x y).toNat [])))+(Eb (ar.getD (ET o x y).toNat []) (ar.getD (CY o x y).toNat [])).length=Oq o ar:=by
 have c:=λ(k:Nat) (hk:k<n)=>NR (m:=x) (n:=y) (show k<o.length by rw[h.lo];exact hk);have r:=KV o x y;generalize ET o x y=lo at *;generalize CY o x y=hi at *;obtain⟨l0,lt,h1,rl,rh⟩:=p;have q:=h.lo;have u:=h.la;have t:=WT (ar.getD lo.toNat []) (ar.getD hi.toNat []);have hs:=fX (n:=n) (f:=λk=>if o.getD k 0=(k:Int) then (ar.getD k []).length else 0)
  (g:=λk=>if (CL o x y).getD k 0=(k:Int) then ((ar.set lo.toNat (Fs (ar.getD lo.toNat []) (ar.getD hi.toNat []))).getD k []).length else 0)
  (a:=lo.toNat) (b:=hi.toNat) (by omega) (by omega) (by omega) (λk hk s v=>by
   rw[c k hk,Iq _ _ _ _ (by omega),At s];by_cases e:o.getD k 0=hi
   ·rw[e,Ir,At (by omega),At (by omega)]
   ·rw[HT e])
 have d:(o.getD lo.toNat 0=((lo.toNat:Nat):Int)):=by rw[rl];omega
 have i:(o.getD hi.toNat 0=((hi.toNat:Nat):Int)):=by rw[rh];omega
 have j:((CL o x y).getD lo.toNat 0=((lo.toNat:Nat):Int)):=by rw[c _ (by omega),rl,HT (by omega)];omega
 have l:¬((CL o x y).getD hi.toNat 0=((hi.toNat:Nat):Int)):=by rw[c _ (by omega),rh,Ir];omega
 simp only[BY d,BY i,BY j,At l]at hs;rw[Iq _ _ _ _ (by omega),BY rfl]at hs;unfold Oq;rw[r,q];omega
theorem A2e (h:CI n o ar W) {lo hi:Int} (e:LH o n lo hi):(ar.getD lo.toNat []).length+(ar.getD hi.toNat []).length<=Oq o ar:=by
 obtain⟨l0,lt,h1,rl,rh⟩:=e;have g:=h.lo;have:=A2c (n:=n) (f:=λk=>if o.getD k 0=(k:Int) then (ar.getD k []).length else 0) (a:=lo.toNat) (b:=hi.toNat) (by omega) (by omega) (by omega);have c:(o.getD lo.toNat 0=((lo.toNat:Nat):Int)):=by rw[rl];omega
 have d:(o.getD hi.toNat 0=((hi.toNat:Nat):Int)):=by rw[rh];omega
 simp only[BY c,BY d]at this;unfold Oq;rw[g];exact this
end
def Jr:Nat->List Int->List (List (Int×Int))->List (Int×Int)->List Int
 | 0,o,_,_=>o
 | _+1,o,_,[]=>o
 | k+1,o,ar,w :: W=>if ET o w.1 w.2=CY o w.1 w.2 then Jr k o ar W
  else Jr k (CL o w.1 w.2) (ar.set (ET o w.1 w.2).toNat (Fs (ar.getD (ET o w.1 w.2).toNat []) (ar.getD (CY o w.1 w.2).toNat []))) (W++Eb (ar.getD (ET o w.1 w.2).toNat []) (ar.getD (CY o w.1 w.2).toNat []))
theorem lV (k:Nat) (o:List Int) (ar:List (List (Int×Int))):Jr k o ar []=o:=by cases k<;>rfl
def E1 (c:List Int) (i:Nat):List (Int×Int):=((List.range i).filter λ(k:Nat)=>decide (c.getD k 0≠(k:Int))).map λ(k:Nat)=>((k:Int),c.getD k 0)
theorem xY (c:List Int) (i:Nat):(E1 c i).length<=i:=by
 unfold E1;rw[On];exact Qo (AB9 _ _) (by simp)
theorem fZ {c:List Int} {i:Nat} (h:c.getD i 0≠(i:Int)):E1 c (i+1)=E1 c i++[((i:Int),c.getD i 0)]:=by
 unfold E1;have e:[i].filter (λ(k:Nat)=>decide (c.getD k 0≠(k:Int)))=[i]:=by rw[AAE,BY (by simpa using h)];rfl
 rw[AAq,ABQ,AAs,e];rfl
theorem f3 {c:List Int} {i:Nat} (h:c.getD i 0=(i:Int)):E1 c (i+1)=E1 c i:=by
 unfold E1;have e:[i].filter (λ(k:Nat)=>decide (c.getD k 0≠(k:Int)))=[]:=by rw[AAE,At (by simpa using h)];rfl
 rw[AAq,ABQ,AAs,e,ACq,AAu]
def GS (l:List AE):List (List (Int×Int)):=l.map (·.2)
theorem KW (l:List AE) (k:Nat):(GS l).getD k []=(l.getD k (0,[])).2:=by
 unfold GS;rw[AS,AA1,AS];cases l[k]?<;>rfl
def Ro (l:List AE) (c:List Int):List Int:=Jr (Oq (A1 l.length) (GS l)+(E1 c l.length).length) (A1 l.length) (GS l) (E1 c l.length)
theorem f4 {l:List AE} (e:Ad l) {c:List Int} (d:∀x∈c,0<=x/\x<(l.length:Int)) (f:c.length=l.length):CI l.length (A1 l.length) (GS l) (E1 c l.length):=by
 refine⟨C0 _,by simp[GS],λk hk=>?_,λw b=>?_,λk a ha=>?_⟩
 ·rw[FX hk];exact⟨by omega,by omega,by rw[FX (by omega)];omega⟩
 ·unfold E1 at b;obtain⟨k,hk,rfl⟩:=Do.1 b;have hk:=(AAC.1 hk).1;have hk:=oR.1 hk;refine⟨⟨by simp only;omega,by simp only;omega⟩,d _ (AD c 0 (by omega))⟩
 ·rw[KW]at ha;by_cases hk:k<l.length
  ·exact(e.2 _ (AD l (0,[]) hk)).2 a ha
  ·rw[AS,iF (by omega)]at ha;cases ha
theorem lW {l:List AE} (a:Ad l):Oq (A1 l.length) (GS l)<=10000000000:=by
 unfold Oq;rw[C0];have:=lU (n:=l.length) (B:=100000) (f:=λk=>if (A1 l.length).getD k 0=(k:Int) then ((GS l).getD k []).length else 0) (λk hk=>by
  split
  ·rw[KW];exact(a.2 _ (AD l (0,[]) hk)).1
  ·omega)
 have h1:=a.1;have:l.length*100000<=100000*100000:=AAm _ h1;omega
section
attribute [local go_sem] Ut A0G
def Z9:Ae:={ ins:=[D8,T3,T3],pre:=λ(f,n,_,_)=>(0:Int)<=n/\n<(List.length f:Int),out:=λ(f,n,e,_)=>[.p T3 (EU (List.getD (f:List AE) (Int.toNat n) (0,[])).2 e).1,.p .bool (EU (List.getD (f:List AE) (Int.toNat n) (0,[])).2 e).2],lend:=true }
attribute [local go_sem] Z9
theorem A2f:Af Tryz.prog 53 Z9:=by
 refine fK [0,1,2,3,6,7,8,9,19,28] Tryz.func53 Tryz.ntmps53 AH ?_;rintro w0 O0 ⟨f,n,e,u⟩ b ⟨⟨m,hf⟩,-⟩ hn;simp only[Z9,AM];repeat'(first|exact trivial|refine eS rfl ?_|refine rX b ?_ ?_)
 ·exact hn
 ·have i:List.length (List.getD (f:List AE) (Int.toNat n) (0,[])).2<=AO:=by
   have h1:Int.toNat n<List.length f:=(ACK hn.1).2 hn.2;have:=hf _ (AD (f:List AE) (0,[]) h1);exact this.2.1
  simp only[AO]at i;generalize (List.getD (f:List AE) (Int.toNat n) (0,[])).2=l at *;refine AG (ι:={k:Nat//k<=l.length/\EU (l.drop k) e=EU l e}) (λk=>⟨[(2,.p T3 e),(8,.p Ce l),(9,.p (.int .i64) (k.1:Int))],[]⟩) (λk=>l.length-k.1) ⟨0,by simp⟩ (eW []) (λk=>?_)
  ·obtain⟨k,hk,a⟩:=k;have j:k<l.length->l.drop k=l.getD k (0,0) :: l.drop (k+1):=λh=>by
    rw[Of h,AS,AT h];rfl
   have g:k<l.length->(if (l.getD k (0,0)).1=e then ((l.getD k (0,0)).2,true) else EU (l.drop (k+1)) e)=EU l e:=λh=>by
    rw[j h]at a;exact a
   repeat'(first|exact trivial|refine eS rfl ?_|refine AB ?_|refine rX b ?_ ?_|refine rC ?_ ?_<;>intro c<;>try(cases c;done))
   ·exact eV
   ·exact eV
   ·have d:k<l.length:=by exact eV
    have a:=g d;rw[BY c]at a;exact fI b [.tmp 6,.tmp 7] (by rw[<-a];exact eR)
   ·exact eV
   ·have d:k<l.length:=by exact eV
    have a:=g d;rw[At c]at a;exact⟨⟨k+1,by omega,a⟩,by simp only;omega,eW []⟩
   ·have hk:l.drop k=[]:=IF (by exact eV);rw[hk]at a;have a:(0,false)=EU l e:=a;exact fI b [.tmp 6,.tmp 7] (by rw[<-a];exact eR)
def FN (b:List Int):List HA->Nat->Int×Bool
 | [],_=>(0,false)
 | t :: r,k=>if t.2.1=b then ((k:Int),true) else FN b r (k+1)
def lX:Ae:={ ins:=[F7,EL],pre:=λ_=>True,out:=λ(h,b,_)=>[.p T3 (FN b (h:AJ).1 0).1,.p .bool (FN b (h:AJ).1 0).2],lend:=true }
attribute [local go_sem] lX
theorem A2g:Af Tryz.prog 111 lX:=by
 refine fK [0,1,2,4,5,6,11,21] Tryz.func111 Tryz.ntmps111 (AF ZS AH) ?_;rintro w0 O0 ⟨⟨l,hf⟩,b,u⟩ d ⟨⟨⟨g,-⟩,-⟩,-⟩ -;simp only[AO]at g;simp only[lX,AM];repeat'(first|exact trivial|refine eS rfl ?_|refine rX d ?_ ?_)
 refine AG (ι:={k:Nat//k<=List.length l/\FN b (List.drop k l) k=FN b l 0}) (λk=>⟨[(1,.p EL b),(2,.bp 2 [] 0),(6,.p (.int .i64) (k.1:Int))],[(2,.box 31 true [.p ST l,.p TQ hf])]⟩) (λk=>List.length l-k.1) ⟨0,by simp⟩ (eW [(2,.nm 2)]) (λk=>?_)
 ·obtain⟨k,hk,a⟩:=k;have f:k<List.length l->(if (List.getD l k RY).2.1=b then ((k:Int),true) else FN b (List.drop (k+1) l) (k+1))=FN b l 0:=λh=>by
   rw[Of h]at a;rw[AS,AT h];exact a
  repeat'(first|exact trivial|refine eS rfl ?_|refine AB ?_|refine rX d ?_ ?_|refine rC ?_ ?_<;>intro c<;>try(cases c;done))
  ·exact eV
  ·have e:k<List.length l:=by exact eV
   have a:=f e;have c:(List.getD l k RY).2.1=b:=by simpa[GN] using c
   rw[BY c]at a;exact fI d [.tmp 4,.tmp 5] (by rw[<-a];exact eR)
  ·exact eV
  ·have e:k<List.length l:=by exact eV
   have a:=f e;have c:¬(List.getD l k RY).2.1=b:=by simpa[GN] using c
   rw[At c]at a;exact⟨⟨k+1,by omega,a⟩,by simp only;omega,eW [(2,.nm 2)]⟩
  ·have hk:List.drop k l=[]:=IF (by exact eV);rw[hk]at a;have a:(0,false)=FN b l 0:=a;exact fI d [.tmp 4,.tmp 5] (by rw[<-a];exact eR)
def Bq (h:AJ) (a b:Int):Int×Bool:=FN (EM (BN h a) (BN h b)) h.1 0
def WV:Ae:={ ins:=[F7,T3,T3],pre:=λ(h,a,b,_)=>((0:Int)<=a/\a<(List.length (h:AJ).1:Int))/\((0:Int)<=b/\b<(List.length (h:AJ).1:Int))/\(∀x∈(h:AJ).1,x.2.1.length<=100000),out:=λ(h,a,b,_)=>[.p T3 (Bq h a b).1,.p .bool (Bq h a b).2],lend:=true }
attribute [local go_sem] WV
theorem f5:Af Tryz.prog 73 WV:=by
 refine fK [0,1,2,3,6,7] Tryz.func73 Tryz.ntmps73 (AF A2g (AF jJ AH)) ?_;rintro w0 O0 ⟨⟨c,hf⟩,a,b,u⟩ d-⟨ha,f,h⟩;simp only[WV,AM];have g:∀x:Int,0<=x/\x<(List.length c:Int)->List.length (BN (c,hf) x)<=100000:=λx h1=>by
  have e:Int.toNat x<List.length c:=(ACK h1.1).2 h1.2;exact h _ (AD (c:List HA) RY e)
 repeat'(first|exact trivial|refine eS rfl ?_|refine rX d ?_ ?_)
 ·refine⟨ha,f,?_⟩;exact g a ha
 ·exact fI d [.tmp 6,.tmp 7] (by unfold Bq BN;exact eR)
end
section
attribute [local go_sem] WV
def I0 (h:AJ) (l:List AE) (c:List Int):Nat->Option (List Int)
 | 0=>some (List.replicate l.length 0)
 | i+1=>match I0 h l c i with
  | none=>none
  | some o=>if (Bq h (o.getD (c.getD i 0).toNat 0) (l.getD i (0,[])).1).2=true then some (o.set (c.getD i 0).toNat (Bq h (o.getD (c.getD i 0).toNat 0) (l.getD i (0,[])).1).1) else none
theorem xZ {h:AJ} {l:List AE} {c:List Int} {i:Nat} (hn:I0 h l c i=none):∀ {j:Nat},i<=j->I0 h l c j=none:=by
 intro j b;induction j with
 | zero=>rw[show i=0 by omega]at hn;exact hn
 | succ j a =>
  by_cases e:i=j+1
  ·rw[<-e];exact hn
  ·simp only[I0];rw[a (by omega)]
def S8 (c o:List Int) (i:Nat):List Int:=((List.range i).map λ(k:Nat)=>o.getD (c.getD k 0).toNat 0)++o.drop i
def It (h:AJ) (l:List AE) (c:List Int):List Int×Bool:=match I0 h l c l.length with
 | none=>([],false)
 | some o=>((List.range l.length).map λ(k:Nat)=>o.getD (c.getD k 0).toNat 0,true)
def Rp (n:Nat) (c:List Int):Prop:=c.length=n/\∀k:Nat,k<n->0<=c.getD k 0/\c.getD k 0<=(k:Int)/\c.getD (c.getD k 0).toNat 0=c.getD k 0
theorem A2h {c o:List Int} {i:Nat} (h:i<=o.length):(S8 c o i).length=o.length:=by
 unfold S8;simp;omega
theorem A2i {c o:List Int} {i:Nat} (hi:i<o.length) {x:Int} (d:Rp o.length c) (f:x=c.getD i 0):(S8 c o i).getD x.toNat 0=o.getD x.toNat 0:=by
 obtain⟨h1,b,a⟩:=d.2 i hi;rw[<-f]at h1 b a;unfold S8;by_cases e:x.toNat<i
 ·rw[AS,AAo (by simpa using e),AA1,AB1 e];simp only[ABD,ABx];rw[a]
 ·have e:x.toNat=i:=by omega
  rw[e,AS,AAl (by simp)];simp only[On,ABT,AB7,AAZ,ADi];rw[AS]
theorem A2j {c o:List Int} {i:Nat} (hi:i<o.length):(S8 c o i).set i (o.getD (c.getD i 0).toNat 0)=S8 c o (i+1):=by
 unfold S8;rw[ABg _ _ (by simp)];simp only[On,ABT,AB7];rw[Of hi,ABF,AAq,AAs,oF];rfl
theorem x5 (c o:List Int):S8 c o o.length=(List.range o.length).map λ(k:Nat)=>o.getD (c.getD k 0).toNat 0:=by
 unfold S8;simp
theorem x6 (c o:List Int):S8 c o 0=o:=by simp[S8]
theorem f6 (b:List Int):∀(l:List HA) (k:Nat),0<=(FN b l k).1/\((FN b l k).2=true->(k:Int)<=(FN b l k).1/\(FN b l k).1<(k:Int)+l.length)
 | [],k=>⟨by simp[FN],by simp[FN]⟩
 | t :: r,k=>by
  unfold FN;split
  ·exact⟨by simp only;omega,λ_=>⟨by simp only;omega,by simp only[OS];omega⟩⟩
  ·obtain⟨h1,a⟩:=f6 b r (k+1);refine⟨h1,λh=>?_⟩;obtain⟨c,d⟩:=a h;simp only[OS];omega
theorem x7 {h:AJ} {a b:Int} (d:(Bq h a b).2=true):0<=(Bq h a b).1/\(Bq h a b).1<(h.1.length:Int):=by
 obtain⟨h1,c⟩:=f6 (EM (BN h a) (BN h b)) h.1 0;have c:=c d;unfold Bq;exact⟨h1,by omega⟩
def TyR (h:AJ) (n:Nat) (o:List Int):Prop:=o.length=n/\∀k,k<n->0<=o.getD k 0/\o.getD k 0<(h.1.length:Int)
theorem Rq (l:List Int) (v:Int) (i j:Nat) (hi:i<l.length):(l.set i v).getD j 0=if j=i then v else l.getD j 0:=by
 simp only[AS,AAY];by_cases e:i=j
 ·subst e;simp[hi]
 ·rw[At e,At (λh=>e h.symm)]
theorem Qg {h:AJ} (h0:0<h.1.length) {l:List AE} {c:List Int} (b:Rp l.length c):∀ {i:Nat} {o:List Int},i<=l.length->I0 h l c i=some o->TyR h l.length o
 | 0,o,_,a=>by
  simp only[I0]at a;cases a;refine⟨by simp,λk hk=>?_⟩;rw[AS,ABp,BY hk];exact⟨ACE _,by simp only[ABx];omega⟩
 | i+1,o,hi,a=>by
  simp only[I0]at a;cases hp:I0 h l c i with
  | none=>rw[hp]at a;cases a
  | some p =>
   rw[hp]at a;simp only at a;split at a
   ·rename_i e;cases a;obtain⟨h1,d⟩:=Qg h0 b (by omega) hp;obtain⟨c1,c2,_⟩:=b.2 i (by omega);refine⟨by rw[AAD];exact h1,λk hk=>?_⟩;rw[Rq _ _ _ _ (by omega)];split
    ·exact x7 e
    ·exact d k hk
   ·cases a
def aA:Ae:={ ins:=[F7,Dv,Es],pre:=λ(h,l,c,_)=>Rp (List.length l) c/\Ip h l/\0<List.length (h:AJ).1/\List.length l<=100000/\(∀x∈(h:AJ).1,x.2.1.length<=100000),out:=λ(h,l,c,_)=>[.p Es (It h l c).1,.p .bool (It h l c).2] }
attribute [local go_sem] aA
theorem A2k:Af Tryz.prog 89 aA:=by
 refine fK [0,1,2,3,6,7,8,9,10,11,12,19,40,51] Tryz.func89 Tryz.ntmps89 (AF f5 AH) ?_;rintro w0 O0 ⟨⟨d,hf⟩,l,c,u⟩ g-⟨r,H,h0,K,I⟩;simp only[aA,AM];have t:=r.1;repeat'(first|exact trivial|refine eS rfl ?_|refine rX g ?_ ?_)
 ·simp only[AO];exact eV
 ·refine AG (ι:={s:Nat×List Int//s.1<=List.length l/\I0 (d,hf) l c s.1=some s.2}) (λi=>⟨[(1,.p Dv l),(2,.p Es c),(3,.bp 3 [] 0),(6,.raw (.slice none 0 0)),(7,.p .bool false),(8,.sr 15 T3 0 (List.length l)),(9,.p (.int .i64) (i.1.1:Int))],[(3,.box 31 true [.p ST d,.p TQ hf]),(15,.arr 3 T3 i.1.2)]⟩) (λi=>List.length l-i.1.1) ⟨(0,List.replicate (List.length l) 0),by simp,rfl⟩ (eW [(3,.nm 3),(15,.nm 15)]) (λi=>?_)
  ·obtain⟨⟨i,o⟩,hi,q⟩:=i;simp only at hi q;obtain⟨f,F⟩:=Qg h0 r hi q;simp only;have w:=r.2 i;have E:=F (c.getD i 0).toNat;have G:=λh:i<List.length l=>H _ (AD (l:List AE) (0,[]) h);have n:I0 (d,hf) l c (i+1)=if (Bq (d,hf) (o.getD (c.getD i 0).toNat 0) (l.getD i (0,[])).1).2=true then some (o.set (c.getD i 0).toNat (Bq (d,hf) (o.getD (c.getD i 0).toNat 0) (l.getD i (0,[])).1).1) else none:=by
    simp only[I0,q]
   have m:It (d,hf) l c=match I0 (d,hf) l c (List.length l) with
    | none=>([],false)
    | some o=>((List.range (List.length l)).map λ(k:Nat)=>o.getD (c.getD k 0).toNat 0,true):=rfl
   repeat'(first|exact trivial|refine eS rfl ?_|refine AB ?_|refine rX g ?_ ?_|refine rC ?_ ?_<;>intro b<;>try(cases b;done))
   ·have a:i<List.length l:=by exact eV
    obtain⟨c1,c2,v⟩:=w a;exact⟨by rw[t];exact b,⟨c1,by exact eV⟩,b,E (by omega),G a,I⟩
   ·have a:i<List.length l:=by exact eV
    rw[At (by rw[b];simp)]at n;have:=xZ n (j:=List.length l) (by omega);rw[this]at m;exact fI g [.tmp 6,.tmp 7] (by rw[m];exact eR)
   ·have a:i<List.length l:=by exact eV
    obtain⟨c1,c2,v⟩:=w a;exact⟨by rw[t];assumption,c1,by exact eV⟩
   ·exact eV
   ·have a:i<List.length l:=by exact eV
    rw[BY b]at n;exact⟨⟨(i+1,_),by simp only;omega,n⟩,by simp only;omega,eW [(3,.nm 3),(15,.nm 15)]⟩
   ·have a:i=List.length l:=by exact eV
    rw[<-a,q]at m;simp only at m;have A:Rp o.length c:=by rw[f];exact r
    rw[<-a]at f;refine AG (ι:={j:Nat//j<=o.length}) (λj=>⟨[(1,.p Dv l),(2,.p Es c),(8,.sr 15 T3 0 (List.length l)),(12,.p (.int .i64) (j.1:Int))],[(15,.arr 3 T3 (S8 c o j.1))]⟩) (λj=>o.length-j.1) ⟨0,by omega⟩ (AC [(15,.nm 15)] rfl rfl ?_ ?_) (λj=>?_)
    ·refine eM ?_;rw[x6]
    ·exact eN
    ·obtain⟨j,y⟩:=j;have J:=A2h (c:=c) y;have C:=λh:j<o.length=>A2i (x:=c.getD j 0) h A rfl;have D:=λh:j<o.length=>A2j (c:=c) h;have B:=A.2 j;simp only;repeat'(first|exact trivial|refine eS rfl ?_|refine AB ?_|refine rX g ?_ ?_|refine rC ?_ ?_<;>intro b<;>try(cases b;done))
     ·have e:j<o.length:=by rw[f,a];exact eV
      obtain⟨c1,c2,v⟩:=B e;exact⟨by rw[t];exact b,⟨c1,by exact eV⟩,b⟩
     ·exact eV
     ·have e:j<o.length:=by rw[f,a];exact eV
      refine⟨⟨j+1,by omega⟩,by simp only;omega,AC [(15,.nm 15)] rfl rfl ?_ ?_⟩
      ·simp only;rw[<-D e,<-C e];exact eN
      ·exact eN
     ·have e:j=o.length:=by rw[f,a]at y ⊢;exact eV
      subst e;rw[x5,f];have z:((List.range i).map λ(k:Nat)=>o.getD (c.getD k 0).toNat 0).take (List.length l)=(List.range i).map λ(k:Nat)=>o.getD (c.getD k 0).toNat 0:=An (by simp;omega);exact fI g [.tmp 6,.tmp 7] (by rw[m];first|exact eR|refine cG ?_;rw[a]at z ⊢;exact z)
end
section
attribute [local go_sem] Z9 sL
attribute [local go_sem] Un i6 ne_eq not_false_eq_true
def Rr (cl:List Int) (L:List (Int×Int)) (x:Int×Int):List (Int×Int):=if (EU L x.1).2=true then L else L++[(x.1,cl.getD x.2.toNat 0)]
def Iu (cl:List Int) (L l:List (Int×Int)):List (Int×Int):=l.foldl (Rr cl) L
def Eg (cl:List Int) (g:List AE) (i:Nat) (l:List (Int×Int)):List AE:=g.set (cl.getD i 0).toNat ((g.getD (cl.getD i 0).toNat (0,[])).1,Iu cl (g.getD (cl.getD i 0).toNat (0,[])).2 l)
def DV (l:List AE) (cl types:List Int):Nat->List AE
 | 0=>(List.range l.length).map λ(k:Nat)=>(types.getD k 0,[])
 | i+1=>Eg cl (DV l cl types i) i (l.getD i (0,[])).2
def Yc (l:List AE) (cl types:List Int) (root:Int):List AE:=Fl (DV l cl types l.length) (cl.getD root.toNat 0)
def tR:Ae:={ ins:=[Dv,Es,Es,T3],pre:=λ(l,c,t,r,_)=>Ad l/\List.length c=List.length l/\List.length t=List.length l/\(∀x∈(c:List Int),0<=x/\x<(List.length l:Int))/\((0:Int)<=r/\r<(List.length l:Int))/\List.length l*1000<=100000/\(∀x∈(l:List AE),x.2.length<=1000),out:=λ(l,c,t,r,_)=>[.p D8 (Yc l c t r)] }
attribute [local go_sem] tR
def WW (types:List Int) (i:Nat):List AE:=(List.range i).map λ(k:Nat)=>(types.getD k 0,[])
theorem Rs (types:List Int) (i:Nat):(WW types i).length=i:=by simp[WW]
theorem lY (types:List Int) (i:Nat):WW types (i+1)=WW types i++[(types.getD i 0,[])]:=by simp[WW,AAq]
theorem lZ (l:List AE) (c t:List Int):WW t l.length=DV l c t 0:=rfl
theorem Yd (c:List Int) (g:List AE) (i:Nat) (l:List (Int×Int)):(Eg c g i l).length=g.length:=by simp[Eg]
theorem Ru (l:List AE) (v:AE) (i j:Nat) (hi:i<l.length):(l.set i v).getD j (0,[])=if j=i then v else l.getD j (0,[]):=by
 simp only[AS,AAY];by_cases e:i=j
 ·subst e;simp[hi]
 ·rw[At e,At (λh=>e h.symm)]
theorem x8 {c:List Int} {g:List AE} {i:Nat} {l:List (Int×Int)} (hi:(c.getD i 0).toNat<g.length):(Eg c g i l).getD (c.getD i 0).toNat (0,[])=((g.getD (c.getD i 0).toNat (0,[])).1,Iu c (g.getD (c.getD i 0).toNat (0,[])).2 l):=by
 unfold Eg;rw[Ru _ _ _ _ hi,BY rfl]
theorem x9 {c:List Int} {g:List AE} {i:Nat} (hi:(c.getD i 0).toNat<g.length):Eg c g i []=g:=by
 unfold Eg Iu;simp only[AD4];apply ACa;intro j;rw[AAY];split
 ·rename_i e;subst e;rw[AS,AT hi];simp[hi]
 ·rfl
theorem l5 {c:List Int} {g:List AE} {i:Nat} {l:List (Int×Int)} {x:Int×Int} (hi:(c.getD i 0).toNat<g.length) :
  ((EU ((Eg c g i l).getD (c.getD i 0).toNat (0,[])).2 x.1).2=true->Eg c g i (l++[x])=Eg c g i l) /\
  ((EU ((Eg c g i l).getD (c.getD i 0).toNat (0,[])).2 x.1).2=false->Eg c g i (l++[x])=(Eg c g i l).set (c.getD i 0).toNat (((Eg c g i l).getD (c.getD i 0).toNat (0,[])).1,((Eg c g i l).getD (c.getD i 0).toNat (0,[])).2++[(x.1,c.getD x.2.toNat 0)])):=by
 rw[x8 hi];unfold Eg Iu;rw[ABU];simp only[TO,AD4];refine⟨λh=>?_,λh=>?_⟩
 ·unfold Rr at h ⊢;rw[BY h]
 ·rw[List.set_set];unfold Rr at h ⊢;rw[At (by rw[h];simp)]
def aB (n m:Nat) (g:List AE):Prop:=g.length=n/\∀k,(g.getD k (0,[])).2.length<=m/\∀a∈(g.getD k (0,[])).2,0<=a.2/\a.2<(n:Int)
theorem f7 {c:List Int} {n:Nat} (h:c.length=n) (g:∀x∈c,0<=x/\x<(n:Int)):∀(l:List (Int×Int)) {L:List (Int×Int)} {m:Nat},L.length<=m->(∀a∈L,0<=a.2/\a.2<(n:Int))->(∀a∈l,0<=a.2/\a.2<(n:Int))->(Iu c L l).length<=m+l.length/\∀a∈Iu c L l,0<=a.2/\a.2<(n:Int)
 | [],L,m,h1,b,_=>⟨h1,b⟩
 | x :: l,L,m,h1,b,d=>by
  have i:=d x (by simp);have e:Iu c L (x :: l)=Iu c (Rr c L x) l:=rfl;rw[e];have f:(Rr c L x).length<=m+1/\∀a∈Rr c L x,0<=a.2/\a.2<(n:Int):=by
   unfold Rr;split
   ·exact⟨by omega,b⟩
   ·refine⟨by simp;omega,λa ha=>?_⟩;rcases OF.1 ha with ha|ha
    ·exact b a ha
    ·have:a=(x.1,c.getD x.2.toNat 0):=by simpa using ha
     subst this;exact g _ (AD c 0 (by omega))
  have:=f7 h g l f.1 f.2 λa ha=>d a (by simp[ha]);simp only[OS];exact⟨by omega,this.2⟩
theorem f8 {c:List Int} {n:Nat} (e:c.length=n) (d:∀x∈c,0<=x/\x<(n:Int)) {g:List AE} {m:Nat} (b:aB n m g) {i:Nat} (hi:i<n) {l:List (Int×Int)} (f:∀a∈l,0<=a.2/\a.2<(n:Int)):aB n (m+l.length) (Eg c g i l):=by
 have j:=d _ (AD c 0 (k:=i) (by omega));have h:(c.getD i 0).toNat<g.length:=by rw[b.1];omega
 refine⟨by rw[Yd];exact b.1,λk=>?_⟩;unfold Eg;rw[Ru _ _ _ _ h];split
 ·exact f7 e d l (b.2 _).1 (b.2 _).2 f
 ·exact⟨Qo (b.2 k).1 (by omega),(b.2 k).2⟩
theorem f9 {l:List AE} {c t:List Int} (e:Ad l) (f:∀x∈l,x.2.length<=1000) (b:c.length=l.length) (d:∀x∈c,0<=x/\x<(l.length:Int)):∀ {i:Nat},i<=l.length->aB l.length (i*1000) (DV l c t i)
 | 0,_=>by
  refine⟨by simp[DV],λk=>?_⟩;unfold DV;rw[AS,AA1];cases h:(List.range l.length)[k]? with
  | none=>simp
  | some j=>simp
 | i+1,hi=>by
  have g:=AD l (0,[]) (k:=i) (by omega);have:=f8 b d (f9 (t:=t) e f b d (i:=i) (by omega)) (i:=i) (by omega) (l:=(l.getD i (0,[])).2) (λa ha=>(e.2 _ g).2 a ha);refine⟨this.1,λk=>⟨Qo (this.2 k).1 ?_,(this.2 k).2⟩⟩;have:=f _ g;omega
theorem yA {n m:Nat} {g:List AE} (h:aB n m g) (hn:n<=100000) (b:m<=100000):Ad g:=by
 refine⟨by rw[h.1];exact hn,λx c=>?_⟩;obtain⟨k,hk,rfl⟩:=AAr.1 c;have:=h.2 k;rw[AS,AT hk]at this;refine⟨Qo this.1 b,λa ha=>?_⟩;rw[h.1];exact this.2 a ha
theorem A5Q:Af Tryz.prog 90 tR:=by
 refine fKP [0,1,2,3,8,9,10,11,12,13,14,16,20,36,50,70] [] [(30,53)] Tryz.func90 Tryz.ntmps90 (AF A2f (AF sM AH)) ?_;rintro w0 O0 ⟨l,c,t,r,u⟩ d-⟨z,n,L,v,J,N,A⟩;simp only[tR,AM];repeat'(first|exact trivial|refine eS rfl ?_|refine rX d ?_ ?_)
 refine AG (ι:={i:Nat//i<=List.length l}) (λi=>⟨[(0,.p Dv l),(1,.p Es c),(2,.p Es t),(3,.p T3 r),(8,.bp 8 [] 0),(9,.bp 9 [] 0),(10,.p (.int .i64) (i.1:Int))],[(8,.box 25 true [.raw (.slice none 0 0)]),(9,.box 25 true [.sr 31 GH 0 i.1]),(31,.nest 49 53 T3 BE (WW t i.1) none)]⟩) (λi=>List.length l-i.1) ⟨0,by omega⟩ (AC [(8,.nm 8),(9,.nm 9),(31,.nil)] rfl rfl ?_ ?_) (λi=>?_)
 ·refine eM ?_;rfl
 ·exact eN
 ·obtain⟨i,hi⟩:=i;repeat'(first|exact trivial|refine eS rfl ?_|refine AB ?_|refine rX d ?_ ?_|refine rC ?_ ?_<;>intro b<;>try(cases b;done))
  ·refine⟨by rw[L];exact b,(Rs t i).symm,?_⟩;rw[Rs];simp only[AO];dsimp only[Ty.den]at *;omega
  ·exact eV
  ·have e:i<List.length l:=by exact eV
   refine⟨⟨i+1,by omega⟩,by simp only;omega,AC [(8,.nm 8),(9,.nm 9),(31,.nm 31)] rfl rfl ?_ ?_⟩
   ·simp only;rw[lY];refine eM ?_;rw[Rs]
   ·exact eN
  ·have e:i=List.length l:=by exact eV
   subst e;rw[lZ l c t];refine AG (ι:={i:Nat//i<=List.length l}) (λi=>⟨[(0,.p Dv l),(1,.p Es c),(3,.p T3 r),(8,.bp 8 [] 0),(9,.bp 9 [] 0),(11,.p (.int .i64) (i.1:Int))],[(8,.box 25 true [.raw (.slice none 0 0)]),(9,.box 25 true [.sr 31 GH 0 (List.length l)]),(31,.nest 49 53 T3 BE (DV l c t i.1) none)]⟩) (λi=>List.length l-i.1) ⟨0,by omega⟩ (eW [(8,.nm 8),(9,.nm 9),(31,.nm 31)]) (λi=>?_)
   ·obtain⟨i,hi⟩:=i;have s:=f9 (t:=t) z A n v hi;simp only;repeat'(first|exact trivial|refine eS rfl ?_|refine rX d ?_ ?_|refine rC ?_ ?_<;>intro b<;>try(cases b;done))
    ·rw[n];exact b
    ·have e:i<List.length l:=by exact eV
     have y:=v _ (AD (c:List Int) 0 (k:=i) (by omega));have C:=AD (l:List AE) (0,[]) e;have H:=A _ C;have q:=(z.2 _ C).2;have K:DV l c t (i+1)=Eg c (DV l c t i) i (List.getD l i (0,[])).2:=rfl;have B:(List.getD c i 0).toNat<(DV l c t i).length:=by rw[s.1];exact eV
     generalize DV l c t i=g at *;have m:=λk=>f8 n v s e (l:=(List.getD l i (0,[])).2.take k) (λa ha=>q a (AAT ha));refine AG (ι:={k:Nat//k<=(List.getD l i (0,[])).2.length}) (λk=>⟨[(0,.p Dv l),(1,.p Es c),(3,.p T3 r),(8,.bp 8 [] 0),(9,.bp 9 [] 0),(11,.p (.int .i64) (i:Int)),(12,.p T3 (List.getD c i 0)),(13,.p (.int .i64) (k.1:Int))],[(8,.box 25 true [.raw (.slice none 0 0)]),(9,.box 25 true [.sr 31 GH 0 (List.length l)]),(31,.nest 49 53 T3 BE (Eg c g i ((List.getD l i (0,[])).2.take k.1)) none)]⟩) (λk=>(List.getD l i (0,[])).2.length-k.1) ⟨0,by omega⟩ (AC [(8,.nm 8),(9,.nm 9),(31,.nm 31)] rfl rfl ?_ ?_) (λk=>?_)
     ·refine eM ?_;exact(x9 B).symm
     ·exact eN
     ·obtain⟨k,hk⟩:=k;have m:=m k;have f:=λ(x:Int×Int)=>l5 (l:=(List.getD l i (0,[])).2.take k) (x:=x) B;have D:=λ(h:k<(List.getD l i (0,[])).2.length)=>AW (List.getD l i (0,[])).2 (0,0) h;simp only;generalize w:Eg c g i ((List.getD l i (0,[])).2.take k)=G at *;have j:List.take (List.length l) G=G:=An (by rw[m.1];exact NO _);have F:=m.1;repeat'(first|exact trivial|refine eS rfl ?_|refine AB ?_|refine rX d ?_ ?_|refine rC ?_ ?_<;>intro b<;>try(cases b;done))
      ·exact b
      ·exact⟨by assumption,b⟩
      ·rw[j,F];exact y
      ·rw[j]at b;refine B4 drawsAny d 19 [([3,4,5,6,7,8,9,10,11,12,13,14,15,16,17],18)] [0,1,2] (by kernel_rfl) (Lf ?_ ?_)
       ·refine⟨y,?_⟩;rw[n];exact q _ (AD (List.getD l i (0,[])).2 (0,0) (by exact eV))
       ·refine mxN d 31 ?_ ?_
        ·have:=(m.2 (Int.toNat (List.getD c i 0))).1;have M:((List.getD l i (0,[])).2.take k).length<=1000:=Qo (AAL _ _) (Qo hk H);simp only[AO];dsimp only[Ty.den]at *;omega
        ·refine Pm d ?_ ?_ ?_
         ·trivial
         ·exact y
         ·repeat'(first|refine eS rfl ?_|refine AB ?_|refine rX d ?_ ?_)
          ·exact eV
          ·have o:k<(List.getD l i (0,[])).2.length:=by exact eV
           have f:=(f (List.getD (List.getD l i (0,[])).2 k (0,0))).2 b;refine⟨⟨k+1,by omega⟩,by simp only;omega,AC [(8,.nm 8),(9,.nm 9),(31,.nm 31)] rfl rfl ?_ ?_⟩
           ·simp only;rw[D o,f];exact eN
           ·exact eN
      ·exact eV
      ·rw[j]at b;have o:k<(List.getD l i (0,[])).2.length:=by exact eV
       have f:=(f (List.getD (List.getD l i (0,[])).2 k (0,0))).1 b;refine⟨⟨k+1,by omega⟩,by simp only;omega,AC [(8,.nm 8),(9,.nm 9),(31,.nm 31)] rfl rfl ?_ ?_⟩
       ·simp only;rw[D o,f];exact eN
       ·exact eN
      ·exact eV
      ·have o:(List.getD l i (0,[])).2.take k=(List.getD l i (0,[])).2:=An (by exact eV);rw[o]at w;rw[<-K]at w;refine⟨⟨i+1,by omega⟩,by simp only;omega,AC [(8,.nm 8),(9,.nm 9),(31,.nm 31)] rfl rfl ?_ ?_⟩
       ·simp only;rw[w];exact eN
       ·exact eN
    ·have e:i=List.length l:=by exact eV
     subst e;have I:Yc l c t r=Fl (DV l c t (List.length l)) (c.getD r.toNat 0):=rfl;have E:=yA s (by omega) (by omega);have q:=s.1;have j:List.take (List.length l) (DV l c t (List.length l))=DV l c t (List.length l):=An (by rw[q];exact NO _);generalize DV l c t (List.length l)=g at *;refine Gc [31] ?_;repeat'(first|refine eS rfl ?_|refine rX d ?_ ?_)
     ·rw[j,q,n];exact⟨J,E,v _ (AD (c:List Int) 0 (by exact eV))⟩
     ·rw[j,<-I];exact fI d [.cell 8 25]
end
inductive EQ (n:Nat) (o:List Int) (W:List (Int×Int)):Int->Int->Prop
 | cls {x y:Int} (x0:0<=x) (x1:x<(n:Int)) (y0:0<=y) (y1:y<(n:Int)) (h:o.getD x.toNat 0=o.getD y.toNat 0):EQ n o W x y
 | wt {x y:Int} (h:(x,y)∈W):EQ n o W x y
 | symm {x y:Int} (h:EQ n o W x y):EQ n o W y x
 | trans {x y z:Int} (h:EQ n o W x y) (g:EQ n o W y z):EQ n o W x z
theorem EQ.mono {n:Nat} {o b:List Int} {W a:List (Int×Int)} (h1:∀x y,0<=x->x<(n:Int)->0<=y->y<(n:Int)->o.getD x.toNat 0=o.getD y.toNat 0->EQ n b a x y) (c:∀x y,(x,y)∈W->EQ n b a x y) {x y:Int} (h:EQ n o W x y):EQ n b a x y:=by
 induction h with
 | cls g i j k h=>exact h1 _ _ g i j k h
 | wt h=>exact c _ _ h
 | symm _ d=>exact .symm d
 | trans _ _ e f=>exact .trans e f
theorem EQ.nil {n:Nat} {o:List Int} {x y:Int} (h:EQ n o [] x y):o.getD x.toNat 0=o.getD y.toNat 0:=by
 induction h with
 | cls _ _ _ _ h=>exact h
 | wt h=>cases h
 | symm _ a=>exact a.symm
 | trans _ _ b c=>exact b.trans c
structure JC (h:AJ) (N:List AE) (P:List (Int×Int)) (o:List Int) (ar:List (List (Int×Int))) (W:List (Int×Int)):Prop where
 ci:CI N.length o ar W
 nd:∀k,((ar.getD k []).map (·.1)).Nodup
 sp:∀q∈P,EQ N.length o W q.1 q.2
 sa:∀x,0<=x->x<(N.length:Int)->∀a∈Ag N x,∃t,(a.1,t)∈ar.getD (o.getD x.toNat 0).toNat []/\EQ N.length o W a.2 t
 co:∀X v,tF h N P X v->(∀x,0<=x->x<(N.length:Int)->v x=v (o.getD x.toNat 0))/\(∀w∈W,v w.1=v w.2)/\(∀r,0<=r->r<(N.length:Int)->o.getD r.toNat 0=r->∀a∈ar.getD r.toNat [],Oi (Ag X (v r)) a.1=v a.2)
section
variable {h:AJ} {N:List AE} {P:List (Int×Int)} {o:List Int} {ar:List (List (Int×Int))} {W:List (Int×Int)} {w:Int×Int}
theorem aC (o:List Int) (x y:Int):(ET o x y=o.getD x.toNat 0/\CY o x y=o.getD y.toNat 0)\/(ET o x y=o.getD y.toNat 0/\CY o x y=o.getD x.toNat 0):=by
 unfold ET CY;by_cases a:o.getD y.toNat 0<o.getD x.toNat 0
 ·rw[BY a,At (by omega)];exact .inr ⟨rfl,rfl⟩
 ·rw[At a];by_cases b:o.getD x.toNat 0<o.getD y.toNat 0
  ·rw[BY b];exact .inl ⟨rfl,rfl⟩
  ·rw[At b];exact .inl ⟨rfl,by omega⟩
theorem A5R (c:JC h N P o ar (w :: W)) (j:ET o w.1 w.2=CY o w.1 w.2):JC h N P o ar W:=by
 have d:=c.ci.wr w (by simp);have m:o.getD w.1.toNat 0=o.getD w.2.toNat 0:=by
  rcases aC o w.1 w.2 with ⟨h1,b⟩|⟨h1,b⟩
  ·rw[<-h1,<-b,j]
  ·rw[<-h1,<-b,j]
 have k:∀ {x y},EQ N.length o (w :: W) x y->EQ N.length o W x y:=λ{x y} g=>g.mono (λx y f i s z e=>.cls f i s z e) λx y r=>by
  rcases By.1 r with e|e
  ·subst e;exact .cls d.1.1 d.1.2 d.2.1 d.2.2 m
  ·exact .wt e
 refine⟨tQ c.ci,c.nd,λq n=>k (c.sp q n),λx f i a ha=>?_,λX v p=>?_⟩
 ·obtain⟨t,h1,b⟩:=c.sa x f i a ha;exact⟨t,h1,k b⟩
 ·obtain⟨h1,b,l⟩:=c.co X v p;exact⟨h1,λu hu=>b u (If _ hu),l⟩
theorem A5S {l g:List (Int×Int)} (f:(l.map (·.1)).Nodup) (d:(g.map (·.1)).Nodup):((Fs l g).map (·.1)).Nodup:=by
 unfold Fs;rw[AAs,ABd];refine⟨f,(d.sublist ((ACV).map _)),λx h y i e=>?_⟩;obtain⟨a,ha,rfl⟩:=Do.1 h;obtain⟨b,c,rfl⟩:=Do.1 i;have c:=(AAC.1 c).2;rw[fV a ha e]at c;cases c
theorem A2l (d:JC h N P o ar (w :: W)) (V:ET o w.1 w.2≠CY o w.1 w.2) :
  JC h N P (CL o w.1 w.2) (ar.set (ET o w.1 w.2).toNat (Fs (ar.getD (ET o w.1 w.2).toNat []) (ar.getD (CY o w.1 w.2).toNat []))) (W++Eb (ar.getD (ET o w.1 w.2).toNat []) (ar.getD (CY o w.1 w.2).toNat [])):=by
 have b:=d.ci.wr w (by simp);have L:=A2d d.ci b.1.1 b.1.2 b.2.1 b.2.2 V;have T:=fY (tQ d.ci) L;have U:=λ(k:Nat) (hk:k<N.length)=>NR (m:=w.1) (n:=w.2) (show k<o.length by rw[d.ci.lo];exact hk);have M:=aC o w.1 w.2;have ag:=d.ci.la;have Z:=λx=>d.ci.rng (x:=x);generalize CL o w.1 w.2=C at *;generalize ET o w.1 w.2=lo at *;generalize CY o w.1 w.2=hi at *;obtain⟨l0,lt,h1,rl,rh⟩:=L;have l:∀x,0<=x->x<(N.length:Int)->C.getD x.toNat 0=Hk hi lo (o.getD x.toNat 0):=λx f i=>U _ (by omega);have ad:C.getD w.1.toNat 0=C.getD w.2.toNat 0:=by
  rw[l _ b.1.1 b.1.2,l _ b.2.1 b.2.2];rcases M with ⟨j,c⟩|⟨j,c⟩
  ·rw[<-j,<-c,Ir,HT (by omega)]
  ·rw[<-j,<-c,Ir,HT (by omega)]
 generalize F:W++Eb (ar.getD lo.toNat []) (ar.getD hi.toNat [])=K at *;have O:∀ {x y},EQ N.length o (w :: W) x y->EQ N.length C K x y:=λ{x y} g=>g.mono (λx y f i Q R e=>.cls f i Q R (by rw[l x f i,l y Q R,e])) λx y af=>by
  rcases By.1 af with e|e
  ·subst e;exact .cls b.1.1 b.1.2 b.2.1 b.2.2 ad
  ·exact .wt (by rw[<-F];exact AAM _ e)
 have S:∀x∈ar.getD hi.toNat [],(EU (ar.getD lo.toNat []) x.1).2=true->((EU (ar.getD lo.toNat []) x.1).1,x.2)∈K:=λx ae p=>by
  rw[<-F];exact ABB _ (AC2.2 ⟨x,ae,by rw[BY p]⟩)
 refine⟨T,λk=>?_,λq Y=>O (d.sp q Y),λx f i a ha=>?_,λX v ab=>?_⟩
 ·rw[Iq _ _ _ _ (by omega)];split
  ·exact A5S (d.nd _) (d.nd _)
  ·exact d.nd k
 ·obtain⟨t,A,s⟩:=d.sa x f i a ha;have s:=O s;rw[l x f i];obtain⟨I,J,ah⟩:=Z x f i;by_cases e:o.getD x.toNat 0=hi
  ·rw[e,Ir];rw[e]at A;rw[Iq _ _ _ _ (by omega),BY rfl];cases p:(EU (ar.getD lo.toNat []) a.1).2 with
   | true=>exact⟨_,AAM _ (Tn p),s.trans (.symm (.wt (S (a.1,t) A p)))⟩
   | false=>exact⟨t,ABB _ (AAC.2 ⟨A,by show (!(EU (ar.getD lo.toNat []) a.1).2)=true;rw[p];rfl⟩),s⟩
  ·rw[HT e,Iq _ _ _ _ (by omega)];split
   ·rename_i c;refine⟨t,AAM _ ?_,s⟩;rw[<-c];exact A
   ·exact⟨t,A,s⟩
 ·obtain⟨c1,c2,z⟩:=d.co X v ab;have H:v lo=v hi:=by
   have e:=c2 w (by simp);have j:=c1 w.1 b.1.1 b.1.2;have c:=c1 w.2 b.2.1 b.2.2;rcases M with ⟨D,E⟩|⟨D,E⟩
   ·rw[D,E,<-j,<-c,e]
   ·rw[D,E,<-j,<-c,e]
  refine⟨λx f i=>?_,λu hu=>?_,λr I J B a ha=>?_⟩
  ·rw[l x f i,c1 x f i];by_cases e:o.getD x.toNat 0=hi
   ·rw[e,Ir,H]
   ·rw[HT e]
  ·rw[<-F]at hu;rcases OF.1 hu with hu|hu
   ·exact c2 u (If _ hu)
   ·obtain⟨a,ha,G⟩:=AC2.1 hu;split at G
    ·rename_i p;cases G;have j:=z lo l0 (by omega) rl _ (Tn p);have c:=z hi (by omega) h1 rh a ha;rw[<-H,j]at c;exact c
    ·cases G
  ·rw[Iq _ _ _ _ (by omega)]at ha;rw[l r I J]at B;have aa:o.getD r.toNat 0=r:=by
    by_cases e:o.getD r.toNat 0=hi
    ·rw[e,Ir]at B;rw[<-B];exact rl
    ·rw[HT e]at B;exact B
   split at ha
   ·rename_i c;have c:r=lo:=by omega
    rcases OF.1 ha with ha|ha
    ·rw[c];exact z lo l0 (by omega) rl a ha
    ·rw[c,H];exact z hi (by omega) h1 rh a (AAC.1 ha).1
   ·exact z r I J aa a ha
end
theorem WX {h:AJ} {N:List AE} {P:List (Int×Int)}:∀(k:Nat) {o:List Int} {ar:List (List (Int×Int))} {W:List (Int×Int)},JC h N P o ar W->Oq o ar+W.length<=k->∃d,JC h N P (Jr k o ar W) d []
 | 0,o,ar,W,a,hk=>by
  have:W=[]:=oN (by omega);subst this;exact⟨ar,a⟩
 | k+1,o,ar,[],a,hk=>⟨ar,a⟩
 | k+1,o,ar,w :: W,a,hk=>by
  simp only[Jr];simp only[OS]at hk;split
  ·rename_i f;exact WX k (A5R a f) (by omega)
  ·rename_i c;have b:=a.ci.wr w (by simp);have e:=A2d a.ci b.1.1 b.1.2 b.2.1 b.2.2 c;have g:=WU a.ci e;exact WX k (A2l a c) (by rw[GO];omega)
theorem A2m {c:List Int} {n:Nat} {w:Int×Int} (a:w∈E1 c n):∃k:Nat,k<n/\c.getD k 0≠(k:Int)/\w=((k:Int),c.getD k 0):=by
 unfold E1 at a;obtain⟨k,hk,rfl⟩:=Do.1 a;obtain⟨h1,b⟩:=AAC.1 hk;exact⟨k,oR.1 h1,by simpa using b,rfl⟩
theorem A2n {c:List Int} {n k:Nat} (hk:k<n) (h:c.getD k 0≠(k:Int)):((k:Int),c.getD k 0)∈E1 c n:=by
 unfold E1;exact Do.2 ⟨k,AAC.2 ⟨oR.2 hk,by simpa using h⟩,rfl⟩
theorem Sn {n:Nat} {x y:Int} (c:0<=x) (d:x<(n:Int)) (e:0<=y) (f:y<(n:Int)):((ET (A1 n) x y=x/\CY (A1 n) x y=y)\/(ET (A1 n) x y=y/\CY (A1 n) x y=x))/\∀k:Nat,k<n->(CL (A1 n) x y).getD k 0=Hk (CY (A1 n) x y) (ET (A1 n) x y) (k:Int):=by
 have a:(A1 n).getD x.toNat 0=x:=by rw[FX (by omega)];omega
 have b:(A1 n).getD y.toNat 0=y:=by rw[FX (by omega)];omega
 refine⟨?_,λk hk=>?_⟩
 ·have:=aC (A1 n) x y;rw[a,b]at this;exact this
 ·rw[NR (by rw[C0];exact hk),FX hk]
theorem A2o {h:AJ} {N:List AE} (o:Ad N) (hs:∀k,((N.getD k (0,[])).2.map (·.1)).Nodup) {x y:Int} (l:0<=x) (m:x<(N.length:Int)) (E:0<=y) (F:y<(N.length:Int)):JC h N [(x,y)] (A1 N.length) (GS N) (E1 (CL (A1 N.length) x y) N.length):=by
 obtain⟨f,j⟩:=Sn l m E F;have p:=KV (A1 N.length) x y;rw[C0]at p;generalize CL (A1 N.length) x y=c at *;generalize ET (A1 N.length) x y=lo at *;generalize CY (A1 N.length) x y=hi at *;have u:∀z∈c,0<=z/\z<(N.length:Int):=λz B=>by
  obtain⟨k,hk,rfl⟩:=AAr.1 B;have:=j k (by omega);rw[AS,AT hk]at this;simp only[ABx]at this;rw[this];unfold Hk;split
  ·rcases f with ⟨e,_⟩|⟨e,_⟩<;>rw[e]<;>omega
  ·omega
 have t:lo≠hi->(hi,lo)∈E1 c N.length:=λg=>by
  have h0:0<=hi/\hi<(N.length:Int):=by rcases f with ⟨_,e⟩|⟨_,e⟩<;>rw[e]<;>omega
  have b:((hi.toNat:Nat):Int)=hi:=by omega
  have d:=j hi.toNat (by omega);rw[b,Ir]at d;have:=A2n (c:=c) (n:=N.length) (k:=hi.toNat) (by omega) (by rw[d,b];exact g);rw[b,d]at this;exact this
 refine⟨f4 o u p,λk=>?_,λq i=>?_,λz G H a ha=>?_,λX v s=>?_⟩
 ·rw[KW];exact hs k
 ·have:q=(x,y):=by simpa using i
  subst this;simp only;by_cases e:lo=hi
  ·have:x=y:=by rcases f with ⟨b,d⟩|⟨b,d⟩<;>omega
   subst this;exact .cls l m l m rfl
  ·rcases f with ⟨b,d⟩|⟨b,d⟩
   ·rw[<-b,<-d];exact .symm (.wt (t e))
   ·rw[<-b,<-d];exact .wt (t e)
 ·refine⟨a.2,?_,?_⟩
  ·rw[FX (by omega),KW,gO];exact ha
  ·have:=(o.2 _ (AD N (0,[]) (k:=z.toNat) (by omega))).2 a ha;exact .cls this.1 this.2 this.1 this.2 rfl
 ·refine⟨λz G H=>?_,λw A=>?_,λr C D _ a ha=>?_⟩
  ·rw[FX (by omega)]
   congr 1
   omega
  ·obtain⟨k,hk,g,rfl⟩:=A2m A;simp only;rw[j k hk]at g ⊢;by_cases e:(k:Int)=hi
   ·rw[e,Ir];have i:=s.eq (x,y) (by simp);simp only at i;rcases f with ⟨b,d⟩|⟨b,d⟩
    ·rw[b,d];exact i.symm
    ·rw[b,d];exact i
   ·rw[HT e]at g;exact absurd rfl g
  ·rw[KW]at ha;exact s.arc r C D a ha
theorem A7o {N:List AE} (hs:∀x∈N,Sk x.2) (k:Nat):((N.getD k (0,[])).2.map (·.1)).Nodup:=by
 have:Sk (N.getD k (0,[])).2:=by
  by_cases hk:k<N.length
  ·exact hs _ (AD N (0,[]) hk)
  ·rw[AS,iF (by omega)];exact List.Pairwise.nil
 rw[List.Nodup,ABc];exact this.imp λh e=>by omega
theorem yB {h:AJ} {N:List AE} (a:Ad N) (hs:∀k,((N.getD k (0,[])).2.map (·.1)).Nodup) {x y:Int} (b:0<=x) (c:x<(N.length:Int)) (d:0<=y) (e:y<(N.length:Int)):∃ar,JC h N [(x,y)] (Ro N (CL (A1 N.length) x y)) ar [] :=
 WX _ (A2o a hs b c d e) (NO _)
def Rv (h:AJ):Prop:=∀t∈h.1,Nrm t.2.1
theorem WY {b:List Int}:∀ {l:List HA} {k:Nat},(FN b l k).2=true->∃j:Nat,j<l.length/\(FN b l k).1=((k+j:Nat):Int)/\(l.getD j RY).2.1=b
 | [],k,h=>by cases h
 | t :: r,k,h=>by
  unfold FN at h ⊢;by_cases e:t.2.1=b
  ·rw[BY e];exact⟨0,by simp,by simp,by simpa using e⟩
  ·rw[At e]at h ⊢;obtain⟨j,h1,a,c⟩:=WY h;exact⟨j+1,by simp only[OS];omega,by rw[a];congr 1;omega,by simpa using c⟩
theorem gB {b:List Int}:∀ {l:List HA} {k:Nat},(∃t∈l,t.2.1=b)->(FN b l k).2=true
 | [],k,⟨t,c,_⟩=>by cases c
 | t :: r,k,⟨u,hu,e⟩=>by
  unfold FN;by_cases a:t.2.1=b
  ·rw[BY a]
  ·rw[At a];rcases By.1 hu with rfl|hu
   ·exact absurd e a
   ·exact gB ⟨u,hu,e⟩
theorem yC {h:AJ} (hk:HO h) (hn:Rv h) {a b:Int} (a0:0<=a) (g:a<(h.1.length:Int)) (k:0<=b) (b1:b<(h.1.length:Int)) :
  ((Bq h a b).2=true->0<=(Bq h a b).1/\(Bq h a b).1<(h.1.length:Int)/\∀i,dY h (Bq h a b).1 i=(dY h a i&&dY h b i))/\((∃i,dY h a i=true/\dY h b i=true)->(Bq h a b).2=true):=by
 have d:=hk.1.wds _ (B7 a0 g);have f:=hk.1.wds _ (B7 k b1);refine⟨λo=>?_,λhi=>?_⟩
 ·obtain⟨j,h1,c,n⟩:=WY o;have c:(Bq h a b).1=((0+j:Nat):Int):=c;refine⟨by omega,by omega,λi=>?_⟩;have e:BN h (Bq h a b).1=EM (BN h a) (BN h b):=by
   rw[<-n];unfold BN;rw[c];simp
  unfold dY;rw[e,LL d f]
 ·obtain⟨t,l,e⟩:=hk.1.meet _ (B7 a0 g) _ (B7 k b1) hi;obtain⟨x,m,rfl⟩:=Do.1 l;exact gB ⟨x,m,Zq (hk.1.wds _ l) (NG d f) (hn x m) (LM _) λi=>by rw[e i,LL d f]⟩
theorem Ft {h:AJ} (hk:HO h) (hn:Rv h) {a b:Int} (a0:0<=a) (l:a<(h.1.length:Int)) (m:0<=b) (b1:b<(h.1.length:Int)) :
  ((Bq h a b).2=true->0<=(Bq h a b).1/\(Bq h a b).1<(h.1.length:Int)/\A7 h a (Bq h a b).1=true/\A7 h b (Bq h a b).1=true) /\
  ∀x,0<=x->x<(h.1.length:Int)->A7 h a x=true->A7 h b x=true->(Bq h a b).2=true/\A7 h (Bq h a b).1 x=true:=by
 obtain⟨q,t⟩:=yC hk hn a0 l m b1;refine⟨λe=>?_,λx g k r s=>?_⟩
 ·obtain⟨c,d,f⟩:=q e;refine⟨c,d,(BP hk a0 l c d).2 λi hi=>?_,(BP hk m b1 c d).2 λi hi=>?_⟩
  ·rw[f i,As]at hi;exact hi.1
  ·rw[f i,As]at hi;exact hi.2
 ·have n:=(BP hk a0 l g k).1 r;have o:=(BP hk m b1 g k).1 s;obtain⟨i,hi⟩:=hk.1.some _ (B7 g k);have e:=t ⟨i,n i hi,o i hi⟩;obtain⟨c,d,f⟩:=q e;refine⟨e,(BP hk c d g k).2 λj p=>?_⟩;rw[f j,As];exact⟨n j p,o j p⟩
section
variable {h:AJ} {N:List AE} {c:List Int}
theorem WZ (a:Ip h N) {x:Nat} (b:x<N.length):0<=(N.getD x (0,[])).1/\(N.getD x (0,[])).1<(h.1.length:Int):=a _ (AD N (0,[]) b)
theorem tS (hk:HO h) (hn:Rv h) (h0:0<h.1.length) (f:Ip h N) (a:Rp N.length c):∀ {i:Nat} {p:List Int},i<=N.length->I0 h N c i=some p->∀x,x<i->A7 h (N.getD x (0,[])).1 (p.getD (c.getD x 0).toNat 0)=true
 | 0,p,_,_,x,m=>by omega
 | i+1,p,hi,hp,x,m=>by
  simp only[I0]at hp;cases b:I0 h N c i with
  | none=>rw[b]at hp;cases hp
  | some q =>
   rw[b]at hp;simp only at hp;split at hp
   ·rename_i l;cases hp;obtain⟨u,t⟩:=Qg h0 a (by omega) b;obtain⟨v,w,y⟩:=a.2 i (by omega);have d:=t (c.getD i 0).toNat (by omega);have ti:=WZ f (x:=i) (by omega);obtain⟨n,o,r,s⟩:=(Ft hk hn d.1 d.2 ti.1 ti.2).1 l;obtain⟨s1,s2,z⟩:=a.2 x (by omega);rw[Rq _ _ _ _ (by omega)];by_cases e:x=i
    ·subst e;rw[BY rfl];exact s
    ·have g:=tS hk hn h0 f a (by omega) b x (by omega);split
     ·rename_i k;rw[k]at g;have j:=WZ f (x:=x) (by omega);exact LP hk j.1 j.2 d.1 d.2 n o g r
     ·exact g
   ·cases hp
theorem Ot (hk:HO h) (hn:Rv h) (h0:0<h.1.length) (j:XE h) (g:Ip h N) (a:Rp N.length c) {u:Nat->Int} (hu:∀k,k<N.length->0<=u k/\u k<(h.1.length:Int)) (b:∀x,x<N.length->A7 h (N.getD x (0,[])).1 (u (c.getD x 0).toNat)=true) :
  ∀ {i:Nat},i<=N.length->∃p,I0 h N c i=some p/\∀k,k<N.length->A7 h (p.getD k 0) (u k)=true
 | 0,_=>by
  refine⟨_,rfl,λk hk=>?_⟩;rw[AS,ABp,BY hk];exact j _ (hu k hk).1 (hu k hk).2
 | i+1,hi=>by
  obtain⟨q,d,f⟩:=Ot hk hn h0 j g a hu b (i:=i) (by omega);obtain⟨s,r⟩:=Qg h0 a (by omega) d;obtain⟨t,v,w⟩:=a.2 i (by omega);have m:=r (c.getD i 0).toNat (by omega);have ti:=WZ g (x:=i) (by omega);have l:=hu (c.getD i 0).toNat (by omega);obtain⟨n,o⟩:=(Ft hk hn m.1 m.2 ti.1 ti.2).2 _ l.1 l.2 (f _ (by omega)) (b i (by omega));refine⟨q.set (c.getD i 0).toNat (Bq h (q.getD (c.getD i 0).toNat 0) (N.getD i (0,[])).1).1,by simp only[I0,d];rw[BY n],λk hk=>?_⟩;rw[Rq _ _ _ _ (by omega)];split
  ·rename_i e;rw[e];exact o
  ·exact f k hk
end
theorem Ye (c:List Int):∀(l L:List (Int×Int)),(L.map (·.1)).Nodup->((Iu c L l).map (·.1)).Nodup/\(∀a∈L,a∈Iu c L l)/\(∀a∈Iu c L l,a∈L\/∃b∈l,a=(b.1,c.getD b.2.toNat 0))/\(∀b∈l,∃t,(b.1,t)∈Iu c L l)
 | [],L,f=>⟨f,λ_ h=>h,λ_ h=>.inl h,λ_ h=>by cases h⟩
 | x :: l,L,f=>by
  have e:Iu c L (x :: l)=Iu c (Rr c L x) l:=rfl;rw[e];have h1:((Rr c L x).map (·.1)).Nodup/\(∀a∈L,a∈Rr c L x)/\(∀a∈Rr c L x,a∈L\/a=(x.1,c.getD x.2.toNat 0))/\∃t,(x.1,t)∈Rr c L x:=by
   unfold Rr;split
   ·rename_i g;exact⟨f,λ_ h=>h,λ_ h=>.inl h,_,Tn g⟩
   ·rename_i g;refine⟨?_,λ_ h=>AAM _ h,λa h=>?_,c.getD x.2.toNat 0,ABB _ (by simp)⟩
    ·rw[AAs,ABd];refine⟨f,by simp,λy k z i e=>?_⟩;obtain⟨a,ha,rfl⟩:=Do.1 k;have i:z=x.1:=by simpa using i
     exact g (fV a ha (e.trans i))
    ·rcases OF.1 h with h|h
     ·exact .inl h
     ·exact .inr (by simpa using h)
  obtain⟨n1,s1,m,p,j⟩:=h1;obtain⟨o,s2,n,c2⟩:=Ye c l _ n1;refine⟨o,λa ha=>s2 a (s1 a ha),λa ha=>?_,λb d=>?_⟩
  ·rcases n a ha with h|⟨b,d,h⟩
   ·rcases m a h with h|h
    ·exact .inl h
    ·exact .inr ⟨x,by simp,h⟩
   ·exact .inr ⟨b,by simp[d],h⟩
  ·rcases By.1 d with rfl|d
   ·exact⟨p,s2 _ j⟩
   ·exact c2 b d
structure A6t (N:List AE) (c t:List Int) (i:Nat) (g:List AE):Prop where
 len:g.length=N.length
 ty:∀k,k<N.length->(g.getD k (0,[])).1=t.getD k 0
 nd:∀k,((g.getD k (0,[])).2.map (·.1)).Nodup
 inn:∀k,∀a∈(g.getD k (0,[])).2,∃x,x<i/\(c.getD x 0).toNat=k/\∃b∈(N.getD x (0,[])).2,b.1=a.1/\a.2=c.getD b.2.toNat 0
 cov:∀x,x<i->∀b∈(N.getD x (0,[])).2,∃u,(b.1,u)∈(g.getD (c.getD x 0).toNat (0,[])).2
theorem Yf {N:List AE} {c t:List Int} (m:Rp N.length c):∀ {i:Nat},i<=N.length->A6t N c t i (DV N c t i)
 | 0,_=>by
  have f:∀k,(DV N c t 0).getD k (0,[])=if k<N.length then (t.getD k 0,[]) else (0,[]):=λk=>by
   unfold DV;rw[AS,AA1];by_cases hk:k<N.length
   ·rw[AB1 hk,BY hk];rfl
   ·rw[iF (by simp;omega),At hk];rfl
  refine⟨by simp[DV],λk hk=>by rw[f,BY hk],λk=>?_,λk a ha=>?_,λx o=>by omega⟩
  ·rw[f];split<;>simp
  ·rw[f]at ha;split at ha<;>cases ha
 | i+1,hi=>by
  have d:=Yf (t:=t) m (i:=i) (by omega);obtain⟨v,w,y⟩:=m.2 i (by omega);have n:(c.getD i 0).toNat<(DV N c t i).length:=by rw[d.len];omega
  have e:DV N c t (i+1)=Eg c (DV N c t i) i (N.getD i (0,[])).2:=rfl;rw[e];generalize DV N c t i=g at *;obtain⟨p,q,r,s⟩:=Ye c (N.getD i (0,[])).2 (g.getD (c.getD i 0).toNat (0,[])).2 (d.nd _);have f:∀k,(Eg c g i (N.getD i (0,[])).2).getD k (0,[])=if k=(c.getD i 0).toNat then ((g.getD k (0,[])).1,Iu c (g.getD k (0,[])).2 (N.getD i (0,[])).2) else g.getD k (0,[]):=λk=>by
   unfold Eg;rw[Ru _ _ _ _ n];by_cases e:k=(c.getD i 0).toNat
   ·rw[BY e,BY e,e]
   ·rw[At e,At e]
  refine⟨by rw[Yd];exact d.len,λk hk=>?_,λk=>?_,λk a ha=>?_,λx o b j=>?_⟩
  ·rw[f];split
   ·exact d.ty k hk
   ·exact d.ty k hk
  ·rw[f];split
   ·rename_i e;rw[e];exact p
   ·exact d.nd k
  ·rw[f]at ha;split at ha
   ·rename_i e;subst e;rcases r a ha with h|⟨b,j,h⟩
    ·obtain⟨x,h1,l⟩:=d.inn _ a h;exact⟨x,by omega,l⟩
    ·exact⟨i,by omega,rfl,b,j,by rw[h],by rw[h]⟩
   ·obtain⟨x,h1,l⟩:=d.inn _ a ha;exact⟨x,by omega,l⟩
  ·rw[f];by_cases ex:x=i
   ·subst ex;rw[BY rfl];exact s b j
   ·obtain⟨u,hu⟩:=d.cov x (by omega) b j;split
    ·rename_i e;rw[e]at hu ⊢;exact⟨u,q _ hu⟩
    ·exact⟨u,hu⟩
section
variable {d:List AI}
theorem KX (d:List AI):((Bn d).1.map λt=>t.2.1)=(AL d).map λx=>x.2:=by
 show ((Ed _ _ _).map λt=>t.2.1)=_;unfold Ed;rw[ABm];apply AAU
 ·simp
 ·intro i h1 a;simp[AS,show i<(AL d).length by simpa using h1]
theorem aD (d:List AI):(Bn d).1.length=(AL d).length:=KL _ _ _
theorem A2p (d:List AI) {k:Nat} (hk:k<(AL d).length):(Bn d).1.getD k RY=(((AL d).getD k c0).1,((AL d).getD k c0).2,X0 (AL d) (k:Int),(BC d).1.getD k []):=by
 unfold Bn Ed;simp[AS,hk]
theorem NS (d:List AI) {t:Int} (a:0<=t) (b:t<((AL d).length:Int)):BN (Bn d) t=((AL d).getD t.toNat c0).2:=by
 unfold BN;rw[A2p d (by omega)]
theorem gC (a:Aw d=0):(BC d).2=0/\(BC d).1=KK d (AL d) (BL d) (AL d).length:=by
 unfold BC;rw[At (by rw[a];simp)];exact⟨rfl,rfl⟩
theorem Tp (a:Aw d=0):(Az d).1=Bn d:=by
 unfold Az;rw[At (by rw[(gC a).1];simp)]
theorem A6u (b:Aw d=0):HO (Bn d)/\Nd ((Bn d).1.map λt=>t.2.1):=by
 have h1:=HF d;have a:=WS d;rw[Tp b]at h1 a;exact⟨h1,a⟩
theorem Wa (a:Aw d=0):(Bn d).2=(BL d).map (QG d):=by
 unfold Bn EX;rw[At (by rw[a];simp)]
theorem A2q (a:Aw d=0) {t:Int} (b:0<=t) (c:t<((AL d).length:Int)):Jo (Bn d) t=S6 d (AL d) (BL d) t.toNat (BL d).length:=by
 unfold Jo;rw[A2p d (by omega)];show (BC d).1.getD t.toNat []=_;rw[(gC a).2];unfold KK;simp[AS,show t.toNat<(AL d).length by omega]
theorem l7 (a:Aw d=0):A4 d=0/\(B5 d).1=AL d/\LG d=0/\(∀s∈BL d,(De d s).2=true)/\IX d (AL d) (BL d) (AL d).length=false:=by
 obtain⟨b,-,f⟩:=CC a;obtain⟨e,-,c⟩:=BU b;refine⟨e,c,f,?_,?_⟩
 ·unfold Aw at a;split at a
  ·rename_i h;exact absurd b h
  ·split at a
   ·cases a
   ·split at a
    ·rename_i h;exact absurd a h
    ·split at a
     ·cases a
     ·rename_i h;exact IN.1 (by simpa using h)
 ·unfold Aw at a;split at a
  ·rename_i h;exact absurd b h
  ·split at a
   ·cases a
   ·split at a
    ·rename_i h;exact absurd a h
    ·split at a
     ·cases a
     ·split at a
      ·cases a
      ·rename_i h;rw[c]at h;simpa using h
def Cd (l:List (List Int)) (c:List Int):Prop:=c=[]\/c∈l
theorem A2r {l:List (List Int)} (hk:JS l) {c:List Int} (h:Cd l c):IT c:=by
 rcases h with rfl|h
 ·exact λx a=>by cases a
 ·exact hk.wds c h
theorem A7p {l:List (List Int)} (hk:JS l) (hn:Nd l) {a b:List Int} (ha:Cd l a) (j:b∈l):Cd l (EM a b):=by
 have f:=A2r hk ha;have g:=hk.wds b j;have m:Nrm (EM a b):=by unfold EM;exact LM _
 have k:=λi=>LL f g i;by_cases hi:∃i,BF a i=true/\BF b i=true
 ·rcases ha with rfl|ha
  ·obtain⟨i,h1,-⟩:=hi;unfold BF at h1;simp at h1
  ·obtain⟨t,d,e⟩:=hk.meet a ha b j hi;right;rw[Zq (NG f g) (hk.wds t d) m (hn.nrm t d) λi=>by rw[k,e]];exact d
 ·left;refine DO λn=>?_;unfold EM at n;have o:IT (EM a b):=NG f g;have:∃i,BF (EM a b) i=true:=by
   have c:=m;rcases c with c|c
   ·exact absurd (oN c) n
   ·exact dX o c
  obtain⟨i,h⟩:=this;rw[k,As]at h;exact hi ⟨i,h⟩
def UsD (d:List AI) (t:Int) (s:ByteArray) (x:AI):Prop:=(DH x s).2=true/\A7 (Bn d) (BK (AL d) x.1) t=true
def vcD (d:List AI) (s:ByteArray) (x:AI):List Int:=((AL d).getD (BK (AL d) (DH x s).1).toNat c0).2
theorem Tq (hn:j8 d (AL d)) {x:AI} (a:x∈d):0<=BK (AL d) x.1/\BK (AL d) x.1<((AL d).length:Int):=⟨hn.1 x a,IW _ _⟩
theorem A2s (hn:j8 d (AL d)) {x:AI} (b:x∈d) {s:ByteArray} (a:(DH x s).2=true):0<=BK (AL d) (DH x s).1/\BK (AL d) (DH x s).1<((AL d).length:Int):=⟨hn.value b a,IW _ _⟩
theorem tT (d:List AI) {k:Int} (a:0<=k) (b:k<((AL d).length:Int)):((AL d).getD k.toNat c0).2∈(AL d).map λx=>x.2:=Do.2 ⟨_,BD (by omega),rfl⟩
theorem yD (hk:HO (Bn d)) {a t:Int} (a0:0<=a) (f:a<((AL d).length:Int)) (b:0<=t) (g:t<((AL d).length:Int)):Lg (AL d) a t=A7 (Bn d) a t:=by
 have i:=aD d;have c:a<((Bn d).1.length:Int):=by omega
 have e:t<((Bn d).1.length:Int):=by omega
 have h:=hk.1.wds _ (B7 a0 c);have wt:=hk.1.wds _ (B7 b e);rw[ABX];unfold Lg;rw[<-NS d a0 f,<-NS d b g,Gi wt h];exact(BP hk a0 c b e).symm
theorem aE (hk:HO (Bn d)) (h:Nd ((Bn d).1.map λt=>t.2.1)) (hn:j8 d (AL d)) {t:Int} (p:0<=t) (q:t<((AL d).length:Int)) (s:ByteArray):∀(r:List AI) (o:List Int×Bool),(∀x∈r,x∈d)->Cd ((AL d).map λx=>x.2) o.1 ->
  Cd ((AL d).map λx=>x.2) (r.foldl (KJ (AL d) t s) o).1/\((r.foldl (KJ (AL d) t s) o).2=true↔o.2=true\/∃x∈r,UsD d t s x)/\∀i,BF (r.foldl (KJ (AL d) t s) o).1 i=true↔BF o.1 i=true/\∀x∈r,UsD d t s x->BF (vcD d s x) i=true
 | [],o,_,g=>⟨g,by simp,λi=>by simp⟩
 | x :: r,o,n,g=>by
  rw[KX]at h;have m:JS ((AL d).map λx=>x.2):=by have:=hk.1;rwa [KX]at this
  have w:=n x (by simp);obtain⟨n0,n1⟩:=Tq hn w;have u:=yD hk n0 n1 p q;rw[TO];by_cases hu:UsD d t s x
  ·obtain⟨v0,v1⟩:=A2s hn w hu.1;have e:KJ (AL d) t s o x=(EM o.1 (vcD d s x),true):=by
    unfold KJ;rw[At]
    ·rfl
    ·rw[hu.1,u,hu.2];simp
   have v:vcD d s x∈(AL d).map λx=>x.2:=tT d v0 v1;obtain⟨h1,k,l⟩:=aE hk (by rw[KX];exact h) hn p q s r (KJ (AL d) t s o x) (λy f=>n y (by simp[f])) (by rw[e];exact A7p m h g v);refine⟨h1,?_,λi=>?_⟩
   ·rw[k,e];exact⟨λ_=>.inr ⟨x,by simp,hu⟩,λ_=>.inl rfl⟩
   ·rw[l,e];simp only;rw[LL (A2r m g) (m.wds _ v),As];constructor
    ·rintro⟨⟨a,b⟩,c⟩;refine⟨a,λy f j=>?_⟩;rcases By.1 f with rfl|f
     ·exact b
     ·exact c y f j
    ·rintro⟨a,b⟩;exact⟨⟨a,b x (by simp) hu⟩,λy f=>b y (by simp[f])⟩
  ·have e:KJ (AL d) t s o x=o:=by
    unfold KJ;rw[BY];rw[u];unfold UsD at hu;cases h1:(DH x s).2 with
    | false=>simp
    | true =>
     rw[h1]at hu;have:A7 (Bn d) (BK (AL d) x.1) t=false:=by simpa using hu
     rw[this];simp
   obtain⟨h1,k,l⟩:=aE hk (by rw[KX];exact h) hn p q s r (KJ (AL d) t s o x) (λy f=>n y (by simp[f])) (by rw[e];exact g);refine⟨h1,?_,λi=>?_⟩
   ·rw[k,e];constructor
    ·rintro (a|⟨y,f,a⟩)
     ·exact .inl a
     ·exact .inr ⟨y,by simp[f],a⟩
    ·rintro (a|⟨y,f,a⟩)
     ·exact .inl a
     ·rcases By.1 f with rfl|f
      ·exact absurd a hu
      ·exact .inr ⟨y,f,a⟩
   ·rw[l,e];constructor
    ·rintro⟨a,b⟩;refine⟨a,λy f j=>?_⟩;rcases By.1 f with rfl|f
     ·exact absurd j hu
     ·exact b y f j
    ·rintro⟨a,b⟩;exact⟨a,λy f=>b y (by simp[f])⟩
theorem Wb {b:List Int}:∀ {l:List AQ} {k:Nat},(∃x∈l,x.2=b)->∃j:Nat,j<l.length/\Pv b k l=((k+j:Nat):Int)/\(l.getD j c0).2=b
 | [],k,⟨x,a,_⟩=>by cases a
 | y :: l,k,⟨x,a,e⟩=>by
  unfold Pv;by_cases h:GN y.2 b=true
  ·rw[BY h];exact⟨0,by simp,rfl,by simpa[GN] using h⟩
  ·rw[At h];rcases By.1 a with rfl|a
   ·exact absurd (by simpa[GN] using e) h
   ·obtain⟨j,h1,c,d⟩:=Wb (k:=k+1) ⟨x,a,e⟩;exact⟨j+1,by simp only[OS];omega,by rw[c];congr 1;omega,by simpa using d⟩
theorem l8 {b:List Int} (h:Nrm b):BJ b=b:=by
 unfold BJ;have:Cf b b.length=b.length:=by
  rcases h with h|h
  ·rw[h];rfl
  ·cases e:b.length with
   | zero=>rfl
   | succ m =>
    rw[e]at h;show (if b.getD m 0=0 then Cf b m else m+1)=m+1;rw[At (by simpa using h)]
 rw[this,iN]
theorem Qh (b:Aw d=0) {t:Int} (z:0<=t) (J:t<((AL d).length:Int)) {s:ByteArray} (hs:s∈BL d) :
  ((FA d (AL d) t s).2=true↔∃x∈d,UsD d t s x)/\((FA d (AL d) t s).2=true->(0<=HL (AL d) (FA d (AL d) t s).1/\HL (AL d) (FA d (AL d) t s).1<((AL d).length:Int)) /\
   ∀i,BF (BN (Bn d) (HL (AL d) (FA d (AL d) t s).1)) i=true↔∀x∈d,UsD d t s x->BF (vcD d s x) i=true):=by
 obtain⟨n,-,D,-,u⟩:=l7 b;obtain⟨hk,p⟩:=A6u b;have hn:=QF n D;have L:=sI n;have r:=Mn d;rw[Tp b]at r;have K:JS ((AL d).map λx=>x.2):=by have:=hk.1;rwa [KX]at this
 have q:=p;rw[KX]at q;have A:=tT d (ACE 0) (by omega:(0:Int)<((AL d).length:Int));obtain⟨g,a,m⟩:=aE hk p hn z J s d (((AL d).getD 0 c0).2,false) (λx f=>f) (.inr A);have e:FA d (AL d) t s=d.foldl (KJ (AL d) t s) (((AL d).getD 0 c0).2,false):=rfl;rw[<-e]at g a m;refine⟨by rw[a];simp,λhu=>?_⟩;have E:(FA d (AL d) t s).1≠[]:=by
  intro G;have h1:LJ d (AL d) t.toNat s=true:=by
   unfold LJ;rw[ABz z,hu,G];rfl
  have B:IX d (AL d) (BL d) (AL d).length=true:=by
   unfold IX;refine iS.2 ⟨t.toNat,oR.2 (by omega),?_⟩;unfold Zj;exact iS.2 ⟨s,hs,h1⟩
  rw[B]at u;cases u
 have o:(FA d (AL d) t s).1∈(AL d).map λx=>x.2:=g.resolve_left E;obtain⟨x,f,ex⟩:=Do.1 o;obtain⟨j,M,H,I⟩:=Wb (l:=AL d) (k:=0) ⟨x,f,ex⟩;have hf:HL (AL d) (FA d (AL d) t s).1=(j:Int):=by
  unfold HL;rw[l8 (q.nrm _ o),H];simp
 rw[hf];refine⟨⟨AAp _,by omega⟩,λi=>?_⟩;rw[NS d (AAp _) (by omega),gO,I,m];constructor
 ·exact λh=>h.2
 ·intro h;refine⟨?_,h⟩;obtain⟨y,v,w⟩:=(a.1 hu).resolve_left (by simp);obtain⟨v0,v1⟩:=A2s hn v w.1;have C:=h y v w;have c:=aD d;have F:=r _ v0 (by rw[c];exact v1);have:=(BP hk (ACE 0) (by rw[c];omega) v0 (by rw[c];exact v1)).1 F i;unfold dY at this;rw[NS d (ACE 0) (by omega),NS d v0 v1]at this;exact this C
theorem Rw {s:ByteArray}:∀ {r:List AI} {o:List ByteArray} {y:ByteArray},y∈r.foldl (Ha s) o->y∈o\/∃x∈r,x.1=y/\(DH x s).2=true
 | [],_,_,h=>.inl h
 | x :: r,o,y,h=>by
  rw[TO]at h;rcases Rw h with h|⟨z,b,h⟩
  ·unfold Ha at h;split at h
   ·rename_i a;rcases G7 h with h|h
    ·exact .inl h
    ·exact .inr ⟨x,by simp,h.symm,a⟩
   ·exact .inl h
  ·exact .inr ⟨z,by simp[b],h⟩
theorem Wc {s:ByteArray} (h:(De d s).2=true):∃x∈d,x.1=(De d s).1/\(DH x s).2=true:=by
 unfold De at h ⊢;split
 ·rename_i h1;have a:(Ay d (FU d s)).getD 0 ByteArray.empty∈Ay d (FU d s):=BD (by omega);exact(Rw (Hg a)).resolve_left (by simp)
 ·rename_i h1;rw[At h1]at h;cases h
theorem l9 (d:List AI):XA (Az d).1:=by
 by_cases a:Aw d=0
 ·rw[Tp a];obtain⟨j,-,l,m,-⟩:=l7 a;have hn:=QF j l;have g:=aD d;refine⟨λx b=>?_,λt f p hp=>?_⟩
  ·rw[Wa a]at b;obtain⟨s,hs,rfl⟩:=Do.1 b;obtain⟨y,n,e,-⟩:=Wc (m s hs);rw[g];show 0<=BK (AL d) (De d s).1/\BK (AL d) (De d s).1<((AL d).length:Int);rw[<-e];exact Tq hn n
  ·obtain⟨k,hk,e⟩:=Cg RY f;rw[g]at hk ⊢;have c:=A2q a (t:=(k:Int)) (AAp _) (by omega);unfold Jo at c;rw[gO,e]at c;rw[c]at hp;unfold S6 at hp;obtain⟨i,hi,rfl⟩:=Do.1 hp;obtain⟨h1,h⟩:=AAC.1 hi;have h1:=oR.1 h1;exact((Qh a (t:=(k:Int)) (AAp _) (by omega) (BD h1)).2 h).1
 ·have:(Az d).1=([],[]):=by
   unfold Az BC;rw[BY a,BY a]
  rw[this];exact⟨λx b=>(by cases b),λt f=>(by cases f)⟩
end
structure HAp (h:AJ):Prop where
 iff:∀t f,0<=t->t<(h.1.length:Int)->0<=f->f<(h.2.length:Int)->((B8 h t f).2=true↔A7 h (KN h f) t=true)
 mono:∀t t' f,0<=t->t<(h.1.length:Int)->0<=t'->t'<(h.1.length:Int)->0<=f->f<(h.2.length:Int)->A7 h t t'=true->(B8 h t f).2=true->A7 h (B8 h t f).1 (B8 h t' f).1=true
def HV (h:AJ) (m:Nat) (u:List Int):Prop:=u.length=m/\∀t∈u,0<=t/\t<(h.1.length:Int)
theorem HV.get {h:AJ} {m:Nat} {u:List Int} (hu:HV h m u) {n:Nat} (n1:n<m):0<=u.getD n 0/\u.getD n 0<(h.1.length:Int):=by
 have a:n<u.length:=by rw[hu.1];exact n1
 rw[AS,AT a];exact hu.2 _ (AAR a)
theorem NJ.tyl {h:AJ} {m:Nat} {s:EP} (hs:NJ h m s):HV h m s.1:=⟨hs.len,hs.ty⟩
def Fv (h:AJ) (m:Nat) (u v:List Int):Prop:=∀i,i<m->A7 h (u.getD i 0) (v.getD i 0)=true
def Wd (h:AJ) (u:List Int) (n:Int) (l:List (Int×Int)):Prop:=∀a∈l,(B8 h (u.getD n.toNat 0) a.1).2=true/\A7 h (B8 h (u.getD n.toNat 0) a.1).1 (u.getD a.2.toNat 0)=true
def WTy (h:AJ) (f:List AE) (u:List Int):Prop:=∀i,i<f.length->Wd h u (i:Int) (f.getD i (0,[])).2
theorem Fv.refl {h:AJ} (hk:HO h) {m:Nat} {u:List Int} (hu:HV h m u):Fv h m u u:=λi hi=>Td hk (hu.get hi).1 (hu.get hi).2
theorem Fv.trans {h:AJ} (hk:HO h) {m:Nat} {u v w:List Int} (hu:HV h m u) (a:HV h m v) (b:HV h m w) (h1:Fv h m u v) (c:Fv h m v w):Fv h m u w:=λi hi =>
 GD hk (hu.get hi).1 (hu.get hi).2 (a.get hi).1 (a.get hi).2 (b.get hi).1 (b.get hi).2 (h1 i hi) (c i hi)
theorem Fv.anti {h:AJ} (hi:HP h) {m:Nat} {u v:List Int} (hu:HV h m u) (b:HV h m v) (h1:Fv h m u v) (d:Fv h m v u):u=v:=by
 refine AAU (by rw[hu.1,b.1]) λi c e=>?_;have a:i<m:=by rw[<-hu.1];exact c
 have:=hi _ _ (hu.get a).1 (hu.get a).2 (b.get a).1 (b.get a).2 (h1 i a) (d i a)
 rwa [AS,AT c,AS,AT e]at this
structure tU (h:AJ) (m:Nat) (s s':EP):Prop where
 up:Fv h m s.1 s'.1
 pre:s.2 <+: s'.2
 ch:∀k:Nat,k<m->s'.1.getD k 0=s.1.getD k 0\/(k:Int)∈s'.2.drop s.2.length
theorem tU.refl {h:AJ} (hk:HO h) {m:Nat} {s:EP} (hs:NJ h m s):tU h m s s:=⟨Fv.refl hk hs.tyl,AB6 _,λ_ _=>.inl rfl⟩
theorem Rx {l l':List Int} (hp:l <+: l') {n:Nat} {x:Int} (h:x∈l.drop n):x∈l'.drop n:=by
 obtain⟨r,rfl⟩:=hp;rw[ADg];exact AAM _ h
theorem Qi {l:List Int} {a b:Nat} (c:a<=b) {x:Int} (h:x∈l.drop b):x∈l.drop a:=by
 have:l.drop b=(l.drop a).drop (b-a):=by rw[ACo];congr 1;omega
 rw[this]at h;exact ABS h
theorem tU.trans {h:AJ} (hk:HO h) {m:Nat} {a b c:EP} (ha:NJ h m a) (i:NJ h m b) (j:NJ h m c) (h1:tU h m a b) (d:tU h m b c):tU h m a c:=by
 refine⟨h1.up.trans hk ha.tyl i.tyl j.tyl d.up,h1.pre.trans d.pre,λk g=>?_⟩;rcases d.ch k g with f|f
 ·rcases h1.ch k g with e|e
  ·exact .inl (f.trans e)
  ·exact .inr (Rx d.pre e)
 ·exact .inr (Qi h1.pre.length_le f)
theorem Ry {h:AJ} (hk:HO h) (hi:HP h) {m:Nat} {s c:EP} (hs:NJ h m s) {n t:Int} (n0:0<=n) (n1:n<(m:Int)) (f:0<=t) (g:t<(h.1.length:Int)) (e:DI h s n t=some c) :
  tU h m s c/\A7 h t (c.1.getD n.toNat 0)=true:=by
 have r:=(E6 hk hi hs n0 n1 f g e).1;obtain⟨i,j⟩:=hs.get n0 n1;unfold DI at e;split at e
 ·rename_i o;obtain⟨u,w,q,d⟩:=(Mc hk i j f g).1 o;generalize (CD h (s.1.getD n.toNat 0) t).1=v at *;injection e with e
  split at e
  ·rename_i p;subst e;exact⟨tU.refl hk hs,by rw[<-p];exact d⟩
  ·subst e;have l:n.toNat<s.1.length:=by rw[hs.len];omega
   have a:∀k:Nat,(s.1.set n.toNat v).getD k 0=if k=n.toNat then v else s.1.getD k 0:=λk=>Gk _ _ _ l k
   refine⟨⟨λk b=>?_,AD0 _ _,λk b=>?_⟩,?_⟩
   ·simp only;rw[a];split
    ·rename_i e;rw[e];exact q
    ·exact Td hk (hs.tyl.get b).1 (hs.tyl.get b).2
   ·simp only;rw[a];split
    ·rename_i e;right;rw[ADg,AB7,AAV];exact ABB _ (by simp;omega)
    ·exact .inl rfl
   ·simp only;rw[a,BY rfl];exact d
 ·cases e
theorem Yg {h:AJ} (hk:HO h) (hi:HP h) {m:Nat} {s:EP} (hs:NJ h m s) {n t:Int} (n0:0<=n) (n1:n<(m:Int)) (p:0<=t) (q:t<(h.1.length:Int)) {u:List Int} (hu:HV h m u) (a:Fv h m s.1 u) (j:A7 h t (u.getD n.toNat 0)=true) :
  ∃c,DI h s n t=some c/\Fv h m c.1 u:=by
 obtain⟨d,f⟩:=hs.get n0 n1;have b:n.toNat<m:=by omega
 obtain⟨r,v⟩:=hu.get b;obtain⟨l,o⟩:=(Mc hk d f p q).2 _ r v (a _ b) j;unfold DI;rw[BY l];refine⟨_,rfl,?_⟩;split
 ·exact a
 ·intro k g;have i:n.toNat<s.1.length:=by rw[hs.len];omega
  simp only;rw[Gk _ _ _ i k];split
  ·rename_i e;rw[e];exact o
  ·exact a k g
section
variable {h:AJ} (hk:HO h) (hi:HP h) (hf:XA h) (hap:HAp h) {m:Nat} {n:Int} (n0:0<=n) (n1:n<(m:Int))
include hk hi hf n0 n1
theorem aF:∀ {l:List (Int×Int)} {s c:EP},(∀a∈l,FM h m a)->NJ h m s->Mh h n l s=some c->tU h m s c/\∀a∈l,A7 h (KN h a.1) (c.1.getD n.toNat 0)=true
 | [],s,c,_,hs,e=>by
  injection e with e
  subst e;exact⟨tU.refl hk hs,λa ha=>by cases ha⟩
 | a :: l,s,c,o,hs,e=>by
  unfold Mh at e;cases g:DI h s n (KN h a.1) with
  | none=>rw[g]at e;cases e
  | some s1 =>
   rw[g]at e;obtain⟨⟨a0,r⟩,-⟩:=o a (by simp);obtain⟨j,k⟩:=HH hf a0 r;obtain⟨d,-,-⟩:=E6 hk hi hs n0 n1 j k g;obtain⟨u,v⟩:=Ry hk hi hs n0 n1 j k g;have p:∀b∈l,FM h m b:=λb f=>o b (If _ f);have e:Mh h n l s1=some c:=e;obtain⟨q,t⟩:=aF p d e;have i:=(QV hk hi hf n0 n1 p d e).1;refine⟨u.trans hk hs d i q,λb f=>?_⟩;rcases By.1 f with rfl|f
   ·exact GD hk j k (d.get n0 n1).1 (d.get n0 n1).2 (i.get n0 n1).1 (i.get n0 n1).2 v (q.up _ (by omega))
   ·exact t b f
theorem tV:∀ {l:List (Int×Int)} {s c:EP},(∀a∈l,FM h m a)->NJ h m s->NZ h n l s=some c->tU h m s c/\(n∈c.2.drop s.2.length\/(c.1.getD n.toNat 0=s.1.getD n.toNat 0/\∀a∈l,(B8 h (s.1.getD n.toNat 0) a.1).2=true/\A7 h (B8 h (s.1.getD n.toNat 0) a.1).1 (c.1.getD a.2.toNat 0)=true))
 | [],s,c,_,hs,e=>by
  injection e with e
  subst e;exact⟨tU.refl hk hs,.inr ⟨rfl,λa ha=>by cases ha⟩⟩
 | a :: l,s,c,t,hs,e=>by
  unfold NZ at e;split at e
  ·rename_i v;obtain⟨w,x⟩:=hs.get n0 n1;obtain⟨o,p⟩:=Ey hf w x v;cases j:DI h s a.2 (B8 h (s.1.getD n.toNat 0) a.1).1 with
   | none=>rw[j]at e;cases e
   | some s1 =>
    rw[j]at e;obtain⟨-,d,b1⟩:=t a (by simp);obtain⟨g,-,-⟩:=E6 hk hi hs d b1 o p j;obtain⟨r,A⟩:=Ry hk hi hs d b1 o p j;have u:∀b∈l,FM h m b:=λb f=>t b (If _ f);have e:NZ h n l s1=some c:=e;obtain⟨q,i⟩:=tV u g e;have k:=(Te hk hi hf n0 n1 u g e).1;refine⟨r.trans hk hs g k q,?_⟩;have y:((n.toNat:Nat):Int)=n:=ABz n0;rcases r.ch n.toNat (by omega) with c1|c1
    ·rcases i with i|⟨i,z⟩
     ·exact .inl (Qi r.pre.length_le i)
     ·refine .inr ⟨i.trans c1,λb f=>?_⟩;rcases By.1 f with rfl|f
      ·exact⟨v,GD hk o p (g.get d b1).1 (g.get d b1).2 (k.get d b1).1 (k.get d b1).2 A (q.up _ (by omega))⟩
      ·have:=z b f
       rwa [c1]at this
    ·rw[y]at c1;exact .inl (Rx q.pre c1)
  ·cases e
include hap
theorem tW {u:List Int} (hu:HV h m u):∀ {l:List (Int×Int)} {s:EP},(∀a∈l,FM h m a)->NJ h m s->Fv h m s.1 u->(∀a∈l,(B8 h (u.getD n.toNat 0) a.1).2=true)->∃c,Mh h n l s=some c/\Fv h m c.1 u
 | [],s,_,_,e,_=>⟨s,rfl,e⟩
 | a :: l,s,i,hs,e,j=>by
  obtain⟨⟨a0,f⟩,-⟩:=i a (by simp);obtain⟨k,o⟩:=HH hf a0 f;obtain⟨t,v⟩:=hu.get (show n.toNat<m by omega);obtain⟨s1,g,h1⟩:=Yg hk hi hs n0 n1 k o hu e ((hap.iff _ _ t v a0 f).1 (j a (by simp)));obtain⟨q,-,-⟩:=E6 hk hi hs n0 n1 k o g;obtain⟨c,p,r⟩:=tW hu (λb d=>i b (If _ d)) q h1 λb d=>j b (If _ d);exact⟨c,by unfold Mh;rw[g];exact p,r⟩
theorem tX {u:List Int} (hu:HV h m u):∀ {l:List (Int×Int)} {s:EP},(∀a∈l,FM h m a)->NJ h m s->Fv h m s.1 u->(∀a∈l,A7 h (KN h a.1) (s.1.getD n.toNat 0)=true)->Wd h u n l->∃j,NZ h n l s=some j/\Fv h m j.1 u
 | [],s,_,_,f,_,_=>⟨s,rfl,f⟩
 | a :: l,s,p,hs,f,x,y=>by
  obtain⟨⟨a0,v⟩,k,b1⟩:=p a (by simp);obtain⟨d,e⟩:=hs.get n0 n1;have q:n.toNat<m:=by omega
  have w:a.2.toNat<m:=by omega
  obtain⟨z,A⟩:=hu.get q;have r:=(hap.iff _ _ d e a0 v).2 (x a (by simp));obtain⟨g,i⟩:=Ey hf d e r;obtain⟨H,I⟩:=y a (by simp);obtain⟨v0,v1⟩:=Ey hf z A H;have D:=hap.mono _ _ a.1 d e z A a0 v (f _ q) r;obtain⟨s1,o,h1⟩:=Yg hk hi hs k b1 g i hu f (GD hk g i v0 v1 (hu.get w).1 (hu.get w).2 D I);obtain⟨t,-,-⟩:=E6 hk hi hs k b1 g i o;obtain⟨G,-⟩:=Ry hk hi hs k b1 g i o;obtain⟨j,B,C⟩:=tX hu (λb c=>p b (If _ c)) t h1 (λb c=>by
   obtain⟨⟨c0,c1⟩,-⟩:=p b (If _ c);obtain⟨E,F⟩:=HH hf c0 c1;exact GD hk E F d e (t.get n0 n1).1 (t.get n0 n1).2 (x b (If _ c)) (G.up _ q)) λb c=>y b (If _ c)
  exact⟨j,by unfold NZ;rw[BY r,o];exact B,C⟩
end
section
variable {h:AJ} (hk:HO h) (hi:HP h) (hf:XA h) (hap:HAp h) {f:List AE} (ha:LO h f)
include hk hi hf hap ha
theorem A2t {n:Int} (n0:0<=n) (n1:n<(f.length:Int)) {s c:EP} (hs:NJ h f.length s) (e:KO h f n s=some c):tU h f.length s c/\(n∈c.2.drop s.2.length\/Wd h c.1 n (f.getD n.toNat (0,[])).2):=by
 have _:=hap;have g:=Mi ha n0 n1;unfold KO at e;cases d:Mh h n (f.getD n.toNat (0,[])).2 s with
 | none=>rw[d]at e;cases e
 | some s1 =>
  rw[d]at e;have i:=(QV hk hi hf n0 n1 g hs d).1;obtain⟨j,-⟩:=aF hk hi hf n0 n1 g hs d;have e:NZ h n (f.getD n.toNat (0,[])).2 s1=some c:=e;have k:=(Te hk hi hf n0 n1 g i e).1;obtain⟨l,b⟩:=tV hk hi hf n0 n1 g i e;refine⟨j.trans hk hs i k l,?_⟩;rcases b with b|⟨b,m⟩
  ·exact .inl (Qi j.pre.length_le b)
  ·refine .inr λa ha=>?_;rw[b];exact m a ha
theorem A2u {n:Int} (n0:0<=n) (n1:n<(f.length:Int)) {s:EP} (hs:NJ h f.length s) {u:List Int} (hu:HV h f.length u) (d:Wd h u n (f.getD n.toNat (0,[])).2) (j:Fv h f.length s.1 u):∃e,KO h f n s=some e/\Fv h f.length e.1 u:=by
 have b:=Mi ha n0 n1;obtain⟨s1,c,h1⟩:=tW hk hi hf hap n0 n1 hu b hs j λa ha=>(d a ha).1;have k:=(QV hk hi hf n0 n1 b hs c).1;obtain⟨-,l⟩:=aF hk hi hf n0 n1 b hs c;obtain⟨s2,g,i⟩:=tX hk hi hf hap n0 n1 hu b k h1 l d;exact⟨s2,by unfold KO;rw[c];exact g,i⟩
def AA9 (h:AJ) (f:List AE) (i:Nat) (s:EP):Prop:=∀n:Nat,n<f.length->Wd h s.1 (n:Int) (f.getD n (0,[])).2\/(n:Int)∈s.2.drop i
theorem A5U {n:Nat} (hn:n<f.length) {s d:EP} (hs:NJ h f.length s) (i:NJ h f.length d) (j:tU h f.length s d) (p:Wd h s.1 (n:Int) (f.getD n (0,[])).2):Wd h d.1 (n:Int) (f.getD n (0,[])).2\/(n:Int)∈d.2.drop s.2.length:=by
 have _:=hap;have _:=hi;have o:∀a∈(f.getD n (0,[])).2,FM h f.length a:=ha _ (AD f (0,[]) hn);rcases j.ch n hn with c|c
 ·left;intro a g;obtain⟨e,k⟩:=p a g;obtain⟨-,b,b1⟩:=o a g;rw[gO]at e k ⊢;rw[c];obtain⟨l,m⟩:=hs.tyl.get hn;obtain⟨q,r⟩:=Ey hf l m e;exact⟨e,GD hk q r (hs.get b b1).1 (hs.get b b1).2 (i.get b b1).1 (i.get b b1).2 k (j.up _ (by omega))⟩
 ·exact .inr c
theorem tY:∀ {k i:Nat} {s:EP} {ty:List Int},NJ h f.length s->AA9 h f i s->s7 h f k i s=some ty->WTy h f ty/\Fv h f.length s.1 ty/\HV h f.length ty
 | 0,_,_,_,_,_,e=>by cases e
 | k+1,i,s,ty,hs,hp,e=>by
  unfold s7 at e;split at e
  ·rename_i d;have p:=AD s.2 (0:Int) d;obtain⟨n0,n1⟩:=hs.wt _ p;generalize hn:s.2.getD i 0=n at *;cases c:KO h f n s with
   | none=>rw[c]at e;cases e
   | some s1 =>
    rw[c]at e;have g:=(QW hk hi hf ha n0 n1 hs c).1;obtain⟨j,b⟩:=A2t hk hi hf hap ha n0 n1 hs c;have r:AA9 h f (i+1) s1:=by
     intro m l;rcases hp m l with q|a
     ·rcases A5U hk hi hf hap ha l hs g j q with h1|h1
      ·exact .inl h1
      ·exact .inr (Qi (by omega) h1)
     ·have t:s.2.drop i=n :: s.2.drop (i+1):=by
       rw[Of d,<-hn,AS,AT d];rfl
      rw[t]at a;rcases By.1 a with a|a
      ·rcases b with b|b
       ·exact .inr (by rw[a];exact Qi (by omega) b)
       ·left;rw[a];have:n.toNat=m:=by omega
        rw[this]at b;exact b
      ·exact .inr (Rx j.pre a)
    have e:s7 h f k (i+1) s1=some ty:=e;obtain⟨u,v,o⟩:=tY g r e;exact⟨u,j.up.trans hk hs.tyl g.tyl o v,o⟩
  ·rename_i d;injection e with e
   subst e;refine⟨λn hn=>?_,Fv.refl hk hs.tyl,hs.tyl⟩;rcases hp n hn with h1|h1
   ·exact h1
   ·rw[IF (by omega)]at h1;cases h1
theorem A2v {u:List Int} (hu:HV h f.length u) (d:WTy h f u):∀ {k i:Nat} {s:EP},NJ h f.length s->i<=s.2.length->NK h s.1+s.2.length+1<=k+i->Fv h f.length s.1 u->∃ty,s7 h f k i s=some ty/\Fv h f.length ty u
 | 0,i,s,hs,j,l,b=>by omega
 | k+1,i,s,hs,j,l,b=>by
  unfold s7;by_cases a:i<s.2.length
  ·rw[BY a];obtain⟨n0,n1⟩:=hs.wt _ (AD s.2 (0:Int) a);have e:=d (s.2.getD i 0).toNat (by omega);rw[ABz n0]at e;obtain⟨s1,c,h1⟩:=A2u hk hi hf hap ha n0 n1 hs hu e b;obtain⟨g,m,n⟩:=QW hk hi hf ha n0 n1 hs c;rw[c];exact A2v hu d g (by omega) (by omega) h1
  ·rw[At a];exact⟨s.1,rfl,b⟩
theorem We (a:∀x∈f,0<=x.1/\x.1<(h.1.length:Int)) {ty:List Int} (e:HR h f=some ty):WTy h f ty/\Fv h f.length (A6 f) ty/\HV h f.length ty:=by
 have e:s7 h f (Ii h f) 0 (A6 f,Ef f)=some ty:=e;refine tY hk hi hf hap ha (k:=Ii h f) (i:=0) (s:=(A6 f,Ef f)) (YN a) (λn hn=>.inr ?_) e;rw[AAV];exact Do.2 ⟨n,oR.2 hn,rfl⟩
theorem So (b:∀x∈f,0<=x.1/\x.1<(h.1.length:Int)) {u:List Int} (hu:HV h f.length u) (c:WTy h f u) (a:Fv h f.length (A6 f) u):∃ty,HR h f=some ty/\Fv h f.length ty u :=
 A2v hk hi hf hap ha hu c (k:=Ii h f) (i:=0) (s:=(A6 f,Ef f)) (YN b) (Is _) (Zw h f) a
end
inductive Up (d:List AI) (m:ByteArray):ByteArray->Prop
 | base {x:ByteArray}:Ac m x=true->Up d m x
 | step {x s:ByteArray} {y:AI}:y∈d->Ac y.1 x=true->AX y.2.1 s=true->Up d m s->Up d m x
section
variable {d:List AI}
theorem Wf {m x y:ByteArray} (h:Up d m x) (e:Ac x y=true):Up d m y:=by
 cases h with
 | base h=>exact .base (BT h e)
 | step h1 a b c=>exact .step h1 (BT a e) b c
theorem A7r {c x s:ByteArray} (h:Up d c x) {y:AI} (f:y∈d) (e:Ac y.1 c=true) (hs:AX y.2.1 s=true):Up d s x:=by
 induction h with
 | base h=>exact .step f (BT e h) hs (.base (Ct s))
 | step h1 a b i g=>exact .step h1 a b g
theorem Qj {a b c:ByteArray} (h1:Up d a b) (i:Up d b c):Up d a c:=by
 induction i with
 | base h=>exact Wf h1 h
 | step e f g k j=>exact .step e f g j
theorem A5V {m a x:ByteArray} (e:Ac a m=true) (h:Up d m x):Up d a x:=Qj (.base e) h
theorem A5W (hn:Cl d=0) (f:d.length<=(Bg d).length) {m x:ByteArray} (h:Up d m x):Ac m x=true\/GP d m<GP d x:=by
 induction h with
 | base h=>exact .inl h
 | step h1 c e g a =>
  right;have b:=LD hn f h1 e;rw[IU d c]at b;rcases a with a|a
  ·rw[IU d a];exact b
  ·omega
theorem A2w {o:List ByteArray} {s t:ByteArray} (h:t∈KG o s):t∈o\/t=s:=by
 unfold KG at h;split at h
 ·exact .inl h
 ·rcases OF.1 h with h|h
  ·exact .inl h
  ·exact .inr (by simpa using h)
theorem Yh:∀ {l o:List ByteArray} {t:ByteArray},t∈l.foldl KG o->t∈o\/t∈l
 | [],_,_,h=>.inl h
 | s :: l,o,t,h=>by
  rw[TO]at h;rcases Yh h with h|h
  ·rcases A2w h with h|h
   ·exact .inl h
   ·exact .inr (by simp[h])
  ·exact .inr (by simp[h])
theorem yE {s:ByteArray} (h:0<=Ao d s):d.getD (Ao d s).toNat d0∈d/\Ac (d.getD (Ao d s).toNat d0).1 s=true:=by
 rcases DU d s with g|⟨b,c,a⟩
 ·omega
 ·exact⟨BD (by omega),a⟩
theorem Yi (hs:Pq d) {x:ByteArray}:∀ {n i:Nat} {o:List ByteArray},(∀t∈o,0<=Ao d t/\Up d t x)->∀t∈IP d n i o,0<=Ao d t/\Up d t x
 | 0,_,_,b=>b
 | n+1,i,o,b=>by
  unfold IP;split
  ·rename_i hi;refine Yi hs λt a=>?_;rcases Yh a with a|a
   ·exact b t a
   ·obtain⟨c1,c2⟩:=b _ (BD (d:=ByteArray.empty) hi);obtain⟨c,e⟩:=yE c1;exact⟨hs _ c t a,A7r c2 c e (Fj a)⟩
  ·exact b
theorem Yj {l:List ByteArray} {t:ByteArray} (h:t∈KH l):t∈l:=(VB (o:=[]) h).resolve_left (by simp)
theorem A2x (hs:Pq d) {x t:ByteArray} (b:0<=Ao d x) (h:AX (LB d x) t=true):Up d t x:=by
 obtain⟨u,hu,e⟩:=iS.1 h;unfold LB at hu;rw[At (by omega)]at hu;have:=(Yi hs (x:=x) (n:=d.length) (i:=0) (o:=[x]) (λt a=>by
  have:t=x:=by simpa using a
  subst this;exact⟨b,.base (Ct _)⟩) u (Yj hu)).2
 exact A5V (EA e) this
theorem Yk {m:ByteArray}:∀ {n i:Nat} {o:List ByteArray},(∀t∈o,Up d m t)->∀t∈Cm d n i o,Up d m t
 | 0,_,_,a=>a
 | n+1,i,o,a=>by
  unfold Cm;split
  ·rename_i hi;have f:=a _ (BD (d:=ByteArray.empty) hi);generalize o.getD i ByteArray.empty=c at *;have key:∀(l:List AI) (o:List ByteArray),(∀y∈l,y∈d)->(∀t∈o,Up d m t)->∀t∈l.foldl (FK c) o,Up d m t:=by
    intro l;induction l with
    | nil=>exact λo _ a=>a
    | cons y l j =>
     intro o e a;rw[TO];refine j _ (λz g=>e z (by simp[g])) λt b=>?_;unfold FK at b;split at b
     ·rename_i h;rw[As]at h;rcases OF.1 b with b|b
      ·exact a t b
      ·have:t=y.1:=by simpa using b
       subst this;exact .step (e y (by simp)) (Ct _) h.1 f
     ·exact a t b
   exact Yk (key d o (λ_ h=>h) a)
  ·exact a
theorem Wg {m x:ByteArray} (h:AX (Cn d m) x=true):Up d m x:=by
 obtain⟨u,hu,e⟩:=iS.1 h;unfold Cn at hu;split at hu
 ·cases hu
 ·exact Wf (Yk (m:=m) (n:=d.length) (i:=0) (o:=[m]) (λt a=>by
   have:t=m:=by simpa using a
   subst this;exact .base (Ct _)) u (Yj hu)) e
theorem Wh {m x:ByteArray} (u:0<=Ao d m) (h:Up d m x):AX (Cn d m) x=true:=by
 have q:ZY d [m]:=⟨λs hs=>by
  have:s=m:=by simpa using hs
  rw[this];exact u,by simp⟩
 obtain⟨k,v,D⟩:=WP (d:=d) (n:=d.length) (i:=0) q (by omega) (λj t=>by omega) (by omega);have A:m∈Cm d d.length 0 [m]:=LE (by simp);have r:Cn d m=KH (Cm d d.length 0 [m]):=by unfold Cn;rw[At (by omega)]
 rw[r];generalize Cm d d.length 0 [m]=o at *;have key:AX o x=true:=by
  induction h with
  | base h=>exact iS.2 ⟨m,A,h⟩
  | step h1 l p C B =>
   obtain⟨z,c,a⟩:=iS.1 B;obtain⟨j,t,rfl⟩:=Cg ByteArray.empty c;obtain⟨s,y,f⟩:=iS.1 p;obtain⟨w,b,g⟩:=iS.1 (v j (by omega) _ h1 (iS.2 ⟨s,y,BT f (EA a)⟩));exact iS.2 ⟨w,b,BT g l⟩
 obtain⟨z,c,e⟩:=iS.1 key;obtain⟨w,b,a⟩:=iS.1 (QB (o:=[]) c);exact iS.2 ⟨w,b,BT a e⟩
theorem Yl:∀ {l o:List ByteArray} {x:ByteArray},AX o x=true->AX (l.foldl (FL d) o) x=true
 | [],_,_,h=>h
 | s :: l,o,x,h=>by
  rw[TO];refine Yl ?_;unfold FL;split
  ·exact KI (λz a=>NE a) h
  ·exact h
theorem Qk:∀ {l o:List ByteArray} {x:ByteArray},x∈l->0<=Ao d x->AX (l.foldl (FL d) o) x=true
 | s :: l,o,x,h,a=>by
  rw[TO];rcases By.1 h with rfl|h
  ·refine Yl ?_;unfold FL;rw[BY a];exact QA
  ·exact Qk h a
theorem Nw:∀ {l o:List ByteArray},(∀x∈o,0<=Ao d x)->∀x∈l.foldl (FL d) o,0<=Ao d x
 | [],_,b=>b
 | s :: l,o,b=>by
  rw[TO];refine Nw λx a=>?_;unfold FL at a;split at a
  ·rcases G7 a with a|rfl
   ·exact b x a
   ·assumption
  ·exact b x a
theorem A7s {l:List ByteArray} (h:sU l) {i j:Nat} (hi:i<l.length) (a:j<l.length) (d:i≠j):Ac (l.getD i ByteArray.empty) (l.getD j ByteArray.empty)=false:=by
 have c:∀k (h:k<l.length),l.getD k ByteArray.empty=l[k]:=λk h=>by rw[AS,AT h];rfl
 rw[c i hi,c j a];rcases Nat.lt_or_gt_of_ne d with b|b
 ·exact(tO.1 h) i j hi a b
 ·exact Md ((tO.1 h) j i a hi b)
theorem Ql:∀ {l o:List ByteArray},sU o->(∀s∈l,∀x∈o,Ac x s=false)->sU l->sU (l.foldl (FL d) o)
 | [],_,h,_,_=>h
 | s :: l,o,h,b,f=>by
  rw[TO];have e:=AAX.1 f;refine Ql ?_ (λy c x a=>?_) e.2
  ·unfold FL;split
   ·exact Vd h (b s (by simp))
   ·exact h
  ·unfold FL at a;split at a
   ·rcases G7 a with a|rfl
    ·exact b y (by simp[c]) x a
    ·exact e.1 y c
   ·exact b y (by simp[c]) x a
theorem yF (hn:Cl d=0) (s:ByteArray):sU (FU d s):=by
 have key:∀(r:List AI) (o:List ByteArray),sU o->(∀y∈r,∀x∈o,Ac x y.1=false)->r.Pairwise (λa b=>Ac a.1 b.1=false)->sU (r.foldl (Ha s) o):=by
  intro r;induction r with
  | nil=>exact λo h _ _=>h
  | cons y r q =>
   intro o h f hp;rw[TO];have l:=AAX.1 hp;refine q _ ?_ (λz g x c=>?_) l.2
   ·unfold Ha;split
    ·exact Vd h (f y (by simp))
    ·exact h
   ·unfold Ha at c;split at c
    ·rcases G7 c with c|rfl
     ·exact f z (by simp[g]) x c
     ·exact l.1 z g
    ·exact f z (by simp[g]) x c
 refine key d [] .nil (λy _ x c=>by cases c) (tO.2 λi j hi k t=>?_);cases e:Ac d[i].1 d[j].1 with
 | false=>rfl
 | true =>
  have h1:=MW hn hi;have p:=MW hn k;have m:d.getD i d0=d[i]:=by rw[AS,AT hi];rfl
  have n:d.getD j d0=d[j]:=by rw[AS,AT k];rfl
  rw[m,JP d e]at h1;rw[n]at p;omega
theorem Rz (r:A4 d=0) {l:List ByteArray} (t:sU l) {x:ByteArray} (g:x∈l) (w:0<=Ao d x):∃m∈Ay d l,Up d m x:=by
 obtain⟨hs,C,-,hn,A⟩:=Ax r;have z:∀y∈BV d l,0<=Ao d y:=Nw λy c=>by cases c
 obtain⟨q,n,ex⟩:=iS.1 (Qk (d:=d) (o:=[]) g w);have n:q∈BV d l:=n;have v:sU (BV d l):=Ql .nil (λs _ x g=>by cases g) t;have u:Ay d l=Pt d (BV d l) (BV d l).length:=rfl;rw[u];generalize BV d l=all at *;have key:∀(k:Nat) (y:ByteArray),GP d y<k->y∈all->Up d y x->∃m∈Pt d all all.length,Up d m x:=by
  intro k;induction k with
  | zero=>exact λy h=>by omega
  | succ k B =>
   intro y D c hu;obtain⟨i,hi,rfl⟩:=Cg ByteArray.empty c;by_cases a:Ps d all i all.length=true
   ·exact⟨_,Do.2 ⟨i,AAC.2 ⟨oR.2 hi,a⟩,rfl⟩,hu⟩
   ·have a:Ps d all i all.length=false:=by simpa using a
    unfold Ps at a;obtain⟨j,b,hf⟩:=ABq.1 a;have b:=oR.1 b;unfold sB at hf;simp only[AAz,AAN,dO,not_or,Bool.not_eq_false]at hf;obtain⟨f,ha⟩:=hf;have f:j≠i:=λe=>f (by rw[e]);have p:=A2x hs (z _ c) ha;rcases A5W hn A p with e|e
    ·exact absurd e (by rw[A7s v b hi f];simp)
    ·exact B _ (by omega) (BD b) (Qj p hu)
 exact key _ q (ADc _) n (.base ex)
theorem LT {s:ByteArray} (hs:s∈AN d):0<=Ao d s:=by
 obtain⟨x,a,rfl⟩:=Cu hs;exact Db a
theorem Qm {x:AI} (a:x∈d) (hn:Cl d=0):x.1∈AN d:=by
 obtain⟨s,hs,e⟩:=iS.1 (OY a);obtain⟨y,b,rfl⟩:=Cu hs;rw[<-P6 hn b a e];exact hs
theorem A5X (b:A4 d=0) {m x:ByteArray} (c:0<=Ao d m) (h:Up d m x) {i:Nat} (hi:BF (Ew d (AN d) x) i=true):BF (Ew d (AN d) m) i=true:=by
 obtain⟨-,j,-,hn,k⟩:=Ax b;have e:=D9 d d.length;rw[iN]at e;have a:(AN d).length<=4096:=by omega
 obtain⟨f,g⟩:=(Bt (d:=d) a x i).1.1 hi;exact(Bt (d:=d) a m i).1.2 ⟨f,Wh c (Qj h (Wg g))⟩
end
section
variable {d:List AI}
def Dc (d:List AI) (c:List Int):Prop:=IT c/\∀i j,BF c i=true->j<(AN d).length->Up d ((AN d).getD i ByteArray.empty) ((AN d).getD j ByteArray.empty)->BF c j=true
theorem A7t:Dc d []:=⟨λx a=>(by cases a),λi j hi=>by unfold BF at hi;simp at hi⟩
theorem A7u {a b:List Int} (ha:Dc d a) (c:Dc d b):Dc d (EM a b) :=
 ⟨NG ha.1 c.1,λi j hi e hu=>by
  rw[LL ha.1 c.1,As]at hi ⊢;exact⟨ha.2 i j hi.1 e hu,c.2 i j hi.2 e hu⟩⟩
theorem tZ {l:List (List Int)} (h:∀c∈l,Dc d c) (k:Nat):Dc d (l.getD k []):=by
 by_cases hk:k<l.length
 ·exact h _ (BD hk)
 ·rw[Ra hk];exact A7t
theorem A5Y {l:List (List Int)} (h:∀c∈l,Dc d c) (i k:Nat):∀c∈Gf l i k,Dc d c:=by
 intro c a;unfold Gf at a;split at a
 ·rcases OF.1 a with a|a
  ·exact h c a
  ·have:c=EM (l.getD i []) (l.getD k []):=by simpa using a
   rw[this];exact A7u (tZ h i) (tZ h k)
 ·exact h c a
theorem t5 {i:Nat}:∀ {n k:Nat} {l:List (List Int)},(∀c∈l,Dc d c)->∀c∈Gg i n k l,Dc d c
 | 0,_,_,h=>h
 | n+1,k,l,h=>by
  unfold Gg;split
  ·exact t5 (A5Y h i k)
  ·exact h
theorem t7:∀ {n i:Nat} {l:List (List Int)},(∀c∈l,Dc d c)->∀c∈IQ n i l,Dc d c
 | 0,_,_,h=>h
 | n+1,i,l,h=>by
  unfold IQ;split
  ·exact t7 (t5 h)
  ·exact h
theorem Sp (a:A4 d=0):(AN d).length<=4096:=by
 obtain⟨-,c,-⟩:=Ax a;have b:=D9 d d.length;rw[iN]at b;omega
theorem A5Z (b:A4 d=0) {s:ByteArray} (hs:0<=Ao d s):Dc d (Ew d (AN d) s):=by
 have a:=Sp b;refine⟨(Bt (d:=d) a s 0).2.1,λi j hi c hu=>?_⟩;have h1:=((Bt (d:=d) a s i).1.1 hi).2;exact(Bt (d:=d) a s j).1.2 ⟨c,Wh hs (Qj (Wg h1) hu)⟩
theorem A7v (a:A4 d=0):∀c∈Av (AR d),Dc d c:=t7 λc b=>by
 obtain⟨s,hs,rfl⟩:=Do.1 b;exact A5Z a (LT hs)
theorem t8 {all:List ByteArray} {codes:List (List Int)} {b:List Int} {u:ByteArray}:∀ {m i:Nat} {l:List ByteArray},sE d all codes b m i l=.inl u->∃j,i<=j/\j<i+m/\DT (codes.getD j []) b=true/\u=all.getD j ByteArray.empty
 | 0,_,_,h=>by cases h
 | m+1,i,l,h=>by
  unfold sE at h;split at h
  ·rename_i a;injection h with h
   exact⟨i,NO _,by omega,a,h.symm⟩
  ·obtain⟨j,f,g,c,e⟩:=t8 h;exact⟨j,by omega,by omega,c,e⟩
theorem t9 {all:List ByteArray} {codes:List (List Int)} {b:List Int} {r:List ByteArray}:∀ {m i:Nat} {l:List ByteArray},sE d all codes b m i l=.inr r->(∀j,i<=j->j<i+m->DT (codes.getD j []) b=false)/\r=l++((List.range' i m).filter λj:Nat=>RH b (j:Int)).map λj=>all.getD j ByteArray.empty
 | 0,i,l,h=>by
  unfold sE at h;injection h with h
  exact⟨λj h1 f=>by omega,by simp[h]⟩
 | m+1,i,l,h=>by
  unfold sE at h;split at h
  ·cases h
  ·rename_i g;obtain⟨a,c⟩:=t9 h;refine⟨λj h1 f=>?_,?_⟩
   ·by_cases e:j=i
    ·rw[e];simpa using g
    ·exact a j (by omega) (by omega)
   ·rw[c,ADd,AAE];by_cases hh:RH b (i:Int)=true
    ·rw[BY hh,BY hh];simp
    ·rw[At hh,At hh]
theorem uA {a b:ByteArray} {x:UInt8}:x∈(a++b).toList↔x∈a.toList\/x∈b.toList:=by
 rw[ByteArray.toList_eq,ByteArray.toList_eq,ByteArray.toList_eq];simp
theorem yG {l:List ByteArray}:∀ {n:Nat},2<=n->(38:UInt8)∈(QC l n).toList
 | n+1,hn=>by
  rw[OZ];unfold Xy;rw[BY (by omega)];rw[uA,uA];exact .inl (.inr (by rw[ByteArray.toList_eq];simp))
theorem mA (hn:Cl d=0) {s:ByteArray} (hs:s∈AN d):(38:UInt8)∉s.toList:=by
 obtain⟨x,i,rfl⟩:=Cu hs;obtain⟨j,g,e⟩:=Cg d0 i;have h1:=(JQ (d:=d) (r:=d) (k:=0) hn j g).2;rw[e]at h1;intro b;unfold Et at h1;rw[As,IN]at h1;rw[ByteArray.toList_eq]at b;obtain⟨k,hk,c⟩:=AAr.1 b;have a:k<x.1.data.size:=by simpa using hk
 have:=h1.2 k (oR.2 a);unfold chr at this;have f:x.1.data.getD k 0=38:=by
  rw[<-c];have h:k<x.1.size:=a;simp[Array.getD,h]
 rw[f]at this;revert this;decide
theorem yH (o:A4 d=0) {y:AQ} (ad:y∈AL d) (hf:JS (Av (AR d))) {s:ByteArray} (hs:s∈AN d) (e:Ac y.1 s=true):y.2=Ew d (AN d) s:=by
 obtain⟨an,aj,-,hn,al⟩:=Ax o;have v:=Sp o;have Q:Nd (Av (AR d)):=TZ (Rb o);have ak:(AR d).length=(AN d).length:=by simp[AR]
 have R:AR d <+: Av (AR d):=QN 257 0 (AR d);have aa:∀ {t:ByteArray},t∈AN d->Ac t s=true->t=s:=λ{t} h e=>by
  obtain⟨x,ab,rfl⟩:=Cu h;obtain⟨z,ae,rfl⟩:=Cu hs;rw[P6 hn ab ae e]
 have heq:∀j,j<(AN d).length->∀b∈Av (AR d),DT ((AR d).getD j []) b=true->b=Ew d (AN d) ((AN d).getD j ByteArray.empty):=λj X b f w=>by
  have g:(AR d).getD j []∈Av (AR d):=R.subset (BD (by omega));unfold DT at w;rw[As,Gi (hf.wds _ g) (hf.wds b f),Gi (hf.wds b f) (hf.wds _ g)]at w;rw[<-JR d X];refine Zq (hf.wds b f) (hf.wds _ g) (Q.nrm b f) (Q.nrm _ g) λi=>?_;rw[ABX];exact⟨w.2 i,w.1 i⟩
 obtain⟨b,f,rfl⟩:=Dd.1 ad;show b=_;have e:Ac (G8 d (AN d) (AR d) b) s=true:=e;unfold G8 at e;cases C:sE d (AN d) (AR d) b (AN d).length 0 [] with
 | inl u =>
  rw[C]at e;obtain⟨j,-,I,af,rfl⟩:=t8 C;rw[ABf]at I;rw[<-aa (BD I) e];exact heq j I b f af
 | inr l =>
  exfalso;rw[C]at e;have e:Ac (dD (Ay d l)) s=true:=e;obtain⟨T,r⟩:=t9 C;rw[ABN]at r;have D:=hf.wds b f;have B:∀i,i<(AN d).length->BF b i=true->(AN d).getD i ByteArray.empty∈l:=λi hi U=>by
   rw[r];exact Do.2 ⟨i,AAC.2 ⟨List.mem_range'.2 ⟨i,hi,by simp⟩,by simpa[Tm D] using U⟩,rfl⟩
  have P:∀t∈l,∃i,i<(AN d).length/\t=(AN d).getD i ByteArray.empty/\BF b i=true:=λt h=>by
   rw[r]at h;obtain⟨i,hi,rfl⟩:=Do.1 h;obtain⟨S,H⟩:=AAC.1 hi;obtain⟨k,ao,ap⟩:=List.mem_range'.1 S;exact⟨i,by omega,rfl,by simpa[Tm D] using H⟩
  have Z:(List.range' 0 (AN d).length).map (λj=>(AN d).getD j ByteArray.empty)=AN d:=by
   apply AAU
   ·simp
   ·intro i S H;simp[AS,H]
  have J:sU l:=by
   rw[r];have:=Ve hn;rw[<-Z]at this;exact this.sublist (ACV.map _)
  obtain⟨E,A⟩:=hf.some b f;have G:∀i,BF b i=true->i<(AN d).length:=by
   have:=Z6 (q:=(AN d).length) (n:=257) (i:=0) (l:=AR d) (λc W=>by
    obtain⟨t,h,rfl⟩:=Do.1 W;exact⟨(Bt (d:=d) v t 0).2.1,λi hi=>((Bt (d:=d) v t i).1.1 hi).1⟩) b f
   exact this.2
  have K:∀t∈l,0<=Ao d t:=λt h=>by
   obtain⟨i,hi,rfl,-⟩:=P t h;exact LT (BD hi)
  obtain⟨m,g,-⟩:=Rz o J (B E (G E A) A) (K _ (B E (G E A) A));have am:0<(Ay d l).length:=ACz g;have Y:dD (Ay d l)=QC (Ay d l) (Ay d l).length:=rfl;rw[Y]at e;by_cases h1:(Ay d l).length=1
  ·obtain⟨p,M,rfl,V⟩:=P m (Hg g);have L:DT ((AR d).getD p []) b=true:=by
    have O:(AR d).getD p []∈Av (AR d):=R.subset (BD (by omega));unfold DT;rw[As,Gi (hf.wds _ O) D,Gi D (hf.wds _ O),JR d M];refine⟨λi hi=>?_,λi hi=>?_⟩
    ·obtain⟨ah,ai⟩:=(Bt (d:=d) v _ i).1.1 hi;exact(A7v o b f).2 p i V ah (Wg ai)
    ·have F:=G i hi;obtain⟨ag,N,hu⟩:=Rz o J (B i F hi) (K _ (B i F hi));have:ag=(AN d).getD p ByteArray.empty:=by
      obtain⟨a,ha⟩:=ABv.1 h1;rw[ha]at g N;rw[ABe.1 N,ABe.1 g]
     rw[this]at hu;exact(Bt (d:=d) v _ i).1.2 ⟨F,Wh (LT (BD M)) hu⟩
   rw[T p (Is _) (by omega)]at L;cases L
  ·have:=yG (l:=Ay d l) (n:=(Ay d l).length) (by omega);rw[Hq.1 e]at this;exact mA hn hs this
theorem Ym (s:ByteArray):∀(l:List AQ) (k:Nat),0<=MT s k l->∃j,j<l.length/\MT s k l=((k+j:Nat):Int)/\Ac (l.getD j c0).1 s=true
 | [],k,h=>by simp only[MT]at h;omega
 | x :: l,k,h=>by
  simp only[MT]at h ⊢;split
  ·rename_i e;exact⟨0,by simp,rfl,e⟩
  ·rename_i e;rw[At e]at h;obtain⟨j,c,a,b⟩:=Ym s l (k+1) h;exact⟨j+1,by simp only[OS];omega,by rw[a];congr 1;omega,by simpa using b⟩
theorem A2y (a:A4 d=0) (hf:JS (Av (AR d))) {s:ByteArray} (hs:s∈AN d):((AL d).getD (BK (AL d) s).toNat c0).2=Ew d (AN d) s:=by
 have h0:0<=BK (AL d) s:=G9 a (Fj hs);obtain⟨j,b,c,f⟩:=Ym s (AL d) 0 h0;have e:BK (AL d) s=((0+j:Nat):Int):=c;rw[e,ABf,gO];exact yH a (BD b) hf hs f
theorem Yn {s:ByteArray} (hn:Cl d=0):∀ {r:List AI} {o:List ByteArray} {x:AI},(∀y∈r,y∈d)->x∈d->((∃z∈o,Ac z x.1=true)\/(x∈r/\(DH x s).2=true))->∃z∈r.foldl (Ha s) o,Ac z x.1=true
 | [],o,x,_,_,h=>h.resolve_right λg=>by cases g.1
 | y :: r,o,x,f,i,h=>by
  rw[TO];refine Yn hn (λz a=>f z (by simp[a])) i ?_;rcases h with ⟨z,a,e⟩|⟨b,c⟩
  ·left;unfold Ha;split
   ·exact⟨z,NE a,e⟩
   ·exact⟨z,a,e⟩
  ·rcases By.1 b with rfl|b
   ·left;unfold Ha;rw[BY c];exact iS.1 (QA (l:=o) (s:=x.1))
   ·exact .inr ⟨b,c⟩
theorem Yo (f:Int):∀(a b:List (Int×Int)),Dx f (a++b)=if (Dx f a).2=true then Dx f a else Dx f b
 | [],_=>rfl
 | x :: a,b=>by
  have h1:Dx f (x :: a++b)=if x.1=f then (x.2,true) else Dx f (a++b):=rfl
  have c:Dx f (x :: a)=if x.1=f then (x.2,true) else Dx f a:=rfl
  rw[h1,c];split
  ·rfl
  ·exact Yo f a b
theorem uB (l:List AQ) (fs:List ByteArray) (t:Nat) (f:Int):∀n,Dx f (S6 d l fs t n)=if 0<=f/\f<(n:Int)/\(FA d l (t:Int) (fs.getD f.toNat ByteArray.empty)).2=true then (HL l (FA d l (t:Int) (fs.getD f.toNat ByteArray.empty)).1,true) else (0,false)
 | 0=>by
  rw[At (by omega)];rfl
 | n+1=>by
  rw[X4,Yo,uB l fs t f n];by_cases h:0<=f/\f<(n:Int)/\(FA d l (t:Int) (fs.getD f.toNat ByteArray.empty)).2=true
  ·rw[BY h,BY rfl,BY ⟨h.1,by omega,h.2.2⟩]
  ·rw[At h,At (by simp)];by_cases hn:f=(n:Int)
   ·subst hn;rw[gO];by_cases hi:(FA d l (t:Int) (fs.getD n ByteArray.empty)).2=true
    ·rw[BY hi,BY ⟨by omega,by omega,hi⟩];unfold Dx;rw[BY rfl]
    ·rw[At hi,At λg=>hi g.2.2];rfl
   ·have a:¬(0<=f/\f<((n+1:Nat):Int)/\(FA d l (t:Int) (fs.getD f.toNat ByteArray.empty)).2=true):=λg=>h ⟨g.1,by omega,g.2.2⟩;rw[At a];split
    ·unfold Dx;rw[At (λe=>hn e.symm)];rfl
    ·rfl
theorem Wi (e:Aw d=0) {t f:Int} (a:0<=t) (i:t<((AL d).length:Int)) (b:0<=f) (c:f<((BL d).length:Int)):B8 (Bn d) t f=if (FA d (AL d) t ((BL d).getD f.toNat ByteArray.empty)).2=true then (HL (AL d) (FA d (AL d) t ((BL d).getD f.toNat ByteArray.empty)).1,true) else (0,false):=by
 unfold B8;rw[A2q e a i,uB,ABz a];by_cases h:(FA d (AL d) t ((BL d).getD f.toNat ByteArray.empty)).2=true
 ·rw[BY ⟨b,c,h⟩,BY h]
 ·rw[At λg=>h g.2.2,At h]
theorem A60 (a:Aw d=0) {f:Int} (c:0<=f) (e:f<((BL d).length:Int)):KN (Bn d) f=BK (AL d) (De d ((BL d).getD f.toNat ByteArray.empty)).1:=by
 unfold KN;rw[Wa a];have b:f.toNat<(BL d).length:=by omega
 simp[AS,b,QG]
theorem AAa (b:Aw d=0):HAp (Bn d):=by
 obtain⟨c,-,S,F,-⟩:=l7 b;obtain⟨u,-,-⟩:=CC b;obtain⟨-,U,-⟩:=BU u;have T:=Va c U;obtain⟨an,ak,-,hn,al⟩:=Ax c;obtain⟨hk,am⟩:=A6u b;have I:=QF c S;have n:=aD d;have hF:(Bn d).2.length=(BL d).length:=by rw[Wa b,On]
 have E:∀s∈AN d,BN (Bn d) (BK (AL d) s)=Ew d (AN d) s:=λs hs=>by
  rw[NS d (G9 c (Fj hs)) (IW _ _),A2y c T hs]
 refine⟨λt f j l k g=>?_,λt w f j l A ai k g X q=>?_⟩
 ·rw[n]at l;rw[hF]at g;have hs:=BD (d:=ByteArray.empty) (show f.toNat<(BL d).length by omega);rw[Wi b j l k g,A60 b k g];generalize (BL d).getD f.toNat ByteArray.empty=s at *;obtain⟨v,-⟩:=Qh b j l hs;obtain⟨aj,aa,R,Y⟩:=Wc (F s hs);have hi:(if (FA d (AL d) t s).2=true then (HL (AL d) (FA d (AL d) t s).1,true) else ((0:Int),false)).2=true↔(FA d (AL d) t s).2=true:=by
   split<;>simp[*]
  rw[hi,v];constructor
  ·rintro⟨x,a,Z,W⟩;have hint:=F s hs;unfold De at hint ⊢;split at hint
   ·rename_i h1;rw[BY h1];obtain⟨ao,V⟩:=ABv.1 h1;obtain⟨z,u,C⟩:=Yn (d:=d) (s:=s) hn (r:=d) (o:=[]) (λy ad=>ad) a (.inr ⟨a,Z⟩);have ae:0<=Ao d z:=by rw[JP d C];exact Db a
    obtain⟨m,p,hu⟩:=Rz c (yF hn s) u ae;have hu:=Wf hu C;have e:(Ay d (FU d s)).getD 0 ByteArray.empty=m:=by
     rw[V]at p ⊢;rw[ABe.1 p];rfl
    rw[show ((Ay d (FU d s)).getD 0 ByteArray.empty,true).1=m from e];obtain⟨aq,K,B,-⟩:=(Rw (Hg p)).resolve_left (by simp);have H:m∈AN d:=by rw[<-B];exact Qm K hn
    have ab:=Qm a hn;obtain⟨n0,n1⟩:=Tq I a;have L:0<=BK (AL d) m:=G9 c (Fj H);have ap:=IW (AL d) m;refine GD hk L (by omega) n0 (by omega) j (by omega) ((BP hk L (by omega) n0 (by omega)).2 λi hi=>?_) W;unfold dY at hi ⊢;rw[E x.1 ab]at hi;rw[E m H];exact A5X c (by rw[<-B];exact Db K) hu hi
   ·cases hint
  ·intro h;rw[<-R]at h;exact⟨aj,aa,Y,h⟩
 ·have M:t<((AL d).length:Int):=by omega
  have N:w<((AL d).length:Int):=by omega
  rw[hF]at g;have hs:=BD (d:=ByteArray.empty) (show f.toNat<(BL d).length by omega);rw[Wi b j M k g]at q ⊢;rw[Wi b A N k g];generalize (BL d).getD f.toNat ByteArray.empty=s at *;obtain⟨v,af⟩:=Qh b j M hs;obtain⟨ag,ah⟩:=Qh b A N hs;have hi:(FA d (AL d) t s).2=true:=by
   split at q
   ·assumption
   ·cases q
  have J:∀x∈d,UsD d t s x->UsD d w s x:=λx a hu=>by
   obtain⟨n0,n1⟩:=Tq I a;exact⟨hu.1,GD hk n0 (by omega) j l A ai hu.2 X⟩
  have G:(FA d (AL d) w s).2=true:=by
   obtain⟨x,a,hu⟩:=v.1 hi;exact ag.2 ⟨x,a,J x a hu⟩
  rw[BY hi,BY G];obtain⟨⟨a0,O⟩,P⟩:=af hi;obtain⟨⟨Q,b1⟩,b2⟩:=ah G;refine(BP hk a0 (by rw[n];exact O) Q (by rw[n];exact b1)).2 λi D=>?_;unfold dY at D ⊢;exact(P i).2 λx a hu=>(b2 i).1 D x a (J x a hu)
theorem mB (d:List AI):HAp (Az d).1:=by
 by_cases a:Aw d=0
 ·rw[Tp a];exact AAa a
 ·have:(Az d).1=([],[]):=by
   unfold Az BC;rw[BY a,BY a]
  rw[this];exact⟨λt f c b=>by simp at b;omega,λt e f c b=>by simp at b;omega⟩
end
theorem Mo (d:List AI):(Az d).1.1.length<=256/\(Az d).1.2.length<=64:=by
 unfold Az;split
 ·exact⟨by simp,by simp⟩
 ·rename_i a;have a:(BC d).2=0:=DO a;have b:Aw d=0:=by
   unfold BC at a;split at a
   ·rename_i h;exact absurd a h
   ·rename_i h;exact DO h
  obtain⟨f,c,-⟩:=CC b;obtain⟨-,e,-⟩:=BU f;refine⟨?_,?_⟩
  ·show (Ed _ _ _).length<=256;rw[KL,IV];exact e
  ·show (EX d).1.length<=64;unfold EX;rw[At (by rw[b];simp)];show ((BL d).map (QG d)).length<=64;rw[On];exact c
theorem Sq {H:AJ} (q:H.1.length<=256) (r:H.2.length<=64) {f:List AE} (h:Jn H f=true):Ad f/\Og f/\0<f.length/\Ip H f/\EB f=true/\f.length<=12/\∀x∈f,∀a∈x.2,0<=a.1/\a.1<(H.2.length:Int):=by
 unfold Jn at h;rw[As,AAN]at h;obtain⟨l,c⟩:=h;unfold Co at c;split at c
 ·rename_i h1;exact absurd c h1
 ·rename_i h1;split at c
  ·cases c
  ·rename_i e;split at c
   ·cases c
   ·rename_i i;have h1:(A5 f).2=0:=DO h1;have e:f.all (TY H)=true:=by simpa using e
    have i:Cv f (A5 f).1=0:=by simpa using i
    have k:EB f=true:=by
     unfold EB;simp only[As,AAN];refine⟨⟨l,?_⟩,h1,?_⟩
     ·rw[IN]at e ⊢;intro x d;have:=e x d;unfold TY at this;rw[As,IS,IN]at this;unfold ndB;rw[As,IS,IN];refine⟨by omega,λa ha=>?_⟩;have:=this.2 a ha;unfold sO at this;rw[IS]at this;unfold ftB;rw[IS];omega
     ·rw[<-JU i];exact Gu f
    obtain⟨n,o,p,-⟩:=Mj k;have g:CG f=0:=by
     unfold A5 at h1;split at h1
     ·rename_i hh;exact hh
     ·exact h1
    have m:HC (f.length:Int) f=0:=by
     unfold CG at g;split at g
     ·cases g
     ·split at g
      ·cases g
      ·exact g
    refine⟨n,o,p,λx d=>?_,k,(Ma l).1,λx d a ha=>?_⟩
    ·have b:=IN.1 e x d;unfold TY at b;rw[As,IS]at b;exact⟨(Ic m x d).1,b.1⟩
    ·have b:=IN.1 e x d;unfold TY at b;rw[As,IN]at b;have j:=b.2 a ha;unfold sO at j;rw[IS]at j;exact⟨((Ic m x d).2 a ha).1,j⟩
theorem mC {f:List AE} (hf:Ad f):Cw f:=⟨hf.1,λx a=>(hf.2 x a).1⟩
structure H14 (h:AJ):Prop where
 ok:HO h
 inj:HP h
 ft:XA h
 nrm:Rv h
 ap:HAp h
 b1:h.1.length<=256
 b2:h.2.length<=64
theorem gD (d:List AI):H14 (Az d).1:=⟨HF d,Sf d,l9 d,λt a=>(WS d).nrm _ (Do.2 ⟨t,a,rfl⟩),mB d,(Mo d).1,(Mo d).2⟩
theorem h14 (d:List AI):H14 (Bh d):=by
 unfold Bh;split
 ·exact gD d
 ·exact gD IY
structure V14 (h:AJ) (f:List AE):Prop where
 inf:k9 h f
 small:Cw f
 len:f.length<=12
theorem AAb {h:AJ} (hh:H14 h) {f:List AE} (i:Jn h f=true):V14 h f:=by
 obtain⟨b,j,k,d,l,e,g⟩:=Sq hh.b1 hh.b2 i;refine⟨⟨hh.ok,hh.inj,hh.ft,Qo hh.b2 (by decide),b,λx c a ha=>⟨g x c a ha,(b.2 x c).2 a ha⟩,d⟩,⟨b.1,λx c=>(b.2 x c).1⟩,e⟩
theorem R0 {f:List AE} {ty:List Int} {x:AE} (b:x∈Ci f ty):∃i,i<f.length/\x=(ty.getD i 0,(f.getD i (0,[])).2):=by
 obtain⟨i,hi,rfl⟩:=List.getElem_of_mem b;have a:i<f.length:=by rw[Fm]at hi;exact hi
 refine⟨i,a,?_⟩;rw[<-KR f ty a,AS,AT hi];rfl
theorem Yp {α:Type} {f:List α} {i:Nat} (h:i<f.length) (d:α):f.getD i d∈f:=by
 rw[AS,AT h];exact AAR _
theorem AAO (h:AJ):(h.1,h.2)=h:=rfl
def FB (p:List Int) (n:Nat):List AE:=(List.range n).map λ(i:Nat)=>((0:Int),[(p.getD i 0,(i:Int)+1)])
def Cb (p:List Int) (g:List AE):List AE:=FB p p.length++g.map λx=>(x.1,Au p.length x.2)
theorem Sr (p:List Int) (n:Nat):FB p (n+1)=FB p n++[((0:Int),[(p.getD n 0,(n:Int)+1)])]:=by simp[FB,AAq]
theorem FY (p:List Int) (n:Nat):(FB p n).length=n:=by simp[FB]
def FtP (h:AJ) (p:List Int):Prop:=∀e∈p,0<=e/\e<(h.2.length:Int)
theorem A7w {f:List AE} (hf:Ad f) (hs:Og f) (h0:0<f.length) (a:EB f=true):RO f:=by
 have h1:=A5C hf hs h0 (λ_ _=>true)
 rwa [lD a λ_ _ _ _=>rfl]at h1
theorem A2z {h:AJ} (j:h.1.length<=256) (k:h.2.length<=64) {f:List AE} (l:Jn h f=true):VF h f/\f.length<=12:=by
 obtain⟨a,b,c,e,d,g,i⟩:=Sq j k l;exact⟨⟨a,c,e,λx m=>(Ij _).1 (b x m).1,i,Nv d,A7w a b c d⟩,g⟩
theorem VF.srt {h:AJ} (hu:HU h) {f:List AE} (a:VF h f):Og f:=λx b=>by
 have:=WO (a.str x b) (a.ft64 hu x b);exact⟨(Ij _).2 (a.str x b),by omega⟩
theorem VF.small {h:AJ} {f:List AE} (a:VF h f):Cw f:=mC a.good
theorem Ou (f:List AE) (ty:List Int) (n:Nat):((Ci f ty).getD n (0,[])).2=(f.getD n (0,[])).2:=by
 by_cases h:n<f.length
 ·rw[KR f ty h]
 ·rw[AS,iF (by rw[Fm];omega),AS,iF (by omega)]
theorem gE {f g:List AE} (h:∀n:Nat,(f.getD n (0,[])).2=(g.getD n (0,[])).2):∀(k:Nat) (o:List Int) (n:Int),Dq f k o n=Dq g k o n
 | 0,_,_=>rfl
 | k+1,o,n=>by
  have e:AZ f k=AZ g k:=by
   funext o a;unfold AZ;rw[gE h k o a.2]
  rw[CH,CH,h,e]
theorem mD {f:List AE} (hf:Ad f) (h0:0<f.length) (a:AP f 0=f):fL f:=by
 have:=(Z3 hf (r:=0) (by omega) (by omega)).2
 rwa [a]at this
theorem A2A {h:AJ} {f:List AE} (b:VF h f) {ty:List Int} (k:HV h f.length ty):VF h (Ci f ty):=by
 have c:=Fm f ty;have g:Ad (Ci f ty):=by
  refine⟨by rw[c];exact b.good.1,λx a=>?_⟩;obtain⟨i,hi,rfl⟩:=R0 a;rw[c];exact b.good.2 (f.getD i (0,[])) (Yp hi (0,[]))
 have hp:∀x∈Ci f ty,∃y∈f,x.2=y.2:=λx a=>by
  obtain⟨i,hi,rfl⟩:=R0 a;exact⟨_,Yp hi (0,[]),rfl⟩
 refine⟨g,by rw[c];exact b.pos,λx a=>?_,λx a=>?_,λx a=>?_,WH g ?_,λi l m=>?_⟩
 ·obtain⟨i,hi,rfl⟩:=R0 a;exact k.get hi
 ·obtain⟨y,d,e⟩:=hp x a;rw[e];exact b.str y d
 ·obtain⟨y,d,e⟩:=hp x a;rw[e];exact b.ft y d
 ·have:=mD b.good b.pos b.can;unfold fL at this ⊢;rw[c,gE (Ou f ty)];exact this
 ·obtain⟨j,n,o,x,a,e⟩:=b.ro i l (by rw[<-c];exact m);exact⟨j,n,o,x,by show x∈((Ci f ty).getD j.toNat (0,[])).2;rw[Ou];exact a,e⟩
theorem mE (f:List AE) (i:Nat):(A6 f).getD i 0=(f.getD i (0,[])).1:=by
 unfold A6;rw[AS,AA1,AS];cases f[i]?<;>rfl
section
variable {h:AJ} (hh:H14 h)
include hh
theorem H14.hu:HU h:=⟨hh.ok,hh.inj,hh.b2⟩
theorem A7x {f:List AE} (a:Jn h f=true):VF h f:=(A2z hh.b1 hh.b2 a).1
omit hh in
theorem uC {f:List AE} (b:VF h f):LO h f:=λx c a ha=>⟨b.ft x c a ha,(b.good.2 x c).2 a ha⟩
theorem A2B {f:List AE} (a:VF h f) {ty:List Int} (e:HR h f=some ty):VF h (Ci f ty)/\WTy h f ty/\HV h f.length ty/\Vx h f (Ci f ty) id:=by
 obtain⟨h1,g,d⟩:=We hh.ok hh.inj hh.ft hh.ap (uC a) a.ty e;refine⟨A2A a d,h1,d,rfl,λi b c=>⟨b,by rw[Fm];exact c⟩,λi b c=>?_,λi b c x j=>?_⟩
 ·have:=g i.toNat (by omega);rw[mE]at this;show A7 h _ ((Ci f ty).getD i.toNat (0,[])).1=true
  rwa [KR f ty (by omega)]
 ·show Oi ((Ci f ty).getD i.toNat (0,[])).2 x.1=x.2;rw[Ou];exact A7e (a.srt hh.hu) j
end
theorem gF {h:AJ} {f:List AE} {ty:List Int} (e:HR h f=some ty):BW h f=(Ci f ty,true):=by unfold BW;rw[e]
theorem gG {h:AJ} {f:List AE} (e:HR h f=none):BW h f=([],false):=by unfold BW;rw[e]
theorem uD {d:List AI} {l:List (List AE)} (h:YA (Bh d) l=true):∀x∈l,V14 (Bh d) x/\VF (Bh d) x:=λx a=>⟨AAb (h14 d) (IN.1 h x a),A7x (h14 d) (IN.1 h x a)⟩
def t6F (h:AJ) (ty:List Int) (n:Int) (a:Int×Int):Int×Bool:=Bq h (ty.getD n.toNat 0) (KN h a.1)
def yZ (h:AJ) (ty:List Int) (n:Int) (a:Int×Int):List Int:=ty.set n.toNat (t6F h ty n a).1
def u6F (h:AJ) (ty:List Int) (n:Int) (a:Int×Int):Int×Bool:=Bq h ((yZ h ty n a).getD a.2.toNat 0) (B8 h (t6F h ty n a).1 a.1).1
def z6F (h:AJ) (ty:List Int) (n:Int) (a:Int×Int):List Int:=(yZ h ty n a).set a.2.toNat (u6F h ty n a).1
def r6F (h:AJ) (ty:List Int) (n:Int) (a:Int×Int):Option (List Int):=if (t6F h ty n a).2=false then none else if (u6F h ty n a).2=false then none else some (z6F h ty n a)
def Iv (h:AJ) (n:Int):List (Int×Int)->List Int->Option (List Int)
 | [],ty=>some ty
 | a :: l,ty=>(r6F h ty n a).bind (Iv h n l)
def KY (h:AJ):List AE->Nat->List Int->Option (List Int)
 | [],_,ty=>some ty
 | x :: r,i,ty=>(Iv h (i:Int) x.2 ty).bind (KY h r (i+1))
def Lq (h:AJ) (f:List AE):Nat->List Int->Option (List Int)
 | 0,_=>none
 | k+1,ty=>(KY h f 0 ty).bind λa=>if a=ty then some a else Lq h f k a
def Hl (h:AJ) (f:List AE):Option (List Int):=Lq h f (Ii h f) (A6 f)
theorem Wj {α:Type} {p q:α->Bool}:∀ {l:List α},(∀x∈l,q x=true->p x=true)->(l.filter q).length<=(l.filter p).length
 | [],_=>NO _
 | y :: l,b=>by
  have d:=Wj (l:=l) λz c=>b z (If _ c);rw[AAE,AAE];by_cases a:q y=true
  ·rw[BY a,BY (b y (by simp) a)];simp only[OS];omega
  ·rw[At a];split
   ·simp only[OS];omega
   ·exact d
theorem yI {h:AJ} (hk:HO h) {a m:Int} (a0:0<=a) (c:a<(h.1.length:Int)) (d:0<=m) (f:m<(h.1.length:Int)) (hs:A7 h a m=true):eO h m<=eO h a :=
 Wj λx b e=>by
  have b:=oR.1 b;exact GD hk a0 c d f (AAp _) (by omega) hs e
theorem gH {h:AJ} (hk:HO h) (hi:HP h):∀ {u v:List Int},u.length=v.length->(∀t∈u,0<=t/\t<(h.1.length:Int))->(∀t∈v,0<=t/\t<(h.1.length:Int))->(∀i,i<u.length->A7 h (u.getD i 0) (v.getD i 0)=true)->NK h v<=NK h u/\(v≠u->NK h v<NK h u)
 | [],[],_,_,_,_=>⟨NO _,λe=>absurd rfl e⟩
 | [],_ :: _,e,_,_,_=>by cases e
 | _ :: _,[],e,_,_,_=>by cases e
 | a :: u,b :: v,e,hu,l,hs=>by
  obtain⟨m,j⟩:=gH hk hi (u:=u) (v:=v) (by simpa using e) (λt d=>hu t (by simp[d])) (λt d=>l t (by simp[d])) λi o=>hs (i+1) (by simp only[OS];omega);have h0:A7 h a b=true:=hs 0 (by simp);obtain⟨a0,f⟩:=hu a (by simp);obtain⟨g,b1⟩:=l b (by simp);have h1:=yI hk a0 f g b1 h0;have n:=λc=>s8 hk hi a0 f g b1 h0 c;unfold NK at m j ⊢;simp only[AAn,ADa];refine⟨by omega,λc=>?_⟩;by_cases k:b=a
  ·subst k;have:=j λe=>c (by rw[e]);omega
  ·have:=n k;omega
theorem uE {h:AJ} (hk:HO h) (hi:HP h) {m:Nat} {u v:List Int} (hu:HV h m u) (a:HV h m v) (hs:Fv h m u v):NK h v<=NK h u/\(v≠u->NK h v<NK h u) :=
 gH hk hi (hu.1.trans a.1.symm) hu.2 a.2 λi b=>hs i (by rw[<-hu.1];exact b)
theorem HV.set {h:AJ} {m:Nat} {u:List Int} (hu:HV h m u) {t:Int} (b:0<=t) (c:t<(h.1.length:Int)) (i:Nat):HV h m (u.set i t):=⟨by rw[AAD];exact hu.1,λx a=>by
 rcases ABM a with a|rfl
 ·exact hu.2 x a
 ·exact⟨b,c⟩⟩
theorem Fv.set {h:AJ} (hk:HO h) {m:Nat} {u:List Int} (hu:HV h m u) {t:Int} {i:Nat} (hi:i<m) (hs:A7 h (u.getD i 0) t=true):Fv h m u (u.set i t):=λk a=>by
 rw[Gk _ _ _ (by rw[hu.1];exact hi) k];split
 ·rename_i e;rw[e];exact hs
 ·exact Td hk (hu.get a).1 (hu.get a).2
theorem Fv.set2 {h:AJ} {m:Nat} {u v:List Int} (hu:u.length=m) (b:Fv h m u v) {t:Int} {i:Nat} (hi:i<m) (hs:A7 h t (v.getD i 0)=true):Fv h m (u.set i t) v:=λk a=>by
 rw[Gk _ _ _ (by rw[hu];exact hi) k];split
 ·rename_i e;rw[e];exact hs
 ·exact b k a
section
variable {h:AJ} (hk:HO h) (hn:Rv h) (hi:HP h) (hf:XA h) (hap:HAp h) {m:Nat}
include hk hn hi hf hap
theorem mF {n:Int} (n0:0<=n) (n1:n<(m:Int)) {ty i:List Int} (b:HV h m ty) {a:Int×Int} (ha:FM h m a) (e:r6F h ty n a=some i) :
  HV h m i/\Fv h m ty i/\(i=ty->(B8 h (ty.getD n.toNat 0) a.1).2=true/\A7 h (B8 h (ty.getD n.toNat 0) a.1).1 (ty.getD a.2.toNat 0)=true):=by
 obtain⟨⟨a0,r⟩,H,b1⟩:=ha;have l:n.toNat<m:=by omega
 have k:a.2.toNat<m:=by omega
 obtain⟨w,x⟩:=b.get l;obtain⟨y,z⟩:=HH hf a0 r;unfold r6F at e;split at e
 ·cases e
 ·rename_i h1;have h1:(t6F h ty n a).2=true:=by simpa using h1
  split at e
  ·cases e
  ·rename_i j;have j:(u6F h ty n a).2=true:=by simpa using j
   injection e with e
   obtain⟨p0,q,A,B⟩:=(Ft hk hn w x y z).1 h1;have c:HV h m (yZ h ty n a):=b.set p0 q _;have s:=(hap.iff _ _ p0 q a0 r).2 B;obtain⟨v0,v1⟩:=Ey hf p0 q s;obtain⟨C,D⟩:=c.get k;obtain⟨E,F,G,g⟩:=(Ft hk hn C D v0 v1).1 j;have t:HV h m (z6F h ty n a):=c.set E F _;have u:Fv h m ty (yZ h ty n a):=Fv.set hk b l A;have p:Fv h m (yZ h ty n a) (z6F h ty n a):=Fv.set hk c k G;subst e;refine⟨t,u.trans hk b c t p,λe=>?_⟩;have v:yZ h ty n a=ty:=Fv.anti hi c b (by rw[e]at p;exact p) u;have d:(yZ h ty n a).getD n.toNat 0=(t6F h ty n a).1:=by
    unfold yZ;rw[Gk _ _ _ (by rw[b.1];exact l),BY rfl]
   have f:(z6F h ty n a).getD a.2.toNat 0=(u6F h ty n a).1:=by
    unfold z6F;rw[Gk _ _ _ (by rw[c.1];exact k),BY rfl]
   rw[v]at d;rw[e]at f;replace d:=d.symm;replace f:=f.symm;have o:=s;change (B8 h (t6F h ty n a).1 a.1).2=true at o;change A7 h (B8 h (t6F h ty n a).1 a.1).1 (u6F h ty n a).1=true at g;rw[d]at o g;rw[f]at g;exact⟨o,g⟩
theorem A7y {n:Int} (n0:0<=n) (n1:n<(m:Int)) {ty u:List Int} (i:HV h m ty) (hu:HV h m u) (o:Fv h m ty u) {a:Int×Int} (ha:FM h m a) (B:(B8 h (u.getD n.toNat 0) a.1).2=true/\A7 h (B8 h (u.getD n.toNat 0) a.1).1 (u.getD a.2.toNat 0)=true) :
  ∃w,r6F h ty n a=some w/\Fv h m w u:=by
 have _:=hi;obtain⟨⟨a0,c⟩,G,b1⟩:=ha;have d:n.toNat<m:=by omega
 have b:a.2.toNat<m:=by omega
 obtain⟨j,k⟩:=i.get d;obtain⟨f,g⟩:=hu.get d;obtain⟨t,v⟩:=HH hf a0 c;obtain⟨p,A⟩:=B;obtain⟨h1,l⟩:=(Ft hk hn j k t v).2 _ f g (o _ d) ((hap.iff _ _ f g a0 c).1 p);obtain⟨p0,e,H,C⟩:=(Ft hk hn j k t v).1 h1;have r:HV h m (yZ h ty n a):=i.set p0 e _;have q:=(hap.iff _ _ p0 e a0 c).2 C;obtain⟨v0,v1⟩:=Ey hf p0 e q;obtain⟨w0,F⟩:=Ey hf f g p;have s:Fv h m (yZ h ty n a) u:=Fv.set2 i.1 o d l;obtain⟨D,E⟩:=r.get b;have z:=hap.mono _ _ a.1 p0 e f g a0 c l q;obtain⟨x,y⟩:=(Ft hk hn D E v0 v1).2 _ (hu.get b).1 (hu.get b).2 (s _ b) (GD hk v0 v1 w0 F (hu.get b).1 (hu.get b).2 z A);refine⟨z6F h ty n a,?_,Fv.set2 r.1 s b y⟩;unfold r6F;rw[At (by show ¬(Bq h _ _).2=false;rw[h1];simp),At (by show ¬(Bq h _ _).2=false;rw[show (Bq h ((yZ h ty n a).getD a.2.toNat 0) (B8 h (t6F h ty n a).1 a.1).1).2=true from x];simp)]
theorem Wk {n:Int} (n0:0<=n) (n1:n<(m:Int)):∀ {l:List (Int×Int)} {ty c:List Int},(∀a∈l,FM h m a)->HV h m ty->Iv h n l ty=some c->HV h m c/\Fv h m ty c/\(c=ty->Wd h ty n l)
 | [],ty,c,_,d,e=>by
  injection e with e
  subst e;exact⟨d,Fv.refl hk d,λ_ a ha=>by cases ha⟩
 | a :: l,ty,c,o,d,e=>by
  unfold Iv at e;cases g:r6F h ty n a with
  | none=>rw[g]at e;cases e
  | some Ju =>
   rw[g]at e;have e:Iv h n l Ju=some c:=e;obtain⟨j,p,s⟩:=mF hk hn hi hf hap n0 n1 d (o a (by simp)) g;obtain⟨q,i,t⟩:=Wk n0 n1 (λb f=>o b (If _ f)) j e;refine⟨q,p.trans hk d j q i,λk=>?_⟩;have r:Ju=ty:=Fv.anti hi j d (by rw[k]at i;exact i) p;subst r;intro b f;rcases By.1 f with rfl|f
   ·exact s rfl
   ·exact t k b f
theorem gI {n:Int} (n0:0<=n) (n1:n<(m:Int)) {u:List Int} (hu:HV h m u):∀ {l:List (Int×Int)} {ty:List Int},(∀a∈l,FM h m a)->HV h m ty->Fv h m ty u->Wd h u n l->∃j,Iv h n l ty=some j/\Fv h m j u
 | [],ty,_,_,e,_=>⟨ty,rfl,e⟩
 | a :: l,ty,d,g,e,i=>by
  obtain⟨Ju,f,h1⟩:=A7y hk hn hi hf hap n0 n1 g hu e (d a (by simp)) (i a (by simp));obtain⟨p,-,-⟩:=mF hk hn hi hf hap n0 n1 g (d a (by simp)) f;obtain⟨nN,k,o⟩:=gI n0 n1 hu (λb c=>d b (If _ c)) p h1 λb c=>i b (If _ c);exact⟨nN,by unfold Iv;rw[f];exact k,o⟩
theorem Wl:∀ {r:List AE} {i:Nat} {ty b:List Int},i+r.length<=m->(∀x∈r,∀a∈x.2,FM h m a)->HV h m ty->KY h r i ty=some b->HV h m b/\Fv h m ty b/\(b=ty->∀j,j<r.length->Wd h ty ((i+j:Nat):Int) (r.getD j (0,[])).2)
 | [],i,ty,b,_,_,c,e=>by
  injection e with e
  subst e;exact⟨c,Fv.refl hk c,λ_ j f=>by simp at f⟩
 | x :: r,i,ty,b,q,ha,c,e=>by
  simp only[OS]at q;unfold KY at e;cases d:Iv h (i:Int) x.2 ty with
  | none=>rw[d]at e;cases e
  | some Ju =>
   rw[d]at e;have e:KY h r (i+1) Ju=some b:=e;obtain⟨k,n,t⟩:=Wk hk hn hi hf hap (AAp _) (by omega) (ha x (by simp)) c d;obtain⟨o,g,u⟩:=Wl (by omega) (λy s=>ha y (If _ s)) k e;refine⟨o,n.trans hk c k o g,λl=>?_⟩;have p:Ju=ty:=Fv.anti hi k c (by rw[l]at g;exact g) n;subst p;intro j f;cases j with
   | zero=>exact t rfl
   | succ j =>
    have:=u l j (by simpa using f);rw[show i+1+j=i+(j+1) by omega]at this;exact this
theorem gJ {u:List Int} (hu:HV h m u):∀ {r:List AE} {i:Nat} {ty:List Int},i+r.length<=m->(∀x∈r,∀a∈x.2,FM h m a)->HV h m ty->Fv h m ty u->(∀j,j<r.length->Wd h u ((i+j:Nat):Int) (r.getD j (0,[])).2)->∃f,KY h r i ty=some f/\Fv h m f u
 | [],i,ty,_,_,_,b,_=>⟨ty,rfl,b⟩
 | x :: r,i,ty,n,ha,d,b,e=>by
  simp only[OS]at n;obtain⟨Ju,c,h1⟩:=gI hk hn hi hf hap (AAp i) (by omega) hu (ha x (by simp)) d b (e 0 (by simp));obtain⟨p,-,-⟩:=Wk hk hn hi hf hap (AAp i) (by omega) (ha x (by simp)) d c;obtain⟨nN,g,k⟩:=gJ hu (r:=r) (i:=i+1) (by omega) (λy o=>ha y (If _ o)) p h1 λj l=>by
   have:=e (j+1) (by simpa using l);rw[show i+(j+1)=i+1+j by omega]at this;exact this
  exact⟨nN,by unfold KY;rw[c];exact g,k⟩
end
section
variable {h:AJ} (hk:HO h) (hn:Rv h) (hi:HP h) (hf:XA h) (hap:HAp h) {f:List AE} (ha:LO h f)
include hk hn hi hf hap ha
theorem R1:∀ {k:Nat} {ty v:List Int},HV h f.length ty->Lq h f k ty=some v->WTy h f v/\Fv h f.length ty v/\HV h f.length v
 | 0,_,_,_,e=>by cases e
 | k+1,ty,v,c,e=>by
  unfold Lq at e;cases a:KY h f 0 ty with
  | none=>rw[a]at e;cases e
  | some Ju =>
   rw[a]at e;have e:(if Ju=ty then some Ju else Lq h f k Ju)=some v:=e;obtain⟨b,d,p⟩:=Wl hk hn hi hf hap (by omega) ha c a;split at e
   ·rename_i j;have m:Ju=v:=Option.some.inj e;subst j;subst m;refine⟨λi l=>?_,d,b⟩;have:=p rfl i l
    rwa [ABf]at this
   ·obtain⟨n,o,g⟩:=R1 b e;exact⟨n,d.trans hk c b g o,g⟩
theorem gK {u:List Int} (hu:HV h f.length u) (d:WTy h f u):∀ {k:Nat} {ty:List Int},HV h f.length ty->NK h ty<k->Fv h f.length ty u->∃v,Lq h f k ty=some v/\Fv h f.length v u
 | 0,ty,_,hp,_=>by omega
 | k+1,ty,b,hp,l=>by
  obtain⟨Ju,c,h1⟩:=gJ hk hn hi hf hap hu (r:=f) (i:=0) (by omega) ha b l λj g=>by rw[ABf];exact d j g
  obtain⟨e,m,-⟩:=Wl hk hn hi hf hap (by omega) ha b c;unfold Lq;rw[c];show ∃v,(if Ju=ty then some Ju else Lq h f k Ju)=some v/\_;by_cases a:Ju=ty
  ·rw[BY a];exact⟨Ju,rfl,h1⟩
  ·rw[At a];have:=(uE hk hi b e m).2 a;exact gK hu d e (by omega) h1
theorem A62 (c:∀x∈f,0<=x.1/\x.1<(h.1.length:Int)):Hl h f=HR h f:=by
 have h0:HV h f.length (A6 f):=(YN c).tyl;have hp:NK h (A6 f)<Ii h f:=by have:=Zw h f;omega
 cases e:HR h f with
 | some ty =>
  obtain⟨w,l,t⟩:=We hk hi hf hap ha c e;obtain⟨v,b,k⟩:=gK hk hn hi hf hap ha t w h0 hp l;obtain⟨i,g,d⟩:=R1 hk hn hi hf hap ha h0 b;obtain⟨nN,a,j⟩:=So hk hi hf hap ha c d i g;rw[e]at a;injection a with a
  subst a;unfold Hl;rw[b,Fv.anti hi d t k j]
 | none =>
  cases b:Hl h f with
  | none=>rfl
  | some v =>
   obtain⟨i,g,d⟩:=R1 hk hn hi hf hap ha h0 b;obtain⟨nN,a,-⟩:=So hk hi hf hap ha c d i g;rw[e]at a;cases a
end
section
attribute [local go_sem] WV Ns
def mG:Ae:={ ins:=[Es,Es],pre:=λ(a,b,_)=>List.length a=List.length b,out:=λ(a,b,_)=>[.p .bool (decide (a=b))],lend:=true }
theorem yJ (h:AJ) (hk:HO h) (hn:Rv h) (hf:XA h) (hap:HAp h) {m:Nat} {ty:List Int} (f:HV h m ty) {n:Int} (n0:0<=n) (n1:n<(m:Int)) {a:Int×Int} (ha:FM h m a) :
  BA Tryz.prog 45 [.p F7 h,.sr 1000000 T3 0 ty.length,.p T3 n,.p BE a] [(1000000,.arr 3 T3 ty)] [1000000]
  (λres t=>(r6F h ty n a=none/\res=.p .bool false/\∃c,t=[(1000000,.arr 3 T3 c)])\/∃c,r6F h ty n a=some c/\res=.p .bool true/\t=[(1000000,.arr 3 T3 c)]):=by
 have o:∀x∈h.1,x.2.1.length<=100000:=λx w=>Qo (hk.1.wid x.2.1 (Do.2 ⟨x,w,rfl⟩)) (by omega);obtain⟨⟨a0,d⟩,j,b1⟩:=ha;obtain⟨k,l⟩:=f.get (show n.toNat<m by omega);obtain⟨r,s⟩:=HH hf a0 d;have u:ty.length=m:=f.1;subst u;have q:r6F h ty n a=if (t6F h ty n a).2=false then none else if (u6F h ty n a).2=false then none else some (z6F h ty n a):=rfl
 have g:=Ft hk hn k l r s;refine Jh [0,1,2,3,4,7,8,9,10,11,13,14,32] [] [] Tryz.func45 Tryz.ntmps45 (AF f5 (AF A1A AH)) ?_;intro w0 K O0 ρ0 e C D;simp only[Aj];repeat'(first|exact trivial|refine eS rfl ?_|refine rX e ?_ ?_|refine rC ?_ ?_<;>intro b<;>try(cases b;done))
 ·exact⟨⟨n0,n1⟩,⟨a0,d⟩,⟨k,l⟩,⟨r,s⟩,o⟩
 ·refine Ev.ent (σ':=⟨[(8,.p .bool false)],[(1000000,.arr 3 T3 ty)]⟩) ?_ (AC [(1000000,.nm 1000000)] rfl rfl ?_ ?_);exact fM e [.tmp 8] (.p .bool false) eT (.inl ⟨by rw[q];exact BY b,rfl,ty,rfl⟩);all_goals exact eN
 ·exact⟨n0,n1⟩
 ·exact⟨(g.1 b).1,(g.1 b).2.1⟩
 ·obtain⟨p0,i,E,z⟩:=g.1 b;have y:HV h ty.length (yZ h ty n a):=f.set p0 i _;have v:=(hap.iff _ _ p0 i a0 d).2 z;obtain⟨v0,v1⟩:=Ey hf p0 i v;obtain⟨A,B⟩:=y.get (show a.2.toNat<ty.length by omega);exact⟨⟨j,b1⟩,⟨A,B⟩,⟨v0,v1⟩,o⟩
 ·exact⟨j,b1⟩
 ·refine Ev.ent (σ':=⟨[(8,.p .bool (u6F h ty n a).2)],[(1000000,.arr 3 T3 (z6F h ty n a))]⟩) ?_ (AC [(1000000,.nm 1000000)] rfl rfl ?_ ?_);refine fM e [.tmp 8] (.p .bool (u6F h ty n a).2) eT ?_
  ·rw[q,At (show ¬(t6F h ty n a).2=false by rw[show (t6F h ty n a).2=true from b];simp)];cases hu:(u6F h ty n a).2
   ·exact .inl ⟨by simp,rfl,_,rfl⟩
   ·exact .inr ⟨_,by simp,rfl,rfl⟩
  all_goals refine eM ?_
  ·rfl
  ·rfl
theorem A2D:Af Tryz.prog 46 mG:=by
 refine fK [0,1,4,5,9,20] Tryz.func46 Tryz.ntmps46 AH ?_;rintro w0 O0 ⟨a,b,u⟩ d ⟨⟨j,-⟩,-⟩ f;simp only[AO]at j;have f:List.length a=List.length b:=f;simp only[mG,AM];repeat'(first|exact trivial|refine eS rfl ?_|refine rX d ?_ ?_)
 refine AG (ι:={k:Nat//k<=List.length a/\(a:List Int).take k=(b:List Int).take k}) (λk=>⟨[(0,.p Es a),(1,.p Es b),(5,.p (.int .i64) (k.1:Int))],[]⟩) (λk=>List.length a-k.1) ⟨0,Is _,rfl⟩ (eW []) (λk=>?_)
 ·obtain⟨k,hk,h⟩:=k;repeat'(first|exact trivial|refine eS rfl ?_|refine AB ?_|refine rX d ?_ ?_|refine rC ?_ ?_<;>intro g<;>try(cases g;done))
  ·exact⟨by assumption,by rw[<-f];assumption⟩
  ·have c:k<List.length a:=by exact eV
   have l:(a:List Int)≠b:=λe=>g (by rw[e]);exact fI d [.tmp 4] (by rw[ACi l];exact eR)
  ·exact eV
  ·have c:k<List.length a:=by exact eV
   refine⟨⟨k+1,c,?_⟩,by simp only;omega,AC [] rfl rfl ?_ ?_⟩
   ·have e:List.getD a k 0=List.getD b k 0:=by simpa using g
    rw[AW (a:List Int) 0 c,AW (b:List Int) 0 (by omega),h,e]
   ·exact eN
   ·exact eN
  ·have c:k=List.length a:=by exact eV
   have i:(a:List Int)=b:=by
    rw[c,iN,f,iN]at h;exact h
   exact fI d [.tmp 4] (by rw[AC6 i];exact eR)
end
section
attribute [local go_sem] mG
theorem yK (h:AJ) (hk:HO h) (hn:Rv h) (hf:XA h) (hap:HAp h) (hi:HP h) (f:List AE) (ha:LO h f) (W:∀x∈f,0<=x.1/\x.1<(h.1.length:Int)) (ab:f.length<=100000) (V:∀x∈f,x.2.length<=100000) :
  BA Tryz.prog 19 [.p F7 h,.p D8 f] [] []
  (λres F=>(Hl h f=none/\res=.tup [.p D8 [],.p .bool false]/\F=[(4,.box 25 true [.p Dv []])])\/∃ty,Hl h f=some ty/\res=.tup [.ag [.sr 89 GH 0 f.length],.p .bool true]/\F=[(89,.arr 49 GH (Ci f ty)),(4,.box 25 true [.sr 89 GH 0 f.length])]):=by
 have h0:HV h f.length (A6 f):=(YN W).tyl;have S:NK h (A6 f)<Ii h f:=by have:=Zw h f;omega
 refine Jh [0,1,2,3,4,5,6,7,8,9,10,11,12,13,14,19,31,39,51,62,72] [] [] Tryz.func19 Tryz.ntmps19 (AF A2D AH) ?_;intro w0 K O0 ρ0 c af ah;simp only[Aj];repeat'(first|exact trivial|refine eS rfl ?_|refine rX c ?_ ?_)
 refine AG (ι:={i:Nat//i<=f.length}) (λi=>⟨[(2,.bp 2 [] 0),(3,.bp 3 [] 0),(4,.bp 4 [] 0),(6,.sr 30 T3 0 i.1),(7,.p (.int .i64) (i.1:Int))],[(2,.box 31 true [.p ST h.1,.p TQ h.2]),(3,.box 25 true [.p Dv f]),(4,.box 25 true [.raw (.slice none 0 0)]),(30,.arr 3 T3 ((A6 f).take i.1))]⟩) (λi=>f.length-i.1) ⟨0,Is _⟩ (eW [(2,.nm 2),(3,.nm 3),(4,.nm 4),(30,.nil)]) (λi=>?_)
 ·obtain⟨i,aa⟩:=i;repeat'(first|exact trivial|refine eS rfl ?_|refine AB ?_|refine rX c ?_ ?_|refine rC ?_ ?_<;>intro a<;>try(cases a;done))
  ·exact⟨a,by simp only[AO];omega⟩
  ·exact eV
  ·have s:i<f.length:=No.1 a;have tl:((A6 f).take i).length=i:=by rw[ON];simp[A6];omega
   have ts:(A6 f).take i++[(f.getD i (0,[])).1]=(A6 f).take (i+1):=by
    rw[AW (A6 f) 0 (by simpa[A6] using s)];simp[A6,AS,s]
   refine⟨⟨i+1,s⟩,by simp only;omega,AC [(2,.nm 2),(3,.nm 3),(4,.nm 4),(30,.nm 30)] rfl rfl ?_ ?_⟩
   ·simp only[<-ts];refine eM ?_;simp only[ACf,ADh]
   ·exact eN
  ·have s:i=f.length:=by
    have:=aT.1 a;omega
   subst s;rw[show (A6 f).take f.length=A6 f from An (by simp[A6])];refine AG (ι:={x:Bool×Nat×List Int//HV h f.length x.2.2/\x.2.1<=Ii h f/\((x.1=true/\Lq h f x.2.1 x.2.2=Hl h f/\NK h x.2.2<x.2.1)\/(x.1=false/\Hl h f=some x.2.2))}) (λx=>⟨[(2,.bp 2 [] 0),(3,.bp 3 [] 0),(4,.bp 4 [] 0),(6,.sr 30 T3 0 f.length),(8,.p .bool x.1.1)],[(2,.box 31 true [.p ST h.1,.p TQ h.2]),(3,.box 25 true [.p Dv f]),(4,.box 25 true [.raw (.slice none 0 0)]),(30,.arr 3 T3 x.1.2.2)]⟩) (λx=>(if x.1.1 then x.1.2.1+1 else 0)) ⟨(true,Ii h f,A6 f),h0,NO _,.inl ⟨rfl,rfl,S⟩⟩ (eW [(2,.nm 2),(3,.nm 3),(4,.nm 4),(30,.nm 30)]) (λx=>?_)
   ·obtain⟨⟨b,k,ty⟩,e,Q,E⟩:=x;simp only at e Q E ⊢;repeat'(first|exact trivial|refine eS rfl ?_|refine rX c ?_ ?_|refine rC ?_ ?_<;>intro a<;>try(cases a;done))
    ·have:=e.1;rw[ON];simp only[AO];omega
    ·obtain⟨G,m,ai⟩|⟨h1,-⟩:=E
     ·have A:ty.take f.length=ty:=An (ACI e.1);rw[A];obtain⟨k,rfl⟩:∃X,k=X+1:=⟨k-1,by omega⟩;refine AG (ι:={y:Nat×List Int//y.1<=f.length/\HV h f.length y.2/\Fv h f.length ty y.2/\KY h (f.drop y.1) y.1 y.2=KY h f 0 ty}) (λy=>⟨[(2,.bp 2 [] 0),(3,.bp 3 [] 0),(4,.bp 4 [] 0),(6,.sr 30 T3 0 f.length),(9,.sr 32 T3 0 f.length),(10,.p (.int .i64) (y.1.1:Int))],[(2,.box 31 true [.p ST h.1,.p TQ h.2]),(3,.box 25 true [.p Dv f]),(4,.box 25 true [.raw (.slice none 0 0)]),(30,.arr 3 T3 y.1.2),(32,.arr 3 T3 ty)]⟩) (λy=>f.length-y.1.1) ⟨(0,ty),Is _,e,Fv.refl hk e,rfl⟩ (AC [(2,.nm 2),(3,.nm 3),(4,.nm 4),(30,.nm 30),(32,.nm 32)] rfl rfl ?_ ?_) (λy=>?_)
      ·simp only[A,e.1];exact eN
      ·refine eM ?_;exact e.1
      ·obtain⟨⟨j,Ju⟩,H,o,C,g⟩:=y;simp only at H o C g ⊢;repeat'(first|exact trivial|refine eS rfl ?_|refine AB ?_|refine rX c ?_ ?_|refine rC ?_ ?_<;>intro a<;>try(cases a;done))
       ·exact a
       ·have v:j<f.length:=No.1 a;have I:f.getD j (0,[])∈f:=by
         rw[AS,AT v];exact AAR _
        have N:=ha _ I;have ad:=V _ I;have P:f.drop j=f.getD j (0,[]) :: f.drop (j+1):=by
         rw[Of v,AS,AT v];rfl
        rw[P]at g;have g:(Iv h (j:Int) (f.getD j (0,[])).2 Ju).bind (KY h (f.drop (j+1)) (j+1))=KY h f 0 ty:=g;generalize (f.getD j (0,[])).2=l at *;refine AG (ι:={z:Nat×List Int//z.1<=l.length/\HV h f.length z.2/\Fv h f.length ty z.2/\Iv h (j:Int) (l.drop z.1) z.2=Iv h (j:Int) l Ju}) (λz=>⟨[(2,.bp 2 [] 0),(3,.bp 3 [] 0),(4,.bp 4 [] 0),(6,.sr 30 T3 0 f.length),(9,.sr 32 T3 0 f.length),(10,.p (.int .i64) (j:Int)),(11,.p Ce l),(12,.p (.int .i64) (z.1.1:Int))],[(2,.box 31 true [.p ST h.1,.p TQ h.2]),(3,.box 25 true [.p Dv f]),(4,.box 25 true [.raw (.slice none 0 0)]),(30,.arr 3 T3 z.1.2),(32,.arr 3 T3 ty)]⟩) (λz=>l.length-z.1.1) ⟨(0,Ju),Is _,o,C,rfl⟩ (eW [(2,.nm 2),(3,.nm 3),(4,.nm 4),(30,.nm 30),(32,.nm 32)]) (λz=>?_)
        ·obtain⟨⟨q,nN⟩,T,r,D,d⟩:=z;simp only at T r D d ⊢;repeat'(first|exact trivial|refine eS rfl ?_|refine AB ?_|refine rX c ?_ ?_|refine rC ?_ ?_<;>intro a<;>try(cases a;done))
         ·have w:q<l.length:=No.1 a;have J:FM h f.length (l.getD q (0,0)):=N _ (by
           rw[AS,AT w];exact AAR _)
          have O:l.drop q=l.getD q (0,0) :: l.drop (q+1):=by
           rw[Of w,AS,AT w];rfl
          rw[O]at d;have d:(r6F h nN (j:Int) (l.getD q (0,0))).bind (Iv h (j:Int) (l.drop (q+1)))=Iv h (j:Int) l Ju:=d;refine cD 7 c ?_ ?_
          ·exact a
          ·refine rM c (yJ h hk hn hf hap r (AAp j) (by omega) J) [(1000000,.nm 30)] [] ?_ ?_ ?_
           ·refine eM ?_;exact r.1.symm
           ·exact eN
           ·rintro res F (⟨t,rfl,B,rfl⟩|⟨B,t,rfl,rfl⟩)
            ·refine⟨[(30,.nm 1000000)],.p .bool false,[(30,.arr 3 T3 B)],rfl,rfl,?_,?_,rfl,rfl,?_⟩
             ·exact eN
             ·exact eN
             ·refine rL c ?_ ?_
              ·trivial
              ·repeat'(first|exact trivial|refine eS rfl ?_|refine rX c ?_ ?_|refine rC ?_ ?_<;>intro a<;>try(cases a;done))
               have d:none=Iv h (j:Int) l Ju:=by rw[<-d,t];rfl
               have R:Hl h f=none:=by
                rw[<-m];unfold Lq;rw[<-g,<-d];rfl
               refine Ev.ent (σ':=⟨[(4,.bp 4 [] 0),(5,.p .bool false)],[(4,.box 25 true [.p Dv []])]⟩) ?_ (AC [(4,.nm 4)] rfl rfl ?_ ?_)
               ·exact fM c [.cell 4 25,.tmp 5] (.tup [.p D8 [],.p .bool false]) eT (.inl ⟨R,rfl,rfl⟩)
               ·exact eN
               ·exact eN
            ·obtain⟨M,Y,-⟩:=mF hk hn hi hf hap (AAp j) (by omega) r J t;rw[t]at d;refine⟨[(30,.nm 1000000)],.p .bool true,[(30,.arr 3 T3 B)],rfl,rfl,?_,?_,rfl,rfl,?_⟩
             ·exact eN
             ·exact eN
             ·refine rL c ?_ ?_
              ·trivial
              ·repeat'(first|refine eS rfl ?_|refine AB ?_|refine rX c ?_ ?_|refine rC ?_ ?_<;>intro a<;>try(cases a;done))
               ·exact eV
               ·exact⟨⟨(q+1,B),w,M,D.trans hk e r M Y,d⟩,by simp only;omega,eW [(2,.nm 2),(3,.nm 3),(4,.nm 4),(30,.nm 30),(32,.nm 32)]⟩
         ·exact eV
         ·have U:q=l.length:=by
           have:=aT.1 a;omega
          subst U;rw[ACe]at d;have d:some nN=Iv h (j:Int) l Ju:=d;rw[<-d]at g;exact⟨⟨(j+1,nN),v,r,D,g⟩,by simp only;omega,eW [(2,.nm 2),(3,.nm 3),(4,.nm 4),(30,.nm 30),(32,.nm 32)]⟩
       ·rw[A,An (ACI o.1),e.1,o.1]
       ·have n:j=f.length:=by
         have:=aT.1 a;omega
        subst n;rw[ACe]at g;have g:some Ju=KY h f 0 ty:=g;have Z:Ju.take f.length=Ju:=An (ACI o.1);have m:(if Ju=ty then some Ju else Lq h f k Ju)=Hl h f:=by
         rw[<-m]
         conv=>rhs;unfold Lq
         rw[<-g];rfl
        by_cases u:ty=Ju
        ·subst u;rw[BY rfl]at m;exact⟨⟨(false,k,ty),e,by show k<=_;omega,.inr ⟨rfl,m.symm⟩⟩,by simp[G],eW [(2,.nm 2),(3,.nm 3),(4,.nm 4),(30,.nm 30)]⟩
        ·rw[At (ADn u)]at m;have ae:=(uE hk hi e o C).2 (ADn u);refine⟨⟨(true,k,Ju),o,by show k<=_;omega,.inl ⟨rfl,m,by show NK h Ju<k;omega⟩⟩,by simp[G],AC [(2,.nm 2),(3,.nm 3),(4,.nm 4),(30,.nm 30)] rfl rfl ?_ ?_⟩
         ·exact eN
         ·refine eM ?_;rw[A,Z];simp[u]
     ·simp[a]at h1
    ·obtain⟨h1,-,-⟩|⟨-,m⟩:=E
     ·simp[a]at h1
     ·have L:(Ci f ty).length=f.length:=Fm f ty;refine AG (ι:={j:Nat//j<=f.length}) (λj=>⟨[(3,.bp 3 [] 0),(4,.bp 4 [] 0),(6,.sr 30 T3 0 f.length),(13,.bp 13 [] 0),(14,.p (.int .i64) (j.1:Int))],[(3,.box 25 true [.p Dv f]),(4,.box 25 true [.raw (.slice none 0 0)]),(13,.box 25 true [.sr 89 GH 0 j.1]),(30,.arr 3 T3 ty),(89,.arr 49 GH ((Ci f ty).take j.1))]⟩) (λj=>f.length-j.1) ⟨0,Is _⟩ (eW [(3,.nm 3),(4,.nm 4),(13,.nm 13),(30,.nm 30),(89,.nil)]) (λj=>?_)
      ·obtain⟨j,H⟩:=j;have tl:((Ci f ty).take j).length=j:=by rw[ON];omega
       repeat'(first|exact trivial|refine eS rfl ?_|refine AB ?_|refine rX c ?_ ?_|refine rC ?_ ?_<;>intro a<;>try(cases a;done))
       ·exact⟨a,a,by simp only[AO];omega⟩
       ·exact eV
       ·have n:j<f.length:=No.1 a;have ts:(Ci f ty).take j++[(ty.getD j 0,(f.getD j (0,[])).2)]=(Ci f ty).take (j+1):=by
         rw[AW (Ci f ty) (0,[]) (by rw[L];exact n),KR f ty n]
        refine⟨⟨j+1,n⟩,by simp only;omega,AC [(3,.nm 3),(4,.nm 4),(13,.nm 13),(30,.nm 30),(89,.nm 89)] rfl rfl ?_ ?_⟩
        ·simp only[<-ts];refine eM ?_;simp only[ACf,ADh]
        ·exact eN
       ·have n:j=f.length:=by
         have:=aT.1 a;omega
        subst n;rw[show (Ci f ty).take f.length=Ci f ty from An (ACI L)];refine Ev.ent (σ':=⟨[(4,.bp 4 [] 0),(5,.p .bool true)],[(89,.arr 49 GH (Ci f ty)),(4,.box 25 true [.sr 89 GH 0 f.length])]⟩) ?_ (AC [(89,.nm 89),(4,.nm 4)] rfl rfl ?_ ?_)
        ·exact fM c [.cell 4 25,.tmp 5] (.tup [.ag [.sr 89 GH 0 f.length],.p .bool true]) eT (.inr ⟨ty,m,rfl,rfl⟩)
        ·exact eN
        ·exact eN
end
section
noncomputable def Wm:Ae:={ ins:=[F7,D8,D8],pre:=λ(h,a,b,_)=>HU h/\VF h a/\VF h b/\List.length a+List.length b<=10000,out:=λ(h,a,b,_)=>[.p D8 (E0 h a b).1,.p .bool (E0 h a b).2] }
attribute [local go_sem] Wm
theorem A2E:Af Tryz.prog 58 Wm:=by
 refine fK [0,1,2,3,4,5,6,7,8,25] Tryz.func58 Tryz.ntmps58 AH ?_;rintro w0 O0 ⟨h,a,b,u⟩ c-⟨hu,e,f,H⟩;simp only[Wm,AM];repeat'(first|exact trivial|refine eS rfl ?_|refine rX c ?_ ?_)
 refine cP 3 c ?_ ?_
 ·trivial
 ·refine rM c (A1S h [] [] [] a e.good (by simp) rfl rfl) [(1,.nm 11),(2,.nil),(3,.nil),(4,.nil)] [] ?_ ?_ ?_
  ·exact eN
  ·simp only[YU];exact eN
  ·rintro _ _ ⟨rfl,rfl⟩;refine⟨[(11,.nm 1),(102,.nm 2),(103,.nm 3),(104,.nm 4)],.raw (.tuple #[]),[(11,.box 130 true [.p F7 h,.sr 102 T3 0 (Cz 0 a.length).length,.sr 103 T3 0 (DJ a a.length).length,.sr 104 Ce 0 (Fq 0 a a.length).length]),(102,.arr 3 T3 (Cz 0 a.length)),(103,.arr 3 T3 (DJ a a.length)),(104,.arr 47 Ce (Fq 0 a a.length))],rfl,rfl,?_,?_,rfl,rfl,CQ ?_⟩
   ·simp only[YU];exact eN
   ·exact eN
   ·have la:(Cz 0 a.length).length=a.length:=KT 0 a.length;have lt:(DJ a a.length).length=a.length:=by unfold DJ;rw[On,iN]
    have K:(Fq 0 a a.length).length=a.length:=by unfold Fq;rw[On,iN]
    repeat' refine eS rfl ?_
    refine cP 3 c ?_ ?_
    ·trivial
    ·refine rM c (A1S h (Cz 0 a.length) (DJ a a.length) (Fq 0 a a.length) b f.good (by omega) (by omega) (by omega)) [(1,.nm 11),(2,.nm 102),(3,.nm 103),(4,.nm 104)] [102,103,104] ?_ ?_ ?_
     ·exact eN
     ·simp only[YU];exact eN
     ·rintro _ _ ⟨rfl,rfl⟩;rw[la,xU,lL,xW];rw[show a.length+b.length=(Ap a b).length from (Ds a b).symm];have G:=Ds a b;have y:=LS e.good f.good (by omega);have A:=A5N y (WM e.ty f.ty) (KU e.str f.str);have q:=WN (e.ft64 hu) (f.ft64 hu);have J:=lM (N:=Ap a b) λx m=>WO (KU e.str f.str x m) (q x m);have hap:=e.pos;have I:=f.pos;have D:=λp ty ar z l=>tM e f (p:=p) (ty:=ty) (ar:=ar) z l;have B:=Ya e f;generalize Cz 0 (Ap a b).length=p0 at *;generalize Om (Ap a b)=t at *;generalize WL (Ap a b)=s at *;refine⟨[(11,.nm 1),(102,.nm 2),(103,.nm 3),(104,.nm 4)],.raw (.tuple #[]),[(11,.box 130 true [.p F7 h,.sr 102 T3 0 p0.length,.sr 103 T3 0 t.length,.sr 104 Ce 0 s.length]),(102,.arr 3 T3 p0),(103,.arr 3 T3 t),(104,.arr 47 Ce s)],rfl,rfl,?_,?_,rfl,rfl,CQ ?_⟩
      ·simp only[YU];exact eN
      ·exact eN
      ·repeat' refine eS rfl ?_
       refine cP 4 c ?_ ?_
       ·trivial
       ·refine rM c (A5J h hu.ok A (a:=0) (b:=(a.length:Int)) (by omega) (by omega) (by omega) (by omega)) [(101,.nm 11),(102,.nm 102),(103,.nm 103),(104,.nm 104)] [102,103,104] ?_ ?_ ?_
        ·exact eN
        ·simp only[tJ];exact eN
        ·rintro res F (⟨rfl,g,j,i,rfl,d⟩|⟨rfl,⟨g,j,i,rfl⟩,C⟩)
         ·have l:=fR d (by omega) q;have o:=Sl hu (D g j i d l);refine⟨[(11,.nm 101),(102,.nm 102),(103,.nm 103),(104,.nm 104)],.p .bool true,[(11,.box 130 true [.p F7 h,.sr 102 T3 0 g.length,.sr 103 T3 0 j.length,.sr 104 Ce 0 i.length]),(102,.arr 3 T3 g),(103,.arr 3 T3 j),(104,.arr 47 Ce i)],rfl,rfl,?_,?_,rfl,rfl,?_⟩
          ·simp only[tJ];exact eN
          ·exact eN
          ·refine rL c ?_ ?_
           ·trivial
           ·repeat'(first|refine eS rfl ?_|refine rC ?_ ?_<;>intro n<;>try(cases n;done))
            refine cP 1 c ?_ ?_
            ·trivial
            ·refine rM c (A22 h d.fo l (by rw[d.lt,d.lp]) (by rw[d.la,d.lp]) (λk x m=>by rw[d.lp];exact(d.arr k x m).1) (r:=0) (by omega) (by rw[d.lp];omega)) [(101,.nm 11),(102,.nm 102),(103,.nm 103),(104,.nm 104)] [11,102,103,104] ?_ ?_ ?_
             ·exact eN
             ·simp only[tJ];exact eN
             ·rintro _ F rfl;refine⟨[],.p D8 (AP (quo g j i) (Ej g 0)),[],rfl,rfl,?_,?_,rfl,rfl,?_⟩
              ·exact eN
              ·exact eN
              ·refine rL c ?_ ?_
               ·trivial
               ·repeat' refine eS rfl ?_
                exact fI c [.cell 6 25,.tmp 7] (by rw[o];exact eR)
         ·have o:=B (λX v w E=>C X v w E);refine⟨[(11,.nm 101),(102,.nm 102),(103,.nm 103),(104,.nm 104)],.p .bool false,[(11,.box 130 true [.p F7 h,.sr 102 T3 0 g.length,.sr 103 T3 0 j.length,.sr 104 Ce 0 i.length]),(102,.arr 3 T3 g),(103,.arr 3 T3 j),(104,.arr 47 Ce i)],rfl,rfl,?_,?_,rfl,rfl,?_⟩
          ·simp only[tJ];exact eN
          ·exact eN
          ·refine rL c ?_ ?_
           ·trivial
           ·repeat'(first|exact trivial|refine eS rfl ?_|refine rX c ?_ ?_|refine rC ?_ ?_<;>intro n<;>try(cases n;done))
            exact fI c [.cell 6 25,.tmp 7] (by rw[o];exact eR)
end
section
attribute [local go_sem] lO lR
def aG:Ae:={ ins:=[Dv,Es],pre:=λ(l,c,_)=>Ad l/\List.length c=List.length l/\(∀x∈(c:List Int),0<=x/\x<(List.length l:Int)),out:=λ(l,c,_)=>[.p Es (Ro l c)] }
attribute [local go_sem] aG
def arI (l:List AE) (i:Nat):List (List (Int×Int)):=GS (l.take i)++List.replicate (l.length-i) []
theorem uF {l:List AE} {i:Nat} (h:i<l.length):(arI l i).set i (l.getD i (0,[])).2=arI l (i+1):=by
 unfold arI;have a:(GS (l.take i)).length=i:=by simp[GS];omega
 rw[ABg _ _ (by omega),a,AB7,show l.length-i=(l.length-(i+1))+1 by omega,ACp,ABF,AW l (0,[]) h];simp[GS]
theorem A2F (l:List AE):arI l l.length=GS l:=by
 unfold arI;simp
theorem A2G (l:List AE):arI l 0=List.replicate l.length []:=by
 unfold arI;simp[GS]
def mgI (o:List Int) (hi lo:Int) (k:Nat):List Int:=(o.take k).map (Hk hi lo)++o.drop k
theorem uG {o:List Int} {hi lo:Int} {k:Nat} (h:k<o.length):(mgI o hi lo k).getD k 0=o.getD k 0:=by
 unfold mgI;rw[AS,AAl (by simp;omega)];simp only[On,ON,ABk (ACj h),AB7,AAZ,ADi];rw[AS]
theorem A2I {o:List Int} {hi lo:Int} {k:Nat} (h:k<o.length) (e:o.getD k 0≠hi):mgI o hi lo (k+1)=mgI o hi lo k:=by
 unfold mgI;rw[AW o 0 h,AAs,List.map_singleton,HT e,oF]
 congr 1
 rw[Of h,AS,AT h];rfl
theorem A63 {o:List Int} {hi lo:Int} {k:Nat} (h:k<o.length) (e:o.getD k 0=hi):mgI o hi lo (k+1)=(mgI o hi lo k).set k lo:=by
 unfold mgI;rw[ABg _ _ (by simp;omega)];simp only[On,ON,ABk (ACj h),AB7];rw[Of h,ABF,AW o 0 h,AAs,List.map_singleton,e,Ir,oF];rfl
theorem A2J (o:List Int) (hi lo:Int):mgI o hi lo o.length=o.map (Hk hi lo):=by
 unfold mgI;simp
theorem A2K:Af Tryz.prog 86 aG:=by
 refine fK [0,1,4,5,6,7,8,9,10,11,12,13,14,15,16,17,27,43,56,95,99,107,124,144] Tryz.func86 Tryz.ntmps86 (AF A29 (AF A2b AH)) ?_;rintro w0 O0 ⟨l,c,u⟩ g-⟨z,b,R⟩;simp only[aG,AM];have ab:=z.1;repeat'(first|exact trivial|refine eS rfl ?_|refine rX g ?_ ?_)
 ·exact eV
 ·simp only[AO];exact eV
 ·rw[<-A2G];rw[C0];refine AG (ι:={i:Nat//i<=l.length}) (λi=>⟨[(0,.p Dv l),(1,.p Es c),(5,.sr 20 T3 0 l.length),(6,.sr 23 Ce 0 l.length),(7,.sr 52 Ji 0 (E1 c i.1).length),(8,.p (.int .i64) (i.1:Int))],[(20,.arr 3 T3 (A1 l.length)),(23,.arr 47 Ce (arI l i.1)),(52,.arr 166 Ji (E1 c i.1))]⟩) (λi=>l.length-i.1) ⟨0,by omega⟩ (AC [(20,.nm 20),(23,.nm 23),(52,.nil)] rfl rfl ?_ ?_) (λi=>?_)
  ·refine eM ?_;rfl
  ·refine eM ?_;rfl
  ·obtain⟨i,hi⟩:=i;have af:=xY c i;repeat'(first|exact trivial|refine eS rfl ?_|refine AB ?_|refine rX g ?_ ?_|refine rC ?_ ?_<;>intro a<;>try(cases a;done))
   ·exact a
   ·rw[b];exact a
   ·refine⟨by rw[b];assumption,?_⟩;simp only[AO];omega
   ·exact eV
   ·have j:i<l.length:=by exact eV
    have L:c.getD i 0≠(i:Int):=a;refine⟨⟨i+1,by omega⟩,by simp only;omega,AC [(20,.nm 20),(23,.nm 23),(52,.nm 52)] rfl rfl ?_ ?_⟩
    ·simp only;rw[fZ L,<-uF j];exact eN
    ·refine eM ?_;rw[fZ L,GO];rfl
   ·exact eV
   ·have j:i<l.length:=by exact eV
    have F:c.getD i 0=(i:Int):=by simpa using a
    refine⟨⟨i+1,by omega⟩,by simp only;omega,AC [(20,.nm 20),(23,.nm 23),(52,.nm 52)] rfl rfl ?_ ?_⟩
    ·simp only;rw[f3 F,<-uF j];exact eN
    ·refine eM ?_;rw[f3 F]
   ·have j:i=l.length:=by exact eV
    subst j;rw[A2F];have Q:=f4 z R b;have ag:=lW z;have P:Jr (Oq (A1 l.length) (GS l)+(E1 c l.length).length) (A1 l.length) (GS l) (E1 c l.length)=Ro l c:=rfl;generalize E1 c l.length=M at *;generalize A1 l.length=Y at *;generalize GS l=N at *;generalize Ro l c=res at *;generalize List.length l=n at *;refine AG (ι:={s:(List Int×List (List (Int×Int)))×(List (Int×Int)×Nat)//CI n s.1.1 s.1.2 s.2.1/\s.2.2<=s.2.1.length/\s.2.1.length+Oq s.1.1 s.1.2<=10000100000/\Jr (Oq s.1.1 s.1.2+(s.2.1.length-s.2.2)) s.1.1 s.1.2 (s.2.1.drop s.2.2)=res}) (λs=>⟨[(5,.sr 20 T3 0 n),(6,.sr 23 Ce 0 n),(7,.sr 52 Ji 0 s.1.2.1.length),(9,.p (.int .i64) (s.1.2.2:Int))],[(20,.arr 3 T3 s.1.1.1),(23,.arr 47 Ce s.1.1.2),(52,.arr 166 Ji s.1.2.1)]⟩) (λs=>Oq s.1.1.1 s.1.1.2+(s.1.2.1.length-s.1.2.2)) ⟨((Y,N),(M,0)),Q,by simp,by simp only;omega,by simpa using P⟩ (eW [(20,.nm 20),(23,.nm 23),(52,.nm 52)]) (λs=>?_)
    ·obtain⟨⟨⟨o,ar⟩,⟨T,i⟩⟩,e,hi,B,b⟩:=s;simp only at e hi B b;simp only;have A:=e.lo;have ha:=e.la;have f:i<T.length->(0<=(T.getD i (0,0)).1/\(T.getD i (0,0)).1<(n:Int))/\(0<=(T.getD i (0,0)).2/\(T.getD i (0,0)).2<(n:Int)):=λh=>e.wr _ (AD T (0,0) h);have E:i<T.length->T.drop i=T.getD i (0,0) :: T.drop (i+1):=λh=>by
      rw[Of h,AS,AT h];rfl
     have G:i<T.length->Oq o ar+(T.length-i)=(Oq o ar+(T.length-(i+1)))+1:=λh=>by omega
     generalize y:T.getD i (0,0)=w at *;have K:(if o.getD (Int.toNat w.2) 0<o.getD (Int.toNat w.1) 0 then o.getD (Int.toNat w.2) 0 else o.getD (Int.toNat w.1) 0)=ET o w.1 w.2:=rfl;have I:(if o.getD (Int.toNat w.1) 0<o.getD (Int.toNat w.2) 0 then o.getD (Int.toNat w.2) 0 else o.getD (Int.toNat w.1) 0)=CY o w.1 w.2:=rfl;repeat'(first|exact trivial|refine eS rfl ?_|refine AB ?_|refine rX g ?_ ?_|refine rC ?_ ?_<;>intro a<;>try(cases a;done))
     ·have h1:i<T.length:=by exact eV
      rw[y];have:=f h1;exact⟨a,this.1,a,this.2⟩
     ·have h1:i<T.length:=by exact eV
      rw[y];have:=f h1;exact⟨a,this.1,a,this.2⟩
     ·have h1:i<T.length:=by exact eV
      have:T.length<=10000100000:=by omega
      omega
     ·have h1:i<T.length:=by exact eV
      rw[y,K,I]at a;refine⟨⟨((o,ar),(T,i+1)),e,by simp only;omega,B,?_⟩,by simp only;omega,AC [(20,.nm 20),(23,.nm 23),(52,.nm 52)] rfl rfl ?_ ?_⟩
      ·simp only;rw[E h1,G h1]at b;simp only[Jr]at b;rw[BY a]at b;exact b
      ·exact eN
      ·exact eN
     ·have h1:i<T.length:=by exact eV
      rw[y,K,I]at a ⊢;have f:=f h1;have d:=A2d e f.1.1 f.1.2 f.2.1 f.2.2 a;have O:=fY e d;have ai:=WU e d;have ah:=A2e e d;rw[E h1,G h1]at b;simp only[Jr]at b;rw[At a]at b;have W:CL o w.1 w.2=o.map (Hk (CY o w.1 w.2) (ET o w.1 w.2)):=rfl;have ad:=KV o w.1 w.2;generalize ET o w.1 w.2=lo at *;generalize CY o w.1 w.2=hh at *;refine AG (ι:={k:Nat//k<=o.length}) (λk=>⟨[(5,.sr 20 T3 0 n),(6,.sr 23 Ce 0 n),(7,.sr 52 Ji 0 T.length),(9,.p (.int .i64) (i:Int)),(10,.p T3 lo),(11,.p T3 hh),(12,.p (.int .i64) (k.1:Int))],[(20,.arr 3 T3 (mgI o hh lo k.1)),(23,.arr 47 Ce ar),(52,.arr 166 Ji T)]⟩) (λk=>o.length-k.1) ⟨0,by omega⟩ (AC [(20,.nm 20),(23,.nm 23),(52,.nm 52)] rfl rfl ?_ ?_) (λk=>?_)
      ·refine eM ?_;rfl
      ·exact eN
      ·obtain⟨k,hk⟩:=k;simp only;repeat'(first|exact trivial|refine eS rfl ?_|refine AB ?_|refine rX g ?_ ?_|refine rC ?_ ?_<;>intro a<;>try(cases a;done))
       ·exact a
       ·assumption
       ·exact eV
       ·have q:k<o.length:=by rw[A];exact eV
        rw[uG q]at a;refine⟨⟨k+1,by omega⟩,by simp only;omega,AC [(20,.nm 20),(23,.nm 23),(52,.nm 52)] rfl rfl ?_ ?_⟩
        ·simp only;rw[A63 q a];exact eN
        ·exact eN
       ·exact eV
       ·have q:k<o.length:=by rw[A];exact eV
        rw[uG q]at a;refine⟨⟨k+1,by omega⟩,by simp only;omega,AC [(20,.nm 20),(23,.nm 23),(52,.nm 52)] rfl rfl ?_ ?_⟩
        ·simp only;rw[A2I q a];exact eN
        ·exact eN
       ·refine⟨⟨d.l0,Int.lt_trans d.lt d.h1⟩,?_⟩;simp only[AO];dsimp only[Ty.den]at *;omega
       ·have V:k=o.length:=by rw[A]at hk ⊢;exact eV
        subst V;rw[A2J,<-W];have C:Fs (ar.getD lo.toNat []) ((ar.getD hh.toNat []).take 0)=ar.getD lo.toNat []:=by simp[Fs]
        have D:Eb (ar.getD lo.toNat []) ((ar.getD hh.toNat []).take 0)=[]:=by simp[Eb]
        have aa:=WT (ar.getD lo.toNat []) (ar.getD hh.toNat []);refine AG (ι:={k:Nat//k<=(ar.getD hh.toNat []).length}) (λk=>⟨[(5,.sr 20 T3 0 n),(6,.sr 23 Ce 0 n),(7,.sr 52 Ji 0 (T++Eb (ar.getD lo.toNat []) ((ar.getD hh.toNat []).take k.1)).length),(9,.p (.int .i64) (i:Int)),(10,.p T3 lo),(11,.p T3 hh),(13,.sr 112 BE 0 (Fs (ar.getD lo.toNat []) ((ar.getD hh.toNat []).take k.1)).length),(14,.p (.int .i64) (k.1:Int))],[(20,.arr 3 T3 (CL o w.1 w.2)),(23,.arr 47 Ce ar),(52,.arr 166 Ji (T++Eb (ar.getD lo.toNat []) ((ar.getD hh.toNat []).take k.1))),(112,.arr 53 BE (Fs (ar.getD lo.toNat []) ((ar.getD hh.toNat []).take k.1)))]⟩) (λk=>(ar.getD hh.toNat []).length-k.1) ⟨0,by omega⟩ (AC [(20,.nm 20),(23,.nm 23),(52,.nm 52),(112,.nm 112)] rfl rfl ?_ ?_) (λk=>?_)
        ·simp only;rw[C,D,AAu];exact eN
        ·simp only;rw[C,D,AAu];exact eN
        ·obtain⟨k,hk⟩:=k;simp only;have Z:=WT (ar.getD lo.toNat []) ((ar.getD hh.toNat []).take k);have ae:=AAL k (ar.getD hh.toNat []);have t:=λ(h:k<(ar.getD hh.toNat []).length)=>AW (ar.getD hh.toNat []) (0,0) h;have v:=λ(x:Int×Int) (h:(EU (ar.getD lo.toNat []) x.1).2=true)=>Z7 (h:=(ar.getD hh.toNat []).take k) h;have r:=λ(x:Int×Int) (h:(EU (ar.getD lo.toNat []) x.1).2=false)=>Z8 (h:=(ar.getD hh.toNat []).take k) h;have H:0<=hh/\hh<(n:Int):=⟨ABJ d.l0 (ADk d.lt),d.h1⟩;have J:0<=lo/\lo<(n:Int):=⟨d.l0,Int.lt_trans d.lt d.h1⟩;repeat'(first|exact trivial|refine eS rfl ?_|refine AB ?_|refine rX g ?_ ?_|refine rC ?_ ?_<;>intro a<;>try(cases a;done))
         ·exact H
         ·exact⟨H,a⟩
         ·exact J
         ·simp only[AO];dsimp only[Ty.den]at *;omega
         ·exact eV
         ·have m:k<(ar.getD hh.toNat []).length:=by exact eV
          refine⟨⟨k+1,by omega⟩,by simp only;omega,AC [(20,.nm 20),(23,.nm 23),(52,.nm 52),(112,.nm 112)] rfl rfl ?_ ?_⟩
          ·simp only;rw[t m,(v _ a).1,(v _ a).2,<-oF];exact eN
          ·simp only;rw[t m,(v _ a).1,(v _ a).2,<-oF];exact eN
         ·simp only[AO];dsimp only[Ty.den]at *;omega
         ·exact eV
         ·have m:k<(ar.getD hh.toNat []).length:=by exact eV
          refine⟨⟨k+1,by omega⟩,by simp only;omega,AC [(20,.nm 20),(23,.nm 23),(52,.nm 52),(112,.nm 112)] rfl rfl ?_ ?_⟩
          ·simp only;rw[t m,(r _ a).1,(r _ a).2];exact eN
          ·simp only;rw[t m,(r _ a).1,(r _ a).2];exact eN
         ·exact J
         ·have h1:i<T.length:=by exact eV
          have:T.length<=10000100000:=by omega
          omega
         ·have h1:i<T.length:=by exact eV
          have U:(ar.getD hh.toNat []).take k=ar.getD hh.toNat []:=An (by exact eV);rw[U];refine⟨⟨((CL o w.1 w.2,ar.set lo.toNat (Fs (ar.getD lo.toNat []) (ar.getD hh.toNat []))),(T++Eb (ar.getD lo.toNat []) (ar.getD hh.toNat []),i+1)),O,by simp only[GO];omega,by simp only[GO];omega,?_⟩,by simp only[GO];omega,AC [(20,.nm 20),(23,.nm 23),(52,.nm 52)] rfl rfl ?_ ?_⟩
          ·simp only;rw[List.drop_append_of_le_length (by omega),<-b]
           congr 1
           simp only[GO];omega
          ·exact eN
          ·exact eN
     ·have S:T.drop i=[]:=IF (by exact eV);rw[S,lV]at b;subst b;have X:o.take n=o:=An (by omega);exact fI g [.tmp 4] (by first|exact eR|refine cG ?_;exact X)
end
def Mp (f:List AE):List AE:=f.map λx=>(x.1,AU x.2)
theorem NT (f:List AE):(Mp f).length=f.length:=by simp[Mp]
theorem R2 (f:List AE) (k:Nat):(Mp f).getD k (0,[])=((f.getD k (0,[])).1,AU (f.getD k (0,[])).2):=by
 unfold Mp;rw[AS,AA1,AS];cases f[k]?<;>rfl
theorem mH {l:List (Int×Int)} (h:(l.map (·.1)).Nodup):(AU l).Pairwise (λa b=>a.1<b.1):=by
 have hp:=B6 l;have h1:=Lp l;have c:((AU l).map (·.1)).Nodup:=((hp.map _).nodup_iff).2 h;rw[List.Nodup,ABc]at c;exact(h1.and c).imp λ⟨a,b⟩=>by omega
theorem Yq {l:List (Int×Int)} (h:(l.map (·.1)).Nodup):AU (AU l)=AU l:=JT ((Ij _).2 (mH h))
theorem Ss {f:List AE} (h:∀k,((f.getD k (0,[])).2.map (·.1)).Nodup):∀(k:Nat) (s:List Int×List Int) (n:Int),Dg (Mp f) k s n=Dg f k s n
 | 0,_,_=>rfl
 | k+1,s,n=>by
  rw[Dw,Dw,R2,Yq (h _)]
  congr 1
  funext t a;unfold EO;rw[Ss h k]
theorem mI {f:List AE} (h:∀k,((f.getD k (0,[])).2.map (·.1)).Nodup) (root:Int):Fl (Mp f) root=Fl f root:=by
 unfold Fl F9;rw[NT,Ss h]
 congr 1
 funext n;unfold Lk;rw[R2,Yq (h _)]
end Go.Proofs.YtdapahgnpbehbaaGreat.Fw
