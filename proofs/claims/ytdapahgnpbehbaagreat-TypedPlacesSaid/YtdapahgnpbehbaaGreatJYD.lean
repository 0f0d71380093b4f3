/- Contracts of the program's and the reference's functions, and the plain laws of what they compute: V11 V7 V8 T28 W10 H2 V15 H3 U17 V16 T29 T17 T18 L21 L22. -/
import Derived.Test.YtdapahgnpbehbaaGreatJYC
import Derived.Test.YtdapahgnpbehbaaGreatJYB
import Derived.Test.YtdapahgnpbehbaaGreatJYA
set_option linter.unusedVariables false
set_option linter.unusedSimpArgs false
namespace Go.Proofs.YtdapahgnpbehbaaGreat.Fw
open Go
attribute [local irreducible] Ev
attribute [local go_sem] bL AM List.toList_toArray B0 evG evK Wp E2 Kp Gz F5 GK O7 LZ CO DY Mr CZ Cr frz gX Gv DX BB Fx Bc AV.frz AV.frzs AV.drp AV.drps AV.names AV.namess aq Gx LY Ke Sy JY Bd Bk Jy Ek I3 El I5 I4 I6 Tt Oz HJ Kh Fz Ec Tu Qr y3 Jz I7 Lw K1 Dz Jb Ki Em Sz Ck Eo FC Qs I8 Qt Lx Jc Kj DL DA Fa D0 Hw Dh FD Di Ep F1 CZ Cq Ox Qq Nx Gm Ja JZ Kg Nc O4 Lz L3 L1 Km R6 L2 Kn Yv O6 O5 AV.trn AV.trns EY Cj Obj.trn KE b9 DN Dk DM Eq Cc FE Ah lk Hb Gw Ht bin gW Ws gZ R4 uM uN pfs AV.cells CJ Jw Oy Kl O3 CX Na Ty.cell1 I2 E8 Dy GJ LX Eh Kd Lv Qp FZ HI NV Sw Ts Lu Ka Yt aN R3 Nb DE Jx RV.flat Ty.flat Ty.size St.add upd del Be Value.oneCell' Lr Ty.dflt I1 PZ H7 Pg List.take_succ_cons List.take_zero List.length_cons bT bU Pf KB MG Ho KC zY F6 M2 M3 M4 M5 Q3 Q4 Ky JG UL Option.map_some Option.map_none Option.bind_some Option.getD_some Option.getD_none Option.isNone_none Option.isNone_some Bool.and_true Bool.true_and Bool.and_false Bool.false_and Bool.not_true Bool.not_false if_true if_false List.length_cons List.length_nil and_true true_and and_self List.all_cons List.all_nil List.append_nil List.nil_append List.cons_append List.getElem?_cons_zero List.getElem?_cons_succ List.getElem?_nil List.map_cons List.map_nil List.set_cons_zero List.set_cons_succ List.isEmpty_nil List.isEmpty_cons decide_true decide_false beq_self_eq_true bne_self_eq_false Nat.zero_add Nat.add_zero Nat.sub_zero Int.toNat_natCast Int.toNat_zero Int.toNat_one List.take_length List.length_append List.length_singleton true_or or_true or_self false_or or_false Ty.agg.injEq Ty.slice.injEq Ty.prod.injEq Ty.int.injEq Option.some.injEq beq_iff_eq Ls evMG evMQ z3 H9 MD B3 KA Ga Ni J8 H8 JH Kz Le OH Nj OI S2 ME Pb Pc J9 AY Am Op.operands Call.operands List.filterMap_cons List.filterMap_nil List.append_eq Bool.cond_false_right Bool.cond_true_left cond_true cond_false implies_true decide_eq_true_eq beq_true beq_false Bool.or_true Bool.or_false Bool.true_or Bool.false_or Option.isSome_some Array.empty_append List.append_toArray Fy Ms FF Hu Yu O2 F0 GU GT I9 Hv Kk Ly Wt gY Jt inB Ko F2 Gn J0 Aj bV List.drop_zero Dp IA ZH CU K4 Ba AV.fgt AV.fgts Obj.fgt Al Ak AY DQ Iz BM G0 List.any_cons List.any_nil iW bZ ZI b4 MJ Q9 qs List.flatMap_cons List.flatMap_nil List.cons_append tn ZK IG List.take_succ_cons List.drop_succ_cons ZO IJ Bw nJ M9 CB CT Ab FI Kx Bm FH D7 H5 JF GZ H6
attribute [local go_sem] Ju nN ty3 ty4 ty5 ty9 A3I A3J A3K A3L A3M A3N A3O A3P A3Q A3R A3S A3T A3U A3V A3W A3X A3Y A3Z A40 A41 A42 A43 A44 A45 A46 A47 A48 A49 A4a A4b A4c A4d A4e A4f A4g A4h A4i A4j A4k A4l A4m A4n A4o A4p A4q A4r A4s A4t A4u A4v A4w A4x A4y A4z A4A A4B A4C A4D A4E A4F A4G A4H A4I A4J A4K A4L A4M A4N A4O A4P A4Q A4R A4S A4T nP nQ nS nT nU nV nW nX nY nZ n4 n5 n6 n7 n8 n9 oA oB oC oD oE oG oH oI oJ oK oL oM oO oP oQ oT oU oV oW oX oY oZ o4 o5 o6 o7 o8 o9 pA pB pC pD pE pF pG pH pI pJ pK pL pM pN pO pP pQ pR pS pT pU pV pW pX pY pZ p4 p5 p6 p7 p8 p9 qA qB qC qD qE qF qG qH qI qJ qK qL qM qN qO qP qQ qR qS qT qU qV qW qX qY qZ q9 rA rE rF rG rH rI rJ rK rO rQ rR rS rT rU rV rW
set_option maxRecDepth 100000
set_option maxHeartbeats 4000000
theorem NU {n:Nat} {c:List Int} (d:Rp n c) {x:Int} (g:0<=x) (h:x<(n:Int)):Rt c x (c.getD x.toNat 0):=by
 obtain⟨h1,f,b⟩:=d.2 x.toNat (by omega);have a:Rt c (c.getD x.toNat 0) (c.getD x.toNat 0):=.base b;by_cases e:Dt c x=x
 ·have e:c.getD x.toNat 0=x:=e;rw[e]at a ⊢;exact a
 ·exact .step e a
theorem A64 {n:Nat} {c:List Int} (b:Rp n c):∃f,Fo c f:=by
 refine⟨λz=>if Dt c z=z then 0 else 1,λz g h=>?_,λz g h e=>?_⟩
 ·have:=b.1;obtain⟨h1,d,a⟩:=b.2 z.toNat (by omega);exact⟨h1,by unfold Dt;omega⟩
 ·have:=b.1;obtain⟨h1,d,a⟩:=b.2 z.toNat (by omega);have a:Dt c (Dt c z)=Dt c z:=a;show (if Dt c (Dt c z)=Dt c z then 0 else 1)<(if Dt c z=z then 0 else 1);rw[BY a,At e];exact Nat.zero_lt_one
theorem gL {n:Nat} {c:List Int} (a:Rp n c) {x:Int} (b:0<=x) (d:x<(n:Int)):Ej c x=c.getD x.toNat 0:=Z1 (NU a b d)
theorem A6y {n:Nat} {c:List Int} (a:Rp n c) {x y:Int} (b:0<=x) (d:x<(n:Int)) (e:0<=y) (f:y<(n:Int)) (h:c.getD x.toNat 0=c.getD y.toNat 0):EG n c [] x y:=.cls b d e f (NU a b d) (by rw[h];exact NU a e f)
def Yr (c p:List Int) (n:Nat):List Int:=(List.range n).map λ(k:Nat)=>p.getD (c.getD k 0).toNat 0
theorem aH {c p:List Int} {n k:Nat} (hk:k<n):(Yr c p n).getD k 0=p.getD (c.getD k 0).toNat 0:=by
 unfold Yr;rw[AS,AA1,AB1 hk];rfl
def yL (g:List AE):List (List (Int×Int)):=g.map λx=>AU x.2
theorem Tr (g:List AE) (k:Nat):(yL g).getD k []=AU (g.getD k (0,[])).2:=by
 unfold yL;rw[AS,AA1,AS];cases g[k]?<;>rfl
structure RC (h:AJ) (N:List AE) (P:List (Int×Int)) (c p:List Int) (g:List AE):Prop where
 good:Ad N
 ty:Ip h N
 rep:Rp N.length c
 types:I0 h N c N.length=some p
 rows:A6t N c (Yr c p N.length) N.length g
 jc:∃ar,JC h N P c ar []
theorem A65 {h:AJ} {N:List AE} {P:List (Int×Int)} {c p:List Int} {g:List AE} (r:RC h N P c p g) {x y:Nat} (B:x<N.length) (C:y<N.length) (s:c.getD x 0=c.getD y 0) {a b:Int×Int} (ha:a∈(N.getD x (0,[])).2) (o:b∈(N.getD y (0,[])).2) (n:a.1=b.1):c.getD a.2.toNat 0=c.getD b.2.toNat 0:=by
 obtain⟨ar,k⟩:=r.jc;obtain⟨w,i,e⟩:=k.sa (x:Int) (by omega) (by omega) a (by simpa[Ag] using ha);obtain⟨A,m,d⟩:=k.sa (y:Int) (by omega) (by omega) b (by simpa[Ag] using o);rw[gO]at i m;rw[s]at i;rw[n]at i;have q:=k.nd (c.getD y 0).toNat;have:w=A:=by
  have key:∀(l:List (Int×Int)),(l.map (·.1)).Nodup->∀f u v,(f,u)∈l->(f,v)∈l->u=v:=by
   intro l;induction l with
   | nil=>intro _ f u v h;cases h
   | cons z l t =>
    intro hn f u v h1 j;rw[AAn,AAS]at hn;rcases By.1 h1 with e|h1<;>rcases By.1 j with d|j
    ·rw[<-e]at d;injection d with _ d;exact d.symm
    ·exact absurd (Do.2 ⟨_,j,by rw[<-e]⟩) hn.1
    ·exact absurd (Do.2 ⟨_,h1,by rw[<-d]⟩) hn.1
    ·exact t hn.2 f u v h1 j
  exact key _ q _ _ _ i m
 subst this;rw[e.nil,d.nil]
section
variable {h:AJ} {N:List AE} {P:List (Int×Int)} {c p:List Int} {g:List AE}
theorem AAc (hk:HO h) (hn:Rv h) (ab:XE h) (h0:0<h.1.length) (j:RC h N P c p g):JI h N P c (Yr c p N.length) (yL g) []:=by
 obtain⟨ar,O⟩:=j.jc;have f:=j.rep;have V:=f.1;obtain⟨pl,aj⟩:=Qg h0 f (NO _) j.types;have ad:=tS hk hn h0 j.ty f (NO _) j.types;have A:=j.rows;have Q:∀k,∀a∈(yL g).getD k [],a∈(g.getD k (0,[])).2:=λk a ha=>by
  rw[Tr]at ha;exact(B6 _).mem_iff.1 ha
 have Z:∀k,∀a∈(g.getD k (0,[])).2,a∈(yL g).getD k []:=λk a ha=>by
  rw[Tr];exact(B6 _).mem_iff.2 ha
 have n:∀x,x<N.length->0<=c.getD x 0/\c.getD x 0<(N.length:Int):=λx l=>by
  obtain⟨K,aq,au⟩:=f.2 x l;exact⟨K,by omega⟩
 have D:∀x,x<N.length->∀b∈(N.getD x (0,[])).2,0<=b.2/\b.2<(N.length:Int):=λx l b m=>(j.good.2 _ (AD N (0,[]) l)).2 b m;refine⟨j.ty,A64 f,V,by simp[Yr],by simp[yL,A.len],λw I=>(by cases I),λx t z=>?_,λk a ha=>?_,λk=>?_,λq F=>?_,λx r t z s=>?_,λx r t z s a ha=>?_,λX v U H=>?_⟩
 ·rw[aH (by omega)];have:=n x.toNat (by omega);exact aj _ (by omega)
 ·obtain⟨x,l,af,b,m,C,o⟩:=A.inn k a (Q k a ha);have E:=D x l b m;refine⟨by rw[o];exact n _ (by omega),?_⟩;rw[<-C];unfold Dr;exact ADf.2 ⟨_,AD N (0,[]) l,Do.2 ⟨b,m,rfl⟩⟩
 ·rw[Tr];exact mH (A.nd k)
 ·have R:=O.sp q F;have Y:=R.nil;have G:(0<=q.1/\q.1<(N.length:Int))/\(0<=q.2/\q.2<(N.length:Int)):=by
   have key:∀ {x y:Int},EQ N.length c [] x y->(0<=x/\x<(N.length:Int))/\(0<=y/\y<(N.length:Int)):=by
    intro x y h;induction h with
    | cls a b c d _=>exact⟨⟨a,b⟩,c,d⟩
    | wt h=>cases h
    | symm _ T=>exact⟨T.2,T.1⟩
    | trans _ _ ah ai=>exact⟨ah.1,ai.2⟩
   exact key R
  exact A6y f G.1.1 G.1.2 G.2.1 G.2.2 Y
 ·have e:=(NU f t z).det s;subst e;have h1:=n x.toNat (by omega);rw[aH (by omega),(f.2 x.toNat (by omega)).2.2];exact ad x.toNat (by omega)
 ·have e:=(NU f t z).det s;subst e;have ha:a∈(N.getD x.toNat (0,[])).2:=ha;obtain⟨u,hu⟩:=A.cov x.toNat (by omega) a ha;refine⟨u,Z _ _ hu,?_⟩;obtain⟨y,J,ap,b,m,C,o⟩:=A.inn _ _ hu;have W:=n x.toNat (by omega);have ao:=n y J;have ag:c.getD x.toNat 0=c.getD y 0:=by omega
  have hs:=A65 j (by omega) J ag ha m C.symm;have M:=D x.toNat (by omega) a ha;have E:=D y J b m;have an:=n b.2.toNat (by omega);have o:u=c.getD b.2.toNat 0:=o;refine A6y f M.1 M.2 (by omega) (by omega) ?_;rw[o,(f.2 b.2.toNat (by omega)).2.2];exact hs
 ·obtain⟨c1,c2,al⟩:=O.co X v H;obtain⟨q,F,aa⟩:=Ot (i:=N.length) hk hn h0 ab j.ty f (u:=λk=>(X.getD (v (k:Int)).toNat (0,[])).1)
   (λk hk=>by
    have:=H.rng (k:Int) (by omega) (by omega);exact U _ (AD X (0,[]) (by omega)))
   (λx l=>by
    have h1:=H.ty (x:Int) (by omega) (by omega);rw[gO]at h1;have L:=c1 (x:Int) (by omega) (by omega);rw[gO]at L;have am:=n x l;rw[show (((c.getD x 0).toNat:Nat):Int)=c.getD x 0 by omega,<-L];exact h1) (NO _)
  rw[j.types]at F;cases F;refine⟨λx r t z s=>?_,λw I=>(by cases I),λr ak K B=>?_,λr ak K B a ha=>?_⟩
  ·have e:=(NU f t z).det s;subst e;exact c1 x t z
  ·have B:c.getD r.toNat 0=r:=B;rw[aH (by omega),B];have:=aa r.toNat (by omega)
   rwa [show ((r.toNat:Nat):Int)=r by omega]at this
  ·have B:c.getD r.toNat 0=r:=B;obtain⟨x,l,af,b,m,C,o⟩:=A.inn _ a (Q _ a ha);have W:=n x l;have s:c.getD x 0=r:=by omega
   have S:=c1 (x:Int) (by omega) (by omega);rw[gO,s]at S;have E:=D x l b m;have ae:=c1 b.2 E.1 E.2;have:=H.arc (x:Int) (by omega) (by omega) b (by simpa[Ag] using m);rw[S,C,ae,<-o]at this;exact this
theorem A7z (e:RC h N P c p g):Mp g=quo c (Yr c p N.length) (yL g):=by
 have d:=e.rep;have v:=e.rows.len;apply ACa;intro k;by_cases hk:k<N.length
 ·have l:(Mp g)[k]?=some ((Mp g).getD k (0,[])):=by
   rw[AS,AT (by rw[NT];omega)];rfl
  have m:(quo c (Yr c p N.length) (yL g))[k]?=some ((quo c (Yr c p N.length) (yL g)).getD k (0,[])):=by
   rw[AS,AT (by rw[EF,d.1];omega)];rfl
  have f:=LQ (p:=c) (ty:=Yr c p N.length) (ar:=yL g) (n:=(k:Int)) (by omega) (by rw[d.1];omega);rw[gO]at f;rw[l,m,f,R2,e.rows.ty k hk,Tr]
  congr 2
  symm;rw[oS (g:=id) λa ha=>?_,List.map_id];have ha:=(B6 _).mem_iff.1 ha;obtain⟨x,r,w,b,q,t,o⟩:=e.rows.inn k a ha;have u:=(e.good.2 _ (AD N (0,[]) r)).2 b q;obtain⟨i,s,j⟩:=d.2 b.2.toNat (by omega);rw[o.symm]at i s j;rw[gL d i (by omega),j];rfl
 ·rw[iF (by rw[NT];omega),iF (by rw[EF,d.1];omega)]
end
theorem yM {h:AJ} {N:List AE} {P:List (Int×Int)} {c p:List Int} {g:List AE} (f:RC h N P c p g) (hf:fQ N):Og (Mp g):=by
 intro x d;obtain⟨y,m,rfl⟩:=Do.1 d;obtain⟨k,hk,rfl⟩:=AAr.1 m;have e:g[k]=g.getD k (0,[]):=by rw[AS,AT hk];rfl
 rw[e];have i:=mH (f.rows.nd k);refine⟨(Ij _).2 i,Qo (WO i λa ha=>?_) (by omega)⟩;obtain⟨x,d,_,b,l,j,_⟩:=f.rows.inn k a ((B6 _).mem_iff.1 ha);rw[<-j];exact hf _ (AD N (0,[]) d) b l
def Js (a b:List AE):List Int:=Ro (Ap a b) (CL (A1 (Ap a b).length) 0 (a.length:Int))
def Ov (h:AJ) (a b:List AE):List AE×Bool :=
 if (It h (Ap a b) (Js a b)).2=true then (Yc (Ap a b) (Js a b) (It h (Ap a b) (Js a b)).1 0,true) else ([],false)
theorem A2L {h:AJ} {N:List AE} {P:List (Int×Int)} {o:List Int} {ar:List (List (Int×Int))} {W:List (Int×Int)} (a:JC h N P o ar W):Rp N.length o:=⟨a.ci.lo,a.ci.rep⟩
theorem A2M {h:AJ} (hk:HO h) (hn:Rv h) (g:XE h) {N:List AE} {P:List (Int×Int)} {c p:List Int} (a:RC h N P c p (DV N c (Yr c p N.length) N.length)) (hf:fQ N) (b:0<N.length) :
  JI h N P c (Yr c p N.length) (yL (DV N c (Yr c p N.length) N.length)) []/\Ad (quo c (Yr c p N.length) (yL (DV N c (Yr c p N.length) N.length)))/\Yc N c (Yr c p N.length) 0=AP (quo c (Yr c p N.length) (yL (DV N c (Yr c p N.length) N.length))) (Ej c 0):=by
 have h0:0<h.1.length:=by
  have:=WZ a.ty b;omega
 have e:=AAc hk hn g h0 a;have d:=fR e a.good.1 hf;have hs:=yM a hf;have f:=A7z a;refine⟨e,d,?_⟩;obtain⟨i,j,k⟩:=a.rep.2 0 b;unfold Yc;rw[<-mI a.rows.nd];show Fl (Mp (DV N c (Yr c p N.length) N.length)) (c.getD 0 0)=_;rw[Ig (by rw[f];exact d) hs i (by rw[NT,a.rows.len];omega),f,gL a.rep (x:=0) (by omega) (by omega)];rfl
section
variable {h:AJ} {a b:List AE}
theorem Ys (c:VF h a) (d:VF h b) (e:a.length+b.length<=100):∃ar,JC h (Ap a b) [(0,(a.length:Int))] (Js a b) ar []:=by
 have f:=Ds a b;have:=c.pos;have:=d.pos;exact yB (LS c.good d.good (by omega)) (A7o (KU c.str d.str)) (by omega) (by omega) (by omega) (by omega)
theorem A2N (hu:HU h) (hn:Rv h) (s:XE h) (c:VF h a) (d:VF h b) (y:a.length+b.length<=100):Ov h a b=E0 h a b:=by
 have C:=Ds a b;have D:=c.pos;have E:=d.pos;have z:=LS c.good d.good (by omega);have hs:=KU c.str d.str;have l:=WM c.ty d.ty;have hf:=WN (c.ft64 hu) (d.ft64 hu);obtain⟨ar,j⟩:=Ys c d y;have g:=A2L j;have h0:0<h.1.length:=by
  have:=WZ l (x:=0) (by omega);omega
 have e:It h (Ap a b) (Js a b)=match I0 h (Ap a b) (Js a b) (Ap a b).length with
  | none=>([],false)
  | some o=>(Yr (Js a b) o (Ap a b).length,true):=rfl
 cases hp:I0 h (Ap a b) (Js a b) (Ap a b).length with
 | none =>
  rw[hp]at e;have t:Ov h a b=([],false):=by unfold Ov;rw[e];rfl
  rw[t,Ya c d];intro X v w m;obtain⟨c1,_,_⟩:=j.co X v m;obtain⟨q,r,_⟩:=Ot (i:=(Ap a b).length) hu.ok hn h0 s l g (u:=λk=>(X.getD (v (k:Int)).toNat (0,[])).1)
   (λk hk=>by
    have:=m.rng (k:Int) (by omega) (by omega);exact w _ (AD X (0,[]) (by omega)))
   (λx B=>by
    have h1:=m.ty (x:Int) (by omega) (by omega);rw[gO]at h1;have f:=c1 (x:Int) (by omega) (by omega);rw[gO]at f;have n:=g.2 x B;rw[show ((((Js a b).getD x 0).toNat:Nat):Int)=(Js a b).getD x 0 by omega,<-f];exact h1) (NO _)
  rw[hp]at r;cases r
 | some p =>
  rw[hp]at e;have A:RC h (Ap a b) [(0,(a.length:Int))] (Js a b) p (DV (Ap a b) (Js a b) (Yr (Js a b) p (Ap a b).length) (Ap a b).length):=⟨z,l,g,hp,Yf g (NO _),ar,j⟩;obtain⟨h1,f,n⟩:=A2M hu.ok hn s A hf (by omega);rw[Sl hu (tM c d h1 f)];unfold Ov;rw[e];simp only[ABi];rw[n]
end
section
theorem mJ (k:Nat) (l:List (Int×Int)):(Au k l).length=l.length:=by simp[Au]
theorem gM {k:Nat} {l:List (Int×Int)} {j:Nat} (h:j<l.length):Au k (l.take (j+1))=Au k (l.take j)++[((l.getD j (0,0)).1,(l.getD j (0,0)).2+(k:Int))]:=by
 rw[AW l (0,0) h];simp[Au]
theorem mK {f g:List AE} {j:Nat} (h:j<g.length):Ap f (g.take (j+1))=Ap f (g.take j)++[((g.getD j (0,[])).1,Au f.length (g.getD j (0,[])).2)]:=by
 rw[AW g (0,[]) h];simp[Ap]
def uH:Ae:={ ins:=[Dv,Dv],pre:=λ(f,g,_)=>Ad f/\Ad g,out:=λ(f,g,_)=>[.p Dv (Ap f g)] }
attribute [local go_sem] uH
theorem A66:Af Tryz.prog 85 uH:=by
 refine fK [0,1,4,5,6,7,8,15,31] Tryz.func85 Tryz.ntmps85 AH ?_;rintro w0 O0 ⟨f,g,u⟩ c-⟨hf,e⟩;simp only[uH,AM];have q:=hf.1;have r:=e.1;repeat'(first|exact trivial|refine eS rfl ?_|refine rX c ?_ ?_)
 ·simp only[AO];exact eV
 ·have j:Ap f (List.take 0 g)=f:=by simp[Ap]
  have m:=λi:Nat=>Ds f (List.take i g);refine AG (ι:={i:Nat//i<=List.length g}) (λi=>⟨[(0,.p Dv f),(1,.p Dv g),(5,.sr 9 GH 0 (Ap f (List.take i.1 g)).length),(6,.p (.int .i64) (i.1:Int))],[(9,.arr 49 GH (Ap f (List.take i.1 g)))]⟩) (λi=>List.length g-i.1) ⟨0,by omega⟩ (AC [(9,.nm 9)] rfl rfl ?_ ?_) (λi=>?_)
  ·simp only;rw[j];exact eN
  ·simp only;rw[j];exact eN
  ·obtain⟨i,hi⟩:=i;simp only;repeat'(first|exact trivial|refine eS rfl ?_|refine rX c ?_ ?_|refine rC ?_ ?_<;>intro a<;>try(cases a;done))
   ·exact eV
   ·have d:i<List.length g:=by exact eV
    have l:=e.2 _ (AD (g:List AE) (0,[]) d);have h:=mK (f:=f) d;refine AG (ι:={k:Nat//k<=(List.getD g i (0,[])).2.length}) (λk=>⟨[(0,.p Dv f),(1,.p Dv g),(5,.sr 9 GH 0 (Ap f (List.take i g)).length),(6,.p (.int .i64) (i:Int)),(7,.bp 7 [] 0),(8,.p (.int .i64) (k.1:Int))],[(9,.arr 49 GH (Ap f (List.take i g))),(7,.box 49 true [.p T3 (List.getD g i (0,[])).1,.sr 59 BE 0 (Au (List.length f) ((List.getD g i (0,[])).2.take k.1)).length]),(59,.arr 53 BE (Au (List.length f) ((List.getD g i (0,[])).2.take k.1)))]⟩) (λk=>(List.getD g i (0,[])).2.length-k.1) ⟨0,by omega⟩ (AC [(9,.nm 9),(7,.nm 7),(59,.nil)] rfl rfl ?_ ?_) (λk=>?_)
    ·refine eM ?_;exact⟨rfl,rfl⟩
    ·exact eN
    ·obtain⟨k,hk⟩:=k;simp only;repeat'(first|refine eS rfl ?_|refine AB ?_|refine rX c ?_ ?_|refine rC ?_ ?_<;>intro a<;>try(cases a;done))
     ·exact a
     ·have b:k<(List.getD g i (0,[])).2.length:=by exact eV
      have ha:=l.2 _ (AD (List.getD g i (0,[])).2 (0,0) b);have n:=AAL k (List.getD g i (0,[])).2;have o:=l.1;refine⟨by assumption,a,by assumption,a,⟨by exact eV,by exact eV⟩,?_⟩;rw[mJ];simp only[AO];dsimp only[Ty.den]at *;omega
     ·exact eV
     ·have b:k<(List.getD g i (0,[])).2.length:=by exact eV
      refine⟨⟨k+1,by omega⟩,by simp only;omega,AC [(9,.nm 9),(7,.nm 7),(59,.nm 59)] rfl rfl ?_ ?_⟩
      ·simp only;rw[gM b];exact eN
      ·simp only;exact eN
     ·rw[m];have:=AAL i g;simp only[AO];dsimp only[Ty.den]at *;omega
     ·exact eV
     ·have b:(List.getD g i (0,[])).2.take k=(List.getD g i (0,[])).2:=An (by exact eV);rw[b];refine⟨⟨i+1,by omega⟩,by simp only;omega,AC [(9,.nm 9)] rfl rfl ?_ ?_⟩
      ·simp only;rw[h];exact eN
      ·simp only;rw[h];exact eN
   ·have d:List.take i g=g:=An (by exact eV);rw[d];exact fI c [.tmp 4]
end
section
attribute [local go_sem] uH lQ aG aA tR
def aI:Ae:={ ins:=[T3],pre:=λ(n,_)=>(0:Int)<=n/\n<=(100000:Int),out:=λ(n,_)=>[.p Es (A1 (Int.toNat n))] }
attribute [local go_sem] aI
theorem yN:Af Tryz.prog 88 aI:=by
 refine fK [0,2,3,4,7] Tryz.func88 Tryz.ntmps88 AH ?_;rintro w0 O0 ⟨n,u⟩ a-⟨h0,h1⟩;simp only[aI,AM];repeat'(first|exact trivial|refine eS rfl ?_|refine rX a ?_ ?_)
 refine AG (ι:={i:Nat//i<=n.toNat}) (λi=>⟨[(0,.p T3 n),(3,.sr 13 T3 0 i.1),(4,.p (.int .i64) (i.1:Int))],[(13,.arr 3 T3 (A1 i.1))]⟩) (λi=>n.toNat-i.1) ⟨0,by omega⟩ (AC [(13,.nil)] rfl rfl ?_ ?_) (λi=>?_)
 ·refine eM ?_;rfl
 ·exact eN
 ·obtain⟨i,hi⟩:=i;repeat'(first|exact trivial|refine eS rfl ?_|refine AB ?_|refine rX a ?_ ?_|refine rC ?_ ?_<;>intro c<;>try(cases c;done))
  ·simp only[AO];exact eV
  ·exact eV
  ·have b:(A1 i).take i=A1 i:=An (by rw[C0];exact NO i);refine⟨⟨i+1,by exact eV⟩,by simp only;exact eV,AC [(13,.nm 13)] rfl rfl ?_ ?_⟩
   ·simp only;rw[b,Sm];exact eN
   ·exact eN
  ·have hn:i=n.toNat:=by exact eV
   have b:(A1 i).take i=A1 i:=An (by rw[C0];exact NO i);subst hn;exact fI a [.tmp 2] (by first|exact eR|refine cG ?_;exact b)
noncomputable def Wn:Ae:={ ins:=[F7,D8,D8],pre:=λ(h,a,b,_)=>HU h/\VF h a/\VF h b/\List.length a+List.length b<=100,out:=λ(h,a,b,_)=>[.p D8 (Ov h a b).1,.p .bool (Ov h a b).2] }
attribute [local go_sem] Wn
theorem A2O:Af Tryz.prog 59 Wn:=by
 refine fK [0,1,2,3,4,5,6,7,8,9,10,11,34] Tryz.func59 Tryz.ntmps59 (AF A66 (AF yN (AF A2a (AF A2K (AF A2k (AF A5Q AH)))))) ?_;rintro w0 O0 ⟨⟨c,hf⟩,a,b,u⟩ o-⟨hu,g,i,v⟩;simp only[Wn,AM];have I:=Ds a b;have J:=g.pos;have K:=i.pos;have r:=LS g.good i.good (by omega);have q:=WM g.ty i.ty;have z:=WN (g.ft64 hu) (i.ft64 hu);have E:=KU g.str i.str;obtain⟨ar,A⟩:=Ys g i v;have j:=A2L A;have s:=KV (A1 (Ap a b).length) 0 (a.length:Int);rw[C0]at s;have h0:0<List.length c:=by
  have:=WZ q (x:=0) (by omega);have H:(0:Int)<(List.length c:Int):=by
   have:=this.2;exact ACw (WZ q (x:=0) (by omega)).1 this
  omega
 have G:∀x∈(c:List HA),x.2.1.length<=100000:=λx d=>Qo (hu.ok.1.wid x.2.1 (Do.2 ⟨x,d,rfl⟩)) (by omega);have w:∀x∈Js a b,0<=x/\x<((Ap a b).length:Int):=λx d=>by
  obtain⟨k,hk,rfl⟩:=AAr.1 d;have t:=j.2 k (by rw[<-j.1];exact hk);rw[AS,AT hk]at t;simp only[ABx]at t;have:=j.1;omega
 have D:∀x∈CL (A1 (Ap a b).length) 0 (a.length:Int),0<=x/\x<((Ap a b).length:Int):=λx d=>by
  obtain⟨B,C⟩:=Sn (n:=(Ap a b).length) (x:=0) (y:=(a.length:Int)) (by omega) (by omega) (by omega) (by omega);obtain⟨k,hk,rfl⟩:=AAr.1 d;have:=C k (by omega);rw[AS,AT hk]at this;simp only[ABx]at this;rw[this];unfold Hk;split
  ·rcases B with ⟨e,_⟩|⟨e,_⟩<;>rw[e]<;>omega
  ·omega
 have F:(It (c,hf) (Ap a b) (Js a b)).2=true->(It (c,hf) (Ap a b) (Js a b)).1.length=(Ap a b).length:=λh=>by
  unfold It at h ⊢;cases hp:I0 (c,hf) (Ap a b) (Js a b) (Ap a b).length with
  | none=>rw[hp]at h;cases h
  | some p=>simp
 have m:Ov (c,hf) a b=if (It (c,hf) (Ap a b) (Js a b)).2=true then (Yc (Ap a b) (Js a b) (It (c,hf) (Ap a b) (Js a b)).1 0,true) else ([],false):=rfl
 have l:Ro (Ap a b) (CL (A1 (Ap a b).length) 0 (a.length:Int))=Js a b:=rfl;repeat'(first|exact trivial|refine eS rfl ?_|refine rX o ?_ ?_|refine rC ?_ ?_<;>intro f<;>try(cases f;done))
 ·exact⟨g.good,i.good⟩
 ·rw[C0];refine⟨by exact eV,⟨by exact eV,by exact eV,by exact eV⟩,r,s,D⟩
 ·rw[l];exact⟨j,q,h0,by exact eV,G⟩
 ·rw[l]at f;rw[At (by rw[f];simp)]at m;exact fI o [.cell 6 25,.tmp 7] (by rw[m];exact eR)
 ·rw[l]at f ⊢;refine⟨r,j.1,F f,w,by exact eV,by exact eV,λx d=>Qo (WO (E x d) (z x d)) (by omega)⟩
 ·rw[l]at f ⊢;rw[BY f]at m;exact fI o [.cell 6 25,.tmp 7] (by rw[m];exact eR)
end
section
attribute [local go_sem] Wm Rf Wn
theorem A2P {h:AJ} (hh:H14 h) {f:List AE} (a:VF h f):k9 h f:=⟨hh.ok,hh.inj,hh.ft,Qo hh.b2 (by decide),a.good,uC a,a.ty⟩
noncomputable def aJ (h:AJ) (a b:List AE):List AE×Bool:=if (E0 h a b).2=true then BW h (E0 h a b).1 else ([],false)
end
theorem Iw (p:List Int) (g:List AE):(Cb p g).length=p.length+g.length:=by simp[Cb,FB]
theorem Su {p:List Int} {g:List AE} {i:Int} (a:0<=i) (b:i<(p.length:Int)):(Cb p g).getD i.toNat (0,[])=(0,[(p.getD i.toNat 0,i+1)]):=by
 unfold Cb;rw[AS,AAo (by rw[FY];omega)];unfold FB;rw[AA1,AB1 (by omega)];show ((0:Int),[(p.getD i.toNat 0,((i.toNat:Nat):Int)+1)])=_;rw[ABz a]
theorem Qn {p:List Int} {g:List AE} {y:Int} (a:0<=y) (b:y<(g.length:Int)):(Cb p g).getD ((p.length:Int)+y).toNat (0,[])=((g.getD y.toNat (0,[])).1,Au p.length (g.getD y.toNat (0,[])).2):=by
 unfold Cb;have e:((p.length:Int)+y).toNat=p.length+y.toNat:=by omega
 rw[e,AS,AAl (by rw[FY];omega),FY,ACs];rw[<-AS];exact Rk (λx:AE=>(x.1,Au p.length x.2)) (0,[]) (0,[]) (by omega)
theorem LU {p:List Int} {g:List AE} {x:AE} (a:x∈Cb p g):(∃i,i<p.length/\x=(0,[(p.getD i 0,(i:Int)+1)]))\/∃y∈g,x=(y.1,Au p.length y.2):=by
 rcases OF.1 a with h|h
 ·obtain⟨i,hi,rfl⟩:=Do.1 h;exact .inl ⟨i,by simpa using hi,rfl⟩
 ·obtain⟨y,b,rfl⟩:=Do.1 h;exact .inr ⟨y,b,rfl⟩
theorem mL {b:Nat} {l:List (Int×Int)} (h:Sk l):Sk (Au b l):=by
 unfold Au Sk;rw[ABc];exact h
theorem Sv {p:List Int} {g:List AE} (hp:p.length<=1000) (c:Ad g) (j:0<g.length) (k:g.length<=10000):Ad (Cb p g):=by
 have d:=Iw p g;refine⟨by omega,λx h=>?_⟩;rcases LU h with ⟨i,hi,rfl⟩|⟨y,e,rfl⟩
 ·refine⟨by simp,λa ha=>?_⟩;have:a=(p.getD i 0,(i:Int)+1):=by simpa using ha
  subst this;rw[d];simp only;omega
 ·refine⟨by unfold Au;rw[On];exact(c.2 y e).1,λa ha=>?_⟩;obtain⟨b,f,rfl⟩:=Do.1 ha;have:=(c.2 y e).2 b f;rw[d];simp only;omega
theorem yO {h:AJ} {f:List AE} (vf:VF h f):Dq f f.length [] 0=(List.range f.length).map λ(i:Nat)=>(i:Int):=by
 have q:=vf.pos;have d:=Z2 vf.good (r:=0) (by omega) (by omega);have l:=WD f 0;have c:=λi=>WC (f:=f) (r:=0) (i:=i);rw[vf.can]at l;simp only[vf.can]at c;generalize p:Dq f f.length [] 0=o at *;have m:Vx h f f (λi=>o.getD i.toNat 0):=by
  refine⟨d.zero.1,λi g j=>d.ok.rng _ (AD o 0 (by omega)),λi g j=>?_,λi g j a ha=>?_⟩
  ·rw[c i.toNat (by omega)];exact Rg h _
  ·rw[Ag,c i.toNat (by omega)]at ha;obtain⟨b,e,rfl⟩:=Do.1 ha;have k:=d.cl _ (AD o 0 (by omega)) b e;show Oi (Ag f (o.getD i.toNat 0)) b.1=o.getD (CE o b.2).toNat 0;rw[(GE k).2.2];exact Qa (WJ vf.str _) e
 have hu:=WI vf.ro m (lJ vf.str);apply AAU
 ·rw[On,ABT];omega
 ·intro i h1 n;rw[ABZ,AC3];have:=hu i (i:Int) (by omega) (by omega) (by omega);simp only[gO,id]at this;rw[<-this,AS,AT h1];rfl
theorem yP {f:List AE} (hf:Ad f) (h:Dq f f.length [] 0=(List.range f.length).map λ(i:Nat)=>(i:Int)):AP f 0=f:=by
 unfold AP;generalize q:Dq f f.length [] 0=l at *;have r:l.length=f.length:=by rw[h];simp
 have b:∀k,(hk:k<l.length)->l[k]=(k:Int):=λk hk=>by subst h;simp
 clear h;have o:l.Nodup:=by
  unfold List.Nodup;rw[tO];intro i j hi n p e;rw[b i hi,b j n]at e;omega
 have m:∀x,0<=x->x<(l.length:Int)->CE l x=x:=λx s t=>by
  have:=Io o (i:=x.toNat) (by omega);have e:l.getD x.toNat 0=x:=by
   rw[AS,AT (by omega)];show l[x.toNat]=x;rw[b _ (by omega)];omega
  rw[e]at this;rw[this];omega
 apply AAU
 ·rw[On];omega
 ·intro i h1 c;rw[ABZ,b i (by simpa using h1)];have d:f.getD (i:Int).toNat (0,[])=f[i]:=by simp[AS,c]
  unfold Ee;rw[d];have:∀a∈f[i].2,Mf l a=a:=λa ha=>by
   have g:=(hf.2 _ (AAR c)).2 a ha;unfold Mf;rw[m a.2 g.1 (by omega)]
  rw[oS this,List.map_id']
theorem uI {Q R:List AE} {c:Int->Int} {d:Int->Prop} (h:Iso Q R c d) {pre:List Int} (hp:∀i,d i->c i∉pre):∀(k:Nat) (t:List Int) (i:Int),(∀x∈t,d x)->d i->Dq R k (pre++t.map c) (c i)=pre++(Dq Q k t i).map c/\∀x∈Dq Q k t i,d x
 | 0,t,i,f,hi=>⟨rfl,f⟩
 | k+1,t,i,f,hi=>by
  have key:∀(l:List (Int×Int)) (t:List Int),(∀a∈l,d a.2)->(∀x∈t,d x) ->
    (l.map λa=>(a.1,c a.2)).foldl (AZ R k) (pre++t.map c)=pre++(l.foldl (AZ Q k) t).map c/\∀x∈l.foldl (AZ Q k) t,d x:=by
   intro l;induction l with
   | nil=>intro t _ f;exact⟨rfl,f⟩
   | cons a l q =>
    intro t m f;have ha:=m a (by simp);have hs:AZ R k (pre++t.map c) (a.1,c a.2)=pre++(AZ Q k t a).map c/\∀x∈AZ Q k t a,d x:=by
     unfold AZ;by_cases j:a.2∈t
     ·rw[BY j,BY (OF.2 (.inr (Do.2 ⟨_,j,rfl⟩)))];exact⟨rfl,f⟩
     ·have p:¬c a.2∈pre++t.map c:=by
       intro hh;rcases OF.1 hh with hh|hh
       ·exact hp _ ha hh
       ·obtain⟨x,g,e⟩:=Do.1 hh;exact j (h.inj x a.2 (f x g) ha e▸g)
      rw[At j];simp only[At p];exact uI h hp k t a.2 f ha
    rw[AAn,TO,TO,hs.1];exact q _ (λb o=>m b (by simp[o])) hs.2
  rw[CH,CH];have e:pre++t.map c++[c i]=pre++(t++[i]).map c:=by simp
  have n:(R.getD (c i).toNat (0,[])).2=(Ag Q i).map λa=>(a.1,c a.2):=h.arc i hi;rw[n,e];refine key _ _ (h.cl i hi) λx g=>?_;rcases OF.1 g with g|g
  ·exact f x g
  ·have:x=i:=by simpa using g
   rw[this];exact hi
abbrev aK (n:Nat):List Int:=(List.range n).map λ(i:Nat)=>(i:Int)
theorem gN {n:Nat} {x:Int} (h:x∈aK n):0<=x/\x<(n:Int):=by
 obtain⟨i,hi,rfl⟩:=Do.1 h;have:=oR.1 hi;omega
theorem yQ (n:Nat):aK (n+1)=aK n++[(n:Int)]:=by unfold aK;rw[AAq,AAs];rfl
theorem Wo {p:List Int} {g:List AE}:∀(r j:Nat) (k:Nat),j+r=p.length->Dq (Cb p g) (r+k) (aK j) (j:Int)=Dq (Cb p g) k (aK p.length) (p.length:Int)
 | 0,j,k,h=>by rw[show j=p.length by omega,ABf]
 | r+1,j,k,h=>by
  rw[show r+1+k=(r+k)+1 by omega,CH,Su (by omega) (by omega),gO];show AZ (Cb p g) (r+k) (aK j++[(j:Int)]) (p.getD j 0,(j:Int)+1)=_;rw[<-yQ];unfold AZ;rw[At (λa=>by have:=gN a;simp only at this;omega)];have e:((j:Int)+1)=((j+1:Nat):Int):=by omega
  simp only[e];exact Wo r (j+1) k (by omega)
theorem yR {h:AJ} {p:List Int} {g:List AE} (b:VF h g) (hp:p.length<=1000) (l:g.length<=10000):AP (Cb p g) 0=Cb p g:=by
 have f:=b.pos;refine yP (Sv hp b.good f l) ?_;rw[Iw];have d:=Wo (p:=p) (g:=g) p.length 0 g.length (by omega);rw[show aK 0=[] from rfl,show ((0:Nat):Int)=0 from rfl]at d;rw[d];have k:Iso g (Cb p g) (λi=>(p.length:Int)+i) (λi=>0<=i/\i<(g.length:Int)):=by
  refine⟨λi hi=>?_,λi hi a ha=>Bv b.good ha,λi j hi o e=>by have e:(p.length:Int)+i=(p.length:Int)+j:=e;omega⟩;rw[Ag,Qn hi.1 hi.2];show Au p.length (Ag g i)=_;unfold Au;refine oS λa _=>?_;show (a.1,a.2+(p.length:Int))=(a.1,(p.length:Int)+a.2);rw[Int.add_comm]
 have c:=(uI k (pre:=aK p.length) (λi hi m=>by have:=gN m;omega) g.length [] 0 (λx n=>by cases n) ⟨by omega,by omega⟩).1;rw[ACq,AAu,ACL,yO b]at c;rw[c];rw[List.range_add,AAs,ABm,ABm];refine ABr _ (oS λi _=>?_);show (p.length:Int)+(i:Int)=((p.length+i:Nat):Int);omega
theorem gP {h:AJ} (h0:0<h.1.length) {p:List Int} {g:List AE} (d:VF h g) (l:FtP h p) (hp:p.length<=1000) (k:g.length<=10000):VF h (Cb p g):=by
 have n:=d.pos;have q:=Iw p g;refine⟨Sv hp d.good n k,by omega,λx c=>?_,λx c=>?_,λx c a ha=>?_,yR d hp k,λi r s=>?_⟩
 ·rcases LU c with ⟨i,hi,rfl⟩|⟨y,f,rfl⟩
  ·exact⟨by simp,by simp only;omega⟩
  ·exact d.ty y f
 ·rcases LU c with ⟨i,hi,rfl⟩|⟨y,f,rfl⟩
  ·exact List.pairwise_singleton _ _
  ·exact mL (d.str y f)
 ·rcases LU c with ⟨i,hi,rfl⟩|⟨y,f,rfl⟩
  ·have:a=(p.getD i 0,(i:Int)+1):=by simpa using ha
   rw[this];exact l _ (BD hi)
  ·obtain⟨b,m,rfl⟩:=Do.1 ha;exact d.ft y f b m
 ·by_cases hi:i<=(p.length:Int)
  ·refine⟨i-1,by omega,by omega,(p.getD (i-1).toNat 0,i-1+1),?_,by simp only;omega⟩;rw[Ag,Su (by omega) (by omega)];exact ABe.2 rfl
  ·obtain⟨j,o,t,x,c,e⟩:=d.ro (i-p.length) (by omega) (by omega);refine⟨(p.length:Int)+j,by omega,by omega,(x.1,x.2+(p.length:Int)),?_,by simp only;omega⟩;rw[Ag,Qn o (by omega)];exact Do.2 ⟨x,c,rfl⟩
def gQ (b:Nat) (g:List AE) (i:Nat):List AE:=(g.take i).map λx:AE=>(x.1,Au b x.2)
theorem gR (b:Nat) (g:List AE) {i:Nat} (h:i<g.length):gQ b g (i+1)=gQ b g i++[((g.getD i (0,[])).1,Au b (g.getD i (0,[])).2)]:=by
 unfold gQ;rw[AW g (0,[]) h,AAs];rfl
theorem uJ (b:Nat) (g:List AE):gQ b g g.length=g.map λx:AE=>(x.1,Au b x.2):=by
 unfold gQ;rw[iN]
theorem uK (b:Nat) (g:List AE) {i:Nat} (h:i<=g.length):(gQ b g i).length=i:=by
 unfold gQ;rw[On,ON];omega
def mM:Ae:={ ins:=[Es,D8],pre:=λ(p,g,_)=>List.length p<=1000/\Ad g,out:=λ(p,g,_)=>[.p D8 (Cb p g)] }
theorem A2Q:Af Tryz.prog 91 mM:=by
 refine fKP [0,1,3,4,5,6,7,9,10,12,13,14,15,16,33,34,35,36,43,44,45,46] [26] [] Tryz.func91 Tryz.ntmps91 AH ?_;rintro w0 O0 ⟨p,g,u⟩ e-⟨hp,f⟩;have I:=f.1;simp only[mM,AM];repeat'(first|exact trivial|refine eS rfl ?_|refine AB ?_|refine rX e ?_ ?_|refine rC ?_ ?_<;>intro b<;>try(cases b;done))
 refine AG (ι:={k:Nat//k<=p.length}) (λk=>⟨[(0,.p Es p),(3,.bp 3 [] 0),(4,.bp 4 [] 0),(5,.bp 5 [] 0),(13,.p Es p),(14,.p (.int .i64) (p.length:Int)),(15,.p (.int .i64) (k.1:Int))],[(3,.box 25 true [.p Dv g]),(4,.box 25 true [.raw (.slice none 0 0)]),(5,.box 25 true [.sr 29 GH 0 (FB p k.1).length]),(29,.arr 49 GH (FB p k.1))]⟩) (λk=>p.length-k.1) ⟨0,Is _⟩ (AC [(3,.nm 3),(4,.nm 4),(5,.nm 5),(29,.nil)] rfl rfl ?_ ?_) (λk=>?_)
 ·first|exact eN|refine eM ?_
  exact⟨rfl,rfl⟩
 ·first|exact eN|refine eM ?_
 ·obtain⟨k,hk⟩:=k;have B:=FY p k;repeat'(first|exact trivial|refine eS rfl ?_|refine AB ?_|refine rX e ?_ ?_|refine rC ?_ ?_<;>intro b<;>try(cases b;done))
  ·exact b
  ·have n:k<p.length:=No.1 b;refine⟨⟨by omega,by omega⟩,?_⟩;rw[B];simp only[AO];omega
  ·omega
  ·have n:k<p.length:=No.1 b;have hs:=Sr p k;refine⟨⟨k+1,n⟩,by simp only;omega,AC [(3,.nm 3),(4,.nm 4),(5,.nm 5),(29,.nm 29)] rfl rfl ?_ ?_⟩
   ·simp only[hs];first|exact eN|refine eM ?_
   ·first|exact eN|refine eM ?_
  ·have D:k=p.length:=by
    have:=aT.1 b;omega
   subst D;obtain⟨t,m⟩:∃c,FB p p.length=c:=⟨_,rfl⟩;have A:=FY p p.length;have s:t++g.map (λx:AE=>(x.1,Au p.length x.2))=Cb p g:=by rw[<-m];rfl
   generalize FB p p.length=ch at *;subst m;refine AG (ι:={i:Nat//i<=g.length}) (λi=>⟨[(0,.p Es p),(3,.bp 3 [] 0),(4,.bp 4 [] 0),(5,.bp 5 [] 0),(33,.p Dv g),(34,.p (.int .i64) (g.length:Int)),(35,.p (.int .i64) (i.1:Int))],[(3,.box 25 true [.p Dv g]),(4,.box 25 true [.raw (.slice none 0 0)]),(5,.box 25 true [.sr 29 GH 0 (ch++gQ p.length g i.1).length]),(29,.arr 49 GH (ch++gQ p.length g i.1))]⟩) (λi=>g.length-i.1) ⟨0,Is _⟩ (AC [(3,.nm 3),(4,.nm 4),(5,.nm 5),(29,.nm 29)] rfl rfl ?_ ?_) (λi=>?_)
   ·have v:ch++gQ p.length g 0=ch:=by simp[gQ]
    simp only[v];first|exact eN|refine eM ?_
   ·first|exact eN|refine eM ?_
   ·obtain⟨i,hi⟩:=i;have E:=uK p.length g hi;have r:=λh:i<g.length=>gR p.length g h;simp only;generalize o:gQ p.length g i=os at *;repeat'(first|exact trivial|refine eS rfl ?_|refine AB ?_|refine rX e ?_ ?_|refine rC ?_ ?_<;>intro b<;>try(cases b;done))
    ·exact b
    ·have l:i<g.length:=No.1 b;have q:=QZ f i;have G:(g.getD i (0,[])).2.length<=100000:=(f.2 _ (AD g (0,[]) l)).1;generalize L:g.getD i (0,[])=x at *;obtain⟨H,xs⟩:=x;simp only at q G r ⊢;refine AG (ι:={j:Nat//j<=xs.length}) (λj=>⟨[(0,.p Es p),(3,.bp 3 [] 0),(4,.bp 4 [] 0),(5,.bp 5 [] 0),(10,.bp 10 [] 0),(33,.p Dv g),(34,.p (.int .i64) (g.length:Int)),(35,.p (.int .i64) (i:Int)),(43,.p Ce xs),(44,.p (.int .i64) (xs.length:Int)),(45,.p (.int .i64) (j.1:Int))],[(3,.box 25 true [.p Dv g]),(4,.box 25 true [.raw (.slice none 0 0)]),(5,.box 25 true [.sr 29 GH 0 (ch++os).length]),(29,.arr 49 GH (ch++os)),(10,.box 49 true [.p T3 H,.sr 60 BE 0 (Au p.length (xs.take j.1)).length]),(60,.arr 53 BE (Au p.length (xs.take j.1)))]⟩) (λj=>xs.length-j.1) ⟨0,Is _⟩ (AC [(3,.nm 3),(4,.nm 4),(5,.nm 5),(29,.nm 29),(10,.nm 10),(60,.nil)] rfl rfl ?_ ?_) (λj=>?_)
     ·first|exact eN|refine eM ?_
      exact⟨rfl,rfl⟩
     ·first|exact eN|refine eM ?_
     ·obtain⟨j,J⟩:=j;have w:(Au p.length (xs.take j)).length=j:=by unfold Au;rw[On,ON];omega
      have y:=λh:j<xs.length=>Df (λa:Int×Int=>(a.1,a.2+(p.length:Int))) xs (0,0) h;simp only;repeat'(first|exact trivial|refine eS rfl ?_|refine AB ?_|refine rX e ?_ ?_|refine rC ?_ ?_<;>intro b<;>try(cases b;done))
      ·exact b
      ·have d:j<xs.length:=No.1 b;have K:=q _ (AD xs (0,0) d);refine⟨⟨by omega,by omega⟩,?_⟩;rw[w];simp only[AO];omega
      ·omega
      ·have d:j<xs.length:=No.1 b;have z:Au p.length (xs.take (j+1))=Au p.length (xs.take j)++[((xs.getD j (0,0)).1,(xs.getD j (0,0)).2+(p.length:Int))]:=y d;refine⟨⟨j+1,d⟩,by simp only;omega,AC [(3,.nm 3),(4,.nm 4),(5,.nm 5),(29,.nm 29),(10,.nm 10),(60,.nm 60)] rfl rfl ?_ ?_⟩
       ·simp only[z];first|exact eN|refine eM ?_
       ·first|exact eN|refine eM ?_
      ·rw[A,E];simp only[AO];omega
      ·omega
      ·have d:xs.take j=xs:=An (aT.1 b);have F:=r l;rw[d];refine⟨⟨i+1,l⟩,by simp only;omega,AC [(3,.nm 3),(4,.nm 4),(5,.nm 5),(29,.nm 29)] rfl rfl ?_ ?_⟩
       ·simp only[F,<-oF];first|exact eN|refine eM ?_
       ·first|exact eN|refine eM ?_
    ·have C:i=g.length:=by
      have:=aT.1 b;omega
     subst C;rw[uJ]at o;rw[o]at s;exact fI e [.cell 4 25] (by rw[<-s];exact eR)
section
def A67:Ae:={ ins:=[Es,D8],pre:=λ(p,g,_)=>List.length p<=1000/\Ad g,out:=λ(p,g,_)=>[.p D8 (Cb p g)] }
attribute [local go_sem] A67
theorem A7A:Af Tryz.prog 92 A67:=by
 refine fKP [0,1,3,4,5,6,7,8,9,10,14,35,54] [26] [] Tryz.func92 Tryz.ntmps92 AH ?_;rintro w0 O0 ⟨p,g,u⟩ e-⟨hp,f⟩;have I:=f.1;simp only[A67,AM];repeat'(first|exact trivial|refine eS rfl ?_|refine rX e ?_ ?_)
 refine AG (ι:={k:Nat//k<=p.length}) (λk=>⟨[(0,.p Es p),(3,.bp 3 [] 0),(4,.bp 4 [] 0),(5,.bp 5 [] 0),(6,.p (.int .i64) (k.1:Int))],[(3,.box 25 true [.p Dv g]),(4,.box 25 true [.raw (.slice none 0 0)]),(5,.box 25 true [.sr 29 GH 0 (FB p k.1).length]),(29,.arr 49 GH (FB p k.1))]⟩) (λk=>p.length-k.1) ⟨0,Is _⟩ (AC [(3,.nm 3),(4,.nm 4),(5,.nm 5),(29,.nil)] rfl rfl ?_ ?_) (λk=>?_)
 ·refine eM ?_;exact⟨rfl,rfl⟩
 ·exact eN
 ·obtain⟨k,hk⟩:=k;have B:=FY p k;repeat'(first|exact trivial|refine eS rfl ?_|refine AB ?_|refine rX e ?_ ?_|refine rC ?_ ?_<;>intro b<;>try(cases b;done))
  ·have n:k<p.length:=No.1 b;refine⟨b,⟨by omega,by omega⟩,?_⟩;rw[B];simp only[AO];omega
  ·exact eV
  ·have n:k<p.length:=No.1 b;have hs:=Sr p k;refine⟨⟨k+1,n⟩,by simp only;omega,AC [(3,.nm 3),(4,.nm 4),(5,.nm 5),(29,.nm 29)] rfl rfl ?_ ?_⟩
   ·simp only[hs];exact eN
   ·exact eN
  ·have D:k=p.length:=by
    have:=aT.1 b;omega
   subst D;obtain⟨t,m⟩:∃c,FB p p.length=c:=⟨_,rfl⟩;have A:=FY p p.length;have s:t++g.map (λx:AE=>(x.1,Au p.length x.2))=Cb p g:=by rw[<-m];rfl
   generalize FB p p.length=ch at *;subst m;refine AG (ι:={i:Nat//i<=g.length}) (λi=>⟨[(0,.p Es p),(3,.bp 3 [] 0),(4,.bp 4 [] 0),(5,.bp 5 [] 0),(7,.p (.int .i64) (i.1:Int))],[(3,.box 25 true [.p Dv g]),(4,.box 25 true [.raw (.slice none 0 0)]),(5,.box 25 true [.sr 29 GH 0 (ch++gQ p.length g i.1).length]),(29,.arr 49 GH (ch++gQ p.length g i.1))]⟩) (λi=>g.length-i.1) ⟨0,Is _⟩ (AC [(3,.nm 3),(4,.nm 4),(5,.nm 5),(29,.nm 29)] rfl rfl ?_ ?_) (λi=>?_)
   ·have v:ch++gQ p.length g 0=ch:=by simp[gQ]
    simp only[v];exact eN
   ·exact eN
   ·obtain⟨i,hi⟩:=i;have E:=uK p.length g hi;have r:=λh:i<g.length=>gR p.length g h;simp only;generalize o:gQ p.length g i=os at *;repeat'(first|exact trivial|refine eS rfl ?_|refine rX e ?_ ?_|refine rC ?_ ?_<;>intro b<;>try(cases b;done))
    ·exact b
    ·exact b
    ·have l:i<g.length:=No.1 b;have q:=QZ f i;have G:(g.getD i (0,[])).2.length<=100000:=(f.2 _ (AD g (0,[]) l)).1;generalize L:g.getD i (0,[])=x at *;obtain⟨H,xs⟩:=x;simp only at q G r ⊢;refine AG (ι:={j:Nat//j<=xs.length}) (λj=>⟨[(0,.p Es p),(3,.bp 3 [] 0),(4,.bp 4 [] 0),(5,.bp 5 [] 0),(7,.p (.int .i64) (i:Int)),(8,.bp 8 [] 0),(9,.p Ce xs),(10,.p (.int .i64) (j.1:Int))],[(3,.box 25 true [.p Dv g]),(4,.box 25 true [.raw (.slice none 0 0)]),(5,.box 25 true [.sr 29 GH 0 (ch++os).length]),(29,.arr 49 GH (ch++os)),(8,.box 49 true [.p T3 H,.sr 74 BE 0 (Au p.length (xs.take j.1)).length]),(74,.arr 53 BE (Au p.length (xs.take j.1)))]⟩) (λj=>xs.length-j.1) ⟨0,Is _⟩ (AC [(3,.nm 3),(4,.nm 4),(5,.nm 5),(29,.nm 29),(8,.nm 8),(74,.nil)] rfl rfl ?_ ?_) (λj=>?_)
     ·refine eM ?_;exact⟨rfl,rfl⟩
     ·exact eN
     ·obtain⟨j,J⟩:=j;have w:(Au p.length (xs.take j)).length=j:=by unfold Au;rw[On,ON];omega
      have y:=λh:j<xs.length=>Df (λa:Int×Int=>(a.1,a.2+(p.length:Int))) xs (0,0) h;simp only;repeat'(first|exact trivial|refine eS rfl ?_|refine AB ?_|refine rX e ?_ ?_|refine rC ?_ ?_<;>intro b<;>try(cases b;done))
      ·have d:j<xs.length:=No.1 b;have K:=q _ (AD xs (0,0) d);refine⟨b,b,⟨by omega,by omega⟩,?_⟩;rw[w];simp only[AO];omega
      ·exact eV
      ·have d:j<xs.length:=No.1 b;have z:Au p.length (xs.take (j+1))=Au p.length (xs.take j)++[((xs.getD j (0,0)).1,(xs.getD j (0,0)).2+(p.length:Int))]:=y d;refine⟨⟨j+1,d⟩,by simp only;omega,AC [(3,.nm 3),(4,.nm 4),(5,.nm 5),(29,.nm 29),(8,.nm 8),(74,.nm 74)] rfl rfl ?_ ?_⟩
       ·simp only[z];exact eN
       ·exact eN
      ·rw[A,E];simp only[AO];omega
      ·exact eV
      ·have d:xs.take j=xs:=An (aT.1 b);have F:=r l;rw[d];refine⟨⟨i+1,l⟩,by simp only;omega,AC [(3,.nm 3),(4,.nm 4),(5,.nm 5),(29,.nm 29)] rfl rfl ?_ ?_⟩
       ·simp only[F,<-oF];exact eN
       ·exact eN
    ·have C:i=g.length:=by
      have:=aT.1 b;omega
     subst C;rw[uJ]at o;rw[o]at s;exact fI e [.cell 4 25] (by rw[<-s];exact eR)
end
section
open Go
end
section
attribute [local go_sem] A67 mM Wm Wn
theorem VF.h0 {h:AJ} {f:List AE} (vf:VF h f):0<h.1.length:=by
 have hp:=vf.pos;have:=vf.ty _ (AD f (0,[]) (k:=0) (by omega));omega
noncomputable def S9 (h:AJ) (f:List AE) (p:List Int) (g:List AE):List AE×Bool:=E0 h f (Cb p g)
noncomputable def A7B:Ae:={ ins:=[F7,D8,Es,D8],pre:=λ(h,f,p,g,_)=>HU h/\VF h f/\VF h g/\FtP h p/\List.length p<=20/\List.length f<=20/\List.length g<=20,out:=λ(h,f,p,g,_)=>[.p D8 (S9 h f p g).1,.p .bool (S9 h f p g).2] }
theorem A7C:Af Tryz.prog 61 A7B:=by
 refine fK [0,1,2,3,4,5,7,8,9] Tryz.func61 Tryz.ntmps61 (AF A2Q (AF A2E AH)) ?_;rintro w0 O0 ⟨⟨i,hf⟩,f,p,g,u⟩ a-⟨hu,vf,b,d,lp,j,k⟩;have e:=gP vf.h0 b d (by omega) (by omega);have h:=Iw p g;simp only[A7B,AM];repeat'(first|exact trivial|refine eS rfl ?_|refine AB ?_|refine rX a ?_ ?_|refine rC ?_ ?_<;>intro c<;>try(cases c;done))
 ·exact⟨⟨by omega,b.good⟩,hu,vf,e,by omega⟩
 ·exact fI a [.cell 8 25,.tmp 9] (by unfold S9;exact eR)
noncomputable def A7D:Ae:={ ins:=[F7,D8,Es,D8],pre:=λ(h,f,p,g,_)=>(HU h/\Rv h/\XE h)/\VF h f/\VF h g/\FtP h p/\List.length p<=20/\List.length f<=20/\List.length g<=20,out:=λ(h,f,p,g,_)=>[.p D8 (S9 h f p g).1,.p .bool (S9 h f p g).2] }
theorem A7E:Af Tryz.prog 62 A7D:=by
 refine fK [0,1,2,3,4,5,7,8,9] Tryz.func62 Tryz.ntmps62 (AF A7A (AF A2O AH)) ?_;rintro w0 O0 ⟨⟨k,hf⟩,f,p,g,u⟩ a-⟨⟨hu,hn,i⟩,vf,b,e,lp,l,m⟩;have c:=gP vf.h0 b e (by omega) (by omega);have j:=Iw p g;have h:=A2N hu hn i vf c (by omega);simp only[A7D,AM];repeat'(first|exact trivial|refine eS rfl ?_|refine AB ?_|refine rX a ?_ ?_|refine rC ?_ ?_<;>intro d<;>try(cases d;done))
 ·exact⟨⟨by omega,b.good⟩,hu,vf,c,by omega⟩
 ·exact fI a [.cell 8 25,.tmp 9] (by rw[h];unfold S9;exact eR)
end
section
attribute [local go_sem] A7B Rf A7D
noncomputable def yS:Ae:={ ins:=[F7,D8,Es,D8],pre:=λ(h,a,p,b,_)=>(H14 h/\XE h)/\VF h a/\VF h b/\FtP h p/\List.length p<=20/\List.length a<=20/\List.length b<=20,out:=λ(h,a,p,b,_)=>[.p D8 (aJ h a (Cb p b)).1,.p .bool (aJ h a (Cb p b)).2] }
attribute [local go_sem] yS
theorem A7F:Af Tryz.prog 31 yS:=by
 refine fK [0,1,2,3,4,5,7,8,9,10,11,21] Tryz.func31 Tryz.ntmps31 (AF A7C (AF Vr AH)) ?_;rintro w0 O0 ⟨h,a,p,b,u⟩ e-⟨⟨hh,k⟩,i,j,d,g⟩;have hh:H14 h:=hh;have k:XE h:=k;have i:VF h a:=i;have j:VF h b:=j;have g:p.length<=20/\a.length<=20/\b.length<=20:=g;have d:FtP h p:=d;simp only[yS,AM];have f:(h.1,h.2)=h:=rfl;repeat'(first|exact trivial|refine eS rfl ?_|refine rX e ?_ ?_|refine rC ?_ ?_<;>intro c<;>try(cases c;done))
 ·exact⟨hh.hu,i,j,d,g⟩
 ·exact fI e [.cell 8 25,.tmp 9] (by unfold aJ;rw[f]at c;unfold S9 at c;rw[c,At Bool.false_ne_true];exact eR)
 ·exact A2P hh (Ml c).vf
 ·exact fI e [.cell 8 25,.tmp 9] (by unfold aJ;rw[f]at c;unfold S9 at c;rw[c,BY rfl,f];unfold S9;exact eR)
theorem A68:Af Tryz.prog 32 yS:=by
 refine fK [0,1,2,3,4,5,7,8,9,10,11,21] Tryz.func32 Tryz.ntmps32 (AF A7E AH) ?_;rintro w0 O0 ⟨h,a,p,b,u⟩ d-⟨⟨hh,j⟩,k,l,g,i⟩;have hh:H14 h:=hh;have j:XE h:=j;have k:VF h a:=k;have l:VF h b:=l;have i:p.length<=20/\a.length<=20/\b.length<=20:=i;have g:FtP h p:=g;simp only[yS,AM];have m:(h.1,h.2)=h:=rfl;repeat'(first|exact trivial|refine eS rfl ?_|refine rX d ?_ ?_|refine rC ?_ ?_<;>intro c<;>try(cases c;done))
 ·exact⟨⟨hh.hu,hh.nrm,j⟩,k,l,g,i⟩
 ·exact fI d [.cell 8 25,.tmp 9] (by unfold aJ;rw[m]at c;unfold S9 at c;rw[c,At Bool.false_ne_true];exact eR)
 ·rw[m]at *;have t:=(Ml c).vf;have e:=A2P hh t;have n:aJ h a (Cb p b)=BW h (E0 h a (Cb p b)).1:=by
   unfold S9 at c;unfold aJ;rw[c,BY rfl]
  have q:=A62 hh.ok hh.nrm hh.inj hh.ft hh.ap e.arcs e.ty;unfold S9;generalize (E0 h a (Cb p b)).1=x at *;have hF:BW h x=match HR h x with
   | some ty=>(Ci x ty,true)
   | none=>([],false):=rfl
  rw[<-q]at hF;refine cP 2 d ?_ ?_
  ·trivial
  ·refine rM d (yK h hh.ok hh.nrm hh.ft hh.ap hh.inj x e.arcs e.ty e.good.1 (λy r=>(e.good.2 y r).1)) [] [] ?_ ?_ ?_
   ·exact eN
   ·exact eN
   ·rintro res v (⟨f,rfl,rfl⟩|⟨ty,f,rfl,rfl⟩)
    ·rw[f]at hF;have hF:BW h x=([],false):=hF;refine⟨[],.tup [.p D8 [],.p .bool false],[],rfl,rfl,?_,?_,rfl,rfl,?_⟩
     ·exact eN
     ·exact eN
     ·refine rL d ?_ ?_
      ·trivial
      ·repeat' refine eS rfl ?_
       exact fI d [.cell 8 25,.tmp 9] (by rw[n,hF];exact eR)
    ·rw[f]at hF;have hF:BW h x=(Ci x ty,true):=hF;have o:=Fm x ty;refine⟨[(89,.nm 89)],.tup [.ag [.sr 89 GH 0 x.length],.p .bool true],[(89,.arr 49 GH (Ci x ty))],rfl,rfl,?_,?_,rfl,rfl,?_⟩
     ·exact eN
     ·exact eN
     ·refine rL d ?_ ?_
      ·trivial
      ·repeat' refine eS rfl ?_
       refine Gc [89] ?_;repeat'(first|exact trivial|refine eS rfl ?_|refine AB ?_|refine rX d ?_ ?_|refine rC ?_ ?_<;>intro c<;>try(cases c;done))
       have s:(Ci x ty).take x.length=Ci x ty:=An (ACI o);exact fI d [.cell 8 25,.tmp 9] (by rw[n,hF,s];exact eR)
end
def KZ:AJ:=([(ByteArray.mk #[116,111,112],[8191],[],[]),(ByteArray.mk #[105,110,100,101,120],[60],[0],[]),(ByteArray.mk #[108,105,115,116],[193],[0],[]),(ByteArray.mk #[99,111,110,115],[1],[2],[(2,0),(10,2)]),(ByteArray.mk #[100,108,105,115,116],[2],[0],[(6,2),(7,2)]),(ByteArray.mk #[101,110,116,105,116,121],[4],[1],[]),(ByteArray.mk #[101,118,101,110,116],[8],[1],[]),(ByteArray.mk #[104,97,110,100,108,101],[16],[1],[]),(ByteArray.mk #[110,117,108,108],[128],[2],[]),(ByteArray.mk #[113,101,113],[256],[0],[(3,7),(8,7)]),(ByteArray.mk #[114,101,108],[512],[0],[(5,7)]),(ByteArray.mk #[115,101,109],[1024],[0],[(1,4),(4,1),(9,4),(12,7)]),(ByteArray.mk #[115,105,103,110],[2048],[0],[(0,2),(11,11)])],[(ByteArray.mk #[65,82,71,83],12),(ByteArray.mk #[67,79,78,83],11),(ByteArray.mk #[70,73,82,83,84],3),(ByteArray.mk #[72,73,71,72],9),(ByteArray.mk #[73,78,68,69,88],11),(ByteArray.mk #[76,65,66,69,76],10),(ByteArray.mk #[76,65,83,84],4),(ByteArray.mk #[76,73,83,84],4),(ByteArray.mk #[76,79,87],9),(ByteArray.mk #[82,69,76,83],11),(ByteArray.mk #[82,69,83,84],3),(ByteArray.mk #[83,69,77],12),(ByteArray.mk #[84,79,80],11)])
instance baDec:DecidableEq ByteArray:=λa b =>
 if h:a.data.toList=b.data.toList then isTrue (by
  cases a
  cases b
  exact ABr ByteArray.mk (Array.toList_inj.1 h))
 else isFalse λe=>h (by rw[e])
theorem A2R:((Bh []).1:List (ByteArray×List Int×List Int×List (Int×Int)))=KZ.1:=by decide +kernel
theorem A2S:((Bh []).2:List (ByteArray×Int))=KZ.2:=by decide +kernel
theorem aL:Bh []=KZ:=Prod.ext A2R A2S
theorem LV:HO KZ:=by rw[<-aL];exact(show HO (if _ then _ else _) by split<;>exact HF _)
theorem Ix:HP KZ:=by rw[<-aL];exact(show HP (if _ then _ else _) by split<;>exact Sf _)
def AAd (h:AJ):Bool:=(h.2.all λx=>decide (0<=x.2)&&decide (x.2<(h.1.length:Int)))&&h.1.all λt=>t.2.2.2.all λp=>decide (0<=p.2)&&decide (p.2<(h.1.length:Int))
theorem A7G {h:AJ} (e:AAd h=true):XA h:=by
 unfold AAd at e;rw[As,IN,IN]at e;refine⟨λx b=>?_,λt a p hp=>?_⟩
 ·have:=e.1 x b;simpa using this
 ·have:=IN.1 (e.2 t a) p hp;simpa using this
theorem JW:XA KZ:=A7G (by decide +kernel)
def A6z (h:AJ) (f:List AE):Bool:=decide (f.length<=100)&&f.all λx=>decide (x.2.length<=100)&&(decide (0<=x.1)&&decide (x.1<(h.1.length:Int)))&&x.2.all λa=>(decide (0<=a.1)&&decide (a.1<(h.2.length:Int)))&&(decide (0<=a.2)&&decide (a.2<(f.length:Int)))
theorem Ow {h:AJ} (hk:HO h) (hi:HP h) (hf:XA h) (d:h.2.length<=100000) {f:List AE} (e:A6z h f=true):k9 h f/\Cw f/\QT f/\∀x∈f,x.2.length<=100:=by
 unfold A6z at e;rw[As,IS,IN]at e;have c:∀x∈f,x.2.length<=100/\(0<=x.1/\x.1<(h.1.length:Int))/\∀a∈x.2,FM h f.length a:=λx b=>by
  have:=e.2 x b;rw[As,As,As,IS,IS,IS,IN]at this;refine⟨this.1.1,this.1.2,λa ha=>?_⟩;have:=this.2 a ha;rw[As,As,As,IS,IS,IS,IS]at this;exact⟨this.1,this.2⟩
 refine⟨⟨hk,hi,hf,d,⟨by omega,λx b=>⟨by have:=(c x b).1;omega,λa ha=>((c x b).2.2 a ha).2⟩⟩,λx b=>(c x b).2.2,λx b=>(c x b).2.1⟩,⟨by omega,λx b=>by have:=(c x b).1;omega⟩,λx b=>by have:=(c x b).1;omega,λx b=>(c x b).1⟩
def AAP (v:KS):Bool:=v.all λr=>r.all λa=>decide (0<=a.2)&&decide (a.2<(v.length:Int))
theorem A7H {v:KS} (e:AAP v=true):VOk v:=λr b a ha=>by
 have:=IN.1 (IN.1 e r b) a ha;simpa using this
theorem gS:VOk (Il KZ):=A7H (by decide +kernel)
theorem uL:∀t∈KZ.1,t.2.2.2.length<=100:=by
 have:(KZ.1.all λt=>decide (t.2.2.2.length<=100))=true:=by decide +kernel
 exact λt a=>by simpa using IN.1 this t a
def gT:List AE:=[(12,[(0,1),(11,2)]),(2,[]),(11,[(1,3),(4,6),(9,7),(12,10)]),(4,[(6,4),(7,5)]),(2,[]),(2,[]),(1,[]),(4,[(6,8),(7,9)]),(2,[]),(2,[]),(7,[])]
theorem AAe:BW KZ [(0,[(10,1)]),(0,[(2,2)]),(0,[])]=([(3,[(10,1)]),(3,[(2,2)]),(0,[])],true):=by decide +kernel
theorem AAf:BW KZ [(8,[(2,1)]),(0,[])]=([],false):=by decide +kernel
theorem AAg:Im KZ [(9,[])]=([(9,[(3,1),(8,2)]),(7,[]),(7,[])],0):=by decide +kernel
theorem AAh:Im KZ [(12,[])]=(gT,0):=by decide +kernel
theorem AAi:Hi KZ [(3,[(10,1)]),(0,[])]=11:=by decide +kernel
theorem AAj:Hi KZ [(2,[(10,1)]),(2,[])]=10:=by decide +kernel
theorem AAk:Hi KZ [(3,[(10,1)]),(3,[(2,2)]),(0,[])]=0:=by decide +kernel
section
attribute [local go_sem] NM Th tE Rf Zz Tg sN MX
def gU:Ae:={ ins:=[],pre:=λ_=>True,out:=λ_=>[.p .bool true] }
attribute [local go_sem] gU
theorem A69:Af Tryz.prog 13 gU:=by
 refine fKP [0,1,2,3,5,6,7,8,9,10,11,82,89,91,92,93,105] [15,17,20,27,30,62,64,67,74,78,83,108,111,117,120] [] Tryz.func13 Tryz.ntmps13 (AF YT (AF xM (AF A5A (AF Vr (AF A5c (AF A1L (AF VP (AF xD AH)))))))) ?_;rintro w0 O0 u a - -;simp only[gU,AM];have B:=aL;have d:KZ.2.length<=100000:=by decide
 have y:=Ow LV Ix JW d (f:=[(0,[(10,1)]),(0,[(2,2)]),(0,[])]) (by decide +kernel);have z:=Ow LV Ix JW d (f:=[(8,[(2,1)]),(0,[])]) (by decide +kernel);have o:=Ow LV Ix JW d (f:=[(9,[])]) (by decide +kernel);have q:=Ow LV Ix JW d (f:=[(12,[])]) (by decide +kernel);have r:=Ow LV Ix JW d (f:=[(3,[(10,1)]),(0,[])]) (by decide +kernel);have s:=Ow LV Ix JW d (f:=[(2,[(10,1)]),(2,[])]) (by decide +kernel);have t:=Ow LV Ix JW d (f:=[(3,[(10,1)]),(3,[(2,2)]),(0,[])]) (by decide +kernel);have K:A1J KZ [(9,[])]:=⟨o.1,uL,gS,o.2.2.2⟩;have L:A1J KZ [(12,[])]:=⟨q.1,uL,gS,q.2.2.2⟩;have m:=JW;have D:=AAe;have E:=AAf;have F:=AAg;have G:=AAh;have H:=AAi;have I:=AAj;have J:=AAk;have s1:Cw gT:=⟨by decide,by decide⟩;have C:∀i,i<11->(gT.getD i (0,[])).1=[12,2,11,4,2,2,1,4,2,2,(7:Int)].getD i 0:=by decide
 have v:gT.length=11:=rfl;have e:Gl [] (0 / 2)=[]:=rfl;have g:Gl [10,1] (2 / 2)=[(10,1)]:=rfl;have j:Gl [2,2] (2 / 2)=[(2,2)]:=rfl;have n:Gl [2,1] (2 / 2)=[(2,1)]:=rfl;have l:Gl [3,1,8,2] (4 / 2)=[(3,1),(8,2)]:=rfl;have w:Cw [(3,[(10,1)]),(3,[(2,2)]),(0,[])]:=⟨by decide,by decide⟩;have x:Cw [(9,[(3,1),(8,2)]),(7,[]),(7,[])]:=⟨by decide,by decide⟩;generalize gT=S at *;generalize KZ=h at *;have c:(h.1,h.2)=h:=rfl;have M:(0:Int) / 2=0:=rfl;repeat'(first|exact trivial|refine eS rfl ?_|refine AB ?_|refine rP a ?_ ?_|fail)
 simp only[B];refine B4 drawsAny a 14 [([0,1,2,3,4,5,6,7,8,9,10,12],13)] [11] (by kernel_rfl) (Lf ?_ ?_)
 ·exact y.1
 ·refine Nm a [] ?_ ?_
  ·trivial
  ·refine Pm a ?_ ?_ ?_
   ·trivial
   ·trivial
   ·simp only[c,e,g,j,n,l,D];repeat'(first|exact trivial|refine eS rfl ?_|refine AB ?_|refine rP a ?_ ?_|fail)
    refine B4 drawsAny a 12 [([0,1,2,3,4,5,6,7,8,10],11)] [9] (by kernel_rfl) (Lf ?_ ?_)
    ·exact z.1
    ·refine Nm a [] ?_ ?_
     ·trivial
     ·refine Pm a ?_ ?_ ?_
      ·trivial
      ·trivial
      ·simp only[c,e,g,j,n,l,E];repeat'(first|exact trivial|refine eS rfl ?_|refine AB ?_|refine rP a ?_ ?_|fail)
       refine B4 drawsAny a 8 [([0,1,2,3,4,6],7)] [5] (by kernel_rfl) (Lf ?_ ?_)
       ·exact K
       ·refine Nm a [] ?_ ?_
        ·trivial
        ·refine Pm a ?_ ?_ ?_
         ·trivial
         ·trivial
         ·simp only[c,F];repeat'(first|exact trivial|refine eS rfl ?_|refine AB ?_|refine rP a ?_ ?_|fail)
          refine B4 drawsAny a 8 [([0,1,2,3,4,6],7)] [5] (by kernel_rfl) (Lf ?_ ?_)
          ·exact L
          ·refine Nm a [] ?_ ?_
           ·trivial
           ·refine Pm a ?_ ?_ ?_
            ·trivial
            ·trivial
            ·simp only[c,G];repeat'(first|exact trivial|refine eS rfl ?_|refine AB ?_|refine rP a ?_ ?_|fail)
             refine rD a ?_ ?_
             ·simp only[e,g,j,l];exact⟨λ_=>⟨w,w⟩,λ_=>⟨x,x⟩⟩
             ·simp only[c,e,g,j,n,l,Gu,show ((0:Int)==0)=true from rfl,ACy,Bool.or_false];repeat'(first|exact trivial|refine eS rfl ?_|refine rX a ?_ ?_|refine rC ?_ ?_<;>intro b<;>try(cases b;done))
              ·rw[v]at b;exact absurd rfl b
              ·have N:(0:Int)+1+1+1+1+1+1+1+1+1+1+1=11:=rfl;refine AG (ι:={k:Nat//k<=11}) (λk=>⟨[(1,.bp 1 [] 0),(2,.bp 2 [] 0),(8,.bp 8 [] 0),(10,.p Es [12,2,11,4,2,2,1,4,2,2,7]),(91,.p (.int .i64) (11:Int)),(92,.p (.int .i64) (k.1:Int))],[(8,.box 25 true [.p Dv S]),(2,.box 25 true [.p Dv [(3,[(10,1)]),(3,[(2,2)]),(0,[])]]),(1,.box 31 true [.p ST h.1,.p TQ h.2])]⟩) (λk=>11-k.1) ⟨0,Is _⟩ (AC [(8,.nm 8),(2,.nm 2),(1,.nm 1)] rfl rfl ?_ ?_) (λk=>?_)
               ·exact eN
               ·refine eM ?_;rfl
               ·obtain⟨k,hk⟩:=k;have A:=C k;simp only;repeat'(first|exact trivial|refine eS rfl ?_|refine AB ?_|refine rX a ?_ ?_|refine rC ?_ ?_<;>intro b<;>try(cases b;done))
                ·rw[v];exact⟨b,b⟩
                ·exact absurd (A (by omega)) b
                ·omega
                ·exact⟨⟨k+1,by omega⟩,by simp only;omega,eW [(8,.nm 8),(2,.nm 2),(1,.nm 1)]⟩
                ·simp only[c,e,g];exact⟨⟨m,r.2.1,r.2.2.1⟩,λ_=>⟨m,s.2.1,s.2.2.1⟩,λ_=>⟨m,t.2.1,t.2.2.1⟩⟩
                ·simp only[c,e,g,H,I,J];exact fI a [.tmp 0]
end
section
attribute [local go_sem] NM QY gU MX
theorem A6a (d:List AI):XE (Bh d):=by
 unfold Bh;split
 ·exact Mn d
 ·exact Mn IY
theorem yT {h:AJ} (hh:H14 h) (a b:List AE):Cw (aJ h a b).1:=by
 unfold aJ;split
 ·rename_i e;have d:=(Ml e).vf;cases c:HR h (E0 h a b).1 with
  | none=>rw[gG c];exact⟨by simp,by simp⟩
  | some ty=>rw[gF c];exact(A2B hh d c).1.small
 ·exact⟨by simp,by simp⟩
end
section
attribute [local go_sem] NM QY gU MX yS
def mN:Ae:={ ins:=[FP,T62],pre:=λ_=>True,out:=λ_=>[.p .bool true] }
attribute [local go_sem] mN
theorem A2T:Af Tryz.prog 10 mN:=by
 refine fKP [0,1,3,4,5,7,8,9,10,11,27,30,31,32,33,44] [14,19] [] Tryz.func10 Tryz.ntmps10 (AF YT (AF xL (AF A69 (AF A7F (AF A68 (AF VP AH)))))) ?_;rintro w0 O0 ⟨d,⟨f,p,g⟩,u⟩ c - -;simp only[mN,AM];have hh:=h14 d;have q:=AAO (Bh d);have n:YA (Bh d) [f,g]=true->(V14 (Bh d) f/\VF (Bh d) f)/\(V14 (Bh d) g/\VF (Bh d) g):=λe=>⟨uD e f (by simp),uD e g (by simp)⟩;have h:=A6a d;repeat'(first|exact trivial|refine eS rfl ?_|refine rX c ?_ ?_|refine rC ?_ ?_<;>intro a<;>try(cases a;done))
 ·exact fI c [.tmp 4]
 ·obtain⟨l,r⟩:=a;obtain⟨⟨v1,vf⟩,i,j⟩:=n l;refine AG (ι:={k:Nat//k<=p.length/\∀e∈p.take k,0<=e/\e<((Bh d).2.length:Int)}) (λk=>⟨[(3,.bp 3 [] 0),(5,.bp 5 [] 0),(30,.p Es p),(31,.p (.int .i64) (p.length:Int)),(32,.p (.int .i64) (k.1:Int))],[(5,.box 31 true [.p ST (Bh d).1,.p TQ (Bh d).2]),(3,.box 62 true [.p D8 f,.p Es p,.p D8 g])]⟩) (λk=>p.length-k.1) ⟨0,by simp⟩ (eW [(3,.nm 3),(5,.nm 5)]) (λk=>?_)
  ·obtain⟨k,hk,b⟩:=k;have o:p.length<=8:=by omega
   repeat'(first|exact trivial|refine eS rfl ?_|refine AB ?_|refine rX c ?_ ?_|refine rC ?_ ?_<;>intro a<;>try(cases a;done))
   ·exact a
   ·exact fI c [.tmp 4]
   ·exact eV
   ·have m:k<p.length:=by omega
    refine⟨⟨k+1,by omega,λe h1=>?_⟩,by simp only;omega,AC [(3,.nm 3),(5,.nm 5)] rfl rfl ?_ ?_⟩
    ·rw[AW p 0 m]at h1;rcases OF.1 h1 with h1|h1
     ·exact b e h1
     ·rw[ABe.1 h1];exact a
    ·exact eN
    ·exact eN
   ·rw[An (by omega)]at b;exact⟨⟨hh,h⟩,vf,j,b,by omega,Qo v1.len (by decide),Qo i.len (by decide)⟩
   ·rw[An (by omega)]at b;exact⟨⟨hh,h⟩,vf,j,b,by omega,Qo v1.len (by decide),Qo i.len (by decide)⟩
   ·exact λ_=>yT hh f _
   ·exact fI c [.tmp 4] (by rw[Gu];exact eR)
end
end Go.Proofs.YtdapahgnpbehbaaGreat.Fw
