/- Contracts of the program's and the reference's functions, and the plain laws of what they compute: T35 L26. -/
import Derived.Test.YtdapahgnpbehbaaGreatHYD
set_option linter.unusedVariables false
set_option linter.unusedSimpArgs false
namespace Go.Proofs.YtdapahgnpbehbaaGreat.Fw
open Go
attribute [local irreducible] Ev
attribute [local go_sem] WF AM List.toList_toArray Bt evG evK Sw ER JR FT Ek Fk NI Jk CB Cl KP B1 Ca frz Y9 GE C0 A4 FC BT AV.frz AV.frzs AV.drp AV.drps AV.names AV.namess aq GF Jj JI QE Hq BQ BU Im EJ HS EK HV HT HW R8 NB GG Io FE Dl R9 OQ tQ Ip Ht KK Ex DZ Hu JK Dw QF CS Dx EY OT Hv OU LB Hw JL Ck CZ E2 Da G9 DF EZ DG Dy E1 B1 CY OK OM Lg Fi Hs Hr JJ Lh NE LC KO KM JO OV KN JP Va NH NF AV.trn AV.trns Dk CR Obj.trn I2 X9 Cv DH Cu Dz CM Ea Ae lk Ga F6 G7 tZ Y8 Su ZB OP mI mJ pfs AV.cells B9 Ik NW JN ND CL Le Ty.cell1 HR EX DY Fh KJ EI Ji LA OL EW Gh Ld QD R6 LX Jh VX Xl OO Lf Cj Il RV.flat Ty.flat Ty.size St.add upd del BZ Value.oneCell' KH Ty.dflt HQ Mb Gk Mh List.take_succ_cons List.take_zero List.length_cons WM WN Mg H9 Ju GM Hk pY El KY KZ Ka Kb Nh Ni Iw Hb QP Option.map_some Option.map_none Option.bind_some Option.getD_some Option.getD_none Option.isNone_none Option.isNone_some Bool.and_true Bool.true_and Bool.and_false Bool.false_and Bool.not_true Bool.not_false if_true if_false List.length_cons List.length_nil and_true true_and and_self List.all_cons List.all_nil List.append_nil List.nil_append List.cons_append List.getElem?_cons_zero List.getElem?_cons_succ List.getElem?_nil List.map_cons List.map_nil List.set_cons_zero List.set_cons_succ List.isEmpty_nil List.isEmpty_cons decide_true decide_false beq_self_eq_true bne_self_eq_false Nat.zero_add Nat.add_zero Nat.sub_zero Int.toNat_natCast Int.toNat_zero Int.toNat_one List.take_length List.length_append List.length_singleton true_or or_true or_self false_or or_false Ty.agg.injEq Ty.slice.injEq Ty.prod.injEq Ty.int.injEq Option.some.injEq beq_iff_eq Kd evMG evMQ tR HC LH B0 Iy GL NM Ix HB Hc Iz Jt Lr Lt Ls QQ Js Md Me Hj AX Af Op.operands Call.operands List.filterMap_cons List.filterMap_nil List.append_eq Bool.cond_false_right Bool.cond_true_left cond_true cond_false implies_true decide_eq_true_eq beq_true beq_false Bool.or_true Bool.or_false Bool.true_or Bool.false_or Option.isSome_some Array.empty_append List.append_toArray FD KQ Eb HK VZ NC E0 FM FL Hx G8 JM KL Sv ZA JH inB JQ E9 Fj Hy Ao WO List.drop_zero DS HO Ve Cn Ki Bi AV.fgt AV.fgts Obj.fgt Ad Au AX Dg LY Bh IA List.any_cons List.any_nil iJ X5 Vf X6 LZ Ox qs List.flatMap_cons List.flatMap_nil List.cons_append tn Vg I3 List.take_succ_cons List.drop_succ_cons Vh HE Bn Zo Jw CT Cm Ak E4 JV Bx Ed Db HA Ha GK H8
attribute [local go_sem] JY jQ ty3 ty4 ty5 ty9 v9 wA wB wC wD wE wF wG wH wI wJ wK wL wM wN wO wP wQ wR wS wT wU wV wW wX wY wZ w3 w4 w5 w7 w8 w9 xA xB xC xD xE xF xG xH xI xJ xK xL xM xN xO xP xQ xR xS xT xU xV xW xX xY xZ x5 x6 x7 x8 x9 yA yB yC yD yE yF yG yH yI yJ Zv Zw Zx Zy Zz Z0 Z1 Z2 Z3 Z4 Z5 Z6 Z7 Z8 Z9 aA aB aC aD aE aF aG aH aI aJ aK aL aM aN aO aP aQ aR aU aV aW aX aY aZ a9 bA bB bC bD bE bF bG bH bI bJ bK bL bM bN bO bP bQ bR bS bT bU bV bW bX bZ b4 b5 b6 b7 b8 b9 cA cB cC cE cF cG cH cI cJ cK cL cM cN cO cQ cR cS cU cV cW cX cZ c6 c7 c8 c9 dA dB dC dD dE dF dG dH dI dJ dK dL dM dN dP dQ dR dS dT dU dV dW
set_option maxRecDepth 100000
set_option maxHeartbeats 4000000
theorem Xk {f:Int}:∀ {l:List (Int×Int)},(Ct f l).2=true↔∃p∈l,p.1=f
 | []=>⟨fun h=>(by cases h),fun⟨_,h,_⟩=>by cases h⟩
 | x :: l=>by
  unfold Ct;split
  ·rename_i e;exact⟨fun _=>⟨x,by simp,e⟩,fun _=>rfl⟩
  ·rename_i e;rw[Xk (l:=l)];constructor
   ·rintro⟨p,hp,e⟩;exact⟨p,by simp[hp],e⟩
   ·rintro⟨p,hp,a⟩;rcases GO.1 hp with rfl|hp
    ·exact absurd a e
    ·exact⟨p,hp,a⟩
theorem iH {v:Int×Int}:∀ {l:List (Int×Int)},(l.map (·.1)).Nodup→v∈l→Ct v.1 l=(v.2,true)
 | x :: l,a,h=>by
  rw[tO,AA5]at a;unfold Ct;rcases GO.1 h with rfl|h
  ·rw[BY rfl]
  ·rw[At fun e=>a.1 (If.2 ⟨v,h,e.symm⟩),iH a.2 h]
theorem pI (h:AJ) (t f:Int):Aw h t f=Ct f (Ba h t):=rfl
def A37 (h:AJ) (x:AF):Prop:=∀v∈Ba h x.1,∃a∈x.2,a.1=v.1
def WtN (h:AJ) (N:List AF):Prop:=∀x∈N,∀a∈x.2,(Aw h x.1 a.1).2=true∧A8 h (Aw h x.1 a.1).1 (N.getD a.2.toNat (0,[])).1=true
structure FI (h:AJ) (y:List AF) (i:Nat) (N:List AF):Prop where
 ng:NG h N
 wt:WtN h N
 full:∀j,j<i→j<N.length→A37 h (N.getD j (0,[]))
 len:y.length≤N.length
 ext:∀j,j<y.length→(N.getD j (0,[])).1=(y.getD j (0,[])).1∧∀a∈(y.getD j (0,[])).2,a∈(N.getD j (0,[])).2
theorem A0U {N:List AF} {i:Nat} (hi:i<N.length) (M:List (Int×Int)) (j:Nat):(GD N i M).getD j (0,[])=if j=i then ((N.getD i (0,[])).1,(N.getD i (0,[])).2++VS N.length M) else if j<N.length then N.getD j (0,[]) else if j-N.length<M.length then ((M.getD (j-N.length) (0,0)).2,[]) else (0,[]):=by
 unfold GD;by_cases b:j<N.length
 ·rw[AS,oS (by rw[AAd];exact b),←AS,Fd N _ (0,[]) hi];split
  ·rfl
  ·rfl
 ·rw[AS,AA3 (by rw[AAd];omega),AAd,AAy,At (by omega),At b];split
  ·rename_i a;rw[AT a,AS,AT a];rfl
  ·rename_i a;rw[gO (by omega)];rfl
theorem pJ {a:Int×Int}:∀ {M:List (Int×Int)} {n:Nat},a∈VS n M→∃k,k<M.length∧a=((M.getD k (0,0)).1,((n+k:Nat):Int))
 | v :: M,n,h=>by
  rcases GO.1 h with rfl|h
  ·exact⟨0,by simp,rfl⟩
  ·obtain⟨k,hk,rfl⟩:=pJ h;exact⟨k+1,by simp only[No];omega,by rw[show n+1+k=n+(k+1) by omega];rfl⟩
section
variable {h:AJ} (hh:pA h) (hr:RD h)
include hh hr
theorem A2K {y N:List AF} {i:Nat} (hF:FI h y i N) (hi:i<N.length):FI h y (i+1) (KE h N i):=by
 have r:=AD N (0,[]) hi;have s:=hF.ng.ty _ r;obtain⟨t,u,e⟩:=K7 s.1 s.2;have H:=Sr (hr.str t u);have I:=Ss hh.ft hr hF.ng hi;have n:∀v,v∈(Ba h (N.getD i (0,[])).1).filter (Cg (N.getD i (0,[])).2)↔v∈t.2.2.2∧Cg (N.getD i (0,[])).2 v=true:=fun v=>by rw[e,AA4]
 have G:=Hn N i ((Ba h (N.getD i (0,[])).1).filter (Cg (N.getD i (0,[])).2));have f:=A0U hi ((Ba h (N.getD i (0,[])).1).filter (Cg (N.getD i (0,[])).2));have p:KE h N i=GD N i ((Ba h (N.getD i (0,[])).1).filter (Cg (N.getD i (0,[])).2)):=rfl;rw[←p]at G f;generalize (Ba h (N.getD i (0,[])).1).filter (Cg (N.getD i (0,[])).2)=M at *;have w:∀j,j<N.length→((KE h N i).getD j (0,[])).1=(N.getD j (0,[])).1:=fun j m=>by
  rw[f j];split
  ·rename_i c;rw[c]
  ·rfl
 refine⟨I,fun x l a ha=>?_,fun j m K=>?_,by have:=hF.len;omega,fun j m=>?_⟩
 ·have B:∀z∈N,∀b∈z.2,(Aw h z.1 b.1).2=true∧A8 h (Aw h z.1 b.1).1 ((KE h N i).getD b.2.toNat (0,[])).1=true:=fun z A b o=>by
   have:=(hF.ng.arc z A b o).2;rw[w _ (by omega)];exact hF.wt z A b o
  rw[p]at l;rcases Mz hi l with l|rfl|⟨v,d,rfl⟩
  ·exact B x l a ha
  ·rcases ON.1 ha with ha|ha
   ·exact B _ r a ha
   ·obtain⟨k,hk,rfl⟩:=pJ ha;have d:=(n _).1 (AD M (0,0) hk);have h1:Aw h (N.getD i (0,[])).1 (M.getD k (0,0)).1=((M.getD k (0,0)).2,true):=by
     rw[pI,e];exact iH H d.1
    have E:((KE h N i).getD (N.length+k) (0,[])).1=(M.getD k (0,0)).2:=by
     rw[f,At (by omega),At (by omega),BY (by omega),show N.length+k-N.length=k by omega]
    show (Aw h (N.getD i (0,[])).1 (M.getD k (0,0)).1).2=true∧A8 h (Aw h (N.getD i (0,[])).1 (M.getD k (0,0)).1).1 ((KE h N i).getD (((N.length+k:Nat):Int)).toNat (0,[])).1=true;rw[h1,f7,E];have:=hh.ft.val t u _ d.1;exact⟨rfl,Mt hh.ok this.1 this.2⟩
  ·cases ha
 ·by_cases q:j=i
  ·subst q;rw[f,BY rfl];intro v d;have d:v∈Ba h (N.getD j (0,[])).1:=d;by_cases g:Cg (N.getD j (0,[])).2 v=true
   ·have J:=(n v).2 ⟨by rw[←e];exact d,g⟩;have:v.1∈(VS N.length M).map (·.1):=by rw[Y2];exact If.2 ⟨v,J,rfl⟩
    obtain⟨a,ha,c⟩:=If.1 this;exact⟨a,ABZ _ ha,c⟩
   ·unfold Cg at g;rw[OF,ACv,Of]at g;obtain⟨a,ha,c⟩:=g;exact⟨a,ABb _ ha,by simpa using c⟩
  ·have:=hF.full j (by omega) (by omega);rw[f,At q,BY (by omega)];exact this
 ·have F:j<N.length:=by have:=hF.len;omega
  obtain⟨C,c⟩:=hF.ext j m;refine⟨by rw[w j F];exact C,fun a ha=>?_⟩;rw[f];split
  ·rename_i D;subst D;exact ABb _ (c a ha)
  ·exact c a ha
theorem A0V {y:List AF}:∀ {k i:Nat} {N R:List AF},FI h y i N→Ff h k i N=some R→FI h y R.length R
 | 0,_,_,_,_,e=>by cases e
 | k+1,i,N,R,hF,e=>by
  unfold Ff at e;split at e
  ·rename_i hi;split at e
   ·cases e
   ·exact A0V (A2K hh hr hF hi) e
  ·rename_i hi;cases e;exact⟨hF.ng,hF.wt,fun j b a=>hF.full j (by omega) a,hF.len,hF.ext⟩
omit hh hr in
theorem A47 {S:List AF} (c:A2 S) (hs:M7 S) (h0:0<S.length) (k:Uw h S) (hf:∀x∈S,∀a∈x.2,0≤a.1∧a.1<(h.2.length:Int)):VF h (AU S 0):=by
 have g:=tN c (r:=0) (by omega) (by omega)
 have i:∀x∈AU S 0,∃y∈S,x.2=y.2.map (L2 (Ep S S.length [] 0)):=fun x d=>by
  obtain⟨n,hn,rfl⟩:=If.1 d
  have:=(Ps c (r:=0) (by omega) (by omega)).ok.rng n hn
  exact⟨S.getD n.toNat (0,[]),AD S (0,[]) (by omega),rfl⟩
 refine⟨g.1,g.2,A2J c k (by omega) (by omega),fun x d=>?_,fun x d a ha=>?_,A0q c (by omega) (by omega),?_⟩
 ·obtain⟨y,f,e⟩:=i x d
  rw[e]
  show List.Pairwise _ _
  rw[AAr]
  exact((Gy _).1 (hs y f).1).imp fun h=>h
 ·obtain⟨y,f,e⟩:=i x d
  rw[e]at ha
  obtain⟨b,j,rfl⟩:=If.1 ha
  exact hf y f b j
 ·have h1:=oP c hs h0 (fun _ _=>true)
  unfold Rx at h1
  rwa [Uv fun _ _ _ _=>rfl]at h1
structure pK (h:AJ) (y x:List AF):Prop where
 vf:VF h x
 wt:WTy h x (Ai x)
 full:∀z∈x,A37 h z
 hom:∃m,Hom h y x m
 len:x.length≤4096
omit hr in
theorem A48 {y R:List AF} (O:VF h y) (hF:FI h y R.length R) (h0:0<R.length) (Z:R.length≤4096):pK h y (ET R 0):=by
 have T:∀k,((R.getD k (0,[])).2.map (·.1)).Nodup:=fun k=>by
  by_cases hk:k<R.length
  ·exact hF.ng.nd _ (AD R (0,[]) hk)
  ·rw[AS,gO (by omega)];exact List.nodup_nil
 have U:=Xg R
 have H:=RC R
 have D:∀x∈F3 R,∃y∈R,x=(y.1,AR y.2):=fun x g=>by
  obtain⟨z,c,rfl⟩:=If.1 g
  exact⟨z,c,rfl⟩
 have M:=fun {x} (g:x∈R)=>OI hh.b2 hF.ng g
 have F:A2 (F3 R):=by
  refine⟨by omega,fun x g=>?_⟩
  obtain⟨z,c,rfl⟩:=D x g
  have hp:=BN z.2
  refine⟨?_,fun a ha=>?_⟩
  ·show (AR z.2).length≤_
   rw[hp.length_eq];have:=M c;omega
  ·rw[U]
   exact(hF.ng.arc z c a (hp.mem_iff.1 ha)).2
 have hs:M7 (F3 R):=fun x g=>by
  obtain⟨z,c,rfl⟩:=D x g
  refine⟨(Gy _).2 (mA (hF.ng.nd z c)),?_⟩
  show (AR z.2).length≤_
  rw[(BN z.2).length_eq];have:=M c;omega
 have P:ET R 0=AU (F3 R) 0:=by
  rw[←mB T 0]
  exact Ef F hs (by omega) (by omega)
 rw[P]
 have w:VF h (AU (F3 R) 0):=A47 F hs (by omega) (fun x g=>by obtain⟨z,c,rfl⟩:=D x g;exact hF.ng.ty z c) fun x g a ha=>by
  obtain⟨z,c,rfl⟩:=D x g
  exact(hF.ng.arc z c a ((BN z.2).mem_iff.1 ha)).1
 have l:=Ps F (r:=0) (by omega) (by omega)
 have E:=Uy (F3 R) 0
 have K:=fun i=>Ux (f:=F3 R) (r:=0) (i:=i)
 generalize aa:Ep (F3 R) (F3 R).length [] 0=o at *
 generalize AU (F3 R) 0=A at *
 have ab:=l.ok.len
 have G:∀n∈o,0≤n∧n.toNat<R.length:=fun n hn=>by
  have:=l.ok.rng n hn
  omega
 have C:∀i,i<o.length→∃n∈o,o.getD i 0=n∧(A.getD i (0,[])).1=(R.getD n.toNat (0,[])).1∧∀a,a∈(A.getD i (0,[])).2↔∃b∈(R.getD n.toNat (0,[])).2,a=(b.1,IG o b.2):=fun i hi=>by
  refine⟨o.getD i 0,AD o 0 hi,rfl,?_,fun a=>?_⟩
  ·rw[K i hi]
   show ((F3 R).getD (o.getD i 0).toNat (0,[])).1=_
   rw[H]
  ·rw[K i hi]
   show a∈((F3 R).getD (o.getD i 0).toNat (0,[])).2.map (L2 o)↔_
   rw[H,If]
   constructor
   ·rintro⟨b,d,rfl⟩
    exact⟨b,(BN _).mem_iff.1 d,rfl⟩
   ·rintro⟨b,d,rfl⟩
    exact⟨b,(BN _).mem_iff.2 d,rfl⟩
 have L:∀n∈o,∀b∈(R.getD n.toNat (0,[])).2,b.2∈o:=fun n hn b d=>l.cl n hn b (by
  show b∈((F3 R).getD n.toNat (0,[])).2
  rw[H]
  exact(BN _).mem_iff.2 d)
 have N:∀n∈o,(A.getD (IG o n).toNat (0,[])).1=(R.getD n.toNat (0,[])).1:=fun n hn=>by
  obtain⟨X,Y,I⟩:=Gz hn
  obtain⟨m,-,B,s,-⟩:=C (IG o n).toNat (by omega)
  rw[s,←B,I]
 have J:(0:Int)∈o:=by
  have:=AD o 0 l.zero.2
  rwa [l.zero.1]at this
 have Q:IG o 0=0:=by
  have:=MN l.ok.nd l.zero.2
  rw[l.zero.1]at this
  simpa using this
 refine⟨w,?_,fun z c=>?_,?_,by omega⟩
 ·intro i hi a ha
  rw[E]at hi
  obtain⟨n,hn,-,s,t⟩:=C i hi
  obtain⟨b,d,rfl⟩:=(t a).1 ha
  have:=hF.wt _ (AD R (0,[]) (G n hn).2) b d
  rw[Du,Du,f7,s,N _ (L n hn b d)]
  exact this
 ·obtain⟨i,hi,rfl⟩:=CC (0,[]) c
  rw[E]at hi
  obtain⟨n,hn,-,s,t⟩:=C i hi
  intro v w
  rw[s]at w
  obtain⟨b,d,e⟩:=hF.full n.toNat (G n hn).2 (G n hn).2 v w
  exact⟨_,(t _).2 ⟨b,d,rfl⟩,e⟩
 ·have u:∀(k:Nat) (i:Int),i.toNat≤k→0≤i→i<(y.length:Int)→i∈o:=by
   intro k
   induction k with
   | zero=>intro i hk p _;rw[show i=0 by omega];exact J
   | succ k V =>
    intro i hk p q
    by_cases c:i=0
    ·rw[c];exact J
    ·obtain⟨j,W,ad,a,ha,e⟩:=O.ro i (by omega) q
     have S:=V j (by omega) W (by omega)
     rw[←e]
     exact L j S a ((hF.ext j.toNat (by omega)).2 a ha)
  have u:∀i:Int,0≤i→i<(y.length:Int)→i∈o:=fun i=>u i.toNat i (NO _)
  refine⟨IG o,Q,fun i p q=>?_,fun i p q=>?_,fun i p q a ha=>?_⟩
  ·have:=Gz (u i p q)
   exact⟨this.1,by rw[E];exact this.2.1⟩
  ·rw[N i (u i p q),(hF.ext i.toNat (by omega)).1]
   have:=O.ty _ (AD y (0,[]) (k:=i.toNat) (by omega))
   exact Mt hh.ok this.1 this.2
  ·obtain⟨X,Y,I⟩:=Gz (u i p q)
   obtain⟨n,hn,B,-,t⟩:=C (IG o i).toNat (by omega)
   rw[I]at B
   subst B
   have d:=(hF.ext i.toNat (by omega)).2 a ha
   have:(a.1,IG o a.2)∈Bz A (IG o i):=(t _).2 ⟨a,d,rfl⟩
   exact A0o (w.srt hh.hu) this
theorem A0W {y x:List AF} (b:pK h y x):BD h x=(x,true)∧(J9 (B8 h)=true→CE h x=(x,0)):=by
 have hi:BD h x=(x,true):=by rw[DM (A2F hh b.vf b.wt),l8]
 refine⟨hi,fun ha=>?_⟩;rw[RF hh hr b.vf b.len];unfold DN;rw[hi,At (by simp),At (by rw[ha];simp)];have d:∀i,i<x.length→KE h x i=x:=fun i hi=>by
  have g:=AD x (0,[]) hi;have f:=b.full _ g;unfold KE;have:(Ba h (x.getD i (0,[])).1).filter (Cg (x.getD i (0,[])).2)=[]:=by
   rw[List.filter_eq_nil_iff];intro v j;obtain⟨a,ha,e⟩:=f v j;unfold Cg;rw[OF,ACv,Of];exact⟨a,ha,by simpa using e⟩
  rw[this,Xi hi]
 have key:∀k i,x.length+1≤k+i→i≤x.length→Ff h k i x=some x:=by
  intro k;induction k with
  | zero=>intro i h1 c;omega
  | succ k l =>
   intro i h1 c;unfold Ff;by_cases hi:i<x.length
   ·rw[BY hi,d i hi,At (by have:=b.len;omega)];exact l (i+1) (by omega) (by omega)
   ·rw[At hi]
 rw[key _ 0 (by simp only;omega) (by omega)];show (ET x 0,0)=(x,0);have hp:=b.vf.pos;rw[Ef b.vf.good (b.vf.srt hh.hu) (by omega) (by omega),b.vf.can]
omit hh hr in
theorem A0X {y x:List AF} (c:pK h y x) {z:AF} (d:z∈x):z.2.map (·.1)=((List.range h.2.length).filter fun i:Nat=>(Aw h z.1 (i:Int)).2).map fun i:Nat=>(i:Int):=by
 have hs:(z.2.map (·.1)).Pairwise (· < ·):=by rw[AAr];exact(c.vf.str z d).imp fun h=>h
 have f:(((List.range h.2.length).filter fun i:Nat=>(Aw h z.1 (i:Int)).2).map fun i:Nat=>(i:Int)).Pairwise (· < ·):=by
  rw[AAr]
  exact(List.pairwise_lt_range.filter _).imp fun h=>by omega
 have g:=c.wt
 rw[←Yz,Gg]at g
 refine List.Perm.eq_of_pairwise (le:=(· < ·)) (fun a b _ _ h1 k=>by omega) hs f ?_
 refine(List.perm_ext_iff_of_nodup (hs.imp fun h=>by omega) (f.imp fun h=>by omega)).2 fun e=>?_
 rw[If,If]
 constructor
 ·rintro⟨a,ha,rfl⟩
  have:=c.vf.ft z d a ha
  refine⟨a.1.toNat,AA4.2 ⟨iS.2 (by omega),?_⟩,by omega⟩
  rw[show ((a.1.toNat:Nat):Int)=a.1 by omega]
  exact(g z d a ha).1
 ·rintro⟨i,hi,rfl⟩
  have:=(AA4.1 hi).2
  rw[pI,Xk]at this
  obtain⟨p,hp,e⟩:=this
  obtain⟨a,ha,j⟩:=c.full z d p hp
  exact⟨a,ha,j.trans e⟩
end
section
attribute [local go_sem] K4 Mv Xj Ko Q0 Q1 Pq A0m KA gE MG
structure A6M (h:AJ) (f:List AF):Prop where
 pre:lN h f
 ok:(BD h f).2=!((CE h f).2==12)
 cyc:(BD h f).2=true→((CE h f).2==6)=!(J9 (B8 h))
 err:(CE h f).2≠0→(CE h f).1=[]
 full:(CE h f).2=0→pK h (BD h f).1 (CE h f).1∧(BD h f).2=true∧VF h (BD h f).1∧CE h (CE h f).1=((CE h f).1,0)
theorem A49 {h:AJ} (hh:pA h) (hr:RD h) {f:List AF} (c:VF h f) (s:f.length≤12):A6M h f:=by
 have e:=RF hh hr c (by omega);have r:DN h f=CE h f:=e.symm;unfold DN at e;cases b:FJ h f with
 | none =>
  rw[G0 b]at e;have e:CE h f=([],12):=e;refine⟨M0 hh hr c,?_,?_,?_,?_⟩<;>simp[e,G0 b]
 | some ty =>
  rw[DM b,At (by simp)]at e;have d:=(MR hh c b).1;have q:(Be f ty).length≤4096:=by rw[CU];omega
  by_cases ha:J9 (B8 h)=false
  ·rw[BY ha]at e;refine⟨M0 hh hr c,?_,?_,?_,?_⟩<;>simp[e,DM b,ha]
  ·have ha:J9 (B8 h)=true:=by simpa using ha
   rw[At (by rw[ha];simp)]at e;cases g:Ff h ((Be f ty).length+4097) 0 (Be f ty) with
   | none =>
    simp only[g]at e;refine⟨M0 hh hr c,?_,?_,?_,?_⟩<;>simp[e,DM b,ha]
   | some R =>
    simp only[g]at e;have n:FI h (Be f ty) 0 (Be f ty):=by
     refine⟨R5 d,?_,fun j p=>by omega,NO _,fun j p=>⟨rfl,fun a ha=>ha⟩⟩;have k:=(A46 hh c b).2;rw[←Yz,Gg]at k;exact k
    obtain⟨-,l,m⟩:=P6 hh.ft hr (R5 d) d.pos q g;have i:=A48 hh d (A0V hh hr n g) l m;have o:=A0W hh hr i;refine⟨M0 hh hr c,?_,?_,?_,?_⟩ 
    ·simp[e,DM b]
    ·simp[e,ha]
    ·simp[e]
    ·rw[e,DM b];exact fun _=>⟨i,rfl,d,o.2 ha⟩
theorem A0Y (p:Nat→Bool) {j m:Nat} (a:j<m) (hp:p j=true):((List.range j).filter p).length<((List.range m).filter p).length∧((List.range m).filter p).getD ((List.range j).filter p).length 0=j:=by
 obtain⟨r,rfl⟩:∃r,m=j+(r+1):=⟨m-j-1,by omega⟩;rw[List.range_add,List.range_succ_eq_map,tO,AAZ,List.filter_cons_of_pos (by simpa using hp)];refine⟨by simp,?_⟩;rw[AS,AA3 (NO _),AB4];simp
theorem tP (p:Nat→Bool) (j:Nat):((List.range (j+1)).filter p).length=((List.range j).filter p).length+if p j=true then 1 else 0:=by
 rw[AAc,AAZ,OR,AAn];split<;>rfl
def mH:Ac:={ ins:=[E5,FZ],pre:=fun _=>True,out:=fun _=>[.p .bool true] }
attribute [local go_sem] mH
theorem A0Z:Ah Tryz.prog 7 mH:=by
 refine fKP [0,1,3,4,5,6,7,8,9,11,12,13,15,16,17,24,52,54,63,64,65,66,71,72,73,84,99,107] [14] [] Tryz.func7 Tryz.ntmps7 (AE Q2 (AE XT (AE pG (AE Um (AE Uf (AE Ru (AE oK (AE Yj (AE XS (AE A2s (AE O8 AG))))))))))) ?_;rintro w0 O0 ⟨d,f,u⟩ g - -;simp only[mH,AM];have hh:=h14 d;have hr:=pH d;have h:=A6D (AY d);have o:Uq (AY d) [f]=true→A6M (AY d) f:=fun e=>A49 hh hr (Y0 e f (by simp)).2 (Y0 e f (by simp)).1.len;repeat'(first|exact trivial|refine eS rfl ?_|refine AB ?_|refine rX g ?_ ?_|refine rC ?_ ?_<;>intro a<;>try(cases a;done))
 ·exact fI g [.tmp 4]
 ·exact(o a).pre
 ·exact(o a).pre.inf
 ·exact⟨fun _=>To hh.b1 (by decide),fun _=>Y5 hh.ft⟩
 ·have q:=o (by assumption);simp only[h]at *;rcases a with e|⟨H,C⟩
  ·rw[q.ok]at e;simp[bne]at e
  ·rw[q.cyc H]at C;simp at C
 ·have q:=o (by assumption);simp only[h]at *;have e:=q.err a;exact fI g [.tmp 4] (by rw[e];exact eR)
 ·have q:=o (by assumption);simp only[h]at *;have B:(CE (AY d) f).2=0:=by simpa using a
  obtain⟨b,V,t,E⟩:=q.full B;generalize (CE (AY d) f).1=x at *;generalize W:(BD (AY d) f).1=y at *;have P:=b.len;have O:=fun z B=>A0X b (z:=z) B;have T:=hh.b2;refine AI (ι:={i:Nat//i≤x.length}) (fun i=>⟨[(5,.bp 5 [] 0),(6,.bp 6 [] 0),(8,.bp 8 [] 0),(63,.p Et x),(64,.p (.int .i64) (x.length:Int)),(65,.p (.int .i64) (i.1:Int))],[(8,.box 25 true [.p Et y]),(6,.box 25 true [.p Et x]),(5,.box 31 true [.p M6 (AY d).1,.p Nq (AY d).2])]⟩) (fun i=>x.length-i.1) ⟨0,IN _⟩ (AC [(5,.nm 5),(6,.nm 6),(8,.nm 8)] rfl rfl ?_ ?_) (fun i=>?_)
  ·first|exact eN|refine eM ?_
  ·first|exact eN|refine eM ?_
  ·obtain⟨i,hi⟩:=i;simp only;repeat'(first|exact trivial|refine eS rfl ?_|refine AB ?_|refine rX g ?_ ?_|refine rC ?_ ?_<;>intro a<;>try(cases a;done))
   ·exact a
   ·have F:i<x.length:=IS.1 a;have w:=AD x (0,[]) F;have A:=O _ w;have G:=b.vf.ty _ w;have N:(x.getD i (0,[])).2.length≤64:=OI hh.b2 (R5 b.vf) w;generalize x.getD i (0,[])=z at *;obtain⟨c,row⟩:=z;simp only at A G N ⊢;have v:row.length=((List.range (AY d).2.length).filter fun i:Nat=>(Aw (AY d) c (i:Int)).2).length:=by
     have:=AAX List.length A;simpa using this
    refine AI (ι:={j:Nat//j≤(AY d).2.length}) (fun j=>⟨[(5,.bp 5 [] 0),(6,.bp 6 [] 0),(8,.bp 8 [] 0),(63,.p Et x),(64,.p (.int .i64) (x.length:Int)),(65,.p (.int .i64) (i:Int)),(11,.bp 11 [] 0),(12,.p (.int .i64) ((((List.range j.1).filter fun i:Nat=>(Aw (AY d) c (i:Int)).2).length:Nat):Int)),(71,.p (.int .i64) ((AY d).2.length:Int)),(72,.p (.int .i64) (j.1:Int))],[(11,.box 49 true [.p T3 c,.p Ii row]),(8,.box 25 true [.p Et y]),(6,.box 25 true [.p Et x]),(5,.box 31 true [.p M6 (AY d).1,.p Nq (AY d).2])]⟩) (fun j=>(AY d).2.length-j.1) ⟨0,IN _⟩ (AC [(5,.nm 5),(6,.nm 6),(8,.nm 8),(11,.nm 11)] rfl rfl ?_ ?_) (fun j=>?_)
    ·first|exact eN|refine eM ?_
    ·first|exact eN|refine eM ?_
     rfl
    ·obtain⟨j,U⟩:=j;simp only;have s:=tP (fun i:Nat=>(Aw (AY d) c (i:Int)).2) j;have D:=fun h1 K=>A0Y (fun i:Nat=>(Aw (AY d) c (i:Int)).2) (j:=j) (m:=(AY d).2.length) h1 K;have S:((List.range j).filter fun i:Nat=>(Aw (AY d) c (i:Int)).2).length≤j:=by
      have:=AAv (fun i:Nat=>(Aw (AY d) c (i:Int)).2) (List.range j)
      rwa [ABT]at this
     have M:∀k,k<row.length→(row.getD k (0,0)).1=((((List.range (AY d).2.length).filter fun i:Nat=>(Aw (AY d) c (i:Int)).2).getD k 0:Nat):Int):=fun k hk=>by
      have:=AAX (fun l:List Int=>l.getD k 0) A;simpa[AS,hk,v▸hk] using this
     rw[←v]at D;have L:j=(AY d).2.length→((List.range j).filter fun i:Nat=>(Aw (AY d) c (i:Int)).2).length=row.length:=fun e=>by rw[v,e]
     generalize R:((List.range j).filter fun i:Nat=>(Aw (AY d) c (i:Int)).2).length=Q at *;repeat'(first|exact trivial|refine eS rfl ?_|refine AB ?_|refine rX g ?_ ?_|refine rC ?_ ?_<;>intro a<;>try(cases a;done))
     ·exact G
     ·omega
     ·have n:j<(AY d).2.length:=IS.1 (by assumption);have r:(Aw (AY d) c (j:Int)).2=false:=a;rw[At (by rw[r];simp),Nat.add_zero]at s;refine⟨⟨j+1,n⟩,by simp only;omega,AC [(5,.nm 5),(6,.nm 6),(8,.nm 8),(11,.nm 11)] rfl rfl ?_ ?_⟩
      ·first|exact eN|refine eM ?_
      ·simp only[s];first|exact eN|refine eM ?_
     ·exact fun e=>by simpa using e
     ·exfalso;have n:j<(AY d).2.length:=IS.1 (by assumption);have r:(Aw (AY d) c (j:Int)).2=true:=by assumption
      obtain⟨I,J⟩:=D n r;rcases a with e|e
      ·omega
      ·exact e (by rw[M _ I,J])
     ·omega
     ·omega
     ·have n:j<(AY d).2.length:=IS.1 (by assumption);have r:(Aw (AY d) c (j:Int)).2=true:=by assumption
      rw[BY r]at s;refine⟨⟨j+1,n⟩,by simp only;omega,AC [(5,.nm 5),(6,.nm 6),(8,.nm 8),(11,.nm 11)] rfl rfl ?_ ?_⟩
      ·first|exact eN|refine eM ?_
      ·simp only[s];first|exact eN|refine eM ?_
     ·exfalso;have:=L (by omega);omega
     ·omega
     ·refine⟨⟨i+1,F⟩,by simp only;omega,AC [(5,.nm 5),(6,.nm 6),(8,.nm 8)] rfl rfl ?_ ?_⟩
      ·first|exact eN|refine eM ?_
      ·first|exact eN|refine eM ?_
   ·exact M0 hh hr b.vf
   ·have hs:=A0N hh.hu b.vf;refine⟨⟨hh.ft,hs⟩,fun _=>⟨t.good,t.pos,b.vf.good,b.vf.pos,t.ty,b.vf.ty⟩,fun _=>⟨hs.1,?_⟩⟩;simp only[h,E];exact hs.1
   ·have c1:F1 (AY d) x=0:=by unfold F1;rw[BY (A0M hh.hu b.vf P)];exact Yz.2 b.wt
    have c2:Rz (AY d) y x=true:=(A0K t b.vf).2 b.hom;simp only[h,E,c1,c2,EH];exact fI g [.tmp 4]
end
end Go.Proofs.YtdapahgnpbehbaaGreat.Fw
