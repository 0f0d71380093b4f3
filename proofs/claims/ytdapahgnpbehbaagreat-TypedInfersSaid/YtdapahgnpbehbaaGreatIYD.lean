/- Contracts of the program's and the reference's functions, and the plain laws of what they compute: V2 V4 V5 V6 V9 V10 T19 T20 T22 T24 W6 T26 T21 T23 T25 T17 T18 L19. -/
import Derived.Test.YtdapahgnpbehbaaGreatIYC
import Derived.Test.YtdapahgnpbehbaaGreatIYA
import Derived.Test.YtdapahgnpbehbaaGreatIYB
import Derived.Test.YtdapahgnpbehbaaGreatIZI
import Derived.Laws.Strings
set_option linter.unusedVariables false
set_option linter.unusedSimpArgs false
namespace Go.Proofs.YtdapahgnpbehbaaGreat.Fw
open Go
attribute [local irreducible] Ev
attribute [local go_sem] XK AL List.toList_toArray Bl evG evK TS EH JS F1 FC FM Mr J2 B4 Cv LJ CD CS frz ZH Fv Cu A2 E3 BO AV.frz AV.frzs AV.drp AV.drps AV.names AV.namess aq Fy J1 JI QW H6 BP BW IY Dz He D0 Hg Hf Hh RK Ml GG JK E5 Du RL OQ nY IZ Hi KO Eh DR H9 JL D5 QX CK D6 EU OT Hj OU KP IA JM Cn CY Em DS Gm DC EV DD D7 E7 CD CR Mj OP L9 Fj H8 H7 JJ Lw Mo KR KU KS JP Ph KT JQ VZ Mq Mp AV.trn AV.trns Dp CJ Obj.trn Ir Xe Cp DF Co D8 CF EW AZ lk GS Fx Gj t7 ZG TX ZJ Pf kC kD uD AV.cells B0 IW Mk JO Mn CB Lu Ty.cell1 Hd EP DQ FL J0 Dy JH KN OO El GF Ln QU RJ KM JF VX Wq Pe Lv Ce IX RV.flat Ty.flat Ty.size St.add upd del BQ Value.oneCell' KJ Ty.dflt Hc M9 Gw NH List.take_succ_cons List.take_zero List.length_cons XT XU NG Im Kj Ge Io o0 FD LT LU LV LW Oe Og Jb Ht Rd Option.map_some Option.map_none Option.bind_some Option.getD_some Option.getD_none Option.isNone_none Option.isNone_some Bool.and_true Bool.true_and Bool.and_false Bool.false_and Bool.not_true Bool.not_false if_true if_false List.length_cons List.length_nil and_true true_and and_self List.all_cons List.all_nil List.append_nil List.nil_append List.cons_append List.getElem?_cons_zero List.getElem?_cons_succ List.getElem?_nil List.map_cons List.map_nil List.set_cons_zero List.set_cons_succ List.isEmpty_nil List.isEmpty_cons decide_true decide_false beq_self_eq_true bne_self_eq_false Nat.zero_add Nat.add_zero Nat.sub_zero Int.toNat_natCast Int.toNat_zero Int.toNat_one List.take_length List.length_append List.length_singleton true_or or_true or_self false_or or_false Ty.agg.injEq Ty.slice.injEq Ty.prod.injEq Ty.int.injEq Option.some.injEq beq_iff_eq J8 evMG evMQ o6 Gy Kg Bo Il F2 NB Ij Gx Hu Jc J7 MK L1 ML Qa Kh NC ND Ik AU Ac Op.operands Call.operands List.filterMap_cons List.filterMap_nil List.append_eq Bool.cond_false_right Bool.cond_true_left cond_true cond_false implies_true decide_eq_true_eq beq_true beq_false Bool.or_true Bool.or_false Bool.true_or Bool.false_or Option.isSome_some Array.empty_append List.append_toArray E4 LK EX Gk VY Mm E6 FU FT Hk Gl JN KQ TY ZI IR inB JR E8 Fk Ia Ak XV List.drop_zero DJ Gz Vs Ci Kl Ba AV.fgt AV.fgts Obj.fgt Ab Ap AU Df Kk Bg Ip List.any_cons List.any_nil Zh XY Vt XZ Kn Om qs List.flatMap_cons List.flatMap_nil List.cons_append tn Vx It List.take_succ_cons List.drop_succ_cons V0 G8 Bj c9 LZ CG Cc Al FB Ja Bn EZ DV Gv Hs GH IE
attribute [local go_sem] IU dD ty3 ty4 ty5 ty9 vO vP vQ vR vS vT vU vV vW vX vY vZ v4 v5 v6 v7 v8 v9 wA wB wC wD wE wF wG wH wI wJ wK wL wM wN wO wP wQ wR wS wT wU wV wW wX wY wZ w3 w4 w5 w7 w8 w9 xA xB xC xD xE xF xG xH xI xJ xK xL xM xN xO xP xQ xR xS xT xU xV xW xX dE dF dG dH dI dJ dK dL dM dN dP dQ dR dS dT dU dV dW dX dY dZ d3 d4 d5 d6 d7 d8 d9 eA eB eC eD eE eF eG eH eI eJ eK eL eO eP eQ eU eW eX eY eZ e7 e9 fA fB fC fD fE fF fG fH fJ fL fN fO fP fQ fR fS fT fU fV fW fX fY fZ f2 f3 f5 f6 f7 f8 f9 gA gB gC gD gE gF gG gH gI gJ gK gL gM gN gP gQ gR gS gT gU gV gW gX gY gZ g8 g9 hC hH hU hZ iA iB iC iD iE iG iH iI
set_option maxRecDepth 100000
set_option maxHeartbeats 4000000
structure CI (n:Nat) (o:List Int) (ar:List (List (Int×Int))) (W:List (Int×Int)):Prop where
 lo:o.length=n
 la:ar.length=n
 rep:∀k:Nat,k<n→0≤o.getD k 0∧o.getD k 0≤(k:Int)∧o.getD (o.getD k 0).toNat 0=o.getD k 0
 wr:∀w∈W,(0≤w.1∧w.1<(n:Int))∧(0≤w.2∧w.2<(n:Int))
 ta:∀k,∀a∈ar.getD k [],0≤a.2∧a.2<(n:Int)
theorem CI.rng {n:Nat} {o:List Int} {ar:List (List (Int×Int))} {W:List (Int×Int)} (h:CI n o ar W) {x:Int} (c:0≤x) (d:x<(n:Int)):0≤o.getD x.toNat 0∧o.getD x.toNat 0<(n:Int)∧o.getD (o.getD x.toNat 0).toNat 0=o.getD x.toNat 0:=by
 obtain⟨h1,b,a⟩:=h.rep x.toNat (by omega);exact⟨h1,by omega,a⟩
section
variable {n:Nat} {o:List Int} {ar:List (List (Int×Int))} {W:List (Int×Int)} {x y:Int}
end
section
attribute [local go_sem] SB qL
def H4 (b:List Int):List HN→Nat→Int×Bool
 | [],_=>(0,false)
 | t :: r,k=>if t.2.1=b then ((k:Int),true) else H4 b r (k+1)
def bT:Ad:={ ins:=[Ls,Dh],pre:=fun _=>True,out:=fun(h,b,_)=>[.p T3 (H4 b (h:AN).1 0).1,.p .bool (H4 b (h:AN).1 0).2],lend:=true }
attribute [local go_sem] bT
theorem tI:Aj Tryz.prog 111 bT:=by
 refine fK [0,1,2,4,5,6,11,21] Tryz.func111 Tryz.ntmps111 (AD WA AG) ?_;rintro w0 O0 ⟨⟨l,hf⟩,b,u⟩ d ⟨⟨⟨g,-⟩,-⟩,-⟩ -;simp only[AO]at g;simp only[bT,AL];repeat'(first|exact trivial|refine eS rfl ?_|refine AB ?_|refine rX d ?_ ?_|refine rC ?_ ?_<;>intro c<;>try(cases c;done))
 refine AH (ι:={k:Nat//k≤List.length l∧H4 b (List.drop k l) k=H4 b l 0}) (fun k=>⟨[(1,.p Dh b),(2,.bp 2 [] 0),(6,.p (.int .i64) (k.1:Int))],[(2,.box 31 true [.p Qy l,.p TV hf])]⟩) (fun k=>List.length l-k.1) ⟨0,by simp⟩ (AC [(2,.nm 2)] rfl rfl ?_ ?_) (fun k=>?_)
 ·first|exact eN|refine eM ?_
 ·first|exact eN|refine eM ?_
 ·obtain⟨k,hk,a⟩:=k;have f:k<List.length l→(if (List.getD l k PN).2.1=b then ((k:Int),true) else H4 b (List.drop (k+1) l) (k+1))=H4 b l 0:=fun h=>by
   rw[OS h]at a;rw[AS,AT h];exact a
  repeat'(first|exact trivial|refine eS rfl ?_|refine AB ?_|refine rX d ?_ ?_|refine rC ?_ ?_<;>intro c<;>try(cases c;done))
  ·exact eV
  ·have e:k<List.length l:=by exact eV
   have a:=f e;have c:(List.getD l k PN).2.1=b:=by simpa[FO] using c
   rw[BY c]at a;exact fI d [.tmp 4,.tmp 5] (by rw[←a];exact eR)
  ·exact eV
  ·have e:k<List.length l:=by exact eV
   have a:=f e;have c:¬(List.getD l k PN).2.1=b:=by simpa[FO] using c
   rw[At c]at a;refine⟨⟨k+1,by omega,a⟩,by simp only;omega,AC [(2,.nm 2)] rfl rfl ?_ ?_⟩
   ·first|exact eN|refine eM ?_
   ·first|exact eN|refine eM ?_
  ·have hk:List.drop k l=[]:=IF (by exact eV);rw[hk]at a;have a:(0,false)=H4 b l 0:=a;exact fI d [.tmp 4,.tmp 5] (by rw[←a];exact eR)
def CP (h:AN) (a b:Int):Int×Bool:=H4 (Dt (BH h a) (BH h b)) h.1 0
def TD:Ad:={ ins:=[Ls,T3,T3],pre:=fun(h,a,b,_)=>((0:Int)≤a∧a<(List.length (h:AN).1:Int))∧((0:Int)≤b∧b<(List.length (h:AN).1:Int))∧(∀x∈(h:AN).1,x.2.1.length≤100000),out:=fun(h,a,b,_)=>[.p T3 (CP h a b).1,.p .bool (CP h a b).2],lend:=true }
attribute [local go_sem] TD
theorem tJ:Aj Tryz.prog 73 TD:=by
 refine fK [0,1,2,3,6,7] Tryz.func73 Tryz.ntmps73 (AD tI (AD Z0 AG)) ?_;rintro w0 O0 ⟨⟨c,hf⟩,a,b,u⟩ d-⟨ha,g,i⟩;simp only[TD,AL];have h:∀x:Int,0≤x∧x<(List.length c:Int)→List.length (BH (c,hf) x)≤100000:=fun x h1=>by
  have f:Int.toNat x<List.length c:=(ACg h1.1).2 h1.2;exact i _ (AE (c:List HN) PN f)
 repeat'(first|exact trivial|refine eS rfl ?_|refine AB ?_|refine rX d ?_ ?_|refine rC ?_ ?_<;>intro e<;>try(cases e;done))
 ·refine⟨ha,g,?_⟩;exact h a ha
 ·exact fI d [.tmp 6,.tmp 7] (by unfold CP BH;exact eR)
end
section
attribute [local go_sem] TD
def A3j (h:AN) (l:List AK) (c:List Int):Nat→Option (List Int)
 | 0=>some (List.replicate l.length 0)
 | i+1=>match A3j h l c i with
  | none=>none
  | some o=>if (CP h (o.getD (c.getD i 0).toNat 0) (l.getD i (0,[])).1).2=true then some (o.set (c.getD i 0).toNat (CP h (o.getD (c.getD i 0).toNat 0) (l.getD i (0,[])).1).1) else none
def tK (h:AN) (l:List AK) (c:List Int):List Int×Bool:=match A3j h l c l.length with
 | none=>([],false)
 | some o=>((List.range l.length).map fun(k:Nat)=>o.getD (c.getD k 0).toNat 0,true)
def A3T (n:Nat) (c:List Int):Prop:=c.length=n∧∀k:Nat,k<n→0≤c.getD k 0∧c.getD k 0≤(k:Int)∧c.getD (c.getD k 0).toNat 0=c.getD k 0
def A0L:Ad:={ ins:=[Ls,Fq,IJ],pre:=fun(h,l,c,_)=>A3T (List.length l) c∧A3h h l∧0<List.length (h:AN).1∧List.length l≤100000∧(∀x∈(h:AN).1,x.2.1.length≤100000),out:=fun(h,l,c,_)=>[.p IJ (tK h l c).1,.p .bool (tK h l c).2] }
attribute [local go_sem] A0L
end
section
attribute [local go_sem] iZ
attribute [local go_sem] R6 Zn ne_eq not_false_eq_true
end
inductive EQ (n:Nat) (o:List Int) (W:List (Int×Int)):Int→Int→Prop
 | cls {x y:Int} (x0:0≤x) (x1:x<(n:Int)) (y0:0≤y) (y1:y<(n:Int)) (h:o.getD x.toNat 0=o.getD y.toNat 0):EQ n o W x y
 | wt {x y:Int} (h:(x,y)∈W):EQ n o W x y
 | symm {x y:Int} (h:EQ n o W x y):EQ n o W y x
 | trans {x y z:Int} (h:EQ n o W x y) (g:EQ n o W y z):EQ n o W x z
theorem EQ.mono {n:Nat} {o b:List Int} {W a:List (Int×Int)} (h1:∀x y,0≤x→x<(n:Int)→0≤y→y<(n:Int)→o.getD x.toNat 0=o.getD y.toNat 0→EQ n b a x y) (c:∀x y,(x,y)∈W→EQ n b a x y) {x y:Int} (h:EQ n o W x y):EQ n b a x y:=by
 induction h with
 | cls g i j k h=>exact h1 _ _ g i j k h
 | wt h=>exact c _ _ h
 | symm _ d=>exact .symm d
 | trans _ _ e f=>exact .trans e f
theorem EQ.nil {n:Nat} {o:List Int} {x y:Int} (h:EQ n o [] x y):o.getD x.toNat 0=o.getD y.toNat 0:=by
 induction h with
 | cls _ _ _ _ h=>exact h
 | wt h=>cases h
 | symm _ a=>exact a.symm
 | trans _ _ b c=>exact b.trans c
section
variable {h:AN} {N:List AK} {P:List (Int×Int)} {o:List Int} {ar:List (List (Int×Int))} {W:List (Int×Int)} {w:Int×Int}
end
def bU (h:AN):Prop:=∀t∈h.1,uB t.2.1
theorem TE {b:List Int}:∀ {l:List HN} {k:Nat},(H4 b l k).2=true→∃j:Nat,j<l.length∧(H4 b l k).1=((k+j:Nat):Int)∧(l.getD j PN).2.1=b
 | [],k,h=>by cases h
 | t :: r,k,h=>by
  unfold H4 at h ⊢;by_cases e:t.2.1=b
  ·rw[BY e];exact⟨0,by simp,by simp,by simpa using e⟩
  ·rw[At e]at h ⊢;obtain⟨j,h1,a,c⟩:=TE h;exact⟨j+1,by simp only[Is];omega,by rw[a];congr 1;omega,by simpa using c⟩
theorem Y3 {b:List Int}:∀ {l:List HN} {k:Nat},(∃t∈l,t.2.1=b)→(H4 b l k).2=true
 | [],k,⟨t,d,_⟩=>by cases d
 | t :: r,k,⟨u,c,e⟩=>by
  unfold H4;by_cases a:t.2.1=b
  ·rw[BY a]
  ·rw[At a];rcases Do.1 c with rfl|c
   ·exact absurd e a
   ·exact Y3 ⟨u,c,e⟩
theorem nF {h:AN} (hk:I5 h) (hn:bU h) {a b:Int} (a0:0≤a) (g:a<(h.1.length:Int)) (k:0≤b) (b1:b<(h.1.length:Int)) :
  ((CP h a b).2=true→0≤(CP h a b).1∧(CP h a b).1<(h.1.length:Int)∧∀i,YU h (CP h a b).1 i=(YU h a i&&YU h b i))∧((∃i,YU h a i=true∧YU h b i=true)→(CP h a b).2=true):=by
 have d:=hk.1.wds _ (Bq a0 g);have f:=hk.1.wds _ (Bq k b1);refine⟨fun o=>?_,fun hi=>?_⟩
 ·obtain⟨j,h1,c,n⟩:=TE o;have c:(CP h a b).1=((0+j:Nat):Int):=c;refine⟨by omega,by omega,fun i=>?_⟩;have e:BH h (CP h a b).1=Dt (BH h a) (BH h b):=by
   rw[←n];unfold BH;rw[c];simp
  unfold YU;rw[e,Jv d f]
 ·obtain⟨t,l,e⟩:=hk.1.meet _ (Bq a0 g) _ (Bq k b1) hi;obtain⟨x,m,rfl⟩:=Of.1 l;exact Y3 ⟨x,m,WY (hk.1.wds _ l) (Lf d f) (hn x m) (Jw _) fun i=>by rw[e i,Jv d f]⟩
theorem Gh {h:AN} (hk:I5 h) (hn:bU h) {a b:Int} (a0:0≤a) (l:a<(h.1.length:Int)) (m:0≤b) (b1:b<(h.1.length:Int)) :
  ((CP h a b).2=true→0≤(CP h a b).1∧(CP h a b).1<(h.1.length:Int)∧BK h a (CP h a b).1=true∧BK h b (CP h a b).1=true) ∧
  ∀x,0≤x→x<(h.1.length:Int)→BK h a x=true→BK h b x=true→(CP h a b).2=true∧BK h (CP h a b).1 x=true:=by
 obtain⟨q,t⟩:=nF hk hn a0 l m b1;refine⟨fun e=>?_,fun x g k r s=>?_⟩
 ·obtain⟨c,d,f⟩:=q e;refine⟨c,d,(BV hk a0 l c d).2 fun i hi=>?_,(BV hk m b1 c d).2 fun i hi=>?_⟩
  ·rw[f i,An]at hi;exact hi.1
  ·rw[f i,An]at hi;exact hi.2
 ·have n:=(BV hk a0 l g k).1 r;have o:=(BV hk m b1 g k).1 s;obtain⟨i,hi⟩:=hk.1.some _ (Bq g k);have e:=t ⟨i,n i hi,o i hi⟩;obtain⟨c,d,f⟩:=q e;refine⟨e,(BV hk c d g k).2 fun j p=>?_⟩;rw[f j,An];exact⟨n j p,o j p⟩
section
variable {h:AN} {N:List AK} {c:List Int}
end
section
variable {d:List AF}
theorem JC (d:List AF):((BZ d).1.map fun t=>t.2.1)=(AJ d).map fun x=>x.2:=by
 show ((Dv _ _ _).map fun t=>t.2.1)=_;unfold Dv;rw[ABI];apply AAE
 ·simp
 ·intro i h1 a;simp[AS,show i<(AJ d).length by simpa using h1]
theorem Wk (d:List AF):(BZ d).1.length=(AJ d).length:=I3 _ _ _
theorem tL (d:List AF) {k:Nat} (hk:k<(AJ d).length):(BZ d).1.getD k PN=(((AJ d).getD k c0).1,((AJ d).getD k c0).2,Ul (AJ d) (k:Int),(A3 d).1.getD k []):=by
 unfold BZ Dv;simp[AS,hk]
theorem Lm (d:List AF) {t:Int} (a:0≤t) (b:t<((AJ d).length:Int)):BH (BZ d) t=((AJ d).getD t.toNat c0).2:=by
 unfold BH;rw[tL d (by omega)]
theorem Y4 (a:Am d=0):(A3 d).2=0∧(A3 d).1=I1 d (AJ d) (BC d) (AJ d).length:=by
 unfold A3;rw[At (by rw[a];simp)];exact⟨rfl,rfl⟩
theorem RH (a:Am d=0):(Ar d).1=BZ d:=by
 unfold Ar;rw[At (by rw[(Y4 a).1];simp)]
theorem A01 (b:Am d=0):I5 (BZ d)∧Nd ((BZ d).1.map fun t=>t.2.1):=by
 have h1:=GC d;have a:=TC d;rw[RH b]at h1 a;exact⟨h1,a⟩
theorem TF (a:Am d=0):(BZ d).2=(BC d).map (Nl d):=by
 unfold BZ Dn;rw[At (by rw[a];simp)]
theorem tM (a:Am d=0) {t:Int} (b:0≤t) (c:t<((AJ d).length:Int)):X1 (BZ d) t=Qf d (AJ d) (BC d) t.toNat (BC d).length:=by
 unfold X1;rw[tL d (by omega)];show (A3 d).1.getD t.toNat []=_;rw[(Y4 a).2];unfold I1;simp[AS,show t.toNat<(AJ d).length by omega]
theorem bV (a:Am d=0):Ax d=0∧(Bp d).1=AJ d∧Jr d=0∧(∀s∈BC d,(DA d s).2=true)∧HL d (AJ d) (BC d) (AJ d).length=false:=by
 obtain⟨b,-,f⟩:=Bv a;obtain⟨e,-,c⟩:=BJ b;refine⟨e,c,f,?_,?_⟩
 ·unfold Am at a;split at a
  ·rename_i h;exact absurd b h
  ·split at a
   ·cases a
   ·split at a
    ·rename_i h;exact absurd a h
    ·split at a
     ·cases a
     ·rename_i h;exact DO.1 (by simpa using h)
 ·unfold Am at a;split at a
  ·rename_i h;exact absurd b h
  ·split at a
   ·cases a
   ·split at a
    ·rename_i h;exact absurd a h
    ·split at a
     ·cases a
     ·split at a
      ·cases a
      ·rename_i h;rw[c]at h;simpa using h
def Cd (l:List (List Int)) (c:List Int):Prop:=c=[]∨c∈l
theorem tN {l:List (List Int)} (hk:H3 l) {c:List Int} (h:Cd l c):HH c:=by
 rcases h with rfl|h
 ·exact fun x a=>by cases a
 ·exact hk.wds c h
theorem A0M {l:List (List Int)} (hk:H3 l) (hn:Nd l) {a b:List Int} (ha:Cd l a) (j:b∈l):Cd l (Dt a b):=by
 have f:=tN hk ha;have g:=hk.wds b j;have m:uB (Dt a b):=by unfold Dt;exact Jw _
 have k:=fun i=>Jv f g i;by_cases hi:∃i,A4 a i=true∧A4 b i=true
 ·rcases ha with rfl|ha
  ·obtain⟨i,h1,-⟩:=hi;unfold A4 at h1;simp at h1
  ·obtain⟨t,d,e⟩:=hk.meet a ha b j hi;right;rw[WY (Lf f g) (hk.wds t d) m (hn.nrm t d) fun i=>by rw[k,e]];exact d
 ·left;refine By fun n=>?_;unfold Dt at n;have o:HH (Dt a b):=Lf f g;have:∃i,A4 (Dt a b) i=true:=by
   have c:=m;rcases c with c|c
   ·exact absurd (aT c) n
   ·exact YT o c
  obtain⟨i,h⟩:=this;rw[k,An]at h;exact hi ⟨i,h⟩
def UsD (d:List AF) (t:Int) (s:ByteArray) (x:AF):Prop:=(Ck x s).2=true∧BK (BZ d) (BB (AJ d) x.1) t=true
def vcD (d:List AF) (s:ByteArray) (x:AF):List Int:=((AJ d).getD (BB (AJ d) (Ck x s).1).toNat c0).2
theorem RI (hn:aK d (AJ d)) {x:AF} (a:x∈d):0≤BB (AJ d) x.1∧BB (AJ d) x.1<((AJ d).length:Int):=⟨hn.1 x a,HK _ _⟩
theorem tP (hn:aK d (AJ d)) {x:AF} (b:x∈d) {s:ByteArray} (a:(Ck x s).2=true):0≤BB (AJ d) (Ck x s).1∧BB (AJ d) (Ck x s).1<((AJ d).length:Int):=⟨hn.value b a,HK _ _⟩
theorem jR (d:List AF) {k:Int} (a:0≤k) (b:k<((AJ d).length:Int)):((AJ d).getD k.toNat c0).2∈(AJ d).map fun x=>x.2:=Of.2 ⟨_,A6 (by omega),rfl⟩
theorem nG (hk:I5 (BZ d)) {a t:Int} (a0:0≤a) (f:a<((AJ d).length:Int)) (b:0≤t) (g:t<((AJ d).length:Int)):KA (AJ d) a t=BK (BZ d) a t:=by
 have i:=Wk d;have c:a<((BZ d).1.length:Int):=by omega
 have e:t<((BZ d).1.length:Int):=by omega
 have h:=hk.1.wds _ (Bq a0 c);have wt:=hk.1.wds _ (Bq b e);rw[ABt];unfold KA;rw[←Lm d a0 f,←Lm d b g,Ff wt h];exact(BV hk a0 c b e).symm
theorem Wl (hk:I5 (BZ d)) (j:Nd ((BZ d).1.map fun t=>t.2.1)) (hn:aK d (AJ d)) {t:Int} (q:0≤t) (u:t<((AJ d).length:Int)) (s:ByteArray):∀(r:List AF) (o:List Int×Bool),(∀x∈r,x∈d)→Cd ((AJ d).map fun x=>x.2) o.1 →
  Cd ((AJ d).map fun x=>x.2) (r.foldl (I0 (AJ d) t s) o).1∧((r.foldl (I0 (AJ d) t s) o).2=true↔o.2=true∨∃x∈r,UsD d t s x)∧∀i,A4 (r.foldl (I0 (AJ d) t s) o).1 i=true↔A4 o.1 i=true∧∀x∈r,UsD d t s x→A4 (vcD d s x) i=true
 | [],o,_,h=>⟨h,by simp,fun i=>by simp⟩
 | x :: r,o,p,h=>by
  rw[JC]at j;have n:H3 ((AJ d).map fun x=>x.2):=by have:=hk.1;rwa [JC]at this
  have z:=p x (by simp);obtain⟨n0,n1⟩:=RI hn z;have v:=nG hk n0 n1 q u;rw[TO];by_cases g:UsD d t s x
  ·obtain⟨v0,v1⟩:=tP hn z g.1;have e:I0 (AJ d) t s o x=(Dt o.1 (vcD d s x),true):=by
    unfold I0;rw[At]
    ·rfl
    ·rw[g.1,v,g.2];simp
   have w:vcD d s x∈(AJ d).map fun x=>x.2:=jR d v0 v1;obtain⟨h1,l,m⟩:=Wl hk (by rw[JC];exact j) hn q u s r (I0 (AJ d) t s o x) (fun y f=>p y (by simp[f])) (by rw[e];exact A0M n j h w);refine⟨h1,?_,fun i=>?_⟩
   ·rw[l,e];exact⟨fun _=>.inr ⟨x,by simp,g⟩,fun _=>.inl rfl⟩
   ·rw[m,e];simp only;rw[Jv (tN n h) (n.wds _ w),An];constructor
    ·rintro⟨⟨a,b⟩,c⟩;refine⟨a,fun y f k=>?_⟩;rcases Do.1 f with rfl|f
     ·exact b
     ·exact c y f k
    ·rintro⟨a,b⟩;exact⟨⟨a,b x (by simp) g⟩,fun y f=>b y (by simp[f])⟩
  ·have e:I0 (AJ d) t s o x=o:=by
    unfold I0;rw[BY];rw[v];unfold UsD at g;cases h1:(Ck x s).2 with
    | false=>simp
    | true =>
     rw[h1]at g;have:BK (BZ d) (BB (AJ d) x.1) t=false:=by simpa using g
     rw[this];simp
   obtain⟨h1,l,m⟩:=Wl hk (by rw[JC];exact j) hn q u s r (I0 (AJ d) t s o x) (fun y f=>p y (by simp[f])) (by rw[e];exact h);refine⟨h1,?_,fun i=>?_⟩
   ·rw[l,e];constructor
    ·rintro (a|⟨y,f,a⟩)
     ·exact .inl a
     ·exact .inr ⟨y,by simp[f],a⟩
    ·rintro (a|⟨y,f,a⟩)
     ·exact .inl a
     ·rcases Do.1 f with rfl|f
      ·exact absurd a g
      ·exact .inr ⟨y,f,a⟩
   ·rw[m,e];constructor
    ·rintro⟨a,b⟩;refine⟨a,fun y f k=>?_⟩;rcases Do.1 f with rfl|f
     ·exact absurd k g
     ·exact b y f k
    ·rintro⟨a,b⟩;exact⟨a,fun y f=>b y (by simp[f])⟩
theorem TG {b:List Int}:∀ {l:List AP} {k:Nat},(∃x∈l,x.2=b)→∃j:Nat,j<l.length∧NW b k l=((k+j:Nat):Int)∧(l.getD j c0).2=b
 | [],k,⟨x,a,_⟩=>by cases a
 | y :: l,k,⟨x,a,e⟩=>by
  unfold NW;by_cases h:FO y.2 b=true
  ·rw[BY h];exact⟨0,by simp,rfl,by simpa[FO] using h⟩
  ·rw[At h];rcases Do.1 a with rfl|a
   ·exact absurd (by simpa[FO] using e) h
   ·obtain⟨j,h1,c,d⟩:=TG (k:=k+1) ⟨x,a,e⟩;exact⟨j+1,by simp only[Is];omega,by rw[c];congr 1;omega,by simpa using d⟩
theorem bW {b:List Int} (h:uB b):BA b=b:=by
 unfold BA;have:CH b b.length=b.length:=by
  rcases h with h|h
  ·rw[h];rfl
  ·cases e:b.length with
   | zero=>rfl
   | succ m =>
    rw[e]at h;show (if b.getD m 0=0 then CH b m else m+1)=m+1;rw[At (by simpa using h)]
 rw[this,gO]
theorem OG (b:Am d=0) {t:Int} (A:0≤t) (K:t<((AJ d).length:Int)) {s:ByteArray} (hs:s∈BC d) :
  ((ET d (AJ d) t s).2=true↔∃x∈d,UsD d t s x)∧((ET d (AJ d) t s).2=true→(0≤GK (AJ d) (ET d (AJ d) t s).1∧GK (AJ d) (ET d (AJ d) t s).1<((AJ d).length:Int)) ∧
   ∀i,A4 (BH (BZ d) (GK (AJ d) (ET d (AJ d) t s).1)) i=true↔∀x∈d,UsD d t s x→A4 (vcD d s x) i=true):=by
 obtain⟨n,-,E,-,v⟩:=bV b;obtain⟨hk,p⟩:=A01 b;have hn:=Nk n E;have M:=iW n;have r:=Y2 d;rw[RH b]at r;have L:H3 ((AJ d).map fun x=>x.2):=by have:=hk.1;rwa [JC]at this
 have q:=p;rw[JC]at q;have B:=jR d (AC6 0) (by omega:(0:Int)<((AJ d).length:Int));obtain⟨g,a,m⟩:=Wl hk p hn A K s d (((AJ d).getD 0 c0).2,false) (fun x f=>f) (.inr B);have e:ET d (AJ d) t s=d.foldl (I0 (AJ d) t s) (((AJ d).getD 0 c0).2,false):=rfl;rw[←e]at g a m;refine⟨by rw[a];simp,fun u=>?_⟩;have F:(ET d (AJ d) t s).1≠[]:=by
  intro H;have h1:Jt d (AJ d) t.toNat s=true:=by
   unfold Jt;rw[AAQ A,u,H];rfl
  have C:HL d (AJ d) (BC d) (AJ d).length=true:=by
   unfold HL;refine OF.2 ⟨t.toNat,oN.2 (by omega),?_⟩;unfold WR;exact OF.2 ⟨s,hs,h1⟩
  rw[C]at v;cases v
 have o:(ET d (AJ d) t s).1∈(AJ d).map fun x=>x.2:=g.resolve_left F;obtain⟨x,f,ex⟩:=Of.1 o;obtain⟨j,N,I,J⟩:=TG (l:=AJ d) (k:=0) ⟨x,f,ex⟩;have hf:GK (AJ d) (ET d (AJ d) t s).1=(j:Int):=by
  unfold GK;rw[bW (q.nrm _ o),I];simp
 rw[hf];refine⟨⟨oF _,by omega⟩,fun i=>?_⟩;rw[Lm d (oF _) (by omega),AA4,J,m];constructor
 ·exact fun h=>h.2
 ·intro h;refine⟨?_,h⟩;obtain⟨y,w,z⟩:=(a.1 u).resolve_left (by simp);obtain⟨v0,v1⟩:=tP hn w z.1;have D:=h y w z;have c:=Wk d;have G:=r _ v0 (by rw[c];exact v1);have:=(BV hk (AC6 0) (by rw[c];omega) v0 (by rw[c];exact v1)).1 G i;unfold YU at this;rw[Lm d (AC6 0) (by omega),Lm d v0 v1]at this;exact this D
theorem PZ {s:ByteArray}:∀ {r:List AF} {o:List ByteArray} {y:ByteArray},y∈r.foldl (GR s) o→y∈o∨∃x∈r,x.1=y∧(Ck x s).2=true
 | [],_,_,h=>.inl h
 | x :: r,o,y,h=>by
  rw[TO]at h;rcases PZ h with h|⟨z,b,h⟩
  ·unfold GR at h;split at h
   ·rename_i a;rcases F5 h with h|h
    ·exact .inl h
    ·exact .inr ⟨x,by simp,h.symm,a⟩
   ·exact .inl h
  ·exact .inr ⟨z,by simp[b],h⟩
theorem TH {s:ByteArray} (h:(DA d s).2=true):∃x∈d,x.1=(DA d s).1∧(Ck x s).2=true:=by
 unfold DA at h ⊢;split
 ·rename_i h1;have a:(Aq d (Ei d s)).getD 0 ByteArray.empty∈Aq d (Ei d s):=A6 (by omega);exact(PZ (GW a)).resolve_left (by simp)
 ·rename_i h1;rw[At h1]at h;cases h
theorem bX (d:List AF):Tk (Ar d).1:=by
 by_cases a:Am d=0
 ·rw[RH a];obtain⟨j,-,l,m,-⟩:=bV a;have hn:=Nk j l;have g:=Wk d;refine⟨fun x b=>?_,fun t f p hp=>?_⟩
  ·rw[TF a]at b;obtain⟨s,hs,rfl⟩:=Of.1 b;obtain⟨y,n,e,-⟩:=TH (m s hs);rw[g];show 0≤BB (AJ d) (DA d s).1∧BB (AJ d) (DA d s).1<((AJ d).length:Int);rw[←e];exact RI hn n
  ·obtain⟨k,hk,e⟩:=DK PN f;rw[g]at hk ⊢;have c:=tM a (t:=(k:Int)) (oF _) (by omega);unfold X1 at c;rw[AA4,e]at c;rw[c]at hp;unfold Qf at hp;obtain⟨i,hi,rfl⟩:=Of.1 hp;obtain⟨h1,h⟩:=AAg.1 hi;have h1:=oN.1 h1;exact((OG a (t:=(k:Int)) (oF _) (by omega) (A6 h1)).2 h).1
 ·have:(Ar d).1=([],[]):=by
   unfold Ar A3;rw[BY a,BY a]
  rw[this];exact⟨fun x b=>(by cases b),fun t f=>(by cases f)⟩
end
structure zI (h:AN):Prop where
 iff:∀t f,0≤t→t<(h.1.length:Int)→0≤f→f<(h.2.length:Int)→((Br h t f).2=true↔BK h (I8 h f) t=true)
 mono:∀t t' f,0≤t→t<(h.1.length:Int)→0≤t'→t'<(h.1.length:Int)→0≤f→f<(h.2.length:Int)→BK h t t'=true→(Br h t f).2=true→BK h (Br h t f).1 (Br h t' f).1=true
def Ga (h:AN) (m:Nat) (u:List Int):Prop:=u.length=m∧∀t∈u,0≤t∧t<(h.1.length:Int)
theorem Ga.get {h:AN} {m:Nat} {u:List Int} (b:Ga h m u) {n:Nat} (n1:n<m):0≤u.getD n 0∧u.getD n 0<(h.1.length:Int):=by
 have a:n<u.length:=by rw[b.1];exact n1
 rw[AS,AT a];exact b.2 _ (AAf a)
theorem Li.tyl {h:AN} {m:Nat} {s:Di} (hs:Li h m s):Ga h m s.1:=⟨hs.len,hs.ty⟩
def E2 (h:AN) (m:Nat) (u v:List Int):Prop:=∀i,i<m→BK h (u.getD i 0) (v.getD i 0)=true
def TJ (h:AN) (u:List Int) (n:Int) (l:List (Int×Int)):Prop:=∀a∈l,(Br h (u.getD n.toNat 0) a.1).2=true∧BK h (Br h (u.getD n.toNat 0) a.1).1 (u.getD a.2.toNat 0)=true
def WTy (h:AN) (f:List AK) (u:List Int):Prop:=∀i,i<f.length→TJ h u (i:Int) (f.getD i (0,[])).2
theorem E2.refl {h:AN} (hk:I5 h) {m:Nat} {u:List Int} (a:Ga h m u):E2 h m u u:=fun i hi=>RA hk (a.get hi).1 (a.get hi).2
theorem E2.trans {h:AN} (hk:I5 h) {m:Nat} {u v w:List Int} (a:Ga h m u) (b:Ga h m v) (c:Ga h m w) (h1:E2 h m u v) (d:E2 h m v w):E2 h m u w:=fun i hi =>
 FJ hk (a.get hi).1 (a.get hi).2 (b.get hi).1 (b.get hi).2 (c.get hi).1 (c.get hi).2 (h1 i hi) (d i hi)
theorem E2.anti {h:AN} (hi:GY h) {m:Nat} {u v:List Int} (b:Ga h m u) (c:Ga h m v) (h1:E2 h m u v) (e:E2 h m v u):u=v:=by
 refine AAE (by rw[b.1,c.1]) fun i d f=>?_;have a:i<m:=by rw[←b.1];exact d
 have:=hi _ _ (b.get a).1 (b.get a).2 (c.get a).1 (c.get a).2 (h1 i a) (e i a)
 rwa [AS,AT d,AS,AT f]at this
structure jS (h:AN) (m:Nat) (s s':Di):Prop where
 up:E2 h m s.1 s'.1
 pre:s.2 <+: s'.2
 ch:∀k:Nat,k<m→s'.1.getD k 0=s.1.getD k 0∨(k:Int)∈s'.2.drop s.2.length
theorem jS.refl {h:AN} (hk:I5 h) {m:Nat} {s:Di} (hs:Li h m s):jS h m s s:=⟨E2.refl hk hs.tyl,AAO _,fun _ _=>.inl rfl⟩
theorem Pa {l l':List Int} (hp:l <+: l') {n:Nat} {x:Int} (h:x∈l.drop n):x∈l'.drop n:=by
 obtain⟨r,rfl⟩:=hp;rw[ACv];exact ABB _ h
theorem OH {l:List Int} {a b:Nat} (c:a≤b) {x:Int} (h:x∈l.drop b):x∈l.drop a:=by
 have:l.drop b=(l.drop a).drop (b-a):=by rw[ABD];congr 1;omega
 rw[this]at h;exact AAz h
theorem jS.trans {h:AN} (hk:I5 h) {m:Nat} {a b c:Di} (ha:Li h m a) (i:Li h m b) (j:Li h m c) (h1:jS h m a b) (d:jS h m b c):jS h m a c:=by
 refine⟨h1.up.trans hk ha.tyl i.tyl j.tyl d.up,h1.pre.trans d.pre,fun k g=>?_⟩;rcases d.ch k g with f|f
 ·rcases h1.ch k g with e|e
  ·exact .inl (f.trans e)
  ·exact .inr (Pa d.pre e)
 ·exact .inr (OH h1.pre.length_le f)
theorem Pb {h:AN} (hk:I5 h) (hi:GY h) {m:Nat} {s c:Di} (hs:Li h m s) {n t:Int} (n0:0≤n) (n1:n<(m:Int)) (f:0≤t) (g:t<(h.1.length:Int)) (e:Cm h s n t=some c) :
  jS h m s c∧BK h t (c.1.getD n.toNat 0)=true:=by
 have r:=(EM hk hi hs n0 n1 f g e).1;obtain⟨i,j⟩:=hs.get n0 n1;unfold Cm at e;split at e
 ·rename_i o;obtain⟨u,w,q,d⟩:=(Sm hk i j f g).1 o;generalize (DM h (s.1.getD n.toNat 0) t).1=v at *;injection e with e
  split at e
  ·rename_i p;subst e;exact⟨jS.refl hk hs,by rw[←p];exact d⟩
  ·subst e;have l:n.toNat<s.1.length:=by rw[hs.len];omega
   have a:∀k:Nat,(s.1.set n.toNat v).getD k 0=if k=n.toNat then v else s.1.getD k 0:=fun k=>Fh _ _ _ l k
   refine⟨⟨fun k b=>?_,ACc _ _,fun k b=>?_⟩,?_⟩
   ·simp only;rw[a];split
    ·rename_i e;rw[e];exact q
    ·exact RA hk (hs.tyl.get b).1 (hs.tyl.get b).2
   ·simp only;rw[a];split
    ·rename_i e;right;rw[ACv,AB6,AAm];exact List.mem_append_right _ (by simp;omega)
    ·exact .inl rfl
   ·simp only;rw[a,BY rfl];exact d
 ·cases e
theorem VO {h:AN} (hk:I5 h) (hi:GY h) {m:Nat} {s:Di} (hs:Li h m s) {n t:Int} (n0:0≤n) (n1:n<(m:Int)) (q:0≤t) (r:t<(h.1.length:Int)) {u:List Int} (l:Ga h m u) (a:E2 h m s.1 u) (j:BK h t (u.getD n.toNat 0)=true) :
  ∃c,Cm h s n t=some c∧E2 h m c.1 u:=by
 obtain⟨d,f⟩:=hs.get n0 n1;have b:n.toNat<m:=by omega
 obtain⟨v,w⟩:=l.get b;obtain⟨o,p⟩:=(Sm hk d f q r).2 _ v w (a _ b) j;unfold Cm;rw[BY o];refine⟨_,rfl,?_⟩;split
 ·exact a
 ·intro k g;have i:n.toNat<s.1.length:=by rw[hs.len];omega
  simp only;rw[Fh _ _ _ i k];split
  ·rename_i e;rw[e];exact p
  ·exact a k g
section
variable {h:AN} (hk:I5 h) (hi:GY h) (hf:Tk h) (hap:zI h) {m:Nat} {n:Int} (n0:0≤n) (n1:n<(m:Int))
include hk hi hf n0 n1
theorem Wm:∀ {l:List (Int×Int)} {s c:Di},(∀a∈l,Ec h m a)→Li h m s→LC h n l s=some c→jS h m s c∧∀a∈l,BK h (I8 h a.1) (c.1.getD n.toNat 0)=true
 | [],s,c,_,hs,e=>by
  injection e with e
  subst e;exact⟨jS.refl hk hs,fun a ha=>by cases ha⟩
 | a :: l,s,c,o,hs,e=>by
  unfold LC at e;cases g:Cm h s n (I8 h a.1) with
  | none=>rw[g]at e;cases e
  | some s1 =>
   rw[g]at e;obtain⟨⟨a0,r⟩,-⟩:=o a (by simp);obtain⟨j,k⟩:=GE hf a0 r;obtain⟨d,-,-⟩:=EM hk hi hs n0 n1 j k g;obtain⟨u,v⟩:=Pb hk hi hs n0 n1 j k g;have p:∀b∈l,Ec h m b:=fun b f=>o b (bY _ f);have e:LC h n l s1=some c:=e;obtain⟨q,t⟩:=Wm p d e;have i:=(OB hk hi hf n0 n1 p d e).1;refine⟨u.trans hk hs d i q,fun b f=>?_⟩;rcases Do.1 f with rfl|f
   ·exact FJ hk j k (d.get n0 n1).1 (d.get n0 n1).2 (i.get n0 n1).1 (i.get n0 n1).2 v (q.up _ (by omega))
   ·exact t b f
theorem jT:∀ {l:List (Int×Int)} {s c:Di},(∀a∈l,Ec h m a)→Li h m s→Lt h n l s=some c→jS h m s c∧(n∈c.2.drop s.2.length∨(c.1.getD n.toNat 0=s.1.getD n.toNat 0∧∀a∈l,(Br h (s.1.getD n.toNat 0) a.1).2=true∧BK h (Br h (s.1.getD n.toNat 0) a.1).1 (c.1.getD a.2.toNat 0)=true))
 | [],s,c,_,hs,e=>by
  injection e with e
  subst e;exact⟨jS.refl hk hs,.inr ⟨rfl,fun a ha=>by cases ha⟩⟩
 | a :: l,s,c,t,hs,e=>by
  unfold Lt at e;split at e
  ·rename_i v;obtain⟨w,x⟩:=hs.get n0 n1;obtain⟨o,p⟩:=EF hf w x v;cases j:Cm h s a.2 (Br h (s.1.getD n.toNat 0) a.1).1 with
   | none=>rw[j]at e;cases e
   | some s1 =>
    rw[j]at e;obtain⟨-,d,b1⟩:=t a (by simp);obtain⟨g,-,-⟩:=EM hk hi hs d b1 o p j;obtain⟨r,A⟩:=Pb hk hi hs d b1 o p j;have u:∀b∈l,Ec h m b:=fun b f=>t b (bY _ f);have e:Lt h n l s1=some c:=e;obtain⟨q,i⟩:=jT u g e;have k:=(RB hk hi hf n0 n1 u g e).1;refine⟨r.trans hk hs g k q,?_⟩;have y:((n.toNat:Nat):Int)=n:=AAQ n0;rcases r.ch n.toNat (by omega) with c1|c1
    ·rcases i with i|⟨i,z⟩
     ·exact .inl (OH r.pre.length_le i)
     ·refine .inr ⟨i.trans c1,fun b f=>?_⟩;rcases Do.1 f with rfl|f
      ·exact⟨v,FJ hk o p (g.get d b1).1 (g.get d b1).2 (k.get d b1).1 (k.get d b1).2 A (q.up _ (by omega))⟩
      ·have:=z b f
       rwa [c1]at this
    ·rw[y]at c1;exact .inl (Pa q.pre c1)
  ·cases e
include hap
theorem jU {u:List Int} (f:Ga h m u):∀ {l:List (Int×Int)} {s:Di},(∀a∈l,Ec h m a)→Li h m s→E2 h m s.1 u→(∀a∈l,(Br h (u.getD n.toNat 0) a.1).2=true)→∃c,LC h n l s=some c∧E2 h m c.1 u
 | [],s,_,_,e,_=>⟨s,rfl,e⟩
 | a :: l,s,j,hs,e,k=>by
  obtain⟨⟨a0,g⟩,-⟩:=j a (by simp);obtain⟨o,p⟩:=GE hf a0 g;obtain⟨v,w⟩:=f.get (show n.toNat<m by omega);obtain⟨s1,i,h1⟩:=VO hk hi hs n0 n1 o p f e ((hap.iff _ _ v w a0 g).1 (k a (by simp)));obtain⟨r,-,-⟩:=EM hk hi hs n0 n1 o p i;obtain⟨c,q,t⟩:=jU f (fun b d=>j b (bY _ d)) r h1 fun b d=>k b (bY _ d);exact⟨c,by unfold LC;rw[i];exact q,t⟩
theorem jV {u:List Int} (d:Ga h m u):∀ {l:List (Int×Int)} {s:Di},(∀a∈l,Ec h m a)→Li h m s→E2 h m s.1 u→(∀a∈l,BK h (I8 h a.1) (s.1.getD n.toNat 0)=true)→TJ h u n l→∃k,Lt h n l s=some k∧E2 h m k.1 u
 | [],s,_,_,g,_,_=>⟨s,rfl,g⟩
 | a :: l,s,q,hs,g,y,z=>by
  obtain⟨⟨a0,w⟩,o,b1⟩:=q a (by simp);obtain⟨e,f⟩:=hs.get n0 n1;have r:n.toNat<m:=by omega
  have x:a.2.toNat<m:=by omega
  obtain⟨A,B⟩:=d.get r;have t:=(hap.iff _ _ e f a0 w).2 (y a (by simp));obtain⟨i,j⟩:=EF hf e f t;obtain⟨I,J⟩:=z a (by simp);obtain⟨v0,v1⟩:=EF hf A B I;have E:=hap.mono _ _ a.1 e f A B a0 w (g _ r) t;obtain⟨s1,p,h1⟩:=VO hk hi hs o b1 i j d g (FJ hk i j v0 v1 (d.get x).1 (d.get x).2 E J);obtain⟨v,-,-⟩:=EM hk hi hs o b1 i j p;obtain⟨H,-⟩:=Pb hk hi hs o b1 i j p;obtain⟨k,C,D⟩:=jV d (fun b c=>q b (bY _ c)) v h1 (fun b c=>by
   obtain⟨⟨c0,c1⟩,-⟩:=q b (bY _ c);obtain⟨F,G⟩:=GE hf c0 c1;exact FJ hk F G e f (v.get n0 n1).1 (v.get n0 n1).2 (y b (bY _ c)) (H.up _ r)) fun b c=>z b (bY _ c)
  exact⟨k,by unfold Lt;rw[BY t,p];exact C,D⟩
end
section
variable {h:AN} (hk:I5 h) (hi:GY h) (hf:Tk h) (hap:zI h) {f:List AK} (ha:LD h f)
include hk hi hf hap ha
theorem tQ {n:Int} (n0:0≤n) (n1:n<(f.length:Int)) {s c:Di} (hs:Li h f.length s) (e:I9 h f n s=some c):jS h f.length s c∧(n∈c.2.drop s.2.length∨TJ h c.1 n (f.getD n.toNat (0,[])).2):=by
 have _:=hap;have g:=LE ha n0 n1;unfold I9 at e;cases d:LC h n (f.getD n.toNat (0,[])).2 s with
 | none=>rw[d]at e;cases e
 | some s1 =>
  rw[d]at e;have i:=(OB hk hi hf n0 n1 g hs d).1;obtain⟨j,-⟩:=Wm hk hi hf n0 n1 g hs d;have e:Lt h n (f.getD n.toNat (0,[])).2 s1=some c:=e;have k:=(RB hk hi hf n0 n1 g i e).1;obtain⟨l,b⟩:=jT hk hi hf n0 n1 g i e;refine⟨j.trans hk hs i k l,?_⟩;rcases b with b|⟨b,m⟩
  ·exact .inl (OH j.pre.length_le b)
  ·refine .inr fun a ha=>?_;rw[b];exact m a ha
theorem tR {n:Int} (n0:0≤n) (n1:n<(f.length:Int)) {s:Di} (hs:Li h f.length s) {u:List Int} (d:Ga h f.length u) (e:TJ h u n (f.getD n.toNat (0,[])).2) (k:E2 h f.length s.1 u):∃g,I9 h f n s=some g∧E2 h f.length g.1 u:=by
 have b:=LE ha n0 n1;obtain⟨s1,c,h1⟩:=jU hk hi hf hap n0 n1 d b hs k fun a ha=>(e a ha).1;have l:=(OB hk hi hf n0 n1 b hs c).1;obtain⟨-,m⟩:=Wm hk hi hf n0 n1 b hs c;obtain⟨s2,i,j⟩:=jV hk hi hf hap n0 n1 d b l h1 m e;exact⟨s2,by unfold I9;rw[c];exact i,j⟩
def A3k (h:AN) (f:List AK) (i:Nat) (s:Di):Prop:=∀n:Nat,n<f.length→TJ h s.1 (n:Int) (f.getD n (0,[])).2∨(n:Int)∈s.2.drop i
theorem zJ {n:Nat} (hn:n<f.length) {s d:Di} (hs:Li h f.length s) (i:Li h f.length d) (j:jS h f.length s d) (p:TJ h s.1 (n:Int) (f.getD n (0,[])).2):TJ h d.1 (n:Int) (f.getD n (0,[])).2∨(n:Int)∈d.2.drop s.2.length:=by
 have _:=hap;have _:=hi;have o:∀a∈(f.getD n (0,[])).2,Ec h f.length a:=ha _ (AE f (0,[]) hn);rcases j.ch n hn with c|c
 ·left;intro a g;obtain⟨e,k⟩:=p a g;obtain⟨-,b,b1⟩:=o a g;rw[AA4]at e k ⊢;rw[c];obtain⟨l,m⟩:=hs.tyl.get hn;obtain⟨q,r⟩:=EF hf l m e;exact⟨e,FJ hk q r (hs.get b b1).1 (hs.get b b1).2 (i.get b b1).1 (i.get b b1).2 k (j.up _ (by omega))⟩
 ·exact .inr c
theorem jW:∀ {k i:Nat} {s:Di} {ty:List Int},Li h f.length s→A3k h f i s→jH h f k i s=some ty→WTy h f ty∧E2 h f.length s.1 ty∧Ga h f.length ty
 | 0,_,_,_,_,_,e=>by cases e
 | k+1,i,s,ty,hs,hp,e=>by
  unfold jH at e;split at e
  ·rename_i d;have p:=AE s.2 (0:Int) d;obtain⟨n0,n1⟩:=hs.wt _ p;generalize hn:s.2.getD i 0=n at *;cases c:I9 h f n s with
   | none=>rw[c]at e;cases e
   | some s1 =>
    rw[c]at e;have g:=(OC hk hi hf ha n0 n1 hs c).1;obtain⟨j,b⟩:=tQ hk hi hf hap ha n0 n1 hs c;have r:A3k h f (i+1) s1:=by
     intro m l;rcases hp m l with q|a
     ·rcases zJ hk hi hf hap ha l hs g j q with h1|h1
      ·exact .inl h1
      ·exact .inr (OH (by omega) h1)
     ·have t:s.2.drop i=n :: s.2.drop (i+1):=by
       rw[OS d,←hn,AS,AT d];rfl
      rw[t]at a;rcases Do.1 a with a|a
      ·rcases b with b|b
       ·exact .inr (by rw[a];exact OH (by omega) b)
       ·left;rw[a];have:n.toNat=m:=by omega
        rw[this]at b;exact b
      ·exact .inr (Pa j.pre a)
    have e:jH h f k (i+1) s1=some ty:=e;obtain⟨u,v,o⟩:=jW g r e;exact⟨u,j.up.trans hk hs.tyl g.tyl o v,o⟩
  ·rename_i d;injection e with e
   subst e;refine⟨fun n hn=>?_,E2.refl hk hs.tyl,hs.tyl⟩;rcases hp n hn with h1|h1
   ·exact h1
   ·rw[IF (by omega)]at h1;cases h1
theorem tS {u:List Int} (d:Ga h f.length u) (e:WTy h f u):∀ {k i:Nat} {s:Di},Li h f.length s→i≤s.2.length→Lj h s.1+s.2.length+1≤k+i→E2 h f.length s.1 u→∃ty,jH h f k i s=some ty∧E2 h f.length ty u
 | 0,i,s,hs,l,m,b=>by omega
 | k+1,i,s,hs,l,m,b=>by
  unfold jH;by_cases a:i<s.2.length
  ·rw[BY a];obtain⟨n0,n1⟩:=hs.wt _ (AE s.2 (0:Int) a);have g:=e (s.2.getD i 0).toNat (by omega);rw[AAQ n0]at g;obtain⟨s1,c,h1⟩:=tR hk hi hf hap ha n0 n1 hs d g b;obtain⟨j,n,o⟩:=OC hk hi hf ha n0 n1 hs c;rw[c];exact tS d e j (by omega) (by omega) h1
  ·rw[At a];exact⟨s.1,rfl,b⟩
theorem bZ (a:∀x∈f,0≤x.1∧x.1<(h.1.length:Int)) {ty:List Int} (e:LF h f=some ty):WTy h f ty∧E2 h f.length (A1 f) ty∧Ga h f.length ty:=by
 have e:jH h f (HV h f) 0 (A1 f,Dx f)=some ty:=e;refine jW hk hi hf hap ha (k:=HV h f) (i:=0) (s:=(A1 f,Dx f)) (VG a) (fun n hn=>.inr ?_) e;rw[AAm];exact Of.2 ⟨n,oN.2 hn,rfl⟩
theorem QR (b:∀x∈f,0≤x.1∧x.1<(h.1.length:Int)) {u:List Int} (c:Ga h f.length u) (d:WTy h f u) (a:E2 h f.length (A1 f) u):∃ty,LF h f=some ty∧E2 h f.length ty u :=
 tS hk hi hf hap ha c d (k:=HV h f) (i:=0) (s:=(A1 f,Dx f)) (VG b) (IS _) (We h f) a
end
inductive Up (d:List AF) (m:ByteArray):ByteArray→Prop
 | base {x:ByteArray}:AY m x=true→Up d m x
 | step {x s:ByteArray} {y:AF}:y∈d→AY y.1 x=true→AR y.2.1 s=true→Up d m s→Up d m x
section
variable {d:List AF}
theorem TK {m x y:ByteArray} (h:Up d m x) (e:AY x y=true):Up d m y:=by
 cases h with
 | base h=>exact .base (A7 h e)
 | step h1 a b c=>exact .step h1 (A7 a e) b c
theorem A0N {c x s:ByteArray} (h:Up d c x) {y:AF} (f:y∈d) (e:AY y.1 c=true) (hs:AR y.2.1 s=true):Up d s x:=by
 induction h with
 | base h=>exact .step f (A7 e h) hs (.base (CU s))
 | step h1 a b i g=>exact .step h1 a b g
theorem OI {a b c:ByteArray} (h1:Up d a b) (i:Up d b c):Up d a c:=by
 induction i with
 | base h=>exact TK h1 h
 | step e f g k j=>exact .step e f g j
theorem zK {m a x:ByteArray} (e:AY a m=true) (h:Up d m x):Up d a x:=OI (.base e) h
theorem zL (hn:CL d=0) (f:d.length≤(BS d).length) {m x:ByteArray} (h:Up d m x):AY m x=true∨FP d m<FP d x:=by
 induction h with
 | base h=>exact .inl h
 | step h1 c e g a =>
  right;have b:=Jo hn f h1 e;rw[HI d c]at b;rcases a with a|a
  ·rw[HI d a];exact b
  ·omega
theorem tT {o:List ByteArray} {s t:ByteArray} (h:t∈Iv o s):t∈o∨t=s:=by
 unfold Iv at h;split at h
 ·exact .inl h
 ·rcases ON.1 h with h|h
  ·exact .inl h
  ·exact .inr (by simpa using h)
theorem VP:∀ {l o:List ByteArray} {t:ByteArray},t∈l.foldl Iv o→t∈o∨t∈l
 | [],_,_,h=>.inl h
 | s :: l,o,t,h=>by
  rw[TO]at h;rcases VP h with h|h
  ·rcases tT h with h|h
   ·exact .inl h
   ·exact .inr (by simp[h])
  ·exact .inr (by simp[h])
theorem nH {s:ByteArray} (h:0≤Af d s):d.getD (Af d s).toNat d0∈d∧AY (d.getD (Af d s).toNat d0).1 s=true:=by
 rcases Cs d s with g|⟨b,c,a⟩
 ·omega
 ·exact⟨A6 (by omega),a⟩
theorem VQ (hs:NR d) {x:ByteArray}:∀ {n i:Nat} {o:List ByteArray},(∀t∈o,0≤Af d t∧Up d t x)→∀t∈HE d n i o,0≤Af d t∧Up d t x
 | 0,_,_,b=>b
 | n+1,i,o,b=>by
  unfold HE;split
  ·rename_i hi;refine VQ hs fun t a=>?_;rcases VP a with a|a
   ·exact b t a
   ·obtain⟨c1,c2⟩:=b _ (A6 (d:=ByteArray.empty) hi);obtain⟨c,e⟩:=nH c1;exact⟨hs _ c t a,A0N c2 c e (Ey a)⟩
  ·exact b
theorem VR {l:List ByteArray} {t:ByteArray} (h:t∈Iw l):t∈l:=(SK (o:=[]) h).resolve_left (by simp)
theorem tU (hs:NR d) {x t:ByteArray} (c:0≤Af d x) (h:AR (Jm d x) t=true):Up d t x:=by
 obtain⟨u,a,e⟩:=OF.1 h;unfold Jm at a;rw[At (by omega)]at a;have:=(VQ hs (x:=x) (n:=d.length) (i:=0) (o:=[x]) (fun t b=>by
  have:t=x:=by simpa using b
  subst this;exact⟨c,.base (CU _)⟩) u (VR a)).2
 exact zK (DX e) this
theorem VS {m:ByteArray}:∀ {n i:Nat} {o:List ByteArray},(∀t∈o,Up d m t)→∀t∈CM d n i o,Up d m t
 | 0,_,_,a=>a
 | n+1,i,o,a=>by
  unfold CM;split
  ·rename_i hi;have f:=a _ (A6 (d:=ByteArray.empty) hi);generalize o.getD i ByteArray.empty=c at *;have key:∀(l:List AF) (o:List ByteArray),(∀y∈l,y∈d)→(∀t∈o,Up d m t)→∀t∈l.foldl (Ea c) o,Up d m t:=by
    intro l;induction l with
    | nil=>exact fun o _ a=>a
    | cons y l j =>
     intro o e a;rw[TO];refine j _ (fun z g=>e z (by simp[g])) fun t b=>?_;unfold Ea at b;split at b
     ·rename_i h;rw[An]at h;rcases ON.1 b with b|b
      ·exact a t b
      ·have:t=y.1:=by simpa using b
       subst this;exact .step (e y (by simp)) (CU _) h.1 f
     ·exact a t b
   exact VS (key d o (fun _ h=>h) a)
  ·exact a
theorem TL {m x:ByteArray} (h:AR (CN d m) x=true):Up d m x:=by
 obtain⟨u,a,e⟩:=OF.1 h;unfold CN at a;split at a
 ·cases a
 ·exact TK (VS (m:=m) (n:=d.length) (i:=0) (o:=[m]) (fun t b=>by
   have:t=m:=by simpa using b
   subst this;exact .base (CU _)) u (VR a)) e
theorem TM {m x:ByteArray} (u:0≤Af d m) (h:Up d m x):AR (CN d m) x=true:=by
 have q:WG d [m]:=⟨fun s hs=>by
  have:s=m:=by simpa using hs
  rw[this];exact u,by simp⟩
 obtain⟨k,v,D⟩:=S9 (d:=d) (n:=d.length) (i:=0) q (by omega) (fun j t=>by omega) (by omega);have A:m∈CM d d.length 0 [m]:=Jp (by simp);have r:CN d m=Iw (CM d d.length 0 [m]):=by unfold CN;rw[At (by omega)]
 rw[r];generalize CM d d.length 0 [m]=o at *;have key:AR o x=true:=by
  induction h with
  | base h=>exact OF.2 ⟨m,A,h⟩
  | step h1 l p C B =>
   obtain⟨z,c,a⟩:=OF.1 B;obtain⟨j,t,rfl⟩:=DK ByteArray.empty c;obtain⟨s,y,f⟩:=OF.1 p;obtain⟨w,b,g⟩:=OF.1 (v j (by omega) _ h1 (OF.2 ⟨s,y,A7 f (DX a)⟩));exact OF.2 ⟨w,b,A7 g l⟩
 obtain⟨z,c,e⟩:=OF.1 key;obtain⟨w,b,a⟩:=OF.1 (Ng (o:=[]) c);exact OF.2 ⟨w,b,A7 a e⟩
theorem VT:∀ {l o:List ByteArray} {x:ByteArray},AR o x=true→AR (l.foldl (Eb d) o) x=true
 | [],_,_,h=>h
 | s :: l,o,x,h=>by
  rw[TO];refine VT ?_;unfold Eb;split
  ·exact Iz (fun z a=>Le a) h
  ·exact h
theorem OJ:∀ {l o:List ByteArray} {x:ByteArray},x∈l→0≤Af d x→AR (l.foldl (Eb d) o) x=true
 | s :: l,o,x,h,a=>by
  rw[TO];rcases Do.1 h with rfl|h
  ·refine VT ?_;unfold Eb;rw[BY a];exact Nf
  ·exact OJ h a
theorem L8:∀ {l o:List ByteArray},(∀x∈o,0≤Af d x)→∀x∈l.foldl (Eb d) o,0≤Af d x
 | [],_,b=>b
 | s :: l,o,b=>by
  rw[TO];refine L8 fun x a=>?_;unfold Eb at a;split at a
  ·rcases F5 a with a|rfl
   ·exact b x a
   ·assumption
  ·exact b x a
theorem A0O {l:List ByteArray} (h:i9 l) {i j:Nat} (hi:i<l.length) (a:j<l.length) (d:i≠j):AY (l.getD i ByteArray.empty) (l.getD j ByteArray.empty)=false:=by
 have c:∀k (h:k<l.length),l.getD k ByteArray.empty=l[k]:=fun k h=>by rw[AS,AT h];rfl
 rw[c i hi,c j a];rcases Nat.lt_or_gt_of_ne d with b|b
 ·exact(nO.1 h) i j hi a b
 ·exact K6 ((nO.1 h) j i a hi b)
theorem OK:∀ {l o:List ByteArray},i9 o→(∀s∈l,∀x∈o,AY x s=false)→i9 l→i9 (l.foldl (Eb d) o)
 | [],_,h,_,_=>h
 | s :: l,o,h,b,f=>by
  rw[TO];have e:=ABg.1 f;refine OK ?_ (fun y c x a=>?_) e.2
  ·unfold Eb;split
   ·exact Sn h (b s (by simp))
   ·exact h
  ·unfold Eb at a;split at a
   ·rcases F5 a with a|rfl
    ·exact b y (by simp[c]) x a
    ·exact e.1 y c
   ·exact b y (by simp[c]) x a
theorem nI (hn:CL d=0) (s:ByteArray):i9 (Ei d s):=by
 have key:∀(r:List AF) (o:List ByteArray),i9 o→(∀y∈r,∀x∈o,AY x y.1=false)→r.Pairwise (fun a b=>AY a.1 b.1=false)→i9 (r.foldl (GR s) o):=by
  intro r;induction r with
  | nil=>exact fun o h _ _=>h
  | cons y r q =>
   intro o h f hp;rw[TO];have l:=ABg.1 hp;refine q _ ?_ (fun z g x c=>?_) l.2
   ·unfold GR;split
    ·exact Sn h (f y (by simp))
    ·exact h
   ·unfold GR at c;split at c
    ·rcases F5 c with c|rfl
     ·exact f z (by simp[g]) x c
     ·exact l.1 z g
    ·exact f z (by simp[g]) x c
 refine key d [] .nil (fun y _ x c=>by cases c) (nO.2 fun i j hi k t=>?_);cases e:AY d[i].1 d[j].1 with
 | false=>rfl
 | true =>
  have h1:=Iy hn hi;have p:=Iy hn k;have m:d.getD i d0=d[i]:=by rw[AS,AT hi];rfl
  have n:d.getD j d0=d[j]:=by rw[AS,AT k];rfl
  rw[m,Hz d e]at h1;rw[n]at p;omega
theorem Pc (t:Ax d=0) {l:List ByteArray} (u:i9 l) {x:ByteArray} (g:x∈l) (z:0≤Af d x):∃m∈Aq d l,Up d m x:=by
 obtain⟨hs,D,-,hn,B⟩:=Ao t;have A:∀y∈BL d l,0≤Af d y:=L8 fun y c=>by cases c
 obtain⟨r,n,ex⟩:=OF.1 (OJ (d:=d) (o:=[]) g z);have n:r∈BL d l:=n;have w:i9 (BL d l):=OK .nil (fun s _ x g=>by cases g) u;have v:Aq d l=NU d (BL d l) (BL d l).length:=rfl;rw[v];generalize BL d l=all at *;have key:∀(k:Nat) (y:ByteArray),FP d y<k→y∈all→Up d y x→∃m∈NU d all all.length,Up d m x:=by
  intro k;induction k with
  | zero=>exact fun y h=>by omega
  | succ k C =>
   intro y E c p;obtain⟨i,hi,rfl⟩:=DK ByteArray.empty c;by_cases a:NT d all i all.length=true
   ·exact⟨_,Of.2 ⟨i,AAg.2 ⟨oN.2 hi,a⟩,rfl⟩,p⟩
   ·have a:NT d all i all.length=false:=by simpa using a
    unfold NT at a;obtain⟨j,b,hf⟩:=AAG.1 a;have b:=oN.1 b;unfold iO at hf;simp only[AA1,AA0,To,not_or,Bool.not_eq_false]at hf;obtain⟨f,ha⟩:=hf;have f:j≠i:=fun e=>f (by rw[e]);have q:=tU hs (A _ c) ha;rcases zL hn B q with e|e
    ·exact absurd e (by rw[A0O w b hi f];simp)
    ·exact C _ (by omega) (A6 b) (OI q p)
 exact key _ r (ACr _) n (.base ex)
theorem Jx {s:ByteArray} (hs:s∈AM d):0≤Af d s:=by
 obtain⟨x,a,rfl⟩:=CV hs;exact Cz a
theorem OL {x:AF} (a:x∈d) (hn:CL d=0):x.1∈AM d:=by
 obtain⟨s,hs,e⟩:=OF.1 (MZ a);obtain⟨y,b,rfl⟩:=CV hs;rw[←Nc hn b a e];exact hs
theorem zM (b:Ax d=0) {m x:ByteArray} (c:0≤Af d m) (h:Up d m x) {i:Nat} (hi:A4 (ED d (AM d) x) i=true):A4 (ED d (AM d) m) i=true:=by
 obtain⟨-,j,-,hn,k⟩:=Ao b;have e:=DW d d.length;rw[gO]at e;have a:(AM d).length≤4096:=by omega
 obtain⟨f,g⟩:=(Bh (d:=d) a x i).1.1 hi;exact(Bh (d:=d) a m i).1.2 ⟨f,TM c (OI h (TL g))⟩
end
section
variable {d:List AF}
def Dc (d:List AF) (c:List Int):Prop:=HH c∧∀i j,A4 c i=true→j<(AM d).length→Up d ((AM d).getD i ByteArray.empty) ((AM d).getD j ByteArray.empty)→A4 c j=true
theorem A0P:Dc d []:=⟨fun x a=>(by cases a),fun i j hi=>by unfold A4 at hi;simp at hi⟩
theorem A0Q {a b:List Int} (ha:Dc d a) (c:Dc d b):Dc d (Dt a b) :=
 ⟨Lf ha.1 c.1,fun i j hi e f=>by
  rw[Jv ha.1 c.1,An]at hi ⊢;exact⟨ha.2 i j hi.1 e f,c.2 i j hi.2 e f⟩⟩
theorem jX {l:List (List Int)} (h:∀c∈l,Dc d c) (k:Nat):Dc d (l.getD k []):=by
 by_cases hk:k<l.length
 ·exact h _ (A6 hk)
 ·rw[PP hk];exact A0P
theorem zN {l:List (List Int)} (h:∀c∈l,Dc d c) (i k:Nat):∀c∈Fc l i k,Dc d c:=by
 intro c a;unfold Fc at a;split at a
 ·rcases ON.1 a with a|a
  ·exact h c a
  ·have:c=Dt (l.getD i []) (l.getD k []):=by simpa using a
   rw[this];exact A0Q (jX h i) (jX h k)
 ·exact h c a
theorem jY {i:Nat}:∀ {n k:Nat} {l:List (List Int)},(∀c∈l,Dc d c)→∀c∈Fd i n k l,Dc d c
 | 0,_,_,h=>h
 | n+1,k,l,h=>by
  unfold Fd;split
  ·exact jY (zN h i k)
  ·exact h
theorem jZ:∀ {n i:Nat} {l:List (List Int)},(∀c∈l,Dc d c)→∀c∈HF n i l,Dc d c
 | 0,_,_,h=>h
 | n+1,i,l,h=>by
  unfold HF;split
  ·exact jZ (jY h)
  ·exact h
theorem QT (a:Ax d=0):(AM d).length≤4096:=by
 obtain⟨-,c,-⟩:=Ao a;have b:=DW d d.length;rw[gO]at b;omega
theorem zO (b:Ax d=0) {s:ByteArray} (hs:0≤Af d s):Dc d (ED d (AM d) s):=by
 have a:=QT b;refine⟨(Bh (d:=d) a s 0).2.1,fun i j hi c e=>?_⟩;have h1:=((Bh (d:=d) a s i).1.1 hi).2;exact(Bh (d:=d) a s j).1.2 ⟨c,TM hs (OI (TL h1) e)⟩
theorem A0R (a:Ax d=0):∀c∈Ai (AQ d),Dc d c:=jZ fun c b=>by
 obtain⟨s,hs,rfl⟩:=Of.1 b;exact zO a (Jx hs)
theorem j5 {all:List ByteArray} {codes:List (List Int)} {b:List Int} {u:ByteArray}:∀ {m i:Nat} {l:List ByteArray},iR d all codes b m i l=.inl u→∃j,i≤j∧j<i+m∧Cr (codes.getD j []) b=true∧u=all.getD j ByteArray.empty
 | 0,_,_,h=>by cases h
 | m+1,i,l,h=>by
  unfold iR at h;split at h
  ·rename_i a;injection h with h
   exact⟨i,If _,by omega,a,h.symm⟩
  ·obtain⟨j,f,g,c,e⟩:=j5 h;exact⟨j,by omega,by omega,c,e⟩
theorem j6 {all:List ByteArray} {codes:List (List Int)} {b:List Int} {r:List ByteArray}:∀ {m i:Nat} {l:List ByteArray},iR d all codes b m i l=.inr r→(∀j,i≤j→j<i+m→Cr (codes.getD j []) b=false)∧r=l++((List.range' i m).filter fun j:Nat=>Ox b (j:Int)).map fun j=>all.getD j ByteArray.empty
 | 0,i,l,h=>by
  unfold iR at h;injection h with h
  exact⟨fun j h1 g=>by omega,by simp[h]⟩
 | m+1,i,l,h=>by
  unfold iR at h;split at h
  ·cases h
  ·rename_i k;obtain⟨c,f⟩:=j6 h;refine⟨fun j h1 g=>?_,?_⟩
   ·by_cases e:j=i
    ·rw[e];simpa using k
    ·exact c j (by omega) (by omega)
   ·rw[f,ACs,AAr];by_cases a:Ox b (i:Int)=true
    ·rw[BY a,BY a];simp
    ·rw[At a,At a]
theorem j7 {a b:ByteArray} {x:UInt8}:x∈(a++b).toList↔x∈a.toList∨x∈b.toList:=by
 rw[ByteArray.toList_eq,ByteArray.toList_eq,ByteArray.toList_eq];simp
theorem nJ {l:List ByteArray}:∀ {n:Nat},2≤n→(38:UInt8)∈(Nh l n).toList
 | n+1,hn=>by
  rw[Ma];unfold Uj;rw[BY (by omega)];rw[j7,j7];exact .inl (.inr (by rw[ByteArray.toList_eq];simp))
theorem b4 (hn:CL d=0) {s:ByteArray} (hs:s∈AM d):(38:UInt8)∉s.toList:=by
 obtain⟨x,i,rfl⟩:=CV hs;obtain⟨j,g,e⟩:=DK d0 i;have h1:=(H0 (d:=d) (r:=d) (k:=0) hn j g).2;rw[e]at h1;intro b;unfold EB at h1;rw[An,DO]at h1;rw[ByteArray.toList_eq]at b;obtain⟨k,hk,c⟩:=AAa.1 b;have a:k<x.1.data.size:=by simpa using hk
 have:=h1.2 k (oN.2 a);unfold z2 at this;have f:x.1.data.getD k 0=38:=by
  rw[←c];have h:k<x.1.size:=a;simp[Array.getD,h]
 rw[f]at this;revert this;decide
theorem nK (o:Ax d=0) {y:AP} (ae:y∈AJ d) (hf:H3 (Ai (AQ d))) {s:ByteArray} (hs:s∈AM d) (e:AY y.1 s=true):y.2=ED d (AM d) s:=by
 obtain⟨ao,ak,-,hn,am⟩:=Ao o;have v:=QT o;have Q:Nd (Ai (AQ d)):=Q7 (PQ o);have al:(AQ d).length=(AM d).length:=by simp[AQ]
 have R:AQ d <+: Ai (AQ d):=Nu 257 0 (AQ d);have ab:∀ {t:ByteArray},t∈AM d→AY t s=true→t=s:=fun {t} h e=>by
  obtain⟨x,ad,rfl⟩:=CV h;obtain⟨z,af,rfl⟩:=CV hs;rw[Nc hn ad af e]
 have heq:∀j,j<(AM d).length→∀b∈Ai (AQ d),Cr ((AQ d).getD j []) b=true→b=ED d (AM d) ((AM d).getD j ByteArray.empty):=fun j Y b f w=>by
  have g:(AQ d).getD j []∈Ai (AQ d):=R.subset (A6 (by omega));unfold Cr at w;rw[An,Ff (hf.wds _ g) (hf.wds b f),Ff (hf.wds b f) (hf.wds _ g)]at w;rw[←H2 d Y];refine WY (hf.wds b f) (hf.wds _ g) (Q.nrm b f) (Q.nrm _ g) fun i=>?_;rw[ABt];exact⟨w.2 i,w.1 i⟩
 obtain⟨b,f,rfl⟩:=C0.1 ae;show b=_;have e:AY (F6 d (AM d) (AQ d) b) s=true:=e;unfold F6 at e;cases C:iR d (AM d) (AQ d) b (AM d).length 0 [] with
 | inl u =>
  rw[C]at e;obtain⟨j,-,I,ag,rfl⟩:=j5 C;rw[AAC]at I;rw[←ab (A6 I) e];exact heq j I b f ag
 | inr l =>
  exfalso;rw[C]at e;have e:AY (X9 (Aq d l)) s=true:=e;obtain⟨U,r⟩:=j6 C;rw[AB9]at r;have D:=hf.wds b f;have B:∀i,i<(AM d).length→A4 b i=true→(AM d).getD i ByteArray.empty∈l:=fun i hi V=>by
   rw[r];exact Of.2 ⟨i,AAg.2 ⟨List.mem_range'.2 ⟨i,hi,by simp⟩,by simpa[RG D] using V⟩,rfl⟩
  have P:∀t∈l,∃i,i<(AM d).length∧t=(AM d).getD i ByteArray.empty∧A4 b i=true:=fun t h=>by
   rw[r]at h;obtain⟨i,hi,rfl⟩:=Of.1 h;obtain⟨T,H⟩:=AAg.1 hi;obtain⟨k,ap,aq⟩:=List.mem_range'.1 T;exact⟨i,by omega,rfl,by simpa[RG D] using H⟩
  have aa:(List.range' 0 (AM d).length).map (fun j=>(AM d).getD j ByteArray.empty)=AM d:=by
   apply AAE
   ·simp
   ·intro i T H;simp[AS,H]
  have J:i9 l:=by
   rw[r];have:=So hn;rw[←aa]at this;exact this.sublist (List.filter_sublist.map _)
  obtain⟨E,A⟩:=hf.some b f;have G:∀i,A4 b i=true→i<(AM d).length:=by
   have:=Wj (q:=(AM d).length) (n:=257) (i:=0) (l:=AQ d) (fun c X=>by
    obtain⟨t,h,rfl⟩:=Of.1 X;exact⟨(Bh (d:=d) v t 0).2.1,fun i hi=>((Bh (d:=d) v t i).1.1 hi).1⟩) b f
   exact this.2
  have K:∀t∈l,0≤Af d t:=fun t h=>by
   obtain⟨i,hi,rfl,-⟩:=P t h;exact Jx (A6 hi)
  obtain⟨m,g,-⟩:=Pc o J (B E (G E A) A) (K _ (B E (G E A) A));have an:0<(Aq d l).length:=ABc g;have Z:X9 (Aq d l)=Nh (Aq d l) (Aq d l).length:=rfl;rw[Z]at e;by_cases h1:(Aq d l).length=1
  ·obtain⟨p,M,rfl,W⟩:=P m (GW g);have L:Cr ((AQ d).getD p []) b=true:=by
    have O:(AQ d).getD p []∈Ai (AQ d):=R.subset (A6 (by omega));unfold Cr;rw[An,Ff (hf.wds _ O) D,Ff D (hf.wds _ O),H2 d M];refine⟨fun i hi=>?_,fun i hi=>?_⟩
    ·obtain⟨ai,aj⟩:=(Bh (d:=d) v _ i).1.1 hi;exact(A0R o b f).2 p i W ai (TL aj)
    ·have F:=G i hi;obtain⟨ah,N,S⟩:=Pc o J (B i F hi) (K _ (B i F hi));have:ah=(AM d).getD p ByteArray.empty:=by
      obtain⟨a,ha⟩:=AAJ.1 h1;rw[ha]at g N;rw[AAs.1 N,AAs.1 g]
     rw[this]at S;exact(Bh (d:=d) v _ i).1.2 ⟨F,TM (Jx (A6 M)) S⟩
   rw[U p (IS _) (by omega)]at L;cases L
  ·have:=nJ (l:=Aq d l) (n:=(Aq d l).length) (by omega);rw[Gf.1 e]at this;exact b4 hn hs this
theorem VU (s:ByteArray):∀(l:List AP) (k:Nat),0≤Kx s k l→∃j,j<l.length∧Kx s k l=((k+j:Nat):Int)∧AY (l.getD j c0).1 s=true
 | [],k,h=>by simp only[Kx]at h;omega
 | x :: l,k,h=>by
  simp only[Kx]at h ⊢;split
  ·rename_i e;exact⟨0,by simp,rfl,e⟩
  ·rename_i e;rw[At e]at h;obtain⟨j,c,a,b⟩:=VU s l (k+1) h;exact⟨j+1,by simp only[Is];omega,by rw[a];congr 1;omega,by simpa using b⟩
theorem tV (a:Ax d=0) (hf:H3 (Ai (AQ d))) {s:ByteArray} (hs:s∈AM d):((AJ d).getD (BB (AJ d) s).toNat c0).2=ED d (AM d) s:=by
 have h0:0≤BB (AJ d) s:=F7 a (Ey hs);obtain⟨j,b,c,f⟩:=VU s (AJ d) 0 h0;have e:BB (AJ d) s=((0+j:Nat):Int):=c;rw[e,AAC,AA4];exact nK a (A6 b) hf hs f
theorem VV {s:ByteArray} (hn:CL d=0):∀ {r:List AF} {o:List ByteArray} {x:AF},(∀y∈r,y∈d)→x∈d→((∃z∈o,AY z x.1=true)∨(x∈r∧(Ck x s).2=true))→∃z∈r.foldl (GR s) o,AY z x.1=true
 | [],o,x,_,_,h=>h.resolve_right fun g=>by cases g.1
 | y :: r,o,x,f,i,h=>by
  rw[TO];refine VV hn (fun z a=>f z (by simp[a])) i ?_;rcases h with ⟨z,a,e⟩|⟨b,c⟩
  ·left;unfold GR;split
   ·exact⟨z,Le a,e⟩
   ·exact⟨z,a,e⟩
  ·rcases Do.1 b with rfl|b
   ·left;unfold GR;rw[BY c];exact OF.1 (Nf (l:=o) (s:=x.1))
   ·exact .inr ⟨b,c⟩
theorem VW (f:Int):∀(a b:List (Int×Int)),DN f (a++b)=if (DN f a).2=true then DN f a else DN f b
 | [],_=>rfl
 | x :: a,b=>by
  have h1:DN f (x :: a++b)=if x.1=f then (x.2,true) else DN f (a++b):=rfl
  have c:DN f (x :: a)=if x.1=f then (x.2,true) else DN f a:=rfl
  rw[h1,c];split
  ·rfl
  ·exact VW f a b
theorem j8 (l:List AP) (fs:List ByteArray) (t:Nat) (f:Int):∀n,DN f (Qf d l fs t n)=if 0≤f∧f<(n:Int)∧(ET d l (t:Int) (fs.getD f.toNat ByteArray.empty)).2=true then (GK l (ET d l (t:Int) (fs.getD f.toNat ByteArray.empty)).1,true) else (0,false)
 | 0=>by
  rw[At (by omega)];rfl
 | n+1=>by
  rw[Uo,VW,j8 l fs t f n];by_cases h:0≤f∧f<(n:Int)∧(ET d l (t:Int) (fs.getD f.toNat ByteArray.empty)).2=true
  ·rw[BY h,BY rfl,BY ⟨h.1,by omega,h.2.2⟩]
  ·rw[At h,At (by simp)];by_cases hn:f=(n:Int)
   ·subst hn;rw[AA4];by_cases hi:(ET d l (t:Int) (fs.getD n ByteArray.empty)).2=true
    ·rw[BY hi,BY ⟨by omega,by omega,hi⟩];unfold DN;rw[BY rfl]
    ·rw[At hi,At fun g=>hi g.2.2];rfl
   ·have a:¬(0≤f∧f<((n+1:Nat):Int)∧(ET d l (t:Int) (fs.getD f.toNat ByteArray.empty)).2=true):=fun g=>h ⟨g.1,by omega,g.2.2⟩;rw[At a];split
    ·unfold DN;rw[At (fun e=>hn e.symm)];rfl
    ·rfl
theorem TN (e:Am d=0) {t f:Int} (a:0≤t) (i:t<((AJ d).length:Int)) (b:0≤f) (c:f<((BC d).length:Int)):Br (BZ d) t f=if (ET d (AJ d) t ((BC d).getD f.toNat ByteArray.empty)).2=true then (GK (AJ d) (ET d (AJ d) t ((BC d).getD f.toNat ByteArray.empty)).1,true) else (0,false):=by
 unfold Br;rw[tM e a i,j8,AAQ a];by_cases h:(ET d (AJ d) t ((BC d).getD f.toNat ByteArray.empty)).2=true
 ·rw[BY ⟨b,c,h⟩,BY h]
 ·rw[At fun g=>h g.2.2,At h]
theorem zP (a:Am d=0) {f:Int} (c:0≤f) (e:f<((BC d).length:Int)):I8 (BZ d) f=BB (AJ d) (DA d ((BC d).getD f.toNat ByteArray.empty)).1:=by
 unfold I8;rw[TF a];have b:f.toNat<(BC d).length:=by omega
 simp[AS,b,Nl]
theorem A3l (b:Am d=0):zI (BZ d):=by
 obtain⟨g,-,T,G,-⟩:=bV b;obtain⟨v,-,-⟩:=Bv b;obtain⟨-,V,-⟩:=BJ v;have U:=Sj g V;obtain⟨ao,al,-,hn,am⟩:=Ao g;obtain⟨hk,an⟩:=A01 b;have J:=Nk g T;have p:=Wk d;have hF:(BZ d).2.length=(BC d).length:=by rw[TF b,AA3]
 have F:∀s∈AM d,BH (BZ d) (BB (AJ d) s)=ED d (AM d) s:=fun s hs=>by
  rw[Lm d (F7 g (Ey hs)) (HK _ _),tV g U hs]
 refine⟨fun t f k n l j=>?_,fun t A f k n B aj l j Y u=>?_⟩
 ·rw[p]at n;rw[hF]at j;have hs:=A6 (d:=ByteArray.empty) (show f.toNat<(BC d).length by omega);rw[TN b k n l j,zP b l j];generalize (BC d).getD f.toNat ByteArray.empty=s at *;obtain⟨w,-⟩:=OG b k n hs;obtain⟨ak,ab,S,Z⟩:=TH (G s hs);have hi:(if (ET d (AJ d) t s).2=true then (GK (AJ d) (ET d (AJ d) t s).1,true) else ((0:Int),false)).2=true↔(ET d (AJ d) t s).2=true:=by
   split<;>simp[*]
  rw[hi,w];constructor
  ·rintro⟨x,a,aa,X⟩;have hint:=G s hs;unfold DA at hint ⊢;split at hint
   ·rename_i h1;rw[BY h1];obtain⟨ap,W⟩:=AAJ.1 h1;obtain⟨z,v,D⟩:=VV (d:=d) (s:=s) hn (r:=d) (o:=[]) (fun y ae=>ae) a (.inr ⟨a,aa⟩);have af:0≤Af d z:=by rw[Hz d D];exact Cz a
    obtain⟨m,q,c⟩:=Pc g (nI hn s) v af;have c:=TK c D;have e:(Aq d (Ei d s)).getD 0 ByteArray.empty=m:=by
     rw[W]at q ⊢;rw[AAs.1 q];rfl
    rw[show ((Aq d (Ei d s)).getD 0 ByteArray.empty,true).1=m from e];obtain⟨ar,L,C,-⟩:=(PZ (GW q)).resolve_left (by simp);have I:m∈AM d:=by rw[←C];exact OL L hn
    have ad:=OL a hn;obtain⟨n0,n1⟩:=RI J a;have M:0≤BB (AJ d) m:=F7 g (Ey I);have aq:=HK (AJ d) m;refine FJ hk M (by omega) n0 (by omega) k (by omega) ((BV hk M (by omega) n0 (by omega)).2 fun i hi=>?_) X;unfold YU at hi ⊢;rw[F x.1 ad]at hi;rw[F m I];exact zM g (by rw[←C];exact Cz L) c hi
   ·cases hint
  ·intro h;rw[←S]at h;exact⟨ak,ab,Z,h⟩
 ·have N:t<((AJ d).length:Int):=by omega
  have O:A<((AJ d).length:Int):=by omega
  rw[hF]at j;have hs:=A6 (d:=ByteArray.empty) (show f.toNat<(BC d).length by omega);rw[TN b k N l j]at u ⊢;rw[TN b B O l j];generalize (BC d).getD f.toNat ByteArray.empty=s at *;obtain⟨w,ag⟩:=OG b k N hs;obtain⟨ah,ai⟩:=OG b B O hs;have hi:(ET d (AJ d) t s).2=true:=by
   split at u
   ·assumption
   ·cases u
  have K:∀x∈d,UsD d t s x→UsD d A s x:=fun x a c=>by
   obtain⟨n0,n1⟩:=RI J a;exact⟨c.1,FJ hk n0 (by omega) k n B aj c.2 Y⟩
  have H:(ET d (AJ d) A s).2=true:=by
   obtain⟨x,a,c⟩:=w.1 hi;exact ah.2 ⟨x,a,K x a c⟩
  rw[BY hi,BY H];obtain⟨⟨a0,P⟩,Q⟩:=ag hi;obtain⟨⟨R,b1⟩,b2⟩:=ai H;refine(BV hk a0 (by rw[p];exact P) R (by rw[p];exact b1)).2 fun i E=>?_;unfold YU at E ⊢;exact(Q i).2 fun x a c=>(b2 i).1 E x a (K x a c)
theorem b5 (d:List AF):zI (Ar d).1:=by
 by_cases a:Am d=0
 ·rw[RH a];exact A3l a
 ·have:(Ar d).1=([],[]):=by
   unfold Ar A3;rw[BY a,BY a]
  rw[this];exact⟨fun t f c b=>by simp at b;omega,fun t e f c b=>by simp at b;omega⟩
end
theorem LH (d:List AF):(Ar d).1.1.length≤256∧(Ar d).1.2.length≤64:=by
 unfold Ar;split
 ·exact⟨by simp,by simp⟩
 ·rename_i a;have a:(A3 d).2=0:=By a;have b:Am d=0:=by
   unfold A3 at a;split at a
   ·rename_i h;exact absurd a h
   ·rename_i h;exact By h
  obtain⟨f,c,-⟩:=Bv b;obtain⟨-,e,-⟩:=BJ f;refine⟨?_,?_⟩
  ·show (Dv _ _ _).length≤256;rw[I3,HJ];exact e
  ·show (Dn d).1.length≤64;unfold Dn;rw[At (by rw[b];simp)];show ((BC d).map (Nl d)).length≤64;rw[AA3];exact c
theorem Y5 {H:AN} (r:H.1.length≤256) (s:H.2.length≤64) {f:List AK} (h:K5 H f=true):EE f∧mC f∧0<f.length∧A3h H f∧HT f=true∧f.length≤12∧∀x∈f,∀a∈x.2,0≤a.1∧a.1<(H.2.length:Int):=by
 unfold K5 at h;rw[An,AA0]at h;obtain⟨l,c⟩:=h;unfold CO at c;split at c
 ·rename_i h1;exact absurd c h1
 ·rename_i h1;split at c
  ·cases c
  ·rename_i e;split at c
   ·cases c
   ·rename_i i;have h1:(A0 f).2=0:=By h1;have e:f.all (Q6 H)=true:=by simpa using e
    have i:CW f (A0 f).1=0:=by simpa using i
    have k:HT f=true:=by
     unfold HT;simp only[An,AA0];refine⟨⟨l,?_⟩,h1,?_⟩
     ·rw[DO]at e ⊢;intro x d;have:=e x d;unfold Q6 at this;rw[An,GO,DO]at this;unfold ndB;rw[An,GO,DO];refine⟨by omega,fun a ha=>?_⟩;have:=this.2 a ha;unfold i4 at this;rw[GO]at this;unfold ftB;rw[GO];omega
     ·rw[←LG i];exact Ed f
    obtain⟨n,o,p,-⟩:=S3 k;have g:Bz f=0:=by
     unfold A0 at h1;split at h1
     ·rename_i q;exact q
     ·exact h1
    have m:F9 (f.length:Int) f=0:=by
     unfold Bz at g;split at g
     ·cases g
     ·split at g
      ·cases g
      ·exact g
    refine⟨n,o,p,fun x d=>?_,k,(K4 l).1,fun x d a ha=>?_⟩
    ·have b:=DO.1 e x d;unfold Q6 at b;rw[An,GO]at b;exact⟨(HR m x d).1,b.1⟩
    ·have b:=DO.1 e x d;unfold Q6 at b;rw[An,DO]at b;have j:=b.2 a ha;unfold i4 at j;rw[GO]at j;exact⟨((HR m x d).2 a ha).1,j⟩
structure H14 (h:AN):Prop where
 ok:I5 h
 inj:GY h
 ft:Tk h
 nrm:bU h
 ap:zI h
 b1:h.1.length≤256
 b2:h.2.length≤64
theorem Y6 (d:List AF):H14 (Ar d).1:=⟨GC d,QK d,bX d,fun t a=>(TC d).nrm _ (Of.2 ⟨t,a,rfl⟩),b5 d,(LH d).1,(LH d).2⟩
theorem h14 (d:List AF):H14 (CC d):=by
 unfold CC;split
 ·exact Y6 d
 ·exact Y6 I2
structure V14 (h:AN) (f:List AK):Prop where
 inf:m6 h f
 small:Cl f
 len:f.length≤12
theorem A3m {h:AN} (b:H14 h) {f:List AK} (j:K5 h f=true):V14 h f:=by
 obtain⟨c,k,l,e,m,g,i⟩:=Y5 b.b1 b.b2 j;refine⟨⟨b.ok,b.inj,b.ft,f4 b.b2 (by decide),c,fun x d a ha=>⟨i x d a ha,(c.2 x d).2 a ha⟩,e⟩,⟨c.1,fun x d=>(c.2 x d).1⟩,g⟩
theorem zQ {d:List AF} {l:List (List AK)} (h:YR (CC d) l=true):∀x∈l,V14 (CC d) x:=fun x a=>A3m (h14 d) (DO.1 h x a)
theorem nL {f:List AK} {ty:List Int} {x:AK} (b:x∈DP f ty):∃i,i<f.length∧x=(ty.getD i 0,(f.getD i (0,[])).2):=by
 obtain⟨i,hi,rfl⟩:=List.getElem_of_mem b;have a:i<f.length:=by rw[Gg]at hi;exact hi
 refine⟨i,a,?_⟩;rw[←PW f ty a,AS,AT hi];rfl
theorem nM {α:Type} {f:List α} {i:Nat} (h:i<f.length) (d:α):f.getD i d∈f:=by
 rw[AS,AT h];exact AAf _
theorem Y7 {f:List AK} (ty:List Int) (hf:Cl f):Cl (DP f ty):=by
 refine⟨by rw[Gg];exact hf.1,fun x a=>?_⟩;obtain⟨i,hi,rfl⟩:=nL a;exact hf.2 (f.getD i (0,[])) (nM hi _)
theorem A3V (h:AN):(h.1,h.2)=h:=rfl
def tW (h:AN) (ty:List Int) (n:Int) (a:Int×Int):Int×Bool:=CP h (ty.getD n.toNat 0) (I8 h a.1)
def nX (h:AN) (ty:List Int) (n:Int) (a:Int×Int):List Int:=ty.set n.toNat (tW h ty n a).1
def zR (h:AN) (ty:List Int) (n:Int) (a:Int×Int):Int×Bool:=CP h ((nX h ty n a).getD a.2.toNat 0) (Br h (tW h ty n a).1 a.1).1
def z6F (h:AN) (ty:List Int) (n:Int) (a:Int×Int):List Int:=(nX h ty n a).set a.2.toNat (zR h ty n a).1
def uC (h:AN) (ty:List Int) (n:Int) (a:Int×Int):Option (List Int):=if (tW h ty n a).2=false then none else if (zR h ty n a).2=false then none else some (z6F h ty n a)
def HZ (h:AN) (n:Int):List (Int×Int)→List Int→Option (List Int)
 | [],ty=>some ty
 | a :: l,ty=>(uC h ty n a).bind (HZ h n l)
def JD (h:AN):List AK→Nat→List Int→Option (List Int)
 | [],_,ty=>some ty
 | x :: r,i,ty=>(HZ h (i:Int) x.2 ty).bind (JD h r (i+1))
def KI (h:AN) (f:List AK):Nat→List Int→Option (List Int)
 | 0,_=>none
 | k+1,ty=>(JD h f 0 ty).bind fun a=>if a=ty then some a else KI h f k a
def Gb (h:AN) (f:List AK):Option (List Int):=KI h f (HV h f) (A1 f)
theorem TP {α:Type} {p q:α→Bool}:∀ {l:List α},(∀x∈l,q x=true→p x=true)→(l.filter q).length≤(l.filter p).length
 | [],_=>If _
 | y :: l,b=>by
  have d:=TP (l:=l) fun z c=>b z (bY _ c);rw[AAr,AAr];by_cases a:q y=true
  ·rw[BY a,BY (b y (by simp) a)];simp only[Is];omega
  ·rw[At a];split
   ·simp only[Is];omega
   ·exact d
theorem nN {h:AN} (hk:I5 h) {a m:Int} (a0:0≤a) (c:a<(h.1.length:Int)) (d:0≤m) (f:m<(h.1.length:Int)) (hs:BK h a m=true):Yp h m≤Yp h a :=
 TP fun x b e=>by
  have b:=oN.1 b;exact FJ hk a0 c d f (oF _) (by omega) hs e
theorem Y8 {h:AN} (hk:I5 h) (hi:GY h):∀ {u v:List Int},u.length=v.length→(∀t∈u,0≤t∧t<(h.1.length:Int))→(∀t∈v,0≤t∧t<(h.1.length:Int))→(∀i,i<u.length→BK h (u.getD i 0) (v.getD i 0)=true)→Lj h v≤Lj h u∧(v≠u→Lj h v<Lj h u)
 | [],[],_,_,_,_=>⟨If _,fun e=>absurd rfl e⟩
 | [],_ :: _,e,_,_,_=>by cases e
 | _ :: _,[],e,_,_,_=>by cases e
 | a :: u,b :: v,e,l,m,hs=>by
  obtain⟨n,j⟩:=Y8 hk hi (u:=u) (v:=v) (by simpa using e) (fun t d=>l t (by simp[d])) (fun t d=>m t (by simp[d])) fun i p=>hs (i+1) (by simp only[Is];omega);have h0:BK h a b=true:=hs 0 (by simp);obtain⟨a0,f⟩:=l a (by simp);obtain⟨g,b1⟩:=m b (by simp);have h1:=nN hk a0 f g b1 h0;have o:=fun c=>jI hk hi a0 f g b1 h0 c;unfold Lj at n j ⊢;simp only[tO,ACo];refine⟨by omega,fun c=>?_⟩;by_cases k:b=a
  ·subst k;have:=j fun e=>c (by rw[e]);omega
  ·have:=o k;omega
theorem j9 {h:AN} (hk:I5 h) (hi:GY h) {m:Nat} {u v:List Int} (a:Ga h m u) (b:Ga h m v) (hs:E2 h m u v):Lj h v≤Lj h u∧(v≠u→Lj h v<Lj h u) :=
 Y8 hk hi (a.1.trans b.1.symm) a.2 b.2 fun i c=>hs i (by rw[←a.1];exact c)
theorem Ga.set {h:AN} {m:Nat} {u:List Int} (b:Ga h m u) {t:Int} (c:0≤t) (d:t<(h.1.length:Int)) (i:Nat):Ga h m (u.set i t):=⟨by rw[AAw];exact b.1,fun x a=>by
 rcases AAX a with a|rfl
 ·exact b.2 x a
 ·exact⟨c,d⟩⟩
theorem E2.set {h:AN} (hk:I5 h) {m:Nat} {u:List Int} (a:Ga h m u) {t:Int} {i:Nat} (hi:i<m) (hs:BK h (u.getD i 0) t=true):E2 h m u (u.set i t):=fun k b=>by
 rw[Fh _ _ _ (by rw[a.1];exact hi) k];split
 ·rename_i e;rw[e];exact hs
 ·exact RA hk (a.get b).1 (a.get b).2
theorem E2.set2 {h:AN} {m:Nat} {u v:List Int} (c:u.length=m) (b:E2 h m u v) {t:Int} {i:Nat} (hi:i<m) (hs:BK h t (v.getD i 0)=true):E2 h m (u.set i t) v:=fun k a=>by
 rw[Fh _ _ _ (by rw[c];exact hi) k];split
 ·rename_i e;rw[e];exact hs
 ·exact b k a
section
variable {h:AN} (hk:I5 h) (hn:bU h) (hi:GY h) (hf:Tk h) (hap:zI h) {m:Nat}
include hk hn hi hf hap
theorem b6 {n:Int} (n0:0≤n) (n1:n<(m:Int)) {ty i:List Int} (b:Ga h m ty) {a:Int×Int} (ha:Ec h m a) (e:uC h ty n a=some i) :
  Ga h m i∧E2 h m ty i∧(i=ty→(Br h (ty.getD n.toNat 0) a.1).2=true∧BK h (Br h (ty.getD n.toNat 0) a.1).1 (ty.getD a.2.toNat 0)=true):=by
 obtain⟨⟨a0,r⟩,H,b1⟩:=ha;have l:n.toNat<m:=by omega
 have k:a.2.toNat<m:=by omega
 obtain⟨w,x⟩:=b.get l;obtain⟨y,z⟩:=GE hf a0 r;unfold uC at e;split at e
 ·cases e
 ·rename_i h1;have h1:(tW h ty n a).2=true:=by simpa using h1
  split at e
  ·cases e
  ·rename_i j;have j:(zR h ty n a).2=true:=by simpa using j
   injection e with e
   obtain⟨p0,q,A,B⟩:=(Gh hk hn w x y z).1 h1;have c:Ga h m (nX h ty n a):=b.set p0 q _;have s:=(hap.iff _ _ p0 q a0 r).2 B;obtain⟨v0,v1⟩:=EF hf p0 q s;obtain⟨C,D⟩:=c.get k;obtain⟨E,F,G,g⟩:=(Gh hk hn C D v0 v1).1 j;have t:Ga h m (z6F h ty n a):=c.set E F _;have u:E2 h m ty (nX h ty n a):=E2.set hk b l A;have p:E2 h m (nX h ty n a) (z6F h ty n a):=E2.set hk c k G;subst e;refine⟨t,u.trans hk b c t p,fun e=>?_⟩;have v:nX h ty n a=ty:=E2.anti hi c b (by rw[e]at p;exact p) u;have d:(nX h ty n a).getD n.toNat 0=(tW h ty n a).1:=by
    unfold nX;rw[Fh _ _ _ (by rw[b.1];exact l),BY rfl]
   have f:(z6F h ty n a).getD a.2.toNat 0=(zR h ty n a).1:=by
    unfold z6F;rw[Fh _ _ _ (by rw[c.1];exact k),BY rfl]
   rw[v]at d;rw[e]at f;replace d:=d.symm;replace f:=f.symm;have o:=s;change (Br h (tW h ty n a).1 a.1).2=true at o;change BK h (Br h (tW h ty n a).1 a.1).1 (zR h ty n a).1=true at g;rw[d]at o g;rw[f]at g;exact⟨o,g⟩
theorem A0S {n:Int} (n0:0≤n) (n1:n<(m:Int)) {ty u:List Int} (j:Ga h m ty) (c:Ga h m u) (p:E2 h m ty u) {a:Int×Int} (ha:Ec h m a) (C:(Br h (u.getD n.toNat 0) a.1).2=true∧BK h (Br h (u.getD n.toNat 0) a.1).1 (u.getD a.2.toNat 0)=true) :
  ∃x,uC h ty n a=some x∧E2 h m x u:=by
 have _:=hi;obtain⟨⟨a0,d⟩,H,b1⟩:=ha;have e:n.toNat<m:=by omega
 have b:a.2.toNat<m:=by omega
 obtain⟨k,l⟩:=j.get e;obtain⟨g,i⟩:=c.get e;obtain⟨v,w⟩:=GE hf a0 d;obtain⟨q,B⟩:=C;obtain⟨h1,o⟩:=(Gh hk hn k l v w).2 _ g i (p _ e) ((hap.iff _ _ g i a0 d).1 q);obtain⟨p0,f,I,D⟩:=(Gh hk hn k l v w).1 h1;have s:Ga h m (nX h ty n a):=j.set p0 f _;have r:=(hap.iff _ _ p0 f a0 d).2 D;obtain⟨v0,v1⟩:=EF hf p0 f r;obtain⟨w0,G⟩:=EF hf g i q;have t:E2 h m (nX h ty n a) u:=E2.set2 j.1 p e o;obtain⟨E,F⟩:=s.get b;have A:=hap.mono _ _ a.1 p0 f g i a0 d o r;obtain⟨y,z⟩:=(Gh hk hn E F v0 v1).2 _ (c.get b).1 (c.get b).2 (t _ b) (FJ hk v0 v1 w0 G (c.get b).1 (c.get b).2 A B);refine⟨z6F h ty n a,?_,E2.set2 s.1 t b z⟩;unfold uC;rw[At (by show ¬(CP h _ _).2=false;rw[h1];simp),At (by show ¬(CP h _ _).2=false;rw[show (CP h ((nX h ty n a).getD a.2.toNat 0) (Br h (tW h ty n a).1 a.1).1).2=true from y];simp)]
theorem TQ {n:Int} (n0:0≤n) (n1:n<(m:Int)):∀ {l:List (Int×Int)} {ty c:List Int},(∀a∈l,Ec h m a)→Ga h m ty→HZ h n l ty=some c→Ga h m c∧E2 h m ty c∧(c=ty→TJ h ty n l)
 | [],ty,c,_,d,e=>by
  injection e with e
  subst e;exact⟨d,E2.refl hk d,fun _ a ha=>by cases ha⟩
 | a :: l,ty,c,o,d,e=>by
  unfold HZ at e;cases g:uC h ty n a with
  | none=>rw[g]at e;cases e
  | some IU =>
   rw[g]at e;have e:HZ h n l IU=some c:=e;obtain⟨j,p,s⟩:=b6 hk hn hi hf hap n0 n1 d (o a (by simp)) g;obtain⟨q,i,t⟩:=TQ n0 n1 (fun b f=>o b (bY _ f)) j e;refine⟨q,p.trans hk d j q i,fun k=>?_⟩;have r:IU=ty:=E2.anti hi j d (by rw[k]at i;exact i) p;subst r;intro b f;rcases Do.1 f with rfl|f
   ·exact s rfl
   ·exact t k b f
theorem Y9 {n:Int} (n0:0≤n) (n1:n<(m:Int)) {u:List Int} (i:Ga h m u):∀ {l:List (Int×Int)} {ty:List Int},(∀a∈l,Ec h m a)→Ga h m ty→E2 h m ty u→TJ h u n l→∃k,HZ h n l ty=some k∧E2 h m k u
 | [],ty,_,_,e,_=>⟨ty,rfl,e⟩
 | a :: l,ty,d,g,e,j=>by
  obtain⟨IU,f,h1⟩:=A0S hk hn hi hf hap n0 n1 g i e (d a (by simp)) (j a (by simp));obtain⟨q,-,-⟩:=b6 hk hn hi hf hap n0 n1 g (d a (by simp)) f;obtain⟨dD,o,p⟩:=Y9 n0 n1 i (fun b c=>d b (bY _ c)) q h1 fun b c=>j b (bY _ c);exact⟨dD,by unfold HZ;rw[f];exact o,p⟩
theorem TR:∀ {r:List AK} {i:Nat} {ty b:List Int},i+r.length≤m→(∀x∈r,∀a∈x.2,Ec h m a)→Ga h m ty→JD h r i ty=some b→Ga h m b∧E2 h m ty b∧(b=ty→∀j,j<r.length→TJ h ty ((i+j:Nat):Int) (r.getD j (0,[])).2)
 | [],i,ty,b,_,_,c,e=>by
  injection e with e
  subst e;exact⟨c,E2.refl hk c,fun _ j f=>by simp at f⟩
 | x :: r,i,ty,b,q,ha,c,e=>by
  simp only[Is]at q;unfold JD at e;cases d:HZ h (i:Int) x.2 ty with
  | none=>rw[d]at e;cases e
  | some IU =>
   rw[d]at e;have e:JD h r (i+1) IU=some b:=e;obtain⟨k,n,t⟩:=TQ hk hn hi hf hap (oF _) (by omega) (ha x (by simp)) c d;obtain⟨o,g,u⟩:=TR (by omega) (fun y s=>ha y (bY _ s)) k e;refine⟨o,n.trans hk c k o g,fun l=>?_⟩;have p:IU=ty:=E2.anti hi k c (by rw[l]at g;exact g) n;subst p;intro j f;cases j with
   | zero=>exact t rfl
   | succ j =>
    have:=u l j (by simpa using f);rw[show i+1+j=i+(j+1) by omega]at this;exact this
theorem ZA {u:List Int} (e:Ga h m u):∀ {r:List AK} {i:Nat} {ty:List Int},i+r.length≤m→(∀x∈r,∀a∈x.2,Ec h m a)→Ga h m ty→E2 h m ty u→(∀j,j<r.length→TJ h u ((i+j:Nat):Int) (r.getD j (0,[])).2)→∃g,JD h r i ty=some g∧E2 h m g u
 | [],i,ty,_,_,_,b,_=>⟨ty,rfl,b⟩
 | x :: r,i,ty,o,ha,d,b,f=>by
  simp only[Is]at o;obtain⟨IU,c,h1⟩:=Y9 hk hn hi hf hap (oF i) (by omega) e (ha x (by simp)) d b (f 0 (by simp));obtain⟨q,-,-⟩:=TQ hk hn hi hf hap (oF i) (by omega) (ha x (by simp)) d c;obtain⟨dD,k,l⟩:=ZA e (r:=r) (i:=i+1) (by omega) (fun y p=>ha y (bY _ p)) q h1 fun j n=>by
   have:=f (j+1) (by simpa using n);rw[show i+(j+1)=i+1+j by omega]at this;exact this
  exact⟨dD,by unfold JD;rw[c];exact k,l⟩
end
section
variable {h:AN} (hk:I5 h) (hn:bU h) (hi:GY h) (hf:Tk h) (hap:zI h) {f:List AK} (ha:LD h f)
include hk hn hi hf hap ha
theorem Pd:∀ {k:Nat} {ty v:List Int},Ga h f.length ty→KI h f k ty=some v→WTy h f v∧E2 h f.length ty v∧Ga h f.length v
 | 0,_,_,_,e=>by cases e
 | k+1,ty,v,c,e=>by
  unfold KI at e;cases a:JD h f 0 ty with
  | none=>rw[a]at e;cases e
  | some IU =>
   rw[a]at e;have e:(if IU=ty then some IU else KI h f k IU)=some v:=e;obtain⟨b,d,p⟩:=TR hk hn hi hf hap (by omega) ha c a;split at e
   ·rename_i j;have m:IU=v:=ACw e;subst j;subst m;refine⟨fun i l=>?_,d,b⟩;have:=p rfl i l
    rwa [AAC]at this
   ·obtain⟨n,o,g⟩:=Pd b e;exact⟨n,d.trans hk c b g o,g⟩
theorem ZB {u:List Int} (d:Ga h f.length u) (e:WTy h f u):∀ {k:Nat} {ty:List Int},Ga h f.length ty→Lj h ty<k→E2 h f.length ty u→∃v,KI h f k ty=some v∧E2 h f.length v u
 | 0,ty,_,hp,_=>by omega
 | k+1,ty,b,hp,m=>by
  obtain⟨IU,c,h1⟩:=ZA hk hn hi hf hap d (r:=f) (i:=0) (by omega) ha b m fun j l=>by rw[AAC];exact e j l
  obtain⟨g,n,-⟩:=TR hk hn hi hf hap (by omega) ha b c;unfold KI;rw[c];show ∃v,(if IU=ty then some IU else KI h f k IU)=some v∧_;by_cases a:IU=ty
  ·rw[BY a];exact⟨IU,rfl,h1⟩
  ·rw[At a];have:=(j9 hk hi b g n).2 a;exact ZB d e g (by omega) h1
theorem zS (c:∀x∈f,0≤x.1∧x.1<(h.1.length:Int)):Gb h f=LF h f:=by
 have h0:Ga h f.length (A1 f):=(VG c).tyl;have hp:Lj h (A1 f)<HV h f:=by have:=We h f;omega
 cases e:LF h f with
 | some ty =>
  obtain⟨w,l,t⟩:=bZ hk hi hf hap ha c e;obtain⟨v,b,k⟩:=ZB hk hn hi hf hap ha t w h0 hp l;obtain⟨i,g,d⟩:=Pd hk hn hi hf hap ha h0 b;obtain⟨dD,a,j⟩:=QR hk hi hf hap ha c d i g;rw[e]at a;injection a with a
  subst a;unfold Gb;rw[b,E2.anti hi d t k j]
 | none =>
  cases b:Gb h f with
  | none=>rfl
  | some v =>
   obtain⟨i,g,d⟩:=Pd hk hn hi hf hap ha h0 b;obtain⟨dD,a,-⟩:=QR hk hi hf hap ha c d i g;rw[e]at a;cases a
end
section
attribute [local go_sem] TD L6
def b7:Ad:={ ins:=[IJ,IJ],pre:=fun(a,b,_)=>List.length a=List.length b,out:=fun(a,b,_)=>[.p .bool (decide (a=b))],lend:=true }
theorem nP (h:AN) (hk:I5 h) (hn:bU h) (hf:Tk h) (hap:zI h) {m:Nat} {ty:List Int} (f:Ga h m ty) {n:Int} (n0:0≤n) (n1:n<(m:Int)) {a:Int×Int} (ha:Ec h m a) :
  BE Tryz.prog 45 [.p Ls h,.sr 1000000 T3 0 ty.length,.p T3 n,.p BD a] [(1000000,.arr 3 T3 ty)] [1000000]
  (fun res t=>(uC h ty n a=none∧res=.p .bool false∧∃c,t=[(1000000,.arr 3 T3 c)])∨∃c,uC h ty n a=some c∧res=.p .bool true∧t=[(1000000,.arr 3 T3 c)]):=by
 have o:∀x∈h.1,x.2.1.length≤100000:=fun x w=>f4 (hk.1.wid x.2.1 (Of.2 ⟨x,w,rfl⟩)) (by omega);obtain⟨⟨a0,d⟩,j,b1⟩:=ha;obtain⟨k,l⟩:=f.get (show n.toNat<m by omega);obtain⟨r,s⟩:=GE hf a0 d;have u:ty.length=m:=f.1;subst u;have q:uC h ty n a=if (tW h ty n a).2=false then none else if (zR h ty n a).2=false then none else some (z6F h ty n a):=rfl
 have g:=Gh hk hn k l r s;refine KK [0,1,2,3,4,7,8,9,10,11,13,14,32] [] [] Tryz.func45 Tryz.ntmps45 (AD tJ (AD sX AG)) ?_;intro w0 K O0 ρ0 e C D;simp only[Ak];repeat'(first|exact trivial|refine eS rfl ?_|refine AB ?_|refine rX e ?_ ?_|refine rC ?_ ?_<;>intro b<;>try(cases b;done))
 ·exact⟨⟨n0,n1⟩,⟨a0,d⟩,⟨k,l⟩,⟨r,s⟩,o⟩
 ·refine Ev.ent (σ':=⟨[(8,.p .bool false)],[(1000000,.arr 3 T3 ty)]⟩) ?_ (AC [(1000000,.nm 1000000)] rfl rfl ?_ ?_);exact fM e [.tmp 8] (.p .bool false) eT (.inl ⟨by rw[q];exact BY b,rfl,ty,rfl⟩);all_goals first|exact eN|refine eM ?_
 ·exact⟨n0,n1⟩
 ·exact⟨(g.1 b).1,(g.1 b).2.1⟩
 ·obtain⟨p0,i,F,z⟩:=g.1 b;have y:Ga h ty.length (nX h ty n a):=f.set p0 i _;have v:=(hap.iff _ _ p0 i a0 d).2 z;obtain⟨v0,v1⟩:=EF hf p0 i v;obtain⟨A,B⟩:=y.get (show a.2.toNat<ty.length by omega);exact⟨⟨j,b1⟩,⟨A,B⟩,⟨v0,v1⟩,o⟩
 ·exact⟨j,b1⟩
 ·refine Ev.ent (σ':=⟨[(8,.p .bool (zR h ty n a).2)],[(1000000,.arr 3 T3 (z6F h ty n a))]⟩) ?_ (AC [(1000000,.nm 1000000)] rfl rfl ?_ ?_);refine fM e [.tmp 8] (.p .bool (zR h ty n a).2) eT ?_
  ·rw[q,At (show ¬(tW h ty n a).2=false by rw[show (tW h ty n a).2=true from b];simp)];cases E:(zR h ty n a).2
   ·exact .inl ⟨by simp,rfl,_,rfl⟩
   ·exact .inr ⟨_,by simp,rfl,rfl⟩
  all_goals first|exact eN|refine eM ?_
  ·rfl
  ·rfl
theorem tX:Aj Tryz.prog 46 b7:=by
 refine fK [0,1,4,5,9,20] Tryz.func46 Tryz.ntmps46 AG ?_;rintro w0 O0 ⟨a,b,u⟩ f ⟨⟨j,-⟩,-⟩ g;simp only[AO]at j;have g:List.length a=List.length b:=g;simp only[b7,AL];repeat'(first|exact trivial|refine eS rfl ?_|refine AB ?_|refine rX f ?_ ?_|refine rC ?_ ?_<;>intro c<;>try(cases c;done))
 refine AH (ι:={k:Nat//k≤List.length a∧(a:List Int).take k=(b:List Int).take k}) (fun k=>⟨[(0,.p IJ a),(1,.p IJ b),(5,.p (.int .i64) (k.1:Int))],[]⟩) (fun k=>List.length a-k.1) ⟨0,IS _,rfl⟩ (AC [] rfl rfl ?_ ?_) (fun k=>?_)
 ·first|exact eN|refine eM ?_
 ·first|exact eN|refine eM ?_
 ·obtain⟨k,hk,h⟩:=k;repeat'(first|exact trivial|refine eS rfl ?_|refine AB ?_|refine rX f ?_ ?_|refine rC ?_ ?_<;>intro c<;>try(cases c;done))
  ·exact⟨by assumption,by rw[←g];assumption⟩
  ·have d:k<List.length a:=by exact eV
   have l:(a:List Int)≠b:=fun e=>c (by rw[e]);exact fI f [.tmp 4] (by rw[ABy l];exact eR)
  ·exact eV
  ·have d:k<List.length a:=by exact eV
   refine⟨⟨k+1,d,?_⟩,by simp only;omega,AC [] rfl rfl ?_ ?_⟩
   ·have e:List.getD a k 0=List.getD b k 0:=by simpa using c
    rw[Ae (a:List Int) 0 d,Ae (b:List Int) 0 (by omega),h,e]
   ·first|exact eN|refine eM ?_
   ·first|exact eN|refine eM ?_
  ·have d:k=List.length a:=by exact eV
   have i:(a:List Int)=b:=by
    rw[d,gO,g,gO]at h;exact h
   exact fI f [.tmp 4] (by rw[ABj i];exact eR)
end
section
attribute [local go_sem] b7
theorem nQ (h:AN) (hk:I5 h) (hn:bU h) (hf:Tk h) (hap:zI h) (hi:GY h) (f:List AK) (ha:LD h f) (W:∀x∈f,0≤x.1∧x.1<(h.1.length:Int)) (ab:f.length≤100000) (V:∀x∈f,x.2.length≤100000) :
  BE Tryz.prog 19 [.p Ls h,.p Fs f] [] []
  (fun res F=>(Gb h f=none∧res=.tup [.p Fs [],.p .bool false]∧F=[(4,.box 25 true [.p Fq []])])∨∃ty,Gb h f=some ty∧res=.tup [.ag [.sr 89 Lr 0 f.length],.p .bool true]∧F=[(89,.arr 49 Lr (DP f ty)),(4,.box 25 true [.sr 89 Lr 0 f.length])]):=by
 have h0:Ga h f.length (A1 f):=(VG W).tyl;have S:Lj h (A1 f)<HV h f:=by have:=We h f;omega
 refine KK [0,1,2,3,4,5,6,7,8,9,10,11,12,13,14,19,31,39,51,62,72] [] [] Tryz.func19 Tryz.ntmps19 (AD tX AG) ?_;intro w0 K O0 ρ0 c af ah;simp only[Ak];repeat'(first|exact trivial|refine eS rfl ?_|refine AB ?_|refine rX c ?_ ?_|refine rC ?_ ?_<;>intro a<;>try(cases a;done))
 refine AH (ι:={i:Nat//i≤f.length}) (fun i=>⟨[(2,.bp 2 [] 0),(3,.bp 3 [] 0),(4,.bp 4 [] 0),(6,.sr 30 T3 0 i.1),(7,.p (.int .i64) (i.1:Int))],[(2,.box 31 true [.p Qy h.1,.p TV h.2]),(3,.box 25 true [.p Fq f]),(4,.box 25 true [.raw (.slice none 0 0)]),(30,.arr 3 T3 ((A1 f).take i.1))]⟩) (fun i=>f.length-i.1) ⟨0,IS _⟩ (AC [(2,.nm 2),(3,.nm 3),(4,.nm 4),(30,.nil)] rfl rfl ?_ ?_) (fun i=>?_)
 ·first|exact eN|refine eM ?_
 ·first|exact eN|refine eM ?_
 ·obtain⟨i,aa⟩:=i;repeat'(first|exact trivial|refine eS rfl ?_|refine AB ?_|refine rX c ?_ ?_|refine rC ?_ ?_<;>intro a<;>try(cases a;done))
  ·exact⟨a,by simp only[AO];omega⟩
  ·exact eV
  ·have s:i<f.length:=OM.1 a;have tl:((A1 f).take i).length=i:=by rw[OR];simp[A1];omega
   have ts:(A1 f).take i++[(f.getD i (0,[])).1]=(A1 f).take (i+1):=by
    rw[Ae (A1 f) 0 (by simpa[A1] using s)];simp[A1,AS,s]
   refine⟨⟨i+1,s⟩,by simp only;omega,AC [(2,.nm 2),(3,.nm 3),(4,.nm 4),(30,.nm 30)] rfl rfl ?_ ?_⟩
   ·simp only[←ts];first|exact eN|refine eM ?_
    simp only[ABv,ACx]
   ·first|exact eN|refine eM ?_
  ·have s:i=f.length:=by
    have:=iF.1 a;omega
   subst s;rw[show (A1 f).take f.length=A1 f from As (by simp[A1])];refine AH (ι:={x:Bool×Nat×List Int//Ga h f.length x.2.2∧x.2.1≤HV h f∧((x.1=true∧KI h f x.2.1 x.2.2=Gb h f∧Lj h x.2.2<x.2.1)∨(x.1=false∧Gb h f=some x.2.2))}) (fun x=>⟨[(2,.bp 2 [] 0),(3,.bp 3 [] 0),(4,.bp 4 [] 0),(6,.sr 30 T3 0 f.length),(8,.p .bool x.1.1)],[(2,.box 31 true [.p Qy h.1,.p TV h.2]),(3,.box 25 true [.p Fq f]),(4,.box 25 true [.raw (.slice none 0 0)]),(30,.arr 3 T3 x.1.2.2)]⟩) (fun x=>(if x.1.1 then x.1.2.1+1 else 0)) ⟨(true,HV h f,A1 f),h0,If _,.inl ⟨rfl,rfl,S⟩⟩ (AC [(2,.nm 2),(3,.nm 3),(4,.nm 4),(30,.nm 30)] rfl rfl ?_ ?_) (fun x=>?_)
   ·first|exact eN|refine eM ?_
   ·first|exact eN|refine eM ?_
   ·obtain⟨⟨b,k,ty⟩,e,Q,E⟩:=x;simp only at e Q E ⊢;repeat'(first|exact trivial|refine eS rfl ?_|refine AB ?_|refine rX c ?_ ?_|refine rC ?_ ?_<;>intro a<;>try(cases a;done))
    ·have:=e.1;rw[OR];simp only[AO];omega
    ·obtain⟨G,m,ai⟩|⟨h1,-⟩:=E
     ·have A:ty.take f.length=ty:=As (ABH e.1);rw[A];obtain⟨k,rfl⟩:∃X,k=X+1:=⟨k-1,by omega⟩;refine AH (ι:={y:Nat×List Int//y.1≤f.length∧Ga h f.length y.2∧E2 h f.length ty y.2∧JD h (f.drop y.1) y.1 y.2=JD h f 0 ty}) (fun y=>⟨[(2,.bp 2 [] 0),(3,.bp 3 [] 0),(4,.bp 4 [] 0),(6,.sr 30 T3 0 f.length),(9,.sr 32 T3 0 f.length),(10,.p (.int .i64) (y.1.1:Int))],[(2,.box 31 true [.p Qy h.1,.p TV h.2]),(3,.box 25 true [.p Fq f]),(4,.box 25 true [.raw (.slice none 0 0)]),(30,.arr 3 T3 y.1.2),(32,.arr 3 T3 ty)]⟩) (fun y=>f.length-y.1.1) ⟨(0,ty),IS _,e,E2.refl hk e,rfl⟩ (AC [(2,.nm 2),(3,.nm 3),(4,.nm 4),(30,.nm 30),(32,.nm 32)] rfl rfl ?_ ?_) (fun y=>?_)
      ·simp only[A,e.1];first|exact eN|refine eM ?_
      ·first|exact eN|refine eM ?_
       exact e.1
      ·obtain⟨⟨j,IU⟩,H,o,C,g⟩:=y;simp only at H o C g ⊢;repeat'(first|exact trivial|refine eS rfl ?_|refine AB ?_|refine rX c ?_ ?_|refine rC ?_ ?_<;>intro a<;>try(cases a;done))
       ·exact a
       ·have v:j<f.length:=OM.1 a;have I:f.getD j (0,[])∈f:=by
         rw[AS,AT v];exact AAf _
        have N:=ha _ I;have ad:=V _ I;have P:f.drop j=f.getD j (0,[]) :: f.drop (j+1):=by
         rw[OS v,AS,AT v];rfl
        rw[P]at g;have g:(HZ h (j:Int) (f.getD j (0,[])).2 IU).bind (JD h (f.drop (j+1)) (j+1))=JD h f 0 ty:=g;generalize (f.getD j (0,[])).2=l at *;refine AH (ι:={z:Nat×List Int//z.1≤l.length∧Ga h f.length z.2∧E2 h f.length ty z.2∧HZ h (j:Int) (l.drop z.1) z.2=HZ h (j:Int) l IU}) (fun z=>⟨[(2,.bp 2 [] 0),(3,.bp 3 [] 0),(4,.bp 4 [] 0),(6,.sr 30 T3 0 f.length),(9,.sr 32 T3 0 f.length),(10,.p (.int .i64) (j:Int)),(11,.p IT l),(12,.p (.int .i64) (z.1.1:Int))],[(2,.box 31 true [.p Qy h.1,.p TV h.2]),(3,.box 25 true [.p Fq f]),(4,.box 25 true [.raw (.slice none 0 0)]),(30,.arr 3 T3 z.1.2),(32,.arr 3 T3 ty)]⟩) (fun z=>l.length-z.1.1) ⟨(0,IU),IS _,o,C,rfl⟩ (AC [(2,.nm 2),(3,.nm 3),(4,.nm 4),(30,.nm 30),(32,.nm 32)] rfl rfl ?_ ?_) (fun z=>?_)
        ·first|exact eN|refine eM ?_
        ·first|exact eN|refine eM ?_
        ·obtain⟨⟨q,dD⟩,T,r,D,d⟩:=z;simp only at T r D d ⊢;repeat'(first|exact trivial|refine eS rfl ?_|refine AB ?_|refine rX c ?_ ?_|refine rC ?_ ?_<;>intro a<;>try(cases a;done))
         ·have w:q<l.length:=OM.1 a;have J:Ec h f.length (l.getD q (0,0)):=N _ (by
           rw[AS,AT w];exact AAf _)
          have O:l.drop q=l.getD q (0,0) :: l.drop (q+1):=by
           rw[OS w,AS,AT w];rfl
          rw[O]at d;have d:(uC h dD (j:Int) (l.getD q (0,0))).bind (HZ h (j:Int) (l.drop (q+1)))=HZ h (j:Int) l IU:=d;refine cD 7 c ?_ ?_
          ·exact a
          ·refine rM c (nP h hk hn hf hap r (oF j) (by omega) J) [(1000000,.nm 30)] [] ?_ ?_ ?_
           ·first|exact eN|refine eM ?_
            exact r.1.symm
           ·first|exact eN|refine eM ?_
           ·rintro res F (⟨t,rfl,B,rfl⟩|⟨B,t,rfl,rfl⟩)
            ·refine⟨[(30,.nm 1000000)],.p .bool false,[(30,.arr 3 T3 B)],rfl,rfl,?_,?_,rfl,rfl,?_⟩
             ·first|exact eN|refine eM ?_
             ·first|exact eN|refine eM ?_
             ·refine rL c ?_ ?_
              ·trivial
              ·repeat'(first|exact trivial|refine eS rfl ?_|refine AB ?_|refine rX c ?_ ?_|refine rC ?_ ?_<;>intro a<;>try(cases a;done))
               have d:none=HZ h (j:Int) l IU:=by rw[←d,t];rfl
               have R:Gb h f=none:=by
                rw[←m];unfold KI;rw[←g,←d];rfl
               refine Ev.ent (σ':=⟨[(4,.bp 4 [] 0),(5,.p .bool false)],[(4,.box 25 true [.p Fq []])]⟩) ?_ (AC [(4,.nm 4)] rfl rfl ?_ ?_)
               ·exact fM c [.cell 4 25,.tmp 5] (.tup [.p Fs [],.p .bool false]) eT (.inl ⟨R,rfl,rfl⟩)
               ·first|exact eN|refine eM ?_
               ·first|exact eN|refine eM ?_
            ·obtain⟨M,Y,-⟩:=b6 hk hn hi hf hap (oF j) (by omega) r J t;rw[t]at d;refine⟨[(30,.nm 1000000)],.p .bool true,[(30,.arr 3 T3 B)],rfl,rfl,?_,?_,rfl,rfl,?_⟩
             ·first|exact eN|refine eM ?_
             ·first|exact eN|refine eM ?_
             ·refine rL c ?_ ?_
              ·trivial
              ·repeat'(first|exact trivial|refine eS rfl ?_|refine AB ?_|refine rX c ?_ ?_|refine rC ?_ ?_<;>intro a<;>try(cases a;done))
               ·exact eV
               ·refine⟨⟨(q+1,B),w,M,D.trans hk e r M Y,d⟩,by simp only;omega,AC [(2,.nm 2),(3,.nm 3),(4,.nm 4),(30,.nm 30),(32,.nm 32)] rfl rfl ?_ ?_⟩
                ·first|exact eN|refine eM ?_
                ·first|exact eN|refine eM ?_
         ·exact eV
         ·have U:q=l.length:=by
           have:=iF.1 a;omega
          subst U;rw[ABE]at d;have d:some dD=HZ h (j:Int) l IU:=d;rw[←d]at g;refine⟨⟨(j+1,dD),v,r,D,g⟩,by simp only;omega,AC [(2,.nm 2),(3,.nm 3),(4,.nm 4),(30,.nm 30),(32,.nm 32)] rfl rfl ?_ ?_⟩
          ·first|exact eN|refine eM ?_
          ·first|exact eN|refine eM ?_
       ·rw[A,As (ABH o.1),e.1,o.1]
       ·have n:j=f.length:=by
         have:=iF.1 a;omega
        subst n;rw[ABE]at g;have g:some IU=JD h f 0 ty:=g;have Z:IU.take f.length=IU:=As (ABH o.1);have m:(if IU=ty then some IU else KI h f k IU)=Gb h f:=by
         rw[←m]
         conv=>rhs;unfold KI
         rw[←g];rfl
        by_cases u:ty=IU
        ·subst u;rw[BY rfl]at m;refine⟨⟨(false,k,ty),e,by show k≤_;omega,.inr ⟨rfl,m.symm⟩⟩,by simp[G],AC [(2,.nm 2),(3,.nm 3),(4,.nm 4),(30,.nm 30)] rfl rfl ?_ ?_⟩
         ·first|exact eN|refine eM ?_
         ·first|exact eN|refine eM ?_
        ·rw[At (ACE u)]at m;have ae:=(j9 hk hi e o C).2 (ACE u);refine⟨⟨(true,k,IU),o,by show k≤_;omega,.inl ⟨rfl,m,by show Lj h IU<k;omega⟩⟩,by simp[G],AC [(2,.nm 2),(3,.nm 3),(4,.nm 4),(30,.nm 30)] rfl rfl ?_ ?_⟩
         ·first|exact eN|refine eM ?_
         ·first|exact eN|refine eM ?_
          rw[A,Z];simp[u]
     ·simp[a]at h1
    ·obtain⟨h1,-,-⟩|⟨-,m⟩:=E
     ·simp[a]at h1
     ·have L:(DP f ty).length=f.length:=Gg f ty;refine AH (ι:={j:Nat//j≤f.length}) (fun j=>⟨[(3,.bp 3 [] 0),(4,.bp 4 [] 0),(6,.sr 30 T3 0 f.length),(13,.bp 13 [] 0),(14,.p (.int .i64) (j.1:Int))],[(3,.box 25 true [.p Fq f]),(4,.box 25 true [.raw (.slice none 0 0)]),(13,.box 25 true [.sr 89 Lr 0 j.1]),(30,.arr 3 T3 ty),(89,.arr 49 Lr ((DP f ty).take j.1))]⟩) (fun j=>f.length-j.1) ⟨0,IS _⟩ (AC [(3,.nm 3),(4,.nm 4),(13,.nm 13),(30,.nm 30),(89,.nil)] rfl rfl ?_ ?_) (fun j=>?_)
      ·first|exact eN|refine eM ?_
      ·first|exact eN|refine eM ?_
      ·obtain⟨j,H⟩:=j;have tl:((DP f ty).take j).length=j:=by rw[OR];omega
       repeat'(first|exact trivial|refine eS rfl ?_|refine AB ?_|refine rX c ?_ ?_|refine rC ?_ ?_<;>intro a<;>try(cases a;done))
       ·exact⟨a,a,by simp only[AO];omega⟩
       ·exact eV
       ·have n:j<f.length:=OM.1 a;have ts:(DP f ty).take j++[(ty.getD j 0,(f.getD j (0,[])).2)]=(DP f ty).take (j+1):=by
         rw[Ae (DP f ty) (0,[]) (by rw[L];exact n),PW f ty n]
        refine⟨⟨j+1,n⟩,by simp only;omega,AC [(3,.nm 3),(4,.nm 4),(13,.nm 13),(30,.nm 30),(89,.nm 89)] rfl rfl ?_ ?_⟩
        ·simp only[←ts];first|exact eN|refine eM ?_
         simp only[ABv,ACx]
        ·first|exact eN|refine eM ?_
       ·have n:j=f.length:=by
         have:=iF.1 a;omega
        subst n;rw[show (DP f ty).take f.length=DP f ty from As (ABH L)];refine Ev.ent (σ':=⟨[(4,.bp 4 [] 0),(5,.p .bool true)],[(89,.arr 49 Lr (DP f ty)),(4,.box 25 true [.sr 89 Lr 0 f.length])]⟩) ?_ (AC [(89,.nm 89),(4,.nm 4)] rfl rfl ?_ ?_)
        ·exact fM c [.cell 4 25,.tmp 5] (.tup [.ag [.sr 89 Lr 0 f.length],.p .bool true]) eT (.inr ⟨ty,m,rfl,rfl⟩)
        ·first|exact eN|refine eM ?_
        ·first|exact eN|refine eM ?_
end
def JE:AN:=([(ByteArray.mk #[116,111,112],[8191],[],[]),(ByteArray.mk #[105,110,100,101,120],[60],[0],[]),(ByteArray.mk #[108,105,115,116],[193],[0],[]),(ByteArray.mk #[99,111,110,115],[1],[2],[(2,0),(10,2)]),(ByteArray.mk #[100,108,105,115,116],[2],[0],[(6,2),(7,2)]),(ByteArray.mk #[101,110,116,105,116,121],[4],[1],[]),(ByteArray.mk #[101,118,101,110,116],[8],[1],[]),(ByteArray.mk #[104,97,110,100,108,101],[16],[1],[]),(ByteArray.mk #[110,117,108,108],[128],[2],[]),(ByteArray.mk #[113,101,113],[256],[0],[(3,7),(8,7)]),(ByteArray.mk #[114,101,108],[512],[0],[(5,7)]),(ByteArray.mk #[115,101,109],[1024],[0],[(1,4),(4,1),(9,4),(12,7)]),(ByteArray.mk #[115,105,103,110],[2048],[0],[(0,2),(11,11)])],[(ByteArray.mk #[65,82,71,83],12),(ByteArray.mk #[67,79,78,83],11),(ByteArray.mk #[70,73,82,83,84],3),(ByteArray.mk #[72,73,71,72],9),(ByteArray.mk #[73,78,68,69,88],11),(ByteArray.mk #[76,65,66,69,76],10),(ByteArray.mk #[76,65,83,84],4),(ByteArray.mk #[76,73,83,84],4),(ByteArray.mk #[76,79,87],9),(ByteArray.mk #[82,69,76,83],11),(ByteArray.mk #[82,69,83,84],3),(ByteArray.mk #[83,69,77],12),(ByteArray.mk #[84,79,80],11)])
instance baDec:DecidableEq ByteArray:=fun a b =>
 if h:a.data.toList=b.data.toList then isTrue (by
  cases a;cases b;exact AB5 ByteArray.mk (Array.toList_inj.1 h))
 else isFalse fun e=>h (by rw[e])
theorem tY:((CC []).1:List (ByteArray×List Int×List Int×List (Int×Int)))=JE.1:=by decide +kernel
theorem tZ:((CC []).2:List (ByteArray×Int))=JE.2:=by decide +kernel
theorem Wn:CC []=JE:=Prod.ext tY tZ
theorem Jy:I5 JE:=by rw[←Wn];exact(show I5 (if _ then _ else _) by split<;>exact GC _)
theorem Ha:GY JE:=by rw[←Wn];exact(show GY (if _ then _ else _) by split<;>exact QK _)
def A3n (h:AN):Bool:=(h.2.all fun x=>decide (0≤x.2)&&decide (x.2<(h.1.length:Int)))&&h.1.all fun t=>t.2.2.2.all fun p=>decide (0≤p.2)&&decide (p.2<(h.1.length:Int))
theorem A0T {h:AN} (e:A3n h=true):Tk h:=by
 unfold A3n at e;rw[An,DO,DO]at e;refine⟨fun x b=>?_,fun t a p hp=>?_⟩
 ·have:=e.1 x b;simpa using this
 ·have:=DO.1 (e.2 t a) p hp;simpa using this
theorem H5:Tk JE:=A0T (by decide +kernel)
def A04 (h:AN) (f:List AK):Bool:=decide (f.length≤100)&&f.all fun x=>decide (x.2.length≤100)&&(decide (0≤x.1)&&decide (x.1<(h.1.length:Int)))&&x.2.all fun a=>(decide (0≤a.1)&&decide (a.1<(h.2.length:Int)))&&(decide (0≤a.2)&&decide (a.2<(f.length:Int)))
theorem Mi {h:AN} (hk:I5 h) (hi:GY h) (hf:Tk h) (d:h.2.length≤100000) {f:List AK} (e:A04 h f=true):m6 h f∧Cl f∧N0 f∧∀x∈f,x.2.length≤100:=by
 unfold A04 at e;rw[An,GO,DO]at e;have c:∀x∈f,x.2.length≤100∧(0≤x.1∧x.1<(h.1.length:Int))∧∀a∈x.2,Ec h f.length a:=fun x b=>by
  have:=e.2 x b;rw[An,An,An,GO,GO,GO,DO]at this;refine⟨this.1.1,this.1.2,fun a ha=>?_⟩;have:=this.2 a ha;rw[An,An,An,GO,GO,GO,GO]at this;exact⟨this.1,this.2⟩
 refine⟨⟨hk,hi,hf,d,⟨by omega,fun x b=>⟨by have:=(c x b).1;omega,fun a ha=>((c x b).2.2 a ha).2⟩⟩,fun x b=>(c x b).2.2,fun x b=>(c x b).2.1⟩,⟨by omega,fun x b=>by have:=(c x b).1;omega⟩,fun x b=>by have:=(c x b).1;omega,fun x b=>(c x b).1⟩
def A3W (v:JB):Bool:=v.all fun r=>r.all fun a=>decide (0≤a.2)&&decide (a.2<(v.length:Int))
theorem A0U {v:JB} (e:A3W v=true):VOk v:=fun r b a ha=>by
 have:=DO.1 (DO.1 e r b) a ha;simpa using this
theorem ZC:VOk (HX JE):=A0U (by decide +kernel)
theorem kA:∀t∈JE.1,t.2.2.2.length≤100:=by
 have:(JE.1.all fun t=>decide (t.2.2.2.length≤100))=true:=by decide +kernel
 exact fun t a=>by simpa using DO.1 this t a
def ZD:List AK:=[(12,[(0,1),(11,2)]),(2,[]),(11,[(1,3),(4,6),(9,7),(12,10)]),(4,[(6,4),(7,5)]),(2,[]),(2,[]),(1,[]),(4,[(6,8),(7,9)]),(2,[]),(2,[]),(7,[])]
theorem A3o:Bx JE [(0,[(10,1)]),(0,[(2,2)]),(0,[])]=([(3,[(10,1)]),(3,[(2,2)]),(0,[])],true):=by decide +kernel
theorem A3p:Bx JE [(8,[(2,1)]),(0,[])]=([],false):=by decide +kernel
theorem A3q:HY JE [(9,[])]=([(9,[(3,1),(8,2)]),(7,[]),(7,[])],0):=by decide +kernel
theorem A3r:HY JE [(12,[])]=(ZD,0):=by decide +kernel
theorem A3s:GZ JE [(3,[(10,1)]),(0,[])]=11:=by decide +kernel
theorem A3t:GZ JE [(2,[(10,1)]),(2,[])]=10:=by decide +kernel
theorem A3u:GZ JE [(3,[(10,1)]),(3,[(2,2)]),(0,[])]=0:=by decide +kernel
section
attribute [local go_sem] OE RF jO S4 Wh RD i3 Mf
def kB:Ad:={ ins:=[],pre:=fun _=>True,out:=fun _=>[.p .bool true] }
attribute [local go_sem] kB
theorem zT:Aj Tryz.prog 13 kB:=by
 refine fKP [0,1,2,3,5,6,7,8,9,10,11,82,89,91,92,93,105] [15,17,20,27,30,62,64,67,74,78,83,108,111,117,120] [] Tryz.func13 Tryz.ntmps13 (AD VL (AD nE (AD zF (AD S5 (AD yM (AD tC (AD SY (AD mZ AG)))))))) ?_;rintro w0 O0 u a - -;simp only[kB,AL];have B:=Wn;have d:JE.2.length≤100000:=by decide
 have y:=Mi Jy Ha H5 d (f:=[(0,[(10,1)]),(0,[(2,2)]),(0,[])]) (by decide +kernel);have z:=Mi Jy Ha H5 d (f:=[(8,[(2,1)]),(0,[])]) (by decide +kernel);have o:=Mi Jy Ha H5 d (f:=[(9,[])]) (by decide +kernel);have q:=Mi Jy Ha H5 d (f:=[(12,[])]) (by decide +kernel);have r:=Mi Jy Ha H5 d (f:=[(3,[(10,1)]),(0,[])]) (by decide +kernel);have s:=Mi Jy Ha H5 d (f:=[(2,[(10,1)]),(2,[])]) (by decide +kernel);have t:=Mi Jy Ha H5 d (f:=[(3,[(10,1)]),(3,[(2,2)]),(0,[])]) (by decide +kernel);have K:tA JE [(9,[])]:=⟨o.1,kA,ZC,o.2.2.2⟩;have L:tA JE [(12,[])]:=⟨q.1,kA,ZC,q.2.2.2⟩;have m:=H5;have D:=A3o;have E:=A3p;have F:=A3q;have G:=A3r;have H:=A3s;have I:=A3t;have J:=A3u;have s1:Cl ZD:=⟨by decide,by decide⟩;have C:∀i,i<11→(ZD.getD i (0,[])).1=[12,2,11,4,2,2,1,4,2,2,(7:Int)].getD i 0:=by decide
 have v:ZD.length=11:=rfl;have e:Fi [] (0 / 2)=[]:=rfl;have g:Fi [10,1] (2 / 2)=[(10,1)]:=rfl;have j:Fi [2,2] (2 / 2)=[(2,2)]:=rfl;have n:Fi [2,1] (2 / 2)=[(2,1)]:=rfl;have l:Fi [3,1,8,2] (4 / 2)=[(3,1),(8,2)]:=rfl;have w:Cl [(3,[(10,1)]),(3,[(2,2)]),(0,[])]:=⟨by decide,by decide⟩;have x:Cl [(9,[(3,1),(8,2)]),(7,[]),(7,[])]:=⟨by decide,by decide⟩;generalize ZD=S at *;generalize JE=h at *;have c:(h.1,h.2)=h:=rfl;have M:(0:Int) / 2=0:=rfl;repeat'(first|exact trivial|refine eS rfl ?_|refine AB ?_|refine rP a ?_ ?_|fail)
 simp only[B];refine Cj drawsAny a 14 [([0,1,2,3,4,5,6,7,8,9,10,12],13)] [11] (by kernel_rfl) (R4 ?_ ?_)
 ·exact y.1
 ·refine Td a [] ?_ ?_
  ·trivial
  ·refine TT a ?_ ?_ ?_
   ·trivial
   ·trivial
   ·simp only[c,e,g,j,n,l,D];repeat'(first|exact trivial|refine eS rfl ?_|refine AB ?_|refine rP a ?_ ?_|fail)
    refine Cj drawsAny a 12 [([0,1,2,3,4,5,6,7,8,10],11)] [9] (by kernel_rfl) (R4 ?_ ?_)
    ·exact z.1
    ·refine Td a [] ?_ ?_
     ·trivial
     ·refine TT a ?_ ?_ ?_
      ·trivial
      ·trivial
      ·simp only[c,e,g,j,n,l,E];repeat'(first|exact trivial|refine eS rfl ?_|refine AB ?_|refine rP a ?_ ?_|fail)
       refine Cj drawsAny a 8 [([0,1,2,3,4,6],7)] [5] (by kernel_rfl) (R4 ?_ ?_)
       ·exact K
       ·refine Td a [] ?_ ?_
        ·trivial
        ·refine TT a ?_ ?_ ?_
         ·trivial
         ·trivial
         ·simp only[c,F];repeat'(first|exact trivial|refine eS rfl ?_|refine AB ?_|refine rP a ?_ ?_|fail)
          refine Cj drawsAny a 8 [([0,1,2,3,4,6],7)] [5] (by kernel_rfl) (R4 ?_ ?_)
          ·exact L
          ·refine Td a [] ?_ ?_
           ·trivial
           ·refine TT a ?_ ?_ ?_
            ·trivial
            ·trivial
            ·simp only[c,G];repeat'(first|exact trivial|refine eS rfl ?_|refine AB ?_|refine rP a ?_ ?_|fail)
             refine rD a ?_ ?_
             ·simp only[e,g,j,l];exact⟨fun _=>⟨w,w⟩,fun _=>⟨x,x⟩⟩
             ·simp only[c,e,g,j,n,l,Ed,show ((0:Int)==0)=true from rfl,AC3,Bool.or_false];repeat'(first|exact trivial|refine eS rfl ?_|refine AB ?_|refine rX a ?_ ?_|refine rC ?_ ?_<;>intro b<;>try(cases b;done))
              ·rw[v]at b;exact absurd rfl b
              ·have N:(0:Int)+1+1+1+1+1+1+1+1+1+1+1=11:=rfl;refine AH (ι:={k:Nat//k≤11}) (fun k=>⟨[(1,.bp 1 [] 0),(2,.bp 2 [] 0),(8,.bp 8 [] 0),(10,.p IJ [12,2,11,4,2,2,1,4,2,2,7]),(91,.p (.int .i64) (11:Int)),(92,.p (.int .i64) (k.1:Int))],[(8,.box 25 true [.p Fq S]),(2,.box 25 true [.p Fq [(3,[(10,1)]),(3,[(2,2)]),(0,[])]]),(1,.box 31 true [.p Qy h.1,.p TV h.2])]⟩) (fun k=>11-k.1) ⟨0,IS _⟩ (AC [(8,.nm 8),(2,.nm 2),(1,.nm 1)] rfl rfl ?_ ?_) (fun k=>?_)
               ·first|exact eN|refine eM ?_
               ·first|exact eN|refine eM ?_
                rfl
               ·obtain⟨k,hk⟩:=k;have A:=C k;simp only;repeat'(first|exact trivial|refine eS rfl ?_|refine AB ?_|refine rX a ?_ ?_|refine rC ?_ ?_<;>intro b<;>try(cases b;done))
                ·rw[v];exact⟨b,b⟩
                ·exact absurd (A (by omega)) b
                ·omega
                ·refine⟨⟨k+1,by omega⟩,by simp only;omega,AC [(8,.nm 8),(2,.nm 2),(1,.nm 1)] rfl rfl ?_ ?_⟩
                 ·first|exact eN|refine eM ?_
                 ·first|exact eN|refine eM ?_
                ·simp only[c,e,g];exact⟨⟨m,r.2.1,r.2.2.1⟩,fun _=>⟨m,s.2.1,s.2.2.1⟩,fun _=>⟨m,t.2.1,t.2.2.1⟩⟩
                ·simp only[c,e,g,H,I,J];exact fI a [.tmp 0]
end
section
attribute [local go_sem] OE RE kB Mf S4
def Wo:Ad:={ ins:=[Ef,Fs],pre:=fun _=>True,out:=fun _=>[.p .bool true] }
attribute [local go_sem] Wo
theorem t5:Aj Tryz.prog 4 Wo:=by
 refine fKP [0,1,3,4,5,6,7,8,9,16] [14] [] Tryz.func4 Tryz.ntmps4 (AD VL (AD nD (AD zT (AD S5 (AD SY AG))))) ?_;rintro w0 O0 ⟨d,f,u⟩ a - -;simp only[Wo,AL];have b:=h14 d;have j:=zQ (d:=d) (l:=[f]);have m:=A3V (CC d);repeat'(first|exact trivial|refine eS rfl ?_|refine AB ?_|refine rX a ?_ ?_|refine rC ?_ ?_<;>intro c<;>try(cases c;done))
 ·exact fI a [.tmp 4]
 ·exact(j c f (by simp)).inf
 ·have e:=j c f (by simp);have q:=e.len;have n:=zS b.ok b.nrm b.inj b.ft b.ap e.inf.arcs e.inf.ty;have hF:Bx (CC d) f=match LF (CC d) f with
   | some ty=>(DP f ty,true)
   | none=>([],false):=rfl
  rw[m]at *;rw[←n]at hF;refine cP 2 a ?_ ?_
  ·trivial
  ·refine rM a (nQ (CC d) b.ok b.nrm b.ft b.ap b.inj f e.inf.arcs e.inf.ty (by omega) (fun x o=>(e.inf.good.2 x o).1)) [] [] ?_ ?_ ?_
   ·first|exact eN|refine eM ?_
   ·first|exact eN|refine eM ?_
   ·rintro res r (⟨g,rfl,rfl⟩|⟨ty,g,rfl,rfl⟩)
    ·rw[g]at hF;have hF:Bx (CC d) f=([],false):=hF;refine⟨[],.tup [.p Fs [],.p .bool false],[],rfl,rfl,?_,?_,rfl,rfl,?_⟩
     ·first|exact eN|refine eM ?_
     ·first|exact eN|refine eM ?_
     ·refine rL a ?_ ?_
      ·trivial
      ·simp only[hF];repeat'(first|exact trivial|refine eS rfl ?_|refine AB ?_|refine rX a ?_ ?_|refine rC ?_ ?_<;>intro c<;>try(cases c;done))
       ·intro _;exact⟨by simp,by simp⟩
       ·exact fI a [.tmp 4] (by rw[Ed];exact eR)
    ·rw[g]at hF;have hF:Bx (CC d) f=(DP f ty,true):=hF;have i:=Gg f ty;refine⟨[(89,.nm 89)],.tup [.ag [.sr 89 Lr 0 f.length],.p .bool true],[(89,.arr 49 Lr (DP f ty))],rfl,rfl,?_,?_,rfl,rfl,?_⟩
     ·first|exact eN|refine eM ?_
     ·first|exact eN|refine eM ?_
     ·refine rL a ?_ ?_
      ·trivial
      ·simp only[hF];repeat'(first|exact trivial|refine eS rfl ?_|refine AB ?_|refine rX a ?_ ?_|refine rC ?_ ?_<;>intro c<;>try(cases c;done))
       refine GJ [89] ?_;repeat'(first|exact trivial|refine eS rfl ?_|refine AB ?_|refine rX a ?_ ?_|refine rC ?_ ?_<;>intro c<;>try(cases c;done))
       ·intro _;have h:(DP f ty).take f.length=DP f ty:=As (ABH i);have k:=Y7 ty e.small;exact⟨k,by rw[h];exact k⟩
       ·have h:(DP f ty).take f.length=DP f ty:=As (ABH i);exact fI a [.tmp 4] (by rw[h,Ed];exact eR)
end
end Go.Proofs.YtdapahgnpbehbaaGreat.Fw
