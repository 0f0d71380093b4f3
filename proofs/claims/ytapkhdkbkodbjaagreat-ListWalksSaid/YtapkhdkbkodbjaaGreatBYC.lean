/- Contracts of the program's and the reference's functions, and the plain laws of what they compute: U14 W10 I1 I2 I3 C37 H1 T4 T2 T3 T5 T13 T14 T15 T6 T7 T8 T9 T10 T11 T12 T16 N9 V1 V2 V4 V5 V6 V9 V10 T19 T20 T22 T24 W6 T26 W7 T27 T21 T23 T25 U13 V3 SN V11 V7 V8 T28 U17 H4 V14 T17 T18 L21 T30 J1 H2 H3 J2 I4 I6 I5 I7 V15 V16 J3 T29 K1 K2 K3 K4 O1 O2 O3 O4 O5 O6 O7 O8 O9 O10 O12 O11. -/
import Derived.Test.YtapkhdkbkodbjaaGreatBYB
import Derived.Test.YtapkhdkbkodbjaaGreatBYA
import Derived.Test.YtapkhdkbkodbjaaGreatBZI
import Derived.Test.YtapkhdkbkodbjaaGreatBZJ
import Derived.Laws.Strings
set_option linter.unusedVariables false
set_option linter.unusedSimpArgs false
namespace Go.Proofs.YtapkhdkbkodbjaaGreat.Fw
open Go
attribute [local irreducible] Ev
attribute [local go_sem] gZ AM List.toList_toArray Bn evG evK Y3 Ee KQ Gf Fi Hj SY Ni C0 DH Mn CV Cv frz mV Ga DG A2 FY BX AV.frz AV.frzs AV.drp AV.drps AV.names AV.namess aq Gc LB KG TT JA BZ Bd JY EI Ib EJ Id Ic Ie Vk Pa Gu KI Fb EB Vl RI qUn JZ Ig LU FB Db JD KJ EK TV DL EL Ey RJ Ih Ng FL Nf Pb RK LV JE KK EM Dc HA De Hi DM Ez DN EO Fd CV Ce PY RH OC GW JC JB KH Pe SW Nh La LY KN SX LZ KO b7 Pg Pf AV.trn AV.trns Er Cz Obj.trn Jl iO Dd ER EC EP CY E0 Ar lk HG Gb Hf bin mU Y7 mX SU zf1 zfs pfs AV.cells CA JW PZ KM Pd CS Nc Ty.cell1 Ia Es Da F5 Mm Eq KF LT RE FK Gt NU TR Vj LS KD b5 f8 ST Hd Cf G9 RV.flat Ty.flat Ty.size St.add upd del Ba Value.oneCell' LP Ty.dflt IZ Py Ht QH List.take_succ_cons List.take_zero List.length_cons iD iE QG Ji Lp HX Jj A2s Fj Mx My Mz M0 RW RY M2 Io WC Option.map_some Option.map_none Option.bind_some Option.getD_some Option.getD_none Option.isNone_none Option.isNone_some Bool.and_true Bool.true_and Bool.and_false Bool.false_and Bool.not_true Bool.not_false if_true if_false List.length_cons List.length_nil and_true true_and and_self List.all_cons List.all_nil List.append_nil List.nil_append List.cons_append List.getElem?_cons_zero List.getElem?_cons_succ List.getElem?_nil List.map_cons List.map_nil List.set_cons_zero List.set_cons_succ List.isEmpty_nil List.isEmpty_cons decide_true decide_false beq_self_eq_true bne_self_eq_false Nat.zero_add Nat.add_zero Nat.sub_zero Int.toNat_natCast Int.toNat_zero Int.toNat_one List.take_length List.length_append List.length_singleton true_or or_true or_self false_or or_false Ty.agg.injEq Ty.slice.injEq Ty.prod.injEq Ty.int.injEq Option.some.injEq beq_iff_eq Ln evMG evMQ opM Hv Ll B0 Jh Gv P6 Jf Hu Ip KZ LG OP Nn OQ TY Lm QB QC Jg Aa Am Op.operands Call.operands List.filterMap_cons List.filterMap_nil List.append_eq Bool.cond_false_right Bool.cond_true_left cond_true cond_false implies_true decide_eq_true_eq beq_true beq_false Bool.or_true Bool.or_false Bool.true_or Bool.false_or Option.isSome_some Array.empty_append List.append_toArray FZ Mo E1 Hg b6 Pc Fc GD GC Ii Hh KL LX Y8 mW He inB KP Fe GX Ja Aq iG List.drop_zero DT Hw cZ CK Ke CH AV.fgt AV.fgts Obj.fgt Av Aj Aa DB IY BL Gg List.any_cons List.any_nil nX iH c5 iI Ls Rd qs List.flatMap_cons List.flatMap_nil List.cons_append tn c8 HB List.take_succ_cons List.drop_succ_cons dC GJ A7 sE M7 B4 CJ Ae E4 KY Bg E3 Dg Hr Im GH Hs
attribute [local go_sem] ty1 ty2 ty3 ty4 ty5 ty9 A5Y A5Z A60 A61 A62 A63 A64 A65 A66 A67 A68 A69 A6a A6b A6c A6d A6e A6f A6g A6h A6i A6j A6k A6l A6m A6n A6o A6p A6q A6r A6s A6t A6u A6v A6w A6x A6y A6z A6A A6B A6C A6D A6E A6F A6G A6H A6I A6J A6K A6L A6M A6N A6O A6P A6Q A6R A6S A6T A6U A6V A6W A6X A6Y A6Z A70 A71 A72 A73 A74 A75 A76 sM sO sP sQ sR sS sT sU sV sW sY sZ s5 s6 s7 s8 s9 tA tB tC tD tE tF tG tH tI tJ tK tL tM tP tQ tR tS tT tU tV tW tY tZ t4 t5 t6 t7 t8 t9 uA uB uC uD uE uF uG uH uI uJ uK uL uM uN uP uQ uR uS uT uU uV uW uX uY uZ u3 u4 u5 u6 u7 u9 vA vB vC vE vF vG vH vI vJ vL vM vO vP vQ vS vU vV vW vX vY vZ v4 v5 v6 v7 v8 v9 wA wB wC wD wF wG wH wI wJ wK wL wM wN wP wQ wR wS wT wU wV wW wX wY wZ w5 w6 w9 xA xB xC xE xF xG xH xI xJ xL xM xN xO xP xQ xR xS xT xV xW xX xY xZ x5 x6 x7 x8 x9 yA yB yC yD yE yF yG
set_option maxRecDepth 100000
set_option maxHeartbeats 4000000
def Fz (p:List Int) (n:Nat):List AD:=(List.range n).map λ(i:Nat)=>((0:Int),[(p.getD i 0,(i:Int)+1)])
def BQ (p:List Int) (g:List AD):List AD:=Fz p p.length++g.map λx=>(x.1,Ad p.length x.2)
abbrev Cb (p:List Int):List AD:=BQ p [((0:Int),[])]
theorem lA (p:List Int) (n:Nat):Fz p (n+1)=Fz p n++[((0:Int),[(p.getD n 0,(n:Int)+1)])]:=by simp[Fz,UQ]
theorem Ea (p:List Int) (n:Nat):(Fz p n).length=n:=by simp[Fz]
theorem CB (p:List Int):(Cb p).length=p.length+1:=by simp[BQ,Fz]
theorem X2 (p:List Int) {i:Int} (a:0<=i) (b:i<(p.length:Int)):(Cb p).getD i.toNat (0,[])=(0,[(p.getD i.toNat 0,i+1)]):=by
 unfold Cb BQ;rw[AS,Tz (by rw[Ea];omega)];unfold Fz;rw[UO,Ya (by omega)];show ((0:Int),[(p.getD i.toNat 0,((i.toNat:Nat):Int)+1)])=_;rw[Yb a]
theorem qI (p:List Int):(Cb p).getD p.length (0,[])=(0,[]):=by
 unfold Cb BQ;rw[AS,UC (by rw[Ea];omega),Ea,Yq];rfl
theorem PN (p:List Int) {i:Int} (a:0<=i) (b:i<((Cb p).length:Int)):(i<(p.length:Int)/\(Cb p).getD i.toNat (0,[])=(0,[(p.getD i.toNat 0,i+1)]))\/(i=(p.length:Int)/\(Cb p).getD i.toNat (0,[])=(0,[])):=by
 rw[CB]at b;by_cases h:i<(p.length:Int)
 .exact .inl ⟨h,X2 p a h⟩
 have e:i=(p.length:Int):=by omega
 subst e;right;rw[To];exact⟨rfl,qI p⟩
theorem NJ (p:List Int) {x:AD} (b:x∈Cb p):x=(0,[])\/∃i,i<p.length/\x=(0,[(p.getD i 0,(i:Int)+1)]):=by
 obtain⟨i,hi,rfl⟩:=Cl (0,[]) b;rcases PN p (i:=(i:Int)) (by omega) (by omega) with ⟨h1,a⟩|⟨h1,a⟩
 .rw[To]at a;exact .inr ⟨i,by omega,a⟩
 rw[To]at a;exact .inl a
def FtP (h:AG) (p:List Int):Prop:=∀e∈p,0<=e/\e<(h.2.length:Int)
theorem J0 {h:AG} {p:List Int} (hp:FtP h p):∀x∈Cb p,∀a∈x.2,0<=a.1/\a.1<(h.2.length:Int):=by
 intro x b a ha;rcases NJ p b with rfl|⟨i,hi,rfl⟩
 .cases ha
 have:a=(p.getD i 0,(i:Int)+1):=by simpa using ha
 rw[this];exact hp _ (DU hi)
theorem FH {p:List Int} (hp:p.length<=1000):AN (Cb p):=by
 have b:=CB p;refine⟨by omega,λx c=>?_⟩;rcases NJ p c with rfl|⟨i,hi,rfl⟩
 .exact⟨by simp,λa ha=>by cases ha⟩
 refine⟨by simp,λa ha=>?_⟩;have:a=(p.getD i 0,(i:Int)+1):=by simpa using ha
 rw[this,b];simp only;omega
theorem NK (p:List Int):∀x∈Cb p,N0 x.2:=by
 intro x a;rcases NJ p a with rfl|⟨i,hi,rfl⟩
 .exact .nil
 exact AA0 _ _
theorem Qs {h:AG} (h0:0<h.1.length) (p:List Int):CP h (Cb p):=by
 intro x a;rcases NJ p a with rfl|⟨i,hi,rfl⟩
 .exact⟨by simp,by simp only;omega⟩
 exact⟨by simp,by simp only;omega⟩
theorem lB (p:List Int):RO (Cb p):=by
 intro i b a;rw[CB]at a;refine⟨i-1,by omega,by omega,(p.getD (i-1).toNat 0,i-1+1),?_,by simp only;omega⟩;rw[AU,X2 p (by omega) (by omega)];exact Tu.2 rfl
theorem A9J {l:List (Int×Int)} (h:N0 l) {e:Int} (c:0<=BK l e):mT l e=BK l e:=by
 obtain⟨a,ha,b,d⟩:=Qk c;rw[<-b,zD h ha,Jx h ha]
theorem lC {f:List AD} (hf:AN f) (h0:0<f.length) (p:List Int):∀n,Bx f 0 p=some n->0<=n/\n<(f.length:Int):=by
 induction p using D0 with
 | h0 =>
  intro n h;simp only[Bx,Un]at h;omega
 | h1 p e g =>
  intro n h;obtain⟨x,d,a,ha,c,b⟩:=aP h;rw[<-b];exact BA hf ha
theorem A4t {f:List AD} {p:List Int} {n:Int} (h:Bx f 0 p=some n) (k:Nat):∃m,Bx f 0 (p.take k)=some m:=by
 cases hh:Bx f 0 (p.take k) with
 | none =>
  have:=R7 (p.take k) 0 (p.drop k) hh;rw[Ys,h]at this;cases this
 | some m=>exact⟨m,rfl⟩
theorem lD {h:AG} (w:X0 h) {X:List AD} (t:AN X) (C:0<X.length) (B:CP h X) (A:∀x∈X,N0 x.2) {p:List Int} {n:Int} (l:Bx X 0 p=some n):∃m,LR h (Cb p) X m/\m (p.length:Int)=n:=by
 have g:∀k,Bx X 0 (p.take k)=some ((Bx X 0 (p.take k)).getD 0):=λk=>by
  obtain⟨m,v⟩:=A4t l k;rw[v];rfl
 have j:=λk=>lC t C (p.take k) _ (g k);refine⟨λi=>(Bx X 0 (p.take i.toNat)).getD 0,⟨rfl,λi d f=>j i.toNat,λi d f=>?_,λi d f a ha=>?_⟩,?_⟩
 .have e:((Cb p).getD i.toNat (0,[])).1=0:=by
   rcases PN p d f with ⟨-,c⟩|⟨-,c⟩<;>rw[c]
  rw[e];have D:=j i.toNat;have:=B _ (AF X (0,[]) (k:=((Bx X 0 (p.take i.toNat)).getD 0).toNat) (by omega));exact w _ this.1 this.2
 .rcases PN p d f with ⟨h1,c⟩|⟨-,c⟩
  .rw[AU,c]at ha;have e:a=(p.getD i.toNat 0,i+1):=by simpa using ha
   subst e;have hs:=Ax p 0 (k:=i.toNat) (by omega);have o:=g (i.toNat+1);rw[hs]at o;obtain⟨x,q,b,u,r,s⟩:=aP o;have y:=g i.toNat;rw[q]at y;have z:x=(Bx X 0 (p.take i.toNat)).getD 0:=by rw[q];rfl
   show BK (AU X ((Bx X 0 (p.take i.toNat)).getD 0)) (p.getD i.toNat 0)=(Bx X 0 (p.take (i+1).toNat)).getD 0;rw[<-z,show (i+1).toNat=i.toNat+1 by omega,hs,<-s,<-r];exact Jx (MT A x) u
  rw[AU,c]at ha;cases ha
 show (Bx X 0 (p.take ((p.length:Nat):Int).toNat)).getD 0=n;rw[To,Tl,l];rfl
theorem lE {h:AG} {X:List AD} (e:AN X) (g:0<X.length) (d:∀x∈X,N0 x.2) {p:List Int} {m:Int->Int} (a:LR h (Cb p) X m):Bx X 0 p=some (m (p.length:Int)):=by
 have key:∀k,k<=p.length->Bx X 0 (p.take k)=some (m (k:Int)):=by
  intro k;induction k with
  | zero =>
   intro _;rw[Uo];show some (0:Int)=some (m 0);rw[a.zero]
  | succ k c =>
   intro hk;have hi:=c (by omega);have hn:=X2 p (i:=(k:Int)) (by omega) (by omega);have f:=CB p;have ha:=a.arc (k:Int) (by omega) (by omega) (p.getD k 0,(k:Int)+1) (by
    rw[AU,hn,To];exact Tu.2 rfl)
   have b:=a.rng ((k:Int)+1) (by omega) (by omega);rw[Ax p 0 (by omega),Oy X _ 0 _ _ hi];simp only at ha;rw[A9J (MT d _) (by rw[ha];exact b.1),ha,As (by omega)];rfl
 have:=key p.length (Is _)
 rwa [Tl]at this
structure lF (h:AG) (f:List AD) (p q:List Int) (U:List AD):Prop where
 vf:VF h U
 left:∃m,LR h f U m
 eq:∃n,Bx U 0 p=some n/\Bx U 0 q=some n
 least:∀X,VF h X->∀m1,LR h f X m1->∀n,Bx X 0 p=some n->Bx X 0 q=some n->∃m,LR h U X m
 len:U.length<=f.length+p.length+q.length+2
theorem A82 {h:AG} (hu:HU h) {f b V:List AD} {p q:List Int} (h1:lF h f p q b) (a:lF h f p q V):b=V:=by
 obtain⟨k,e⟩:=a.left;obtain⟨n1,c,b1⟩:=a.eq;obtain⟨l,g⟩:=h1.left;obtain⟨n,d,b2⟩:=h1.eq;obtain⟨m,i⟩:=h1.least V a.vf k e n1 c b1;obtain⟨o,j⟩:=a.least b h1.vf l g n d b2;exact AD2 hu h1.vf a.vf i j
open Classical in
noncomputable def SG (h:AG) (f:List AD) (p q:List Int):List AD×Bool:=if H:∃U,lF h f p q U then (H.choose,true) else ([],false)
theorem a9 {h:AG} (hu:HU h) {f U:List AD} {p q:List Int} (h1:lF h f p q U):SG h f p q=(U,true):=by
 unfold SG;have H:∃U,lF h f p q U:=⟨U,h1⟩;rw[dif_pos H,A82 hu H.choose_spec h1]
theorem bA {h:AG} {f:List AD} {p q:List Int} (h1:∀X,VF h X->∀d,LR h f X d->∀n,Bx X 0 p=some n->Bx X 0 q≠some n):SG h f p q=([],false):=by
 unfold SG;rw[dif_neg];rintro⟨e,c⟩;obtain⟨d,g⟩:=c.left;obtain⟨n,a,b⟩:=c.eq;exact h1 e c.vf d g n a b
theorem A1x {h:AG} {f:List AD} {p q:List Int} (h1:(SG h f p q).2=true):lF h f p q (SG h f p q).1:=by
 unfold SG at h1 ⊢;split at h1
 .rename_i H;rw[dif_pos H];exact H.choose_spec
 cases h1
abbrev eqN (f:List AD) (p q:List Int):List AD:=Ao (Ao f (Cb p)) (Cb q)
abbrev eqP (f:List AD) (p q:List Int):List (Int×Int):=[(0,(f.length:Int)),((f.length:Int),((f.length+(p.length+1):Nat):Int)),(((f.length+p.length:Nat):Int),((f.length+(p.length+1)+q.length:Nat):Int))]
theorem fD (f:List AD) (p q:List Int):(eqN f p q).length=f.length+(p.length+1)+(q.length+1):=by
 rw[CU,CU,CB,CB]
theorem fE {h:AG} (i:X0 h) {f:List AD} {p q:List Int} (hf:VF h f) (hp:p.length<=1000) (t:q.length<=1000) (u:f.length<=10000) {X:List AD} (c:VF h X) {j:Int->Int} (h1:LR h f X j) {n:Int} (o:Bx X 0 p=some n) (s:Bx X 0 q=some n):∃v,eL h (eqN f p q) (eqP f p q) X v/\v 0=0:=by
 obtain⟨a,ha,k⟩:=lD i c.good c.pos c.ty c.str o;obtain⟨b,e,l⟩:=lD i c.good c.pos c.ty c.str s;have w:=hf.pos;have d:=CU f (Cb p);rw[CB]at d;have m:=GT hf.good (FH hp) (by rw[CB];omega);refine⟨_,qB (Qr m (FH t) (Qr hf.good (FH hp) (Kt h1) (Kt ha)) (Kt e)) λr g=>?_,?_⟩
 .simp only[By,Ud,ADe]at g;rcases g with rfl|rfl|rfl
  .simp only;rw[d,BY (by omega),BY (by omega),BY (by omega),As (by omega),AEo,h1.zero,ha.zero]
  .simp only;rw[d,BY (by omega),As (by omega),As (by omega),AEo,ha.zero,show ((f.length+(p.length+1):Nat):Int)-((f.length+(p.length+1):Nat):Int)=0 by omega,e.zero]
  simp only;rw[d,BY (by omega),As (by omega),As (by omega),show ((f.length+p.length:Nat):Int)-(f.length:Int)=(p.length:Int) by omega,k,show ((f.length+(p.length+1)+q.length:Nat):Int)-((f.length+(p.length+1):Nat):Int)=(q.length:Int) by omega,l]
 show (if (0:Int)<((Ao f (Cb p)).length:Int) then (if (0:Int)<(f.length:Int) then j 0 else a (0-(f.length:Int))) else b (0-((Ao f (Cb p)).length:Int)))=0;rw[d,BY (by omega),BY (by omega)];exact h1.zero
theorem A4u {h:AG} (I:X0 h) {f:List AD} {p q:List Int} (hf:VF h f) (z:FtP h p) (A:FtP h q) (hp:p.length<=1000) (H:q.length<=1000) (E:f.length<=10000) {P ty:List Int} {ar:List (List (Int×Int))} (d:JI h (eqN f p q) (eqP f p q) P ty ar []) (l:AN (quo P ty ar)):lF h f p q (AL (quo P ty ar) (Dx P 0)):=by
 have T:=hf.pos;have s:=CU f (Cb p);rw[CB]at s;have W:=fD f p q;have j:0<(eqN f p q).length:=by omega
 have h0:=PK d l j;have c1:eY (eqN f p q) 0 f:=Jy (Jy SE);have c2:eY (eqN f p q) f.length (Cb p):=Jy Ku;have m:eY (eqN f p q) (f.length+(p.length+1)) (Cb q):=by
  have:=Ku (f:=Ao f (Cb p)) (g:=Cb q);rw[s]at this;exact this
 have M:=IQ d l j c1 hf.ro h0;have o:Dx P (f.length:Int)∈NX P ty ar:=Xs d (x:=0) (by simp) h0;have N:=IQ d l j c2 (lB p) o;have u:Dx P ((f.length+(p.length+1):Nat):Int)∈NX P ty ar:=Xs d (x:=(f.length:Int)) (by simp) o;have O:=IQ d l j m (lB q) u;have c:=A4m d l j λx Q Z=>by
  by_cases e:x<(f.length:Int)
  .have:=M x.toNat x (Is _) Q e
   rwa [show ((0:Nat):Int)+x=x by omega]at this
  by_cases V:x<((f.length+(p.length+1):Nat):Int)
  .have:=N _ (x-(f.length:Int)) (Is _) (by omega) (by rw[CB];omega)
   rwa [show (f.length:Int)+(x-(f.length:Int))=x by omega]at this
  have:=O _ (x-((f.length+(p.length+1):Nat):Int)) (Is _) (by omega) (by rw[CB];omega)
  rwa [show ((f.length+(p.length+1):Nat):Int)+(x-((f.length+(p.length+1):Nat):Int))=x by omega]at this
 generalize U:(λx=>B1 (NX P ty ar) (Dx P x))=v at c;have C:∀x∈eqN f p q,∀a∈x.2,0<=a.1/\a.1<(h.2.length:Int):=by
  have key:∀ {g k:List AD},(∀x∈g,∀a∈x.2,0<=a.1/\a.1<(h.2.length:Int))->(∀x∈k,∀a∈x.2,0<=a.1/\a.1<(h.2.length:Int))->∀x∈Ao g k,∀a∈x.2,0<=a.1/\a.1<(h.2.length:Int):=by
   intro g k D hk x e;unfold Ao at e;rcases IF.1 e with e|e
   .exact D x e
   obtain⟨y,L,rfl⟩:=If.1 e;intro a ha;obtain⟨b,B,rfl⟩:=If.1 ha;exact hk y L b B
  exact key (key hf.ft (J0 z)) (J0 A)
 have i:=A4p d l j C c;have t:v (f.length:Int)=0:=by rw[<-c.proj.eq (0,(f.length:Int)) (by simp)];exact c.zero
 have R:v ((f.length+(p.length+1):Nat):Int)=0:=by rw[<-c.proj.eq ((f.length:Int),((f.length+(p.length+1):Nat):Int)) (by simp)];exact t
 have S:v ((f.length+p.length:Nat):Int)=v ((f.length+(p.length+1)+q.length:Nat):Int):=c.proj.eq (((f.length+p.length:Nat):Int),((f.length+(p.length+1)+q.length:Nat):Int)) (by simp);refine⟨i,⟨_,MR c.proj c1 c.zero⟩,⟨v ((f.length+p.length:Nat):Int),?_,?_⟩,λX r Y h1 n F G=>?_,by have:=c.len;omega⟩
 .have:=lE i.good i.pos i.str (MR c.proj c2 t);rw[this]
  congr 2
 .have:=lE i.good i.pos i.str (MR c.proj m R);rw[this,S]
  congr 2
 obtain⟨w,J,K⟩:=fE I hf hp H E r h1 F G;exact c.least X w r.ty J K
theorem Kw (p:List Int) (g:List AD):(BQ p g).length=p.length+g.length:=by simp[BQ,Fz]
theorem TF {p:List Int} {g:List AD} {i:Int} (a:0<=i) (b:i<(p.length:Int)):(BQ p g).getD i.toNat (0,[])=(0,[(p.getD i.toNat 0,i+1)]):=by grind [BQ,Ea,Fz]
theorem Qt {p:List Int} {g:List AD} {y:Int} (a:0<=y) (b:y<(g.length:Int)):(BQ p g).getD ((p.length:Int)+y).toNat (0,[])=((g.getD y.toNat (0,[])).1,Ad p.length (g.getD y.toNat (0,[])).2):=by
 unfold BQ;have e:((p.length:Int)+y).toNat=p.length+y.toNat:=by omega
 rw[e,AS,UC (by rw[Ea];omega),Ea,ADn];rw[<-AS];exact SC (λx:AD=>(x.1,Ad p.length x.2)) (0,[]) (0,[]) (by omega)
theorem Kx {p:List Int} {g:List AD} {x:AD} (a:x∈BQ p g):(∃i,i<p.length/\x=(0,[(p.getD i 0,(i:Int)+1)]))\/∃y∈g,x=(y.1,Ad p.length y.2):=by
 rcases IF.1 a with h|h
 .obtain⟨i,hi,rfl⟩:=If.1 h;exact .inl ⟨i,by simpa using hi,rfl⟩
 obtain⟨y,b,rfl⟩:=If.1 h;exact .inr ⟨y,b,rfl⟩
theorem PO {b:Nat} {l:List (Int×Int)} (h:N0 l):N0 (Ad b l):=by
 unfold Ad N0;rw[Uz];exact h
theorem TG {p:List Int} {g:List AD} (hp:p.length<=1000) (c:AN g) (j:0<g.length) (k:g.length<=10000):AN (BQ p g):=by
 have d:=Kw p g;refine⟨by omega,λx h=>?_⟩;rcases Kx h with ⟨i,hi,rfl⟩|⟨y,e,rfl⟩
 .refine⟨by simp,λa ha=>?_⟩;have:a=(p.getD i 0,(i:Int)+1):=by simpa using ha
  subst this;rw[d];simp only;omega
 refine⟨by unfold Ad;rw[OF];exact(c.2 y e).1,λa ha=>?_⟩;obtain⟨b,f,rfl⟩:=If.1 ha;have:=(c.2 y e).2 b f;rw[d];simp only;omega
theorem SH {h:AG} {f:List AD} (vf:VF h f):Co f f.length [] 0=(List.range f.length).map λ(i:Nat)=>(i:Int):=by
 have q:=vf.pos;have d:=VY vf.good (r:=0) (by omega) (by omega);have l:=Qq f 0;have c:=λi=>Qp (f:=f) (r:=0) (i:=i);rw[vf.can]at l;simp only[vf.can]at c;generalize p:Co f f.length [] 0=o at *;have m:LR h f f (λi=>o.getD i.toNat 0):=by
  refine⟨d.zero.1,λi g j=>d.ok.rng _ (AF o 0 (by omega)),λi g j=>?_,λi g j a ha=>?_⟩
  .rw[c i.toNat (by omega)];exact R8 h _
  rw[AU,c i.toNat (by omega)]at ha;obtain⟨b,e,rfl⟩:=If.1 ha;have k:=d.cl _ (AF o 0 (by omega)) b e;show BK (AU f (o.getD i.toNat 0)) b.1=o.getD (B1 o b.2).toNat 0;rw[(E7 k).2.2];exact Jx (MT vf.str _) e
 have hu:=Xv vf.ro m (e9 vf.str);apply UZ
 .rw[OF,ADf];omega
 intro i h1 n;rw[aT,iF];have:=hu i (i:Int) (by omega) (by omega) (by omega);simp only[To,id]at this;rw[<-this,AS,AT h1];rfl
theorem bB {f:List AD} (hf:AN f) (h:Co f f.length [] 0=(List.range f.length).map λ(i:Nat)=>(i:Int)):AL f 0=f:=by
 unfold AL;generalize q:Co f f.length [] 0=l at *;have r:l.length=f.length:=by rw[h];simp
 have b:∀k,(hk:k<l.length)->l[k]=(k:Int):=λk hk=>by subst h;simp
 clear h;have o:l.Nodup:=by
  unfold List.Nodup;rw[Tw];intro i j hi n p e;rw[b i hi,b j n]at e;omega
 have m:∀x,0<=x->x<(l.length:Int)->B1 l x=x:=λx s t=>by
  have:=IP o (i:=x.toNat) (by omega);have e:l.getD x.toNat 0=x:=by
   rw[AS,AT (by omega)];show l[x.toNat]=x;rw[b _ (by omega)];omega
  rw[e]at this;rw[this];omega
 apply UZ
 .rw[OF];omega
 intro i h1 c;rw[aT,b i (by simpa using h1)];have d:f.getD (i:Int).toNat (0,[])=f[i]:=by simp[AS,c]
 unfold Cp;rw[d];have:∀a∈f[i].2,HO l a=a:=λa ha=>by
  have g:=(hf.2 _ (UJ c)).2 a ha;unfold HO;rw[m a.2 g.1 (by omega)]
 rw[Tq this,List.map_id']
theorem VZ {Q R:List AD} {c:Int->Int} {d:Int->Prop} (h:Iso Q R c d) {pre:List Int} (hp:∀i,d i->c i∉pre):∀(k:Nat) (t:List Int) (i:Int),(∀x∈t,d x)->d i->Co R k (pre++t.map c) (c i)=pre++(Co Q k t i).map c/\∀x∈Co Q k t i,d x
 | 0,t,i,f,hi=>⟨rfl,f⟩
 | k+1,t,i,f,hi=>by
  have key:∀(l:List (Int×Int)) (t:List Int),(∀a∈l,d a.2)->(∀x∈t,d x) ->
    (l.map λa=>(a.1,c a.2)).foldl (AY R k) (pre++t.map c)=pre++(l.foldl (AY Q k) t).map c/\∀x∈l.foldl (AY Q k) t,d x:=by
   intro l;induction l with
   | nil=>intro t _ f;exact⟨rfl,f⟩
   | cons a l q =>
    intro t m f;have ha:=m a (by simp);have hs:AY R k (pre++t.map c) (a.1,c a.2)=pre++(AY Q k t a).map c/\∀x∈AY Q k t a,d x:=by
     unfold AY;by_cases j:a.2∈t
     .rw[BY j,BY (IF.2 (.inr (If.2 ⟨_,j,rfl⟩)))];exact⟨rfl,f⟩
     have p:¬c a.2∈pre++t.map c:=by
      intro hh;rcases IF.1 hh with hh|hh
      .exact hp _ ha hh
      obtain⟨x,g,e⟩:=If.1 hh;exact j (h.inj x a.2 (f x g) ha e▸g)
     rw[As j];simp only[As p];exact VZ h hp k t a.2 f ha
    rw[UD,Tk,Tk,hs.1];exact q _ (λb o=>m b (by simp[o])) hs.2
  rw[Bt,Bt];have e:pre++t.map c++[c i]=pre++(t++[i]).map c:=by simp
  have n:(R.getD (c i).toNat (0,[])).2=(AU Q i).map λa=>(a.1,c a.2):=h.arc i hi;rw[n,e];refine key _ _ (h.cl i hi) λx g=>?_;rcases IF.1 g with g|g
  .exact f x g
  have:x=i:=by simpa using g
  rw[this];exact hi
abbrev NZ (n:Nat):List Int:=(List.range n).map λ(i:Nat)=>(i:Int)
theorem Qu {n:Nat} {x:Int} (h:x∈NZ n):0<=x/\x<(n:Int):=by grind
theorem A1z (n:Nat):NZ (n+1)=NZ n++[(n:Int)]:=by unfold NZ;rw[UQ,UH];rfl
theorem X3 {p:List Int} {g:List AD}:∀(r j:Nat) (k:Nat),j+r=p.length->Co (BQ p g) (r+k) (NZ j) (j:Int)=Co (BQ p g) k (NZ p.length) (p.length:Int)
 | 0,j,k,h=>by rw[show j=p.length by omega,Yj]
 | r+1,j,k,h=>by
  rw[show r+1+k=(r+k)+1 by omega,Bt,TF (by omega) (by omega),To];show AY (BQ p g) (r+k) (NZ j++[(j:Int)]) (p.getD j 0,(j:Int)+1)=_;rw[<-A1z];unfold AY;rw[As (λa=>by have:=Qu a;simp only at this;omega)];have e:((j:Int)+1)=((j+1:Nat):Int):=by omega
  simp only[e];exact X3 r (j+1) k (by omega)
theorem A1A {h:AG} {p:List Int} {g:List AD} (b:VF h g) (hp:p.length<=1000) (l:g.length<=10000):AL (BQ p g) 0=BQ p g:=by
 have f:=b.pos;refine bB (TG hp b.good f l) ?_;rw[Kw];have d:=X3 (p:=p) (g:=g) p.length 0 g.length (by omega);rw[show NZ 0=[] from rfl,show ((0:Nat):Int)=0 from rfl]at d;rw[d];have k:Iso g (BQ p g) (λi=>(p.length:Int)+i) (λi=>0<=i/\i<(g.length:Int)):=by
  refine⟨λi hi=>?_,λi hi a ha=>BA b.good ha,λi j hi o e=>by have e:(p.length:Int)+i=(p.length:Int)+j:=e;omega⟩;rw[AU,Qt hi.1 hi.2];show Ad p.length (AU g i)=_;unfold Ad;refine Tq λa _=>?_;show (a.1,a.2+(p.length:Int))=(a.1,(p.length:Int)+a.2);rw[AE7]
 have c:=(VZ k (pre:=NZ p.length) (λi hi m=>by have:=Qu m;omega) g.length [] 0 (λx n=>by cases n) ⟨by omega,by omega⟩).1;rw[AAs,UF,ADc,SH b]at c;rw[c];rw[AE9,UH,Uf,Uf];refine Uu _ (Tq λi _=>?_);show (p.length:Int)+(i:Int)=((p.length+i:Nat):Int);omega
theorem A4v {h:AG} (h0:0<h.1.length) {p:List Int} {g:List AD} (d:VF h g) (l:FtP h p) (hp:p.length<=1000) (k:g.length<=10000):VF h (BQ p g):=by
 have n:=d.pos;have q:=Kw p g;refine⟨TG hp d.good n k,by omega,λx c=>?_,λx c=>?_,λx c a ha=>?_,A1A d hp k,λi r s=>?_⟩
 .rcases Kx c with ⟨i,hi,rfl⟩|⟨y,f,rfl⟩
  .exact⟨by simp,by simp only;omega⟩
  exact d.ty y f
 .rcases Kx c with ⟨i,hi,rfl⟩|⟨y,f,rfl⟩
  .exact AA0 _ _
  exact PO (d.str y f)
 .rcases Kx c with ⟨i,hi,rfl⟩|⟨y,f,rfl⟩
  .have:a=(p.getD i 0,(i:Int)+1):=by simpa using ha
   rw[this];exact l _ (DU hi)
  obtain⟨b,m,rfl⟩:=If.1 ha;exact d.ft y f b m
 by_cases hi:i<=(p.length:Int)
 .refine⟨i-1,by omega,by omega,(p.getD (i-1).toNat 0,i-1+1),?_,by simp only;omega⟩;rw[AU,TF (by omega) (by omega)];exact Tu.2 rfl
 obtain⟨j,o,t,x,c,e⟩:=d.ro (i-p.length) (by omega) (by omega);refine⟨(p.length:Int)+j,by omega,by omega,(x.1,x.2+(p.length:Int)),?_,by simp only;omega⟩;rw[AU,Qt o (by omega)];exact If.2 ⟨x,c,rfl⟩
theorem bC {f:List AD} (hf:AN f) {r:Int} (l:0<=r) (m:r<(f.length:Int)):AN (AL f r)/\0<(AL f r).length:=by
 have c:=VY hf l m;have h:=Qq f r;have g:=λi=>Qp (f:=f) (r:=r) (i:=i);generalize p:Co f f.length [] r=o at *;have q:=c.ok.len;have n:=hf.1;have t:=c.zero.2;refine⟨⟨by omega,λx j=>?_⟩,by omega⟩;obtain⟨i,hi,rfl⟩:=Cl (0,[]) j;rw[g i (by omega)];have d:o.getD i 0∈o:=AF o 0 (by omega);have s:=c.ok.rng _ d;refine⟨?_,λa ha=>?_⟩
 .show (List.map (HO o) _).length<=_;rw[OF];exact(hf.2 _ (AF f (0,[]) (k:=(o.getD i 0).toNat) (by omega))).1
 obtain⟨b,e,rfl⟩:=If.1 ha;have:=E7 (c.cl _ d b e);rw[h];exact⟨this.1,this.2.1⟩
def zO (s:ByteArray):Nat->List ID->Int
 | _,[]=>-1
 | k,x :: l=>if Ah x.1 s=true then (k:Int) else zO s (k+1) l
def PP (h:AG) (s:ByteArray):Int:=zO s 0 h.1
def ftG (s:ByteArray):Nat->List Z9->Int
 | _,[]=>-1
 | k,x :: l=>if Ah x.1 s=true then (k:Int) else ftG s (k+1) l
def lG (h:AG) (s:ByteArray):Int:=ftG s 0 h.2
theorem zP (s:ByteArray):∀(l:List ID) (k:Nat),zO s k l=-1\/((k:Int)<=zO s k l/\zO s k l<((k+l.length:Nat):Int))
 | [],_=>.inl rfl
 | x :: l,k=>by
  unfold zO;split
  .exact .inr ⟨AA2 _,by simp only[OS];omega⟩
  have:=zP s l (k+1);simp only[OS];omega
theorem zQ (s:ByteArray):∀(l:List Z9) (k:Nat),ftG s k l=-1\/((k:Int)<=ftG s k l/\ftG s k l<((k+l.length:Nat):Int))
 | [],_=>.inl rfl
 | x :: l,k=>by
  unfold ftG;split
  .exact .inr ⟨AA2 _,by simp only[OS];omega⟩
  have:=zQ s l (k+1);simp only[OS];omega
theorem Gq (h:AG) (s:ByteArray):-1<=PP h s/\PP h s<(h.1.length:Int):=by
 have:=zP s h.1 0;unfold PP;omega
theorem Ky (h:AG) (s:ByteArray):-1<=lG h s/\lG h s<(h.2.length:Int):=by
 have:=zQ s h.2 0;unfold lG;omega
structure LW where
 list:Int
 cons:Int
 null:Int
 dlist:Int
 first:Int
 rest:Int
 head:Int
 last:Int
def sb (l:List UInt8):ByteArray:=⟨l.toArray⟩
def AP (h:AG):LW:=⟨PP h (sb [108,105,115,116]),PP h (sb [99,111,110,115]),PP h (sb [110,117,108,108]),PP h (sb [100,108,105,115,116]),lG h (sb [70,73,82,83,84]),lG h (sb [82,69,83,84]),lG h (sb [76,73,83,84]),lG h (sb [76,65,83,84])⟩
def Ex (h:AG):Bool:=decide (0<=(AP h).list/\0<=(AP h).cons/\0<=(AP h).null/\0<=(AP h).dlist/\0<=(AP h).first/\0<=(AP h).rest/\0<=(AP h).head/\0<=(AP h).last)&&BB h (AP h).list (AP h).cons&&BB h (AP h).list (AP h).null
def MX (w:LW) (row:List (Int×Int)):Bool:=decide (BK row w.first<0)&&decide (BK row w.rest<0)
def OA (w:LW) (row:List (Int×Int)):Bool:=decide (0<=BK row w.first)&&decide (0<=BK row w.rest)
def Na (h:AG) (w:LW) (x:AD):Bool:=BB h w.null x.1&&MX w x.2
def F0 (h:AG) (w:LW) (x:AD):Bool:=BB h w.cons x.1&&OA w x.2
def HF (h:AG) (w:LW) (x:AD):Bool:=BB h x.1 w.cons&&MX w x.2
def Az (h:AG) (w:LW) (x:AD):Int:=if Na h w x=true then 1 else if F0 h w x=true then 2 else if HF h w x=true then 3 else 0
def IR (h:AG) (w:LW) (f:List AD):Nat->List Int->List Int->Int->List Int×Bool×Int
 | 0,_,_,_=>([],false,6)
 | k+1,a,out,n=>if n∈a then ([],false,6) else
  if Az h w (f.getD n.toNat (0,[]))=1 then (out,true,0) else if Az h w (f.getD n.toNat (0,[]))=3 then (out,false,0) else if Az h w (f.getD n.toNat (0,[]))=0 then ([],false,13)
  else IR h w f k (a++[n]) (out++[BK (f.getD n.toNat (0,[])).2 w.first]) (BK (f.getD n.toNat (0,[])).2 w.rest)
def Al (h:AG) (f:List AD) (n:Int):List Int×Bool×Int:=if Ex h=true then IR h (AP h) f (f.length+1) [] [] n else ([],false,5)
theorem NL {h:AG} {w:LW} {x:AD} (e:Az h w x=2):0<=BK x.2 w.first/\0<=BK x.2 w.rest:=by
 unfold Az at e;split at e
 .cases e
 split at e
 .rename_i a;unfold F0 OA at a;simp only[An,DO]at a;exact a.2
 split at e<;>cases e
theorem X4 {h:AG} (e:Ex h=true):(0<=(AP h).first/\0<=(AP h).rest)/\0<=(AP h).cons/\0<=(AP h).null/\0<=(AP h).list/\0<=(AP h).dlist/\0<=(AP h).head/\0<=(AP h).last:=by
 unfold Ex at e;rw[An,An,DO]at e;obtain⟨⟨⟨h1,a,b,c,d,f,g,i⟩,-⟩,-⟩:=e;exact⟨⟨d,f⟩,a,b,h1,c,g,i⟩
section
theorem lH (s:ByteArray) (l:List ID) {k:Nat} (h:k<l.length):zO s k (l.drop k)=if Ah (l.getD k Y4).1 s=true then (k:Int) else zO s (k+1) (l.drop (k+1)):=by
 rw[Tj h];have e:l.getD k Y4=l[k]:=by simp[AS,h]
 rw[e];rfl
theorem lI (s:ByteArray) (l:List Z9) {k:Nat} (h:k<l.length):ftG s k (l.drop k)=if Ah (l.getD k (ByteArray.empty,0)).1 s=true then (k:Int) else ftG s (k+1) (l.drop (k+1)):=by
 rw[Tj h];have e:l.getD k (ByteArray.empty,0)=l[k]:=by simp[AS,h]
 rw[e];rfl
def zR:AZ:={ ins:=[ED,T9],pre:=λ_=>True,out:=λ(h,s,_)=>[.p T3 (PP h s)],lend:=true }
attribute [local go_sem] zR
theorem Va:Ab Tryz.prog 60 zR:=by
 refine fK [0,1,2,4,5,10,20] Tryz.func60 Tryz.ntmps60 AH ?_;rintro w0 O0 ⟨⟨a,hf⟩,s,u⟩ e ⟨⟨⟨g,-⟩,-⟩,-⟩ -;simp only[AO]at g;simp only[zR,AM];repeat'(first|exact trivial|apply eS rfl|apply AB|refine rX e ?_ ?_|refine rC ?_ ?_<;>intro b<;>try(cases b;done))
 refine AJ (ι:={k:Nat//k<=a.length/\zO s k (a.drop k)=PP (a,hf) s}) (λk=>⟨[(1,.p T9 s),(2,.bp 2 [] 0),(5,.p (.int .i64) (k.1:Int))],[(2,.box 31 true [.p mQ a,.p sL hf])]⟩) (λk=>a.length-k.1) ⟨0,IS _,rfl⟩ (eW [(2,.nm 2)]) (λk=>?_)
 obtain⟨k,hk,c⟩:=k;have f:=λh:k<a.length=>lH s a h;simp only;repeat'(first|exact trivial|apply eS rfl|apply AB|refine rX e ?_ ?_|refine rC ?_ ?_<;>intro b<;>try(cases b;done))
 .exact b
 .have d:k<a.length:=by exact eV
  rw[f d,BY b]at c;exact fI e [.tmp 4] (by rw[<-c];exact eR)
 .omega
 .have d:k<a.length:=by exact eV
  rw[f d,As (by rw[b];simp)]at c;exact⟨⟨k+1,by omega,c⟩,by simp only;omega,eW [(2,.nm 2)]⟩
 have d:a.drop k=[]:=On (by exact eV);rw[d]at c;exact fI e [.tmp 4] (by rw[<-c];first|exact eR|refine Wf ?_;rfl)
def Ti:AZ:={ ins:=[ED,T9],pre:=λ_=>True,out:=λ(h,s,_)=>[.p T3 (lG h s)],lend:=true }
attribute [local go_sem] Ti
theorem A4w:Ab Tryz.prog 70 Ti:=by
 refine fK [0,1,2,4,5,10,20] Tryz.func70 Tryz.ntmps70 AH ?_;rintro w0 O0 ⟨⟨f,hf⟩,s,u⟩ d ⟨⟨-,g,-⟩,-⟩ -;simp only[AO]at g;simp only[Ti,AM];repeat'(first|exact trivial|apply eS rfl|apply AB|refine rX d ?_ ?_|refine rC ?_ ?_<;>intro a<;>try(cases a;done))
 refine AJ (ι:={k:Nat//k<=hf.length/\ftG s k (hf.drop k)=lG (f,hf) s}) (λk=>⟨[(1,.p T9 s),(2,.bp 2 [] 0),(5,.p (.int .i64) (k.1:Int))],[(2,.box 31 true [.p mQ f,.p sL hf])]⟩) (λk=>hf.length-k.1) ⟨0,IS _,rfl⟩ (eW [(2,.nm 2)]) (λk=>?_)
 obtain⟨k,hk,b⟩:=k;have e:=λh:k<hf.length=>lI s hf h;simp only;repeat'(first|exact trivial|apply eS rfl|apply AB|refine rX d ?_ ?_|refine rC ?_ ?_<;>intro a<;>try(cases a;done))
 .exact a
 .have c:k<hf.length:=by exact eV
  rw[e c,BY a]at b;exact fI d [.tmp 4] (by rw[<-b];exact eR)
 .omega
 .have c:k<hf.length:=by exact eV
  rw[e c,As (by rw[a];simp)]at b;exact⟨⟨k+1,by omega,b⟩,by simp only;omega,eW [(2,.nm 2)]⟩
 have c:hf.drop k=[]:=On (by exact eV);rw[c]at b;exact fI d [.tmp 4] (by rw[<-b];first|exact eR|refine Wf ?_;rfl)
def A4x:AZ:=Ti
attribute [local go_sem] A4x
theorem A9L:Ab Tryz.prog 67 Ti:=by
 refine fK [0,1,2,4,5,6,8,9,10,11,20] Tryz.func67 Tryz.ntmps67 AH ?_;rintro w0 O0 ⟨⟨g,hf⟩,s,u⟩ b ⟨⟨-,f,-⟩,-⟩ -;simp only[AO]at f;simp only[Ti,AM];repeat'(first|exact trivial|apply eS rfl|apply AB|refine rX b ?_ ?_|refine rC ?_ ?_<;>intro a<;>try(cases a;done))
 refine AJ (ι:={k:Nat//k<=hf.length/\ftG s k (hf.drop k)=lG (g,hf) s}) (λk=>⟨[(1,.p T9 s),(8,.p sL hf),(9,.p (.int .i64) (hf.length:Int)),(10,.p (.int .i64) (k.1:Int))],[]⟩) (λk=>hf.length-k.1) ⟨0,IS _,rfl⟩ (eW []) (λk=>?_)
 obtain⟨k,hk,c⟩:=k;have e:=λh:k<hf.length=>lI s hf h;simp only;repeat'(first|exact trivial|apply eS rfl|apply AB|refine rX b ?_ ?_|refine rC ?_ ?_<;>intro a<;>try(cases a;done))
 .exact a
 .refine cP 5 b ?_ ?_
  .trivial
  refine ADy (j:=.i64) b (by kernel_rfl) ?_;refine rL b ?_ ?_
  .trivial
  repeat'(first|exact trivial|apply eS rfl|apply AB|refine rX b ?_ ?_|refine rC ?_ ?_<;>intro a<;>try(cases a;done))
  .have d:k<hf.length:=by exact eV
   rw[e d,BY a]at c;exact fI b [.tmp 4] (by rw[<-c];exact eR)
  .omega
  have d:k<hf.length:=by exact eV
  rw[e d,As (by rw[a];simp)]at c;exact⟨⟨k+1,by omega,c⟩,by simp only;omega,eW []⟩
 have d:hf.drop k=[]:=On (by exact eV);rw[d]at c;exact fI b [.tmp 4] (by rw[<-c];first|exact eR|refine Wf ?_;rfl)
theorem A83 (s:ByteArray) (t:ID):A9 Tryz.prog 180 [.p oB t,.bp 1 [] 0] [(1,.box 9 false [.p T9 s])] [1] (λres c=>res=.p .bool (Ah t.1 s)/\c=[(1,.box 9 false [.p T9 s])]):=by
 refine Kh [0,1,2,3] [] [] Tryz.func180 Tryz.ntmps180 AH ?_;intro w0 K O0 ρ0 a d e;simp only[Aq];repeat'(first|exact trivial|apply eS rfl|apply AB|refine rX a ?_ ?_|refine rC ?_ ?_<;>intro b<;>try(cases b;done))
 refine Ev.ent (σ':=⟨[(3,.p .bool (Ah t.1 s))],[(1,.box 9 false [.p T9 s])]⟩) ?_ (AC [(1,.nm 1)] rfl rfl ?_ ?_)
 .exact fM a [.tmp 3] (.p .bool (Ah t.1 s)) eT ⟨rfl,rfl⟩
 .exact eN
 exact eN
theorem A1B (l:List ID) (s:ByteArray):A9 Tryz.prog 177 [.p mQ l,.clo 180 [1]] [(1,.box 9 false [.p T9 s])] [1] (λres g=>res=.p T3 (zO s 0 l)/\g=[(1,.box 9 false [.p T9 s])]):=by
 refine Kh [0,1,4,5,7,8,9,16] [] [] Tryz.func177 Tryz.ntmps177 AH ?_;intro w0 K O0 ρ0 b e j;have i:l.length<=140737488355328:=e.1.1;simp only[Aq];repeat'(first|exact trivial|apply eS rfl|apply AB|refine rX b ?_ ?_|refine rC ?_ ?_<;>intro a<;>try(cases a;done))
 refine AJ (ι:={k:Nat//k<=l.length/\zO s k (l.drop k)=zO s 0 l}) (λk=>⟨[(0,.p mQ l),(1,.clo 180 [1]),(7,.p (.int .i64) (l.length:Int)),(8,.p (.int .i64) (k.1:Int))],[(1,.box 9 false [.p T9 s])]⟩) (λk=>l.length-k.1) ⟨0,IS _,rfl⟩ (eW [(1,.nm 1)]) (λk=>?_)
 obtain⟨k,hk,hf⟩:=k;have f:=λh:k<l.length=>lH s l h;simp only;repeat'(first|exact trivial|apply eS rfl|apply AB|refine rX b ?_ ?_|refine rC ?_ ?_<;>intro a<;>try(cases a;done))
 .have c:k<l.length:=Do.1 a;have d:=f c;refine cP 5 b ?_ ?_
  .exact a
  refine rM b (A83 s (l.getD k Y4)) [(1,.nm 1)] [] ?_ ?_ ?_
  .exact eN
  .exact eN
  rintro _ _ ⟨rfl,rfl⟩;refine⟨[(1,.nm 1)],.p .bool (Ah (l.getD k Y4).1 s),[(1,.box 9 false [.p T9 s])],rfl,rfl,?_,?_,rfl,rfl,Bh ?_⟩
  .exact eN
  .exact eN
  repeat'(first|exact trivial|apply eS rfl|apply AB|refine rX b ?_ ?_|refine rC ?_ ?_<;>intro a<;>try(cases a;done))
  .rw[BY a,hf]at d;refine Ev.ent (σ':=⟨[(4,.p (.int .i64) (k:Int))],[(1,.box 9 false [.p T9 s])]⟩) ?_ (AC [(1,.nm 1)] rfl rfl ?_ ?_)
   .exact fM b [.tmp 4] (.p T3 (k:Int)) eT ⟨by rw[d],rfl⟩
   .exact eN
   exact eN
  .omega
  rw[As (by rw[a];simp)]at d;exact⟨⟨k+1,c,d.symm.trans hf⟩,by simp only;omega,eW [(1,.nm 1)]⟩
 have c:l.drop k=[]:=On (Tn.1 a);rw[c]at hf;have hf:(-1:Int)=zO s 0 l:=hf;refine Ev.ent (σ':=⟨[(4,.p (.int .i64) (-1))],[(1,.box 9 false [.p T9 s])]⟩) ?_ (AC [(1,.nm 1)] rfl rfl ?_ ?_)
 .exact fM b [.tmp 4] (.p T3 (-1)) eT ⟨by rw[hf],rfl⟩
 .exact eN
 exact eN
def zS:AZ:={ ins:=[ED,T9],pre:=λ_=>True,out:=λ(h,s,_)=>[.p T3 (PP h s)],lend:=true }
attribute [local go_sem] zS
theorem A84:Ab Tryz.prog 138 zS:=by
 refine fK [0,1,2,3,4] Tryz.func138 Tryz.ntmps138 AH ?_;rintro w0 O0 ⟨⟨c,hf⟩,s,u⟩ a - -;simp only[zS,AM];refine Ev.ent (σ':=⟨[(0,.p ED (c,hf)),(1,.p T9 s)],[]⟩) ?_ (AC [] rfl rfl ?_ ?_)
 .repeat'(first|exact trivial|apply eS rfl|apply AB|refine rX a ?_ ?_|refine rC ?_ ?_<;>intro b<;>try(cases b;done))
  refine cP 3 a ?_ ?_
  .trivial
  refine rM a (A1B c s) [(1,.nm 3)] [] ?_ ?_ ?_
  .exact eN
  .exact eN
  rintro _ _ ⟨rfl,rfl⟩;refine⟨[(3,.nm 1)],.p T3 (zO s 0 c),[(3,.box 9 false [.p T9 s])],rfl,rfl,?_,?_,rfl,rfl,?_⟩
  .exact eN
  .exact eN
  refine rL a ?_ ?_
  .trivial
  repeat'(first|exact trivial|apply eS rfl|apply AB|refine rX a ?_ ?_|refine rC ?_ ?_<;>intro b<;>try(cases b;done))
  exact fI a [.tmp 4] (by unfold PP;exact eR)
 .exact eN
 exact eN
theorem Kz (h:AG):PP h ⟨#[108,105,115,116]⟩=(AP h).list/\PP h ⟨#[99,111,110,115]⟩=(AP h).cons/\PP h ⟨#[110,117,108,108]⟩=(AP h).null/\PP h ⟨#[100,108,105,115,116]⟩=(AP h).dlist/\lG h ⟨#[70,73,82,83,84]⟩=(AP h).first/\lG h ⟨#[82,69,83,84]⟩=(AP h).rest/\lG h ⟨#[76,73,83,84]⟩=(AP h).head/\lG h ⟨#[76,65,83,84]⟩=(AP h).last:=⟨rfl,rfl,rfl,rfl,rfl,rfl,rfl,rfl⟩
theorem PQ (h:AG):((AP h).list<(h.1.length:Int)/\(AP h).cons<(h.1.length:Int)/\(AP h).null<(h.1.length:Int)/\(AP h).dlist<(h.1.length:Int))/\(-1<=(AP h).list/\-1<=(AP h).cons/\-1<=(AP h).null/\-1<=(AP h).dlist) :=
 ⟨⟨(Gq h _).2,(Gq h _).2,(Gq h _).2,(Gq h _).2⟩,(Gq h _).1,(Gq h _).1,(Gq h _).1,(Gq h _).1⟩
theorem MY {α:Type} {f:List α} {n:Int} (h:0<=n/\n<(f.length:Int)):n.toNat<f.length:=by omega
end
section
attribute [local go_sem] zS A4x Ti XQ cs4 cs5
def wdF (h:AG) (w:LW):ZD.den:=(h,w.list,w.cons,w.null,w.dlist,w.first,w.rest,w.head,w.last)
def lwO (w:ZD.den):LW:=⟨w.2.1,w.2.2.1,w.2.2.2.1,w.2.2.2.2.1,w.2.2.2.2.2.1,w.2.2.2.2.2.2.1,w.2.2.2.2.2.2.2.1,w.2.2.2.2.2.2.2.2⟩
def X5:AZ:={ ins:=[Cy,T3,T3],pre:=λ(f,n,_)=>AN f/\(0:Int)<=n/\n<(List.length f:Int),out:=λ(f,n,e,_)=>[.p T3 (BK (List.getD (f:List AD) n.toNat (0,[])).2 e)],lend:=true }
attribute [local go_sem] X5
theorem Qv:Ab Tryz.prog 89 X5:=by
 refine fK [0,1,2,3,6,8,14,15,16,17,23] Tryz.func89 Tryz.ntmps89 AH ?_;rintro w0 O0 ⟨f,n,e,u⟩ d-⟨g,hn⟩;have g:AN f:=g;have hn:0<=n/\n<(f.length:Int):=hn;simp only[X5,AM];repeat'(first|exact trivial|apply eS rfl|apply AB|refine rX d ?_ ?_|refine rC ?_ ?_<;>intro a<;>try(cases a;done))
 .exact hn
 have j:=(g.2 _ (AF f (0,[]) (MY hn))).1;generalize (f.getD n.toNat (0,[])).2=L at *;refine AJ (ι:={k:Nat//k<=L.length/\BK L e=BK (L.drop k) e}) (λk=>⟨[(2,.p T3 e),(14,.p DC L),(15,.p (.int .i64) (L.length:Int)),(16,.p (.int .i64) (k.1:Int))],[]⟩) (λk=>L.length-k.1) ⟨0,IS _,rfl⟩ (eW []) (λk=>?_)
 obtain⟨k,hk,b⟩:=k;have i:=λh:k<L.length=>aQ e L h;simp only;repeat'(first|exact trivial|apply eS rfl|apply AB|refine rX d ?_ ?_|refine rC ?_ ?_<;>intro a<;>try(cases a;done))
 .exact a
 .have c:k<L.length:=by exact eV
  rw[i c,BY a]at b;exact fI d [.tmp 6] (by rw[b];exact eR)
 .omega
 .have c:k<L.length:=by exact eV
  rw[i c,As a]at b;exact⟨⟨k+1,by omega,b⟩,by simp only;omega,eW []⟩
 have c:L.drop k=[]:=On (by exact eV);rw[c]at b;exact fI d [.tmp 6] (by rw[b];first|exact eR|refine Wf ?_;rfl)
def WOk (h:AG) (w:LW):Prop:=(0<=w.cons/\w.cons<(h.1.length:Int))/\(0<=w.null/\w.null<(h.1.length:Int))
def PR:AZ:={ ins:=[ZD,Cy,T3],pre:=λ(w,f,n,_)=>WOk w.1 (lwO w)/\AN f/\CP w.1 f/\(0:Int)<=n/\n<(List.length f:Int),out:=λ(w,f,n,_)=>[.p T3 (Az w.1 (lwO w) (List.getD (f:List AD) n.toNat (0,[])))],lend:=true }
attribute [local go_sem] PR
theorem Qw:Ab Tryz.prog 91 PR:=by
 refine fK [0,1,2,3,4,6,7,8,9,28,43,56] Tryz.func91 Tryz.ntmps91 (AE Qv (AE yV AH)) ?_;rintro w0 O0 ⟨⟨h,l,c,d,dl,a,e,b,la⟩,f,n,u⟩ i-⟨j,k,m,hn⟩;have j:WOk h ⟨l,c,d,dl,a,e,b,la⟩:=j;have k:AN f:=k;have m:CP h f:=m;have hn:0<=n/\n<(f.length:Int):=hn;have o:=m _ (AF f (0,[]) (MY hn));simp only[PR,AM];repeat'(first|exact trivial|apply eS rfl|apply AB|refine rX i ?_ ?_|refine rC ?_ ?_<;>intro p<;>try(cases p;done))
 .exact hn
 .exact⟨k,hn⟩
 .exact⟨j.2,o⟩
 .have g:Az h ⟨l,c,d,dl,a,e,b,la⟩ (f.getD n.toNat (0,[]))=1:=by
   unfold Az Na F0 HF MX OA;simp only[An,DO];grind
  exact fI i [.tmp 6] (by rw[show lwO (h,l,c,d,dl,a,e,b,la)=⟨l,c,d,dl,a,e,b,la⟩ from rfl,g];exact eR)
 .exact⟨j.1,o⟩
 .have g:Az h ⟨l,c,d,dl,a,e,b,la⟩ (f.getD n.toNat (0,[]))=2:=by
   unfold Az Na F0 HF MX OA;simp only[An,DO];grind
  exact fI i [.tmp 6] (by rw[show lwO (h,l,c,d,dl,a,e,b,la)=⟨l,c,d,dl,a,e,b,la⟩ from rfl,g];exact eR)
 .exact⟨o,j.1⟩
 .have g:Az h ⟨l,c,d,dl,a,e,b,la⟩ (f.getD n.toNat (0,[]))=3:=by
   unfold Az Na F0 HF MX OA;simp only[An,DO];grind
  exact fI i [.tmp 6] (by rw[show lwO (h,l,c,d,dl,a,e,b,la)=⟨l,c,d,dl,a,e,b,la⟩ from rfl,g];exact eR)
 have g:Az h ⟨l,c,d,dl,a,e,b,la⟩ (f.getD n.toNat (0,[]))=0:=by
  unfold Az Na F0 HF MX OA;simp only[An,DO];grind
 exact fI i [.tmp 6] (by rw[show lwO (h,l,c,d,dl,a,e,b,la)=⟨l,c,d,dl,a,e,b,la⟩ from rfl,g];exact eR)
theorem A85 {a b:Int}:(if b<a then b else a)<0↔a<0\/b<0:=by split<;>omega
theorem A86 {a b:Int}:(0<=if b<a then b else a)↔0<=a/\0<=b:=by split<;>omega
def A8O:ZD.den:=(([],[]),0,0,0,0,0,0,0,0)
def JS:AZ:={ ins:=[ED],pre:=λ_=>True,out:=λ(h,_)=>[.p ZD (if Ex h=true then wdF h (AP h) else A8O),.p GK (if Ex h=true then 0 else 5)] }
attribute [local go_sem] JS
theorem MZ:Ab Tryz.prog 88 JS:=by
 refine fK [0,1,2,3,4,58] Tryz.func88 Tryz.ntmps88 (AE A84 (AE A9L (AE yV AH))) ?_;rintro w0 O0 ⟨⟨a,hf⟩,u⟩ b - -;obtain⟨f,g,i,j,k,l,m,n⟩:=Kz (a,hf);obtain⟨⟨s,t,v,w⟩,o,p,q,r⟩:=PQ (a,hf);simp only[JS,AM];repeat'(first|exact trivial|apply eS rfl|apply AB|refine rX b ?_ ?_|refine rC ?_ ?_<;>intro e<;>try(cases e;done))
 all_goals simp only[f,g,i,j,k,l,m,n,A85,A86]at *
 .refine⟨λh=>?_,λh=>?_⟩<;>simp only[TO,UX,Of,not_or]at h<;>grind
 .have c:Ex (a,hf)=false:=by
   rw[Ym];intro d;unfold Ex at d;simp only[An,DO]at d;grind
  exact fI b [.cell 2 115,.tmp 3] (by simp only[c,Ua,YZ,A8O];exact eR)
 have c:Ex (a,hf)=true:=by
  unfold Ex;simp only[An,DO];grind
 exact fI b [.cell 2 115,.tmp 3] (by simp only[c,Ut,wdF];exact eR)
end
section
attribute [local go_sem] eE JR
def ftR (h:AG) (a:Int×Int):Bool:=decide (a.1<(h.2.length:Int))
def ndR (h:AG) (x:AD):Bool:=decide (x.1<(h.1.length:Int))&&x.2.all (ftR h)
def HP (h:AG) (f:List AD):Int:=if (BC f).2≠0 then (BC f).2 else if f.all (ndR h)=false then 2 else if (CM f (BC f).1==0)=false then 3 else 0
def K0:AZ:={ ins:=[ED,Cy],pre:=λ(_,f,_)=>EA f,out:=λ(h,f,_)=>[.p GK (HP h f)] }
theorem A1D:Ab Tryz.prog 33 K0:=by
 refine fK [0,1,2,3,4,5,6,7,8,9,16,22,35,40,52,56] Tryz.func33 Tryz.ntmps33 (AE A3X (AE Qd AH)) ?_;rintro w0 O0 ⟨⟨b,hf⟩,f,u⟩ d-hs;have hs:EA f:=hs;simp only[K0,AM];repeat'(first|exact trivial|apply eS rfl|refine rX d ?_ ?_|refine rC ?_ ?_<;>intro a<;>try(cases a;done))
 .exact hs.2
 .have h1:HP (b,hf) f=(BC f).2:=by unfold HP;rw[BY a]
  exact fI d [.tmp 4] (by rw[h1];exact eR)
 have t:(BC f).2=0:=by simpa using a
 have q:=kA hs.2;have w:=hs.1;have g:HP (b,hf) f=if f.all (ndR (b,hf))=false then 2 else if (CM f (BC f).1==0)=false then 3 else 0:=by unfold HP;rw[As (by rw[t];simp)]
 refine AJ (ι:={i:Nat//i<=f.length/\(f.take i).all (ndR (b,hf))=true}) (λi=>⟨[(2,.bp 2 [] 0),(3,.bp 3 [] 0),(5,.bp 5 [] 0),(7,.p (.int .i64) (i.1:Int))],[(2,.box 31 true [.p mQ b,.p sL hf]),(3,.box 25 true [.p F6 f]),(5,.box 25 true [.p F6 (BC f).1])]⟩) (λi=>f.length-i.1) ⟨0,by simp⟩ (eW [(2,.nm 2),(3,.nm 3),(5,.nm 5)]) (λi=>?_)
 obtain⟨i,hi,l⟩:=i;have r:=λh:i<f.length=>Jq f (0,[]) (ndR (b,hf)) h;simp only;repeat'(first|exact trivial|apply eS rfl|refine rX d ?_ ?_|refine rC ?_ ?_<;>intro a<;>try(cases a;done))
 .exact a
 .have c:i<f.length:=Do.1 (by assumption);have e:f.all (ndR (b,hf))=false:=by
   rw[ADh];refine⟨_,AF f (0,[]) c,?_⟩;unfold ndR;rw[Uv (Yd.2 a)];simp
  rw[BY e]at g;exact fI d [.tmp 4] (by rw[g];exact eR)
 .have c:i<f.length:=Do.1 (by assumption);have n:=AF f (0,[]) c;have o:ndR (b,hf) (f.getD i (0,[]))=(f.getD i (0,[])).2.all (ftR (b,hf)):=by
   unfold ndR;rw[Yn (show (f.getD i (0,[])).1<(b.length:Int) from a)];rfl
  have v:(f.getD i (0,[])).2.length<=100000:=hs.2 _ n;refine AJ (ι:={k:Nat//k<=(f.getD i (0,[])).2.length/\((f.getD i (0,[])).2.take k).all (ftR (b,hf))=true}) (λk=>⟨[(2,.bp 2 [] 0),(3,.bp 3 [] 0),(5,.bp 5 [] 0),(7,.p (.int .i64) (i:Int)),(8,.bp 8 [] 0),(9,.p (.int .i64) (k.1:Int))],[(2,.box 31 true [.p mQ b,.p sL hf]),(3,.box 25 true [.p F6 f]),(5,.box 25 true [.p F6 (BC f).1]),(8,.box 93 true [.p T3 (f.getD i (0,[])).1,.p DC (f.getD i (0,[])).2])]⟩) (λk=>(f.getD i (0,[])).2.length-k.1) ⟨0,by simp⟩ (eW [(2,.nm 2),(3,.nm 3),(5,.nm 5),(8,.nm 8)]) (λk=>?_)
  obtain⟨k,hk,m⟩:=k;have s:=λh:k<(f.getD i (0,[])).2.length=>Jq (f.getD i (0,[])).2 (0,0) (ftR (b,hf)) h;simp only;repeat'(first|exact trivial|apply eS rfl|apply AB|refine rX d ?_ ?_|refine rC ?_ ?_<;>intro a<;>try(cases a;done))
  .exact a
  .have j:k<(f.getD i (0,[])).2.length:=Do.1 (by assumption);have e:f.all (ndR (b,hf))=false:=by
    rw[ADh];refine⟨_,n,?_⟩;rw[o,ADh.2 ⟨_,AF (f.getD i (0,[])).2 (0,0) j,by unfold ftR;rw[Uv (Yd.2 a)];simp⟩];simp
   rw[BY e]at g;exact fI d [.tmp 4] (by rw[g];exact eR)
  .exact eV
  .have j:k<(f.getD i (0,[])).2.length:=Do.1 (by assumption);refine⟨⟨k+1,j,?_⟩,by simp only;omega,AC [(2,.nm 2),(3,.nm 3),(5,.nm 5),(8,.nm 8)] rfl rfl ?_ ?_⟩
   .rw[s j,m];unfold ftR;exact Yn a
   .exact eN
   exact eN
  .exact eV
  have j:(f.getD i (0,[])).2.take k=(f.getD i (0,[])).2:=At (Tn.1 a);rw[j]at m;refine⟨⟨i+1,c,?_⟩,by simp only;omega,AC [(2,.nm 2),(3,.nm 3),(5,.nm 5)] rfl rfl ?_ ?_⟩
  .rw[r c,l,o,m];rfl
  .exact eN
  exact eN
 .exact⟨hs,q⟩
 .have c:f.take i=f:=At (Tn.1 (by assumption));rw[c]at l;rw[As (by rw[l];simp),BY (by simpa using a)]at g;exact fI d [.tmp 4] (by rw[g];exact eR)
 have c:f.take i=f:=At (Tn.1 (by assumption));rw[c]at l;rw[As (by rw[l];simp),As (by rw[a];simp)]at g;exact fI d [.tmp 4] (by rw[g];exact eR)
def PT (h:AG) (f:List AD):Bool:=Gy f&&HP h f==0
end
section
attribute [local go_sem] Jt MC Rz K0
def Vb (d:List AK):AG:=if d.length<=12/\(BJ d).2=0 then (BJ d).1 else (BJ Js).1
def fF:AZ:={ ins:=[T3],pre:=λ_=>True,out:=λ(t,_)=>[.p Cy [(t,[])]] }
theorem A4y:Ab Tryz.prog 142 fF:=by
 refine fK [0,2] Tryz.func142 Tryz.ntmps142 AH ?_;rintro w0 O0 ⟨t,u⟩ a - -;simp only[fF,AM];repeat'(first|exact trivial|apply eS rfl|apply AB|refine rX a ?_ ?_|refine rC ?_ ?_<;>intro b<;>try(cases b;done))
 exact fI a [.cell 2 25]
end
section
attribute [local go_sem] yW
def lJ (f:Int):List (Int×Int)->Int×Bool
 | []=>(0,false)
 | x :: l=>if x.1=f then (x.2,true) else lJ f l
def A9M (h:AG) (t:Int):List (Int×Int):=(h.1.getD t.toNat Y4).2.2.2
def EH (h:AG) (t f:Int):Int×Bool:=lJ f (A9M h t)
abbrev FI:=List Int×List Int
def G0 (h:AG) (s:FI) (n t:Int):Option FI :=
 if (Bq h (s.1.getD n.toNat 0) t).2=true then some (if (Bq h (s.1.getD n.toNat 0) t).1=s.1.getD n.toNat 0 then s else (s.1.set n.toNat (Bq h (s.1.getD n.toNat 0) t).1,s.2++[n])) else none
end
section
attribute [local go_sem] Gp j6
end
section
attribute [local go_sem] Gp j6 Qj
def lK (l:List (Int×Int)):List (Int×Bool):=l.foldl (λm a=>Fa T3 .bool a.1 true m) []
theorem X6 {b:Ty} (x k:Int) (v:b.den) (m:List (Int×b.den)):BR T3 b x (Fa T3 b k v m)=if x=k then some v else BR T3 b x m:=by
 induction m with
 | nil=>simp[Fa,BR,He]
 | cons y m g =>
  simp only[Fa];by_cases c:He T3 k y.1=true
  .rw[BY c];have d:k=y.1:=by simpa[He] using c
   simp only[BR,He,UP];by_cases a:x=k
   .rw[BY a,BY a]
   rw[As a,As a,As (by rw[<-d];exact a)]
  rw[As c];have d:¬k=y.1:=by simpa[He] using c
  simp only[BR];by_cases a:He T3 x y.1=true
  .have f:x=y.1:=by simpa[He] using a
   rw[BY a,BY a,As (by rw[f];exact λe=>d e.symm)]
  rw[As a,As a,g]
theorem A1E (x:Int) (l:List (Int×Int)):(BR T3 .bool x (lK l)).getD false=l.any λy=>y.1==x:=by
 induction l using D0 with
 | h0=>rfl
 | h1 l a c =>
  have e:lK (l++[a])=Fa T3 .bool a.1 true (lK l):=by unfold lK;rw[Yy];rfl
  rw[e,X6,AD5,<-c];by_cases h:x=a.1
  .rw[BY h,h];simp
  rw[As h];have b:¬a.1=x:=λe=>h e.symm;simp[b]
def F1 (x:AD) (n:Int):Int:=if x.1<0 then 2 else IG x.2 n
def X7:AZ:={ ins:=[HL,T3],pre:=λ_=>True,out:=λ(x,n,_)=>[.p GK (F1 x n)] }
attribute [local go_sem] X7
theorem qJ:Ab Tryz.prog 148 X7:=by
 refine fK [0,1,2,4,5,7,10,13,14,15,16,32,36] Tryz.func148 Tryz.ntmps148 AH ?_;rintro w0 O0 ⟨⟨t,l⟩,n,u⟩ d ⟨⟨-,⟨o,-⟩⟩,-⟩ -;simp only[AO]at o;simp only[X7,AM];repeat'(first|exact trivial|apply eS rfl|refine rX d ?_ ?_|refine rC ?_ ?_<;>intro b<;>try(cases b;done))
 .have h1:F1 (t,l) n=2:=BY b;exact fI d [.tmp 4] (by rw[h1];exact eR)
 have h0:F1 (t,l) n=Gn n [] l:=As (Yd.2 b);rw[h0];refine AJ (ι:={k:Nat//k<=List.length l/\Gn n [] l=Gn n ((l:List (Int×Int)).take k) ((l:List (Int×Int)).drop k)}) (λk=>⟨[(1,.p T3 n),(5,.mp 11),(13,.p DC l),(14,.p (.int .i64) (List.length l:Int)),(15,.p (.int .i64) (k.1:Int))],[(11,.mapo T3 .bool (lK ((l:List (Int×Int)).take k.1)))]⟩) (λk=>List.length l-k.1) ⟨0,IS _,rfl⟩ (AC [(11,.nm 11)] rfl rfl ?_ ?_) (λk=>?_)
 .refine eM ?_;rfl
 .exact eN
 obtain⟨k,hk,f⟩:=k;have g:=λh:k<l.length=>Ov n l h;have q:=λh:k<l.length=>Ju (λ(m:List (Int×Bool)) (a:Int×Int)=>Fa T3 .bool a.1 true m) l (0,0) [] h;have i:=λx=>A1E x (List.take k (l:List (Int×Int)));simp only;repeat'(first|exact trivial|apply eS rfl|apply AB|refine rX d ?_ ?_|refine rC ?_ ?_<;>intro b<;>try(cases b;done))
 .exact b
 .have c:k<List.length l:=by exact eV
  have e:Gn n [] l=2:=by rw[f,g c,BY (by omega)]
  exact fI d [.tmp 4] (by rw[e];exact eR)
 .have c:k<List.length l:=by exact eV
  rw[i]at b;have e:Gn n [] l=4:=by rw[f,g c,As (by omega),BY b]
  exact fI d [.tmp 4] (by rw[e];exact eR)
 .exact eV
 .have c:k<List.length l:=by exact eV
  rw[i]at b;refine⟨⟨k+1,c,by rw[f,g c,As (by omega),As (by rw[b];simp)]⟩,by simp only;omega,AC [(11,.nm 11)] rfl rfl ?_ ?_⟩
  .refine eM ?_;exact(q c).symm
  exact eN
 have j:List.drop k (l:List (Int×Int))=[]:=On (by exact eV);have e:Gn n [] l=0:=by rw[f,j];rfl
 exact fI d [.tmp 4] (by rw[e];exact eR)
theorem lL {n:Int}:∀ {l seen:List (Int×Int)},Gn n seen l=0->(∀a∈l,∀b∈seen,b.1≠a.1)/\NdA l
 | [],_,_=>⟨λa ha=>(by cases ha),List.Pairwise.nil⟩
 | x :: l,seen,h=>by
  simp only[Gn]at h;split at h
  .cases h
  split at h
  .cases h
  rename_i h1 g;obtain⟨c,f⟩:=lL h;refine⟨λa ha b d=>?_,UM.2 ⟨λa ha e=>c a ha x (by simp) e,f⟩⟩;rcases By.1 ha with rfl|ha
  .intro e;exact g (UA.2 ⟨b,d,by simp[e]⟩)
  exact c a ha b (by simp[d])
theorem lM {m:Int}:∀ {f:List AD},HE m f=0->∀x∈f,NdA x.2
 | [],_,x,b=>by cases b
 | y :: f,h,x,b=>by
  simp only[HE]at h;split at h
  .cases h
  split at h
  .rename_i h1 a;exact absurd h a
  rename_i h1 a;have a:IG y.2 m=0:=IN a;rcases By.1 b with rfl|b
  .exact(lL a).2
  exact lM h x b
def F2 (f:List AD):Prop:=∀x∈f,x.2.length<=200
theorem lN {f:List AD} (h:CN f=0) (hs:F2 f):NdF f:=by
 unfold CN at h;split at h
 .cases h
 split at h
 .cases h
 exact λx a=>⟨lM h x a,hs x a⟩
def K5:AZ:={ ins:=[Cy],pre:=λ(f,_)=>F2 f,out:=λ(f,_)=>[.p Cy (BC f).1,.p GK (BC f).2] }
attribute [local go_sem] K5
theorem bD:Ab Tryz.prog 107 K5:=by
 refine fK [0,1,2,3,5,6,10,15,18,19,20,21,30] Tryz.func107 Tryz.ntmps107 (AE qJ (AE R6 AH)) ?_;rintro w0 O0 ⟨f,u⟩ c ⟨⟨n,-⟩,-⟩ hs;simp only[AO]at n;have hs:F2 f:=hs;have l:Xc f:=λx o=>Tp (hs x o) (by omega);simp only[K5,AM];repeat'(first|exact trivial|apply eS rfl|refine rX c ?_ ?_|refine rC ?_ ?_<;>intro a<;>try(cases a;done))
 .have h1:CN f=1:=by
   have h:f.length=0:=by exact eV
   unfold CN;rw[BY h]
  have e:BC f=([],1):=by unfold BC;rw[h1];rfl
  exact fI c [.cell 2 25,.tmp 3] (by rw[e];exact eR)
 .have h1:CN f=7:=by
   have h:¬f.length=0:=by exact eV
   have i:4096<f.length:=by exact eV
   unfold CN;rw[As h,BY i]
  have e:BC f=([],7):=by unfold BC;rw[h1];rfl
  exact fI c [.cell 2 25,.tmp 3] (by rw[e];exact eR)
 have h1:CN f=HE f.length f:=by
  have h:¬f.length=0:=by exact eV
  have i:¬4096<f.length:=by exact eV
  unfold CN;rw[As h,As i]
 have j:0<f.length:=by exact eV
 refine AJ (ι:={k:Nat//k<=f.length/\HE f.length (f.drop k)=CN f}) (λk=>⟨[(1,.bp 1 [] 0),(2,.bp 2 [] 0),(18,.p F6 f),(19,.p (.int .i64) (f.length:Int)),(20,.p (.int .i64) (k.1:Int))],[(1,.box 25 true [.p F6 f]),(2,.box 25 true [.raw (.slice none 0 0)])]⟩) (λk=>f.length-k.1) ⟨0,by simp[h1]⟩ (eW [(1,.nm 1),(2,.nm 2)]) (λk=>?_)
 obtain⟨k,hk,hf⟩:=k;simp only;repeat'(first|exact trivial|apply eS rfl|apply AB|refine rX c ?_ ?_|refine rC ?_ ?_<;>intro a<;>try(cases a;done))
 .exact a
 .have g:k<f.length:=by exact eV
  have a:¬F1 (f.getD k (0,[])) f.length=0:=a;have m:CN f=F1 (f.getD k (0,[])) f.length:=by
   rw[<-hf,II _ _ g];unfold F1 at a ⊢;by_cases b:(f.getD k (0,[])).1<0
   .rw[BY b,BY b]
   rw[As b]at a;rw[As b,As b,BY a]
  have e:BC f=([],F1 (f.getD k (0,[])) f.length):=by unfold BC;rw[m,As a]
  exact fI c [.cell 2 25,.tmp 3] (by rw[e];exact eR)
 .exact eV
 .have g:k<f.length:=by exact eV
  have a:F1 (f.getD k (0,[])) f.length=0:=by simpa using a
  refine⟨⟨k+1,g,?_⟩,by simp only;omega,AC [(1,.nm 1),(2,.nm 2)] rfl rfl ?_ ?_⟩
  .rw[<-hf,II _ _ g];unfold F1 at a;by_cases b:(f.getD k (0,[])).1<0
   .rw[BY b]at a;cases a
   rw[As b]at a;rw[As b,As (by rw[a];simp)]
  .exact eN
  exact eN
 .have d:CN f=0:=by rw[<-hf,On (by exact eV)];rfl
  exact⟨(IL d l).1,lN d hs,Do.2 j⟩
 have d:CN f=0:=by rw[<-hf,On (by exact eV)];rfl
 have e:BC f=(AL (DV f) 0,0):=by unfold BC;rw[BY d,kL (IL d l).1 (lN d hs) (AA2 0) (Do.2 j)]
 exact fI c [.cell 2 25,.tmp 3] (by rw[e];exact eR)
end
def Qx (h:AG) (f:Int):Int:=(h.2.getD f.toNat (ByteArray.empty,0)).2
def X8 (h:AG) (n:Int):List (Int×Int)->FI->Option FI
 | [],s=>some s
 | a :: l,s=>(G0 h s n (Qx h a.1)).bind (X8 h n l)
def ZM (h:AG) (n:Int):List (Int×Int)->FI->Option FI
 | [],s=>some s
 | a :: l,s=>if (EH h (s.1.getD n.toNat 0) a.1).2=true then (G0 h s a.2 (EH h (s.1.getD n.toNat 0) a.1).1).bind (ZM h n l) else none
def TH (h:AG) (f:List AD) (n:Int) (s:FI):Option FI:=(X8 h n (f.getD n.toNat (0,[])).2 s).bind (ZM h n (f.getD n.toNat (0,[])).2)
def wlF (h:AG) (f:List AD):Nat->Nat->FI->Option (List Int)
 | 0,_,_=>none
 | k+1,i,s=>if i<s.2.length then (TH h f (s.2.getD i 0) s).bind (wlF h f k (i+1)) else some s.1
def DW (f:List AD):List Int:=f.map λx=>x.1
def TJ (f:List AD):List Int:=(List.range f.length).map λi:Nat=>(i:Int)
def FU (f:List AD) (ty:List Int):List AD:=(List.range f.length).map λi=>(ty.getD i 0,(f.getD i (0,[])).2)
structure HFt (h:AG):Prop where
 int:∀x∈h.2,0<=x.2/\x.2<(h.1.length:Int)
 val:∀t∈h.1,∀p∈t.2.2.2,0<=p.2/\p.2<(h.1.length:Int)
structure Qy (h:AG) (m:Nat) (s:FI):Prop where
 len:s.1.length=m
 ty:∀t∈s.1,0<=t/\t<(h.1.length:Int)
 wt:∀n∈s.2,0<=n/\n<(m:Int)
theorem Qy.get {h:AG} {m:Nat} {s:FI} (hs:Qy h m s) {n:Int} (n0:0<=n) (n1:n<(m:Int)):0<=s.1.getD n.toNat 0/\s.1.getD n.toNat 0<(h.1.length:Int):=by
 have a:n.toNat<s.1.length:=by rw[hs.len];omega
 rw[AS,AT a];exact hs.ty _ (UJ a)
def A1F (h:AG) (t:Int):Nat:=((List.range h.1.length).filter λi:Nat=>BB h t (i:Int)).length
def zT (h:AG) (ty:List Int):Nat:=(ty.map (A1F h)).sum
theorem bE {α:Type} {p q:α->Bool}:∀ {l:List α},(∀x∈l,q x=true->p x=true)->(∃b∈l,p b=true/\q b=false)->(l.filter q).length<(l.filter p).length
 | [],_,⟨b,c,_⟩=>by cases c
 | x :: l,h1,⟨b,c,f,g⟩=>by
  have i:∀ {l:List α},(∀x∈l,q x=true->p x=true)->(l.filter q).length<=(l.filter p).length:=by
   intro l h;induction l with
   | nil=>exact Is _
   | cons y l j =>
    have e:=j λz d=>h z (NO _ d);rw[Ue,Ue];by_cases a:q y=true
    .rw[BY a,BY (h y (by simp) a)];simp only[OS];omega
    rw[As a];split
    .simp only[OS];omega
    exact e
  rw[Ue,Ue];rcases By.1 c with rfl|c
  .rw[As (by rw[g];simp),BY f];have:=i λz d=>h1 z (NO _ d);simp only[OS];omega
  have e:=bE (λz d=>h1 z (NO _ d)) ⟨b,c,f,g⟩;by_cases a:q x=true
  .rw[BY a,BY (h1 x (by simp) a)];simp only[OS];omega
  rw[As a];split
  .simp only[OS];omega
  exact e
theorem Vc {h:AG} (hk:Gm h) {a:Int} (b:0<=a) (c:a<(h.1.length:Int)):BB h a a=true:=(CZ hk b c b c).2 λ_ h=>h
theorem K6 {h:AG} (hk:Gm h) {a b c:Int} (d:0<=a) (e:a<(h.1.length:Int)) (f:0<=b) (b1:b<(h.1.length:Int)) (c0:0<=c) (c1:c<(h.1.length:Int)) (h1:BB h a b=true) (g:BB h b c=true):BB h a c=true :=
 (CZ hk d e c0 c1).2 λi hi=>(CZ hk d e f b1).1 h1 i ((CZ hk f b1 c0 c1).1 g i hi)
theorem A87 {h:AG} (hk:Gm h) (hi:NY h) {a m:Int} (b:0<=a) (c:a<(h.1.length:Int)) (f:0<=m) (g:m<(h.1.length:Int)) (hs:BB h a m=true) (i:m≠a):A1F h m<A1F h a:=by
 refine bE (λx d e=>?_) ⟨a.toNat,Tx.2 (by omega),?_,?_⟩
 .have d:=Tx.1 d;exact K6 hk b c f g (VA _) (by omega) hs e
 .rw[Yb b];exact Vc hk b c
 rw[Yb b];cases e:BB h m a with
 | false=>rfl
 | true=>exact absurd (hi m a f g b c e hs) i
theorem zU {α:Type} (g:α->Nat) (d:α):∀ {l:List α} {i:Nat} {v:α},i<l.length->((l.set i v).map g).sum+g (l.getD i d)=(l.map g).sum+g v
 | [],i,v,h=>by simp at h
 | x :: l,0,v,h=>by simp only[ADp,UD,List.sum_cons,List.getD_cons_zero];omega
 | x :: l,i+1,v,h=>by
  have:=zU g d (l:=l) (i:=i) (v:=v) (by simpa using h);simp only[AE1,UD,List.sum_cons,List.getD_cons_succ];omega
theorem GU {h:AG} (hk:Gm h) (hi:NY h) {m:Nat} {s b:FI} (hs:Qy h m s) {n t:Int} (n0:0<=n) (n1:n<(m:Int)) (o:0<=t) (p:t<(h.1.length:Int)) (e:G0 h s n t=some b) :
  Qy h m b/\zT h b.1+b.2.length<=zT h s.1+s.2.length/\s.2.length<=b.2.length:=by
 obtain⟨c,d⟩:=hs.get n0 n1;unfold G0 at e;split at e
 .rename_i j;obtain⟨f,g,l,r⟩:=(MF hk c d o p).1 j;generalize (Bq h (s.1.getD n.toNat 0) t).1=v at *;injection e with e
  split at e
  .subst e;exact⟨hs,Is _,Is _⟩
  rename_i k;subst e;have q:=A87 hk hi c d f g l k;have i:n.toNat<s.1.length:=by rw[hs.len];omega
  have hp:=zU (A1F h) 0 (v:=v) i;refine⟨⟨by simp only[UU];exact hs.len,λx a=>?_,λx a=>?_⟩,?_,by simp⟩
  .rcases Yo a with a|rfl
   .exact hs.ty x a
   exact⟨f,g⟩
  .rcases IF.1 a with a|a
   .exact hs.wt x a
   rw[Tu.1 a];exact⟨n0,n1⟩
  unfold zT;simp only[A0,GO];omega
 cases e
def Ma (h:AG) (m:Nat) (a:Int×Int):Prop:=(0<=a.1/\a.1<(h.2.length:Int))/\0<=a.2/\a.2<(m:Int)
theorem Qz {h:AG} (hf:HFt h) {f:Int} (b:0<=f) (c:f<(h.2.length:Int)):0<=Qx h f/\Qx h f<(h.1.length:Int):=by
 have a:f.toNat<h.2.length:=by omega
 unfold Qx;rw[AS,AT a];exact hf.int _ (UJ a)
theorem bF {f:Int}:∀ {l:List (Int×Int)},(lJ f l).2=true->(f,(lJ f l).1)∈l
 | [],h=>by cases h
 | x :: l,h=>by
  unfold lJ at h ⊢;split
  .rename_i e;rw[<-e];simp
  rename_i e;rw[As e]at h;exact NO _ (bF h)
theorem A1G {h:AG} {t:Int} (a:0<=t) (b:t<(h.1.length:Int)):h.1.getD t.toNat Y4∈h.1:=AF h.1 Y4 (by omega)
theorem Mb {h:AG} (hf:HFt h) {t f:Int} (a:0<=t) (b:t<(h.1.length:Int)) (e:(EH h t f).2=true):0<=(EH h t f).1/\(EH h t f).1<(h.1.length:Int) :=
 hf.val _ (A1G a b) _ (bF e)
theorem Q0 {h:AG} (hk:Gm h) (hi:NY h) (hf:HFt h) {m:Nat} {n:Int} (n0:0<=n) (n1:n<(m:Int)):∀ {l:List (Int×Int)} {s c:FI},(∀a∈l,Ma h m a)->Qy h m s->X8 h n l s=some c ->
  Qy h m c/\zT h c.1+c.2.length<=zT h s.1+s.2.length/\s.2.length<=c.2.length
 | [],s,c,_,hs,e=>by
  injection e with e
  subst e;exact⟨hs,Is _,Is _⟩
 | a :: l,s,c,f,hs,e=>by
  unfold X8 at e;cases d:G0 h s n (Qx h a.1) with
  | none=>rw[d]at e;cases e
  | some s1 =>
   rw[d]at e;obtain⟨⟨g,i⟩,-⟩:=f a (by simp);obtain⟨o,p⟩:=Qz hf g i;obtain⟨j,r,t⟩:=GU hk hi hs n0 n1 o p d;obtain⟨q,u,v⟩:=Q0 hk hi hf n0 n1 (λb k=>f b (by simp[k])) j e;exact⟨q,by omega,by omega⟩
theorem Vd {h:AG} (hk:Gm h) (hi:NY h) (hf:HFt h) {m:Nat} {n:Int} (n0:0<=n) (n1:n<(m:Int)):∀ {l:List (Int×Int)} {s c:FI},(∀a∈l,Ma h m a)->Qy h m s->ZM h n l s=some c ->
  Qy h m c/\zT h c.1+c.2.length<=zT h s.1+s.2.length/\s.2.length<=c.2.length
 | [],s,c,_,hs,e=>by
  injection e with e
  subst e;exact⟨hs,Is _,Is _⟩
 | a :: l,s,c,g,hs,e=>by
  unfold ZM at e;split at e
  .rename_i o;obtain⟨j,f⟩:=hs.get n0 n1;obtain⟨p,q⟩:=Mb hf j f o;cases d:G0 h s a.2 (EH h (s.1.getD n.toNat 0) a.1).1 with
   | none=>rw[d]at e;cases e
   | some s1 =>
    rw[d]at e;obtain⟨-,i,b1⟩:=g a (by simp);obtain⟨f,t,u⟩:=GU hk hi hs i b1 p q d;obtain⟨r,v,w⟩:=Vd hk hi hf n0 n1 (λb k=>g b (by simp[k])) f e;exact⟨r,by omega,by omega⟩
  cases e
def X9 (h:AG) (f:List AD):Prop:=∀x∈f,∀a∈x.2,Ma h f.length a
theorem Q1 {h:AG} {f:List AD} (ha:X9 h f) {n:Int} (n0:0<=n) (n1:n<(f.length:Int)):∀a∈(f.getD n.toNat (0,[])).2,Ma h f.length a:=ha _ (AF f (0,[]) (by omega))
theorem lO {h:AG} (hk:Gm h) (hi:NY h) (hf:HFt h) {f:List AD} (ha:X9 h f) {n:Int} (n0:0<=n) (n1:n<(f.length:Int)) {s a:FI} (hs:Qy h f.length s) (e:TH h f n s=some a) :
  Qy h f.length a/\zT h a.1+a.2.length<=zT h s.1+s.2.length/\s.2.length<=a.2.length:=by
 unfold TH at e;cases b:X8 h n (f.getD n.toNat (0,[])).2 s with
 | none=>rw[b]at e;cases e
 | some s1 =>
  rw[b]at e;obtain⟨c,g,i⟩:=Q0 hk hi hf n0 n1 (Q1 ha n0 n1) hs b;obtain⟨d,j,k⟩:=Vd hk hi hf n0 n1 (Q1 ha n0 n1) c e;exact⟨d,by omega,by omega⟩
theorem A88 (h:AG) (t:Int):A1F h t<=h.1.length:=by
 unfold A1F;exact Tp (Ul _ _) (by simp)
theorem A4z (h:AG):∀ty:List Int,zT h ty<=ty.length*h.1.length
 | []=>by simp[zT]
 | t :: ty=>by
  have h1:=A4z h ty;have a:=A88 h t;unfold zT at h1 ⊢;simp only[UD,List.sum_cons,OS,ADC,Nat.one_mul];omega
def bG (h:AG) (f:List AD):Nat:=f.length*h.1.length+f.length+1
def JT (h:AG) (f:List AD):Option (List Int):=wlF h f (bG h f) 0 (DW f,TJ f)
def SI (h:AG) (f:List AD):List AD×Bool:=match JT h f with
 | some ty=>(FU f ty,true)
 | none=>([],false)
theorem A8R {h:AG} {f:List AD} (a:∀x∈f,0<=x.1/\x.1<(h.1.length:Int)):Qy h f.length (DW f,TJ f):=by
 refine⟨by simp[DW],λt h1=>?_,λn hn=>?_⟩
 .obtain⟨x,b,rfl⟩:=If.1 h1;exact a x b
 obtain⟨i,hi,rfl⟩:=If.1 hn;have:=Tx.1 hi;omega
theorem A9N (h:AG) (f:List AD):zT h (DW f)+(TJ f).length+1<=bG h f:=by
 have:=A4z h (DW f);unfold bG;rw[show (DW f).length=f.length by simp[DW]]at this;rw[show (TJ f).length=f.length by simp[TJ]];omega
section
attribute [local go_sem] K5 XQ
end
section
attribute [local go_sem] XQ
def SJ (h:AG) (f:List AD) (t:Int):List (Int×Int)->Int
 | []=>0
 | a :: l=>if (EH h t a.1).2=false then 10 else if BB h (EH h t a.1).1 (f.getD a.2.toNat (0,[])).1=false then 11 else SJ h f t l
def Mc (h:AG) (f:List AD):List AD->Int
 | []=>0
 | x :: l=>if SJ h f x.1 x.2=0 then Mc h f l else SJ h f x.1 x.2
def fG (h:AG) (f:List AD):Int:=if HP h f=0 then Mc h f f else HP h f
end
section
attribute [local go_sem] K0 QN
theorem A4A {h:AG} (hk:Gm h) {a b:Int} (c:0<=a) (d:a<(h.1.length:Int)) (e:0<=b) (b1:b<(h.1.length:Int)):Eh (Bk h b) (Bk h a)=BB h a b:=by
 have f:=hk.1.wds _ (Cm c d);have g:=hk.1.wds _ (Cm e b1);rw[ADd,XL g f];exact(CZ hk c d e b1).symm
def fH:AZ:={ ins:=[ED,T3,T3],pre:=λ(h,a,b,_)=>(((0:Int)<=a/\a<(List.length (h:AG).1:Int))/\((0:Int)<=b/\b<(List.length (h:AG).1:Int)))/\Gm h,out:=λ(h,a,b,_)=>[.p .bool (BB h a b)],lend:=true }
attribute [local go_sem] fH
theorem Q2:Ab Tryz.prog 104 fH:=by
 refine fK [0,1,2,3,6] Tryz.func104 Tryz.ntmps104 (AE Rm AH) ?_;rintro w0 O0 ⟨⟨e,hf⟩,a,b,u⟩ d-⟨⟨ha,c⟩,hk⟩;have hk:Gm (e,hf):=hk;have f:=A4A hk ha.1 ha.2 c.1 c.2;have g:(Bk (e,hf) b).length<=100000:=Tp (hk.1.wid _ (Cm c.1 c.2)) (by omega);simp only[fH,AM];repeat'(first|exact trivial|apply eS rfl|refine rX d ?_ ?_)
 .exact⟨c,ha,g⟩
 exact fI d [.tmp 6] (by rw[<-f];unfold Bk;exact eR)
end
section
open Go
end
theorem D6 (f:List AD) (ty:List Int):(FU f ty).length=f.length:=by simp[FU]
theorem J4 (f:List AD) (ty:List Int) {i:Nat} (h:i<f.length):(FU f ty).getD i (0,[])=(ty.getD i 0,(f.getD i (0,[])).2):=by
 unfold FU;simp[AS,h]
section
open Go
end
structure MI (m:List (Int×Bool)) (l:List Bool):Prop where
 nd:(m.map (·.1)).Nodup
 get:∀k:Int,BR T3 .bool k m=if 0<=k/\l.getD k.toNat false=true then some true else none
theorem zV (k:Int) (v:Bool):∀ {m:List (Int×Bool)},(m.map (·.1)).Nodup->((Fa T3 .bool k v m).map (·.1)).Nodup/\∀x,x∈(Fa T3 .bool k v m).map (·.1)->x=k\/x∈m.map (·.1)
 | [],_=>by simp[Fa]
 | y :: m,h=>by
  rw[UD,US]at h;unfold Fa;split
  .rename_i e;have e:k=y.1:=by simpa[He] using e
   refine⟨?_,λx a=>?_⟩
   .rw[UD,US,e];exact h
   rcases By.1 a with a|a
   .exact .inl a
   exact .inr (NO _ a)
  rename_i e;have e:¬k=y.1:=by simpa[He] using e
  obtain⟨c,b⟩:=zV k v h.2;refine⟨?_,λx a=>?_⟩
  .rw[UD,US];refine⟨λd=>?_,c⟩;rcases b _ d with a|a
   .exact e a.symm
   exact h.1 a
  rcases By.1 a with a|a
  .exact .inr (by rw[a];simp)
  exact(b x a).imp id λg=>NO _ g
theorem lQ (k:Int):∀m:List (Int×Bool),(n8 T3 .bool k m).Sublist m
 | []=>List.Sublist.refl _
 | y :: m=>by
  unfold n8;split
  .exact List.sublist_cons_self _ _
  exact(lQ k m).cons_cons _
theorem bH {x:Int}:∀ {m:List (Int×Bool)},x∉m.map (·.1)->BR T3 .bool x m=none
 | [],_=>rfl
 | y :: m,h=>by
  unfold BR;rw[As (by
   intro e;have e:x=y.1:=by simpa[He] using e
   exact h (by rw[e];simp))]
  exact bH λa=>h (NO _ a)
theorem bI (x k:Int):∀ {m:List (Int×Bool)},(m.map (·.1)).Nodup->BR T3 .bool x (n8 T3 .bool k m)=if x=k then none else BR T3 .bool x m
 | [],_=>by simp[n8,BR]
 | y :: m,h=>by
  rw[UD,US]at h;unfold n8;split
  .rename_i e;have e:k=y.1:=by simpa[He] using e
   by_cases a:x=k
   .rw[BY a,a,e];exact bH h.1
   rw[As a];have c:¬x=y.1:=by rw[<-e];exact a
   simp[BR,He,c]
  rename_i e;have e:¬k=y.1:=by simpa[He] using e
  have f:=bI x k h.2;by_cases b:x=y.1
  .have d:¬x=k:=by rw[b];exact λg=>e g.symm
   rw[As d];simp[BR,He,b]
  have hn:¬He T3 x y.1=true:=by simpa[He] using b
  simp only[BR];rw[As hn,As hn,f]
theorem MI.zero:MI [] (List.replicate 0 true):=⟨List.nodup_nil,λk=>by simp[BR]⟩
theorem MI.put {m:List (Int×Bool)} {i:Nat} (h:MI m (List.replicate i true)):MI (Fa T3 .bool (i:Int) true m) (List.replicate (i+1) true):=by
 refine⟨(zV _ _ h.nd).1,λ(k:Int)=>?_⟩;rw[X6,h.get];by_cases hk:k=(i:Int)
 .rw[BY hk,BY];subst hk;refine⟨VA _,?_⟩;simp[AS,Yx]
 rw[As hk];have e:(0<=k/\(List.replicate i true).getD k.toNat false=true)↔(0<=k/\(List.replicate (i+1) true).getD k.toNat false=true):=by
  simp only[AS,Yx];constructor
  .rintro⟨a,b⟩;refine⟨a,?_⟩;split at b
   .rw[BY (by omega)];rfl
   simp at b
  rintro⟨a,b⟩;refine⟨a,?_⟩;split at b
  .rw[BY (by omega)];rfl
  simp at b
 by_cases c:0<=k/\(List.replicate i true).getD k.toNat false=true
 .rw[BY c,BY (e.1 c)]
 rw[As c,As λg=>c (e.2 g)]
theorem MI.del {m:List (Int×Bool)} {l:List Bool} (h:MI m l) (i:Nat):MI (n8 T3 .bool (i:Int) m) (l.set i false):=by
 refine⟨h.nd.sublist ((lQ _ m).map _),λ(k:Int)=>?_⟩;rw[bI _ _ h.nd,h.get];by_cases hk:k=(i:Int)
 .subst hk;rw[BY rfl,As];rintro⟨-,b⟩;rw[To]at b;simp only[AS,Up]at b;rw[BY trivial]at b;split at b<;>simp at b
 rw[As hk];by_cases a:0<=k
 .have c:¬i=k.toNat:=by omega
  simp only[AS,Up];rw[As c]
 rw[As λg=>a g.1,As λg=>a g.1]
theorem NM {x:Int}:∀ {m:List (Int×Bool)},x∈m.map (·.1)->BR T3 .bool x m≠none
 | y :: m,h=>by
  unfold BR;split
  .simp
  rename_i e;rcases By.1 h with h|h
  .exact absurd (by simp[He,h]) e
  exact NM h
theorem MI.len {m:List (Int×Bool)} {l:List Bool} (h:MI m l):m.length<=l.length:=by
 have h1:((m.map (·.1)).map Int.toNat).Nodup:=by
  rw[List.Nodup,Uz];refine h.nd.imp_of_mem λ{a b:Int} ha d i e=>i ?_;have h1:=NM ha;have c:=NM d;rw[h.get]at h1 c;have n:0<=a:=IN λg=>h1 (As λq=>g q.1);have o:0<=b:=IN λg=>c (As λq=>g q.1);omega
 have:=Dz l.length _ h1 (λj f=>by
  obtain⟨x,k,rfl⟩:=If.1 f;have h1:=NM k;rw[h.get]at h1;refine IN λhn=>h1 (As λg=>?_);have:=g.2;rw[AS,Ts (by omega)]at this;cases this)
 simpa using this
section
open Go
end
def A1H (N:List AD) (i:Nat) (v:Int×Int):List AD:=N.set i ((N.getD i (0,[])).1,(N.getD i (0,[])).2++[(v.1,(N.length:Int))])++[(v.2,[])]
theorem A4B (N:List AD) (i:Nat) (v:Int×Int):(A1H N i v).length=N.length+1:=by simp[A1H]
structure TI2 (h:AG) (m i k:Nat) (N:List AD):Prop where
 len:N.length<=m
 ty:∀x∈N,0<=x.1/\x.1<(h.1.length:Int)
 lo:∀j,j<i->(N.getD j (0,[])).2.length<=200
 at':(N.getD i (0,[])).2.length<=100+k
 hi:∀j,i<j->(N.getD j (0,[])).2.length<=100
theorem A4C {α:Type} (l:List α) (x d:α) (j:Nat):(l++[x]).getD j d=if j<l.length then l.getD j d else if j=l.length then x else d:=by
 simp only[AS];by_cases h:j<l.length
 .rw[BY h,Tz h]
 rw[As h,UC (by omega)];by_cases e:j=l.length
 .rw[BY e,e,Yq];rfl
 rw[As e,Ts (by simp only[GO];omega)];rfl
theorem NP {α:Type} (l:List α) (x d:α) {i:Nat} (h:i<l.length) (j:Nat):(l.set i x).getD j d=if j=i then x else l.getD j d:=by
 simp only[AS,Up];by_cases e:i=j
 .rw[BY e,BY h,BY e.symm];rfl
 rw[As e,As (show ¬j=i by omega)]
theorem A4D {N:List AD} {i:Nat} (h:i<N.length) (v:Int×Int) (j:Nat):(A1H N i v).getD j (0,[])=if j=i then ((N.getD i (0,[])).1,(N.getD i (0,[])).2++[(v.1,(N.length:Int))]) else if j=N.length then (v.2,[]) else N.getD j (0,[]):=by
 unfold A1H;rw[A4C,NP _ _ _ h,UU];by_cases a:j=i
 .rw[BY a,BY (by omega),BY a]
 rw[As a,As a];by_cases c:j<N.length
 .rw[BY c,As (by omega)]
 rw[As c];by_cases b:j=N.length
 .rw[BY b,BY b]
 rw[As b,As b,AS,Ts (by omega)];rfl
theorem TI2.add {h:AG} {m i k:Nat} {N:List AD} (b:TI2 h m i k N) (hi:i<N.length) (f:4096<=m) (e:N.length<4096) {v:Int×Int} (v0:0<=v.2) (v1:v.2<(h.1.length:Int)):TI2 h m i (k+1) (A1H N i v):=by
 have c:=λj=>A4D hi v j;refine⟨by rw[A4B];omega,λx a=>?_,λj d=>?_,?_,λj d=>?_⟩
 .unfold A1H at a;rcases IF.1 a with a|a
  .rcases Yo a with a|rfl
   .exact b.ty x a
   exact(b.ty (N.getD i (0,[])) (AF N (0,[]) hi) :)
  rw[Tu.1 a];exact⟨v0,v1⟩
 .rw[c,As (by omega),As (by omega)];exact b.lo j d
 .rw[c,BY rfl];have:=b.at';simp only[A0,GO];omega
 rw[c,As (by omega)];split
 .simp
 exact b.hi j d
theorem TI2.skip {h:AG} {m i k:Nat} {N:List AD} (a:TI2 h m i k N):TI2 h m i (k+1) N:=⟨a.len,a.ty,a.lo,by have:=a.at';omega,a.hi⟩
theorem TI2.next {h:AG} {m i k:Nat} {N:List AD} (a:TI2 h m i k N) (hk:k<=100):TI2 h m (i+1) 0 N:=⟨a.len,a.ty,λj b=>by
 by_cases e:j=i
 .have:=a.at';rw[e];omega
 exact a.lo j (by omega),a.hi (i+1) (by omega),λj b=>a.hi j (by omega)⟩
section
attribute [local go_sem] K5
attribute [local go_sem] A2X AAu ne_eq not_false_eq_true
end
section
attribute [local go_sem] Jt MC Rz K0
end
section
open Go
end
section
open Go
end
structure CI (n:Nat) (o:List Int) (ar:List (List (Int×Int))) (W:List (Int×Int)):Prop where
 lo:o.length=n
 la:ar.length=n
 rep:∀k:Nat,k<n->0<=o.getD k 0/\o.getD k 0<=(k:Int)/\o.getD (o.getD k 0).toNat 0=o.getD k 0
 wr:∀w∈W,(0<=w.1/\w.1<(n:Int))/\(0<=w.2/\w.2<(n:Int))
 ta:∀k,∀a∈ar.getD k [],0<=a.2/\a.2<(n:Int)
theorem CI.rng {n:Nat} {o:List Int} {ar:List (List (Int×Int))} {W:List (Int×Int)} (h:CI n o ar W) {x:Int} (c:0<=x) (d:x<(n:Int)):0<=o.getD x.toNat 0/\o.getD x.toNat 0<(n:Int)/\o.getD (o.getD x.toNat 0).toNat 0=o.getD x.toNat 0:=by
 obtain⟨h1,b,a⟩:=h.rep x.toNat (by omega);exact⟨h1,by omega,a⟩
section
variable {n:Nat} {o:List Int} {ar:List (List (Int×Int))} {W:List (Int×Int)} {x y:Int}
end
section
attribute [local go_sem] Wm A3e
def A8S (b:List Int):List ID->Nat->Int×Bool
 | [],_=>(0,false)
 | t :: r,k=>if t.2.1=b then ((k:Int),true) else A8S b r (k+1)
def A4E (h:AG) (a b:Int):Int×Bool:=A8S (GM (Bk h a) (Bk h b)) h.1 0
end
section
def AD4 (h:AG) (l:List AD) (c:List Int):Nat->Option (List Int)
 | 0=>some (List.replicate l.length 0)
 | i+1=>match AD4 h l c i with
  | none=>none
  | some o=>if (A4E h (o.getD (c.getD i 0).toNat 0) (l.getD i (0,[])).1).2=true then some (o.set (c.getD i 0).toNat (A4E h (o.getD (c.getD i 0).toNat 0) (l.getD i (0,[])).1).1) else none
def A4F (h:AG) (l:List AD) (c:List Int):List Int×Bool:=match AD4 h l c l.length with
 | none=>([],false)
 | some o=>((List.range l.length).map λ(k:Nat)=>o.getD (c.getD k 0).toNat 0,true)
def ADB (n:Nat) (c:List Int):Prop:=c.length=n/\∀k:Nat,k<n->0<=c.getD k 0/\c.getD k 0<=(k:Int)/\c.getD (c.getD k 0).toNat 0=c.getD k 0
def A4G:AZ:={ ins:=[ED,F6,FA],pre:=λ(h,l,c,_)=>ADB (List.length l) c/\CP h l/\0<List.length (h:AG).1/\List.length l<=100000/\(∀x∈(h:AG).1,x.2.1.length<=100000),out:=λ(h,l,c,_)=>[.p FA (A4F h l c).1,.p .bool (A4F h l c).2] }
attribute [local go_sem] A4G
end
section
attribute [local go_sem] Qg
attribute [local go_sem] A2X AAu ne_eq not_false_eq_true
end
inductive EQ (n:Nat) (o:List Int) (W:List (Int×Int)):Int->Int->Prop
 | cls {x y:Int} (x0:0<=x) (x1:x<(n:Int)) (y0:0<=y) (y1:y<(n:Int)) (h:o.getD x.toNat 0=o.getD y.toNat 0):EQ n o W x y
 | wt {x y:Int} (h:(x,y)∈W):EQ n o W x y
 | symm {x y:Int} (h:EQ n o W x y):EQ n o W y x
 | trans {x y z:Int} (h:EQ n o W x y) (g:EQ n o W y z):EQ n o W x z
theorem EQ.mono {n:Nat} {o b:List Int} {W a:List (Int×Int)} (h1:∀x y,0<=x->x<(n:Int)->0<=y->y<(n:Int)->o.getD x.toNat 0=o.getD y.toNat 0->EQ n b a x y) (c:∀x y,(x,y)∈W->EQ n b a x y) {x y:Int} (h:EQ n o W x y):EQ n b a x y:=by
 induction h with
 | cls g i j k h=>exact h1 _ _ g i j k h
 | wt h=>exact c _ _ h
 | symm _ d=>exact .symm d
 | trans _ _ e f=>exact .trans e f
theorem EQ.nil {n:Nat} {o:List Int} {x y:Int} (h:EQ n o [] x y):o.getD x.toNat 0=o.getD y.toNat 0:=by
 induction h with
 | cls _ _ _ _ h=>exact h
 | wt h=>cases h
 | symm _ a=>exact a.symm
 | trans _ _ b c=>exact b.trans c
section
variable {h:AG} {N:List AD} {P:List (Int×Int)} {o:List Int} {ar:List (List (Int×Int))} {W:List (Int×Int)} {w:Int×Int}
end
def A9O (h:AG):Prop:=∀t∈h.1,Nrm t.2.1
section
variable {h:AG} {N:List AD} {c:List Int}
end
section
variable {d:List AK}
end
structure HAp (h:AG):Prop where
 iff:∀t f,0<=t->t<(h.1.length:Int)->0<=f->f<(h.2.length:Int)->((EH h t f).2=true↔BB h (Qx h f) t=true)
 mono:∀t t' f,0<=t->t<(h.1.length:Int)->0<=t'->t'<(h.1.length:Int)->0<=f->f<(h.2.length:Int)->BB h t t'=true->(EH h t f).2=true->BB h (EH h t f).1 (EH h t' f).1=true
def Ve (h:AG) (m:Nat) (u:List Int):Prop:=u.length=m/\∀t∈u,0<=t/\t<(h.1.length:Int)
theorem Ve.get {h:AG} {m:Nat} {u:List Int} (hu:Ve h m u) {n:Nat} (n1:n<m):0<=u.getD n 0/\u.getD n 0<(h.1.length:Int):=by
 have a:n<u.length:=by rw[hu.1];exact n1
 rw[AS,AT a];exact hu.2 _ (UJ a)
theorem Qy.tyl {h:AG} {m:Nat} {s:FI} (hs:Qy h m s):Ve h m s.1:=⟨hs.len,hs.ty⟩
def RG (h:AG) (m:Nat) (u v:List Int):Prop:=∀i,i<m->BB h (u.getD i 0) (v.getD i 0)=true
def qK (h:AG) (u:List Int) (n:Int) (l:List (Int×Int)):Prop:=∀a∈l,(EH h (u.getD n.toNat 0) a.1).2=true/\BB h (EH h (u.getD n.toNat 0) a.1).1 (u.getD a.2.toNat 0)=true
def WTy (h:AG) (f:List AD) (u:List Int):Prop:=∀i,i<f.length->qK h u (i:Int) (f.getD i (0,[])).2
theorem RG.refl {h:AG} (hk:Gm h) {m:Nat} {u:List Int} (hu:Ve h m u):RG h m u u:=λi hi=>Vc hk (hu.get hi).1 (hu.get hi).2
theorem RG.trans {h:AG} (hk:Gm h) {m:Nat} {u v w:List Int} (hu:Ve h m u) (a:Ve h m v) (b:Ve h m w) (h1:RG h m u v) (c:RG h m v w):RG h m u w:=λi hi =>
 K6 hk (hu.get hi).1 (hu.get hi).2 (a.get hi).1 (a.get hi).2 (b.get hi).1 (b.get hi).2 (h1 i hi) (c i hi)
theorem RG.anti {h:AG} (hi:NY h) {m:Nat} {u v:List Int} (hu:Ve h m u) (b:Ve h m v) (h1:RG h m u v) (d:RG h m v u):u=v:=by
 refine UZ (by rw[hu.1,b.1]) λi c e=>?_;have a:i<m:=by rw[<-hu.1];exact c
 have:=hi _ _ (hu.get a).1 (hu.get a).2 (b.get a).1 (b.get a).2 (h1 i a) (d i a)
 rwa [AS,AT c,AS,AT e]at this
structure zW (h:AG) (m:Nat) (s s':FI):Prop where
 up:RG h m s.1 s'.1
 pre:s.2 <+: s'.2
 ch:∀k:Nat,k<m->s'.1.getD k 0=s.1.getD k 0\/(k:Int)∈s'.2.drop s.2.length
theorem zW.refl {h:AG} (hk:Gm h) {m:Nat} {s:FI} (hs:Qy h m s):zW h m s s:=⟨RG.refl hk hs.tyl,Uj _,λ_ _=>.inl rfl⟩
theorem SK {l l':List Int} (hp:l <+: l') {n:Nat} {x:Int} (h:x∈l.drop n):x∈l'.drop n:=by
 obtain⟨r,rfl⟩:=hp;rw[AEl];exact UK _ h
theorem Q3 {l:List Int} {a b:Nat} (c:a<=b) {x:Int} (h:x∈l.drop b):x∈l.drop a:=by
 have:l.drop b=(l.drop a).drop (b-a):=by rw[ADj];congr 1;omega
 rw[this]at h;exact Yw h
theorem zW.trans {h:AG} (hk:Gm h) {m:Nat} {a b c:FI} (ha:Qy h m a) (i:Qy h m b) (j:Qy h m c) (h1:zW h m a b) (d:zW h m b c):zW h m a c:=by
 refine⟨h1.up.trans hk ha.tyl i.tyl j.tyl d.up,h1.pre.trans d.pre,λk g=>?_⟩;rcases d.ch k g with f|f
 .rcases h1.ch k g with e|e
  .exact .inl (f.trans e)
  exact .inr (SK d.pre e)
 exact .inr (Q3 h1.pre.length_le f)
theorem SL {h:AG} (hk:Gm h) (hi:NY h) {m:Nat} {s c:FI} (hs:Qy h m s) {n t:Int} (n0:0<=n) (n1:n<(m:Int)) (f:0<=t) (g:t<(h.1.length:Int)) (e:G0 h s n t=some c) :
  zW h m s c/\BB h t (c.1.getD n.toNat 0)=true:=by
 have r:=(GU hk hi hs n0 n1 f g e).1;obtain⟨i,j⟩:=hs.get n0 n1;unfold G0 at e;split at e
 .rename_i o;obtain⟨u,w,q,d⟩:=(MF hk i j f g).1 o;generalize (Bq h (s.1.getD n.toNat 0) t).1=v at *;injection e with e
  split at e
  .rename_i p;subst e;exact⟨zW.refl hk hs,by rw[<-p];exact d⟩
  subst e;have l:n.toNat<s.1.length:=by rw[hs.len];omega
  have a:∀k:Nat,(s.1.set n.toNat v).getD k 0=if k=n.toNat then v else s.1.getD k 0:=λk=>NP _ _ _ l k
  refine⟨⟨λk b=>?_,AE2 _ _,λk b=>?_⟩,?_⟩
  .simp only;rw[a];split
   .rename_i e;rw[e];exact q
   exact Vc hk (hs.tyl.get b).1 (hs.tyl.get b).2
  .simp only;rw[a];split
   .rename_i e;right;rw[AEl,Yq,UR];exact Yu _ (by simp;omega)
   exact .inl rfl
  simp only;rw[a,BY rfl];exact d
 cases e
theorem bJ {h:AG} (hk:Gm h) (hi:NY h) {m:Nat} {s:FI} (hs:Qy h m s) {n t:Int} (n0:0<=n) (n1:n<(m:Int)) (p:0<=t) (q:t<(h.1.length:Int)) {u:List Int} (hu:Ve h m u) (a:RG h m s.1 u) (j:BB h t (u.getD n.toNat 0)=true) :
  ∃c,G0 h s n t=some c/\RG h m c.1 u:=by
 obtain⟨d,f⟩:=hs.get n0 n1;have b:n.toNat<m:=by omega
 obtain⟨r,v⟩:=hu.get b;obtain⟨l,o⟩:=(MF hk d f p q).2 _ r v (a _ b) j;unfold G0;rw[BY l];refine⟨_,rfl,?_⟩;split
 .exact a
 intro k g;have i:n.toNat<s.1.length:=by rw[hs.len];omega
 simp only;rw[NP _ _ _ i k];split
 .rename_i e;rw[e];exact o
 exact a k g
section
variable {h:AG} (hk:Gm h) (hi:NY h) (hf:HFt h) (hap:HAp h) {m:Nat} {n:Int} (n0:0<=n) (n1:n<(m:Int))
include hk hi hf n0 n1
theorem fJ:∀ {l:List (Int×Int)} {s c:FI},(∀a∈l,Ma h m a)->Qy h m s->X8 h n l s=some c->zW h m s c/\∀a∈l,BB h (Qx h a.1) (c.1.getD n.toNat 0)=true
 | [],s,c,_,hs,e=>by
  injection e with e
  subst e;exact⟨zW.refl hk hs,λa ha=>by cases ha⟩
 | a :: l,s,c,o,hs,e=>by
  unfold X8 at e;cases g:G0 h s n (Qx h a.1) with
  | none=>rw[g]at e;cases e
  | some s1 =>
   rw[g]at e;obtain⟨⟨r,t⟩,-⟩:=o a (by simp);obtain⟨j,k⟩:=Qz hf r t;obtain⟨d,-,-⟩:=GU hk hi hs n0 n1 j k g;obtain⟨v,w⟩:=SL hk hi hs n0 n1 j k g;have p:∀b∈l,Ma h m b:=λb f=>o b (NO _ f);have e:X8 h n l s1=some c:=e;obtain⟨q,u⟩:=fJ p d e;have i:=(Q0 hk hi hf n0 n1 p d e).1;refine⟨v.trans hk hs d i q,λb f=>?_⟩;rcases By.1 f with rfl|f
   .exact K6 hk j k (d.get n0 n1).1 (d.get n0 n1).2 (i.get n0 n1).1 (i.get n0 n1).2 w (q.up _ (by omega))
   exact u b f
theorem zX:∀ {l:List (Int×Int)} {s c:FI},(∀a∈l,Ma h m a)->Qy h m s->ZM h n l s=some c->zW h m s c/\(n∈c.2.drop s.2.length\/(c.1.getD n.toNat 0=s.1.getD n.toNat 0/\∀a∈l,(EH h (s.1.getD n.toNat 0) a.1).2=true/\BB h (EH h (s.1.getD n.toNat 0) a.1).1 (c.1.getD a.2.toNat 0)=true))
 | [],s,c,_,hs,e=>by
  injection e with e
  subst e;exact⟨zW.refl hk hs,.inr ⟨rfl,λa ha=>by cases ha⟩⟩
 | a :: l,s,c,t,hs,e=>by
  unfold ZM at e;split at e
  .rename_i v;obtain⟨w,x⟩:=hs.get n0 n1;obtain⟨o,p⟩:=Mb hf w x v;cases j:G0 h s a.2 (EH h (s.1.getD n.toNat 0) a.1).1 with
   | none=>rw[j]at e;cases e
   | some s1 =>
    rw[j]at e;obtain⟨-,d,b1⟩:=t a (by simp);obtain⟨g,-,-⟩:=GU hk hi hs d b1 o p j;obtain⟨r,A⟩:=SL hk hi hs d b1 o p j;have u:∀b∈l,Ma h m b:=λb f=>t b (NO _ f);have e:ZM h n l s1=some c:=e;obtain⟨q,i⟩:=zX u g e;have k:=(Vd hk hi hf n0 n1 u g e).1;refine⟨r.trans hk hs g k q,?_⟩;have y:((n.toNat:Nat):Int)=n:=Yb n0;rcases r.ch n.toNat (by omega) with c1|c1
    .rcases i with i|⟨i,z⟩
     .exact .inl (Q3 r.pre.length_le i)
     refine .inr ⟨i.trans c1,λb f=>?_⟩;rcases By.1 f with rfl|f
     .exact⟨v,K6 hk o p (g.get d b1).1 (g.get d b1).2 (k.get d b1).1 (k.get d b1).2 A (q.up _ (by omega))⟩
     have:=z b f
     rwa [c1]at this
    rw[y]at c1;exact .inl (SK q.pre c1)
  cases e
include hap
theorem zY {u:List Int} (hu:Ve h m u):∀ {l:List (Int×Int)} {s:FI},(∀a∈l,Ma h m a)->Qy h m s->RG h m s.1 u->(∀a∈l,(EH h (u.getD n.toNat 0) a.1).2=true)->∃c,X8 h n l s=some c/\RG h m c.1 u
 | [],s,_,_,e,_=>⟨s,rfl,e⟩
 | a :: l,s,j,hs,e,k=>by
  obtain⟨⟨f,g⟩,-⟩:=j a (by simp);obtain⟨o,p⟩:=Qz hf f g;obtain⟨v,w⟩:=hu.get (show n.toNat<m by omega);obtain⟨s1,i,h1⟩:=bJ hk hi hs n0 n1 o p hu e ((hap.iff _ _ v w f g).1 (k a (by simp)));obtain⟨r,-,-⟩:=GU hk hi hs n0 n1 o p i;obtain⟨c,q,t⟩:=zY hu (λb d=>j b (NO _ d)) r h1 λb d=>k b (NO _ d);exact⟨c,by unfold X8;rw[i];exact q,t⟩
theorem zZ {u:List Int} (hu:Ve h m u):∀ {l:List (Int×Int)} {s:FI},(∀a∈l,Ma h m a)->Qy h m s->RG h m s.1 u->(∀a∈l,BB h (Qx h a.1) (s.1.getD n.toNat 0)=true)->qK h u n l->∃j,ZM h n l s=some j/\RG h m j.1 u
 | [],s,_,_,f,_,_=>⟨s,rfl,f⟩
 | a :: l,s,p,hs,f,y,z=>by
  obtain⟨⟨v,w⟩,k,b1⟩:=p a (by simp);obtain⟨d,e⟩:=hs.get n0 n1;have q:n.toNat<m:=by omega
  have x:a.2.toNat<m:=by omega
  obtain⟨A,B⟩:=hu.get q;have r:=(hap.iff _ _ d e v w).2 (y a (by simp));obtain⟨g,i⟩:=Mb hf d e r;obtain⟨I,J⟩:=z a (by simp);obtain⟨v0,v1⟩:=Mb hf A B I;have E:=hap.mono _ _ a.1 d e A B v w (f _ q) r;obtain⟨s1,o,h1⟩:=bJ hk hi hs k b1 g i hu f (K6 hk g i v0 v1 (hu.get x).1 (hu.get x).2 E J);obtain⟨t,-,-⟩:=GU hk hi hs k b1 g i o;obtain⟨H,-⟩:=SL hk hi hs k b1 g i o;obtain⟨j,C,D⟩:=zZ hu (λb c=>p b (NO _ c)) t h1 (λb c=>by
   obtain⟨⟨c0,c1⟩,-⟩:=p b (NO _ c);obtain⟨F,G⟩:=Qz hf c0 c1;exact K6 hk F G d e (t.get n0 n1).1 (t.get n0 n1).2 (y b (NO _ c)) (H.up _ q)) λb c=>z b (NO _ c)
  exact⟨j,by unfold ZM;rw[BY r,o];exact C,D⟩
end
section
variable {h:AG} (hk:Gm h) (hi:NY h) (hf:HFt h) (hap:HAp h) {f:List AD} (ha:X9 h f)
include hk hi hf hap ha
theorem A4H {n:Int} (n0:0<=n) (n1:n<(f.length:Int)) {s c:FI} (hs:Qy h f.length s) (e:TH h f n s=some c):zW h f.length s c/\(n∈c.2.drop s.2.length\/qK h c.1 n (f.getD n.toNat (0,[])).2):=by
 have _:=hap;have g:=Q1 ha n0 n1;unfold TH at e;cases d:X8 h n (f.getD n.toNat (0,[])).2 s with
 | none=>rw[d]at e;cases e
 | some s1 =>
  rw[d]at e;have i:=(Q0 hk hi hf n0 n1 g hs d).1;obtain⟨j,-⟩:=fJ hk hi hf n0 n1 g hs d;have e:ZM h n (f.getD n.toNat (0,[])).2 s1=some c:=e;have k:=(Vd hk hi hf n0 n1 g i e).1;obtain⟨l,b⟩:=zX hk hi hf n0 n1 g i e;refine⟨j.trans hk hs i k l,?_⟩;rcases b with b|⟨b,m⟩
  .exact .inl (Q3 j.pre.length_le b)
  refine .inr λa ha=>?_;rw[b];exact m a ha
theorem A4I {n:Int} (n0:0<=n) (n1:n<(f.length:Int)) {s:FI} (hs:Qy h f.length s) {u:List Int} (hu:Ve h f.length u) (d:qK h u n (f.getD n.toNat (0,[])).2) (j:RG h f.length s.1 u):∃e,TH h f n s=some e/\RG h f.length e.1 u:=by
 have b:=Q1 ha n0 n1;obtain⟨s1,c,h1⟩:=zY hk hi hf hap n0 n1 hu b hs j λa ha=>(d a ha).1;have k:=(Q0 hk hi hf n0 n1 b hs c).1;obtain⟨-,l⟩:=fJ hk hi hf n0 n1 b hs c;obtain⟨s2,g,i⟩:=zZ hk hi hf hap n0 n1 hu b k h1 l d;exact⟨s2,by unfold TH;rw[c];exact g,i⟩
def AD6 (h:AG) (f:List AD) (i:Nat) (s:FI):Prop:=∀n:Nat,n<f.length->qK h s.1 (n:Int) (f.getD n (0,[])).2\/(n:Int)∈s.2.drop i
theorem A8a {n:Nat} (hn:n<f.length) {s d:FI} (hs:Qy h f.length s) (i:Qy h f.length d) (j:zW h f.length s d) (p:qK h s.1 (n:Int) (f.getD n (0,[])).2):qK h d.1 (n:Int) (f.getD n (0,[])).2\/(n:Int)∈d.2.drop s.2.length:=by
 have _:=hap;have _:=hi;have o:∀a∈(f.getD n (0,[])).2,Ma h f.length a:=ha _ (AF f (0,[]) hn);rcases j.ch n hn with c|c
 .left;intro a g;obtain⟨e,k⟩:=p a g;obtain⟨-,b,b1⟩:=o a g;rw[To]at e k ⊢;rw[c];obtain⟨l,m⟩:=hs.tyl.get hn;obtain⟨q,r⟩:=Mb hf l m e;exact⟨e,K6 hk q r (hs.get b b1).1 (hs.get b b1).2 (i.get b b1).1 (i.get b b1).2 k (j.up _ (by omega))⟩
 exact .inr c
theorem z0:∀ {k i:Nat} {s:FI} {ty:List Int},Qy h f.length s->AD6 h f i s->wlF h f k i s=some ty->WTy h f ty/\RG h f.length s.1 ty/\Ve h f.length ty
 | 0,_,_,_,_,_,e=>by cases e
 | k+1,i,s,ty,hs,hp,e=>by
  unfold wlF at e;split at e
  .rename_i d;have p:=AF s.2 (0:Int) d;obtain⟨n0,n1⟩:=hs.wt _ p;generalize hn:s.2.getD i 0=n at *;cases c:TH h f n s with
   | none=>rw[c]at e;cases e
   | some s1 =>
    rw[c]at e;have g:=(lO hk hi hf ha n0 n1 hs c).1;obtain⟨j,b⟩:=A4H hk hi hf hap ha n0 n1 hs c;have r:AD6 h f (i+1) s1:=by
     intro m l;rcases hp m l with q|a
     .rcases A8a hk hi hf hap ha l hs g j q with h1|h1
      .exact .inl h1
      exact .inr (Q3 (by omega) h1)
     have t:s.2.drop i=n :: s.2.drop (i+1):=by
      rw[Tj d,<-hn,AS,AT d];rfl
     rw[t]at a;rcases By.1 a with a|a
     .rcases b with b|b
      .exact .inr (by rw[a];exact Q3 (by omega) b)
      left;rw[a];have:n.toNat=m:=by omega
      rw[this]at b;exact b
     exact .inr (SK j.pre a)
    have e:wlF h f k (i+1) s1=some ty:=e;obtain⟨u,v,o⟩:=z0 g r e;exact⟨u,j.up.trans hk hs.tyl g.tyl o v,o⟩
  rename_i d;injection e with e
  subst e;refine⟨λn hn=>?_,RG.refl hk hs.tyl,hs.tyl⟩;rcases hp n hn with h1|h1
  .exact h1
  rw[On (by omega)]at h1;cases h1
theorem A4J {u:List Int} (hu:Ve h f.length u) (d:WTy h f u):∀ {k i:Nat} {s:FI},Qy h f.length s->i<=s.2.length->zT h s.1+s.2.length+1<=k+i->RG h f.length s.1 u->∃ty,wlF h f k i s=some ty/\RG h f.length ty u
 | 0,i,s,hs,j,l,b=>by omega
 | k+1,i,s,hs,j,l,b=>by
  unfold wlF;by_cases a:i<s.2.length
  .rw[BY a];obtain⟨n0,n1⟩:=hs.wt _ (AF s.2 (0:Int) a);have e:=d (s.2.getD i 0).toNat (by omega);rw[Yb n0]at e;obtain⟨s1,c,h1⟩:=A4I hk hi hf hap ha n0 n1 hs hu e b;obtain⟨g,m,n⟩:=lO hk hi hf ha n0 n1 hs c;rw[c];exact A4J hu d g (by omega) (by omega) h1
  rw[As a];exact⟨s.1,rfl,b⟩
theorem qL (a:∀x∈f,0<=x.1/\x.1<(h.1.length:Int)) {ty:List Int} (e:JT h f=some ty):WTy h f ty/\RG h f.length (DW f) ty/\Ve h f.length ty:=by
 have e:wlF h f (bG h f) 0 (DW f,TJ f)=some ty:=e;refine z0 hk hi hf hap ha (k:=bG h f) (i:=0) (s:=(DW f,TJ f)) (A8R a) (λn hn=>.inr ?_) e;rw[UR];exact If.2 ⟨n,Tx.2 hn,rfl⟩
theorem lR (b:∀x∈f,0<=x.1/\x.1<(h.1.length:Int)) {u:List Int} (hu:Ve h f.length u) (c:WTy h f u) (a:RG h f.length (DW f) u):∃ty,JT h f=some ty/\RG h f.length ty u :=
 A4J hk hi hf hap ha hu c (k:=bG h f) (i:=0) (s:=(DW f,TJ f)) (A8R b) (IS _) (A9N h f) a
end
section
variable {d:List AK}
end
section
variable {d:List AK}
end
theorem Md (d:List AK):(BJ d).1.1.length<=256/\(BJ d).1.2.length<=64:=by
 unfold BJ;split
 .exact⟨by simp,by simp⟩
 rename_i a;have a:(Bj d).2=0:=IN a;have b:Bb d=0:=by
  unfold Bj at a;split at a
  .rename_i h;exact absurd a h
  rename_i h;exact IN h
 obtain⟨f,c,-⟩:=DE b;obtain⟨-,e,-⟩:=B5 f;refine⟨?_,?_⟩
 .show (Fm _ _ _).length<=256;rw[NE,IC];exact e
 show (Ej d).1.length<=64;unfold Ej;rw[As (by rw[b];simp)];show ((Dk d).map (XM d)).length<=64;rw[OF];exact c
theorem lS {H:AG} (q:H.1.length<=256) (r:H.2.length<=64) {f:List AD} (h:PT H f=true):AN f/\Fs f/\0<f.length/\CP H f/\Dn f=true/\f.length<=12/\∀x∈f,∀a∈x.2,0<=a.1/\a.1<(H.2.length:Int):=by
 unfold PT at h;rw[An,UP]at h;obtain⟨l,c⟩:=h;unfold HP at c;split at c
 .rename_i h1;exact absurd c h1
 rename_i h1;split at c
 .cases c
 rename_i e;split at c
 .cases c
 rename_i i;have h1:(BC f).2=0:=IN h1;have e:f.all (ndR H)=true:=by simpa using e
 have i:CM f (BC f).1=0:=by simpa using i
 have k:Dn f=true:=by
  unfold Dn;simp only[An,UP];refine⟨⟨l,?_⟩,h1,?_⟩
  .rw[ON]at e ⊢;intro x d;have:=e x d;unfold ndR at this;rw[An,DO,ON]at this;unfold ndB;rw[An,DO,ON];refine⟨by omega,λa ha=>?_⟩;have:=this.2 a ha;unfold ftR at this;rw[DO]at this;unfold ftB;rw[DO];omega
  rw[<-MN i];exact GY f
 obtain⟨n,o,p,-⟩:=MO k;have g:CN f=0:=by
  unfold BC at h1;split at h1
  .rename_i hh;exact hh
  exact h1
 have m:HE (f.length:Int) f=0:=by
  unfold CN at g;split at g
  .cases g
  split at g
  .cases g
  exact g
 refine⟨n,o,p,λx d=>?_,k,(MK l).1,λx d a ha=>?_⟩
 .have b:=ON.1 e x d;unfold ndR at b;rw[An,DO]at b;exact⟨(Kq m x d).1,b.1⟩
 have b:=ON.1 e x d;unfold ndR at b;rw[An,ON]at b;have j:=b.2 a ha;unfold ftR at j;rw[DO]at j;exact⟨((Kq m x d).2 a ha).1,j⟩
theorem K7 {f:List AD} (hf:AN f):EA f:=⟨hf.1,λx a=>(hf.2 x a).1⟩
structure H14 (h:AG):Prop where
 ok:Gm h
 inj:NY h
 ft:HFt h
 nrm:A9O h
 ap:HAp h
 b1:h.1.length<=256
 b2:h.2.length<=64
theorem SM {f:List AD} {ty:List Int} {x:AD} (b:x∈FU f ty):∃i,i<f.length/\x=(ty.getD i 0,(f.getD i (0,[])).2):=by
 obtain⟨i,hi,rfl⟩:=List.getElem_of_mem b;have a:i<f.length:=by rw[D6]at hi;exact hi
 refine⟨i,a,?_⟩;rw[<-J4 f ty a,AS,AT hi];rfl
theorem J5 {α:Type} {f:List α} {i:Nat} (h:i<f.length) (d:α):f.getD i d∈f:=by
 rw[AS,AT h];exact UJ _
theorem A9P {f:List AD} (hf:AN f) (hs:Fs f) (h0:0<f.length) (a:Dn f=true):RO f:=by
 have h1:=A7O hf hs h0 (λ_ _=>true)
 rwa [pZ a λ_ _ _ _=>rfl]at h1
theorem YA {h:AG} (j:h.1.length<=256) (k:h.2.length<=64) {f:List AD} (l:PT h f=true):VF h f/\f.length<=12:=by
 obtain⟨a,b,c,e,d,g,i⟩:=lS j k l;exact⟨⟨a,c,e,λx m=>(MM _).1 (b x m).1,i,Nz d,A9P a b c d⟩,g⟩
theorem VF.srt {h:AG} (hu:HU h) {f:List AD} (a:VF h f):Fs f:=λx b=>by
 have:=qF (a.str x b) (a.ft64 hu x b);exact⟨(MM _).2 (a.str x b),by omega⟩
theorem VF.small {h:AG} {f:List AD} (a:VF h f):EA f:=K7 a.good
theorem fL {h:AG} (a b:List AD):(∃c,qD h a b c/\Kv h a b=(c,true))\/(Kv h a b=([],false)/\∀c,¬qD h a b c):=by
 unfold Kv;by_cases H:∃c,qD h a b c
 .left;rw[dif_pos H];exact⟨_,H.choose_spec,rfl⟩
 right;rw[dif_neg H];exact⟨rfl,λc d=>H ⟨c,d⟩⟩
theorem IT (f:List AD) (ty:List Int) (n:Nat):((FU f ty).getD n (0,[])).2=(f.getD n (0,[])).2:=by
 by_cases h:n<f.length
 .rw[J4 f ty h]
 rw[AS,Ts (by rw[D6];omega),AS,Ts (by omega)]
theorem lU {f g:List AD} (h:∀n:Nat,(f.getD n (0,[])).2=(g.getD n (0,[])).2):∀(k:Nat) (o:List Int) (n:Int),Co f k o n=Co g k o n
 | 0,_,_=>rfl
 | k+1,o,n=>by
  have e:AY f k=AY g k:=by
   funext o a;unfold AY;rw[lU h k o a.2]
  rw[Bt,Bt,h,e]
theorem qM {f:List AD} (hf:AN f) (h0:0<f.length) (a:AL f 0=f):kW f:=by
 have:=(eZ hf (r:=0) (by omega) (by omega)).2
 rwa [a]at this
theorem A4K {h:AG} {f:List AD} (b:VF h f) {ty:List Int} (k:Ve h f.length ty):VF h (FU f ty):=by
 have c:=D6 f ty;have g:AN (FU f ty):=by
  refine⟨by rw[c];exact b.good.1,λx a=>?_⟩;obtain⟨i,hi,rfl⟩:=SM a;rw[c];exact b.good.2 (f.getD i (0,[])) (J5 hi (0,[]))
 have hp:∀x∈FU f ty,∃y∈f,x.2=y.2:=λx a=>by
  obtain⟨i,hi,rfl⟩:=SM a;exact⟨_,J5 hi (0,[]),rfl⟩
 refine⟨g,by rw[c];exact b.pos,λx a=>?_,λx a=>?_,λx a=>?_,Xu g ?_,λi l m=>?_⟩
 .obtain⟨i,hi,rfl⟩:=SM a;exact k.get hi
 .obtain⟨y,d,e⟩:=hp x a;rw[e];exact b.str y d
 .obtain⟨y,d,e⟩:=hp x a;rw[e];exact b.ft y d
 .have:=qM b.good b.pos b.can;unfold kW at this ⊢;rw[c,lU (IT f ty)];exact this
 obtain⟨j,n,o,x,a,e⟩:=b.ro i l (by rw[<-c];exact m);exact⟨j,n,o,x,by show x∈((FU f ty).getD j.toNat (0,[])).2;rw[IT];exact a,e⟩
theorem Dq (f:List AD) (i:Nat):(DW f).getD i 0=(f.getD i (0,[])).1:=by
 unfold DW;rw[AS,UO,AS];cases f[i]?<;>rfl
theorem qN {f:List AD} {ty:List Int} (a:ty.length=f.length):DW (FU f ty)=ty:=by
 refine UZ (by simp[DW,D6,a]) λi b c=>?_;have:=Dq (FU f ty) i;rw[J4 f ty (by omega)]at this;simpa[AS,b,c] using this
theorem TK {h:AG} {f:List AD} {t:Int}:∀ {l:List (Int×Int)},SJ h f t l=0↔∀a∈l,(EH h t a.1).2=true/\BB h (EH h t a.1).1 (f.getD a.2.toNat (0,[])).1=true
 | []=>⟨λ_ a ha=>(by cases ha),λ_=>rfl⟩
 | a :: l=>by
  unfold SJ;rw[List.forall_mem_cons,<-TK (l:=l)];cases h1:(EH h t a.1).2
  .simp
  cases b:BB h (EH h t a.1).1 (f.getD a.2.toNat (0,[])).1<;>simp
theorem OB {h:AG} {f:List AD}:∀ {l:List AD},Mc h f l=0↔∀x∈l,∀a∈x.2,(EH h x.1 a.1).2=true/\BB h (EH h x.1 a.1).1 (f.getD a.2.toNat (0,[])).1=true
 | []=>⟨λ_ a ha=>(by cases ha),λ_=>rfl⟩
 | x :: l=>by
  unfold Mc;rw[List.forall_mem_cons,<-OB (l:=l),<-TK];by_cases h1:SJ h f x.1 x.2=0
  .simp[h1]
  simp[h1]
theorem A8b {h:AG} {f:List AD}:Mc h f f=0↔WTy h f (DW f):=by
 rw[OB];constructor
 .intro h1 i hi a ha;have:=h1 _ (J5 hi (0,[])) a ha
  rwa [Dq,Dq,To]
 intro h1 x b a ha;obtain⟨i,hi,rfl⟩:=Cl (0,[]) b;have:=h1 i hi a ha
 rwa [Dq,Dq,To]at this
section
variable {h:AG} (hh:H14 h)
include hh
theorem H14.hu:HU h:=⟨hh.ok,hh.inj,hh.b2⟩
omit hh in
theorem z4 {f:List AD} (b:VF h f):X9 h f:=λx c a ha=>⟨b.ft x c a ha,(b.good.2 x c).2 a ha⟩
theorem lV {f:List AD} (a:VF h f) {ty:List Int} (e:JT h f=some ty):VF h (FU f ty)/\WTy h f ty/\Ve h f.length ty/\LR h f (FU f ty) id:=by
 obtain⟨h1,g,d⟩:=qL hh.ok hh.inj hh.ft hh.ap (z4 a) a.ty e;refine⟨A4K a d,h1,d,rfl,λi b c=>⟨b,by rw[D6];exact c⟩,λi b c=>?_,λi b c x j=>?_⟩
 .have:=g i.toNat (by omega);rw[Dq]at this;show BB h _ ((FU f ty).getD i.toNat (0,[])).1=true
  rwa [J4 f ty (by omega)]
 show BK ((FU f ty).getD i.toNat (0,[])).2 x.1=x.2;rw[IT];exact A9z (a.srt hh.hu) j
theorem z5 {f g:List AD} (n:VF h f) (p:VF h g) (E:WTy h g (DW g)) {m:Int->Int} (c:LR h f g m):∃ty,JT h f=some ty/\LR h (FU f ty) g m:=by
 have H:=p.pos
 let u:List Int:=(List.range f.length).map λi:Nat=>(g.getD (m (i:Int)).toNat (0,[])).1
 have k:∀i:Nat,i<f.length->u.getD i 0=(g.getD (m (i:Int)).toNat (0,[])).1:=λi hi=>by
  simp[u,AS,hi]
 have q:∀i:Nat,i<f.length->(m (i:Int)).toNat<g.length/\0<=m (i:Int):=λi hi=>by
  have:=c.rng (i:Int) (by omega) (by omega);omega
 have D:Ve h f.length u:=⟨by simp[u],λt C=>by
  obtain⟨i,hi,rfl⟩:=If.1 C;exact p.ty _ (J5 (q i (Tx.1 hi)).1 (0,[]))⟩
 have F:WTy h f u:=λi hi a ha=>by
  have z:a∈AU f (i:Int):=by show a∈(f.getD (i:Int).toNat (0,[])).2;rwa [To]
  have h1:=c.arc (i:Int) (by omega) (by omega) a z;obtain⟨s,G⟩:=(n.good.2 _ (J5 hi (0,[]))).2 a ha;have y:=c.rng a.2 s G;obtain⟨b,A,v,w⟩:=Qk (l:=AU g (m (i:Int))) (e:=a.1) (by rw[h1];exact y.1);have o:=E _ (q i hi).1 b (by exact A);rw[Dq,Dq,v,w,h1,To]at o;rw[To,k i hi,k a.2.toNat (by omega),Yb s];exact o
 obtain⟨ty,e,B⟩:=lR hh.ok hh.inj hh.ft hh.ap (z4 n) n.ty D F λi hi=>by
  rw[Dq,k i hi];have:=c.ty (i:Int) (by omega) (by omega)
  rwa [To]at this
 refine⟨ty,e,c.zero,λi j d=>c.rng i j (by rw[D6]at d;exact d),λi j d=>?_,λi j d x r=>?_⟩
 .rw[D6]at d;have:=B i.toNat (by omega);rw[k _ (by omega),Yb j]at this
  rwa [J4 f ty (by omega)]
 rw[D6]at d;exact c.arc i j d x (by rw[AU,IT]at r;exact r)
omit hh in
theorem A1I {f:List AD} (e:fG h f=0):WTy h f (DW f):=by
 unfold fG at e
 split at e
 .exact A8b.1 e
 rename_i hn;exact absurd e hn
end
theorem TL {h:AG} {f:List AD} {ty:List Int} (e:JT h f=some ty):SI h f=(FU f ty,true):=by unfold SI;rw[e]
theorem TM {h:AG} {f:List AD} (e:JT h f=none):SI h f=([],false):=by unfold SI;rw[e]
theorem Ve.set {h:AG} {m:Nat} {u:List Int} (hu:Ve h m u) {t:Int} (b:0<=t) (c:t<(h.1.length:Int)) (i:Nat):Ve h m (u.set i t):=⟨by rw[UU];exact hu.1,λx a=>by
 rcases Yo a with a|rfl
 .exact hu.2 x a
 exact⟨b,c⟩⟩
theorem RG.set {h:AG} (hk:Gm h) {m:Nat} {u:List Int} (hu:Ve h m u) {t:Int} {i:Nat} (hi:i<m) (hs:BB h (u.getD i 0) t=true):RG h m u (u.set i t):=λk a=>by
 rw[NP _ _ _ (by rw[hu.1];exact hi) k];split
 .rename_i e;rw[e];exact hs
 exact Vc hk (hu.get a).1 (hu.get a).2
section
variable {h:AG} (hk:Gm h) (hn:A9O h) (hi:NY h) (hf:HFt h) (hap:HAp h) {m:Nat}
include hk hn hi hf hap
end
section
variable {h:AG} (hk:Gm h) (hn:A9O h) (hi:NY h) (hf:HFt h) (hap:HAp h) {f:List AD} (ha:X9 h f)
include hk hn hi hf hap ha
end
section
open Go
end
section
open Go
end
section
open Go
end
section
open Go
end
section
open Go
end
section
variable {h:AG} {N:List AD} {P:List (Int×Int)} {c p:List Int} {g:List AD}
end
section
variable {h:AG} {a b:List AD}
end
section
open Go
end
section
attribute [local go_sem] A4G
end
noncomputable def fO (h:AG) (a b:List AD):List AD×Bool:=if (Kv h a b).2=true then SI h (Kv h a b).1 else ([],false)
theorem A4L {h:AG} (hk:Gm h) {N:List AD} {P:List (Int×Int)}:∀(k:Nat) (p ty:List Int) (ar:List (List (Int×Int))) (W:List (Int×Int)),JI h N P p ty ar W->nR p*((Cq N).length+1)+W.length<=k ->
  (∃E G o,JI h N P E G o [])\/(∀X v,CP h X->¬eL h N P X v):=by
 intro k;induction k with
 | zero =>
  intro p ty ar W c g;have:W=[]:=Tv (by omega);subst this;exact .inl ⟨p,ty,ar,c⟩
 | succ k l =>
  intro p ty ar W c g;cases j:W.getLast? with
  | none =>
   have:W=[]:=List.getLast?_eq_none_iff.1 j;subst this;exact .inl ⟨p,ty,ar,c⟩
  | some w =>
   have r:W=W.dropLast++[w]:=by
    obtain⟨K,e⟩:=List.getLast?_eq_some_iff.1 j;rw[e];simp
   obtain⟨s,t⟩:=w;rw[r]at c g;rw[A0,GO]at g;generalize W.dropLast=V at *;obtain⟨⟨m,s1⟩,n,F⟩:=c.wr (s,t) (by simp);simp only at m s1 n F;obtain⟨M,fo⟩:=c.fo;have lp:=c.lp;obtain⟨a,ha,H,I⟩:=fo.root m (by omega);obtain⟨b,d,q,b1⟩:=fo.root n (by omega);by_cases f:a=b
   .subst f;exact l p ty ar V (eO c ha d) (by omega)
   cases i:(Bq h (ty.getD a.toNat 0) (ty.getD b.toNat 0)).2 with
   | false =>
    right;intro X v u C;have:=(VX hk c ha d u C).2.1;rw[i]at this;cases this
   | true =>
    have z:=Xm hk c ha d f i;refine l _ _ _ _ z ?_;have B:=zF (a:=a) q b1 d.root f;have A:=eQ (c.srt a.toNat) (λx D=>(c.arr a.toNat x D).2);have L:=Tp (Qn (x:=ar.getD a.toNat []) (y:=ar.getD b.toNat [])) A;have J:nR p*((Cq N).length+1)=nR (p.set b.toNat a)*((Cq N).length+1)+((Cq N).length+1):=by rw[<-B,ADC,Nat.one_mul]
    rw[A0];omega
theorem bK {h:AG} (hk:Gm h) {N:List AD}:∀(R P:List (Int×Int)) (p ty:List Int) (ar:List (List (Int×Int))),(∀q∈R,(0<=q.1/\q.1<(N.length:Int))/\(0<=q.2/\q.2<(N.length:Int)))->JI h N P p ty ar [] ->
  (∃l r g,JI h N (P++R) l r g [])\/(∀X v,CP h X->¬eL h N (P++R) X v)
 | [],P,p,ty,ar,f,e=>.inl ⟨p,ty,ar,by rw[UF];exact e⟩
 | q :: R,P,p,ty,ar,f,e=>by
  obtain⟨a,b⟩:=q;have c:=f (a,b) (by simp);have i:P++(a,b) :: R=P++[(a,b)]++R:=by simp
  rw[i];rcases A4L hk _ _ _ _ _ (Xn e c.1 c.2) (Is _) with ⟨m,o,n,h1⟩|k
  .exact bK hk R (P++[(a,b)]) m o n (λq c=>f q (by simp[c])) h1
  exact .inr λX v j d=>k X v j ⟨d.rng,d.ty,d.arc,λq c=>d.eq q (UK _ c)⟩
theorem A8c {h:AG} (hu:HU h) {a b X:List AD} (va:VF h a) (c:VF h b) (l:a.length+b.length<=100000) (j:CP h X) {n o:Int->Int} (h1:LR h a X n) (f:LR h b X o):∃i,qD h a b i:=by
 have r:=CU a b;have hap:=va.pos;have s:=c.pos;have k:=GT va.good c.good l;rcases bK hu.ok (N:=Ao a b) [(0,(a.length:Int))] [] _ _ _ (λq d=>by
  have e:q=(0,(a.length:Int)):=by simpa using d
  subst e;simp only;omega) (fB k (MV va.ty c.ty) (Jz va.str c.str)) with ⟨p,ty,ar,g⟩|m
 .exact⟨_,A7Y va c g (Xx g (by omega) (MW (va.ft64 hu) (c.ft64 hu)))⟩
 exfalso;refine m X _ j (qB (Qr va.good c.good (Kt h1) (Kt f)) λq d=>?_);have e:q=(0,(a.length:Int)):=by simpa using d
 subst e;try simp only
 rw[BY (by omega),As (by omega),AEo,h1.zero,f.zero]
structure H11 (h:AG):Prop where
 hu:HU h
 top:X0 h
 b1:h.1.length<=256
theorem TN (d:List AK):H11 (BJ d).1:=⟨⟨ME d,kV d,(Md d).2⟩,k9 d,(Md d).1⟩
section
attribute [local go_sem] fF Jt cs1 cs3
end
section
attribute [local go_sem] aH
end
def Dr:AG:=([(ByteArray.mk #[116,111,112],[8191],[],[]),(ByteArray.mk #[105,110,100,101,120],[60],[0],[]),(ByteArray.mk #[108,105,115,116],[193],[0],[]),(ByteArray.mk #[99,111,110,115],[1],[2],[(2,0),(10,2)]),(ByteArray.mk #[100,108,105,115,116],[2],[0],[(6,2),(7,2)]),(ByteArray.mk #[101,110,116,105,116,121],[4],[1],[]),(ByteArray.mk #[101,118,101,110,116],[8],[1],[]),(ByteArray.mk #[104,97,110,100,108,101],[16],[1],[]),(ByteArray.mk #[110,117,108,108],[128],[2],[]),(ByteArray.mk #[113,101,113],[256],[0],[(3,7),(8,7)]),(ByteArray.mk #[114,101,108],[512],[0],[(5,7)]),(ByteArray.mk #[115,101,109],[1024],[0],[(1,4),(4,1),(9,4),(12,7)]),(ByteArray.mk #[115,105,103,110],[2048],[0],[(0,2),(11,11)])],[(ByteArray.mk #[65,82,71,83],12),(ByteArray.mk #[67,79,78,83],11),(ByteArray.mk #[70,73,82,83,84],3),(ByteArray.mk #[72,73,71,72],9),(ByteArray.mk #[73,78,68,69,88],11),(ByteArray.mk #[76,65,66,69,76],10),(ByteArray.mk #[76,65,83,84],4),(ByteArray.mk #[76,73,83,84],4),(ByteArray.mk #[76,79,87],9),(ByteArray.mk #[82,69,76,83],11),(ByteArray.mk #[82,69,83,84],3),(ByteArray.mk #[83,69,77],12),(ByteArray.mk #[84,79,80],11)])
instance baDec:DecidableEq ByteArray:=λa b =>
 if h:a.data.toList=b.data.toList then isTrue (by
  cases a
  cases b
  exact Uu ByteArray.mk (Array.toList_inj.1 h))
 else isFalse λe=>h (by rw[e])
theorem A4M:((Vb []).1:List (ByteArray×List Int×List Int×List (Int×Int)))=Dr.1:=by decide +kernel
theorem A4N:((Vb []).2:List (ByteArray×Int))=Dr.2:=by decide +kernel
theorem A8d:Vb []=Dr:=Prod.ext A4M A4N
section
attribute [local go_sem] aH JR
end
section
attribute [local go_sem] JR
end
abbrev Wt (h:AG) (f:List AD):Prop:=VF h f/\WTy h f (DW f)
def z6 (h:AG) (l:List (List AD)) (X:List AD):Prop:=∀x∈l,∃m,LR h x X m
structure TU (h:AG) (l:List (List AD)) (U:List AD):Prop where
 wt:Wt h U
 hom:z6 h l U
 least:∀X,Wt h X->z6 h l X->∃m,LR h U X m
def Me (h:AG) (l:List (List AD)) (r:List AD×Bool):Prop:=(r.2=true/\TU h l r.1)\/(r=([],false)/\∀X,Wt h X->¬z6 h l X)
theorem Me.congr {h:AG} {l l':List (List AD)} {r:List AD×Bool} (H:Me h l r) (d:∀X,Wt h X->(z6 h l X↔z6 h l' X)):Me h l' r:=by
 rcases H with ⟨h1,a⟩|⟨h1,a⟩
 .exact .inl ⟨h1,a.wt,(d _ a.wt).1 a.hom,λX b c=>a.least X b ((d X b).2 c)⟩
 exact .inr ⟨h1,λX b c=>a X b ((d X b).2 c)⟩
theorem A4O {h:AG} (hk:Gm h) {l:List (List AD)} (c:∀x∈l,VF h x) {a X:List AD} (d:VF h a) (e:VF h X) (f:z6 h l a) {m:Int->Int} (g:LR h a X m):z6 h l X:=λx b=>by
 obtain⟨k,q⟩:=f x b;exact⟨_,MS hk (c x b).good (c x b).ty d.ty e.ty q g⟩
theorem HQ {h:AG} {x X:List AD}:z6 h [x] X↔∃m,LR h x X m:=by simp[z6]
theorem YB {h:AG} {x X:List AD} {l:List (List AD)}:z6 h (x :: l) X↔(∃m,LR h x X m)/\z6 h l X:=by simp[z6]
section
variable {h:AG} (hh:H14 h)
include hh
theorem A9Q {f:List AD} (c:VF h f) {ty:List Int} (e:JT h f=some ty):Wt h (FU f ty):=by
 obtain⟨h1,a,b,-⟩:=lV hh c e;refine⟨h1,?_⟩;rw[qN b.1];intro i hi;rw[IT];exact a i (by rw[<-D6 f ty];exact hi)
theorem A8e {f:List AD} (c:VF h f):Me h [f] (SI h f):=by
 cases e:JT h f with
 | some ty =>
  rw[TL e];refine .inl ⟨rfl,A9Q hh c e,HQ.2 ⟨_,(lV hh c e).2.2.2⟩,λX b d=>?_⟩;obtain⟨m,g⟩:=HQ.1 d;obtain⟨i,a,q⟩:=z5 hh c b.1 b.2 g;rw[e]at a;cases a;exact⟨m,q⟩
 | none =>
  rw[TM e];refine .inr ⟨rfl,λX b d=>?_⟩;obtain⟨m,g⟩:=HQ.1 d;obtain⟨i,a,q⟩:=z5 hh c b.1 b.2 g;rw[e]at a;cases a
theorem A8f {a b:List AD} (va:VF h a) (k:VF h b) (q:a.length+b.length<=10000):Me h [a,b] (fO h a b):=by
 unfold fO;rcases fL (h:=h) a b with ⟨l,c,e⟩|⟨e,p⟩
 .rw[e,BY rfl];refine(A8e hh c.vf).congr λX g=>?_;rw[HQ,YB,HQ];constructor
  .rintro⟨m,o⟩;obtain⟨i,d⟩:=c.left;obtain⟨j,f⟩:=c.right;exact⟨⟨_,MS hh.ok va.good va.ty c.vf.ty g.1.ty d o⟩,_,MS hh.ok k.good k.ty c.vf.ty g.1.ty f o⟩
  rintro⟨⟨i,d⟩,j,f⟩;exact c.least X g.1.ty i d j f
 rw[e,As Bool.false_ne_true];refine .inr ⟨rfl,λX g n=>?_⟩;rw[YB,HQ]at n;obtain⟨⟨i,d⟩,j,f⟩:=n;obtain⟨l,c⟩:=A8c hh.hu va k (by omega) g.1.ty d f;exact p l c
omit hh in
theorem A4P {l l':List (List AD)} (hp:∀x,x∈l↔x∈l') (X:List AD):z6 h l X↔z6 h l' X:=⟨λa x b=>a x ((hp x).2 b),λa x b=>a x ((hp x).1 b)⟩
omit hh in
theorem Me.perm {l l':List (List AD)} {r:List AD×Bool} (H:Me h l r) (hp:∀x,x∈l↔x∈l'):Me h l' r:=H.congr λX _=>A4P hp X
omit hh in
theorem z7 {a b:List AD}:(fO h a b).1.length<=a.length+b.length:=by
 unfold fO
 split
 .rename_i e
  have:=(kX e).len
  cases c:JT h (Kv h a b).1 with
  | none=>rw[TM c];simp
  | some ty=>rw[TL c,D6];exact this
 simp
omit hh in
theorem Me.vf {l:List (List AD)} {r:List AD×Bool} (H:Me h l r) (e:r.2=true):TU h l r.1:=by
 rcases H with ⟨-,b⟩|⟨a,-⟩
 .exact b
 rw[a]at e;cases e
end
def AD8 (f:List AD) (e:Int):List (Int×Int):=(f.getD 0 (0,[])).2.filter λa=>a.1 != e
def AD9 (f:List AD) (e:Int):List AD:=((f.getD 0 (0,[])).1,Ad 1 (AD8 f e)) :: f.map λx=>(x.1,Ad 1 x.2)
def A8T (f:List AD) (e:Int):List AD:=AL (AD9 f e) 0
theorem IU {b:Nat} {l:List (Int×Int)} {a:Int×Int}:a∈Ad b l↔∃x∈l,a=(x.1,x.2+(b:Int)):=by
 unfold Ad;rw[If];exact⟨λ⟨x,h1,c⟩=>⟨x,h1,c.symm⟩,λ⟨x,h1,c⟩=>⟨x,h1,c.symm⟩⟩
def Nb (b:Nat) (g:List AD) (i:Nat):List AD:=(g.take i).map λx:AD=>(x.1,Ad b x.2)
theorem lW (b:Nat) (g:List AD) {i:Nat} (h:i<g.length):Nb b g (i+1)=Nb b g i++[((g.getD i (0,[])).1,Ad b (g.getD i (0,[])).2)]:=by
 unfold Nb;rw[Ax g (0,[]) h,UH];rfl
theorem Q4 (b:Nat) (g:List AD):Nb b g g.length=g.map λx:AD=>(x.1,Ad b x.2):=by
 unfold Nb;rw[Tl]
theorem HR (b:Nat) (g:List AD) {i:Nat} (h:i<=g.length):(Nb b g i).length=i:=by
 unfold Nb;rw[OF,OR];omega
def fP:AZ:={ ins:=[FA,Cy],pre:=λ(p,g,_)=>List.length p<=1000/\AN g,out:=λ(p,g,_)=>[.p Cy (BQ p g)] }
theorem A4Q:Ab Tryz.prog 141 fP:=by
 refine fKP [0,1,3,4,5,6,7,9,10,12,13,14,15,16,33,34,35,36,43,44,45,46] [26] [] Tryz.func141 Tryz.ntmps141 AH ?_;rintro w0 O0 ⟨p,g,u⟩ e-⟨hp,f⟩;have I:=f.1;simp only[fP,AM];repeat'(first|exact trivial|apply eS rfl|apply AB|refine rX e ?_ ?_|refine rC ?_ ?_<;>intro b<;>try(cases b;done))
 refine AJ (ι:={k:Nat//k<=p.length}) (λk=>⟨[(0,.p FA p),(3,.bp 3 [] 0),(4,.bp 4 [] 0),(5,.bp 5 [] 0),(13,.p FA p),(14,.p (.int .i64) (p.length:Int)),(15,.p (.int .i64) (k.1:Int))],[(3,.box 25 true [.p F6 g]),(4,.box 25 true [.raw (.slice none 0 0)]),(5,.box 25 true [.sr 29 HL 0 (Fz p k.1).length]),(29,.arr 93 HL (Fz p k.1))]⟩) (λk=>p.length-k.1) ⟨0,IS _⟩ (AC [(3,.nm 3),(4,.nm 4),(5,.nm 5),(29,.nil)] rfl rfl ?_ ?_) (λk=>?_)
 .first|exact eN|refine eM ?_
  exact⟨rfl,rfl⟩
 .first|exact eN|refine eM ?_
 obtain⟨k,hk⟩:=k;have B:=Ea p k;repeat'(first|exact trivial|apply eS rfl|apply AB|refine rX e ?_ ?_|refine rC ?_ ?_<;>intro b<;>try(cases b;done))
 .exact b
 .have n:k<p.length:=Do.1 b;refine⟨⟨by omega,by omega⟩,?_⟩;rw[B];simp only[AO];omega
 .omega
 .have n:k<p.length:=Do.1 b;have hs:=lA p k;refine⟨⟨k+1,n⟩,by simp only;omega,AC [(3,.nm 3),(4,.nm 4),(5,.nm 5),(29,.nm 29)] rfl rfl ?_ ?_⟩
  .simp only[hs];first|exact eN|refine eM ?_
  first|exact eN|refine eM ?_
 have D:k=p.length:=by
  have:=Tn.1 b;omega
 subst D;obtain⟨t,m⟩:∃c,Fz p p.length=c:=⟨_,rfl⟩;have A:=Ea p p.length;have s:t++g.map (λx:AD=>(x.1,Ad p.length x.2))=BQ p g:=by rw[<-m];rfl
 generalize Fz p p.length=ch at *;subst m;refine AJ (ι:={i:Nat//i<=g.length}) (λi=>⟨[(0,.p FA p),(3,.bp 3 [] 0),(4,.bp 4 [] 0),(5,.bp 5 [] 0),(33,.p F6 g),(34,.p (.int .i64) (g.length:Int)),(35,.p (.int .i64) (i.1:Int))],[(3,.box 25 true [.p F6 g]),(4,.box 25 true [.raw (.slice none 0 0)]),(5,.box 25 true [.sr 29 HL 0 (ch++Nb p.length g i.1).length]),(29,.arr 93 HL (ch++Nb p.length g i.1))]⟩) (λi=>g.length-i.1) ⟨0,IS _⟩ (AC [(3,.nm 3),(4,.nm 4),(5,.nm 5),(29,.nm 29)] rfl rfl ?_ ?_) (λi=>?_)
 .have v:ch++Nb p.length g 0=ch:=by simp[Nb]
  simp only[v];first|exact eN|refine eM ?_
 .first|exact eN|refine eM ?_
 obtain⟨i,hi⟩:=i;have E:=HR p.length g hi;have r:=λh:i<g.length=>lW p.length g h;simp only;generalize o:Nb p.length g i=os at *;repeat'(first|exact trivial|apply eS rfl|apply AB|refine rX e ?_ ?_|refine rC ?_ ?_<;>intro b<;>try(cases b;done))
 .exact b
 .have l:i<g.length:=Do.1 b;have q:=E8 f i;have G:(g.getD i (0,[])).2.length<=100000:=(f.2 _ (AF g (0,[]) l)).1;generalize L:g.getD i (0,[])=x at *;obtain⟨H,xs⟩:=x;simp only at q G r ⊢;refine AJ (ι:={j:Nat//j<=xs.length}) (λj=>⟨[(0,.p FA p),(3,.bp 3 [] 0),(4,.bp 4 [] 0),(5,.bp 5 [] 0),(10,.bp 10 [] 0),(33,.p F6 g),(34,.p (.int .i64) (g.length:Int)),(35,.p (.int .i64) (i:Int)),(43,.p DC xs),(44,.p (.int .i64) (xs.length:Int)),(45,.p (.int .i64) (j.1:Int))],[(3,.box 25 true [.p F6 g]),(4,.box 25 true [.raw (.slice none 0 0)]),(5,.box 25 true [.sr 29 HL 0 (ch++os).length]),(29,.arr 93 HL (ch++os)),(10,.box 93 true [.p T3 H,.sr 60 AW 0 (Ad p.length (xs.take j.1)).length]),(60,.arr 106 AW (Ad p.length (xs.take j.1)))]⟩) (λj=>xs.length-j.1) ⟨0,IS _⟩ (AC [(3,.nm 3),(4,.nm 4),(5,.nm 5),(29,.nm 29),(10,.nm 10),(60,.nil)] rfl rfl ?_ ?_) (λj=>?_)
  .first|exact eN|refine eM ?_
   exact⟨rfl,rfl⟩
  .first|exact eN|refine eM ?_
  obtain⟨j,J⟩:=j;have w:(Ad p.length (xs.take j)).length=j:=by unfold Ad;rw[OF,OR];omega
  have y:=λh:j<xs.length=>CF (λa:Int×Int=>(a.1,a.2+(p.length:Int))) xs (0,0) h;simp only;repeat'(first|exact trivial|apply eS rfl|apply AB|refine rX e ?_ ?_|refine rC ?_ ?_<;>intro b<;>try(cases b;done))
  .exact b
  .have d:j<xs.length:=Do.1 b;have K:=q _ (AF xs (0,0) d);refine⟨⟨by omega,by omega⟩,?_⟩;rw[w];simp only[AO];omega
  .omega
  .have d:j<xs.length:=Do.1 b;have z:Ad p.length (xs.take (j+1))=Ad p.length (xs.take j)++[((xs.getD j (0,0)).1,(xs.getD j (0,0)).2+(p.length:Int))]:=y d;refine⟨⟨j+1,d⟩,by simp only;omega,AC [(3,.nm 3),(4,.nm 4),(5,.nm 5),(29,.nm 29),(10,.nm 10),(60,.nm 60)] rfl rfl ?_ ?_⟩
   .simp only[z];first|exact eN|refine eM ?_
   first|exact eN|refine eM ?_
  .rw[A,E];simp only[AO];omega
  .omega
  have d:xs.take j=xs:=At (Tn.1 b);have F:=r l;rw[d];refine⟨⟨i+1,l⟩,by simp only;omega,AC [(3,.nm 3),(4,.nm 4),(5,.nm 5),(29,.nm 29)] rfl rfl ?_ ?_⟩
  .simp only[F,<-Tt];first|exact eN|refine eM ?_
  first|exact eN|refine eM ?_
 have C:i=g.length:=by
  have:=Tn.1 b;omega
 subst C;rw[Q4]at o;rw[o]at s;exact fI e [.cell 4 25] (by rw[<-s];exact eR)
def FW (l:List (Int×Int)) (e:Int):Int×Bool:=match l with
 | []=>(0,false)
 | a :: l=>if a.1=e then (a.2,true) else FW l e
theorem YC (e:Int) (l:List (Int×Int)) {k:Nat} (h:k<l.length):FW (l.drop k) e=if (l.getD k (0,0)).1=e then ((l.getD k (0,0)).2,true) else FW (l.drop (k+1)) e:=by
 rw[Tj h];have e:l.getD k (0,0)=l[k]:=by simp[AS,h]
 rw[e];rfl
def A4R:AZ:={ ins:=[Cy,T3,T3],pre:=λ(f,n,_,_)=>EA f/\0<=n/\n<(List.length f:Int),out:=λ(f,n,e,_)=>[.p T3 (FW (List.getD f n.toNat (0,[])).2 e).1,.p .bool (FW (List.getD f n.toNat (0,[])).2 e).2] }
theorem A8g:Ab Tryz.prog 123 A4R:=by
 refine fK [0,1,2,3,6,7,9,15,16,17,18,24] Tryz.func123 Tryz.ntmps123 AH ?_;rintro w0 O0 ⟨f,n,e,u⟩ c-⟨hf,h0,h1⟩;simp only[A4R,AM];repeat'(first|exact trivial|apply eS rfl|apply AB|refine rX c ?_ ?_|refine rC ?_ ?_<;>intro a<;>try(cases a;done))
 .exact⟨h0,h1⟩
 generalize g:(f.getD n.toNat (0,[])).2=xs at *;have i:xs.length<=100000:=by
  rw[<-g];have hn:n.toNat<f.length:=by
   have h0:(0:Int)<=n:=h0;have h1:(n:Int)<(List.length f:Int):=h1;exact(Int.toNat_lt h0).2 h1
  exact hf.2 _ (AF f (0,[]) hn)
 refine AJ (ι:={k:Nat//k<=xs.length/\FW xs e=FW (xs.drop k) e}) (λk=>⟨[(2,.p T3 e),(15,.p DC xs),(16,.p (.int .i64) (xs.length:Int)),(17,.p (.int .i64) (k.1:Int))],[]⟩) (λk=>xs.length-k.1) ⟨0,IS _,rfl⟩ (AC [] rfl rfl ?_ ?_) (λk=>?_)
 .first|exact eN|refine eM ?_
 .first|exact eN|refine eM ?_
 obtain⟨k,hk,d⟩:=k;repeat'(first|exact trivial|apply eS rfl|apply AB|refine rX c ?_ ?_|refine rC ?_ ?_<;>intro a<;>try(cases a;done))
 .exact a
 .have b:k<xs.length:=Do.1 (by assumption);have h:=YC e xs b;rw[BY a]at h;rw[d,h];exact fI c [.tmp 6,.tmp 7]
 .omega
 .have b:k<xs.length:=Do.1 (by assumption);have h:=YC e xs b;rw[As a]at h;refine⟨⟨k+1,b,d.trans h⟩,by simp only;omega,AC [] rfl rfl ?_ ?_⟩
  .first|exact eN|refine eM ?_
  first|exact eN|refine eM ?_
 have b:xs.drop k=[]:=On (Tn.1 a);rw[b]at d;rw[d];exact fI c [.tmp 6,.tmp 7] (by first|exact eR|refine Wf ?_;exact⟨rfl,rfl⟩)
section
attribute [local go_sem] A4R
def J6 (f:List AD):Int->List Int->Int×Bool
 | n,[]=>(n,true)
 | n,e :: p=>if (FW (AU f n) e).2=true then J6 f (FW (AU f n) e).1 p else (0,false)
theorem SP {p:List Int} {k:Nat} (h:k<p.length):p.drop k=p.getD k 0 :: p.drop (k+1):=by
 rw[Tj h];simp[AS,h]
theorem lX {l:List (Int×Int)} {e:Int} (h:(FW l e).2=true):∃a∈l,a.1=e/\a.2=(FW l e).1:=by
 induction l with
 | nil=>simp[FW]at h
 | cons a l g =>
  simp only[FW]at h ⊢;split
  .rename_i c;exact⟨a,by simp,c,rfl⟩
  rename_i c;rw[As c]at h;obtain⟨b,f,h1,d⟩:=g h;exact⟨b,by simp[f],h1,d⟩
theorem A1J {l:List (Int×Int)} (hs:N0 l) (hn:∀a∈l,0<=a.2) (e:Int):FW l e=if mT l e<0 then (0,false) else (mT l e,true):=by
 cases h:(FW l e).2 with
 | true =>
  obtain⟨a,ha,g,i⟩:=lX h;have d:=zD hs ha;rw[g]at d;have:=hn a ha;rw[As (by omega),d,i,<-h]
 | false =>
  have c:∀a∈l,a.1≠e:=by
   intro a ha g;clear hs hn;induction l with
   | nil=>cases ha
   | cons b l f =>
    simp only[FW]at h;split at h
    .cases h
    rename_i j;rcases By.1 ha with rfl|ha
    .exact j g
    exact f h ha
  have d:mT l e=-1:=by
   unfold mT;clear hs hn h;generalize (-1:Int)=t;induction l with
   | nil=>rfl
   | cons b l f =>
    rw[Tk,As (c b (by simp))];exact f (λa ha=>c a (by simp[ha]))
  have h0:(FW l e).1=0:=by
   clear hs hn d;induction l with
   | nil=>rfl
   | cons b l f =>
    simp only[FW];rw[As (c b (by simp))];refine f ?_ (λa ha=>c a (by simp[ha]));simp only[FW]at h
    rwa [As (c b (by simp))]at h
  rw[d,BY (by decide),<-h0,<-h]
theorem YD {f:List AD} (hf:AN f) (hs:∀x∈f,N0 x.2):∀(p:List Int) (n:Int),J6 f n p=match Bx f n p with|some m=>(m,true)|none=>(0,false)
 | [],n=>rfl
 | e :: p,n=>by
  have h:=A1J (MT hs n) (λa ha=>(BA hf ha).1) e;simp only[J6,Bx];rw[h];by_cases b:mT (AU f n) e<0
  .rw[BY b,BY b];rfl
  rw[As b,As b];exact YD hf hs p _
def atS:AZ:={ ins:=[Cy,FA],pre:=λ(f,_,_)=>AN f/\0<List.length f,out:=λ(f,p,_)=>[.p T3 (J6 f 0 p).1,.p .bool (J6 f 0 p).2] }
attribute [local go_sem] atS
theorem ADa:Ab Tryz.prog 68 atS:=by
 refine fK [0,1,2,4,5,6,8,9,10,11,12,13,14,25] Tryz.func68 Tryz.ntmps68 (AE A8g AH) ?_;rintro w0 O0 ⟨f,p,u⟩ e ⟨-,⟨i,-⟩,-⟩ ⟨hf,h0⟩;simp only[AO]at i;simp only[atS,AM];have j:EA f:=⟨hf.1,λx l=>(hf.2 x l).1⟩;have h0:0<f.length:=h0;repeat'(first|exact trivial|apply eS rfl|apply AB|refine rX e ?_ ?_|refine rC ?_ ?_<;>intro b<;>try(cases b;done))
 refine AJ (ι:={s:Nat×Int//s.1<=p.length/\(0<=s.2/\s.2<(f.length:Int))/\J6 f 0 p=J6 f s.2 (p.drop s.1)}) (λs=>⟨[(2,.bp 2 [] 0),(6,.p T3 s.1.2),(11,.p FA p),(12,.p (.int .i64) (p.length:Int)),(13,.p (.int .i64) (s.1.1:Int))],[(2,.box 25 true [.p F6 f])]⟩) (λs=>p.length-s.1.1) ⟨(0,0),IS _,⟨AA2 0,by show (0:Int)<_;omega⟩,rfl⟩ (AC [(2,.nm 2)] rfl rfl ?_ ?_) (λs=>?_)
 .first|exact eN|refine eM ?_
 .first|exact eN|refine eM ?_
 obtain⟨⟨k,n⟩,hk,hn,d⟩:=s;simp only at hk hn d ⊢;repeat'(first|exact trivial|apply eS rfl|apply AB|refine rX e ?_ ?_|refine rC ?_ ?_<;>intro b<;>try(cases b;done))
 .exact b
 .exact⟨j,hn⟩
 .have c:k<p.length:=Do.1 (by assumption);have h1:J6 f 0 p=(0,false):=by
   rw[d,SP c];simp only[J6];rw[As (by rw[b];simp)]
  exact fI e [.tmp 4,.tmp 5] (by rw[h1];exact eR)
 .omega
 .have c:k<p.length:=Do.1 (by assumption);have h1:=d;rw[SP c]at h1;simp only[J6]at h1;rw[BY b]at h1;obtain⟨a,ha,-,h⟩:=lX b;have g:=BA hf ha;rw[h]at g;refine⟨⟨(k+1,(FW (f.getD n.toNat (0,[])).2 (p.getD k 0)).1),c,g,h1⟩,by simp only;omega,AC [(2,.nm 2)] rfl rfl ?_ ?_⟩
  .first|exact eN|refine eM ?_
  first|exact eN|refine eM ?_
 have c:p.drop k=[]:=On (Tn.1 b);rw[c]at d;exact fI e [.tmp 4,.tmp 5] (by rw[d];first|exact eR|refine Wf ?_;exact⟨rfl,rfl⟩)
end
def lY (h:AG):Int:=lG h (sb [65,82,71,83])
def qO (h:AG) (i:Nat):List Int:=lY h :: (List.replicate i (AP h).rest++[(AP h).first])
theorem A8h (h:AG) (i:Nat):(qO h i).length=i+2:=by simp[qO]
def IV (pl:Nat->List Int):Nat->List (List AD)->List (List AD)
 | _,[]=>[]
 | i,k :: l=>BQ (pl i) k :: IV pl (i+1) l
noncomputable def GV (h:AG) (pl:Nat->List Int):Nat->List AD->List (List AD)->List AD×Bool
 | _,f,[]=>(f,true)
 | i,f,k :: l=>if (fO h f (BQ (pl i) k)).2=true then GV h pl (i+1) (fO h f (BQ (pl i) k)).1 l else ([],false)
theorem YE {pl:Nat->List Int} {x:List AD}:∀ {l:List (List AD)} {i:Nat},x∈IV pl i l->∃j,j<l.length/\x=BQ (pl (i+j)) (l.getD j [])
 | k :: l,i,h=>by
  rcases By.1 h with rfl|h
  .exact⟨0,by simp,rfl⟩
  obtain⟨j,a,rfl⟩:=YE h;exact⟨j+1,by simpa using a,by rw[show i+(j+1)=i+1+j by omega];rfl⟩
theorem YF {h:AG} {pl:Nat->List Int}:∀ {l:List (List AD)} {i:Nat} {f:List AD},(∀x∈IV pl i l,x.length<=100)->(GV h pl i f l).1.length<=f.length+100*l.length
 | [],i,f,_=>Is _
 | k :: l,i,f,c=>by
  unfold GV;split
  .have h1:=z7 (h:=h) (a:=f) (b:=BQ (pl i) k);have e:=c _ (gO (a:=BQ (pl i) k) (l:=IV pl (i+1) l));have g:=YF (h:=h) (pl:=pl) (l:=l) (i:=i+1) (f:=(fO h f (BQ (pl i) k)).1) λx d=>c x (NO _ d);simp only[OS];omega
  simp
section
variable {h:AG} (hh:H14 h)
include hh
theorem YG {pl:Nat->List Int}:∀(l:List (List AD)) (i:Nat) (f:List AD) (L:List (List AD)),Me h L (f,true)->(∀x∈L,VF h x)->(∀x∈IV pl i l,VF h x/\x.length<=100)->f.length+100*l.length<=10000->Me h (L++IV pl i l) (GV h pl i f l)
 | [],i,f,L,H,o,q,r=>by
  show Me h (L++[]) (f,true);rw[UF];exact H
 | k :: l,i,f,L,H,o,q,r=>by
  have hu:=q _ (gO (a:=BQ (pl i) k) (l:=IV pl (i+1) l));have g:=H.vf rfl;simp only[OS]at r;have v:=z7 (h:=h) (a:=f) (b:=BQ (pl i) k);have hs:Me h (L++[BQ (pl i) k]) (fO h f (BQ (pl i) k)):=by
   refine(A8f hh g.wt.1 hu.1 (by have:=hu.2;show f.length+_<=10000;omega)).congr λX j=>?_;rw[YB,HQ];constructor
   .rintro⟨⟨m,d⟩,s⟩ x t;rcases IF.1 t with c|c
    .exact A4O hh.ok o g.wt.1 j.1 g.hom d x c
    rw[Tu.1 c];exact s
   intro n;exact⟨g.least X j λx d=>n x (UK _ d),n _ (Yu _ (Tu.2 rfl))⟩
  show Me h (L++BQ (pl i) k :: IV pl (i+1) l) (GV h pl i f (k :: l));unfold GV;split
  .rename_i p;have:=YG l (i+1) (fO h f (BQ (pl i) k)).1 (L++[BQ (pl i) k]) (by rw[<-p];exact hs) (λx d=>by
    rcases IF.1 d with c|c
    .exact o x c
    rw[Tu.1 c];exact hu.1) (λx d=>q x (NO _ d)) (by omega)
   rwa [Tt,List.singleton_append]at this
  rename_i p;refine .inr ⟨rfl,λX j n=>?_⟩;rcases hs with ⟨e,-⟩|⟨-,u⟩
  .exact p e
  refine u X j λx d=>n x ?_;rcases IF.1 d with c|c
  .exact UK _ c
  exact Yu _ (by rw[Tu.1 c];exact gO)
omit hh in
theorem A1K {f:List AD} (a:Wt h f):Me h [f] (f,true):=.inl ⟨rfl,a,HQ.2 ⟨id,e9 a.1.str⟩,λ_ _ b=>HQ.1 b⟩
end
theorem A9R {h:AG} (e:Ex h=true) (ha:0<=lY h) (i:Nat):FtP h (qO h i):=by
 obtain⟨⟨h1,b⟩,-⟩:=X4 e;have c:=Ky h (sb [70,73,82,83,84]);have d:=Ky h (sb [82,69,83,84]);have f:=Ky h (sb [65,82,71,83]);intro x a;rcases By.1 a with rfl|a
 .exact⟨ha,f.2⟩
 rcases IF.1 a with a|a
 .rw[(List.mem_replicate.1 a).2];exact⟨b,d.2⟩
 rw[Tu.1 a];exact⟨h1,c.2⟩
structure A9S (h:AG) (ar:Int) (f:List AD):Prop where
 arb:1<=ar/\ar<=2
 chk:fG h f=0
 args:0<=lY h
 lw:Ex h=true
 walk:∀i:Nat,(i:Int)<ar->∃n,Bx f 0 (qO h i)=some n
section
attribute [local go_sem] JS PR X5
def BF (h:AG) (w:LW):Obj:=.box 115 true [.p ED h,.p T3 w.list,.p T3 w.cons,.p T3 w.null,.p T3 w.dlist,.p T3 w.first,.p T3 w.rest,.p T3 w.head,.p T3 w.last]
theorem lZ (h:AG) (w:LW) (f:List AD) (n:Int):A9 Tryz.prog 90 [.p ZD (wdF h w),.p Cy f,.p T3 n] [] [] (λres c=>res=.clo 139 [5,3,4]/\c=[(5,.box 3 false [.p T3 n]),(4,.box 25 true [.p F6 f]),(3,BF h w)]):=by
 refine Kh [0,1,2,3,4,5,6] [] [] Tryz.func90 Tryz.ntmps90 AH ?_;intro w0 K O0 ρ0 a d e;simp only[Aq,wdF];repeat'(first|exact trivial|apply eS rfl|apply AB|refine rX a ?_ ?_|refine rC ?_ ?_<;>intro b<;>try(cases b;done))
 exact fM a [.tmp 6] (.clo 139 [5,3,4]) eT ⟨rfl,rfl⟩
abbrev WS:=List Int×List Int×Bool×Int
def BT (f:List AD) (n:Int):AD:=f.getD n.toNat (0,[])
def Mf (h:AG) (w:LW) (f:List AD) (s:WS):WS:=(s.1++[s.2.2.2],if Az h w (BT f s.2.2.2)=2 then s.2.1++[BK (BT f s.2.2.2).2 w.first] else s.2.1,decide (Az h w (BT f s.2.2.2)=1),BK (BT f s.2.2.2).2 w.rest)
def AR (h:AG) (w:LW) (f:List AD) (n:Int):Nat->WS
 | 0=>([],[],false,n)
 | i+1=>Mf h w f (AR h w f n i)
def WGo (h:AG) (w:LW) (f:List AD) (n:Int) (i:Nat):Prop:=∀j,j<i->Az h w (BT f (AR h w f n j).2.2.2)=2/\(AR h w f n j).2.2.2∉(AR h w f n j).1
theorem SQ (h:AG) (w:LW) (x:AD):Az h w x=0\/Az h w x=1\/Az h w x=2\/Az h w x=3:=by
 unfold Az;split
 .exact .inr (.inl rfl)
 split
 .exact .inr (.inr (.inl rfl))
 split
 .exact .inr (.inr (.inr rfl))
 exact .inl rfl
theorem HS {h:AG} {w:LW} {f:List AD} {n:Int} (hf:AN f) (n0:0<=n) (n1:n<(f.length:Int)):∀i,WGo h w f n i->Iy f (AR h w f n i).1/\(AR h w f n i).1.length=i/\(0<=(AR h w f n i).2.2.2/\(AR h w f n i).2.2.2<(f.length:Int))/\(AR h w f n i).2.1.length=i
 | 0,_=>⟨Fu f,rfl,⟨n0,n1⟩,rfl⟩
 | i+1,c=>by
  obtain⟨h1,d,a,e⟩:=HS hf n0 n1 i (λj l=>c j (by omega));obtain⟨b,g⟩:=c i (by omega);have hk:=NL b;refine⟨h1.snoc a.1 a.2 g,?_,⟨hk.2,?_⟩,?_⟩
  .show ((AR h w f n i).1++_).length=_;rw[A0,d];rfl
  .exact I0 (by omega) _ λx k=>(BA hf (n:=(AR h w f n i).2.2.2) k).2
  show (if _ then _ else _:List Int).length=_;rw[BY b,A0,e];rfl
theorem l0 {h:AG} {w:LW} {f:List AD} {n:Int} (k:Nat):∀i,WGo h w f n i->IR h w f (k+i) [] [] n=IR h w f k (AR h w f n i).1 (AR h w f n i).2.1 (AR h w f n i).2.2.2
 | 0,_=>rfl
 | i+1,b=>by
  have e:=l0 (h:=h) (w:=w) (f:=f) (n:=n) (k+1) i (λj g=>b j (by omega));obtain⟨a,d⟩:=b i (by omega);rw[show k+(i+1)=k+1+i by omega,e];have c:Az h w (f.getD (AR h w f n i).2.2.2.toNat (0,[]))=2:=a;show (if _ then _ else _)=_;rw[As d,c,As (by decide),As (by decide),As (by decide)];show _=IR h w f k (Mf h w f (AR h w f n i)).1 (Mf h w f (AR h w f n i)).2.1 (Mf h w f (AR h w f n i)).2.2.2;unfold Mf;rw[BY a];rfl
theorem l4 {h:AG} {f:List AD} {n:Int} (hf:AN f) (j:Ex h=true) (n0:0<=n) (n1:n<(f.length:Int)) {i:Nat} (c:WGo h (AP h) f n i) :
  ((AR h (AP h) f n i).2.2.2∈(AR h (AP h) f n i).1->Al h f n=([],false,6)) /\
  ((AR h (AP h) f n i).2.2.2∉(AR h (AP h) f n i).1->Az h (AP h) (BT f (AR h (AP h) f n i).2.2.2)=0->Al h f n=([],false,13)) /\
  ((AR h (AP h) f n i).2.2.2∉(AR h (AP h) f n i).1->Az h (AP h) (BT f (AR h (AP h) f n i).2.2.2)≠0->Az h (AP h) (BT f (AR h (AP h) f n i).2.2.2)≠2->Al h f n=((AR h (AP h) f n (i+1)).2.1,(AR h (AP h) f n (i+1)).2.2.1,0)):=by
 obtain⟨h1,k,l,-⟩:=HS hf n0 n1 i c;have m:=h1.len;have e:Al h f n=IR h (AP h) f ((f.length-i)+1) (AR h (AP h) f n i).1 (AR h (AP h) f n i).2.1 (AR h (AP h) f n i).2.2.2:=by
  unfold Al;rw[BY j,<-l0 _ _ c,show f.length-i+1+i=f.length+1 by omega]
 rw[e];show (_->(if _ then _ else _)=_)/\(_->_->(if _ then _ else _)=_)/\(_->_->_->(if _ then _ else _)=_);refine⟨λq=>BY q,λb a=>?_,λb a d=>?_⟩
 .have a:Az h (AP h) (f.getD (AR h (AP h) f n i).2.2.2.toNat (0,[]))=0:=a;rw[As b,a];rfl
 have hk:=SQ h (AP h) (BT f (AR h (AP h) f n i).2.2.2);have hs:(AR h (AP h) f n (i+1)).2.1=(AR h (AP h) f n i).2.1:=As d;have g:(AR h (AP h) f n (i+1)).2.2.1=decide (Az h (AP h) (BT f (AR h (AP h) f n i).2.2.2)=1):=rfl;rw[As b,hs,g];show (if Az h (AP h) (BT f (AR h (AP h) f n i).2.2.2)=1 then _ else if Az h (AP h) (BT f (AR h (AP h) f n i).2.2.2)=3 then _ else _)=_;rcases hk with hk|hk|hk|hk
 .exact absurd hk a
 .rw[hk];rfl
 .exact absurd hk d
 rw[hk];rfl
def wE:List (Nat×AV):=[(4,.bp 4 [] 0),(6,.bp 6 [] 0),(7,.bp 7 [] 0),(8,.bp 8 [] 0),(9,.bp 9 [] 0),(11,.bp 11 [] 0),(12,.bp 12 [] 0),(13,.bp 13 [] 0)]
def wO (h:AG) (w:LW) (f:List AD) (L:Go.Loop) (a:Array Value) (s:WS) (m e:Int):List (Nat×Obj):=[(50,.box 3 false [.p T3 m]),(51,BF h w),(52,.box 25 true [.p F6 f]),(101,.loop L),(102,.frame a wE),(6,.box 61 false [.raw (.slice none 0 0)]),(7,.box 4 false [.p .bool false]),(8,.box 35 false [.p GK e]),(9,BF h w),(4,.box 25 true [.p F6 f]),(11,.box 61 false [.sr 60 T3 0 s.2.1.length]),(60,.arr 3 T3 s.2.1),(12,.box 4 false [.p .bool s.2.2.1]),(13,.box 119 false [.mp 24]),(24,.mapo T3 .bool (FT s.1))]
def Cu (L:Go.Loop):Go.Loop:={ L with state:=.done,pending:=some .ret }
def WRd (h:AG) (w:LW) (f:List AD) (n:Int) (L:Go.Loop) (a:Array Value) (i:Nat) (b:Bool) (O:List (Nat×Obj)):Prop :=
 ((AR h w f n i).2.2.2∈(AR h w f n i).1/\b=false/\O=wO h w f (Cu L) a (AR h w f n i) (AR h w f n i).2.2.2 6) \/
 ((AR h w f n i).2.2.2∉(AR h w f n i).1/\Az h w (BT f (AR h w f n i).2.2.2)=0/\b=false/\O=wO h w f (Cu L) a (AR h w f n i) (AR h w f n i).2.2.2 13) \/
 ((AR h w f n i).2.2.2∉(AR h w f n i).1/\Az h w (BT f (AR h w f n i).2.2.2)≠0/\b=true/\O=wO h w f L a (AR h w f n (i+1)) (AR h w f n i).2.2.2 0)
theorem A1L (h:AG) (w:LW) (f:List AD) (n:Int) (E:WOk h w) (hf:AN f) (D:CP h f) (n0:0<=n) (n1:n<(f.length:Int)) (L:Go.Loop) (d:Array Value)
  (m:∀i,WGo h w f n i->Wb Tryz.prog 101 [.p T3 (AR h w f n i).2.2.2] (wO h w f L d (AR h w f n i) (AR h w f n i).2.2.2 0) [50,51,52,101,102,6,7,8,9,4,11,12,13,24] (λres k=>∃b,res=.p .bool b/\WRd h w f n L d i b k)) :
  A9 Tryz.prog 139 [.yl 101,.bp 50 [] 0,.bp 51 [] 0,.bp 52 [] 0] (wO h w f L d (AR h w f n 0) n 0) [50,51,52,101,102,6,7,8,9,4,11,12,13,24] (λres k=>res=.raw (.tuple #[])/\∃i b,WGo h w f n i/\WRd h w f n L d i b k/\(b=true->Az h w (BT f (AR h w f n i).2.2.2)≠2)):=by
 refine Kh [0,1,2,3,14] [] [] Tryz.func139 Tryz.ntmps139 (AE Qw (AE Qv AH)) ?_;intro w0 K O0 ρ0 a B C;simp only[Aq,wO,BF];have t:=m;clear m;repeat'(first|exact trivial|apply eS rfl|apply AB|refine rX a ?_ ?_|refine rC ?_ ?_<;>intro c<;>try(cases c;done))
 refine AJ (ι:={i:Nat//WGo h w f n i}) (λi=>⟨[(0,.yl 101),(1,.bp 50 [] 0),(2,.bp 51 [] 0),(3,.bp 52 [] 0)],wO h w f L d (AR h w f n i.1) (AR h w f n i.1).2.2.2 0⟩) (λi=>f.length+1-i.1) ⟨0,λj o=>by omega⟩ (AC [(50,.nm 50),(51,.nm 51),(52,.nm 52),(101,.nm 101),(102,.nm 102),(6,.nm 6),(7,.nm 7),(8,.nm 8),(9,.nm 9),(4,.nm 4),(11,.nm 11),(60,.nm 60),(12,.nm 12),(13,.nm 13),(24,.nm 24)] rfl rfl ?_ ?_) (λi=>?_)
 .simp only[wO,BF,wE,AR];first|exact eN|refine eM ?_
 .simp only[wO,BF,wE,AR];first|exact eN|refine eM ?_
 obtain⟨i,hi⟩:=i;obtain⟨q,x,r,y⟩:=HS hf n0 n1 i hi;have u:=t i hi;have z:=q.len;have A:AR h w f n (i+1)=Mf h w f (AR h w f n i):=rfl;simp only[wO,BF,wE];repeat'(first|exact trivial|apply eS rfl|apply AB|refine rX a ?_ ?_|refine rC ?_ ?_<;>intro c<;>try(cases c;done))
 refine cG 2 a ?_ ?_
 .trivial
 refine rY 101 101 a (u) [(50,.nm 50),(51,.nm 51),(52,.nm 52),(101,.nm 101),(102,.nm 102),(6,.nm 6),(7,.nm 7),(8,.nm 8),(9,.nm 9),(4,.nm 4),(11,.nm 11),(60,.nm 60),(12,.nm 12),(13,.nm 13),(24,.nm 24)] [60] ?_ ?_ ?_
 .first|exact eN|refine eM ?_
 .simp only[wO,BF,wE];first|exact eN|refine eM ?_
 rintro _ _ ⟨b,rfl,g⟩;have s:=g;rcases s with ⟨l,rfl,rfl⟩|⟨l,v,rfl,rfl⟩|⟨l,v,rfl,rfl⟩
 .refine⟨[(50,.nm 50),(51,.nm 51),(52,.nm 52),(101,.nm 101),(102,.nm 102),(6,.nm 6),(7,.nm 7),(8,.nm 8),(9,.nm 9),(4,.nm 4),(11,.nm 11),(60,.nm 60),(12,.nm 12),(13,.nm 13),(24,.nm 24)],.p .bool false,wO h w f (Cu L) d (AR h w f n i) (AR h w f n i).2.2.2 6,rfl,rfl,?_,?_,rfl,rfl,?_⟩
  .simp only[wO,BF,wE];first|exact eN|refine eM ?_
  .first|exact eN|refine eM ?_
  simp only[wO,BF,wE];refine rL a ?_ ?_
  .trivial
  repeat'(first|exact trivial|apply eS rfl|apply AB|refine rX a ?_ ?_|refine rC ?_ ?_<;>intro c<;>try(cases c;done))
  refine Ev.ent (σ':=⟨[],wO h w f (Cu L) d (AR h w f n i) (AR h w f n i).2.2.2 6⟩) ?_ (AC [(50,.nm 50),(51,.nm 51),(52,.nm 52),(101,.nm 101),(102,.nm 102),(6,.nm 6),(7,.nm 7),(8,.nm 8),(9,.nm 9),(4,.nm 4),(11,.nm 11),(60,.nm 60),(12,.nm 12),(13,.nm 13),(24,.nm 24)] rfl rfl ?_ ?_)
  .exact fM a [] (.raw (.tuple #[])) rfl ⟨rfl,i,false,hi,g,λe=>by cases e⟩
  .simp only[wO,BF,wE];first|exact eN|refine eM ?_
  first|exact eN|refine eM ?_
 .refine⟨[(50,.nm 50),(51,.nm 51),(52,.nm 52),(101,.nm 101),(102,.nm 102),(6,.nm 6),(7,.nm 7),(8,.nm 8),(9,.nm 9),(4,.nm 4),(11,.nm 11),(60,.nm 60),(12,.nm 12),(13,.nm 13),(24,.nm 24)],.p .bool false,wO h w f (Cu L) d (AR h w f n i) (AR h w f n i).2.2.2 13,rfl,rfl,?_,?_,rfl,rfl,?_⟩
  .simp only[wO,BF,wE];first|exact eN|refine eM ?_
  .first|exact eN|refine eM ?_
  simp only[wO,BF,wE];refine rL a ?_ ?_
  .trivial
  repeat'(first|exact trivial|apply eS rfl|apply AB|refine rX a ?_ ?_|refine rC ?_ ?_<;>intro c<;>try(cases c;done))
  refine Ev.ent (σ':=⟨[],wO h w f (Cu L) d (AR h w f n i) (AR h w f n i).2.2.2 13⟩) ?_ (AC [(50,.nm 50),(51,.nm 51),(52,.nm 52),(101,.nm 101),(102,.nm 102),(6,.nm 6),(7,.nm 7),(8,.nm 8),(9,.nm 9),(4,.nm 4),(11,.nm 11),(60,.nm 60),(12,.nm 12),(13,.nm 13),(24,.nm 24)] rfl rfl ?_ ?_)
  .exact fM a [] (.raw (.tuple #[])) rfl ⟨rfl,i,false,hi,g,λe=>by cases e⟩
  .simp only[wO,BF,wE];first|exact eN|refine eM ?_
  first|exact eN|refine eM ?_
 refine⟨[(50,.nm 50),(51,.nm 51),(52,.nm 52),(101,.nm 101),(102,.nm 102),(6,.nm 6),(7,.nm 7),(8,.nm 8),(9,.nm 9),(4,.nm 4),(11,.nm 11),(60,.nm 60),(12,.nm 12),(13,.nm 13),(24,.nm 24)],.p .bool true,wO h w f L d (AR h w f n (i+1)) (AR h w f n i).2.2.2 0,rfl,rfl,?_,?_,rfl,rfl,?_⟩
 .simp only[wO,BF,wE];first|exact eN|refine eM ?_
 .first|exact eN|refine eM ?_
 simp only[wO,BF,wE];refine rL a ?_ ?_
 .trivial
 repeat'(first|exact trivial|apply eS rfl|apply AB|refine rX a ?_ ?_|refine rC ?_ ?_<;>intro c<;>try(cases c;done))
 .exact⟨hf,r⟩
 .refine⟨⟨i+1,λj o=>(oN.1 o).elim (hi j) λe=>by rw[e];exact⟨c,l⟩⟩,by simp only;omega,AC [(50,.nm 50),(51,.nm 51),(52,.nm 52),(101,.nm 101),(102,.nm 102),(6,.nm 6),(7,.nm 7),(8,.nm 8),(9,.nm 9),(4,.nm 4),(11,.nm 11),(60,.nm 60),(12,.nm 12),(13,.nm 13),(24,.nm 24)] rfl rfl ?_ ?_⟩
  .simp only[wO,BF,wE];first|exact eN|refine eM ?_
   rfl
  first|exact eN|refine eM ?_
 refine Ev.ent (σ':=⟨[],wO h w f L d (AR h w f n (i+1)) (AR h w f n i).2.2.2 0⟩) ?_ (AC [(50,.nm 50),(51,.nm 51),(52,.nm 52),(101,.nm 101),(102,.nm 102),(6,.nm 6),(7,.nm 7),(8,.nm 8),(9,.nm 9),(4,.nm 4),(11,.nm 11),(60,.nm 60),(12,.nm 12),(13,.nm 13),(24,.nm 24)] rfl rfl ?_ ?_)
 .exact fM a [] (.raw (.tuple #[])) rfl ⟨rfl,i,true,hi,g,λ_=>c⟩
 .simp only[wO,BF,wE];first|exact eN|refine eM ?_
 first|exact eN|refine eM ?_
end
section
attribute [local go_sem] JS PR X5
theorem A1M (h:AG) (f:List AD) (n:Int) (k:AN f) (G:CP h f) (n0:0<=n) (n1:n<(f.length:Int)):A9 Tryz.prog 54 [.p ED h,.p Cy f,.p T3 n] [] [] (λres ai=>res=.tup [.p FA (Al h f n).1,.p .bool (Al h f n).2.1,.p GK (Al h f n).2.2]):=by
 refine fKR [0,1,2,3,4,6,7,8,9,10,11,12,13,14,15,22,28,29,34,38,41] [50] [] Tryz.func54 Tryz.ntmps54 (AE MZ (AE Qw (AE Qv AH))) ?_;intro w0 K O0 ρ0 a ad ae;simp only[Aq];have R:(h.1,h.2)=h:=rfl;repeat'(first|exact trivial|apply eS rfl|apply AB|refine rX a ?_ ?_|refine rC ?_ ?_<;>intro c<;>try(cases c;done))
 all_goals simp only[R]at *
 .have l:Ex h=false:=by
   cases d:Ex h with
   | true=>rw[d]at c;exact absurd rfl c
   | false=>rfl
  have j:Al h f n=([],false,5):=by unfold Al;rw[l,As (by simp)]
  simp only[l,Ua,YZ,j];exact Rh a [.cell 6 61,.cell 7 4,.cell 8 35] rfl (.inl rfl) (.tup [.p FA [],.p .bool false,.p GK 5]) eT rfl
 have l:Ex h=true:=by
  cases d:Ex h with
  | false=>rw[d]at c;exact absurd c (by decide)
  | true=>rfl
 simp only[l,Ut,wdF];have C:=X4 l;have B:=PQ h;have H:WOk h (AP h):=⟨⟨C.2.1,B.1.2.1⟩,C.2.2.1,B.1.2.2.1⟩;have v:=λ(i:Nat) (hi:WGo h (AP h) f n i)=>l4 k l n0 n1 hi;have Q:=λ(i:Nat) (hi:WGo h (AP h) f n i)=>HS k n0 n1 i hi;generalize aa:AP h=w at *;refine Ev.ent (σ':=⟨[(2,.p T3 n),(4,.bp 4 [] 0),(6,.bp 6 [] 0),(7,.bp 7 [] 0),(8,.bp 8 [] 0),(9,.bp 9 [] 0),(11,.bp 11 [] 0),(12,.bp 12 [] 0),(13,.bp 13 [] 0)],[(6,.box 61 false [.raw (.slice none 0 0)]),(7,.box 4 false [.p .bool false]),(8,.box 35 false [.p GK 0]),(9,BF h w),(4,.box 25 true [.p F6 f]),(11,.box 61 false [.raw (.slice none 0 0)]),(12,.box 4 false [.p .bool false]),(13,.box 119 false [.mp 24]),(24,.mapo T3 .bool [])]⟩) ?_ (AC [(6,.nm 6),(7,.nm 7),(8,.nm 8),(9,.nm 9),(4,.nm 4),(11,.nm 11),(12,.nm 12),(13,.nm 13),(24,.nm 24)] rfl rfl ?_ ?_)
 .simp only[BF];refine cP 3 a ?_ ?_
  .trivial
  refine rM a (lZ h w f n) [] [] ?_ ?_ ?_
  .simp only[wdF];first|exact eN|refine eM ?_
  .first|exact eN|refine eM ?_
  rintro _ _ ⟨rfl,rfl⟩;refine⟨[(50,.nm 5),(52,.nm 4),(51,.nm 3)],.clo 139 [50,51,52],[(50,.box 3 false [.p T3 n]),(52,.box 25 true [.p F6 f]),(51,BF h w)],rfl,rfl,?_,?_,rfl,rfl,Bh ?_⟩
  .simp only[BF];first|exact eN|refine eM ?_
  .first|exact eN|refine eM ?_
  simp only[BF];repeat'(first|exact trivial|apply eS rfl|apply AB|refine rX a ?_ ?_|refine rC ?_ ?_<;>intro c<;>try(cases c;done))
  refine Wd a rfl rfl (by simp only[go_sem,Nat.reduceEqDiff,reduceCtorEq,Nat.reduceAdd,Nat.reduceSub,Nat.reduceMul,Nat.reduceLeDiff,Nat.reduceLT,Int.reduceLE,Int.reduceToNat,Int.reduceNeg,↓reduceIte];rfl) 101 103 102 rfl rfl rfl rfl ?_;intro L e r u J M N O V;refine⟨_,wO h w f L e (AR h w f n 0) n 0,[50,51,52,101,102,6,7,8,9,4,11,12,13,24],_,[(50,.nm 50),(51,.nm 51),(52,.nm 52),(101,.nm 101),(102,.nm 102),(6,.nm 6),(7,.nm 7),(8,.nm 8),(9,.nm 9),(4,.nm 4),(11,.nm 11),(60,.nil),(12,.nm 12),(13,.nm 13),(24,.nm 24)],[60],A1L h w f n H k G n0 n1 L e ?_,rfl,rfl,?_,?_,rfl,?_⟩
  .intro i hi;obtain⟨I,Y,A,Z⟩:=Q i hi;have ab:=I.len;have t:=zC (AR h w f n i).1 (AR h w f n i).2.2.2;have U:lwO (h,w.list,w.cons,w.null,w.dlist,w.first,w.rest,w.head,w.last)=w:=rfl;have D:FT (AR h w f n (i+1)).1=Fa T3 .bool (AR h w f n i).2.2.2 true (FT (AR h w f n i).1):=by
    show FT ((AR h w f n i).1++[(AR h w f n i).2.2.2])=_;simp[FT]
   have E:(AR h w f n (i+1)).2.2.1=(Az h w (f.getD (AR h w f n i).2.2.2.toNat (0,[]))==1):=by
    show decide (Az h w (BT f (AR h w f n i).2.2.2)=1)=_;rw[ADd];simp[BT]
   have hT:=a.T;have hF:=a.F;refine Wc (fr:=102) rfl rfl r M N O J V rfl (by kernel_rfl) (by simp) rfl rfl (by kernel_rfl) (by kernel_rfl) hT hF ?_;intro aj W X ak ah a af ag d;simp only[wO,BF,wE,GJ];repeat'(first|exact trivial|apply eS rfl|apply AB|refine rX a ?_ ?_|refine rC ?_ ?_<;>intro c<;>try(cases c;done))
   refine⟨rfl,?_⟩;repeat'(first|exact trivial|apply eS rfl|apply AB|refine rX a ?_ ?_|refine rC ?_ ?_<;>intro c<;>try(cases c;done))
   all_goals try simp only[U]at *
   .exact⟨H,k,G,A⟩
   .rw[t]at c;have S:(AR h w f n i).2.2.2∈(AR h w f n i).1:=by simpa[f6] using c
    refine Ev.ent (σ':=⟨[],wO h w f { L with state:=.busy } e (AR h w f n i) (AR h w f n i).2.2.2 6⟩) ?_ (AC [(50,.nm 50),(51,.nm 51),(52,.nm 52),(101,.nm 101),(102,.nm 102),(6,.nm 6),(7,.nm 7),(8,.nm 8),(9,.nm 9),(4,.nm 4),(11,.nm 11),(60,.nm 60),(12,.nm 12),(13,.nm 13),(24,.nm 24)] rfl rfl ?_ ?_)
    .refine HY a (yn:=101) rfl rfl (by simp) d ⟨false,rfl,.inl ⟨S,rfl,?_⟩⟩;simp only[wO,BF,wE,Cu,go_sem,Nat.reduceEqDiff,reduceCtorEq,Nat.reduceAdd,Nat.reduceSub,Nat.reduceMul,Nat.reduceLeDiff,Nat.reduceLT,Int.reduceLE,Int.reduceToNat,Int.reduceNeg,↓reduceIte]
    .simp only[wO,BF,wE];first|exact eN|refine eM ?_
    first|exact eN|refine eM ?_
   .have o:(AR h w f n i).2.2.2∉(AR h w f n i).1:=by
     have g:(BR T3 .bool (AR h w f n i).2.2.2 (FT (AR h w f n i).1)).getD false=false:=by assumption
     rw[t]at g;intro m;have:=Uq.1 g _ m;simp at this
    refine Ev.ent (σ':=⟨[],wO h w f { L with state:=.busy } e (AR h w f n i) (AR h w f n i).2.2.2 13⟩) ?_ (AC [(50,.nm 50),(51,.nm 51),(52,.nm 52),(101,.nm 101),(102,.nm 102),(6,.nm 6),(7,.nm 7),(8,.nm 8),(9,.nm 9),(4,.nm 4),(11,.nm 11),(60,.nm 60),(12,.nm 12),(13,.nm 13),(24,.nm 24)] rfl rfl ?_ ?_)
    .refine HY a (yn:=101) rfl rfl (by simp) d ⟨false,rfl,.inr (.inl ⟨o,c,rfl,?_⟩)⟩;simp only[wO,BF,wE,Cu,go_sem,Nat.reduceEqDiff,reduceCtorEq,Nat.reduceAdd,Nat.reduceSub,Nat.reduceMul,Nat.reduceLeDiff,Nat.reduceLT,Int.reduceLE,Int.reduceToNat,Int.reduceNeg,↓reduceIte]
    .simp only[wO,BF,wE];first|exact eN|refine eM ?_
    first|exact eN|refine eM ?_
   .refine⟨⟨k,A⟩,?_⟩;have:=k.1;simp only[AO];omega
   .have x:Az h w (BT f (AR h w f n i).2.2.2)≠0:=by assumption
    have o:(AR h w f n i).2.2.2∉(AR h w f n i).1:=by
     have g:(BR T3 .bool (AR h w f n i).2.2.2 (FT (AR h w f n i).1)).getD false=false:=by assumption
     rw[t]at g;intro m;have:=Uq.1 g _ m;simp at this
    have y:(AR h w f n (i+1)).2.1=(AR h w f n i).2.1++[BK (f.getD (AR h w f n i).2.2.2.toNat (0,[])).2 w.first]:=BY c;refine Ev.ent (σ':=⟨[],wO h w f { L with state:=.busy } e (AR h w f n (i+1)) (AR h w f n i).2.2.2 0⟩) ?_ (AC [(50,.nm 50),(51,.nm 51),(52,.nm 52),(101,.nm 101),(102,.nm 102),(6,.nm 6),(7,.nm 7),(8,.nm 8),(9,.nm 9),(4,.nm 4),(11,.nm 11),(60,.nm 60),(12,.nm 12),(13,.nm 13),(24,.nm 24)] rfl rfl ?_ ?_)
    .refine M6 a (yn:=101) rfl rfl (by simp) d ⟨true,rfl,.inr (.inr ⟨o,x,rfl,?_⟩)⟩;simp only[wO,BF,wE,go_sem,Nat.reduceEqDiff,reduceCtorEq,Nat.reduceAdd,Nat.reduceSub,Nat.reduceMul,Nat.reduceLeDiff,Nat.reduceLT,Int.reduceLE,Int.reduceToNat,Int.reduceNeg,↓reduceIte,Qi r u]
    .simp only[wO,BF,wE,D,E,y];first|exact eN|refine eM ?_
    first|exact eN|refine eM ?_
   have x:Az h w (BT f (AR h w f n i).2.2.2)≠0:=by assumption
   have o:(AR h w f n i).2.2.2∉(AR h w f n i).1:=by
    have g:(BR T3 .bool (AR h w f n i).2.2.2 (FT (AR h w f n i).1)).getD false=false:=by assumption
    rw[t]at g;intro m;have:=Uq.1 g _ m;simp at this
   have y:(AR h w f n (i+1)).2.1=(AR h w f n i).2.1:=As c;refine Ev.ent (σ':=⟨[],wO h w f { L with state:=.busy } e (AR h w f n (i+1)) (AR h w f n i).2.2.2 0⟩) ?_ (AC [(50,.nm 50),(51,.nm 51),(52,.nm 52),(101,.nm 101),(102,.nm 102),(6,.nm 6),(7,.nm 7),(8,.nm 8),(9,.nm 9),(4,.nm 4),(11,.nm 11),(60,.nm 60),(12,.nm 12),(13,.nm 13),(24,.nm 24)] rfl rfl ?_ ?_)
   .refine M6 a (yn:=101) rfl rfl (by simp) d ⟨true,rfl,.inr (.inr ⟨o,x,rfl,?_⟩)⟩;simp only[wO,BF,wE,go_sem,Nat.reduceEqDiff,reduceCtorEq,Nat.reduceAdd,Nat.reduceSub,Nat.reduceMul,Nat.reduceLeDiff,Nat.reduceLT,Int.reduceLE,Int.reduceToNat,Int.reduceNeg,↓reduceIte,Qi r u]
   .simp only[wO,BF,wE,D,E,y];first|exact eN|refine eM ?_
   first|exact eN|refine eM ?_
  .simp only[A7,wO,BF,wE,AR];first|exact eN|refine eM ?_
  .simp only[A7,wO,BF,wE,AR];first|exact eN|refine eM ?_
   rfl
  rintro _ _ ⟨rfl,i,b,hi,P,d⟩;rcases P with ⟨q,rfl,rfl⟩|⟨q,z,rfl,rfl⟩|⟨q,z,rfl,rfl⟩
  .have j:=(v i hi).1 q;refine⟨[(50,.nm 50),(51,.nm 51),(52,.nm 52),(101,.nm 101),(102,.nm 102),(6,.nm 6),(7,.nm 7),(8,.nm 8),(9,.nm 9),(4,.nm 4),(11,.nm 11),(60,.nm 60),(12,.nm 12),(13,.nm 13),(24,.nm 24)],wO h w f (Cu L) e (AR h w f n i) (AR h w f n i).2.2.2 6,Cu L,rfl,rfl,?_,rfl,rfl,rfl,rfl,?_⟩
   .simp only[wO,BF,wE];first|exact eN|refine eM ?_
   intro b;simp only[Cu,EvJ,wO,BF,wE,A7,go_sem,Nat.reduceEqDiff,reduceCtorEq,Nat.reduceAdd,Nat.reduceSub,Nat.reduceMul,Nat.reduceLeDiff,Nat.reduceLT,Int.reduceLE,Int.reduceToNat,Int.reduceNeg,↓reduceIte];replace a:=HZ (dn:=103) (b:=b) a;repeat'(first|exact trivial|apply eS rfl|apply AB|refine rX a ?_ ?_|refine rC ?_ ?_<;>intro c<;>try(cases c;done))
   refine Ev.ent (σ':=⟨[(6,.bp 6 [] 0),(7,.bp 7 [] 0),(8,.bp 8 [] 0)],[(6,.box 61 false [.p FA []]),(7,.box 4 false [.p .bool false]),(8,.box 35 false [.p GK 6]),(103,.dfr)]⟩) ?_ (AC [(6,.nm 6),(7,.nm 7),(8,.nm 8),(103,.nm 103)] rfl rfl ?_ ?_)
   .rw[j];exact Jm a [.cell 6 61,.cell 7 4,.cell 8 35] rfl (.inl rfl) rfl rfl (.tup [.p FA [],.p .bool false,.p GK 6]) eT rfl
   .first|exact eN|refine eM ?_
   first|exact eN|refine eM ?_
  .have j:=(v i hi).2.1 q z;refine⟨[(50,.nm 50),(51,.nm 51),(52,.nm 52),(101,.nm 101),(102,.nm 102),(6,.nm 6),(7,.nm 7),(8,.nm 8),(9,.nm 9),(4,.nm 4),(11,.nm 11),(60,.nm 60),(12,.nm 12),(13,.nm 13),(24,.nm 24)],wO h w f (Cu L) e (AR h w f n i) (AR h w f n i).2.2.2 13,Cu L,rfl,rfl,?_,rfl,rfl,rfl,rfl,?_⟩
   .simp only[wO,BF,wE];first|exact eN|refine eM ?_
   intro b;simp only[Cu,EvJ,wO,BF,wE,A7,go_sem,Nat.reduceEqDiff,reduceCtorEq,Nat.reduceAdd,Nat.reduceSub,Nat.reduceMul,Nat.reduceLeDiff,Nat.reduceLT,Int.reduceLE,Int.reduceToNat,Int.reduceNeg,↓reduceIte];replace a:=HZ (dn:=103) (b:=b) a;repeat'(first|exact trivial|apply eS rfl|apply AB|refine rX a ?_ ?_|refine rC ?_ ?_<;>intro c<;>try(cases c;done))
   refine Ev.ent (σ':=⟨[(6,.bp 6 [] 0),(7,.bp 7 [] 0),(8,.bp 8 [] 0)],[(6,.box 61 false [.p FA []]),(7,.box 4 false [.p .bool false]),(8,.box 35 false [.p GK 13]),(103,.dfr)]⟩) ?_ (AC [(6,.nm 6),(7,.nm 7),(8,.nm 8),(103,.nm 103)] rfl rfl ?_ ?_)
   .rw[j];exact Jm a [.cell 6 61,.cell 7 4,.cell 8 35] rfl (.inl rfl) rfl rfl (.tup [.p FA [],.p .bool false,.p GK 13]) eT rfl
   .first|exact eN|refine eM ?_
   first|exact eN|refine eM ?_
  have j:=(v i hi).2.2 q z (d rfl);refine⟨[(50,.nm 50),(51,.nm 51),(52,.nm 52),(101,.nm 101),(102,.nm 102),(6,.nm 6),(7,.nm 7),(8,.nm 8),(9,.nm 9),(4,.nm 4),(11,.nm 11),(60,.nm 60),(12,.nm 12),(13,.nm 13),(24,.nm 24)],wO h w f L e (AR h w f n (i+1)) (AR h w f n i).2.2.2 0,L,rfl,rfl,?_,rfl,rfl,rfl,by rw[r];rfl,?_⟩
  .simp only[wO,BF,wE];first|exact eN|refine eM ?_
  intro b;rw[u];generalize AR h w f n (i+1)=s at *;simp only[EvJ,wO,BF,wE,A7,go_sem,Nat.reduceEqDiff,reduceCtorEq,Nat.reduceAdd,Nat.reduceSub,Nat.reduceMul,Nat.reduceLeDiff,Nat.reduceLT,Int.reduceLE,Int.reduceToNat,Int.reduceNeg,↓reduceIte];replace a:=HZ (dn:=103) (b:=b) a;refine E6 [60] ?_;repeat'(first|exact trivial|apply eS rfl|apply AB|refine rP a ?_ ?_|fail)
  refine CL drawsAny a 3 [([0],2)] [1] (by kernel_rfl) (LH ?_ ?_)
  .trivial
  refine Nr a [] ?_ ?_
  .trivial
  refine Sv a ?_ ?_ ?_
  .trivial
  .trivial
  repeat'(first|exact trivial|apply eS rfl|apply AB|refine rX a ?_ ?_|refine rC ?_ ?_<;>intro c<;>try(cases c;done))
  refine Ev.ent (σ':=⟨[(6,.bp 6 [] 0),(7,.bp 7 [] 0),(8,.bp 8 [] 0)],[(6,.box 61 false [.p FA s.2.1]),(7,.box 4 false [.p .bool s.2.2.1]),(8,.box 35 false [.p GK 0]),(103,.dfr)]⟩) ?_ (AC [(6,.nm 6),(7,.nm 7),(8,.nm 8),(103,.nm 103)] rfl rfl ?_ ?_)
  .rw[j];exact Jm a [.cell 6 61,.cell 7 4,.cell 8 35] rfl (.inl rfl) rfl rfl (.tup [.p FA s.2.1,.p .bool s.2.2.1,.p GK 0]) eT rfl
  .first|exact eN|refine eM ?_
  first|exact eN|refine eM ?_
 .simp only[BF];first|exact eN|refine eM ?_
 first|exact eN|refine eM ?_
end
section
attribute [local go_sem] zR Ti fH cs4 cs5
def Mg:AZ:={ ins:=[ED],pre:=λ(h,_)=>Gm h,out:=λ(h,_)=>[.p .bool (Ex h)],lend:=true }
attribute [local go_sem] Mg
theorem YH:Ab Tryz.prog 47 Mg:=by
 refine fK [0,1,2,3,4,5,26,44] Tryz.func47 Tryz.ntmps47 (AE Va (AE A4w (AE Q2 AH))) ?_;rintro w0 O0 ⟨⟨a,hf⟩,u⟩ d-hk;have hk:Gm (a,hf):=hk;obtain⟨f,g,h,i,j,k,l,m⟩:=Kz (a,hf);obtain⟨⟨r,s,t,v⟩,n,o,p,q⟩:=PQ (a,hf);simp only[Mg,AM];repeat'(first|exact trivial|apply eS rfl|apply AB|refine rX d ?_ ?_|refine rC ?_ ?_<;>intro e<;>try(cases e;done))
 all_goals simp only[f,g,h,i,j,k,l,m]at *
 .have c:Ex (a,hf)=false:=by
   rw[Ym];intro b;unfold Ex at b;simp only[An,DO]at b;omega
  exact fI d [.tmp 2] (by rw[c];exact eR)
 .have c:Ex (a,hf)=false:=by
   rw[Ym];intro b;unfold Ex at b;simp only[An,DO]at b;omega
  exact fI d [.tmp 2] (by rw[c];exact eR)
 .grind
 have c:Ex (a,hf)=(BB (a,hf) (AP (a,hf)).list (AP (a,hf)).cons&&BB (a,hf) (AP (a,hf)).list (AP (a,hf)).null):=by
  unfold Ex;rw[Yn (by omega),AEh]
 exact fI d [.tmp 2] (by rw[c];exact eR)
def YI:AZ:={ ins:=[ED,Cy,T3,T9],pre:=λ(_,f,n,_)=>AN f/\(0:Int)<=n/\n<(List.length f:Int),out:=λ(h,f,n,s,_)=>[.p T3 (BK (List.getD (f:List AD) n.toNat (0,[])).2 (lG h s))],lend:=true }
attribute [local go_sem] YI
theorem Q5:Ab Tryz.prog 92 YI:=by
 refine fK [0,1,2,3,4,5,8,9,10,22,36] Tryz.func92 Tryz.ntmps92 (AE A4w AH) ?_;rintro w0 O0 ⟨⟨l,hf⟩,f,n,s,u⟩ d-⟨g,hn⟩;have g:AN f:=g;have hn:0<=n/\n<(f.length:Int):=hn;simp only[YI,AM];repeat'(first|exact trivial|apply eS rfl|apply AB|refine rX d ?_ ?_|refine rC ?_ ?_<;>intro a<;>try(cases a;done))
 have o:=(g.2 _ (AF f (0,[]) (MY hn))).1;generalize m:lG (l,hf) s=e at *;generalize j:(f.getD n.toNat (0,[])).2=L at *;refine AJ (ι:={k:Nat//k<=L.length/\BK L e=BK (L.drop k) e}) (λk=>⟨[(2,.p T3 n),(5,.bp 5 [] 0),(9,.p T3 e),(10,.p (.int .i64) (k.1:Int))],[(5,.box 25 true [.p F6 f])]⟩) (λk=>L.length-k.1) ⟨0,IS _,rfl⟩ (eW [(5,.nm 5)]) (λk=>?_)
 obtain⟨k,hk,b⟩:=k;have i:=λh:k<L.length=>aQ e L h;simp only;repeat'(first|exact trivial|apply eS rfl|apply AB|refine rX d ?_ ?_|refine rC ?_ ?_<;>intro a<;>try(cases a;done))
 all_goals try rw[j]at *
 .exact hn
 .exact⟨hn,a⟩
 .exact⟨hn,by assumption⟩
 .have c:k<L.length:=by exact eV
  rw[i c,BY a]at b;exact fI d [.tmp 8] (by rw[b];exact eR)
 .omega
 .have c:k<L.length:=by exact eV
  rw[i c,As a]at b;exact⟨⟨k+1,by omega,b⟩,by simp only;omega,eW [(5,.nm 5)]⟩
 have c:L.drop k=[]:=On (by exact eV);rw[c]at b;exact fI d [.tmp 8] (by rw[b];first|exact eR|refine Wf ?_;rfl)
def fQ:AZ:={ ins:=[ED,Cy,T3],pre:=λ(_,f,n,_)=>AN f/\(0:Int)<=n/\n<(List.length f:Int),out:=λ(h,f,n,_)=>[.p .bool (MX (AP h) (List.getD (f:List AD) n.toNat (0,[])).2)],lend:=true }
attribute [local go_sem] fQ
theorem bL:Ab Tryz.prog 140 fQ:=by
 refine fK [0,1,2,3,4,6] Tryz.func140 Tryz.ntmps140 (AE Q5 AH) ?_;rintro w0 O0 ⟨⟨g,hf⟩,f,n,u⟩ b-⟨a,hn⟩;have a:AN f:=a;obtain⟨h,i,j,k,d,e,l,m⟩:=Kz (g,hf);simp only[fQ,AM];repeat'(first|exact trivial|apply eS rfl|apply AB|refine rX b ?_ ?_|refine rC ?_ ?_<;>intro c<;>try(cases c;done))
 all_goals simp only[d,e]at *
 .exact⟨⟨a,hn⟩,λ_=>⟨a,hn⟩⟩
 exact fI b [.tmp 6] (by unfold MX;exact eR)
def Q6:AZ:={ ins:=[ED,Cy,T3],pre:=λ(h,f,n,_)=>(Ex h=true/\Gm h)/\AN f/\CP h f/\(0:Int)<=n/\n<(List.length f:Int),out:=λ(h,f,n,_)=>[.p .bool (Na h (AP h) (List.getD (f:List AD) n.toNat (0,[])))],lend:=true }
attribute [local go_sem] Q6
theorem bM:Ab Tryz.prog 113 Q6:=by
 refine fK [0,1,2,3,4,6] Tryz.func113 Tryz.ntmps113 (AE bL (AE Va (AE Q2 AH))) ?_;rintro w0 O0 ⟨⟨a,hf⟩,f,n,u⟩ e-⟨⟨d,hk⟩,b,c,hn⟩;have d:Ex (a,hf)=true:=d;have hk:Gm (a,hf):=hk;have b:AN f:=b;have c:CP (a,hf) f:=c;obtain⟨h,i,j,k,l,m,o,p⟩:=Kz (a,hf);have hn:0<=n/\n<(f.length:Int):=hn;have q:=c _ (AF f (0,[]) (MY hn));obtain⟨-,t,s,-⟩:=X4 d;obtain⟨⟨-,v1,r,-⟩,-⟩:=PQ (a,hf);simp only[Q6,AM];repeat'(first|exact trivial|apply eS rfl|apply AB|refine rX e ?_ ?_|refine rC ?_ ?_<;>intro g<;>try(cases g;done))
 all_goals simp only[h,i,j,k,l,m,o,p]at *
 .exact⟨⟨b,hn⟩,λ_=>hn,λ_=>⟨⟨⟨s,r⟩,q⟩,hk⟩⟩
 exact fI e [.tmp 6] (by unfold Na;rw[AEj];exact eR)
def Q7:AZ:={ ins:=[ED,Cy,T3],pre:=λ(h,f,n,_)=>(Ex h=true/\Gm h)/\AN f/\CP h f/\(0:Int)<=n/\n<(List.length f:Int),out:=λ(h,f,n,_)=>[.p .bool (F0 h (AP h) (List.getD (f:List AD) n.toNat (0,[])))],lend:=true }
attribute [local go_sem] Q7
theorem bN:Ab Tryz.prog 94 Q7:=by
 refine fK [0,1,2,3,4,6] Tryz.func94 Tryz.ntmps94 (AE Q5 (AE Va (AE Q2 AH))) ?_;rintro w0 O0 ⟨⟨a,hf⟩,f,n,u⟩ e-⟨⟨d,hk⟩,b,c,hn⟩;have d:Ex (a,hf)=true:=d;have hk:Gm (a,hf):=hk;have b:AN f:=b;have c:CP (a,hf) f:=c;obtain⟨h,i,j,k,l,m,o,p⟩:=Kz (a,hf);have hn:0<=n/\n<(f.length:Int):=hn;have q:=c _ (AF f (0,[]) (MY hn));obtain⟨-,r,t,-⟩:=X4 d;obtain⟨⟨-,v1,s,-⟩,-⟩:=PQ (a,hf);simp only[Q7,AM];repeat'(first|exact trivial|apply eS rfl|apply AB|refine rX e ?_ ?_|refine rC ?_ ?_<;>intro g<;>try(cases g;done))
 all_goals simp only[h,i,j,k,l,m,o,p]at *
 .exact⟨⟨b,hn⟩,λ_=>⟨b,hn⟩,λ_=>hn,λ_=>⟨⟨⟨r,v1⟩,q⟩,hk⟩⟩
 exact fI e [.tmp 6] (by unfold F0 OA;rw[AEj];exact eR)
def Mh:AZ:={ ins:=[ED,Cy,T3],pre:=λ(h,f,n,_)=>(Ex h=true/\Gm h)/\AN f/\CP h f/\(0:Int)<=n/\n<(List.length f:Int),out:=λ(h,f,n,_)=>[.p .bool (!Na h (AP h) (List.getD (f:List AD) n.toNat (0,[]))&&HF h (AP h) (List.getD (f:List AD) n.toNat (0,[])))],lend:=true }
attribute [local go_sem] Mh
theorem YJ:Ab Tryz.prog 95 Mh:=by
 refine fK [0,1,2,3,4,6] Tryz.func95 Tryz.ntmps95 (AE bM (AE bL (AE Va (AE Q2 AH)))) ?_;rintro w0 O0 ⟨⟨a,hf⟩,f,n,u⟩ e-⟨⟨d,hk⟩,b,c,hn⟩;have d:Ex (a,hf)=true:=d;have hk:Gm (a,hf):=hk;have b:AN f:=b;have c:CP (a,hf) f:=c;obtain⟨h,i,j,k,l,m,o,p⟩:=Kz (a,hf);have hn:0<=n/\n<(f.length:Int):=hn;have q:=c _ (AF f (0,[]) (MY hn));obtain⟨-,r,t,-⟩:=X4 d;obtain⟨⟨-,v1,s,-⟩,-⟩:=PQ (a,hf);simp only[Mh,AM];repeat'(first|exact trivial|apply eS rfl|apply AB|refine rX e ?_ ?_|refine rC ?_ ?_<;>intro g<;>try(cases g;done))
 all_goals simp only[h,i,j,k,l,m,o,p]at *
 .exact⟨⟨⟨d,hk⟩,b,c,hn⟩,λ_=>⟨b,hn⟩,λ_=>hn,λ_=>⟨⟨q,r,v1⟩,hk⟩⟩
 exact fI e [.tmp 6] (by unfold HF;rw[AEj (BB _ _ _),<-Bool.and_assoc];exact eR)
def l9:AZ:={ ins:=[FA,T3],pre:=λ_=>True,out:=λ(l,n,_)=>[.p .bool (f6 l n)],lend:=true }
attribute [local go_sem] l9
theorem z8:Ab Tryz.prog 93 l9:=by
 refine fK [0,1,4,5,9,17] Tryz.func93 Tryz.ntmps93 AH ?_;rintro w0 O0 ⟨l,n,u⟩ d ⟨⟨g,-⟩,-⟩ -;simp only[AO]at g;simp only[l9,AM];repeat'(first|exact trivial|apply eS rfl|apply AB|refine rX d ?_ ?_|refine rC ?_ ?_<;>intro a<;>try(cases a;done))
 refine AJ (ι:={k:Nat//k<=l.length/\f6 l n=f6 (l.drop k) n}) (λk=>⟨[(0,.p FA l),(1,.p T3 n),(5,.p (.int .i64) (k.1:Int))],[]⟩) (λk=>l.length-k.1) ⟨0,IS _,rfl⟩ (eW []) (λk=>?_)
 obtain⟨k,hk,b⟩:=k;have e:k<l.length->f6 (l.drop k) n=(l.getD k 0==n||f6 (l.drop (k+1)) n):=λh=>by
  rw[SP h];rfl
 simp only;repeat'(first|exact trivial|apply eS rfl|apply AB|refine rX d ?_ ?_|refine rC ?_ ?_<;>intro a<;>try(cases a;done))
 .exact a
 .have c:k<l.length:=by exact eV
  rw[e c,a,beq_self_eq_true,Bool.true_or]at b;exact fI d [.tmp 4] (by rw[b];exact eR)
 .omega
 .have c:k<l.length:=by exact eV
  have f:(l.getD k 0==n)=false:=Uw.2 a;rw[e c,f,AEi]at b;exact⟨⟨k+1,by omega,b⟩,by simp only;omega,eW []⟩
 have c:l.drop k=[]:=On (by exact eV);rw[c]at b;exact fI d [.tmp 4] (by rw[b];first|exact eR|refine Wf ?_;rfl)
end
section
attribute [local go_sem] Mg YI Q6 Q7 Mh l9 cs4 cs5
theorem A8i (h:AG) (w:LW) (x:AD):(Na h w x=true->Az h w x=1)/\(Na h w x=false->HF h w x=true->Az h w x=3)/\(Na h w x=false->HF h w x=false->F0 h w x=false->Az h w x=0)/\(Na h w x=false->F0 h w x=true->Az h w x=2):=by
 unfold Az;refine⟨λh1=>BY h1,λh1 a=>?_,λh1 a b=>?_,λh1 a=>?_⟩
 .have b:F0 h w x=false:=by
   unfold HF MX at a;unfold F0 OA;simp only[An,DO]at a;have:decide (0<=BK x.2 w.first)=false:=Uv (by omega);rw[this];simp
  rw[h1,a,b];rfl
 .rw[h1,a,b];rfl
 rw[h1,a];rfl
def J7:AZ:={ ins:=[ED,Cy,T3],pre:=λ(h,f,n,_)=>Gm h/\AN f/\CP h f/\(0:Int)<=n/\n<(List.length f:Int),out:=λ(h,f,n,_)=>[.p FA (Al h f n).1,.p .bool (Al h f n).2.1,.p GK (Al h f n).2.2] }
attribute [local go_sem] J7
theorem YK:Ab Tryz.prog 55 J7:=by
 refine fKP [0,1,2,3,4,6,7,8,9,10,13,14,18,24,30] [38,45] [] Tryz.func55 Tryz.ntmps55 (AE YH (AE Q5 (AE bM (AE bN (AE YJ (AE z8 AH)))))) ?_;rintro w0 O0 ⟨h,f,n,u⟩ g-⟨hk,c,q,hn⟩;have hk:Gm h:=hk;have c:AN f:=c;have q:CP h f:=q;have hn:0<=n/\n<(f.length:Int):=hn;have F:(h.1,h.2)=h:=rfl;simp only[J7,AM];repeat'(first|exact trivial|apply eS rfl|apply AB|refine rX g ?_ ?_|refine rC ?_ ?_<;>intro b<;>try(cases b;done))
 all_goals try simp only[F]at *
 .exact hk
 .have m:Al h f n=([],false,5):=by unfold Al;rw[b,As (by simp)]
  exact fI g [.tmp 6,.tmp 7,.tmp 8] (by rw[m];exact eR)
 have t:Ex h=true:=b;have D:=λ(i:Nat) (hi:WGo h (AP h) f n i)=>l4 c t hn.1 hn.2 hi;have E:=λ(i:Nat) (hi:WGo h (AP h) f n i)=>HS c hn.1 hn.2 i hi;obtain⟨-,-,-,-,P,Q,-,-⟩:=Kz h;refine AJ (ι:={i:Nat//WGo h (AP h) f n i}) (λi=>⟨[(2,.p T3 (AR h (AP h) f n i.1).2.2.2),(3,.bp 3 [] 0),(4,.bp 4 [] 0),(9,.sr 46 T3 0 (AR h (AP h) f n i.1).2.1.length),(10,.sr 39 T3 0 (AR h (AP h) f n i.1).1.length)],[(3,.box 31 true [.p mQ h.1,.p sL h.2]),(4,.box 25 true [.p F6 f]),(46,.arr 3 T3 (AR h (AP h) f n i.1).2.1),(39,.arr 3 T3 (AR h (AP h) f n i.1).1)]⟩) (λi=>f.length+1-i.1) ⟨0,λj w=>by omega⟩ (AC [(3,.nm 3),(4,.nm 4),(46,.nil),(39,.nil)] rfl rfl ?_ ?_) (λi=>?_)
 .first|exact eN|refine eM ?_
  try exact⟨rfl,rfl⟩
 .first|exact eN|refine eM ?_
  exact⟨rfl,rfl,rfl⟩
 obtain⟨i,hi⟩:=i;obtain⟨A,B,d⟩:=D i hi;obtain⟨C,L,o,M⟩:=E i hi;have N:=C.len;have O:=c.1;obtain⟨H,I,J,K⟩:=A8i h (AP h) (BT f (AR h (AP h) f n i).2.2.2);simp only;repeat'(first|exact trivial|apply eS rfl|apply AB|refine rX g ?_ ?_|refine rC ?_ ?_<;>intro b<;>try(cases b;done))
 .have G:(AR h (AP h) f n i).2.2.2∈(AR h (AP h) f n i).1:=by simpa[f6] using b
  exact fI g [.tmp 6,.tmp 7,.tmp 8] (by rw[A G];exact eR)
 .exact⟨⟨t,hk⟩,c,q,o⟩
 .have a:(AR h (AP h) f n i).2.2.2∉(AR h (AP h) f n i).1:=by
   have k:f6 (AR h (AP h) f n i).1 (AR h (AP h) f n i).2.2.2=false:=by assumption
   intro l;have:=Uq.1 k _ l;simp at this
  have b1:Az h (AP h) (BT f (AR h (AP h) f n i).2.2.2)=1->Al h f n=((AR h (AP h) f n i).2.1,true,0):=λe=>by
   rw[d a (by rw[e];decide) (by rw[e];decide),show (AR h (AP h) f n (i+1)).2.1=(AR h (AP h) f n i).2.1 from As (by rw[e];decide),show (AR h (AP h) f n (i+1)).2.2.1=true from Yn e]
  have r:Az h (AP h) (BT f (AR h (AP h) f n i).2.2.2)=3->Al h f n=((AR h (AP h) f n i).2.1,false,0):=λe=>by
   rw[d a (by rw[e];decide) (by rw[e];decide),show (AR h (AP h) f n (i+1)).2.1=(AR h (AP h) f n i).2.1 from As (by rw[e];decide),show (AR h (AP h) f n (i+1)).2.2.1=false from Uv (by rw[e];decide)]
  have m:=b1 (H b);refine E6 [46] ?_;exact fI g [.tmp 6,.tmp 7,.tmp 8] (by rw[m];exact eR)
 .exact⟨⟨t,hk⟩,c,q,o⟩
 .have a:(AR h (AP h) f n i).2.2.2∉(AR h (AP h) f n i).1:=by
   have k:f6 (AR h (AP h) f n i).1 (AR h (AP h) f n i).2.2.2=false:=by assumption
   intro l;have:=Uq.1 k _ l;simp at this
  have b1:Az h (AP h) (BT f (AR h (AP h) f n i).2.2.2)=1->Al h f n=((AR h (AP h) f n i).2.1,true,0):=λe=>by
   rw[d a (by rw[e];decide) (by rw[e];decide),show (AR h (AP h) f n (i+1)).2.1=(AR h (AP h) f n i).2.1 from As (by rw[e];decide),show (AR h (AP h) f n (i+1)).2.2.1=true from Yn e]
  have r:Az h (AP h) (BT f (AR h (AP h) f n i).2.2.2)=3->Al h f n=((AR h (AP h) f n i).2.1,false,0):=λe=>by
   rw[d a (by rw[e];decide) (by rw[e];decide),show (AR h (AP h) f n (i+1)).2.1=(AR h (AP h) f n i).2.1 from As (by rw[e];decide),show (AR h (AP h) f n (i+1)).2.2.1=false from Uv (by rw[e];decide)]
  have m:=r (I b.1 b.2);refine E6 [46] ?_;exact fI g [.tmp 6,.tmp 7,.tmp 8] (by rw[m];exact eR)
 .exact⟨⟨t,hk⟩,c,q,o⟩
 .have a:(AR h (AP h) f n i).2.2.2∉(AR h (AP h) f n i).1:=by
   have k:f6 (AR h (AP h) f n i).1 (AR h (AP h) f n i).2.2.2=false:=by assumption
   intro l;have:=Uq.1 k _ l;simp at this
  have b1:Az h (AP h) (BT f (AR h (AP h) f n i).2.2.2)=1->Al h f n=((AR h (AP h) f n i).2.1,true,0):=λe=>by
   rw[d a (by rw[e];decide) (by rw[e];decide),show (AR h (AP h) f n (i+1)).2.1=(AR h (AP h) f n i).2.1 from As (by rw[e];decide),show (AR h (AP h) f n (i+1)).2.2.1=true from Yn e]
  have r:Az h (AP h) (BT f (AR h (AP h) f n i).2.2.2)=3->Al h f n=((AR h (AP h) f n i).2.1,false,0):=λe=>by
   rw[d a (by rw[e];decide) (by rw[e];decide),show (AR h (AP h) f n (i+1)).2.1=(AR h (AP h) f n i).2.1 from As (by rw[e];decide),show (AR h (AP h) f n (i+1)).2.2.1=false from Uv (by rw[e];decide)]
  rename_i s z;have m:=B a (J s (z s) b);exact fI g [.tmp 6,.tmp 7,.tmp 8] (by rw[m];exact eR)
 .simp only[AO];omega
 .refine⟨⟨c,o⟩,?_⟩;simp only[AO];omega
 .exact⟨c,o⟩
 have a:(AR h (AP h) f n i).2.2.2∉(AR h (AP h) f n i).1:=by
  have k:f6 (AR h (AP h) f n i).1 (AR h (AP h) f n i).2.2.2=false:=by assumption
  intro l;have:=Uq.1 k _ l;simp at this
 have b1:Az h (AP h) (BT f (AR h (AP h) f n i).2.2.2)=1->Al h f n=((AR h (AP h) f n i).2.1,true,0):=λe=>by
  rw[d a (by rw[e];decide) (by rw[e];decide),show (AR h (AP h) f n (i+1)).2.1=(AR h (AP h) f n i).2.1 from As (by rw[e];decide),show (AR h (AP h) f n (i+1)).2.2.1=true from Yn e]
 have r:Az h (AP h) (BT f (AR h (AP h) f n i).2.2.2)=3->Al h f n=((AR h (AP h) f n i).2.1,false,0):=λe=>by
  rw[d a (by rw[e];decide) (by rw[e];decide),show (AR h (AP h) f n (i+1)).2.1=(AR h (AP h) f n i).2.1 from As (by rw[e];decide),show (AR h (AP h) f n (i+1)).2.2.1=false from Uv (by rw[e];decide)]
 rename_i s z;have v:=K s b;have y:(AR h (AP h) f n (i+1)).2.1=(AR h (AP h) f n i).2.1++[BK (List.getD f (AR h (AP h) f n i).2.2.2.toNat (0,[])).2 (AP h).first]:=BY v;have x:(AR h (AP h) f n (i+1)).1=(AR h (AP h) f n i).1++[(AR h (AP h) f n i).2.2.2]:=rfl;refine⟨⟨i+1,λj w=>(oN.1 w).elim (hi j) λe=>by rw[e];exact⟨v,a⟩⟩,by simp only;omega,AC [(3,.nm 3),(4,.nm 4),(46,.nm 46),(39,.nm 39)] rfl rfl ?_ ?_⟩
 .simp only[y,x];first|exact eN|refine eM ?_
  rfl
 simp only[y,x];first|exact eN|refine eM ?_
 rfl
end
section
open Go
end
section
attribute [local go_sem] fP atS CX
theorem VF.h0 {h:AG} {f:List AD} (vf:VF h f):0<h.1.length:=by
 have hp:=vf.pos;have:=vf.ty _ (AF f (0,[]) (k:=0) (by omega));omega
end
noncomputable def qP (h:AG) (ar:Int) (f:List AD) (A:List (List AD)):List AD×Bool :=
 if (A.length:Int)≠ar then ([],false) else if (GV h (qO h) 0 f A).2=true then (A8T (GV h (qO h) 0 f A).1 (lY h),true) else ([],false)
structure RA (h:AG) (ar:Int) (f:List AD) (A:List (List AD)):Prop where
 hh:H14 h
 top:X0 h
 vf:VF h f
 lf:f.length<=12
 ok:A9S h ar f
 va:∀x∈A,VF h x/\x.length<=12
 la:A.length<=3
theorem RA.wt {h:AG} {ar:Int} {f:List AD} {A:List (List AD)} (r:RA h ar f A):Wt h f:=⟨r.vf,A1I r.ok.chk⟩
theorem RA.un {h:AG} {ar:Int} {f:List AD} {A:List (List AD)} (r:RA h ar f A):∀x∈IV (qO h) 0 A,VF h x/\x.length<=100:=λx b=>by
 obtain⟨j,a,rfl⟩:=YE b;have hp:=A8h h (0+j);have hk:=r.va _ (AF A [] a);have c:=r.la;exact⟨A4v r.vf.h0 hk.1 (A9R r.ok.lw r.ok.args _) (by omega) (by omega),by rw[Kw];omega⟩
theorem RA.all {h:AG} {ar:Int} {f:List AD} {A:List (List AD)} (r:RA h ar f A):Me h (f :: IV (qO h) 0 A) (GV h (qO h) 0 f A) :=
 YG r.hh A 0 f [f] (A1K r.wt) (by simp[r.vf]) r.un (by have:=r.lf;have:=r.la;omega)
theorem RA.len {h:AG} {ar:Int} {f:List AD} {A:List (List AD)} (r:RA h ar f A):(GV h (qO h) 0 f A).1.length<=312:=by
 have:=YF (h:=h) (pl:=qO h) (l:=A) (i:=0) (f:=f) λx a=>(r.un x a).2;have:=r.lf;have:=r.la;omega
theorem RA.res {h:AG} {ar:Int} {f:List AD} {A:List (List AD)} (r:RA h ar f A) (a:(qP h ar f A).2=true):(A.length:Int)=ar/\TU h (f :: IV (qO h) 0 A) (GV h (qO h) 0 f A).1/\qP h ar f A=(A8T (GV h (qO h) 0 f A).1 (lY h),true):=by
 unfold qP at a ⊢;by_cases h1:(A.length:Int)≠ar
 .rw[BY h1]at a;cases a
 rw[As h1]at a ⊢;by_cases b:(GV h (qO h) 0 f A).2=true
 .rw[BY b];exact⟨by omega,r.all.vf b,rfl⟩
 rw[As b]at a;cases a
section
open Go
end
section
attribute [local go_sem] A4x Ti CX cs4 cs5
end
section
attribute [local go_sem] A4x Ti cs4 cs5
theorem A8j {h:AG} {f:List AD} (vf:VF h f) (p:List Int) (e:(J6 f 0 p).2=true):0<=(J6 f 0 p).1/\(J6 f 0 p).1<(f.length:Int):=by
 have ha:=YD vf.good vf.str p 0;cases a:Bx f 0 p with
 | none=>rw[a]at ha;rw[ha]at e;cases e
 | some n =>
  rw[a]at ha;rw[ha];exact lC vf.good vf.pos p n a
end
section
attribute [local go_sem] A4x Ti atS cs4 cs5
end
section
attribute [local go_sem] Ti K0 Qg J7 cs4 cs5
theorem z9:Ab Tryz.prog 58 Qg:=by
 refine fK [0,1,2,4] Tryz.func58 Tryz.ntmps58 (AE y5 AH) ?_;rintro w0 O0 ⟨f,n,u⟩ a-⟨hf,hn⟩;simp only[Qg,AM];repeat'(first|exact trivial|apply eS rfl|apply AB|refine rX a ?_ ?_|refine rC ?_ ?_<;>intro b<;>try(cases b;done))
 .exact⟨hf,hn⟩
 exact fI a [.cell 4 25]
end
section
attribute [local go_sem] CX Qg JR
def NQ:AZ:={ ins:=[ED,Cy,T3],pre:=λ(h,f,n,_)=>AN f/\CP h f/\(0:Int)<=n/\n<(List.length f:Int),out:=λ(h,f,n,_)=>[.p FA (Al h f n).1,.p .bool (Al h f n).2.1,.p GK (Al h f n).2.2] }
theorem K8:Ab Tryz.prog 54 NQ:=by
 refine Ns ⟨_,Tryz.func54,by kernel_rfl,by kernel_rfl⟩ (λds hp=>?_) (λds r a=>?_)
 .obtain⟨h,f,n,u⟩:=ds;obtain⟨h1,b,c,d⟩:=hp;refine⟨[.p ED h,.p Cy f,.p T3 n],λw O s e=>?_,A1M h f n h1 b c d⟩;obtain⟨v1,m,rfl,g,k,o,rfl,i,l,q,rfl,j,rfl⟩:=e;exact⟨v1,_,rfl,Jn g,k,_,rfl,Jn i,l,_,rfl,Jn j,rfl⟩
 simp only[NQ,By,Ud,ADe]at a;rcases a with rfl|rfl|rfl
 .exact⟨_,_,rfl⟩
 .exact⟨_,_,rfl⟩
 exact⟨_,_,rfl⟩
def Eb (f:List AD) (l:List Int):List (List AD):=l.map λn=>AL f n
theorem bO (f:List AD) {l:List Int} {k:Nat} (hk:k<l.length):Eb f (l.take (k+1))=Eb f (l.take k)++[AL f (l.getD k 0)]:=by
 unfold Eb;rw[AEc,UH,AS,AT hk];rfl
theorem mA (f:List AD) {l:List Int} {k:Nat} (hk:k<=l.length):(Eb f (l.take k)).length=k:=by
 unfold Eb;rw[OF,OR,Yr hk]
def SR:AZ:={ ins:=[Cy,FA],pre:=λ(f,l,_)=>AN f/\Fs f/\List.length l<=200000/\∀n∈(l:List Int),0<=n/\n<(List.length f:Int),out:=λ(f,l,_)=>[.p Tc (Eb f l)] }
attribute [local go_sem] SR
theorem mB:Ab Tryz.prog 96 SR:=by
 refine fKP [0,1,2,4,5,7,8,9,10,11] [18] [] Tryz.func96 Tryz.ntmps96 (AE A9x AH) ?_;rintro w0 O0 ⟨f,l,u⟩ d-⟨h1,c,i,e⟩;have h1:AN f:=h1;have c:Fs f:=c;simp only[SR,AM];repeat'(first|exact trivial|apply eS rfl|apply AB|refine rX d ?_ ?_|refine rC ?_ ?_<;>intro a<;>try(cases a;done))
 refine AJ (ι:={k:Nat//k<=List.length l}) (λk=>⟨[(2,.bp 2 [] 0),(5,.sr 19 Cy 0 k.1),(8,.p FA l),(9,.p (.int .i64) (List.length l:Int)),(10,.p (.int .i64) (k.1:Int))],[(2,.box 25 true [.p F6 f]),(19,.arr 25 Cy (Eb f (List.take k.1 l)))]⟩) (λk=>List.length l-k.1) ⟨0,IS _⟩ (AC [(2,.nm 2),(19,.nil)] rfl rfl ?_ ?_) (λk=>?_)
 .first|exact eN|refine eM ?_
  rfl
 .first|exact eN|refine eM ?_
 obtain⟨k,hk⟩:=k;have h:=mA f hk;have g:k<List.length l->List.getD l k 0∈(l:List Int):=λb=>by
  rw[AS,AT b];exact UJ b
 simp only;repeat'(first|exact trivial|apply eS rfl|apply AB|refine rX d ?_ ?_|refine rC ?_ ?_<;>intro a<;>try(cases a;done))
 .exact a
 .exact⟨⟨h1,c,e _ (g (Do.1 a))⟩,by simp only[AO];omega⟩
 .omega
 .have b:k<List.length l:=Do.1 a;have hs:=bO f b;refine⟨⟨k+1,b⟩,by simp only;omega,AC [(2,.nm 2),(19,.nm 19)] rfl rfl ?_ ?_⟩
  .simp only[hs];first|exact eN|refine eM ?_
   rw[At (Nat.le_of_eq h)]
  first|exact eN|refine eM ?_
 have b:k=List.length l:=Yg hk (Tn.1 a);subst b;refine E6 [19] ?_;exact fI d [.tmp 4] (by first|exact eR|refine Wf ?_;exact At (by unfold Eb;rw[OF];exact Is _))
def Q8:AZ:={ ins:=[Cy,FA],pre:=λ(f,l,_)=>AN f/\Fs f/\List.length l<=200000/\∀n∈(l:List Int),0<=n/\n<(List.length f:Int),out:=λ(f,l,_)=>[.p Tc (Eb f l)] }
theorem bP:Ab Tryz.prog 97 Q8:=by
 refine fKP [0,1,2,4,5,6,10] [20] [] Tryz.func97 Tryz.ntmps97 (AE z9 AH) ?_;rintro w0 O0 ⟨f,l,u⟩ e-⟨h1,c,j,d⟩;have h1:AN f:=h1;have c:Fs f:=c;simp only[Q8,AM];repeat'(first|exact trivial|apply eS rfl|apply AB|refine rX e ?_ ?_|refine rC ?_ ?_<;>intro b<;>try(cases b;done))
 refine AJ (ι:={k:Nat//k<=List.length l}) (λk=>⟨[(2,.bp 2 [] 0),(1,.p FA l),(5,.sr 21 Cy 0 k.1),(6,.p (.int .i64) (k.1:Int))],[(2,.box 25 true [.p F6 f]),(21,.arr 25 Cy (Eb f (List.take k.1 l)))]⟩) (λk=>List.length l-k.1) ⟨0,IS _⟩ (AC [(2,.nm 2),(21,.nil)] rfl rfl ?_ ?_) (λk=>?_)
 .first|exact eN|refine eM ?_
  rfl
 .first|exact eN|refine eM ?_
 obtain⟨k,hk⟩:=k;have i:=mA f hk;have g:k<List.length l->List.getD l k 0∈(l:List Int):=λa=>by
  rw[AS,AT a];exact UJ a
 have h:k<List.length l->IK f (List.getD l k 0)=AL f (List.getD l k 0):=λa=>EY h1 c (d _ (g a)).1 (d _ (g a)).2;simp only;repeat'(first|exact trivial|apply eS rfl|apply AB|refine rX e ?_ ?_|refine rC ?_ ?_<;>intro b<;>try(cases b;done))
 .have a:k<List.length l:=Do.1 b;exact⟨b,⟨h1,d _ (g a)⟩,by simp only[AO];omega⟩
 .omega
 .have a:k<List.length l:=Do.1 b;have hs:=bO f a;refine⟨⟨k+1,a⟩,by simp only;omega,AC [(2,.nm 2),(21,.nm 21)] rfl rfl ?_ ?_⟩
  .simp only[hs,h a];first|exact eN|refine eM ?_
   rw[At (Nat.le_of_eq i)]
  first|exact eN|refine eM ?_
 have a:k=List.length l:=Yg hk (Tn.1 b);subst a;refine E6 [21] ?_;exact fI e [.tmp 4] (by first|exact eR|refine Wf ?_;exact At (by unfold Eb;rw[OF];exact Is _))
def Q9:List (List AD)->List (List AD)->Bool
 | [],[]=>true
 | x :: l,y :: r=>(CM x y==0)&&Q9 l r
 | _,_=>false
theorem A00:∀ {l r:List (List AD)},Q9 l r=true->l.length=r.length
 | [],[],_=>rfl
 | _ :: l,_ :: r,h=>by
  have:=A00 (l:=l) (r:=r) (by unfold Q9 at h;simp only[An]at h;exact h.2);simp[this]
 | [],_ :: _,h=>by cases h
 | _ :: _,[],h=>by cases h
theorem mC {l r:List (List AD)} {k:Nat} (h1:k<l.length) (a:k<r.length):Q9 (l.drop k) (r.drop k)=((CM (l.getD k []) (r.getD k [])==0)&&Q9 (l.drop (k+1)) (r.drop (k+1))):=by
 rw[Tj h1,Tj a,AS,AS,AT h1,AT a];rfl
def A4S:AZ:={ ins:=[Tc,Tc],pre:=λ(l,r,_)=>(∀x∈(l:List (List AD)),EA x)/\∀x∈(r:List (List AD)),EA x,out:=λ(l,r,_)=>[.p .bool (Q9 l r)],lend:=true }
attribute [local go_sem] A4S
theorem qQ:Ab Tryz.prog 43 A4S:=by
 refine fK [0,1,4,5,10,14,26] Tryz.func43 Tryz.ntmps43 (AE Qd AH) ?_;rintro w0 O0 ⟨l,r,u⟩ c m ⟨h1,i⟩;have j:List.length l<=AO:=m.1.1;simp only[AO]at j;simp only[A4S,AM];repeat'(first|exact trivial|apply eS rfl|apply AB|refine rX c ?_ ?_|refine rC ?_ ?_<;>intro b<;>try(cases b;done))
 .have e:Q9 l r=false:=by
   rw[Ym];exact λq=>b (Uu Int.ofNat (A00 q))
  exact fI c [.tmp 4] (by rw[e];exact eR)
 have d:List.length l=List.length r:=Int.ofNat_inj.1 (by simpa using b);refine AJ (ι:={k:Nat//k<=List.length l/\Q9 l r=Q9 (List.drop k l) (List.drop k r)}) (λk=>⟨[(0,.p Tc l),(1,.p Tc r),(5,.p (.int .i64) (k.1:Int))],[]⟩) (λk=>List.length l-k.1) ⟨0,IS _,rfl⟩ (AC [] rfl rfl ?_ ?_) (λk=>?_)
 .first|exact eN|refine eM ?_
 .first|exact eN|refine eM ?_
 obtain⟨k,hk,f⟩:=k;have h:∀ {x:List (List AD)},k<List.length x->List.getD x k []∈x:=λg=>by
  rw[AS,AT g];exact UJ g
 simp only;repeat'(first|exact trivial|apply eS rfl|apply AB|refine rX c ?_ ?_|refine rC ?_ ?_<;>intro b<;>try(cases b;done))
 .have a:k<List.length l:=Do.1 b;exact⟨b,Do.2 (d▸a),h1 _ (h a),i _ (h (d▸a))⟩
 .have a:k<List.length l:=Do.1 (by assumption);have e:Q9 l r=false:=by
   rw[f,mC a (d▸a),show (CM (List.getD l k []) (List.getD r k [])==0)=false by simpa using b];rfl
  exact fI c [.tmp 4] (by rw[e];exact eR)
 .omega
 .have a:k<List.length l:=Do.1 (by assumption);refine⟨⟨k+1,a,by rw[f,mC a (d▸a),b];rfl⟩,by simp only;omega,AC [] rfl rfl ?_ ?_⟩
  .first|exact eN|refine eM ?_
  first|exact eN|refine eM ?_
 have a:k=List.length l:=Yg hk (Tn.1 b);have e:Q9 l r=true:=by
  rw[f,a,bY,d,bY];rfl
 exact fI c [.tmp 4] (by rw[e];exact eR)
end
section
attribute [local go_sem] NQ J7 SR Q8
theorem bQ {h:AG} {w:LW} {f:List AD} (hf:AN f):∀(k:Nat) (b out:List Int) (n:Int),(∀x∈out,0<=x/\x<(f.length:Int))->(∀x∈(IR h w f k b out n).1,0<=x/\x<(f.length:Int))/\(IR h w f k b out n).1.length<=out.length+k
 | 0,_,_,_,_=>⟨λx a=>(by cases a),IS _⟩
 | k+1,b,out,n,c=>by
  unfold IR;split
  .exact⟨λx a=>(by cases a),IS _⟩
  split
  .exact⟨c,by simp only;omega⟩
  split
  .exact⟨c,by simp only;omega⟩
  split
  .exact⟨λx a=>(by cases a),IS _⟩
  rename_i h1 e g i;have hk:Az h w (f.getD n.toNat (0,[]))=2:=by
   rcases SQ h w (f.getD n.toNat (0,[])) with q|q|q|q
   .exact absurd q i
   .exact absurd q e
   .exact q
   exact absurd q g
  have j:0<=BK (f.getD n.toNat (0,[])).2 w.first/\BK (f.getD n.toNat (0,[])).2 w.first<(f.length:Int):=by
   have hp:=(NL hk).1;have l:f.length≠0:=by
    intro q;have:f=[]:=ADt.1 q;subst this;simp[BK]at hp
   exact⟨hp,I0 (by omega) _ λx a=>(E8 hf n.toNat x a).2⟩
  have d:=bQ (h:=h) (w:=w) hf k (b++[n]) (out++[BK (f.getD n.toNat (0,[])).2 w.first]) (BK (f.getD n.toNat (0,[])).2 w.rest) (λx a=>by
   rcases IF.1 a with q|q
   .exact c x q
   rw[Tu.1 q];exact j)
  refine⟨d.1,?_⟩;have:=d.2;rw[A0,GO]at this;omega
theorem K9 {h:AG} {f:List AD} (hf:AN f) (n:Int):(∀x∈(Al h f n).1,0<=x/\x<(f.length:Int))/\(Al h f n).1.length<=200000:=by
 unfold Al;split
 .have:=bQ (h:=h) (w:=AP h) hf (f.length+1) [] [] n (λx a=>by cases a);have b:=hf.1;refine⟨this.1,?_⟩;have:=this.2;simp only[Ug]at this;omega
 exact⟨λx a=>(by cases a),IS _⟩
theorem bR {h:AG} {w:LW} {f:List AD}:∀(k:Nat) (b out:List Int) (n:Int),(IR h w f k b out n).2.2≠0->(IR h w f k b out n).1=[]/\(IR h w f k b out n).2.1=false
 | 0,_,_,_,_=>⟨rfl,rfl⟩
 | k+1,b,out,n,a=>by
  unfold IR at a ⊢;split
  .exact⟨rfl,rfl⟩
  rename_i h1;rw[As h1]at a;split
  .rename_i c;rw[BY c]at a;exact absurd rfl a
  rename_i c;rw[As c]at a;split
  .rename_i d;rw[BY d]at a;exact absurd rfl a
  rename_i d;rw[As d]at a;split
  .exact⟨rfl,rfl⟩
  rename_i e;rw[As e]at a;exact bR _ _ _ _ a
theorem TP {h:AG} {f:List AD} {n:Int} (a:(Al h f n).2.2≠0):(Al h f n).1=[]/\(Al h f n).2.1=false:=by
 unfold Al at a ⊢;split
 .rename_i q;rw[BY q]at a;exact bR _ _ _ _ a
 exact⟨rfl,rfl⟩
def F3 (h:AG) (f:List AD):List (List AD)×Bool×Int:=(Eb f (Al h f 0).1,(Al h f 0).2.1,(Al h f 0).2.2)
def RB:AZ:={ ins:=[ED,Cy],pre:=λ(h,f,_)=>AN f/\Fs f/\CP h f/\0<List.length f,out:=λ(h,f,_)=>[.p Tc (F3 h f).1,.p .bool (F3 h f).2.1,.p GK (F3 h f).2.2] }
attribute [local go_sem] RB
theorem bS:Ab Tryz.prog 56 RB:=by
 refine fK [0,1,2,3,4,5,6,7,8,9] Tryz.func56 Tryz.ntmps56 (AE K8 (AE mB AH)) ?_;rintro w0 O0 ⟨h,f,u⟩ c-⟨h1,a,b,g⟩;have h1:AN f:=h1;have a:Fs f:=a;have b:CP h f:=b;have d:=K9 (h:=h) h1 0;have i:(h.1,h.2)=h:=rfl;simp only[RB,AM];repeat'(first|exact trivial|apply eS rfl|apply AB|refine rX c ?_ ?_|refine rC ?_ ?_<;>intro e<;>try(cases e;done))
 all_goals try simp only[i]at *
 .exact⟨h1,b,Do.2 g⟩
 .exact⟨h1,a,d.2,d.1⟩
 exact fI c [.tmp 4,.tmp 5,.tmp 6] (by unfold F3;exact eR)
def RC:AZ:={ ins:=[ED,Cy],pre:=λ(h,f,_)=>Gm h/\AN f/\Fs f/\CP h f/\0<List.length f,out:=λ(h,f,_)=>[.p Tc (F3 h f).1,.p .bool (F3 h f).2.1,.p GK (F3 h f).2.2] }
attribute [local go_sem] RC
theorem qR:Ab Tryz.prog 57 RC:=by
 refine fK [0,1,2,3,4,5,6,7,8,9,18] Tryz.func57 Tryz.ntmps57 (AE YK (AE bP AH)) ?_;rintro w0 O0 ⟨h,f,u⟩ d-⟨h0,h1,b,c,i⟩;have h1:AN f:=h1;have b:Fs f:=b;have c:CP h f:=c;have g:=K9 (h:=h) h1 0;have j:(h.1,h.2)=h:=rfl;simp only[RC,AM];repeat'(first|exact trivial|apply eS rfl|apply AB|refine rX d ?_ ?_|refine rC ?_ ?_<;>intro a<;>try(cases a;done))
 all_goals try simp only[j]at *
 .exact⟨h0,h1,c,Do.2 i⟩
 .have e:F3 h f=([],false,(Al h f 0).2.2):=by
   unfold F3;rw[(TP a).1,(TP a).2];rfl
  exact fI d [.tmp 4,.tmp 5,.tmp 6] (by rw[e];exact eR)
 .exact⟨h1,b,g.2,g.1⟩
 have k:(Al h f 0).2.2=0:=by simpa using a
 have e:F3 h f=(Eb f (Al h f 0).1,(Al h f 0).2.1,0):=by
  unfold F3;rw[k]
 exact fI d [.tmp 4,.tmp 5,.tmp 6] (by rw[e];exact eR)
end
section
attribute [local go_sem] JS PR X5
def mD (h:AG) (w:LW) (f:List AD) (la:Int) (a out:List Int) (m:Int):Option (List Int×Int) :=
 if m=la then some (if Az h w (BT f m)=3 then (out,0) else ([],13)) else if m∈a then some ([],6) else if Az h w (BT f m)=2 then none else some ([],13)
def FJ (h:AG) (w:LW) (f:List AD) (la:Int):Nat->List Int->List Int->Int->List Int×Int
 | 0,_,_,_=>([],6)
 | k+1,a,out,m=>match mD h w f la a out m with
  | some r=>r
  | none=>FJ h w f la k (a++[m]) (out++[BK (BT f m).2 w.first]) (BK (BT f m).2 w.rest)
def Af (h:AG) (f:List AD) (n:Int):List Int×Int :=
 if Ex h=true then
  if BK (BT f n).2 (AP h).head<0\/BK (BT f n).2 (AP h).last<0 then ([],13)
  else FJ h (AP h) f (BK (BT f n).2 (AP h).last) (f.length+1) [] [] (BK (BT f n).2 (AP h).head)
 else ([],5)
def I9 (h:AG) (w:LW) (f:List AD) (la:Int) (s:WS):Option (List Int×Int):=mD h w f la s.1 s.2.1 s.2.2.2
def DGo (h:AG) (w:LW) (f:List AD) (la n:Int) (i:Nat):Prop:=∀j,j<i->I9 h w f la (AR h w f n j)=none
theorem J8 {h:AG} {w:LW} {f:List AD} {la:Int} {a out:List Int} {m:Int} (e:mD h w f la a out m=none):m≠la/\m∉a/\Az h w (BT f m)=2:=by
 unfold mD at e;split at e
 .cases e
 split at e
 .cases e
 split at e
 .exact⟨by assumption,by assumption,by assumption⟩
 cases e
theorem Vf {h:AG} {w:LW} {f:List AD} {la n:Int} {i:Nat} (a:DGo h w f la n i):WGo h w f n i:=λj b=>⟨(J8 (a j b)).2.2,(J8 (a j b)).2.1⟩
theorem bT {h:AG} {w:LW} {f:List AD} {la n:Int} (k:Nat):∀i,DGo h w f la n i->FJ h w f la (k+i) [] [] n=FJ h w f la k (AR h w f n i).1 (AR h w f n i).2.1 (AR h w f n i).2.2.2
 | 0,_=>rfl
 | i+1,b=>by
  have c:=bT (h:=h) (w:=w) (f:=f) (la:=la) (n:=n) (k+1) i (λj d=>b j (by omega));have a:mD h w f la (AR h w f n i).1 (AR h w f n i).2.1 (AR h w f n i).2.2.2=none:=b i (by omega);rw[show k+(i+1)=k+1+i by omega,c];rw[FJ,a];show _=FJ h w f la k (Mf h w f (AR h w f n i)).1 (Mf h w f (AR h w f n i)).2.1 (Mf h w f (AR h w f n i)).2.2.2;unfold Mf;rw[BY (J8 a).2.2]
theorem Hc {h:AG} {w:LW} {f:List AD} {la n:Int} (hf:AN f) (n0:0<=n) (n1:n<(f.length:Int)) {i:Nat} (a:DGo h w f la n i) {r:List Int×Int} (b:I9 h w f la (AR h w f n i)=some r):FJ h w f la (f.length+1) [] [] n=r:=by
 obtain⟨h1,c,d,-⟩:=HS hf n0 n1 i (Vf a);have e:=h1.len;rw[show f.length+1=(f.length-i)+1+i by omega,bT _ _ a,FJ,show mD h w f la (AR h w f n i).1 (AR h w f n i).2.1 (AR h w f n i).2.2.2=some r from b]
def dE:List (Nat×AV):=[(4,.bp 4 [] 0),(6,.bp 6 [] 0),(7,.bp 7 [] 0),(8,.bp 8 [] 0),(11,.bp 11 [] 0),(12,.bp 12 [] 0),(13,.bp 13 [] 0)]
def dO (h:AG) (w:LW) (f:List AD) (L:Go.Loop) (a:Array Value) (la:Int) (s:WS) (m:Int) (c:AV) (e:Int):List (Nat×Obj):=[(50,.box 3 false [.p T3 m]),(51,BF h w),(52,.box 25 true [.p F6 f]),(101,.loop L),(102,.frame a dE),(6,.box 61 false [c]),(7,.box 35 false [.p GK e]),(8,BF h w),(4,.box 25 true [.p F6 f]),(11,.box 3 false [.p T3 la]),(12,.box 61 false [.sr 60 T3 0 s.2.1.length]),(60,.arr 3 T3 s.2.1),(13,.box 119 false [.mp 24]),(24,.mapo T3 .bool (FT s.1))]
def DRd (h:AG) (w:LW) (f:List AD) (la n:Int) (L:Go.Loop) (a:Array Value) (i:Nat) (b:Bool) (O:List (Nat×Obj)):Prop :=
 (I9 h w f la (AR h w f n i)=some ((AR h w f n i).2.1,0)/\b=false/\O=dO h w f (Cu L) a la (AR h w f n i) (AR h w f n i).2.2.2 (.sr 60 T3 0 (AR h w f n i).2.1.length) 0) \/
 (∃e,I9 h w f la (AR h w f n i)=some ([],e)/\b=false/\O=dO h w f (Cu L) a la (AR h w f n i) (AR h w f n i).2.2.2 (.raw (.slice none 0 0)) e) \/
 (I9 h w f la (AR h w f n i)=none/\b=true/\O=dO h w f L a la (AR h w f n (i+1)) (AR h w f n i).2.2.2 (.raw (.slice none 0 0)) 0)
theorem A1N (h:AG) (w:LW) (f:List AD) (la n:Int) (D:WOk h w) (hf:AN f) (C:CP h f) (n0:0<=n) (n1:n<(f.length:Int)) (L:Go.Loop) (d:Array Value)
  (m:∀i,DGo h w f la n i->Wb Tryz.prog 101 [.p T3 (AR h w f n i).2.2.2] (dO h w f L d la (AR h w f n i) (AR h w f n i).2.2.2 (.raw (.slice none 0 0)) 0) [50,51,52,101,102,6,7,8,4,11,12,13,24] (λres l=>∃b,res=.p .bool b/\DRd h w f la n L d i b l)) :
  A9 Tryz.prog 139 [.yl 101,.bp 50 [] 0,.bp 51 [] 0,.bp 52 [] 0] (dO h w f L d la (AR h w f n 0) n (.raw (.slice none 0 0)) 0) [50,51,52,101,102,6,7,8,4,11,12,13,24] (λres l=>res=.raw (.tuple #[])/\∃i,DGo h w f la n i/\DRd h w f la n L d i false l):=by
 refine Kh [0,1,2,3,14] [] [] Tryz.func139 Tryz.ntmps139 (AE Qw (AE Qv AH)) ?_;intro w0 K O0 ρ0 a A B;simp only[Aq,dO,BF];have t:=m;clear m;repeat'(first|exact trivial|apply eS rfl|apply AB|refine rX a ?_ ?_|refine rC ?_ ?_<;>intro c<;>try(cases c;done))
 refine AJ (ι:={i:Nat//DGo h w f la n i}) (λi=>⟨[(0,.yl 101),(1,.bp 50 [] 0),(2,.bp 51 [] 0),(3,.bp 52 [] 0)],dO h w f L d la (AR h w f n i.1) (AR h w f n i.1).2.2.2 (.raw (.slice none 0 0)) 0⟩) (λi=>f.length+1-i.1) ⟨0,λj o=>by omega⟩ (AC [(50,.nm 50),(51,.nm 51),(52,.nm 52),(101,.nm 101),(102,.nm 102),(6,.nm 6),(7,.nm 7),(8,.nm 8),(4,.nm 4),(11,.nm 11),(60,.nm 60),(12,.nm 12),(13,.nm 13),(24,.nm 24)] rfl rfl ?_ ?_) (λi=>?_)
 .simp only[dO,BF,dE,AR];first|exact eN|refine eM ?_
 .simp only[dO,BF,dE,AR];first|exact eN|refine eM ?_
 obtain⟨i,hi⟩:=i;obtain⟨q,v,r,x⟩:=HS hf n0 n1 i (Vf hi);have u:=t i hi;have y:=q.len;have z:AR h w f n (i+1)=Mf h w f (AR h w f n i):=rfl;simp only[dO,BF,dE];repeat'(first|exact trivial|apply eS rfl|apply AB|refine rX a ?_ ?_|refine rC ?_ ?_<;>intro c<;>try(cases c;done))
 refine cG 2 a ?_ ?_
 .trivial
 refine rY 101 101 a (u) [(50,.nm 50),(51,.nm 51),(52,.nm 52),(101,.nm 101),(102,.nm 102),(6,.nm 6),(7,.nm 7),(8,.nm 8),(4,.nm 4),(11,.nm 11),(60,.nm 60),(12,.nm 12),(13,.nm 13),(24,.nm 24)] [60] ?_ ?_ ?_
 .first|exact eN|refine eM ?_
 .simp only[dO,BF,dE];first|exact eN|refine eM ?_
 rintro _ _ ⟨b,rfl,k⟩;have s:=k;rcases s with ⟨g,rfl,rfl⟩|⟨e,g,rfl,rfl⟩|⟨g,rfl,rfl⟩
 .refine⟨[(50,.nm 50),(51,.nm 51),(52,.nm 52),(101,.nm 101),(102,.nm 102),(6,.nm 6),(7,.nm 7),(8,.nm 8),(4,.nm 4),(11,.nm 11),(60,.nm 60),(12,.nm 12),(13,.nm 13),(24,.nm 24)],.p .bool false,dO h w f (Cu L) d la (AR h w f n i) (AR h w f n i).2.2.2 (.sr 60 T3 0 (AR h w f n i).2.1.length) 0,rfl,rfl,?_,?_,rfl,rfl,?_⟩
  .simp only[dO,BF,dE];first|exact eN|refine eM ?_
  .first|exact eN|refine eM ?_
  simp only[dO,BF,dE];refine rL a ?_ ?_
  .trivial
  repeat'(first|exact trivial|apply eS rfl|apply AB|refine rX a ?_ ?_|refine rC ?_ ?_<;>intro c<;>try(cases c;done))
  refine Ev.ent (σ':=⟨[],dO h w f (Cu L) d la (AR h w f n i) (AR h w f n i).2.2.2 (.sr 60 T3 0 (AR h w f n i).2.1.length) 0⟩) ?_ (AC [(50,.nm 50),(51,.nm 51),(52,.nm 52),(101,.nm 101),(102,.nm 102),(6,.nm 6),(7,.nm 7),(8,.nm 8),(4,.nm 4),(11,.nm 11),(60,.nm 60),(12,.nm 12),(13,.nm 13),(24,.nm 24)] rfl rfl ?_ ?_)
  .exact fM a [] (.raw (.tuple #[])) rfl ⟨rfl,i,hi,k⟩
  .simp only[dO,BF,dE];first|exact eN|refine eM ?_
  first|exact eN|refine eM ?_
 .refine⟨[(50,.nm 50),(51,.nm 51),(52,.nm 52),(101,.nm 101),(102,.nm 102),(6,.nm 6),(7,.nm 7),(8,.nm 8),(4,.nm 4),(11,.nm 11),(60,.nm 60),(12,.nm 12),(13,.nm 13),(24,.nm 24)],.p .bool false,dO h w f (Cu L) d la (AR h w f n i) (AR h w f n i).2.2.2 (.raw (.slice none 0 0)) e,rfl,rfl,?_,?_,rfl,rfl,?_⟩
  .simp only[dO,BF,dE];first|exact eN|refine eM ?_
  .first|exact eN|refine eM ?_
  simp only[dO,BF,dE];refine rL a ?_ ?_
  .trivial
  repeat'(first|exact trivial|apply eS rfl|apply AB|refine rX a ?_ ?_|refine rC ?_ ?_<;>intro c<;>try(cases c;done))
  refine Ev.ent (σ':=⟨[],dO h w f (Cu L) d la (AR h w f n i) (AR h w f n i).2.2.2 (.raw (.slice none 0 0)) e⟩) ?_ (AC [(50,.nm 50),(51,.nm 51),(52,.nm 52),(101,.nm 101),(102,.nm 102),(6,.nm 6),(7,.nm 7),(8,.nm 8),(4,.nm 4),(11,.nm 11),(60,.nm 60),(12,.nm 12),(13,.nm 13),(24,.nm 24)] rfl rfl ?_ ?_)
  .exact fM a [] (.raw (.tuple #[])) rfl ⟨rfl,i,hi,k⟩
  .simp only[dO,BF,dE];first|exact eN|refine eM ?_
  first|exact eN|refine eM ?_
 have hk:=J8 g;refine⟨[(50,.nm 50),(51,.nm 51),(52,.nm 52),(101,.nm 101),(102,.nm 102),(6,.nm 6),(7,.nm 7),(8,.nm 8),(4,.nm 4),(11,.nm 11),(60,.nm 60),(12,.nm 12),(13,.nm 13),(24,.nm 24)],.p .bool true,dO h w f L d la (AR h w f n (i+1)) (AR h w f n i).2.2.2 (.raw (.slice none 0 0)) 0,rfl,rfl,?_,?_,rfl,rfl,?_⟩
 .simp only[dO,BF,dE];first|exact eN|refine eM ?_
 .first|exact eN|refine eM ?_
 simp only[dO,BF,dE];refine rL a ?_ ?_
 .trivial
 repeat'(first|exact trivial|apply eS rfl|apply AB|refine rX a ?_ ?_|refine rC ?_ ?_<;>intro c<;>try(cases c;done))
 .exact⟨hf,r⟩
 .refine⟨⟨i+1,λj o=>(oN.1 o).elim (hi j) λe=>by rw[e];exact g⟩,by simp only;omega,AC [(50,.nm 50),(51,.nm 51),(52,.nm 52),(101,.nm 101),(102,.nm 102),(6,.nm 6),(7,.nm 7),(8,.nm 8),(4,.nm 4),(11,.nm 11),(60,.nm 60),(12,.nm 12),(13,.nm 13),(24,.nm 24)] rfl rfl ?_ ?_⟩
  .simp only[dO,BF,dE];first|exact eN|refine eM ?_
   rfl
  first|exact eN|refine eM ?_
 exact absurd hk.2.2 c
end
section
attribute [local go_sem] JS PR X5
theorem qS (h:AG) (f:List AD) (n:Int) (k:AN f) (H:CP h f) (n0:0<=n) (n1:n<(f.length:Int)):A9 Tryz.prog 38 [.p ED h,.p Cy f,.p T3 n] [] [] (λres am=>res=.tup [.p FA (Af h f n).1,.p GK (Af h f n).2]):=by
 refine fKR [0,1,2,3,4,6,7,8,9,10,11,12,13,14,15,22,39,44,45,50,59,63,67] [78] [] Tryz.func38 Tryz.ntmps38 (AE MZ (AE Qw (AE Qv AH))) ?_;intro w0 K O0 ρ0 c ah ai;simp only[Aq];have S:(h.1,h.2)=h:=rfl;repeat'(first|exact trivial|apply eS rfl|apply AB|refine rX c ?_ ?_|refine rC ?_ ?_<;>intro d<;>try(cases d;done))
 all_goals simp only[S]at *
 .have l:Ex h=false:=by
   cases j:Ex h with
   | true=>rw[j]at d;exact absurd rfl d
   | false=>rfl
  have s:Af h f n=([],5):=by unfold Af;rw[l,As (by simp)]
  simp only[l,Ua,YZ,s];exact Rh c [.cell 6 61,.cell 7 35] rfl (.inl rfl) (.tup [.p FA [],.p GK 5]) eT rfl
 .exact⟨k,n0,n1⟩
 .have l:Ex h=true:=by
   have q:((if Ex h=true then (0:Int) else 5) != 0)=false:=by assumption
   cases j:Ex h with
   | false=>rw[j]at q;exact absurd q (by decide)
   | true=>rfl
  simp only[BY l,wdF]at *;have s:Af h f n=([],13):=by unfold Af;rw[BY l];exact BY d
  rw[s];exact Rh c [.cell 6 61,.cell 7 35] rfl (.inl rfl) (.tup [.p FA [],.p GK 13]) eT rfl
 have l:Ex h=true:=by
  have q:((if Ex h=true then (0:Int) else 5) != 0)=false:=by assumption
  cases j:Ex h with
  | false=>rw[j]at q;exact absurd q (by decide)
  | true=>rfl
 simp only[BY l,wdF]at *;have E:=X4 l;have D:=PQ h;have I:WOk h (AP h):=⟨⟨E.2.1,D.1.2.1⟩,E.2.2.1,D.1.2.2.1⟩;have C:Af h f n=FJ h (AP h) f (BK (BT f n).2 (AP h).last) (f.length+1) [] [] (BK (BT f n).2 (AP h).head):=by
  unfold Af;rw[BY l];exact As (λq=>q.elim (λq=>absurd d.1 (ADm.2 q)) λq=>absurd d.2 (ADm.2 q))
 have u:BK (BT f n).2 (AP h).head<(f.length:Int):=I0 (by omega) _ λx Z=>(E8 k n.toNat x Z).2;have t:0<=BK (BT f n).2 (AP h).head:=d.1;have G:f.getD n.toNat (0,[])=BT f n:=rfl;simp only[G]at *;rw[C];generalize af:AP h=w at *;generalize BK (BT f n).2 w.head=a at *;generalize BK (BT f n).2 w.last=la at *;clear G C d n0 n1;refine Ev.ent (σ':=⟨[(10,.p T3 a),(4,.bp 4 [] 0),(6,.bp 6 [] 0),(7,.bp 7 [] 0),(8,.bp 8 [] 0),(11,.bp 11 [] 0),(12,.bp 12 [] 0),(13,.bp 13 [] 0)],[(6,.box 61 false [.raw (.slice none 0 0)]),(7,.box 35 false [.p GK 0]),(8,BF h w),(4,.box 25 true [.p F6 f]),(11,.box 3 false [.p T3 la]),(12,.box 61 false [.raw (.slice none 0 0)]),(13,.box 119 false [.mp 24]),(24,.mapo T3 .bool [])]⟩) ?_ (AC [(6,.nm 6),(7,.nm 7),(8,.nm 8),(4,.nm 4),(11,.nm 11),(12,.nm 12),(13,.nm 13),(24,.nm 40)] rfl rfl ?_ ?_)
 .simp only[BF];refine cP 3 c ?_ ?_
  .trivial
  refine rM c (lZ h w f a) [] [] ?_ ?_ ?_
  .simp only[wdF];first|exact eN|refine eM ?_
  .first|exact eN|refine eM ?_
  rintro _ _ ⟨rfl,rfl⟩;refine⟨[(50,.nm 5),(52,.nm 4),(51,.nm 3)],.clo 139 [50,51,52],[(50,.box 3 false [.p T3 a]),(52,.box 25 true [.p F6 f]),(51,BF h w)],rfl,rfl,?_,?_,rfl,rfl,Bh ?_⟩
  .simp only[BF];first|exact eN|refine eM ?_
  .first|exact eN|refine eM ?_
  simp only[BF];repeat'(first|exact trivial|apply eS rfl|apply AB|refine rX c ?_ ?_|refine rC ?_ ?_<;>intro d<;>try(cases d;done))
  refine Wd c rfl rfl (by simp only[go_sem,Nat.reduceEqDiff,reduceCtorEq,Nat.reduceAdd,Nat.reduceSub,Nat.reduceMul,Nat.reduceLeDiff,Nat.reduceLT,Int.reduceLE,Int.reduceToNat,Int.reduceNeg,↓reduceIte];rfl) 101 103 102 rfl rfl rfl rfl ?_;intro L o B M N O P Q Y;refine⟨_,dO h w f L o la (AR h w f a 0) a (.raw (.slice none 0 0)) 0,[50,51,52,101,102,6,7,8,4,11,12,13,24],_,[(50,.nm 50),(51,.nm 51),(52,.nm 52),(101,.nm 101),(102,.nm 102),(6,.nm 6),(7,.nm 7),(8,.nm 8),(4,.nm 4),(11,.nm 11),(60,.nil),(12,.nm 12),(13,.nm 13),(24,.nm 24)],[60],A1N h w f la a I k H t u L o ?_,rfl,rfl,?_,?_,rfl,?_⟩
  .intro i hi;obtain⟨J,ad,A,ae⟩:=HS k t u i (Vf hi);have ag:=J.len;have v:=zC (AR h w f a i).1 (AR h w f a i).2.2.2;have V:lwO (h,w.list,w.cons,w.null,w.dlist,w.first,w.rest,w.head,w.last)=w:=rfl;have W:FT (AR h w f a (i+1)).1=Fa T3 .bool (AR h w f a i).2.2.2 true (FT (AR h w f a i).1):=by
    show FT ((AR h w f a i).1++[(AR h w f a i).2.2.2])=_;simp[FT]
   have hT:=c.T;have hF:=c.F;refine Wc (fr:=102) rfl rfl B O P Q N Y rfl (by kernel_rfl) (by simp) rfl rfl (by kernel_rfl) (by kernel_rfl) hT hF ?_;intro an aa ab ao al c aj ak j;simp only[dO,BF,dE,GJ];repeat'(first|exact trivial|apply eS rfl|apply AB|refine rX c ?_ ?_|refine rC ?_ ?_<;>intro d<;>try(cases d;done))
   refine⟨rfl,?_⟩;repeat'(first|exact trivial|apply eS rfl|apply AB|refine rX c ?_ ?_|refine rC ?_ ?_<;>intro d<;>try(cases d;done))
   all_goals try simp only[V]at *
   all_goals try simp only[show ∀m:Int,f.getD m.toNat (0,[])=BT f m from λ_=>rfl]at *
   .exact⟨I,k,H,A⟩
   .have g:I9 h w f la (AR h w f a i)=some ((AR h w f a i).2.1,0):=(BY d.1).trans (by rw[BY d.2]);refine Ev.ent (σ':=⟨[],dO h w f { L with state:=.busy } o la (AR h w f a i) (AR h w f a i).2.2.2 (.sr 60 T3 0 (AR h w f a i).2.1.length) 0⟩) ?_ (AC [(50,.nm 50),(51,.nm 51),(52,.nm 52),(101,.nm 101),(102,.nm 102),(6,.nm 6),(7,.nm 7),(8,.nm 8),(4,.nm 4),(11,.nm 11),(60,.nm 60),(12,.nm 12),(13,.nm 13),(24,.nm 24)] rfl rfl ?_ ?_)
    .refine HY c (yn:=101) rfl rfl (by simp) j ⟨false,rfl,.inl ⟨g,rfl,?_⟩⟩;simp only[dO,BF,dE,Cu,go_sem,Nat.reduceEqDiff,reduceCtorEq,Nat.reduceAdd,Nat.reduceSub,Nat.reduceMul,Nat.reduceLeDiff,Nat.reduceLT,Int.reduceLE,Int.reduceToNat,Int.reduceNeg,↓reduceIte]
    .simp only[dO,BF,dE];first|exact eN|refine eM ?_
    first|exact eN|refine eM ?_
   .have g:I9 h w f la (AR h w f a i)=some ([],13):=(BY (by assumption)).trans (by rw[As (d (by assumption))]);refine Ev.ent (σ':=⟨[],dO h w f { L with state:=.busy } o la (AR h w f a i) (AR h w f a i).2.2.2 (.raw (.slice none 0 0)) 13⟩) ?_ (AC [(50,.nm 50),(51,.nm 51),(52,.nm 52),(101,.nm 101),(102,.nm 102),(6,.nm 6),(7,.nm 7),(8,.nm 8),(4,.nm 4),(11,.nm 11),(60,.nm 60),(12,.nm 12),(13,.nm 13),(24,.nm 24)] rfl rfl ?_ ?_)
    .refine HY c (yn:=101) rfl rfl (by simp) j ⟨false,rfl,.inr (.inl ⟨13,g,rfl,?_⟩)⟩;simp only[dO,BF,dE,Cu,go_sem,Nat.reduceEqDiff,reduceCtorEq,Nat.reduceAdd,Nat.reduceSub,Nat.reduceMul,Nat.reduceLeDiff,Nat.reduceLT,Int.reduceLE,Int.reduceToNat,Int.reduceNeg,↓reduceIte]
    .simp only[dO,BF,dE];first|exact eN|refine eM ?_
    first|exact eN|refine eM ?_
   .have U:(AR h w f a i).2.2.2∈(AR h w f a i).1:=by
     have r:(BR T3 .bool (AR h w f a i).2.2.2 (FT (AR h w f a i).1)).getD false=true:=by assumption
     rw[v]at r;simpa[f6] using r
    have g:I9 h w f la (AR h w f a i)=some ([],6):=(As (by assumption)).trans (BY U);refine Ev.ent (σ':=⟨[],dO h w f { L with state:=.busy } o la (AR h w f a i) (AR h w f a i).2.2.2 (.raw (.slice none 0 0)) 6⟩) ?_ (AC [(50,.nm 50),(51,.nm 51),(52,.nm 52),(101,.nm 101),(102,.nm 102),(6,.nm 6),(7,.nm 7),(8,.nm 8),(4,.nm 4),(11,.nm 11),(60,.nm 60),(12,.nm 12),(13,.nm 13),(24,.nm 24)] rfl rfl ?_ ?_)
    .refine HY c (yn:=101) rfl rfl (by simp) j ⟨false,rfl,.inr (.inl ⟨6,g,rfl,?_⟩)⟩;simp only[dO,BF,dE,Cu,go_sem,Nat.reduceEqDiff,reduceCtorEq,Nat.reduceAdd,Nat.reduceSub,Nat.reduceMul,Nat.reduceLeDiff,Nat.reduceLT,Int.reduceLE,Int.reduceToNat,Int.reduceNeg,↓reduceIte]
    .simp only[dO,BF,dE];first|exact eN|refine eM ?_
    first|exact eN|refine eM ?_
   .have z:(AR h w f a i).2.2.2∉(AR h w f a i).1:=by
     have r:(BR T3 .bool (AR h w f a i).2.2.2 (FT (AR h w f a i).1)).getD false=false:=by assumption
     rw[v]at r;intro y;have:=Uq.1 r _ y;simp at this
    have g:I9 h w f la (AR h w f a i)=some ([],13):=(As (by assumption)).trans ((As z).trans (As (by assumption)));refine Ev.ent (σ':=⟨[],dO h w f { L with state:=.busy } o la (AR h w f a i) (AR h w f a i).2.2.2 (.raw (.slice none 0 0)) 13⟩) ?_ (AC [(50,.nm 50),(51,.nm 51),(52,.nm 52),(101,.nm 101),(102,.nm 102),(6,.nm 6),(7,.nm 7),(8,.nm 8),(4,.nm 4),(11,.nm 11),(60,.nm 60),(12,.nm 12),(13,.nm 13),(24,.nm 24)] rfl rfl ?_ ?_)
    .refine HY c (yn:=101) rfl rfl (by simp) j ⟨false,rfl,.inr (.inl ⟨13,g,rfl,?_⟩)⟩;simp only[dO,BF,dE,Cu,go_sem,Nat.reduceEqDiff,reduceCtorEq,Nat.reduceAdd,Nat.reduceSub,Nat.reduceMul,Nat.reduceLeDiff,Nat.reduceLT,Int.reduceLE,Int.reduceToNat,Int.reduceNeg,↓reduceIte]
    .simp only[dO,BF,dE];first|exact eN|refine eM ?_
    first|exact eN|refine eM ?_
   .refine⟨⟨k,A⟩,?_⟩;have:=k.1;simp only[AO];omega
   have z:(AR h w f a i).2.2.2∉(AR h w f a i).1:=by
    have r:(BR T3 .bool (AR h w f a i).2.2.2 (FT (AR h w f a i).1)).getD false=false:=by assumption
    rw[v]at r;intro y;have:=Uq.1 r _ y;simp at this
   have hk:Az h w (BT f (AR h w f a i).2.2.2)=2:=by simpa using d
   have g:I9 h w f la (AR h w f a i)=none:=(As (by assumption)).trans ((As z).trans (BY hk));have X:(AR h w f a (i+1)).2.1=(AR h w f a i).2.1++[BK (BT f (AR h w f a i).2.2.2).2 w.first]:=BY hk;refine Ev.ent (σ':=⟨[],dO h w f { L with state:=.busy } o la (AR h w f a (i+1)) (AR h w f a i).2.2.2 (.raw (.slice none 0 0)) 0⟩) ?_ (AC [(50,.nm 50),(51,.nm 51),(52,.nm 52),(101,.nm 101),(102,.nm 102),(6,.nm 6),(7,.nm 7),(8,.nm 8),(4,.nm 4),(11,.nm 11),(60,.nm 60),(12,.nm 12),(13,.nm 13),(24,.nm 24)] rfl rfl ?_ ?_)
   .refine M6 c (yn:=101) rfl rfl (by simp) j ⟨true,rfl,.inr (.inr ⟨g,rfl,?_⟩)⟩;simp only[dO,BF,dE,go_sem,Nat.reduceEqDiff,reduceCtorEq,Nat.reduceAdd,Nat.reduceSub,Nat.reduceMul,Nat.reduceLeDiff,Nat.reduceLT,Int.reduceLE,Int.reduceToNat,Int.reduceNeg,↓reduceIte,Qi B M]
   .simp only[dO,BF,dE,W,X];first|exact eN|refine eM ?_
   first|exact eN|refine eM ?_
  .simp only[A7,dO,BF,dE,AR];first|exact eN|refine eM ?_
  .simp only[A7,dO,BF,dE,AR];first|exact eN|refine eM ?_
   rfl
  rintro _ _ ⟨rfl,i,hi,R⟩;rcases R with ⟨g,-,rfl⟩|⟨e,g,-,rfl⟩|⟨g,q,rfl⟩
  .have s:=Hc k t u hi g;refine⟨[(50,.nm 50),(51,.nm 51),(52,.nm 52),(101,.nm 101),(102,.nm 102),(6,.nm 6),(7,.nm 7),(8,.nm 8),(4,.nm 4),(11,.nm 11),(60,.nm 60),(12,.nm 12),(13,.nm 13),(24,.nm 24)],dO h w f (Cu L) o la (AR h w f a i) (AR h w f a i).2.2.2 (.sr 60 T3 0 (AR h w f a i).2.1.length) 0,Cu L,rfl,rfl,?_,rfl,rfl,rfl,rfl,?_⟩
   .simp only[dO,BF,dE];first|exact eN|refine eM ?_
   intro b;simp only[Cu,EvJ,dO,BF,dE,A7,go_sem,Nat.reduceEqDiff,reduceCtorEq,Nat.reduceAdd,Nat.reduceSub,Nat.reduceMul,Nat.reduceLeDiff,Nat.reduceLT,Int.reduceLE,Int.reduceToNat,Int.reduceNeg,↓reduceIte];replace c:=HZ (dn:=103) (b:=b) c;refine E6 [60] ?_;repeat'(first|exact trivial|apply eS rfl|apply AB|refine rX c ?_ ?_|refine rC ?_ ?_<;>intro d<;>try(cases d;done))
   refine Ev.ent (σ':=⟨[(6,.bp 6 [] 0),(7,.bp 7 [] 0)],[(6,.box 61 false [.p FA (AR h w f a i).2.1]),(7,.box 35 false [.p GK 0]),(103,.dfr)]⟩) ?_ (AC [(6,.nm 6),(7,.nm 7),(103,.nm 103)] rfl rfl ?_ ?_)
   .rw[s];exact Jm c [.cell 6 61,.cell 7 35] rfl (.inl rfl) rfl rfl (.tup [.p FA (AR h w f a i).2.1,.p GK 0]) eT rfl
   .first|exact eN|refine eM ?_
   first|exact eN|refine eM ?_
  .have s:=Hc k t u hi g;refine⟨[(50,.nm 50),(51,.nm 51),(52,.nm 52),(101,.nm 101),(102,.nm 102),(6,.nm 6),(7,.nm 7),(8,.nm 8),(4,.nm 4),(11,.nm 11),(60,.nm 60),(12,.nm 12),(13,.nm 13),(24,.nm 24)],dO h w f (Cu L) o la (AR h w f a i) (AR h w f a i).2.2.2 (.raw (.slice none 0 0)) e,Cu L,rfl,rfl,?_,rfl,rfl,rfl,rfl,?_⟩
   .simp only[dO,BF,dE];first|exact eN|refine eM ?_
   intro b;simp only[Cu,EvJ,dO,BF,dE,A7,go_sem,Nat.reduceEqDiff,reduceCtorEq,Nat.reduceAdd,Nat.reduceSub,Nat.reduceMul,Nat.reduceLeDiff,Nat.reduceLT,Int.reduceLE,Int.reduceToNat,Int.reduceNeg,↓reduceIte];replace c:=HZ (dn:=103) (b:=b) c;repeat'(first|exact trivial|apply eS rfl|apply AB|refine rX c ?_ ?_|refine rC ?_ ?_<;>intro d<;>try(cases d;done))
   refine Ev.ent (σ':=⟨[(6,.bp 6 [] 0),(7,.bp 7 [] 0)],[(6,.box 61 false [.p FA []]),(7,.box 35 false [.p GK e]),(103,.dfr)]⟩) ?_ (AC [(6,.nm 6),(7,.nm 7),(103,.nm 103)] rfl rfl ?_ ?_)
   .rw[s];exact Jm c [.cell 6 61,.cell 7 35] rfl (.inl rfl) rfl rfl (.tup [.p FA [],.p GK e]) eT rfl
   .first|exact eN|refine eM ?_
   first|exact eN|refine eM ?_
  cases q
 .simp only[BF];first|exact eN|refine eM ?_
 first|exact eN|refine eM ?_
end
section
attribute [local go_sem] Mg YI Q6 Q7 Mh l9 SR Q8 cs4 cs5
def J9:AZ:={ ins:=[ED,Cy,T3],pre:=λ(h,f,n,_)=>AN f/\CP h f/\(0:Int)<=n/\n<(List.length f:Int),out:=λ(h,f,n,_)=>[.p FA (Af h f n).1,.p GK (Af h f n).2] }
attribute [local go_sem] J9
theorem Mi:Ab Tryz.prog 38 J9:=by
 refine Ns ⟨_,Tryz.func38,by kernel_rfl,by kernel_rfl⟩ (λds hp=>?_) (λds r a=>?_)
 .obtain⟨h,f,n,u⟩:=ds;obtain⟨h1,b,c,d⟩:=hp;refine⟨[.p ED h,.p Cy f,.p T3 n],λw O s e=>?_,qS h f n h1 b c d⟩;obtain⟨v1,m,rfl,g,k,o,rfl,i,l,q,rfl,j,rfl⟩:=e;exact⟨v1,_,rfl,Jn g,k,_,rfl,Jn i,l,_,rfl,Jn j,rfl⟩
 simp only[J9,By,Ud,ADe]at a;rcases a with rfl|rfl
 .exact⟨_,_,rfl⟩
 exact⟨_,_,rfl⟩
theorem NR {h:AG} {w:LW} {x:AD}:(F0 h w x=true↔Az h w x=2)/\((!Na h w x&&HF h w x)=true↔Az h w x=3):=by
 have c:F0 h w x=true->Na h w x=false:=by
  intro q;unfold F0 OA at q;unfold Na MX;simp only[An,DO]at q;rw[show decide (BK x.2 w.first<0)=false from Uv (by omega)];simp
 have d:F0 h w x=true->HF h w x=false:=by
  intro q;unfold F0 OA at q;unfold HF MX;simp only[An,DO]at q;rw[show decide (BK x.2 w.first<0)=false from Uv (by omega)];simp
 unfold Az;cases h1:Na h w x<;>cases a:F0 h w x<;>cases b:HF h w x<;>simp[h1,a,b]at c d ⊢
def KA:AZ:={ ins:=[ED,Cy,T3],pre:=λ(h,f,n,_)=>Gm h/\AN f/\CP h f/\(0:Int)<=n/\n<(List.length f:Int),out:=λ(h,f,n,_)=>[.p FA (Af h f n).1,.p GK (Af h f n).2] }
attribute [local go_sem] KA
theorem TQ:Ab Tryz.prog 39 KA:=by
 refine fKP [0,1,2,3,4,6,7,8,9,10,11,14,28,31,34,39,59] [42,49] [] Tryz.func39 Tryz.ntmps39 (AE YH (AE Q5 (AE bN (AE YJ (AE z8 AH))))) ?_;rintro w0 O0 ⟨h,f,n,u⟩ l-⟨hk,b,v,hn⟩;have hk:Gm h:=hk;have b:AN f:=b;have v:CP h f:=v;have hn:0<=n/\n<(f.length:Int):=hn;have C:(h.1,h.2)=h:=rfl;obtain⟨-,-,-,-,G,H,I,J⟩:=Kz h;simp only[KA,AM];repeat'(first|exact trivial|apply eS rfl|apply AB|refine rX l ?_ ?_|refine rC ?_ ?_<;>intro c<;>try(cases c;done))
 all_goals try simp only[C,G,H,I,J]at *
 all_goals try simp only[show ∀m:Int,List.getD f m.toNat (0,[])=BT f m from λ_=>rfl]at *
 .exact hk
 .have d:Af h f n=([],5):=by unfold Af;rw[c,As (by simp)]
  exact fI l [.tmp 6,.tmp 7] (by rw[d];exact eR)
 .exact⟨b,hn⟩
 .exact⟨b,hn⟩
 .have s:Ex h=true:=by assumption
  have d:Af h f n=([],13):=by unfold Af;rw[BY s];exact BY c
  exact fI l [.tmp 6,.tmp 7] (by rw[d];exact eR)
 have s:Ex h=true:=by assumption
 have B:Af h f n=FJ h (AP h) f (BK (BT f n).2 (AP h).last) (f.length+1) [] [] (BK (BT f n).2 (AP h).head):=by
  unfold Af;rw[BY s];exact As (λq=>q.elim (λq=>absurd c.1 (ADm.2 q)) λq=>absurd c.2 (ADm.2 q))
 have r:BK (BT f n).2 (AP h).head<(f.length:Int):=I0 (by omega) _ λx A=>(E8 b n.toNat x A).2;have o:0<=BK (BT f n).2 (AP h).head:=c.1;have N:BK (BT f n).2 (AP h).last<(f.length:Int):=I0 (by omega) _ λx A=>(E8 b n.toNat x A).2;have M:0<=BK (BT f n).2 (AP h).last:=c.2;rw[B];have P:∀m:Int,List.getD f m.toNat (0,[])=BT f m:=λ_=>rfl;clear c B;generalize BK (BT f n).2 (AP h).head=a at *;generalize BK (BT f n).2 (AP h).last=la at *;refine AJ (ι:={i:Nat//DGo h (AP h) f la a i}) (λi=>⟨[(8,.p T3 (AR h (AP h) f a i.1).2.2.2),(9,.p T3 la),(3,.bp 3 [] 0),(4,.bp 4 [] 0),(10,.sr 50 T3 0 (AR h (AP h) f a i.1).2.1.length),(11,.sr 43 T3 0 (AR h (AP h) f a i.1).1.length)],[(3,.box 31 true [.p mQ h.1,.p sL h.2]),(4,.box 25 true [.p F6 f]),(50,.arr 3 T3 (AR h (AP h) f a i.1).2.1),(43,.arr 3 T3 (AR h (AP h) f a i.1).1)]⟩) (λi=>f.length+1-i.1) ⟨0,λj D=>by omega⟩ (AC [(3,.nm 3),(4,.nm 4),(50,.nil),(43,.nil)] rfl rfl ?_ ?_) (λi=>?_)
 .first|exact eN|refine eM ?_
  try exact⟨rfl,rfl⟩
 .first|exact eN|refine eM ?_
  exact⟨rfl,rfl,rfl⟩
 obtain⟨i,hi⟩:=i;obtain⟨L,Q,w,R⟩:=HS b o r i (Vf hi);have S:=L.len;have T:=b.1;simp only;repeat'(first|exact trivial|apply eS rfl|apply AB|refine rX l ?_ ?_|refine rC ?_ ?_<;>intro c<;>try(cases c;done))
 all_goals try simp only[C,G,H,I,J,P]at *
 .have O:(AR h (AP h) f a i).2.2.2∈(AR h (AP h) f a i).1:=by simpa[f6] using c
  have d:=Hc b o r hi (show I9 h (AP h) f la (AR h (AP h) f a i)=some ([],6) from (As (by assumption)).trans (BY O));exact fI l [.tmp 6,.tmp 7] (by rw[d];exact eR)
 .exact⟨⟨s,hk⟩,b,v,w⟩
 .have z:(AR h (AP h) f a i).2.2.2∉(AR h (AP h) f a i).1:=by
   have g:f6 (AR h (AP h) f a i).1 (AR h (AP h) f a i).2.2.2=false:=by assumption
   intro k;have:=Uq.1 g _ k;simp at this
  have t:¬Az h (AP h) (BT f (AR h (AP h) f a i).2.2.2)=2:=λq=>by
   have g:F0 h (AP h) (BT f (AR h (AP h) f a i).2.2.2)=false:=c;rw[NR.1.2 q]at g;cases g
  have d:=Hc b o r hi (show I9 h (AP h) f la (AR h (AP h) f a i)=some ([],13) from (As (by assumption)).trans ((As z).trans (As t)));exact fI l [.tmp 6,.tmp 7] (by rw[d];exact eR)
 .simp only[AO];omega
 .refine⟨⟨b,w⟩,?_⟩;simp only[AO];omega
 .exact⟨b,w⟩
 .have z:(AR h (AP h) f a i).2.2.2∉(AR h (AP h) f a i).1:=by
   have g:f6 (AR h (AP h) f a i).1 (AR h (AP h) f a i).2.2.2=false:=by assumption
   intro k;have:=Uq.1 g _ k;simp at this
  have t:Az h (AP h) (BT f (AR h (AP h) f a i).2.2.2)=2:=NR.1.1 c;have F:(AR h (AP h) f a (i+1)).2.1=(AR h (AP h) f a i).2.1++[BK (BT f (AR h (AP h) f a i).2.2.2).2 (AP h).first]:=BY t;have E:(AR h (AP h) f a (i+1)).1=(AR h (AP h) f a i).1++[(AR h (AP h) f a i).2.2.2]:=rfl;refine⟨⟨i+1,λj D=>(oN.1 D).elim (hi j) λe=>by rw[e];exact(As (by assumption)).trans ((As z).trans (BY t))⟩,by simp only;omega,AC [(3,.nm 3),(4,.nm 4),(50,.nm 50),(43,.nm 43)] rfl rfl ?_ ?_⟩
  .simp only[F,E];first|exact eN|refine eM ?_
   rfl
  simp only[F,E];first|exact eN|refine eM ?_
  rfl
 .exact⟨⟨s,hk⟩,b,v,M,N⟩
 .have k:(AR h (AP h) f a i).2.2.2=la:=by
   have g:((AR h (AP h) f a i).2.2.2 != la)=false:=by assumption
   simpa using g
  have y:¬Az h (AP h) (BT f (AR h (AP h) f a i).2.2.2)=3:=λq=>by
   rw[k]at q;have q:=NR.2.2 q;simp only[An,TO]at q;have K:=c q.1;rw[show HF (h.1,h.2) (AP (h.1,h.2)) (BT f la)=HF h (AP h) (BT f la) from rfl,q.2]at K;cases K
  have d:=Hc b o r hi (show I9 h (AP h) f la (AR h (AP h) f a i)=some ([],13) from (BY k).trans (by rw[As y]));exact fI l [.tmp 6,.tmp 7] (by rw[d];exact eR)
 have k:(AR h (AP h) f a i).2.2.2=la:=by
  have g:((AR h (AP h) f a i).2.2.2 != la)=false:=by assumption
  simpa using g
 have y:Az h (AP h) (BT f (AR h (AP h) f a i).2.2.2)=3:=by
  rw[k];refine NR.2.1 ?_;simp only[An,TO];exact c
 have d:=Hc b o r hi (show I9 h (AP h) f la (AR h (AP h) f a i)=some ((AR h (AP h) f a i).2.1,0) from (BY k).trans (by rw[BY y]));refine E6 [50] ?_;exact fI l [.tmp 6,.tmp 7] (by rw[d];exact eR)
end
section
attribute [local go_sem] J9 KA SR Q8
theorem bU {h:AG} {w:LW} {f:List AD} {la:Int} (hf:AN f):∀(k:Nat) (c out:List Int) (n:Int),(∀x∈out,0<=x/\x<(f.length:Int))->(∀x∈(FJ h w f la k c out n).1,0<=x/\x<(f.length:Int))/\(FJ h w f la k c out n).1.length<=out.length+k/\((FJ h w f la k c out n).2≠0->(FJ h w f la k c out n).1=[])
 | 0,_,_,_,_=>⟨λx b=>(by cases b),IS _,λ_=>rfl⟩
 | k+1,c,out,n,i=>by
  have d:∀e:Int,(∀x∈(([],e):List Int×Int).1,0<=x/\x<(f.length:Int))/\(([],e):List Int×Int).1.length<=out.length+(k+1)/\((([],e):List Int×Int).2≠0->(([],e):List Int×Int).1=[]):=λe=>⟨λx b=>(by cases b),IS _,λ_=>rfl⟩;rw[FJ];cases a:mD h w f la c out n with
  | some r =>
   unfold mD at a;simp only;split at a
   .cases a;split
    .exact⟨i,Nat.le_add_right _ _,λq=>absurd rfl q⟩
    exact d 13
   split at a
   .cases a;exact d 6
   split at a
   .cases a
   cases a;exact d 13
  | none =>
   have hk:=(J8 a).2.2;have j:0<=BK (BT f n).2 w.first/\BK (BT f n).2 w.first<(f.length:Int):=by
    have hp:=(NL hk).1;have l:f.length≠0:=by
     intro q;have:f=[]:=ADt.1 q;subst this;simp[BK,BT]at hp
    exact⟨hp,I0 (by omega) _ λx b=>(E8 hf n.toNat x b).2⟩
   have g:=bU (h:=h) (w:=w) (la:=la) hf k (c++[n]) (out++[BK (BT f n).2 w.first]) (BK (BT f n).2 w.rest) (λx b=>by
    rcases IF.1 b with q|q
    .exact i x q
    rw[Tu.1 q];exact j)
   refine⟨g.1,?_,g.2.2⟩;have:=g.2.1;rw[A0,GO]at this;simp only;omega
theorem Mj {h:AG} {f:List AD} (hf:AN f) (n:Int):((∀x∈(Af h f n).1,0<=x/\x<(f.length:Int))/\(Af h f n).1.length<=200000)/\((Af h f n).2≠0->(Af h f n).1=[]):=by
 unfold Af;split
 .split
  .exact⟨⟨λx a=>(by cases a),IS _⟩,λ_=>rfl⟩
  have:=bU (h:=h) (w:=AP h) (la:=BK (BT f n).2 (AP h).last) hf (f.length+1) [] [] (BK (BT f n).2 (AP h).head) (λx a=>by cases a);have b:=hf.1;refine⟨⟨this.1,?_⟩,this.2.2⟩;have:=this.2.1;simp only[Ug]at this;omega
 exact⟨⟨λx a=>(by cases a),IS _⟩,λ_=>rfl⟩
def GZ (h:AG) (f:List AD):List (List AD)×Int:=(Eb f (Af h f 0).1,(Af h f 0).2)
def Mk:AZ:={ ins:=[ED,Cy],pre:=λ(h,f,_)=>AN f/\Fs f/\CP h f/\0<List.length f,out:=λ(h,f,_)=>[.p Tc (GZ h f).1,.p GK (GZ h f).2] }
attribute [local go_sem] Mk
theorem YL:Ab Tryz.prog 40 Mk:=by
 refine fK [0,1,2,3,4,5,6,7] Tryz.func40 Tryz.ntmps40 (AE Mi (AE mB AH)) ?_;rintro w0 O0 ⟨h,f,u⟩ c-⟨h1,a,b,g⟩;have h1:AN f:=h1;have a:Fs f:=a;have b:CP h f:=b;have d:=(Mj (h:=h) h1 0).1;have i:(h.1,h.2)=h:=rfl;simp only[Mk,AM];repeat'(first|exact trivial|apply eS rfl|apply AB|refine rX c ?_ ?_|refine rC ?_ ?_<;>intro e<;>try(cases e;done))
 all_goals try simp only[i]at *
 .exact⟨h1,b,Do.2 g⟩
 .exact⟨h1,a,d.2,d.1⟩
 exact fI c [.tmp 4,.tmp 5] (by unfold GZ;exact eR)
def NS:AZ:={ ins:=[ED,Cy],pre:=λ(h,f,_)=>Gm h/\AN f/\Fs f/\CP h f/\0<List.length f,out:=λ(h,f,_)=>[.p Tc (GZ h f).1,.p GK (GZ h f).2] }
attribute [local go_sem] NS
theorem mE:Ab Tryz.prog 41 NS:=by
 refine fK [0,1,2,3,4,5,6,7,15] Tryz.func41 Tryz.ntmps41 (AE TQ (AE bP AH)) ?_;rintro w0 O0 ⟨h,f,u⟩ d-⟨h0,h1,b,c,i⟩;have h1:AN f:=h1;have b:Fs f:=b;have c:CP h f:=c;have g:=Mj (h:=h) h1 0;have j:(h.1,h.2)=h:=rfl;simp only[NS,AM];repeat'(first|exact trivial|apply eS rfl|apply AB|refine rX d ?_ ?_|refine rC ?_ ?_<;>intro a<;>try(cases a;done))
 all_goals try simp only[j]at *
 .exact⟨h0,h1,c,Do.2 i⟩
 .have e:GZ h f=([],(Af h f 0).2):=by
   unfold GZ;rw[g.2 a];rfl
  exact fI d [.tmp 4,.tmp 5] (by rw[e];exact eR)
 .exact⟨h1,b,g.1.2,g.1.1⟩
 have k:(Af h f 0).2=0:=by simpa using a
 have e:GZ h f=(Eb f (Af h f 0).1,0):=by
  unfold GZ;rw[k]
 exact fI d [.tmp 4,.tmp 5] (by rw[e];exact eR)
end
theorem Vg (l b:List AD) (g:AN b) (B:l.length<=200000):A9 Tryz.prog 98 [.sr 50 HL 0 l.length,.p F6 b] [(50,.arr 93 HL l)] [] (λres y=>res=.sr 50 HL 0 (l++Nb l.length b b.length).length/\y=[(50,.arr 93 HL (l++Nb l.length b b.length))]):=by
 refine Kh [0,1,4,5,7,8,10,13,14,15,16,23,24,25,26] [38] [] Tryz.func98 Tryz.ntmps98 AH ?_;intro w0 K O0 ρ0 e D E;simp only[Aq];have C:=g.1;repeat'(first|exact trivial|apply eS rfl|apply AB|refine rX e ?_ ?_|refine rC ?_ ?_<;>intro c<;>try(cases c;done))
 refine AJ (ι:={i:Nat//i<=b.length}) (λi=>⟨[(0,.sr 50 HL 0 (l++Nb l.length b i.1).length),(5,.p (.int .i64) (l.length:Int)),(13,.p F6 b),(14,.p (.int .i64) (b.length:Int)),(15,.p (.int .i64) (i.1:Int))],[(50,.arr 93 HL (l++Nb l.length b i.1))]⟩) (λi=>b.length-i.1) ⟨0,IS _⟩ (AC [(50,.nm 50)] rfl rfl ?_ ?_) (λi=>?_)
 .have f:l++Nb l.length b 0=l:=by simp[Nb]
  simp only[f];first|exact eN|refine eM ?_
 .have f:l++Nb l.length b 0=l:=by simp[Nb]
  simp only[f];first|exact eN|refine eM ?_
 obtain⟨i,hi⟩:=i;have v:=HR l.length b hi;have o:=λh:i<b.length=>lW l.length b h;simp only;generalize m:Nb l.length b i=os at *;repeat'(first|exact trivial|apply eS rfl|apply AB|refine rX e ?_ ?_|refine rC ?_ ?_<;>intro c<;>try(cases c;done))
 .exact c
 .have k:i<b.length:=Do.1 c;have n:=E8 g i;have w:(b.getD i (0,[])).2.length<=100000:=(g.2 _ (AF b (0,[]) k)).1;generalize G:b.getD i (0,[])=x at *;obtain⟨z,xs⟩:=x;simp only at n w o ⊢;refine AJ (ι:={j:Nat//j<=xs.length}) (λj=>⟨[(0,.sr 50 HL 0 (l++os).length),(5,.p (.int .i64) (l.length:Int)),(13,.p F6 b),(14,.p (.int .i64) (b.length:Int)),(15,.p (.int .i64) (i:Int)),(8,.bp 8 [] 0),(23,.p DC xs),(24,.p (.int .i64) (xs.length:Int)),(25,.p (.int .i64) (j.1:Int))],[(50,.arr 93 HL (l++os)),(8,.box 93 true [.p T3 z,.sr 39 AW 0 (Ad l.length (xs.take j.1)).length]),(39,.arr 106 AW (Ad l.length (xs.take j.1)))]⟩) (λj=>xs.length-j.1) ⟨0,IS _⟩ (AC [(50,.nm 50),(8,.nm 8),(39,.nil)] rfl rfl ?_ ?_) (λj=>?_)
  .first|exact eN|refine eM ?_
   try exact⟨rfl,rfl⟩
  .first|exact eN|refine eM ?_
  obtain⟨j,A⟩:=j;have r:(Ad l.length (xs.take j)).length=j:=by unfold Ad;rw[OF,OR];omega
  have s:=λh:j<xs.length=>CF (λa:Int×Int=>(a.1,a.2+(l.length:Int))) xs (0,0) h;simp only;repeat'(first|exact trivial|apply eS rfl|apply AB|refine rX e ?_ ?_|refine rC ?_ ?_<;>intro c<;>try(cases c;done))
  .exact c
  .have d:j<xs.length:=Do.1 c;have F:=n _ (AF xs (0,0) d);refine⟨⟨by omega,by omega⟩,?_⟩;rw[r];simp only[AO];omega
  .omega
  .have d:j<xs.length:=Do.1 c;have t:Ad l.length (xs.take (j+1))=Ad l.length (xs.take j)++[((xs.getD j (0,0)).1,(xs.getD j (0,0)).2+(l.length:Int))]:=s d;refine⟨⟨j+1,d⟩,by simp only;omega,AC [(50,.nm 50),(8,.nm 8),(39,.nm 39)] rfl rfl ?_ ?_⟩
   .simp only[t];first|exact eN|refine eM ?_
   first|exact eN|refine eM ?_
  .simp only[A0,v,AO];omega
  .omega
  have d:xs.take j=xs:=At (Tn.1 c);have q:=o k;rw[d];refine⟨⟨i+1,k⟩,by simp only;omega,AC [(50,.nm 50)] rfl rfl ?_ ?_⟩
  .simp only[q,<-Tt];first|exact eN|refine eM ?_
  simp only[q,<-Tt];first|exact eN|refine eM ?_
 have u:i=b.length:=by
  have:=Tn.1 c;omega
 subst u;refine Ev.ent (σ':=⟨[(4,.sr 50 HL 0 (l++os).length)],[(50,.arr 93 HL (l++os))]⟩) ?_ (AC [(50,.nm 50)] rfl rfl ?_ ?_)
 .exact fM e [.tmp 4] (.sr 50 HL 0 (l++os).length) eT ⟨by rw[m],by rw[m]⟩
 .first|exact eN|refine eM ?_
 first|exact eN|refine eM ?_
section
def GB:List (List AD)->Int->Bool
 | [],_=>true
 | x :: l,m=>if 4096<m+(1+(x.length:Int)) then false else GB l (m+(1+(x.length:Int)))
def YM:AZ:={ ins:=[Tc,T3],pre:=λ(l,m,_)=>(∀x∈(l:List (List AD)),x.length<=100000)/\0<=m/\m<=4096,out:=λ(l,m,_)=>[.p .bool (GB l m)],lend:=true }
attribute [local go_sem] YM
theorem mF:Ab Tryz.prog 105 YM:=by
 refine fK [0,1,4,6,7,8,9,10,20] Tryz.func105 Tryz.ntmps105 AH ?_;rintro w0 O0 ⟨l,m,u⟩ d q ⟨h1,h,i⟩;have o:List.length l<=AO:=q.1.1;simp only[AO]at o;have h:(0:Int)<=m:=h;have i:(m:Int)<=4096:=i;simp only[YM,AM];repeat'(first|exact trivial|apply eS rfl|apply AB|refine rX d ?_ ?_|refine rC ?_ ?_<;>intro a<;>try(cases a;done))
 refine AJ (ι:={k:Nat×Int//k.1<=List.length l/\GB l m=GB (List.drop k.1 l) k.2/\0<=k.2/\k.2<=4096}) (λk=>⟨[(1,.p T3 k.1.2),(7,.p Tc l),(8,.p (.int .i64) (List.length l:Int)),(9,.p (.int .i64) (k.1.1:Int))],[]⟩) (λk=>List.length l-k.1.1) ⟨(0,m),IS _,rfl,h,i⟩ (AC [] rfl rfl ?_ ?_) (λk=>?_)
 .first|exact eN|refine eM ?_
 .first|exact eN|refine eM ?_
 obtain⟨⟨k,c⟩,hk,f,c0,c1⟩:=k;simp only at hk f c0 c1 ⊢;have j:k<List.length l->List.length (List.getD l k [])<=100000/\GB (List.drop k l) c=if 4096<c+(1+(List.length (List.getD l k []):Int)) then false else GB (List.drop (k+1) l) (c+(1+(List.length (List.getD l k []):Int))):=λb=>by
  have e:List.getD l k []=l[k]:=by rw[AS,AT b];rfl
  refine⟨by rw[e];exact h1 _ (UJ b),?_⟩;rw[Tj b,e];rfl
 repeat'(first|exact trivial|apply eS rfl|apply AB|refine rX d ?_ ?_|refine rC ?_ ?_<;>intro a<;>try(cases a;done))
 .exact a
 .have g:=(j (Do.1 a)).1;omega
 .have g:=(j (Do.1 (by assumption))).2;have n:GB l m=false:=by rw[f,g,BY a]
  exact fI d [.tmp 4] (by rw[n];exact eR)
 .omega
 .have b:k<List.length l:=Do.1 (by assumption);have g:=(j b).2;refine⟨⟨(k+1,c+(1+(List.length (List.getD l k []):Int))),b,by rw[f,g,As (Yd.2 a)],by simp only;omega,a⟩,by simp only;omega,AC [] rfl rfl ?_ ?_⟩
  .first|exact eN|refine eM ?_
  first|exact eN|refine eM ?_
 have b:k=List.length l:=Yg hk (Tn.1 a);have n:GB l m=true:=by rw[f,b,bY];rfl
 exact fI d [.tmp 4] (by rw[n];exact eR)
def Ds (c a b:Int) (N x:List AD):List AD:=(N++[(c,[(a,(N.length:Int)+1),(b,(N.length:Int)+1+(x.length:Int))])])++Nb (N.length+1) x x.length
def fR (c a b:Int) (l:List (List AD)):List AD:=l.foldl (Ds c a b) []
theorem A4T (c a b:Int) {l:List (List AD)} {k:Nat} (hk:k<l.length):fR c a b (l.take (k+1))=Ds c a b (fR c a b (l.take k)) (l.getD k []):=by
 unfold fR;rw[AEc,AT hk,AS,AT hk];rw[Yy];rfl
theorem IW (c a b:Int) (N x:List AD):(Ds c a b N x).length=N.length+1+x.length:=by
 unfold Ds;rw[A0,A0,HR _ _ (Is _)];rfl
def Ec (c a b t:Int) (l:List (List AD)):List AD:=fR c a b l++[(t,[])]
def RD:AZ:={ ins:=[ZD,Tc,T3],pre:=λ(_,l,_)=>(∀x∈(l:List (List AD)),AN x)/\∀k,(fR 0 0 0 (List.take k l)).length<=100000,out:=λ(W,l,t,_)=>[.p Cy (Ec W.2.2.1 W.2.2.2.2.2.1 W.2.2.2.2.2.2.1 t l),.p T3 ((Ec W.2.2.1 W.2.2.2.2.2.1 W.2.2.2.2.2.2.1 t l).length-1:Int)] }
attribute [local go_sem] RD
theorem fS (c a b:Int) (l:List (List AD)):(fR c a b l).length=(fR 0 0 0 l).length:=by
 have key:∀(l:List (List AD)) (N M:List AD),N.length=M.length->(l.foldl (Ds c a b) N).length=(l.foldl (Ds 0 0 0) M).length:=by
  intro l;induction l with
  | nil=>exact λ_ _ h=>h
  | cons x l d=>exact λN M h=>d _ _ (by rw[IW,IW,h])
 exact key l [] [] rfl
theorem bV:Ab Tryz.prog 106 RD:=by
 refine fKP [0,1,2,3,6,7,8,10,11,12,13,14,15] [39,41,55] [] Tryz.func106 Tryz.ntmps106 AH ?_;rintro w0 O0 ⟨⟨h,w,c,y,z,d,e,A,B⟩,l,t,u⟩ a r ⟨h1,j⟩;have q:List.length l<=AO:=r.2.1.1;simp only[AO]at q;simp only[RD,AM];repeat'(first|exact trivial|apply eS rfl|apply AB|refine rX a ?_ ?_|refine rC ?_ ?_<;>intro b<;>try(cases b;done))
 refine AJ (ι:={k:Nat//k<=List.length l}) (λk=>⟨[(2,.p T3 t),(3,.bp 3 [] 0),(6,.bp 6 [] 0),(8,.bp 8 [] 0),(12,.p Tc l),(13,.p (.int .i64) (List.length l:Int)),(14,.p (.int .i64) (k.1:Int))],[(3,.box 115 true [.p ED h,.p T3 w,.p T3 c,.p T3 y,.p T3 z,.p T3 d,.p T3 e,.p T3 A,.p T3 B]),(6,.box 25 true [.raw (.slice none 0 0)]),(8,.box 25 true [.sr 42 HL 0 (fR c d e (List.take k.1 l)).length]),(42,.arr 93 HL (fR c d e (List.take k.1 l)))]⟩) (λk=>List.length l-k.1) ⟨0,IS _⟩ (AC [(3,.nm 3),(6,.nm 6),(8,.nm 8),(42,.nil)] rfl rfl ?_ ?_) (λk=>?_)
 .first|exact eN|refine eM ?_
  exact⟨rfl,rfl⟩
 .first|exact eN|refine eM ?_
 obtain⟨k,hk⟩:=k;have v:=λh=>A4T c d e (l:=l) (k:=k) h;have i:k<List.length l->AN (List.getD l k []):=λf=>by
  rw[AS,AT f];exact h1 _ (UJ f)
 have n:=j k;rw[<-fS c d e]at n;simp only;generalize m:fR c d e (List.take k l)=N at *;repeat'(first|exact trivial|apply eS rfl|apply AB|refine rP a ?_ ?_|refine rC ?_ ?_<;>intro b<;>try(cases b;done))
 .exact b
 .have f:=i (Do.1 b);have:=f.1;simp only[AO];omega
 .have f:k<List.length l:=Do.1 b;have o:=i f;have hs:=v f;generalize D:List.getD l k []=x at *;have C:=HR (N.length+1) x (Is _);have g:=Vg (N++[(c,[(d,(N.length:Int)+1),(e,(N.length:Int)+1+(x.length:Int))])]) x o (by rw[A0,GO];omega);rw[show (N++[(c,[(d,(N.length:Int)+1),(e,(N.length:Int)+1+(x.length:Int))])]).length=N.length+1 by rw[A0,GO]]at g;refine cP 4 a ?_ ?_
  .trivial
  refine rM a (g) [(50,.nm 42)] [42] ?_ ?_ ?_
  .exact eN
  .exact eN
  rintro _ _ ⟨rfl,rfl⟩;refine⟨[(42,.nm 50)],.sr 42 HL 0 (fR c d e (List.take (k+1) l)).length,[(42,.arr 93 HL (fR c d e (List.take (k+1) l)))],rfl,rfl,?_,?_,rfl,rfl,?_⟩
  .rw[hs];unfold Ds;exact eN
  .rw[hs];unfold Ds;exact eN
  refine rL a ?_ ?_
  .trivial
  repeat'(first|exact trivial|apply eS rfl|apply AB|refine rX a ?_ ?_|refine rC ?_ ?_<;>intro b<;>try(cases b;done))
  .omega
  refine⟨⟨k+1,f⟩,by simp only;omega,AC [(3,.nm 3),(6,.nm 6),(8,.nm 8),(42,.nm 42)] rfl rfl ?_ ?_⟩
  .first|exact eN|refine eM ?_
  first|exact eN|refine eM ?_
 .simp only[AO];omega
 have f:k=List.length l:=Yg hk (Tn.1 b);have s:Ec c d e t l=N++[(t,[])]:=by
  unfold Ec;rw[<-m,f,Tl]
 refine E6 [42] ?_;repeat'(first|exact trivial|apply eS rfl|apply AB|refine rP a ?_ ?_|fail)
 refine CL drawsAny a 6 [([0],5)] [1,2,3,4] (by kernel_rfl) (LH ?_ ?_)
 .omega
 refine Nr a [] ?_ ?_
 .trivial
 refine Sv a ?_ ?_ ?_
 .omega
 .trivial
 repeat'(first|exact trivial|apply eS rfl|apply AB|refine rX a ?_ ?_|refine rC ?_ ?_<;>intro b<;>try(cases b;done))
 exact fI a [.cell 6 25,.tmp 7] (by
  rw[s,show (((N++[(t,[])]:List AD).length:Int)-1)=(N.length:Int)+1-1 by rw[A0];rfl];first|exact eR|refine Wf ?_)
end
section
attribute [local go_sem] JS YM RD K5
def A9U:AZ:={ ins:=[ZD],pre:=λ_=>True,out:=λ(W,_)=>[.p T3 W.2.2.2.1],lend:=true }
attribute [local go_sem] A9U
theorem A9V:Ab Tryz.prog 109 A9U:=by
 refine fK [0,1,2] Tryz.func109 Tryz.ntmps109 AH ?_;rintro w0 O0 ⟨⟨h,f,c,g,i,d,e,j,k⟩,u⟩ a - -;simp only[A9U,AM];repeat'(first|exact trivial|apply eS rfl|apply AB|refine rX a ?_ ?_|refine rC ?_ ?_<;>intro b<;>try(cases b;done))
 exact fI a [.tmp 2]
theorem mG:∀ {l:List (List AD)} {m:Int} {N:List AD},GB l m=true->m<=4096->(N.length:Int)+1<=m->∀k,((((l.take k).foldl (Ds 0 0 0) N).length:Nat):Int)+1<=4096
 | [],m,N,_,h1,a,k=>by
  rw[List.take_nil];exact Ye a h1
 | x :: l,m,N,h,h1,a,0=>Ye a h1
 | x :: l,m,N,h,h1,a,k+1=>by
  unfold GB at h;split at h
  .cases h
  rename_i b;exact mG (l:=l) h (by omega) (by rw[IW];omega) k
theorem fT {l:List (List AD)} {m:Int} (h:GB l m=true) (h1:1<=m) (a:m<=4096) (k:Nat):(fR 0 0 0 (l.take k)).length<=4095:=by
 have:=mG (N:=[]) h a h1 k;unfold fR;omega
theorem A4U {b:Nat} {x:List AD} (h:F2 x) (n:Nat):F2 (Nb b x n):=by
 intro y a;obtain⟨z,c,rfl⟩:=If.1 a;show (Ad b z.2).length<=200;unfold Ad;rw[OF];exact h z (UN c)
theorem A4V (c b e:Int):∀(l:List (List AD)) (N:List AD),(∀x∈l,F2 x)->F2 N->F2 (l.foldl (Ds c b e) N)
 | [],_,_,h=>h
 | x :: l,N,d,h=>by
  refine A4V c b e l _ (λy a=>d y (NO _ a)) ?_;intro y a;unfold Ds at a;rcases IF.1 a with q|q
  .rcases IF.1 q with q|q
   .exact h y q
   rw[Tu.1 q];show 2<=200;omega
  exact A4U (d x (by simp)) _ y q
theorem bW (c a d t:Int) {l:List (List AD)} (e:∀x∈l,F2 x):F2 (Ec c a d t l):=by
 intro y b;unfold Ec at b;rcases IF.1 b with q|q
 .exact A4V c a d l [] e (λz f=>by cases f) y q
 rw[Tu.1 q];show 0<=200;omega
def G2 (h:AG) (t:Int) (l:List (List AD)):List AD×Int :=
 if Ex h=true then if GB l 1=true then BC (Ec (AP h).cons (AP h).first (AP h).rest t l) else ([],7) else ([],5)
theorem A9W (h:AG) (l:List (List AD)) (i:∀x∈l,AN x/\F2 x):A9 Tryz.prog 108 [.p ED h,.p Tc l,.fn 109] [] [] (λres s=>res=.tup [.p Cy (G2 h (AP h).null l).1,.p GK (G2 h (AP h).null l).2]):=by
 refine Kh [0,1,2,3,6,7,8,9,10,18,23] [] [] Tryz.func108 Tryz.ntmps108 (AE MZ (AE mF (AE A9V (AE bV (AE bD AH))))) ?_;intro w0 K O0 ρ0 a o r;simp only[Aq];have m:(h.1,h.2)=h:=rfl;repeat'(first|exact trivial|apply eS rfl|apply AB|refine rP a ?_ ?_|refine rA a ?_ ?_|refine rC ?_ ?_<;>intro g<;>try(cases g;done))
 all_goals try simp only[m]at *
 .have b:Ex h=false:=by
   cases c:Ex h with
   | true=>rw[c]at g;exact absurd rfl g
   | false=>rfl
  have d:G2 h (AP h).null l=([],5):=by unfold G2;rw[b,As (by simp)]
  simp only[b,Ua,YZ,d];exact fM a [.cell 6 25,.tmp 7] (.tup [.p Cy [],.p GK 5]) eT rfl
 .exact λx e=>(i x e).1.1
 .have b:Ex h=true:=by
   have q:((if Ex h=true then (0:Int) else 5) != 0)=false:=by assumption
   cases c:Ex h with
   | false=>rw[c]at q;exact absurd q (by decide)
   | true=>rfl
  have f:GB l 1=false:=by assumption
  have d:G2 h (AP h).null l=([],7):=by unfold G2;rw[BY b,f];rfl
  rw[d];exact fM a [.cell 6 25,.tmp 7] (.tup [.p Cy [],.p GK 7]) eT rfl
 have b:Ex h=true:=by
  have q:((if Ex h=true then (0:Int) else 5) != 0)=false:=by assumption
  cases c:Ex h with
  | false=>rw[c]at q;exact absurd q (by decide)
  | true=>rfl
 have f:GB l 1=true:=by assumption
 simp only[BY b,wdF]at *;have d:G2 h (AP h).null l=BC (Ec (AP h).cons (AP h).first (AP h).rest (AP h).null l):=by unfold G2;rw[BY b,BY f]
 have n:=bW (AP h).cons (AP h).first (AP h).rest (AP h).null (λx e=>(i x e).2);have j:(∀x∈l,AN x)/\∀k:Nat,(fR 0 0 0 (List.take k l)).length<=100000:=⟨λx e=>(i x e).1,λk=>Tp (fT f (by decide) (by decide) k) (by decide)⟩;repeat'(first|exact trivial|apply eS rfl|apply AB|refine rP a ?_ ?_|fail)
 refine CL drawsAny a 11 [([0,1,2,3,4,5,6,7,9],10)] [8] (by kernel_rfl) (LH ?_ ?_)
 .exact j
 refine Nr a [] ?_ ?_
 .trivial
 refine Sv a ?_ ?_ ?_
 .trivial
 .trivial
 repeat'(first|exact trivial|apply eS rfl|apply AB|refine rP a ?_ ?_|refine rA a ?_ ?_)
 .exact n
 rw[d];exact fM a [.cell 6 25,.tmp 7] (.tup [.p Cy (BC (Ec (AP h).cons (AP h).first (AP h).rest (AP h).null l)).1,.p GK (BC (Ec (AP h).cons (AP h).first (AP h).rest (AP h).null l)).2]) eT rfl
def fU:AZ:={ ins:=[ED,Tc],pre:=λ(_,l,_)=>∀x∈(l:List (List AD)),AN x/\F2 x,out:=λ(h,l,_)=>[.p Cy (G2 h (AP h).null l).1,.p GK (G2 h (AP h).null l).2] }
attribute [local go_sem] fU
theorem A4W:Ab Tryz.prog 49 fU:=by
 refine fK [0,1,2,4,5] Tryz.func49 Tryz.ntmps49 AH ?_;rintro w0 O0 ⟨h,l,u⟩ a-b;have b:∀x∈(l:List (List AD)),AN x/\F2 x:=b;have f:(h.1,h.2)=h:=rfl;have hn:=A9W h l b;simp only[fU,AM];generalize g:G2 h (AP h).null l=r at *;obtain⟨d,e⟩:=r;repeat'(first|exact trivial|apply eS rfl|apply AB|refine rP a ?_ ?_|fail)
 refine cP 2 a ?_ ?_
 .trivial
 refine rM a (hn) [] [] ?_ ?_ ?_
 .first|exact eN|refine eM ?_
 .first|exact eN|refine eM ?_
 rintro _ i rfl;refine⟨[],.tup [.p Cy d,.p GK e],[],rfl,rfl,?_,?_,rfl,rfl,?_⟩
 .first|exact eN|refine eM ?_
 .first|exact eN|refine eM ?_
 refine rL a ?_ ?_
 .trivial
 repeat'(first|exact trivial|apply eS rfl|apply AB|refine rX a ?_ ?_|refine rC ?_ ?_<;>intro c<;>try(cases c;done))
 exact fI a [.cell 4 25,.tmp 5]
end
section
attribute [local go_sem] JS YM RD K5
def LA (d a la:Int) (f:List AD):List AD:=[(d,[(a,1),(la,1+((f.length:Int)-1))])]++Nb 1 f f.length
theorem A4X (d b la:Int) {f:List AD} (h:F2 f):F2 (LA d b la f):=by
 intro y a;unfold LA at a;rcases IF.1 a with q|q
 .rw[Tu.1 q];show 2<=200;omega
 exact A4U h _ y q
def JU (h:AG) (l:List (List AD)):List AD×Int :=
 if Ex h=true then if GB l 2=true then BC (LA (AP h).dlist (AP h).head (AP h).last (Ec (AP h).cons (AP h).first (AP h).rest (AP h).list l)) else ([],7) else ([],5)
theorem PU (c a b t:Int) (l:List (List AD)):(Ec c a b t l).length=(fR 0 0 0 l).length+1:=by
 unfold Ec;rw[A0,fS];rfl
theorem A4Y {b m:Nat} {x:List AD} (h:AN x) (g:b+x.length<=m):∀y∈Nb b x x.length,y.2.length<=100000/\∀a∈y.2,0<=a.2/\a.2<(m:Int):=by
 intro y d;rw[Q4]at d;obtain⟨z,f,rfl⟩:=If.1 d;have c:=h.2 z f;refine⟨by show (Ad b z.2).length<=_;unfold Ad;rw[OF];exact c.1,λa ha=>?_⟩;obtain⟨w,e,rfl⟩:=IU.1 ha;have:=c.2 w e;simp only;omega
theorem mH (c b d:Int) {M:Nat}:∀(l:List (List AD)) (N:List AD),(∀x∈l,AN x)->(l.foldl (Ds c b d) N).length+1<=M->(∀y∈N,y.2.length<=100000/\∀a∈y.2,0<=a.2/\a.2<(M:Int))->∀y∈l.foldl (Ds c b d) N,y.2.length<=100000/\∀a∈y.2,0<=a.2/\a.2<(M:Int)
 | [],_,_,_,h=>h
 | x :: l,N,g,f,h=>by
  have i:∀(l:List (List AD)) (N:List AD),N.length<=(l.foldl (Ds c b d) N).length:=by
   intro l;induction l with
   | nil=>exact λ_=>Is _
   | cons y l j=>exact λN=>Tp (by rw[IW];omega) (j _)
  have h1:=i l (Ds c b d N x);rw[IW]at h1;have k:(l.foldl (Ds c b d) (Ds c b d N x)).length+1<=M:=f;refine mH c b d l _ (λy e=>g y (NO _ e)) f ?_;intro y e;unfold Ds at e;rcases IF.1 e with q|q
  .rcases IF.1 q with q|q
   .exact h y q
   rw[Tu.1 q];refine⟨by show 2<=_;omega,λa ha=>?_⟩;have ha:a∈[(b,(N.length:Int)+1),(d,(N.length:Int)+1+(x.length:Int))]:=ha;simp only[By,Ud,ADe]at ha;rcases ha with rfl|rfl
   .simp only;omega
   simp only;omega
  exact A4Y (g x (by simp)) (by omega) y q
theorem mI (c b d t:Int) {l:List (List AD)} (f:∀x∈l,AN x) (hn:(fR 0 0 0 l).length<=99999):AN (Ec c b d t l):=by
 refine⟨by rw[PU];omega,λy e=>?_⟩;rw[PU];unfold Ec at e;rcases IF.1 e with q|q
 .exact mH c b d l [] f (by rw[show (l.foldl (Ds c b d) []).length=(fR c b d l).length from rfl,fS];exact Is _) (λz g=>by cases g) y q
 rw[Tu.1 q];exact⟨IS _,λa ha=>by cases ha⟩
def fV:AZ:={ ins:=[ED,Tc],pre:=λ(_,l,_)=>∀x∈(l:List (List AD)),AN x/\F2 x,out:=λ(h,l,_)=>[.p Cy (JU h l).1,.p GK (JU h l).2] }
attribute [local go_sem] fV
theorem A4Z:Ab Tryz.prog 48 fV:=by
 refine fKP [0,1,2,4,5,6,7,8,9,10,17,22] [42] [] Tryz.func48 Tryz.ntmps48 (AE MZ (AE mF (AE bV (AE bD AH)))) ?_;rintro w0 O0 ⟨h,l,u⟩ a-d;have d:∀x∈(l:List (List AD)),AN x/\F2 x:=d;have o:(h.1,h.2)=h:=rfl;simp only[fV,AM];repeat'(first|exact trivial|apply eS rfl|apply AB|refine rX a ?_ ?_|refine rC ?_ ?_<;>intro j<;>try(cases j;done))
 all_goals try simp only[o]at *
 .have b:Ex h=false:=by
   cases m:Ex h with
   | true=>rw[m]at j;exact absurd rfl j
   | false=>rfl
  have e:JU h l=([],5):=by unfold JU;rw[b,As (by simp)]
  simp only[b,Ua,YZ,e];exact fI a [.cell 4 25,.tmp 5]
 .exact λx c=>(d x c).1.1
 .have b:Ex h=true:=by
   have q:((if Ex h=true then (0:Int) else 5) != 0)=false:=by assumption
   cases m:Ex h with
   | false=>rw[m]at q;exact absurd q (by decide)
   | true=>rfl
  have i:GB l 2=false:=by assumption
  have e:JU h l=([],7):=by unfold JU;rw[BY b,i];rfl
  rw[e];exact fI a [.cell 4 25,.tmp 5]
 .have i:GB l 2=true:=by assumption
  exact⟨λx c=>(d x c).1,λk=>Tp (fT i (by decide) (by decide) k) (by decide)⟩
 have b:Ex h=true:=by
  have q:((if Ex h=true then (0:Int) else 5) != 0)=false:=by assumption
  cases m:Ex h with
  | false=>rw[m]at q;exact absurd q (by decide)
  | true=>rfl
 have i:GB l 2=true:=by assumption
 simp only[BY b,wdF]at *;have s:(fR 0 0 0 l).length<=4095:=by
  have:=fT i (by decide) (by decide) (List.length l)
  rwa [Tl]at this
 have p:=mI (AP h).cons (AP h).first (AP h).rest (AP h).list (λx c=>(d x c).1) (by omega);have t:=PU (AP h).cons (AP h).first (AP h).rest (AP h).list l;have e:JU h l=BC (LA (AP h).dlist (AP h).head (AP h).last (Ec (AP h).cons (AP h).first (AP h).rest (AP h).list l)):=by unfold JU;rw[BY b,BY i]
 have r:=A4X (AP h).dlist (AP h).head (AP h).last (bW (AP h).cons (AP h).first (AP h).rest (AP h).list (λx c=>(d x c).2));rw[e];clear e;generalize Ec (AP h).cons (AP h).first (AP h).rest (AP h).list l=f at *;have n:=Vg [((AP h).dlist,[((AP h).head,1),((AP h).last,1+((f.length:Int)-1))])] f p (by simp);simp only[GO]at n;refine cP 15 a ?_ ?_
 .omega
 refine rM a (n) [(50,.nm 44)] [44] ?_ ?_ ?_
 .first|exact eN|refine eM ?_
 .first|exact eN|refine eM ?_
 rintro _ _ ⟨rfl,rfl⟩;refine⟨[(44,.nm 50)],.sr 44 HL 0 (LA (AP h).dlist (AP h).head (AP h).last f).length,[(44,.arr 93 HL (LA (AP h).dlist (AP h).head (AP h).last f))],rfl,rfl,?_,?_,rfl,rfl,?_⟩
 .unfold LA;first|exact eN|refine eM ?_
 .unfold LA;first|exact eN|refine eM ?_
 generalize LA (AP h).dlist (AP h).head (AP h).last f=g at *;refine rL a ?_ ?_
 .trivial
 refine E6 [44] ?_;repeat'(first|exact trivial|apply eS rfl|apply AB|refine rX a ?_ ?_|refine rC ?_ ?_<;>intro j<;>try(cases j;done))
 .exact r
 exact fI a [.cell 4 25,.tmp 5]
end
def DZ (c d e:Int) (a b:List AD):List AD:=([((c:Int),[(d,1),(e,1+(a.length:Int))])]++Nb 1 a a.length)++Nb (1+a.length) b b.length
theorem KB (c d e:Int) (a b:List AD):(DZ c d e a b).length=1+a.length+b.length:=by
 unfold DZ;rw[A0,A0,HR _ _ (Is _),HR _ _ (Is _)];rfl
theorem A8k (c d e:Int) (a b:List AD):(DZ c d e a b).getD (0:Int).toNat (0,[])=(c,[(d,1),(e,1+(a.length:Int))]):=rfl
theorem A01 (k:Nat) (a:List AD) {i:Nat} (hi:i<a.length):(Nb k a a.length)[i]?=some ((a.getD i (0,[])).1,Ad k (a.getD i (0,[])).2):=by
 rw[Q4,UO,AT hi,AS,AT hi];rfl
theorem A02 (c d e:Int) {a:List AD} (b:List AD) {i:Int} (g:0<=i) (h:i<(a.length:Int)):(DZ c d e a b).getD ((1:Int)+i).toNat (0,[])=((a.getD i.toNat (0,[])).1,Ad 1 (a.getD i.toNat (0,[])).2):=by
 have f:=HR 1 a (Is a.length);rw[AS];unfold DZ;rw[Tz (by rw[A0,f,GO];omega),UC (by rw[GO];omega),GO,show ((1:Int)+i).toNat-1=i.toNat by omega,A01 1 a (by omega)];rfl
theorem A03 (c e f:Int) (a:List AD) {b:List AD} {i:Int} (g:0<=i) (h:i<(b.length:Int)):(DZ c e f a b).getD (((1+a.length:Nat):Int)+i).toNat (0,[])=((b.getD i.toNat (0,[])).1,Ad (1+a.length) (b.getD i.toNat (0,[])).2):=by
 have d:=HR 1 a (Is a.length);rw[AS];unfold DZ;rw[UC (by rw[A0,d,GO];omega),A0,d,GO,show (((1+a.length:Nat):Int)+i).toNat-(1+a.length)=i.toNat by omega,A01 (1+a.length) b (by omega)];rfl
theorem NT {c f g:Int} {a b:List AD} {x:AD} (d:x∈DZ c f g a b):x=(c,[(f,1),(g,1+(a.length:Int))])\/(∃y∈a,x=(y.1,Ad 1 y.2))\/∃y∈b,x=(y.1,Ad (1+a.length) y.2):=by
 unfold DZ at d;rw[Q4,Q4]at d;rcases IF.1 d with d|d
 .rcases IF.1 d with d|d
  .exact .inl (Tu.1 d)
  obtain⟨y,e,rfl⟩:=If.1 d;exact .inr (.inl ⟨y,e,rfl⟩)
 obtain⟨y,e,rfl⟩:=If.1 d;exact .inr (.inr ⟨y,e,rfl⟩)
theorem YN {c h i:Int} {a b:List AD} (j:AN a) (k:AN b) (m:0<a.length) (n:0<b.length) (o:a.length+b.length<=10000):AN (DZ c h i a b):=by
 refine⟨by rw[KB];omega,λx l=>?_⟩;rw[KB];rcases NT l with rfl|⟨y,g,rfl⟩|⟨y,g,rfl⟩
 .refine⟨by show 2<=100000;omega,λc d=>?_⟩;have d:c∈[(h,(1:Int)),(i,1+(a.length:Int))]:=d;simp only[By,Ud,ADe]at d;rcases d with rfl|rfl
  .simp only;omega
  simp only;omega
 .have e:=j.2 y g;refine⟨by show (Ad 1 y.2).length<=_;unfold Ad;rw[OF];exact e.1,λc d=>?_⟩;obtain⟨w,f,rfl⟩:=IU.1 d;have:=e.2 w f;simp only;omega
 have e:=k.2 y g;refine⟨by show (Ad (1+a.length) y.2).length<=_;unfold Ad;rw[OF];exact e.1,λc d=>?_⟩;obtain⟨w,f,rfl⟩:=IU.1 d;have:=e.2 w f;simp only;omega
theorem A1O {h:AG} {c d f:Int} {a b:List AD} (va:VF h a) (l:VF h b) (v:a.length+b.length<=10000):AL (DZ c d f a b) 0=DZ c d f a b:=by
 have p:=va.pos;have q:=l.pos;refine bB (YN va.good l.good p q v) ?_;rw[KB,show 1+a.length+b.length=(a.length+b.length)+1 by omega,Bt,A8k];have w:Iso a (DZ c d f a b) (λi=>(1:Int)+i) (λi=>0<=i/\i<(a.length:Int)):=by
  refine⟨λi hi=>?_,λi hi x g=>BA va.good g,λi j hi u e=>by have e:(1:Int)+i=(1:Int)+j:=e;omega⟩;rw[AU,A02 c d f b hi.1 hi.2];show Ad 1 (AU a i)=_;unfold Ad;refine Tq λc _=>?_;show (c.1,c.2+((1:Nat):Int))=(c.1,(1:Int)+c.2);rw[AE7];rfl
 have y:Iso b (DZ c d f a b) (λi=>((1+a.length:Nat):Int)+i) (λi=>0<=i/\i<(b.length:Int)):=by
  refine⟨λi hi=>?_,λi hi x g=>BA l.good g,λi j hi u e=>by have e:((1+a.length:Nat):Int)+i=((1+a.length:Nat):Int)+j:=e;omega⟩;rw[AU,A03 c d f a hi.1 hi.2];show Ad (1+a.length) (AU b i)=_;unfold Ad;refine Tq λc _=>?_;show (c.1,c.2+((1+a.length:Nat):Int))=(c.1,((1+a.length:Nat):Int)+c.2);rw[AE7]
 have m:=(VZ w (pre:=[0]) (λi hi k=>by have:=Tu.1 k;omega) (a.length+b.length) [] 0 (λx g=>by cases g) ⟨by omega,by omega⟩).1;have s:=MP va.good (n:=0) (by omega) (by omega) b.length;rw[AAs,UF,ADc,s,SH va]at m;have r:([0]++((List.range a.length).map λ(i:Nat)=>(i:Int)).map (λi=>(1:Int)+i))=NZ (1+a.length):=by
  unfold NZ;rw[AE9,UH,Uf,Uf];refine Uu _ (Tq λi _=>?_);show (1:Int)+(i:Int)=((1+i:Nat):Int);omega
 rw[r]at m;have o:=(VZ y (pre:=NZ (1+a.length)) (λi hi k=>by have:=Qu k;omega) (a.length+b.length) [] 0 (λx g=>by cases g) ⟨by omega,by omega⟩).1;have t:=MP l.good (n:=0) (by omega) (by omega) a.length;rw[AAs,UF,ADc,show a.length+b.length=b.length+a.length by omega,t,SH l]at o;simp only[Tk,AEa,Yt];have s1:AY (DZ c d f a b) (a.length+b.length) [0] (d,1)=NZ (1+a.length):=by
  unfold AY;rw[As (by simp)];exact m
 rw[s1];have s2:AY (DZ c d f a b) (a.length+b.length) (NZ (1+a.length)) (f,1+(a.length:Int))=Co (DZ c d f a b) (a.length+b.length) (NZ (1+a.length)) ((1+a.length:Nat):Int):=by
  unfold AY;have e:(1:Int)+(a.length:Int)=((1+a.length:Nat):Int):=by omega
  rw[e,As (λk=>by have:=Qu k;simp only at this;omega)]
 rw[s2,show a.length+b.length=b.length+a.length by omega,o,show b.length+a.length+1=(1+a.length)+b.length by omega];unfold NZ;rw[AE9 (n:=1+a.length),UH,Uf,Uf];refine Uu _ (Tq λi _=>?_);show ((1+a.length:Nat):Int)+(i:Int)=((1+a.length+i:Nat):Int);omega
theorem mJ {h:AG} {c d f:Int} (k:0<=c/\c<(h.1.length:Int)) (t:d<f) (v:0<=d/\d<(h.2.length:Int)) (z:0<=f/\f<(h.2.length:Int)) {a b:List AD} (va:VF h a) (m:VF h b) (q:a.length+b.length<=10000):VF h (DZ c d f a b):=by
 have r:=va.pos;have s:=m.pos;have A:=KB c d f a b;refine⟨YN va.good m.good r s q,by omega,λx l=>?_,λx l=>?_,λx l c k=>?_,A1O va m q,λi B C=>?_⟩
 .rcases NT l with rfl|⟨y,g,rfl⟩|⟨y,g,rfl⟩
  .exact k
  .exact va.ty y g
  exact m.ty y g
 .rcases NT l with rfl|⟨y,g,rfl⟩|⟨y,g,rfl⟩
  .exact UM.2 ⟨λc k=>by rw[Tu.1 k];exact t,AA0 _ _⟩
  .exact PO (va.str y g)
  exact PO (m.str y g)
 .rcases NT l with rfl|⟨y,g,rfl⟩|⟨y,g,rfl⟩
  .have k:c∈[(d,(1:Int)),(f,1+(a.length:Int))]:=k;simp only[By,Ud,ADe]at k;rcases k with rfl|rfl
   .exact v
   exact z
  .obtain⟨w,n,rfl⟩:=IU.1 k;exact va.ft y g w n
  obtain⟨w,n,rfl⟩:=IU.1 k;exact m.ft y g w n
 have p:AU (DZ c d f a b) 0=[(d,1),(f,1+(a.length:Int))]:=rfl;by_cases ha:i<=(a.length:Int)
 .by_cases h1:i=1
  .exact⟨0,by omega,by omega,(d,1),by rw[p];simp,by rw[h1]⟩
  obtain⟨j,o,u,x,l,e⟩:=va.ro (i-1) (by omega) (by omega);refine⟨1+j,by omega,by omega,(x.1,x.2+((1:Nat):Int)),?_,by simp only;omega⟩;rw[AU,A02 c d f b o (by omega)];exact If.2 ⟨x,l,rfl⟩
 by_cases h1:i=1+(a.length:Int)
 .exact⟨0,by omega,by omega,(f,1+(a.length:Int)),by rw[p];simp,by rw[h1]⟩
 obtain⟨j,o,u,x,l,e⟩:=m.ro (i-1-a.length) (by omega) (by omega);refine⟨((1+a.length:Nat):Int)+j,by omega,by omega,(x.1,x.2+((1+a.length:Nat):Int)),?_,by simp only;omega⟩;rw[AU,A03 c d f a o (by omega)];exact If.2 ⟨x,l,rfl⟩
section
attribute [local go_sem] CX
def G7 (f:List AD) (o:List Int):List (Nat×Obj):=[(1,.box 61 false [.sr 5 T3 0 o.length]),(2,.box 177 false [.mp 6]),(3,.box 23 false [.p F6 f]),(4,.box 178 false [.clo 143 [1,2,3,4]]),(5,.arr 3 T3 o),(6,.mapo T3 T3 (mR o))]
theorem A1P (f:List AD) (hf:AN f):∀(k:Nat) (o:List Int) (n:Int),Iy f o->0<=n->n<f.length->n∉o->f.length-o.length<=k ->
  A9 Tryz.prog 143 [.p T3 n,.bp 1 [] 0,.bp 2 [] 0,.bp 3 [] 0,.bp 4 [] 0] (G7 f o) [1,2,3,4,6] (λres J=>res=.raw (.tuple #[])/\J=G7 f (Co f k o n)):=by
 intro k;induction k with
 | zero =>
  intro o n h0 h1 z A M;have:=(h0.snoc h1 z A).len;simp only[A0,GO]at this;omega
 | succ k I =>
  intro o n B m q v hk;have t:=B.snoc m q v;have E:=t.len;simp only[A0,GO]at E;have O:=hf.1;refine Kh [0,1,2,3,4,7,9,22,23,24,25,36] [16] [] Tryz.func143 Tryz.ntmps143 AH ?_;intro w0 K O0 ρ0 d P Q;simp only[G7,Aq];repeat'(first|exact trivial|apply eS rfl|apply AB|refine rX d ?_ ?_|refine rC ?_ ?_<;>intro b<;>try(cases b;done))
  .simp only[AO];omega
  .exact⟨m,q⟩
  rw[kD v];have s:=λa (ha:a∈(f.getD n.toNat (0,[])).2)=>BA hf ha;have C:Co f (k+1) o n=(f.getD n.toNat (0,[])).2.foldl (AY f k) (o++[n]):=Bt f k o n;have N:=(hf.2 _ (AF f (0,[]) (MY ⟨m,q⟩))).1;generalize (f.getD n.toNat (0,[])).2=L at *;have H:∀i,Iy f ((L.take i).foldl (AY f k) (o++[n]))/\o++[n] <+: (L.take i).foldl (AY f k) (o++[n]):=λi=>Dw (DK hf k) _ _ (λa ha=>s a (UN ha)) t;generalize F:o++[n]=l at *;have G:l.length=o.length+1:=by rw[<-F];simp
  rw[<-G];refine AJ (ι:={i:Nat//i<=L.length}) (λi=>⟨[(0,.p T3 n),(1,.bp 1 [] 0),(2,.bp 2 [] 0),(3,.bp 3 [] 0),(4,.bp 4 [] 0),(22,.p DC L),(23,.p (.int .i64) (L.length:Int)),(24,.p (.int .i64) (i.1:Int))],G7 f ((L.take i.1).foldl (AY f k) l)⟩) (λi=>L.length-i.1) ⟨0,by omega⟩ (AC [(1,.nm 1),(2,.nm 2),(3,.nm 3),(4,.nm 4),(5,.nm 5),(6,.nm 6)] rfl rfl ?_ ?_) (λi=>?_)
  .simp only[G7,Uo,AEa];first|exact eN|refine eM ?_
  .first|exact eN|refine eM ?_
  obtain⟨i,hi⟩:=i;obtain⟨u,x⟩:=H i;have r:=λ(h:i<L.length)=>Ju (AY f k) L (0,0) l h;have D:=x.length_le;generalize w:(L.take i).foldl (AY f k) l=c at u x r D;simp only[G7];repeat'(first|exact trivial|apply eS rfl|apply AB|refine rX d ?_ ?_|refine rC ?_ ?_<;>intro b<;>try(cases b;done))
  .exact b
  .have g:i<L.length:=Do.1 (by assumption);have y:=s _ (AF L (0,0) g);have j:(L.getD i (0,0)).2∉c:=by rw[Kr]at b;simpa using b
   have e:AY f k c (L.getD i (0,0))=Co f k c (L.getD i (0,0)).2:=As j;refine cP 3 d ?_ ?_
   .trivial
   refine rM d (I c (L.getD i (0,0)).2 u y.1 y.2 j (by omega)) [(1,.nm 1),(2,.nm 2),(3,.nm 3),(4,.nm 4),(5,.nm 5),(6,.nm 6)] [5] ?_ ?_ ?_
   .first|exact eN|refine eM ?_
   .simp only[G7];first|exact eN|refine eM ?_
   rintro _ _ ⟨rfl,rfl⟩;refine⟨[(1,.nm 1),(2,.nm 2),(3,.nm 3),(4,.nm 4),(5,.nm 5),(6,.nm 6)],.raw (.tuple #[]),G7 f (Co f k c (L.getD i (0,0)).2),rfl,rfl,?_,?_,rfl,rfl,Bh ?_⟩
   .simp only[G7];first|exact eN|refine eM ?_
   .first|exact eN|refine eM ?_
   simp only[G7];repeat'(first|exact trivial|apply eS rfl|apply AB|refine rX d ?_ ?_|refine rC ?_ ?_<;>intro b<;>try(cases b;done))
   .omega
   refine⟨⟨i+1,by omega⟩,by simp only;omega,AC [(1,.nm 1),(2,.nm 2),(3,.nm 3),(4,.nm 4),(5,.nm 5),(6,.nm 6)] rfl rfl ?_ ?_⟩
   .simp only[r g,e];first|exact eN|refine eM ?_
   first|exact eN|refine eM ?_
  .omega
  .have g:i<L.length:=Do.1 (by assumption);have j:(L.getD i (0,0)).2∈c:=by rw[Kr]at b;simpa using b
   have e:AY f k c (L.getD i (0,0))=c:=BY j;refine⟨⟨i+1,by omega⟩,by simp only;omega,AC [(1,.nm 1),(2,.nm 2),(3,.nm 3),(4,.nm 4),(5,.nm 5),(6,.nm 6)] rfl rfl ?_ ?_⟩
   .simp only[r g,e];first|exact eN|refine eM ?_
   first|exact eN|refine eM ?_
  have hk:L.take i=L:=At (Tn.1 b);rw[hk]at w;rw[C,w];exact fM d [] (.raw (.tuple #[])) rfl ⟨rfl,rfl⟩
def qT:AZ:={ ins:=[F6,T3],pre:=λ(f,n,_)=>AN f/\0<=n/\n<(List.length f:Int),out:=λ(f,n,_)=>[.p Cy (AL f n)] }
theorem A50:Ab Tryz.prog 100 qT:=by
 refine fKP [0,1,2,4,5,6,7,8,10,11,13,19,20,21,22,35,36,37,38] [50] [] Tryz.func100 Tryz.ntmps100 AH ?_;rintro w0 O0 ⟨f,root,u⟩ b-⟨hf,n,q⟩;have hf:AN f:=hf;simp only[qT,AM];have G:=hf.1;have k:Iy f []:=⟨by simp,λx E=>by cases E⟩;obtain⟨l,J⟩:=DK hf f.length [] root k n q (by simp);have w:AL f root=(Co f f.length [] root).map (Cp f (Co f f.length [] root)):=rfl;rw[w];repeat'(first|exact trivial|apply eS rfl|apply AB|refine rX b ?_ ?_|refine rC ?_ ?_<;>intro a<;>try(cases a;done))
 refine cP 2 b ?_ ?_
 .trivial
 refine rM b (A1P f hf (List.length f) [] root k n q (by simp) (by simp)) [(1,.nm 6),(2,.nm 5),(3,.nm 2),(4,.nm 7),(5,.nil),(6,.nm 14)] [] ?_ ?_ ?_
 .first|exact eN|refine eM ?_
 .simp only[G7];first|exact eN|refine eM ?_
  try rfl
 rintro _ _ ⟨rfl,rfl⟩;refine⟨[(6,.nm 1),(5,.nm 2),(2,.nm 3),(7,.nm 4),(101,.nm 5),(14,.nm 6)],.raw (.tuple #[]),[(6,.box 61 false [.sr 101 T3 0 (Co f (List.length f) [] root).length]),(5,.box 177 false [.mp 14]),(2,.box 23 false [.p F6 f]),(7,.box 178 false [.clo 143 [6,5,2,7]]),(101,.arr 3 T3 (Co f (List.length f) [] root)),(14,.mapo T3 T3 (mR (Co f (List.length f) [] root)))],rfl,rfl,?_,?_,rfl,rfl,Bh ?_⟩
 .simp only[G7];first|exact eN|refine eM ?_
 .first|exact eN|refine eM ?_
 generalize Co f (List.length f) [] root=o at *;have I:=l.len;repeat'(first|exact trivial|apply eS rfl|apply AB|refine rX b ?_ ?_|refine rC ?_ ?_<;>intro a<;>try(cases a;done))
 refine AJ (ι:={i:Nat//i<=o.length}) (λi=>⟨[(2,.bp 2 [] 0),(4,.bp 4 [] 0),(5,.bp 5 [] 0),(8,.bp 8 [] 0),(19,.sr 101 T3 0 o.length),(20,.p (.int .i64) (o.length:Int)),(21,.p (.int .i64) (i.1:Int))],[(8,.box 25 true [.sr 58 HL 0 ((o.take i.1).map (Cp f o)).length]),(58,.arr 93 HL ((o.take i.1).map (Cp f o))),(5,.box 177 false [.mp 14]),(2,.box 23 false [.p F6 f]),(101,.arr 3 T3 o),(14,.mapo T3 T3 (mR o)),(4,.box 25 true [.raw (.slice none 0 0)])]⟩) (λi=>o.length-i.1) ⟨0,by omega⟩ (AC [(8,.nm 8),(58,.nil),(5,.nm 5),(2,.nm 2),(101,.nm 101),(14,.nm 14),(4,.nm 4)] rfl rfl ?_ ?_) (λi=>?_)
 .first|exact eN|refine eM ?_
  try exact⟨rfl,rfl⟩
 .first|exact eN|refine eM ?_
 obtain⟨i,hi⟩:=i;have C:((o.take i).map (Cp f o)).length=i:=by rw[OF,OR];omega
 have D:=λh:i<o.length=>CF (Cp f o) o 0 h;have e:=λh:i<o.length=>l.rng _ (AF o 0 h);simp only;generalize m:(o.take i).map (Cp f o)=os at *;repeat'(first|exact trivial|apply eS rfl|apply AB|refine rX b ?_ ?_|refine rC ?_ ?_<;>intro a<;>try(cases a;done))
 .exact a
 .exact e (Do.1 a)
 .exact e (Do.1 a)
 .have d:i<o.length:=Do.1 a;have B:=e d;have g:=D d;have r:=(hf.2 _ (AF f (0,[]) (MY B))).1;have A:Cp f o (o.getD i 0)=((List.getD f (Int.toNat (o.getD i 0)) (0,[])).1,(List.getD f (Int.toNat (o.getD i 0)) (0,[])).2.map (HO o)):=rfl;rw[A]at g;generalize List.getD f (Int.toNat (o.getD i 0)) (0,[])=x at *;obtain⟨F,xs⟩:=x;simp only at r g ⊢;refine AJ (ι:={j:Nat//j<=xs.length}) (λj=>⟨[(2,.bp 2 [] 0),(4,.bp 4 [] 0),(5,.bp 5 [] 0),(8,.bp 8 [] 0),(11,.bp 11 [] 0),(19,.sr 101 T3 0 o.length),(20,.p (.int .i64) (o.length:Int)),(21,.p (.int .i64) (i:Int)),(35,.p DC xs),(36,.p (.int .i64) (xs.length:Int)),(37,.p (.int .i64) (j.1:Int))],[(8,.box 25 true [.sr 58 HL 0 os.length]),(58,.arr 93 HL os),(5,.box 177 false [.mp 14]),(2,.box 23 false [.p F6 f]),(101,.arr 3 T3 o),(14,.mapo T3 T3 (mR o)),(4,.box 25 true [.raw (.slice none 0 0)]),(11,.box 93 true [.p T3 F,.sr 51 AW 0 ((xs.take j.1).map (HO o)).length]),(51,.arr 106 AW ((xs.take j.1).map (HO o)))]⟩) (λj=>xs.length-j.1) ⟨0,IS _⟩ (AC [(8,.nm 8),(58,.nm 58),(5,.nm 5),(2,.nm 2),(101,.nm 101),(14,.nm 14),(4,.nm 4),(11,.nm 11),(51,.nil)] rfl rfl ?_ ?_) (λj=>?_)
  .first|exact eN|refine eM ?_
   try exact⟨rfl,rfl⟩
  .first|exact eN|refine eM ?_
  obtain⟨j,H⟩:=j;have s:((xs.take j).map (HO o)).length=j:=by rw[OF,OR];omega
  have t:=λh:j<xs.length=>CF (HO o) xs (0,0) h;have z:=y6 o;simp only;repeat'(first|exact trivial|apply eS rfl|apply AB|refine rX b ?_ ?_|refine rC ?_ ?_<;>intro a<;>try(cases a;done))
  .exact a
  .rw[s];simp only[AO];omega
  .omega
  .have c:j<xs.length:=Do.1 a;have v:=t c;refine⟨⟨j+1,c⟩,by simp only;omega,AC [(8,.nm 8),(58,.nm 58),(5,.nm 5),(2,.nm 2),(101,.nm 101),(14,.nm 14),(4,.nm 4),(11,.nm 11),(51,.nm 51)] rfl rfl ?_ ?_⟩
   .simp only[v,HO];simp only[<-z];first|exact eN|refine eM ?_
   first|exact eN|refine eM ?_
  .rw[C];simp only[AO];omega
  .omega
  have c:xs.take j=xs:=At (Tn.1 a);rw[c];refine⟨⟨i+1,d⟩,by simp only;omega,AC [(8,.nm 8),(58,.nm 58),(5,.nm 5),(2,.nm 2),(101,.nm 101),(14,.nm 14),(4,.nm 4)] rfl rfl ?_ ?_⟩
  .simp only[g];first|exact eN|refine eM ?_
  first|exact eN|refine eM ?_
 have y:i=o.length:=by
  have:=Tn.1 a;omega
 subst y;rw[Tl]at m;rw[m];exact fI b [.cell 4 25]
end
end Go.Proofs.YtapkhdkbkodbjaaGreat.Fw
