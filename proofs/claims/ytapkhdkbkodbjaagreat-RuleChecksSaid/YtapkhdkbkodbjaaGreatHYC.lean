/- Contracts of the program's and the reference's functions, and the plain laws of what they compute: T1 G4 G5 G6 T2 T3 T5 P1 P9 T13 T14 T15 T6 T7 T8 T9 T10 T11 T12 T16 R08a P3 P4 P5 P2 P7 W1 W2 W3 W4 D2 D3 W5 U1 U2 U3 U4 U5 U6 U7. -/
import Derived.Test.YtapkhdkbkodbjaaGreatHYB
import Derived.Test.YtapkhdkbkodbjaaGreatHZI
import Derived.Test.YtapkhdkbkodbjaaGreatHZJ
set_option linter.unusedVariables false
set_option linter.unusedSimpArgs false
namespace Go.Proofs.YtapkhdkbkodbjaaGreat.Fw
open Go
attribute [local irreducible] Ev
attribute [local go_sem] YY AM List.toList_toArray Bq evG evK VA Ef Jj Fs E7 II Pi L2 DA Cp Kj B3 Cq frz d7 GV DE A6 Fa Bd AV.frz AV.frzs AV.drp AV.drps AV.names AV.namess aq GW J4 Ja RP H7 BX Be Iz EZ Hf Ea Hh Hg Hi Tr Np GX I0 Fc Dx Ts Pd qUn I8 IA Kd FJ Df IB Jc EE RQ DJ EF Eq Pe IC Lz FP Ly Nq Pf LS ID Jd EH Dg Gt Di HN DK Er DL EI Y1 B3 Cg PX Pa Lx F6 H9 H8 Jb Nt Pg L1 Ki Kg Jg Ph Kh Jh X6 Nv Nu AV.trn AV.trns Eo C0 Obj.trn JJ bF Dh EK Dy EJ CU Es Ao lk Gn GP HK bin d6 Uz d9 Pc uN uP pfs AV.cells CD Ix OQ Jf Ns CT Lv Ty.cell1 He Ep De F5 Kb E5 J0 LR PZ Em Gr Lu RN Tp Ln Jz X3 aC Pb Lw Co Iy RV.flat Ty.flat Ty.size St.add upd del Bj Value.oneCell' KZ Ty.dflt Hd NE Gx NK List.take_succ_cons List.take_zero List.length_cons Yf Yg NJ IQ KD Gb Hz yF E8 Kr Ks Kt Ku Od Oe Kv Hn Rc Option.map_some Option.map_none Option.bind_some Option.getD_some Option.getD_none Option.isNone_none Option.isNone_some Bool.and_true Bool.true_and Bool.and_false Bool.false_and Bool.not_true Bool.not_false if_true if_false List.length_cons List.length_nil and_true true_and and_self List.all_cons List.all_nil List.append_nil List.nil_append List.cons_append List.getElem?_cons_zero List.getElem?_cons_succ List.getElem?_nil List.map_cons List.map_nil List.set_cons_zero List.set_cons_succ List.isEmpty_nil List.isEmpty_cons decide_true decide_false beq_self_eq_true bne_self_eq_false Nat.zero_add Nat.add_zero Nat.sub_zero Int.toNat_natCast Int.toNat_zero Int.toNat_one List.take_length List.length_append List.length_singleton true_or or_true or_self false_or or_false Ty.agg.injEq Ty.slice.injEq Ty.prod.injEq Ty.int.injEq Option.some.injEq beq_iff_eq La evMG evMQ opM HR LZ B2 JD Gy Nz JC HQ Ho JE KB MD MF ME Rd KA NG NH Hy Aa Aj Op.operands Call.operands List.filterMap_cons List.filterMap_nil List.append_eq Bool.cond_false_right Bool.cond_true_left cond_true cond_false implies_true decide_eq_true_eq beq_true beq_false Bool.or_true Bool.or_false Bool.true_or Bool.false_or Option.isSome_some Array.empty_append List.append_toArray Fb Kk Et HZ X5 Nr FQ Fl Fk IE HL Je Ke U0 d8 Hv inB Ji FY F7 IG Am Yh List.drop_zero DU Ha YA CL Jr CJ AV.fgt AV.fgts Obj.fgt Av Ah Aa Cs IR BK GB List.any_cons List.any_nil pX bB YB bC Lo QC qs List.flatMap_cons List.flatMap_nil List.cons_append tn YC JK List.take_succ_cons List.drop_succ_cons YD Gd BT fV KF B4 CM Ae Ey Jp Bk Ex Dj HO Hm GA HP
attribute [local go_sem] ty1 ty2 ty3 ty4 ty5 ty9 A22 A23 A24 A25 A26 A27 A28 A29 A2a A2b A2c A2d A2e A2f A2g A2h A2i A2j A2k A2l A2m A2n A2o A2p A2q A2r A2s A2t A2u A2v A2w A2x A2y A2z A2A A2B A2C A2D A2E A2F A2G A2H A2I A2J A2K A2L A2M A2N A2O A2P A2Q A2R A2S A2T A2U A2V A2W A2X A2Y A2Z A30 A31 A32 A33 A34 A35 A36 A37 A38 A39 A3a f5 f6 f7 f8 f9 gB gC gD gE gF gG gH gI gJ gK gL gM gN gP gQ gR gS gT gU gV gW gX gY gZ g9 hC hH hZ iA iB iC iD iE iG iH iI iJ iK iL iM iO iP iQ iR iT iU iV iW iX iY iZ i3 i4 i5 i6 i7 i8 i9 jA jB jC jD jE jF jG jH jI jJ jK jL jM jN jO jP jQ jR jS jT jU jV jW jX jY jZ j5 j6 j7 j8 j9 kA kB kC kD kE kF kG kH kI kJ kK kL kM kN kO kP kQ kR kS kT kU kV kW kX kY kZ k5 k6 k7 k8 k9 lA lB lC lD lE lF lG lH lI lJ lK lL lM lN lO lQ lS lU lV lW lX lY lZ l3 l4 l7 l8 l9 mA mB mC mD mE mF mG mH mI mJ mK mL mM
set_option maxRecDepth 100000
set_option maxHeartbeats 4000000
def NdA (l:List (Int×Int)):Prop:=l.Pairwise λa b=>a.1≠b.1
def LtA (l:List (Int×Int)):Prop:=l.Pairwise λa b=>a.1<b.1
theorem ZU (x:Int×Int) (s:List (Int×Int)):∀n,(∀j,Il x s n<=j->j<n->x.1<(s.getD j (0,0)).1)/\(Il x s n=0\/¬x.1<(s.getD (Il x s n-1) (0,0)).1)
 | 0=>⟨λj h1 a=>by omega,.inl rfl⟩
 | n+1=>by
  obtain⟨h1,a⟩:=ZU x s n;unfold Il;split
  ·rename_i h;refine⟨λj b c=>?_,a⟩;by_cases e:j=n
   ·rw[e];exact h
   ·exact h1 j b (by omega)
  ·rename_i h;exact⟨λj b c=>by omega,.inr (by simpa using h)⟩
theorem A6Q {s:List (Int×Int)} (hs:LtA s) {x:Int×Int} (l:∀a∈s,a.1≠x.1):LtA (O9 s x):=by
 obtain⟨h1,c⟩:=ZU x s s.length;have m:=Uf x s s.length;unfold O9;generalize Il x s s.length=p at *;have hp:=hs;unfold LtA at hp;rw[<-ADL p s,ADq]at hp;have g:∀i (h:i<s.length),s.getD i (0,0)=s[i]:=λi h=>by rw[AS,As h];rfl
 have k:∀a∈s.take p,a.1<x.1:=by
  intro a ha;rcases c with c|c
  ·subst c;simp at ha
  ·obtain⟨i,hi,rfl⟩:=ACm.1 ha;rw[OR]at hi;rw[List.getElem_take];by_cases o:p=0
   ·omega
   have f:p-1<s.length:=by omega
   rw[g (p-1) f]at c;have n:=l s[p-1] (nO f);by_cases e:i=p-1
   ·subst e;omega
   ·have:=(Si.1 hs) i (p-1) (by omega) f (by omega);omega
 have j:∀a∈s.drop p,x.1<a.1:=by
  intro a ha;obtain⟨i,hi,rfl⟩:=ACm.1 ha;rw[UI]at hi;rw[List.getElem_drop,<-g (p+i) (by omega)];exact h1 (p+i) (by omega) (by omega)
 unfold LtA;rw[Sm,ADq];refine⟨hp.1,?_,λa ha b d=>?_⟩
 ·rw[List.singleton_append,To];exact⟨j,hp.2.1⟩
 ·rcases Do.1 (by simpa using d:b∈x :: s.drop p) with rfl|d
  ·exact k a ha
  ·exact hp.2.2 a ha b d
theorem PJ {l:List (Int×Int)} (h:NdA l):LtA (Af l):=by
 induction l using EX with
 | h0=>exact List.Pairwise.nil
 | h1 l a d =>
  unfold NdA at h;rw[ADq]at h;rw[Hr];exact A6Q (d h.1) λb c=>h.2.2 b ((FC l).mem_iff.1 c) a (by simp)
theorem z9 {l r:List (Int×Int)} (hp:r.Perm l) (h1:LtA r) (c:LtA l):r=l :=
 List.Perm.eq_of_pairwise (le:=λa b:Int×Int=>a.1<b.1) (λa b _ _ d e=>by omega) h1 c hp
theorem wP {l:List (Int×Int)} (h:LtA l):n6 l:=by
 intro i hi;have a:∀i (h:i<l.length),l.getD i (0,0)=l[i]:=λi h=>by rw[AS,As h];rfl
 rw[a i (by omega),a (i+1) hi];exact(Si.1 h) i (i+1) (by omega) hi (by omega)
theorem A4e {l:List (Int×Int)} (h:n6 l):LtA l:=by
 refine Si.2 λi j hi f k=>?_;have c:∀i (h:i<l.length),l.getD i (0,0)=l[i]:=λi h=>by rw[AS,As h];rfl
 have key:∀d i,i+d+1<l.length->(l.getD i (0,0)).1<(l.getD (i+d+1) (0,0)).1:=by
  intro d;induction d with
  | zero=>exact λi hi=>h i hi
  | succ d g =>
   intro i hi;have a:=g i (by omega);have b:=h (i+d+1) (by omega);have e:i+(d+1)+1=i+d+1+1:=by omega
   rw[e];omega
 have:=key (j-i-1) i (by omega);rw[show i+(j-i-1)+1=j by omega,c i hi,c j f]at this;exact this
theorem A8L {l:List (Int×Int)} (h:LtA l):NdA l:=h.imp λg=>by omega
theorem A8M {l:List (Int×Int)} (h:NdA l):pY CF (0,0) l:=by
 rw[wL CN];refine h.imp λ{a b} g e=>g ?_;unfold CF F2 at e;split at e
 ·omega
 ·split at e<;>omega
theorem s5 {l r:List (Int×Int)} (h:NdA l) (hp:r.Perm l) (hs:R8 CF (0,0) 0 l.length r):r=Af l:=by
 refine z9 (hp.trans (FC l).symm) (Si.2 λi j hi b c=>?_) (PJ h);have a:∀i (h:i<r.length),r.getD i (0,0)=r[i]:=λi h=>by rw[AS,As h];rfl
 have:=hs i j (IN _) c (by rw[<-hp.length_eq];exact b);rw[a i hi,a j b]at this;unfold CF F2 at this;split at this
 ·assumption
 ·split at this<;>omega
theorem Mj {l:List (Int×Int)} (h:NdA l):Af (Af l)=Af l:=JU (wP (PJ h))
def NdF (f:List AD):Prop:=∀x∈f,NdA x.2/\x.2.length<=200
def Dr (f:List AD):List AD:=f.map λx=>(x.1,Af x.2)
theorem GF (f:List AD):(Dr f).length=f.length:=SX _
theorem Qm (f:List AD) (n:Nat):(Dr f).getD n (0,[])=((f.getD n (0,[])).1,Af (f.getD n (0,[])).2):=by
 unfold Dr;simp only[AS,iS];cases f[n]?<;>rfl
theorem R9 {f:List AD} (h:AX f):AX (Dr f):=by
 refine⟨by rw[GF];exact h.1,λx d=>?_⟩;obtain⟨y,e,rfl⟩:=IF.1 d;obtain⟨b,c⟩:=h.2 y e;refine⟨by simp only[Cl];exact b,λa ha=>?_⟩;rw[GF];exact c a ((FC _).mem_iff.1 ha)
theorem A4f {f:List AD} (h:NdF f):Lr (Dr f):=by
 intro x c;obtain⟨y,d,rfl⟩:=IF.1 c;obtain⟨a,b⟩:=h y d;exact⟨wP (PJ a),by simp only[Cl];exact b⟩
theorem A00 {f:List AD} (h:Lr f):Dr f=f:=by
 unfold Dr
 conv=>rhs;rw[<-AF1 f]
 refine Sg λx a=>?_;rw[JU (h x a).1];rfl
theorem A8N {f:List AD} (h:Lr f):NdF f:=λx a=>⟨A8L (A4e (h x a).1),(h x a).2⟩
theorem wQ {f:List AD} (hf:NdF f) (n:Int):NdA (f.getD n.toNat (0,[])).2/\(f.getD n.toNat (0,[])).2.length<=200:=by
 by_cases h:n.toNat<f.length
 ·have a:f.getD n.toNat (0,[])∈f:=by
   rw[AS,As h];exact nO h
  exact hf _ a
 ·rw[AS,Sj (by omega)];exact⟨List.Pairwise.nil,by simp⟩
theorem TV {f:List AD} (h:NdF f):∀(k:Nat) (s:List Int×List Int) (n:Int),D6 (Dr f) k s n=D6 f k s n
 | 0,_,_=>rfl
 | k+1,s,n=>by
  rw[Fz,Fz,Qm];simp only;rw[Mj (wQ h n).1];refine AD0 (λg=>List.foldl g _ _) ?_;funext s a;unfold Ei;rw[TV h k s a.2]
theorem A01 {f:List AD} (h:NdF f) (r:Int):JR (Dr f) r=JR f r:=by
 have a:GT (Dr f) r=GT f r:=by
  unfold GT;rw[GF,TV h]
 unfold JR;rw[a];refine Sg λn _=>?_;unfold Mb;rw[Qm];simp only;rw[Mj (wQ h n).1]
theorem oG {f:List AD} (hf:AX f) (hn:NdF f) {root:Int} (h0:0<=root) (h1:root<f.length):JR f root=AO (Dr f) root:=by
 rw[<-A01 hn];exact Mi (R9 hf) (A4f hn) h0 (by rw[GF];exact h1)
theorem Wo {L:Go.Loop} (h1:L.state=.ready) (a:L.pending=none):{ { L with state:=.busy } with state:=.ready,pending:=none }=L:=by
 cases L;simp_all
theorem ZV (l:List (Int×Int)):BI Tryz.prog 191 [.p DN l] [] [] (λres b=>res=.clo 216 [1]/\b=[(1,.box 91 false [.p DN l])]):=by
 refine K0 [0,1,2] [] [] Tryz.func191 Tryz.ntmps191 AG ?_;intro w0 K O0 ρ0 a c d;simp only[Am];repeat'(first|exact trivial|refine eS rfl ?_|refine rX a ?_ ?_)
 exact fM a [.tmp 2] (.clo 216 [1]) eT ⟨rfl,rfl⟩
def CR (l:List (Int×Int)) (L:Go.Loop) (a:Array Value) (i:Nat):List (Nat×Obj):=[(1,.box 91 false [.p DN l]),(101,.loop L),(102,.frame a [(2,.bp 2 [] 0),(6,.clo 216 [1])]),(2,.box 91 false [.sr 7 AU 0 i]),(7,.arr 106 AU (l.take i))]
theorem s6 (l:List (Int×Int)) (g:l.length<=100000) (L:Go.Loop) (b:Array Value) (f:∀i,i<l.length->Yr Tryz.prog 101 [.p AU (l.getD i (0,0))] (CR l L b i) [1,101,102,2] (λres e=>res=.p .bool true/\e=CR l L b (i+1))) :
  BI Tryz.prog 216 [.yl 101,.bp 1 [] 0] (CR l L b 0) [1,101,102,2] (λres e=>res=.raw (.tuple #[])/\e=CR l L b l.length):=by
 refine K0 [0,1,4,5,6,7,8,14] [] [] Tryz.func216 Tryz.ntmps216 AG ?_;intro w0 K O0 ρ0 a h j;simp only[Am,CR];repeat'(first|exact trivial|refine eS rfl ?_|refine rX a ?_ ?_)
 refine AK (ι:={i:Nat//i<=l.length}) (λi=>⟨[(0,.yl 101),(1,.bp 1 [] 0),(5,.p DN l),(6,.p (.int .i64) (l.length:Int)),(7,.p (.int .i64) (i.1:Int))],CR l L b i.1⟩) (λi=>l.length-i.1) ⟨0,by omega⟩ (AC [(1,.nm 1),(101,.nm 101),(102,.nm 102),(2,.nm 2),(7,.nm 7)] rfl rfl ?_ ?_) (λi=>?_)
 ·simp only[CR];exact eN
 ·exact eN
 ·obtain⟨i,hi⟩:=i;simp only[CR];repeat'(first|exact trivial|refine eS rfl ?_|refine rX a ?_ ?_|refine rC ?_ ?_<;>intro c<;>try(cases c;done))
  ·exact eV
  ·have d:i<l.length:=by exact eV
   refine cP 2 a ?_ ?_
   ·trivial
   ·refine rY 101 101 a (f i d) [(1,.nm 1),(101,.nm 101),(102,.nm 102),(2,.nm 2),(7,.nm 7)] [7] ?_ ?_ ?_
    ·exact eN
    ·simp only[CR];exact eN
    ·rintro _ _ ⟨rfl,rfl⟩;refine⟨[(1,.nm 1),(101,.nm 101),(102,.nm 102),(2,.nm 2),(7,.nm 7)],.p .bool true,CR l L b (i+1),rfl,rfl,?_,?_,rfl,rfl,?_⟩
     ·simp only[CR];exact eN
     ·exact eN
     ·simp only[CR];refine IU [0,1,5,6,7,14] a (by simp only[go_sem,Nat.reduceEqDiff,reduceCtorEq,Nat.reduceAdd,Nat.reduceSub,Nat.reduceMul,Nat.reduceLeDiff,Nat.reduceLT,Int.reduceLE,Int.reduceToNat,Int.reduceNeg,↓reduceIte];rfl) ?_ ?_
      ·trivial
      ·repeat'(first|refine eS rfl ?_|refine AB ?_|refine rX a ?_ ?_|refine rC ?_ ?_<;>intro c<;>try(cases c;done))
       ·exact eV
       ·refine⟨⟨i+1,by omega⟩,by simp only;omega,AC [(1,.nm 1),(101,.nm 101),(102,.nm 102),(2,.nm 2),(7,.nm 7)] rfl rfl ?_ ?_⟩
        ·simp only[CR];exact eN
        ·exact eN
  ·have d:i=l.length:=by exact eV
   subst d;refine fM a [] (.raw (.tuple #[])) rfl ⟨rfl,?_⟩;simp only[CR,Sf]
theorem cN (l:List (Int×Int)) (n:l.length<=100000):BI Tryz.prog 228 [.raw (.slice none 0 0),.clo 216 [1]] [(1,.box 91 false [.p DN l])] [] (λres q=>res=.sr 7 AU 0 l.length/\q=[(7,.arr 106 AU l)]):=by
 refine fKR [0,1,2,4,5,6,7] [] [] Tryz.func228 Tryz.ntmps228 AG ?_;intro w0 K O0 ρ0 a t u;simp only[Am];repeat'(first|exact trivial|refine eS rfl ?_|refine rX a ?_ ?_)
 refine fY a rfl rfl (by simp only[go_sem,Nat.reduceEqDiff,reduceCtorEq,Nat.reduceAdd,Nat.reduceSub,Nat.reduceMul,Nat.reduceLeDiff,Nat.reduceLT,Int.reduceLE,Int.reduceToNat,Int.reduceNeg,↓reduceIte];rfl) 101 103 102 rfl rfl rfl rfl ?_;intro L c d f g h j k o;refine⟨_,CR l L c 0,[1,101,102,2],_,[(1,.nm 1),(101,.nm 101),(102,.nm 102),(2,.nm 2),(7,.nil)],[],s6 l n L c ?_,rfl,rfl,?_,?_,rfl,?_⟩
 ·intro i hi;refine fW (fr:=102) rfl rfl d h j k g o rfl (by kernel_rfl) (by simp) rfl rfl (by kernel_rfl) (by kernel_rfl) (tyTab_ok [] [0,1,2,4,5,6,7]) AG ?_;intro y r s z x a v w m;simp only[CR,Gd];repeat'(first|exact trivial|refine AB ?_|refine rX a ?_ ?_)
  refine⟨rfl,?_⟩;repeat'(first|refine eS rfl ?_|refine rX a ?_ ?_)
  ·simp only[AP];omega
  ·have e:List.take i (List.take i l)++[((l.getD i (0,0)).1,(l.getD i (0,0)).2)]=l.take (i+1):=by
    rw[A0 l (0,0) hi,At (Nat.le_of_eq (by rw[OR];omega):(l.take i).length<=i)]
   refine Ev.ent (σ':=⟨[],[(1,.box 91 false [.p DN l]),(101,.loop { L with state:=.busy }),(102,.frame c [(2,.bp 2 [] 0),(6,.clo 216 [1])]),(2,.box 91 false [.sr 7 AU 0 (i+1)]),(7,.arr 106 AU (l.take (i+1)))]⟩) ?_ (AC [(1,.nm 1),(101,.nm 101),(102,.nm 102),(2,.nm 2),(7,.nm 7)] rfl rfl ?_ ?_)
   ·refine Rl a (yn:=101) rfl rfl (by simp) m ⟨rfl,?_⟩;simp only[CR,go_sem,Nat.reduceEqDiff,reduceCtorEq,Nat.reduceAdd,Nat.reduceSub,Nat.reduceMul,Nat.reduceLeDiff,Nat.reduceLT,Int.reduceLE,Int.reduceToNat,Int.reduceNeg,↓reduceIte,Wo d f]
   ·refine eM ?_;exact e
   ·exact eN
 ·simp only[BT];exact eN
 ·simp only[BT,CR];exact eN
 ·rintro _ _ ⟨rfl,rfl⟩;refine⟨[(1,.nm 1),(101,.nm 101),(102,.nm 102),(2,.nm 2),(7,.nm 7)],CR l L c l.length,L,rfl,rfl,?_,rfl,rfl,rfl,by rw[d];rfl,?_⟩
  ·simp only[CR];exact eN
  ·intro b;rw[f];simp only[EvJ,CR,BT,go_sem,Nat.reduceEqDiff,reduceCtorEq,Nat.reduceAdd,Nat.reduceSub,Nat.reduceMul,Nat.reduceLeDiff,Nat.reduceLT,Int.reduceLE,Int.reduceToNat,Int.reduceNeg,↓reduceIte];replace a:=NM (dn:=103) (b:=b) a;repeat'(first|exact trivial|refine eS rfl ?_|refine rX a ?_ ?_)
   refine Ev.ent (σ':=⟨[(4,.sr 7 AU 0 l.length)],[(7,.arr 106 AU l),(103,.dfr)]⟩) ?_ (AC [(7,.nm 7),(103,.nm 103)] rfl rfl ?_ ?_)
   ·exact QG a [.tmp 4] rfl (.inl rfl) rfl rfl (.sr 7 AU 0 l.length) eT ⟨rfl,by simp only[go_sem,Nat.reduceEqDiff,reduceCtorEq,Nat.reduceAdd,Nat.reduceSub,Nat.reduceMul,Nat.reduceLeDiff,Nat.reduceLT,Int.reduceLE,Int.reduceToNat,Int.reduceNeg,↓reduceIte]⟩
   ·exact eN
   ·exact eN
theorem s7 (l:List (Int×Int)) (b:l.length<=100000):BI Tryz.prog 214 [.clo 216 [1]] [(1,.box 91 false [.p DN l])] [] (λres c=>res=.sr 7 AU 0 l.length/\c=[(7,.arr 106 AU l)]):=by
 refine K0 [0,2] [] [] Tryz.func214 Tryz.ntmps214 AG ?_;intro w0 K O0 ρ0 a d e;simp only[Am];repeat'(first|exact trivial|refine eS rfl ?_|refine rX a ?_ ?_)
 refine cP 1 a ?_ ?_
 ·trivial
 ·refine rM a (cN l b) [(1,.nm 1)] [1] ?_ ?_ ?_
  ·exact eN
  ·exact eN
  ·rintro _ _ ⟨rfl,rfl⟩;refine⟨[(7,.nm 7)],.sr 7 AU 0 l.length,[(7,.arr 106 AU l)],rfl,rfl,?_,?_,rfl,rfl,?_⟩
   ·exact eN
   ·exact eN
   ·refine IU [2] a (by simp only[go_sem,Nat.reduceEqDiff,reduceCtorEq,Nat.reduceAdd,Nat.reduceSub,Nat.reduceMul,Nat.reduceLeDiff,Nat.reduceLT,Int.reduceLE,Int.reduceToNat,Int.reduceNeg,↓reduceIte];rfl) ?_ ?_
    ·trivial
    ·repeat' refine eS rfl ?_
     exact fM a [.tmp 2] (.sr 7 AU 0 l.length) eT ⟨rfl,rfl⟩
theorem oH (l:List (Int×Int)) (h:l.length<=200) (hs:NdA l):BI Tryz.prog 215 [.sr 1000000 AU 0 l.length,.fn 192] [(1000000,.arr 106 AU l)] [1000000] (λres f=>res=.raw (.tuple #[])/\f=[(1000000,.arr 106 AU (Af l))]):=by
 have d:=A8M hs;refine K0 [0,1,4] [] [] Tryz.func215 Tryz.ntmps215 AG ?_;intro w0 K O0 ρ0 a i j;simp only[Am];repeat'(first|exact trivial|refine eS rfl ?_|refine rX a ?_ ?_)
 refine cP 4 a ?_ ?_
 ·exact eV
 ·refine rM a (wN (l.length:Int) (by omega) (by omega)) [] [] ?_ ?_ ?_
  ·exact eN
  ·exact eN
  ·rintro _ _ ⟨⟨n,rfl,g,-⟩,rfl⟩;refine⟨[],.p T3 (n:Int),[],rfl,rfl,?_,?_,rfl,rfl,?_⟩
   ·exact eN
   ·exact eN
   ·have key:=A6P l (by omega) d 0 l.length n (IN _) (NO _) (by omega) (.inl rfl);unfold oE at key;rw[show ((0:Nat):Int)=0 from rfl]at key;refine QA a 1 (by simp only[go_sem,Nat.reduceEqDiff,reduceCtorEq,Nat.reduceAdd,Nat.reduceSub,Nat.reduceMul,Nat.reduceLeDiff,Nat.reduceLT,Int.reduceLE,Int.reduceToNat,Int.reduceNeg,↓reduceIte];rfl) ?_ ?_
    ·trivial
    ·refine rM a (key) [(1000000,.nm 1000000)] [] ?_ ?_ ?_
     ·exact eN
     ·exact eN
     ·rintro _ _ ⟨rfl,r,rfl,hp,e⟩;have c:=s5 hs hp.perm e;subst c;have k:=Cl l;refine⟨[(1000000,.nm 1000000)],.raw (.tuple #[]),[(1000000,.arr 106 AU (Af l))],rfl,rfl,?_,?_,rfl,rfl,CQ ?_⟩
      ·exact eN
      ·exact eN
      ·repeat'(first|exact trivial|refine eS rfl ?_|refine AB ?_|refine rX a ?_ ?_|refine rC ?_ ?_<;>intro b<;>try(cases b;done))
       exact fM a [] (.raw (.tuple #[])) rfl ⟨rfl,rfl⟩
theorem OH (l:List (Int×Int)) (b:l.length<=200) (hs:NdA l):BI Tryz.prog 190 [.clo 216 [1],.fn 192] [(1,.box 91 false [.p DN l])] [] (λres c=>res=.sr 7 AU 0 l.length/\c=[(7,.arr 106 AU (Af l))]):=by
 have f:=Cl l;refine K0 [0,1,4,5] [] [] Tryz.func190 Tryz.ntmps190 AG ?_;intro w0 K O0 ρ0 a d e;simp only[Am];repeat'(first|exact trivial|refine eS rfl ?_|refine rX a ?_ ?_)
 refine cP 1 a ?_ ?_
 ·trivial
 ·refine rM a (s7 l (by omega)) [(1,.nm 1)] [1] ?_ ?_ ?_
  ·exact eN
  ·exact eN
  ·rintro _ _ ⟨rfl,rfl⟩;refine⟨[(1000000,.nm 7)],.sr 1000000 AU 0 l.length,[(1000000,.arr 106 AU l)],rfl,rfl,?_,?_,rfl,rfl,?_⟩
   ·exact eN
   ·exact eN
   ·refine IU [1,5] a (by simp only[go_sem,Nat.reduceEqDiff,reduceCtorEq,Nat.reduceAdd,Nat.reduceSub,Nat.reduceMul,Nat.reduceLeDiff,Nat.reduceLT,Int.reduceLE,Int.reduceToNat,Int.reduceNeg,↓reduceIte];rfl) ?_ ?_
    ·trivial
    ·repeat' refine eS rfl ?_
     refine cP 2 a ?_ ?_
     ·trivial
     ·refine rM a (oH l b hs) [(1000000,.nm 1000000)] [] ?_ ?_ ?_
      ·exact eN
      ·exact eN
      ·rintro _ _ ⟨rfl,rfl⟩;refine⟨[(1000000,.nm 1000000)],.raw (.tuple #[]),[(1000000,.arr 106 AU (Af l))],rfl,rfl,?_,?_,rfl,rfl,CQ ?_⟩
       ·exact eN
       ·exact eN
       ·repeat'(first|exact trivial|refine eS rfl ?_|refine rX a ?_ ?_)
        refine Ev.ent (σ':=⟨[(4,.sr 7 AU 0 l.length)],[(7,.arr 106 AU (Af l))]⟩) ?_ (AC [(7,.nm 1000000)] rfl rfl ?_ ?_)
        ·exact fM a [.tmp 4] (.sr 7 AU 0 l.length) eT ⟨rfl,rfl⟩
        ·exact eN
        ·exact eN
def Lh (f:List AD) (o:List Int):List (Nat×Obj):=[(1,.box 61 false [.sr 5 T3 0 o.length]),(2,.box 177 false [.mp 6]),(3,.box 25 true [.p Fe f]),(4,.box 178 false [.clo 189 [1,2,3,4]]),(5,.arr 3 T3 o),(6,.mapo T3 T3 (mOf o))]
theorem ACt {f:List AD} {o:List Int} (h:KY f o):KY (Dr f) o:=⟨h.nd,λx a=>by rw[GF];exact h.rng x a⟩
theorem A7Z {f:List AD} {o:List Int} (h:KY (Dr f) o):KY f o:=⟨h.nd,λx a=>by have:=h.rng x a;rwa [GF]at this⟩
theorem A02 (f:List AD) (hf:AX f) (hs:NdF f):∀(k:Nat) (o:List Int) (n:Int),KY f o->0<=n->n<f.length->n∉o->f.length-o.length<=k ->
  BI Tryz.prog 189 [.p T3 n,.bp 1 [] 0,.bp 2 [] 0,.bp 3 [] 0,.bp 4 [] 0] (Lh f o) [1,2,3,4,6] (λres Q=>res=.raw (.tuple #[])/\Q=Lh f (DZ (Dr f) k o n)):=by
 intro k;induction k with
 | zero =>
  intro o n h0 h1 A B R;have:=(h0.snoc h1 A B).len;simp only[GO,SY]at this;omega
 | succ k P =>
  intro o n D u v w hk;have t:=D.snoc u v w;have I:=t.len;simp only[GO,SY]at I;have S:=hf.1;refine K0 [0,1,2,3,4,7,9,25,26,27,28,39] [] [] Tryz.func189 Tryz.ntmps189 AG ?_;intro w0 K O0 ρ0 b T U;simp only[Lh,Am];repeat'(first|exact trivial|refine eS rfl ?_|refine rX b ?_ ?_)
  ·simp only[AP];omega
  ·rw[A48 w];obtain⟨O,G⟩:=wQ hs n;have s:=λa (ha:a∈Af (f.getD n.toNat (0,[])).2)=>BD hf ((FC _).mem_iff.1 ha);have F:DZ (Dr f) (k+1) o n=(Af (f.getD n.toNat (0,[])).2).foldl (Ab (Dr f) k) (o++[n]):=by rw[CH,Qm]
   have E:=ACt (f:=f) t;refine cP 6 b ?_ ?_
   ·exact⟨u,v⟩
   ·generalize (f.getD n.toNat (0,[])).2=g at *;refine rM b (ZV g) [] [] ?_ ?_ ?_
    ·exact eN
    ·exact eN
    ·rintro _ _ ⟨rfl,rfl⟩;refine⟨[(50,.nm 1)],.clo 216 [50],[(50,.box 91 false [.p DN g])],rfl,rfl,?_,?_,rfl,rfl,?_⟩
     ·exact eN
     ·exact eN
     ·refine rM b (OH g G O) [(1,.nm 50)] [50] ?_ ?_ ?_
      ·exact eN
      ·exact eN
      ·rintro _ _ ⟨rfl,rfl⟩;have C:=Cl g;rw[<-C];generalize Af g=L at *;refine⟨[(51,.nm 7)],.sr 51 AU 0 L.length,[(51,.arr 106 AU L)],rfl,rfl,?_,?_,rfl,rfl,?_⟩
       ·exact eN
       ·exact eN
       ·refine IU [0,1,2,3,4,25,26,27] b (by simp only[go_sem,Nat.reduceEqDiff,reduceCtorEq,Nat.reduceAdd,Nat.reduceSub,Nat.reduceMul,Nat.reduceLeDiff,Nat.reduceLT,Int.reduceLE,Int.reduceToNat,Int.reduceNeg,↓reduceIte];rfl) ?_ ?_
        ·trivial
        ·have N:∀i,KY (Dr f) ((L.take i).foldl (Ab (Dr f) k) (o++[n]))/\o++[n] <+: (L.take i).foldl (Ab (Dr f) k) (o++[n]):=λi=>E2 (EA (R9 hf) k) _ _ (λa ha=>by rw[GF];exact s a (dO ha)) E;generalize J:o++[n]=q at *;have M:q.length=o.length+1:=by rw[<-J];simp
         rw[<-M];repeat' refine eS rfl ?_
         refine AK (ι:={i:Nat//i<=L.length}) (λi=>⟨[(0,.p T3 n),(1,.bp 1 [] 0),(2,.bp 2 [] 0),(3,.bp 3 [] 0),(4,.bp 4 [] 0),(25,.p DN L),(26,.p (.int .i64) (L.length:Int)),(27,.p (.int .i64) (i.1:Int))],Lh f ((L.take i.1).foldl (Ab (Dr f) k) q)⟩) (λi=>L.length-i.1) ⟨0,by omega⟩ (A9V [51] (AC [(1,.nm 1),(2,.nm 2),(3,.nm 3),(4,.nm 4),(5,.nm 5),(6,.nm 6)] rfl rfl ?_ ?_)) (λi=>?_)
         ·simp only[Lh,ACX,List.foldl_nil];exact eN
         ·exact eN
         ·obtain⟨i,hi⟩:=i;obtain⟨j,y⟩:=N i;replace j:=A7Z j;have r:=λ(h:i<L.length)=>NU (Ab (Dr f) k) L (0,0) q h;have H:=y.length_le;generalize x:(L.take i).foldl (Ab (Dr f) k) q=c at j y r H;simp only[Lh];repeat'(first|exact trivial|refine eS rfl ?_|refine AB ?_|refine rX b ?_ ?_|refine rC ?_ ?_<;>intro d<;>try(cases d;done))
          ·exact eV
          ·have l:i<L.length:=by exact eV
           have z:=s _ (AE L (0,0) l);have m:(L.getD i (0,0)).2∉c:=by rw[Wl]at d;simpa using d
           refine cP 3 b ?_ ?_
           ·trivial
           ·refine rM b (P c (L.getD i (0,0)).2 j z.1 z.2 m (by omega)) [(1,.nm 1),(2,.nm 2),(3,.nm 3),(4,.nm 4),(5,.nm 5),(6,.nm 6)] [5] ?_ ?_ ?_
            ·exact eN
            ·simp only[Lh];exact eN
            ·rintro _ _ ⟨rfl,rfl⟩;refine⟨[(1,.nm 1),(2,.nm 2),(3,.nm 3),(4,.nm 4),(5,.nm 5),(6,.nm 6)],.raw (.tuple #[]),Lh f (DZ (Dr f) k c (L.getD i (0,0)).2),rfl,rfl,?_,?_,rfl,rfl,CQ ?_⟩
             ·simp only[Lh];exact eN
             ·exact eN
             ·simp only[Lh];repeat'(first|refine eS rfl ?_|refine AB ?_|refine rX b ?_ ?_)
              ·exact eV
              ·have e:Ab (Dr f) k c (L.getD i (0,0))=DZ (Dr f) k c (L.getD i (0,0)).2:=An m;refine⟨⟨i+1,by omega⟩,by simp only;omega,AC [(1,.nm 1),(2,.nm 2),(3,.nm 3),(4,.nm 4),(5,.nm 5),(6,.nm 6)] rfl rfl ?_ ?_⟩
               ·simp only[r l,e];exact eN
               ·exact eN
          ·exact eV
          ·have l:i<L.length:=by exact eV
           have m:(L.getD i (0,0)).2∈c:=by rw[Wl]at d;simpa using d
           have e:Ab (Dr f) k c (L.getD i (0,0))=c:=BY m;refine⟨⟨i+1,by omega⟩,by simp only;omega,AC [(1,.nm 1),(2,.nm 2),(3,.nm 3),(4,.nm 4),(5,.nm 5),(6,.nm 6)] rfl rfl ?_ ?_⟩
           ·simp only[r l,e];exact eN
           ·exact eN
          ·have hk:L.take i=L:=At (by exact eV);rw[hk]at x;rw[F,x];exact fM b [] (.raw (.tuple #[])) rfl ⟨rfl,rfl⟩
section
def Da:Ac:={ ins:=[Dw,T3],pre:=λ(f,n,_)=>AX f/\Lr f/\0<=n/\n<(List.length f:Int),out:=λ(f,n,_)=>[.p Dw (AO f n)] }
attribute [local go_sem] Da
theorem A03 {α a:Type} (g:α->a) (o:List α) (d:α) (z:a) {i:Nat} (h:i<o.length):((o.take i).map g++List.replicate (o.length-i) z).set i (g (o.getD i d))=(o.take (i+1)).map g++List.replicate (o.length-(i+1)) z:=by
 obtain⟨m,c⟩:∃m,o.length-i=m+1:=⟨o.length-i-1,by omega⟩;have e:o.length-(i+1)=m:=by omega
 have b:((o.take i).map g).length=i:=by rw[SX,OR];omega
 rw[c,e,ADM _ _ (by omega),b,ADr,AEb,AEe,A0 o d h,gO];simp
def Qn:Ac:={ ins:=[Dw,T3],pre:=λ(f,n,_)=>AX f/\NdF f/\0<=n/\n<(List.length f:Int),out:=λ(f,n,_)=>[.p Dw (AO (Dr f) n)] }
attribute [local go_sem] Qn
theorem SA:Ad Tryz.prog 149 Qn:=by
 refine fK [0,1,2,4,5,6,7,8,9,10,11,12,22,23,24,25,38,39,40] Tryz.func149 Tryz.ntmps149 AG ?_;rintro w0 O0 ⟨f,root,u⟩ a-⟨hf,hs,r,s⟩;simp only[Qn,AM];have z:=hf.1;have j:KY f []:=⟨by simp,λx C=>by cases C⟩;obtain⟨g,H⟩:=EA (R9 hf) f.length [] root (ACt j) r (by rw[GF];exact s) (by simp);replace g:=A7Z g;have w:AO (Dr f) root=(DZ (Dr f) f.length [] root).map (Dq (Dr f) (DZ (Dr f) f.length [] root)):=by unfold AO;rw[GF]
 rw[w];repeat'(first|exact trivial|refine eS rfl ?_|refine AB ?_|refine rX a ?_ ?_|refine rC ?_ ?_<;>intro c<;>try(cases c;done))
 refine cP 2 a ?_ ?_
 ·trivial
 ·refine rM a (A02 f hf hs (List.length f) [] root j r s (by simp) (by simp)) [(1,.nm 6),(2,.nm 5),(3,.nm 2),(4,.nm 7),(5,.nil),(6,.nm 13)] [] ?_ ?_ ?_
  ·exact eN
  ·simp only[Lh];refine eM ?_;rfl
  ·rintro _ _ ⟨rfl,rfl⟩;refine⟨[(6,.nm 1),(5,.nm 2),(2,.nm 3),(7,.nm 4),(101,.nm 5),(13,.nm 6)],.raw (.tuple #[]),[(6,.box 61 false [.sr 101 T3 0 (DZ (Dr f) (List.length f) [] root).length]),(5,.box 177 false [.mp 13]),(2,.box 25 true [.p Fe f]),(7,.box 178 false [.clo 189 [6,5,2,7]]),(101,.arr 3 T3 (DZ (Dr f) (List.length f) [] root)),(13,.mapo T3 T3 (mOf (DZ (Dr f) (List.length f) [] root)))],rfl,rfl,?_,?_,rfl,rfl,CQ ?_⟩
   ·simp only[Lh];exact eN
   ·exact eN
   ·generalize DZ (Dr f) (List.length f) [] root=o at *;have G:=g.len;repeat'(first|exact trivial|refine eS rfl ?_|refine AB ?_|refine rX a ?_ ?_|refine rC ?_ ?_<;>intro c<;>try(cases c;done))
    ·simp only[AP];omega
    ·refine AK (ι:={i:Nat//i<=o.length}) (λi=>⟨[(2,.bp 2 [] 0),(4,.bp 4 [] 0),(5,.bp 5 [] 0),(8,.bp 8 [] 0),(22,.sr 101 T3 0 o.length),(23,.p (.int .i64) (o.length:Int)),(24,.p (.int .i64) (i.1:Int))],[(8,.box 25 true [.sr 20 NN 0 o.length]),(20,.arr 93 NN ((o.take i.1).map (Dq (Dr f) o)++List.replicate (o.length-i.1) (0,[]))),(5,.box 177 false [.mp 13]),(2,.box 25 true [.p Fe f]),(101,.arr 3 T3 o),(13,.mapo T3 T3 (mOf o)),(4,.box 25 true [.raw (.slice none 0 0)])]⟩) (λi=>o.length-i.1) ⟨0,by omega⟩ (eW [(8,.nm 8),(20,.nm 20),(5,.nm 5),(2,.nm 2),(101,.nm 101),(13,.nm 13),(4,.nm 4)]) (λi=>?_)
     ·obtain⟨i,hi⟩:=i;repeat'(first|exact trivial|refine eS rfl ?_|refine AB ?_|refine rX a ?_ ?_|refine rC ?_ ?_<;>intro c<;>try(cases c;done))
      ·exact eV
      ·have l:i<o.length:=by exact eV
       have hn:=g.rng _ (AE o 0 l);have q:Dq (Dr f) o (o.getD i 0)=((f.getD (o.getD i 0).toNat (0,[])).1,(Af (f.getD (o.getD i 0).toNat (0,[])).2).map (Mh o)):=by unfold Dq;rw[Qm]
       obtain⟨t,m⟩:=wQ hs (o.getD i 0);refine cP 6 a ?_ ?_
       ·exact hn
       ·have F:List.length f<=100000:=z;generalize B:o.getD i 0=n at *;generalize A:f.getD n.toNat (0,[])=x at *;obtain⟨I,d⟩:=x;simp only at t m q;refine rM a (ZV d) [] [] ?_ ?_ ?_
        ·exact eN
        ·exact eN
        ·rintro _ _ ⟨rfl,rfl⟩;refine⟨[(50,.nm 1)],.clo 216 [50],[(50,.box 91 false [.p DN d])],rfl,rfl,?_,?_,rfl,rfl,?_⟩
         ·exact eN
         ·exact eN
         ·refine rM a (OH d m t) [(1,.nm 50)] [50] ?_ ?_ ?_
          ·exact eN
          ·exact eN
          ·rintro _ _ ⟨rfl,rfl⟩;have v:=Cl d;rw[<-v];generalize E:Af d=L at *;refine⟨[(51,.nm 7)],.sr 51 AU 0 L.length,[(51,.arr 106 AU L)],rfl,rfl,?_,?_,rfl,rfl,?_⟩
           ·exact eN
           ·exact eN
           ·refine IU [2,4,5,8,9,10,11,22,23,24] a (by simp only[go_sem,Nat.reduceEqDiff,reduceCtorEq,Nat.reduceAdd,Nat.reduceSub,Nat.reduceMul,Nat.reduceLeDiff,Nat.reduceLT,Int.reduceLE,Int.reduceToNat,Int.reduceNeg,↓reduceIte];rfl) ?_ ?_
            ·trivial
            ·repeat'(first|exact trivial|refine eS rfl ?_|refine AB ?_|refine rX a ?_ ?_|refine rC ?_ ?_<;>intro c<;>try(cases c;done))
             refine AK (ι:={k:Nat//k<=L.length}) (λk=>⟨[(2,.bp 2 [] 0),(4,.bp 4 [] 0),(5,.bp 5 [] 0),(8,.bp 8 [] 0),(9,.p (.int .i64) (i:Int)),(10,.p T3 n),(11,.sr 51 AU 0 L.length),(22,.sr 101 T3 0 o.length),(23,.p (.int .i64) (o.length:Int)),(24,.p (.int .i64) (i:Int)),(38,.p (.int .i64) (L.length:Int)),(39,.p (.int .i64) (k.1:Int))],[(51,.arr 106 AU ((L.take k.1).map (Mh o)++L.drop k.1)),(8,.box 25 true [.sr 20 NN 0 o.length]),(20,.arr 93 NN ((o.take i).map (Dq (Dr f) o)++List.replicate (o.length-i) (0,[]))),(5,.box 177 false [.mp 13]),(2,.box 25 true [.p Fe f]),(101,.arr 3 T3 o),(13,.mapo T3 T3 (mOf o)),(4,.box 25 true [.raw (.slice none 0 0)])]⟩) (λk=>L.length-k.1) ⟨0,by omega⟩ (eW [(51,.nm 51),(8,.nm 8),(20,.nm 20),(5,.nm 5),(2,.nm 2),(101,.nm 101),(13,.nm 13),(4,.nm 4)]) (λk=>?_)
             ·obtain⟨k,hk⟩:=k;repeat'(first|exact trivial|refine eS rfl ?_|refine AB ?_|refine rX a ?_ ?_|refine rC ?_ ?_<;>intro c<;>try(cases c;done))
              ·exact eV
              ·exact eV
              ·have h:k<L.length:=by exact eV
               have e:=WU (Mh o) (λb=>b) L (0,0) h (Mh o);refine⟨⟨k+1,by omega⟩,by simp only;omega,AC [(51,.nm 51),(8,.nm 8),(20,.nm 20),(5,.nm 5),(2,.nm 2),(101,.nm 101),(13,.nm 13),(4,.nm 4)] rfl rfl ?_ ?_⟩
               ·refine eM ?_;rw[e.2];rw[<-e.1];unfold Mh;rw[<-A6F]
               ·exact eN
              ·exact⟨hn,by exact eV⟩
              ·exact eV
              ·have h:L.take k=L:=At (by exact eV);have y:L.drop k=[]:=By (by exact eV);refine⟨⟨i+1,by omega⟩,by simp only;omega,AC [(8,.nm 8),(20,.nm 20),(5,.nm 5),(2,.nm 2),(101,.nm 101),(13,.nm 13),(4,.nm 4)] rfl rfl ?_ ?_⟩
               ·refine eM ?_;rw[h,y,Sq];have e:=A03 (Dq (Dr f) o) o 0 (0,[]) l;rw[B,q]at e;rw[<-e,A,At (by simp:(L.map (Mh o)).length<=L.length)]
               ·exact eN
      ·have hk:o.take i=o:=At (by exact eV);have D:o.length-i=0:=by exact eV
       rw[hk,D];exact fI a [.cell 4 25] (by simp only[List.replicate_zero,Sq];first|exact eR|refine Xy ?_;exact At (by rw[SX];exact eV))
theorem cO:Ad Tryz.prog 149 Da:=by
 refine⟨SA.1,λw O h ds d g hp=>?_⟩;obtain⟨f,n,u⟩:=ds;obtain⟨h1,a,b,c⟩:=hp;have key:=SA.2 w O h (f,n,u) d g ⟨h1,A8N a,b,c⟩;have e:Qn.out (f,n,u)=Da.out (f,n,u):=by
  show [RV.p Dw (AO (Dr f) n)]=[RV.p Dw (AO f n)];rw[A00 a]
 rw[e]at key;exact key
theorem A8O:Ad Tryz.prog 128 Da:=by
 refine fK [0,1,2,4] Tryz.func128 Tryz.ntmps128 (AF cO AG) ?_;rintro w0 O0 ⟨f,root,u⟩ a-hp;simp only[Da,AM];repeat'(first|exact trivial|refine eS rfl ?_|refine AB ?_|refine rX a ?_ ?_|refine rC ?_ ?_<;>intro b<;>try(cases b;done))
 ·exact hp
 ·exact fI a [.cell 4 25]
end
section
attribute [local go_sem] HG nS
theorem oI {a b:Int}:F2 a b=0↔a=b:=by
 unfold F2;split
 ·constructor<;>intro h<;>omega
 ·split
  ·constructor<;>intro h<;>omega
  ·exact⟨λ_=>by omega,λ_=>rfl⟩
def YI:List Int->Int
 | []=>0
 | x :: l=>if x=0 then YI l else x
theorem oJ {l:List Int} {k:Nat} (h:k<l.length):YI (l.drop k)=if l.getD k 0=0 then YI (l.drop (k+1)) else l.getD k 0:=by
 rw[On h];have e:l.getD k 0=l[k]:=by simp[AS,h]
 rw[e];rfl
def s8:Ac:={ ins:=[F3],pre:=λ_=>True,out:=λ(l,_)=>[.p T3 (YI l)],lend:=true }
attribute [local go_sem] s8
theorem oK:Ad Tryz.prog 225 s8:=by
 refine fK [0,2,3,5,6,7,8,9,14] Tryz.func225 Tryz.ntmps225 AG ?_;rintro w0 O0 ⟨l,u⟩ c ⟨⟨f,-⟩,-⟩ -;simp only[AP]at f;simp only[s8,AM];repeat'(first|exact trivial|refine eS rfl ?_|refine AB ?_|refine rX c ?_ ?_|refine rC ?_ ?_<;>intro b<;>try(cases b;done))
 refine AK (ι:={k:Nat//k<=List.length l/\YI l=YI ((l:List Int).drop k)}) (λk=>⟨[(3,.p T3 0),(6,.p F3 l),(7,.p (.int .i64) (List.length l:Int)),(8,.p (.int .i64) (k.1:Int))],[]⟩) (λk=>List.length l-k.1) ⟨0,IN _,rfl⟩ (AC [] rfl rfl ?_ ?_) (λk=>?_)
 ·first|exact eN|refine eM ?_
 ·first|exact eN|refine eM ?_
 ·obtain⟨k,hk,a⟩:=k;repeat'(first|exact trivial|refine eS rfl ?_|refine AB ?_|refine rX c ?_ ?_|refine rC ?_ ?_<;>intro b<;>try(cases b;done))
  ·exact b
  ·have d:k<List.length l:=by exact eV
   rw[oJ d,An b]at a;exact fI c [.tmp 2] (by rw[a];exact eR)
  ·exact eV
  ·have d:k<List.length l:=by exact eV
   rw[oJ d,BY (by simpa using b)]at a;refine⟨⟨k+1,d,a⟩,by simp only;omega,AC [] rfl rfl ?_ ?_⟩
   ·first|exact eN|refine eM ?_
   ·first|exact eN|refine eM ?_
  ·have e:List.drop k (l:List Int)=[]:=By (by exact eV);rw[e]at a;have a:YI l=0:=a;exact fI c [.tmp 2] (by rw[a];exact eR)
def HT {α:Type} (c:α->α->Int):List α->List α->Int
 | [],[]=>0
 | [],_ :: _=>-1
 | _ :: _,[]=>1
 | x :: p,y :: q=>if c x y=0 then HT c p q else c x y
theorem KP {α:Type} {c:α->α->Int} (d:∀a b,c a b=0↔a=b):∀ {p q:List α},HT c p q=0↔p=q
 | [],[]=>⟨λ_=>rfl,λ_=>rfl⟩
 | [],_ :: _=>⟨λh=>by simp[HT]at h,λh=>by cases h⟩
 | _ :: _,[]=>⟨λh=>by simp[HT]at h,λh=>by cases h⟩
 | x :: p,y :: q=>by
  unfold HT;split
  ·rename_i h;rw[KP d,(d x y).1 h];exact⟨λe=>by rw[e],λe=>(List.cons.inj e).2⟩
  ·rename_i h;exact⟨λe=>absurd e h,λe=>absurd ((d x y).2 (List.cons.inj e).1) h⟩
theorem Mk {α:Type} (d:α) {l:List α} {k:Nat} (h:k<l.length):l.drop k=l.getD k d :: l.drop (k+1):=by
 rw[On h];have e:l.getD k d=l[k]:=by simp[AS,h]
 rw[e]
theorem NW {α:Type} {c:α->α->Int} (d:α) {p q:List α} {k:Nat} (h1:k<p.length) (a:k<q.length):HT c (p.drop k) (q.drop k)=if c (p.getD k d) (q.getD k d)=0 then HT c (p.drop (k+1)) (q.drop (k+1)) else c (p.getD k d) (q.getD k d):=by
 rw[Mk d h1,Mk d a];rfl
def Fi (a b:Int×Int):Int:=YI [F2 a.1 b.1,F2 a.2 b.2]
theorem TW (a b:Int×Int):Fi a b=0↔a=b:=by
 unfold Fi YI YI YI;constructor
 ·intro h;by_cases h1:F2 a.1 b.1=0
  ·rw[BY h1]at h;by_cases c:F2 a.2 b.2=0
   ·exact AF2 (oI.1 h1) (oI.1 c)
   ·rw[An c]at h;exact absurd h c
  ·rw[An h1]at h;exact absurd h h1
 ·rintro rfl;rw[BY (oI.2 rfl),BY (oI.2 rfl)]
def cQ:Ac:={ ins:=[AU,AU],pre:=λ_=>True,out:=λ(a,b,_)=>[.p T3 (Fi a b)] }
attribute [local go_sem] cQ
theorem A04:Ad Tryz.prog 227 cQ:=by
 refine fKP [0,1,2,3,4] [15] [] Tryz.func227 Tryz.ntmps227 (AF Gp (AF oK AG)) ?_;rintro w0 O0 ⟨a,b,u⟩ c - -;simp only[cQ,AM];repeat'(first|exact trivial|refine eS rfl ?_|refine AB ?_|refine rX c ?_ ?_|refine rC ?_ ?_<;>intro d<;>try(cases d;done))
 exact fI c [.tmp 4] (by unfold Fi;exact eR)
theorem A05 (p q:List (Int×Int)) (hp:p.length<=100000):BI Tryz.prog 226 [.p DN p,.p DN q,.fn 227] [] [] (λres i=>res=.p T3 (HT Fi p q)/\i=[]):=by
 refine K0 [0,1,2,6,7,8,9,10,11,12,13,14,21,31,38] [] [] Tryz.func226 Tryz.ntmps226 (AF A04 AG) ?_;intro w0 K O0 ρ0 c m n;simp only[Am];repeat'(first|exact trivial|refine eS rfl ?_|refine AB ?_|refine rX c ?_ ?_|refine rC ?_ ?_<;>intro a<;>try(cases a;done))
 refine AK (ι:={k:Nat//k<=p.length/\k<=q.length/\HT Fi p q=HT Fi (p.drop k) (q.drop k)}) (λk=>⟨[(0,.p DN p),(1,.p DN q),(2,.fn 227),(11,.p DN p),(12,.p (.int .i64) (p.length:Int)),(13,.p (.int .i64) (k.1:Int))],[]⟩) (λk=>p.length-k.1) ⟨0,IN _,IN _,rfl⟩ (AC [] rfl rfl ?_ ?_) (λk=>?_)
 ·first|exact eN|refine eM ?_
 ·first|exact eN|refine eM ?_
 ·obtain⟨k,j,l,b⟩:=k;simp only;repeat'(first|exact trivial|refine eS rfl ?_|refine AB ?_|refine rX c ?_ ?_|refine rC ?_ ?_<;>intro a<;>try(cases a;done))
  ·exact a
  ·have d:k<p.length:=by exact eV
   have g:q.drop k=[]:=By (by exact eV);have h1:HT Fi p q=1:=by
    rw[b,g,Mk (0,0) d];rfl
   refine Ev.ent (σ':=⟨[(6,.p T3 1)],[]⟩) (fM c [.tmp 6] (.p T3 1) eT ⟨by rw[h1],rfl⟩) (AC [] rfl rfl ?_ ?_)
   ·first|exact eN|refine eM ?_
   ·first|exact eN|refine eM ?_
  ·exact a
  ·have d:k<p.length:=by exact eV
   have e:k<q.length:=by exact eV
   rw[NW (0,0) d e,An a]at b;refine Ev.ent (σ':=⟨[(6,.p T3 (Fi (p.getD k (0,0)) (q.getD k (0,0))))],[]⟩) (fM c [.tmp 6] (.p T3 (Fi (p.getD k (0,0)) (q.getD k (0,0)))) eT ⟨by rw[b],rfl⟩) (AC [] rfl rfl ?_ ?_)
   ·first|exact eN|refine eM ?_
   ·first|exact eN|refine eM ?_
  ·exact eV
  ·have d:k<p.length:=by exact eV
   have e:k<q.length:=by exact eV
   rw[NW (0,0) d e,BY (by simpa using a)]at b;refine⟨⟨k+1,d,e,b⟩,by simp only;omega,AC [] rfl rfl ?_ ?_⟩
   ·first|exact eN|refine eM ?_
   ·first|exact eN|refine eM ?_
  ·have f:p.drop k=[]:=By (by exact eV);have h1:HT Fi p q=-1:=by
    rw[b,f,Mk (0,0) (show k<q.length by exact eV)];rfl
   exact fM c [.tmp 6] (.p T3 (-1)) eT ⟨by rw[h1],rfl⟩
  ·have f:p.drop k=[]:=By (by exact eV);have h:q.drop k=[]:=By (by exact eV);have h1:HT Fi p q=0:=by
    rw[b,f,h];rfl
   exact fM c [.tmp 6] (.p T3 0) eT ⟨by rw[h1],rfl⟩
def Dk (a b:AD):Int:=if YI [F2 a.1 b.1,F2 (a.2.length:Int) (b.2.length:Int)]=0 then HT Fi a.2 b.2 else YI [F2 a.1 b.1,F2 (a.2.length:Int) (b.2.length:Int)]
theorem Qo (a b:AD):Dk a b=0↔a=b:=by
 unfold Dk;constructor
 ·intro h;split at h
  ·rename_i h1;unfold YI YI YI at h1;by_cases c:F2 a.1 b.1=0
   ·exact AF2 (oI.1 c) ((KP TW).1 h)
   ·rw[An c]at h1;exact absurd h1 c
  ·rename_i h1;exact absurd h h1
 ·rintro rfl;have h1:YI [F2 a.1 a.1,F2 (a.2.length:Int) (a.2.length:Int)]=0:=by
   unfold YI YI YI;rw[BY (oI.2 rfl),BY (oI.2 rfl)]
  rw[BY h1];exact(KP TW).2 rfl
def Qp:Ac:={ ins:=[NN,NN],pre:=λ(a,_,_)=>List.length (Prod.snd (a:AD))<=100000,out:=λ(a,b,_)=>[.p T3 (Dk a b)] }
attribute [local go_sem] Qp
theorem s9:Ad Tryz.prog 210 Qp:=by
 refine fKP [0,1,2,3,4,5,21] [18] [] Tryz.func210 Tryz.ntmps210 (AF Gp (AF oK AG)) ?_;rintro w0 O0 ⟨⟨ta,la⟩,⟨tb,b⟩,u⟩ a-ha;have ha:List.length la<=100000:=ha;simp only[Qp,AM];repeat'(first|exact trivial|refine eS rfl ?_|refine AB ?_|refine rX a ?_ ?_|refine rC ?_ ?_<;>intro c<;>try(cases c;done))
 ·have h1:Dk (ta,la) (tb,b)=YI [F2 ta tb,F2 (List.length la:Int) (List.length b:Int)]:=An c;exact fI a [.tmp 4] (by rw[h1];exact eR)
 ·have h1:Dk (ta,la) (tb,b)=HT Fi la b:=BY (by simpa using c);refine cP 4 a ?_ ?_
  ·trivial
  ·refine rM a (A05 la b ha) [] [] ?_ ?_ ?_
   ·first|exact eN|refine eM ?_
   ·first|exact eN|refine eM ?_
   ·rintro _ _ ⟨rfl,rfl⟩;refine⟨[],.p T3 (HT Fi la b),[],rfl,rfl,?_,?_,rfl,rfl,?_⟩
    ·first|exact eN|refine eM ?_
    ·first|exact eN|refine eM ?_
    ·refine rL a ?_ ?_
     ·trivial
     ·repeat'(first|exact trivial|refine eS rfl ?_|refine AB ?_|refine rX a ?_ ?_|refine rC ?_ ?_<;>intro c<;>try(cases c;done))
      exact fI a [.tmp 4] (by rw[h1];exact eR)
end
section
attribute [local go_sem] HG nS Qp Qn
theorem tA (p q:List (AD)) (hp:p.length<=100000) (g:∀x∈p,x.2.length<=100000):BI Tryz.prog 209 [.p Fe p,.p Fe q,.fn 210] [] [] (λres j=>res=.p T3 (HT Dk p q)/\j=[]):=by
 refine K0 [0,1,2,6,7,8,9,10,11,12,13,14,21,31,38] [] [] Tryz.func209 Tryz.ntmps209 (AF s9 AG) ?_;intro w0 K O0 ρ0 b n o;simp only[Am];repeat'(first|exact trivial|refine eS rfl ?_|refine rX b ?_ ?_)
 refine AK (ι:={k:Nat//k<=p.length/\k<=q.length/\HT Dk p q=HT Dk (p.drop k) (q.drop k)}) (λk=>⟨[(0,.p Fe p),(1,.p Fe q),(2,.fn 210),(11,.p Fe p),(12,.p (.int .i64) (p.length:Int)),(13,.p (.int .i64) (k.1:Int))],[]⟩) (λk=>p.length-k.1) ⟨0,IN _,IN _,rfl⟩ (eW []) (λk=>?_)
 ·obtain⟨k,l,m,a⟩:=k;simp only;repeat'(first|exact trivial|refine eS rfl ?_|refine AB ?_|refine rX b ?_ ?_|refine rC ?_ ?_<;>intro d<;>try(cases d;done))
  ·exact d
  ·have c:k<p.length:=by exact eV
   have h:q.drop k=[]:=By (by exact eV);have h1:HT Dk p q=1:=by
    rw[a,h,Mk (0,[]) c];rfl
   exact Ev.ent (σ':=⟨[(6,.p T3 1)],[]⟩) (fM b [.tmp 6] (.p T3 1) eT ⟨by rw[h1],rfl⟩) (eW [])
  ·exact d
  ·exact g _ (AE p (0,[]) (by exact eV))
  ·have c:k<p.length:=by exact eV
   have e:k<q.length:=by exact eV
   rw[NW (0,[]) c e,An d]at a;exact Ev.ent (σ':=⟨[(6,.p T3 (Dk (p.getD k (0,[])) (q.getD k (0,[]))))],[]⟩) (fM b [.tmp 6] (.p T3 (Dk (p.getD k (0,[])) (q.getD k (0,[])))) eT ⟨by rw[a],rfl⟩) (eW [])
  ·exact eV
  ·have c:k<p.length:=by exact eV
   have e:k<q.length:=by exact eV
   rw[NW (0,[]) c e,BY (by simpa using d)]at a;exact⟨⟨k+1,c,e,a⟩,by simp only;omega,eW []⟩
  ·have f:p.drop k=[]:=By (by exact eV);have h1:HT Dk p q=-1:=by
    rw[a,f,Mk (0,[]) (show k<q.length by exact eV)];rfl
   exact fM b [.tmp 6] (.p T3 (-1)) eT ⟨by rw[h1],rfl⟩
  ·have f:p.drop k=[]:=By (by exact eV);have i:q.drop k=[]:=By (by exact eV);have h1:HT Dk p q=0:=by
    rw[a,f,i];rfl
   exact fM b [.tmp 6] (.p T3 0) eT ⟨by rw[h1],rfl⟩
def TX (a b:List AD):Int:=if F2 (a.length:Int) (b.length:Int)=0 then HT Dk a b else F2 (a.length:Int) (b.length:Int)
theorem tB (a b:List AD):TX a b=0↔a=b:=by
 unfold TX;constructor
 ·intro h;split at h
  ·exact(KP Qo).1 h
  ·rename_i h1;exact absurd h h1
 ·rintro rfl;rw[BY (oI.2 rfl)];exact(KP Qo).2 rfl
def tC:Ac:={ ins:=[Dw,Dw],pre:=λ(a,_,_)=>Dp a,out:=λ(a,b,_)=>[.p T3 (TX a b)] }
attribute [local go_sem] tC
theorem A4g:Ad Tryz.prog 169 tC:=by
 refine fK [0,1,2,3,4,5,14] Tryz.func169 Tryz.ntmps169 (AF Gp AG) ?_;rintro w0 O0 ⟨a,b,u⟩ c-⟨e,f⟩;simp only[tC,AM];repeat'(first|exact trivial|refine eS rfl ?_|refine rX c ?_ ?_|refine rC ?_ ?_<;>intro d<;>try(cases d;done))
 ·have h1:TX a b=F2 (List.length a:Int) (List.length b:Int):=An d;exact fI c [.tmp 4] (by rw[h1];exact eR)
 ·have h1:TX a b=HT Dk a b:=BY (by simpa using d);refine cP 4 c ?_ ?_
  ·trivial
  ·refine rM c (tA a b e f) [] [] ?_ ?_ ?_
   ·exact eN
   ·exact eN
   ·rintro _ _ ⟨rfl,rfl⟩;refine⟨[],.p T3 (HT Dk a b),[],rfl,rfl,?_,?_,rfl,rfl,?_⟩
    ·exact eN
    ·exact eN
    ·refine rL c ?_ ?_
     ·trivial
     ·repeat' refine eS rfl ?_
      exact fI c [.tmp 4] (by rw[h1];exact eR)
def Uk:Ac:={ ins:=[Dw,Dw],pre:=λ(a,_,_)=>Dp a,out:=λ(a,b,_)=>[.p .bool (TX a b==0)] }
attribute [local go_sem] Uk
theorem A06:Ad Tryz.prog 122 Uk:=by
 refine fK [0,1,2,3,4] Tryz.func122 Tryz.ntmps122 (AF A4g AG) ?_;rintro w0 O0 ⟨a,b,u⟩ c-ha;simp only[Uk,AM];repeat'(first|exact trivial|refine eS rfl ?_|refine rX c ?_ ?_)
 ·exact ha
 ·exact fI c [.tmp 4]
def oL (l:List (Int×Int)):List (Int×Bool):=l.foldl (λm a=>GM T3 .bool a.1 true m) []
theorem Wp {b:Ty} (x k:Int) (v:b.den) (m:List (Int×b.den)):Bi T3 b x (GM T3 b k v m)=if x=k then some v else Bi T3 b x m:=by
 induction m with
 | nil=>simp[GM,Bi,Hv]
 | cons y m g =>
  simp only[GM];by_cases c:Hv T3 k y.1=true
  ·rw[BY c];have d:k=y.1:=by simpa[Hv] using c
   simp only[Bi,Hv,UH];by_cases a:x=k
   ·rw[BY a,BY a]
   ·rw[An a,An a,An (by rw[<-d];exact a)]
  ·rw[An c];have d:¬k=y.1:=by simpa[Hv] using c
   simp only[Bi];by_cases a:Hv T3 x y.1=true
   ·have f:x=y.1:=by simpa[Hv] using a
    rw[BY a,BY a,An (by rw[f];exact λe=>d e.symm)]
   ·rw[An a,An a,g]
theorem A07 (x:Int) (l:List (Int×Int)):(Bi T3 .bool x (oL l)).getD false=l.any λy=>y.1==x:=by
 induction l using EX with
 | h0=>rfl
 | h1 l a c =>
  have e:oL (l++[a])=GM T3 .bool a.1 true (oL l):=by unfold oL;rw[ADU];rfl
  rw[e,Wp,AE3,<-c];by_cases h:x=a.1
  ·rw[BY h,h];simp
  ·rw[An h];have b:¬a.1=x:=λe=>h e.symm;simp[b]
def GG (x:AD) (n:Int):Int:=if x.1<0 then 2 else Ij x.2 n
def Wq:Ac:={ ins:=[NN,T3],pre:=λ_=>True,out:=λ(x,n,_)=>[.p Ls (GG x n)] }
attribute [local go_sem] Wq
theorem tD:Ad Tryz.prog 148 Wq:=by
 refine fK [0,1,2,4,5,7,10,13,14,15,16,32,36] Tryz.func148 Tryz.ntmps148 AG ?_;rintro w0 O0 ⟨⟨t,l⟩,n,u⟩ d ⟨⟨-,⟨o,-⟩⟩,-⟩ -;simp only[AP]at o;simp only[Wq,AM];repeat'(first|exact trivial|refine eS rfl ?_|refine rX d ?_ ?_|refine rC ?_ ?_<;>intro b<;>try(cases b;done))
 ·have h1:GG (t,l) n=2:=BY b;exact fI d [.tmp 4] (by rw[h1];exact eR)
 ·have h0:GG (t,l) n=HC n [] l:=An (ACU.2 b);rw[h0];refine AK (ι:={k:Nat//k<=List.length l/\HC n [] l=HC n ((l:List (Int×Int)).take k) ((l:List (Int×Int)).drop k)}) (λk=>⟨[(1,.p T3 n),(5,.mp 11),(13,.p DN l),(14,.p (.int .i64) (List.length l:Int)),(15,.p (.int .i64) (k.1:Int))],[(11,.mapo T3 .bool (oL ((l:List (Int×Int)).take k.1)))]⟩) (λk=>List.length l-k.1) ⟨0,IN _,rfl⟩ (AC [(11,.nm 11)] rfl rfl ?_ ?_) (λk=>?_)
  ·refine eM ?_;rfl
  ·exact eN
  ·obtain⟨k,hk,f⟩:=k;have g:=λh:k<l.length=>O8 n l h;have q:=λh:k<l.length=>NU (λ(m:List (Int×Bool)) (a:Int×Int)=>GM T3 .bool a.1 true m) l (0,0) [] h;have i:=λx=>A07 x (List.take k (l:List (Int×Int)));simp only;repeat'(first|exact trivial|refine eS rfl ?_|refine AB ?_|refine rX d ?_ ?_|refine rC ?_ ?_<;>intro b<;>try(cases b;done))
   ·exact b
   ·have c:k<List.length l:=by exact eV
    have e:HC n [] l=2:=by rw[f,g c,BY (by omega)]
    exact fI d [.tmp 4] (by rw[e];exact eR)
   ·have c:k<List.length l:=by exact eV
    rw[i]at b;have e:HC n [] l=4:=by rw[f,g c,An (by omega),BY b]
    exact fI d [.tmp 4] (by rw[e];exact eR)
   ·exact eV
   ·have c:k<List.length l:=by exact eV
    rw[i]at b;refine⟨⟨k+1,c,by rw[f,g c,An (by omega),An (by rw[b];simp)]⟩,by simp only;omega,AC [(11,.nm 11)] rfl rfl ?_ ?_⟩
    ·refine eM ?_;exact(q c).symm
    ·exact eN
   ·have j:List.drop k (l:List (Int×Int))=[]:=By (by exact eV);have e:HC n [] l=0:=by rw[f,j];rfl
    exact fI d [.tmp 4] (by rw[e];exact eR)
theorem oM {n:Int}:∀ {l seen:List (Int×Int)},HC n seen l=0->(∀a∈l,∀b∈seen,b.1≠a.1)/\NdA l
 | [],_,_=>⟨λa ha=>(by cases ha),List.Pairwise.nil⟩
 | x :: l,seen,h=>by
  simp only[HC]at h;split at h
  ·cases h
  ·split at h
   ·cases h
   ·rename_i h1 g;obtain⟨c,f⟩:=oM h;refine⟨λa ha b d=>?_,To.2 ⟨λa ha e=>c a ha x (by simp) e,f⟩⟩;rcases Do.1 ha with rfl|ha
    ·intro e;exact g (Sc.2 ⟨b,d,by simp[e]⟩)
    ·exact c a ha b (by simp[d])
theorem oO {m:Int}:∀ {f:List AD},HD m f=0->∀x∈f,NdA x.2
 | [],_,x,b=>by cases b
 | y :: f,h,x,b=>by
  simp only[HD]at h;split at h
  ·cases h
  ·split at h
   ·rename_i h1 a;exact absurd h a
   ·rename_i h1 a;have a:Ij y.2 m=0:=DO a;rcases Do.1 b with rfl|b
    ·exact(oM a).2
    ·exact oO h x b
def TY (f:List AD):Prop:=∀x∈f,x.2.length<=200
theorem oP {f:List AD} (h:CG f=0) (hs:TY f):NdF f:=by
 unfold CG at h;split at h
 ·cases h
 ·split at h
  ·cases h
  ·exact λx a=>⟨oO h x a,hs x a⟩
def Qq:Ac:={ ins:=[Dw],pre:=λ(f,_)=>TY f,out:=λ(f,_)=>[.p Dw (BF f).1,.p Ls (BF f).2] }
attribute [local go_sem] Qq
theorem A08:Ad Tryz.prog 107 Qq:=by
 refine fK [0,1,2,3,5,6,10,15,18,19,20,21,30] Tryz.func107 Tryz.ntmps107 (AF tD (AF SA AG)) ?_;rintro w0 O0 ⟨f,u⟩ c ⟨⟨n,-⟩,-⟩ hs;simp only[AP]at n;have hs:TY f:=hs;have l:WW f:=λx o=>Sd (hs x o) (by omega);simp only[Qq,AM];repeat'(first|exact trivial|refine eS rfl ?_|refine rX c ?_ ?_|refine rC ?_ ?_<;>intro a<;>try(cases a;done))
 ·have h1:CG f=1:=by
   have h:f.length=0:=by exact eV
   unfold CG;rw[BY h]
  have e:BF f=([],1):=by unfold BF;rw[h1];rfl
  exact fI c [.cell 2 25,.tmp 3] (by rw[e];exact eR)
 ·have h1:CG f=7:=by
   have h:¬f.length=0:=by exact eV
   have i:4096<f.length:=by exact eV
   unfold CG;rw[An h,BY i]
  have e:BF f=([],7):=by unfold BF;rw[h1];rfl
  exact fI c [.cell 2 25,.tmp 3] (by rw[e];exact eR)
 ·have h1:CG f=HD f.length f:=by
   have h:¬f.length=0:=by exact eV
   have i:¬4096<f.length:=by exact eV
   unfold CG;rw[An h,An i]
  have j:0<f.length:=by exact eV
  refine AK (ι:={k:Nat//k<=f.length/\HD f.length (f.drop k)=CG f}) (λk=>⟨[(1,.bp 1 [] 0),(2,.bp 2 [] 0),(18,.p Fe f),(19,.p (.int .i64) (f.length:Int)),(20,.p (.int .i64) (k.1:Int))],[(1,.box 25 true [.p Fe f]),(2,.box 25 true [.raw (.slice none 0 0)])]⟩) (λk=>f.length-k.1) ⟨0,by simp[h1]⟩ (eW [(1,.nm 1),(2,.nm 2)]) (λk=>?_)
  ·obtain⟨k,hk,hf⟩:=k;simp only;repeat'(first|exact trivial|refine eS rfl ?_|refine AB ?_|refine rX c ?_ ?_|refine rC ?_ ?_<;>intro a<;>try(cases a;done))
   ·exact a
   ·have g:k<f.length:=by exact eV
    have a:¬GG (f.getD k (0,[])) f.length=0:=a;have m:CG f=GG (f.getD k (0,[])) f.length:=by
     rw[<-hf,Ik _ _ g];unfold GG at a ⊢;by_cases b:(f.getD k (0,[])).1<0
     ·rw[BY b,BY b]
     ·rw[An b]at a;rw[An b,An b,BY a]
    have e:BF f=([],GG (f.getD k (0,[])) f.length):=by unfold BF;rw[m,An a]
    exact fI c [.cell 2 25,.tmp 3] (by rw[e];exact eR)
   ·exact eV
   ·have g:k<f.length:=by exact eV
    have a:GG (f.getD k (0,[])) f.length=0:=by simpa using a
    refine⟨⟨k+1,g,?_⟩,by simp only;omega,AC [(1,.nm 1),(2,.nm 2)] rfl rfl ?_ ?_⟩
    ·rw[<-hf,Ik _ _ g];unfold GG at a;by_cases b:(f.getD k (0,[])).1<0
     ·rw[BY b]at a;cases a
     ·rw[An b]at a;rw[An b,An (by rw[a];simp)]
    ·exact eN
    ·exact eN
   ·have d:CG f=0:=by rw[<-hf,By (by exact eV)];rfl
    exact⟨(Io d l).1,oP d hs,If.2 j⟩
   ·have d:CG f=0:=by rw[<-hf,By (by exact eV)];rfl
    have e:BF f=(AO (Dr f) 0,0):=by unfold BF;rw[BY d,oG (Io d l).1 (oP d hs) (ADZ 0) (If.2 j)]
    exact fI c [.cell 2 25,.tmp 3] (by rw[e];exact eR)
end
def Li (h:AH) (f:Int):Int:=(h.2.getD f.toNat (ByteArray.empty,0)).2
def Ml (h:AH) (n:Int):List (Int×Int)->Ed->Option Ed
 | [],s=>some s
 | a :: l,s=>(DH h s n (Li h a.1)).bind (Ml h n l)
def Nl (h:AH) (n:Int):List (Int×Int)->Ed->Option Ed
 | [],s=>some s
 | a :: l,s=>if (B7 h (s.1.getD n.toNat 0) a.1).2=true then (DH h s a.2 (B7 h (s.1.getD n.toNat 0) a.1).1).bind (Nl h n l) else none
def Lj (h:AH) (f:List AD) (n:Int) (s:Ed):Option Ed:=(Ml h n (f.getD n.toNat (0,[])).2 s).bind (Nl h n (f.getD n.toNat (0,[])).2)
def wlF (h:AH) (f:List AD):Nat->Nat->Ed->Option (List Int)
 | 0,_,_=>none
 | k+1,i,s=>if i<s.2.length then (Lj h f (s.2.getD i 0) s).bind (wlF h f k (i+1)) else some s.1
def Bh (f:List AD):List Int:=f.map λx=>x.1
def Ej (f:List AD):List Int:=(List.range f.length).map λi:Nat=>(i:Int)
def FI (f:List AD) (ty:List Int):List AD:=(List.range f.length).map λi=>(ty.getD i 0,(f.getD i (0,[])).2)
structure dY (h:AH):Prop where
 int:∀x∈h.2,0<=x.2/\x.2<(h.1.length:Int)
 val:∀t∈h.1,∀p∈t.2.2.2,0<=p.2/\p.2<(h.1.length:Int)
structure Nm (h:AH) (m:Nat) (s:Ed):Prop where
 len:s.1.length=m
 ty:∀t∈s.1,0<=t/\t<(h.1.length:Int)
 wt:∀n∈s.2,0<=n/\n<(m:Int)
theorem Nm.get {h:AH} {m:Nat} {s:Ed} (hs:Nm h m s) {n:Int} (n0:0<=n) (n1:n<(m:Int)):0<=s.1.getD n.toNat 0/\s.1.getD n.toNat 0<(h.1.length:Int):=by
 have a:n.toNat<s.1.length:=by rw[hs.len];omega
 rw[AS,As a];exact hs.ty _ (nO a)
def A09 (h:AH) (t:Int):Nat:=((List.range h.1.length).filter λi:Nat=>A7 h t (i:Int)).length
def ZW (h:AH) (ty:List Int):Nat:=(ty.map (A09 h)).sum
theorem ZX {α:Type} {p q:α->Bool}:∀ {l:List α},(∀x∈l,q x=true->p x=true)->(∃b∈l,p b=true/\q b=false)->(l.filter q).length<(l.filter p).length
 | [],_,⟨b,c,_⟩=>by cases c
 | x :: l,h1,⟨b,c,f,g⟩=>by
  have i:∀ {l:List α},(∀x∈l,q x=true->p x=true)->(l.filter q).length<=(l.filter p).length:=by
   intro l h;induction l with
   | nil=>exact NO _
   | cons y l j =>
    have e:=j λz d=>h z (OF _ d);rw[bY,bY];by_cases a:q y=true
    ·rw[BY a,BY (h y (by simp) a)];simp only[OS];omega
    ·rw[An a];split
     ·simp only[OS];omega
     ·exact e
  rw[bY,bY];rcases Do.1 c with rfl|c
  ·rw[An (by rw[g];simp),BY f];have:=i λz d=>h1 z (OF _ d);simp only[OS];omega
  ·have e:=ZX (λz d=>h1 z (OF _ d)) ⟨b,c,f,g⟩;by_cases a:q x=true
   ·rw[BY a,BY (h1 x (by simp) a)];simp only[OS];omega
   ·rw[An a];split
    ·simp only[OS];omega
    ·exact e
theorem Ul {h:AH} (hk:GL h) {a:Int} (b:0<=a) (c:a<(h.1.length:Int)):A7 h a a=true:=(Bx hk b c b c).2 λ_ h=>h
theorem Hs {h:AH} (hk:GL h) {a b c:Int} (d:0<=a) (e:a<(h.1.length:Int)) (f:0<=b) (b1:b<(h.1.length:Int)) (c0:0<=c) (c1:c<(h.1.length:Int)) (h1:A7 h a b=true) (g:A7 h b c=true):A7 h a c=true :=
 (Bx hk d e c0 c1).2 λi hi=>(Bx hk d e f b1).1 h1 i ((Bx hk f b1 c0 c1).1 g i hi)
theorem A6S {h:AH} (hk:GL h) (hi:Lq h) {a m:Int} (b:0<=a) (c:a<(h.1.length:Int)) (f:0<=m) (g:m<(h.1.length:Int)) (hs:A7 h a m=true) (i:m≠a):A09 h m<A09 h a:=by
 refine ZX (λx d e=>?_) ⟨a.toNat,Sl.2 (by omega),?_,?_⟩
 ·have d:=Sl.1 d;exact Hs hk b c f g (oF _) (by omega) hs e
 ·rw[AD9 b];exact Ul hk b c
 ·rw[AD9 b];cases e:A7 h m a with
  | false=>rfl
  | true=>exact absurd (hi m a f g b c e hs) i
theorem wR {α:Type} (g:α->Nat) (d:α):∀ {l:List α} {i:Nat} {v:α},i<l.length->((l.set i v).map g).sum+g (l.getD i d)=(l.map g).sum+g v
 | [],i,v,h=>by simp at h
 | x :: l,0,v,h=>by simp only[AEe,So,List.sum_cons,List.getD_cons_zero];omega
 | x :: l,i+1,v,h=>by
  have:=wR g d (l:=l) (i:=i) (v:=v) (by simpa using h);simp only[AEE,So,List.sum_cons,List.getD_cons_succ];omega
theorem FE {h:AH} (hk:GL h) (hi:Lq h) {m:Nat} {s b:Ed} (hs:Nm h m s) {n t:Int} (n0:0<=n) (n1:n<(m:Int)) (o:0<=t) (p:t<(h.1.length:Int)) (e:DH h s n t=some b) :
  Nm h m b/\ZW h b.1+b.2.length<=ZW h s.1+s.2.length/\s.2.length<=b.2.length:=by
 obtain⟨c,d⟩:=hs.get n0 n1;unfold DH at e;split at e
 ·rename_i j;obtain⟨f,g,l,r⟩:=(Me hk c d o p).1 j;generalize (Bo h (s.1.getD n.toNat 0) t).1=v at *;injection e with e
  split at e
  ·subst e;exact⟨hs,NO _,NO _⟩
  ·rename_i k;subst e;have q:=A6S hk hi c d f g l k;have i:n.toNat<s.1.length:=by rw[hs.len];omega
   have hp:=wR (A09 h) 0 (v:=v) i;refine⟨⟨by simp only[UM];exact hs.len,λx a=>?_,λx a=>?_⟩,?_,by simp⟩
   ·rcases ADu a with a|rfl
    ·exact hs.ty x a
    ·exact⟨f,g⟩
   ·rcases No.1 a with a|a
    ·exact hs.wt x a
    ·rw[UF.1 a];exact⟨n0,n1⟩
   ·unfold ZW;simp only[GO,SY];omega
 ·cases e
def Lk (h:AH) (m:Nat) (a:Int×Int):Prop:=(0<=a.1/\a.1<(h.2.length:Int))/\0<=a.2/\a.2<(m:Int)
theorem Mm {h:AH} (hf:dY h) {f:Int} (b:0<=f) (c:f<(h.2.length:Int)):0<=Li h f/\Li h f<(h.1.length:Int):=by
 have a:f.toNat<h.2.length:=by omega
 unfold Li;rw[AS,As a];exact hf.int _ (nO a)
theorem ZY {f:Int}:∀ {l:List (Int×Int)},(EP f l).2=true->(f,(EP f l).1)∈l
 | [],h=>by cases h
 | x :: l,h=>by
  unfold EP at h ⊢;split
  ·rename_i e;rw[<-e];simp
  ·rename_i e;rw[An e]at h;exact OF _ (ZY h)
theorem A0a {h:AH} {t:Int} (a:0<=t) (b:t<(h.1.length:Int)):h.1.getD t.toNat TT∈h.1:=AE h.1 TT (by omega)
theorem HH {h:AH} (hf:dY h) {t f:Int} (a:0<=t) (b:t<(h.1.length:Int)) (e:(B7 h t f).2=true):0<=(B7 h t f).1/\(B7 h t f).1<(h.1.length:Int) :=
 hf.val _ (A0a a b) _ (ZY e)
theorem Qr {h:AH} (hk:GL h) (hi:Lq h) (hf:dY h) {m:Nat} {n:Int} (n0:0<=n) (n1:n<(m:Int)):∀ {l:List (Int×Int)} {s c:Ed},(∀a∈l,Lk h m a)->Nm h m s->Ml h n l s=some c ->
  Nm h m c/\ZW h c.1+c.2.length<=ZW h s.1+s.2.length/\s.2.length<=c.2.length
 | [],s,c,_,hs,e=>by
  injection e with e
  subst e;exact⟨hs,NO _,NO _⟩
 | a :: l,s,c,f,hs,e=>by
  unfold Ml at e;cases d:DH h s n (Li h a.1) with
  | none=>rw[d]at e;cases e
  | some s1 =>
   rw[d]at e;obtain⟨⟨g,i⟩,-⟩:=f a (by simp);obtain⟨o,p⟩:=Mm hf g i;obtain⟨j,r,t⟩:=FE hk hi hs n0 n1 o p d;obtain⟨q,u,v⟩:=Qr hk hi hf n0 n1 (λb k=>f b (by simp[k])) j e;exact⟨q,by omega,by omega⟩
theorem Um {h:AH} (hk:GL h) (hi:Lq h) (hf:dY h) {m:Nat} {n:Int} (n0:0<=n) (n1:n<(m:Int)):∀ {l:List (Int×Int)} {s c:Ed},(∀a∈l,Lk h m a)->Nm h m s->Nl h n l s=some c ->
  Nm h m c/\ZW h c.1+c.2.length<=ZW h s.1+s.2.length/\s.2.length<=c.2.length
 | [],s,c,_,hs,e=>by
  injection e with e
  subst e;exact⟨hs,NO _,NO _⟩
 | a :: l,s,c,g,hs,e=>by
  unfold Nl at e;split at e
  ·rename_i o;obtain⟨j,f⟩:=hs.get n0 n1;obtain⟨p,q⟩:=HH hf j f o;cases d:DH h s a.2 (B7 h (s.1.getD n.toNat 0) a.1).1 with
   | none=>rw[d]at e;cases e
   | some s1 =>
    rw[d]at e;obtain⟨-,i,b1⟩:=g a (by simp);obtain⟨f,t,u⟩:=FE hk hi hs i b1 p q d;obtain⟨r,v,w⟩:=Um hk hi hf n0 n1 (λb k=>g b (by simp[k])) f e;exact⟨r,by omega,by omega⟩
  ·cases e
def PK (h:AH) (f:List AD):Prop:=∀x∈f,∀a∈x.2,Lk h f.length a
theorem Mn {h:AH} {f:List AD} (ha:PK h f) {n:Int} (n0:0<=n) (n1:n<(f.length:Int)):∀a∈(f.getD n.toNat (0,[])).2,Lk h f.length a:=ha _ (AE f (0,[]) (by omega))
theorem Wr {h:AH} (hk:GL h) (hi:Lq h) (hf:dY h) {f:List AD} (ha:PK h f) {n:Int} (n0:0<=n) (n1:n<(f.length:Int)) {s a:Ed} (hs:Nm h f.length s) (e:Lj h f n s=some a) :
  Nm h f.length a/\ZW h a.1+a.2.length<=ZW h s.1+s.2.length/\s.2.length<=a.2.length:=by
 unfold Lj at e;cases b:Ml h n (f.getD n.toNat (0,[])).2 s with
 | none=>rw[b]at e;cases e
 | some s1 =>
  rw[b]at e;obtain⟨c,g,i⟩:=Qr hk hi hf n0 n1 (Mn ha n0 n1) hs b;obtain⟨d,j,k⟩:=Um hk hi hf n0 n1 (Mn ha n0 n1) c e;exact⟨d,by omega,by omega⟩
theorem A6T (h:AH) (t:Int):A09 h t<=h.1.length:=by
 unfold A09;exact Sd (aS _ _) (by simp)
theorem A4h (h:AH):∀ty:List Int,ZW h ty<=ty.length*h.1.length
 | []=>by simp[ZW]
 | t :: ty=>by
  have h1:=A4h h ty;have a:=A6T h t;unfold ZW at h1 ⊢;simp only[So,List.sum_cons,OS,AEj,Nat.one_mul];omega
def OI (h:AH) (f:List AD):Nat:=f.length*h.1.length+f.length+1
def Ir (h:AH) (f:List AD):Option (List Int):=wlF h f (OI h f) 0 (Bh f,Ej f)
def Gk (h:AH) (f:List AD):List AD×Bool:=match Ir h f with
 | some ty=>(FI f ty,true)
 | none=>([],false)
theorem A4i {h:AH} {f:List AD} (a:∀x∈f,0<=x.1/\x.1<(h.1.length:Int)):Nm h f.length (Bh f,Ej f):=by
 refine⟨by simp[Bh],λt h1=>?_,λn hn=>?_⟩
 ·obtain⟨x,b,rfl⟩:=IF.1 h1;exact a x b
 ·obtain⟨i,hi,rfl⟩:=IF.1 hn;have:=Sl.1 hi;omega
theorem A4j (h:AH) (f:List AD):ZW h (Bh f)+(Ej f).length+1<=OI h f:=by
 have:=A4h h (Bh f);unfold OI;rw[show (Bh f).length=f.length by simp[Bh]]at this;rw[show (Ej f).length=f.length by simp[Ej]];omega
section
attribute [local go_sem] Da
def A4k (a:Int->Int×Int->Bool) (f:List AD) (i:Nat):AD:=((f.getD i (0,[])).1,(f.getD i (0,[])).2.filter (a (i:Int)))
def GU (a:Int->Int×Int->Bool) (f:List AD) (i:Nat):List AD:=(List.range i).map (A4k a f)
def Ws (a:Int->Int×Int->Bool) (f:List AD):List AD:=AO (GU a f f.length) 0
theorem KQ (a:Int->Int×Int->Bool) (f:List AD) (i:Nat):(GU a f i).length=i:=by simp[GU]
theorem KR (l:List (Int×Int)):n6 l↔l.Pairwise (λa b=>a.1<b.1):=by
 constructor
 ·intro h;rw[Si];have key:∀d i,i+d+1<l.length->(l.getD i (0,0)).1<(l.getD (i+d+1) (0,0)).1:=by
   intro d;induction d with
   | zero=>intro i hi;exact h i hi
   | succ d e =>
    intro i hi;have h1:=e i (by omega);have f:=h (i+d+1) (by omega);have:i+(d+1)+1=i+d+1+1:=by omega
    rw[this];omega
  intro i j hi c g;have h1:=key (j-i-1) i (by omega);rw[show i+(j-i-1)+1=j by omega]at h1;simpa[AS,hi,c] using h1
 ·intro h i hi;rw[Si]at h;have:=h i (i+1) (by omega) hi (by omega);simpa[AS,hi,show i<l.length by omega] using this
theorem oQ {l:List (Int×Int)} (h:n6 l) (p:Int×Int->Bool):n6 (l.filter p):=by
 rw[KR]at h ⊢;exact h.sublist List.filter_sublist
theorem ZZ {f:List AD} (hf:AX f) (hs:Lr f) (d:Int->Int×Int->Bool):AX (GU d f f.length)/\Lr (GU d f f.length):=by
 have e:∀i,i<f.length->f.getD i (0,[])∈f:=λi hi=>AE f (0,[]) hi;refine⟨⟨by rw[KQ];exact hf.1,λx c=>?_⟩,λx c=>?_⟩
 ·obtain⟨i,hi,rfl⟩:=IF.1 c;have hi:i<f.length:=Sl.1 hi;obtain⟨h1,b⟩:=hf.2 _ (e i hi);rw[KQ];exact⟨Sd (aS _ _) h1,λa ha=>b a (ACV.1 ha).1⟩
 ·obtain⟨i,hi,rfl⟩:=IF.1 c;have hi:i<f.length:=Sl.1 hi;obtain⟨h1,b⟩:=hs _ (e i hi);exact⟨oQ h1 _,Sd (aS _ _) b⟩
theorem oT (p:Int×Int->Bool) (l:List (Int×Int)) {k:Nat} (h:k<l.length):(l.take (k+1)).filter p=(l.take k).filter p++(if p (l.getD k (0,0)) then [l.getD k (0,0)] else []):=by
 rw[A0 l (0,0) h,ADO]
 congr 1
 rw[bY,AE2]
def Ll (l:List Int):List (Int×Bool):=l.foldl (λm x=>GM T3 .bool x true m) []
theorem tE {b:Ty} (x k:Int) (v:b.den) (m:List (Int×b.den)):Bi T3 b x (GM T3 b k v m)=if x=k then some v else Bi T3 b x m:=by
 induction m with
 | nil=>simp[GM,Bi,Hv]
 | cons y m g =>
  simp only[GM];by_cases c:Hv T3 k y.1=true
  ·rw[BY c];have d:k=y.1:=by simpa[Hv] using c
   simp only[Bi,Hv,UH];by_cases a:x=k
   ·rw[BY a,BY a]
   ·rw[An a,An a,An (by rw[<-d];exact a)]
  ·rw[An c];have d:¬k=y.1:=by simpa[Hv] using c
   simp only[Bi];by_cases a:Hv T3 x y.1=true
   ·have f:x=y.1:=by simpa[Hv] using a
    rw[BY a,BY a,An (by rw[f];exact λe=>d e.symm)]
   ·rw[An a,An a,g]
theorem A6U (l:List Int) (x:Int):(Bi T3 .bool x (Ll l)).getD false=v9 l x:=by
 induction l using EX with
 | h0=>rfl
 | h1 l a c =>
  have e:Ll (l++[a])=GM T3 .bool a true (Ll l):=by simp[Ll]
  rw[e,tE];by_cases b:x=a
  ·rw[BY b];subst b;simp[v9]
  ·rw[An b,c];simp only[v9,AE3,List.any_cons,List.any_nil,Bool.or_false];have:(a==x)=false:=by simpa using λe=>b e.symm
   rw[this,Bool.or_false]
end
theorem KS {x y:Int} {xs ys:List Int} (h:LL (x :: xs) (y :: ys)=0):x=y/\LL xs ys=0:=by
 simp only[LL]at h;split at h
 ·cases h
 ·split at h
  ·cases h
  ·exact⟨by omega,h⟩
theorem Wu:∀ {l m:List (Int×Int)} {r s:List Int},l.length=m.length->LL (l.flatMap (λa=>[a.1,a.2])++r) (m.flatMap (λa=>[a.1,a.2])++s)=0->l=m/\LL r s=0
 | [],[],_,_,_,h=>⟨rfl,by simpa using h⟩
 | [],_ :: _,_,_,b,_=>by simp at b
 | _ :: _,[],_,_,b,_=>by simp at b
 | (c,d) :: l,(b1,b2) :: m,r,s,b,h=>by
  have h:LL (c :: d :: (l.flatMap (λa=>[a.1,a.2])++r)) (b1 :: b2 :: (m.flatMap (λa=>[a.1,a.2])++s))=0:=by simpa using h
  obtain⟨e,i⟩:=KS h;obtain⟨f,j⟩:=KS i;obtain⟨g,k⟩:=Wu (l:=l) (m:=m) (by simpa using b) j;exact⟨by rw[e,f,g],k⟩
theorem Wv:∀ {l m:List AD} {r s:List Int},l.length=m.length->LL (l.flatMap WN++r) (m.flatMap WN++s)=0->l=m/\LL r s=0
 | [],[],_,_,_,h=>⟨rfl,by simpa using h⟩
 | [],_ :: _,_,_,b,_=>by simp at b
 | _ :: _,[],_,_,b,_=>by simp at b
 | (d,c) :: l,(b1,b2) :: m,r,s,b,h=>by
  have h:LL (d :: (c.length:Int) :: (c.flatMap (λa=>[a.1,a.2])++(l.flatMap WN++r))) (b1 :: (b2.length:Int) :: (b2.flatMap (λa=>[a.1,a.2])++(m.flatMap WN++s)))=0:=by simpa[WN] using h
  obtain⟨e,i⟩:=KS h;obtain⟨o,j⟩:=KS i;obtain⟨f,k⟩:=Wu (l:=c) (m:=b2) (by omega) j;obtain⟨g,n⟩:=Wv (l:=l) (m:=m) (by simpa using b) k;exact⟨by rw[e,f,g],n⟩
theorem JV {a b:List AD} (h:Cw a b=0):a=b:=by
 unfold Cw Bw at h;obtain⟨h1,c⟩:=KS h;have:=Wv (l:=a) (m:=b) (r:=[]) (s:=[]) (by omega) (by simpa using c);exact this.1
theorem Za:∀l:List Int,LL l l=0
 | []=>rfl
 | x :: l=>by simp[LL,Za l]
theorem Jx (a:List AD):Cw a a=0:=Za _
theorem Ww (x:Int×Int) (s:List (Int×Int)):∀n,(∀j,Il x s n<=j->j<n->x.1<(s.getD j (0,0)).1)/\(0<Il x s n->(s.getD (Il x s n-1) (0,0)).1<=x.1)
 | 0=>⟨λj h1 b=>by omega,λh=>by simp[Il]at h⟩
 | n+1=>by
  obtain⟨h1,b⟩:=Ww x s n;unfold Il;split
  ·rename_i c;refine⟨λj a d=>?_,b⟩;by_cases e:j=n
   ·subst e;exact c
   ·exact h1 j a (by omega)
  ·rename_i c;exact⟨λj a d=>by omega,λ_=>by simp only[Nat.add_sub_cancel];omega⟩
theorem A8P {l:List (Int×Int)} (h:l.Pairwise (λa b=>a.1<=b.1)) {i j:Nat} (d:i<=j) (c:j<l.length):(l.getD i (0,0)).1<=(l.getD j (0,0)).1:=by
 rcases Nat.eq_or_lt_of_le d with rfl|e
 ·exact ADZ _
 ·rw[Si]at h;have:=h i j (by omega) c e;simpa[AS,c,show i<l.length by omega] using this
theorem oU {s:List (Int×Int)} (h:s.Pairwise (λa b=>a.1<=b.1)) (x:Int×Int):(O9 s x).Pairwise (λa b=>a.1<=b.1):=by
 obtain⟨h1,g⟩:=Ww x s s.length;have hp:=Uf x s s.length;unfold O9;generalize Il x s s.length=p at *;rw[ADq,ADq];have f:∀a∈s.take p,a.1<=x.1:=λa ha=>by
  obtain⟨i,hi,rfl⟩:=ACm.1 ha;rw[OR]at hi;have k:=A8P h (i:=i) (j:=p-1) (by omega) (by omega);have l:=g (by omega);have e:(s.take p)[i].1=(s.getD i (0,0)).1:=by simp[AS,show i<s.length by omega]
  rw[e];omega
 have d:∀b∈s.drop p,x.1<=b.1:=λb c=>by
  obtain⟨i,hi,rfl⟩:=ACm.1 c;rw[UI]at hi;have k:=h1 (p+i) (by omega) (by omega);have e:(s.drop p)[i].1=(s.getD (p+i) (0,0)).1:=by simp[AS,show p+i<s.length by omega]
  rw[e];omega
 refine⟨⟨h.sublist (List.take_sublist _ _),by simp,λa ha b c=>?_⟩,h.sublist (List.drop_sublist _ _),λa ha b c=>?_⟩
 ·have:b=x:=by simpa using c
  rw[this];exact f a ha
 ·rcases No.1 ha with ha|ha
  ·exact ADy (f a ha) (d b c)
  ·have:a=x:=by simpa using ha
   rw[this];exact d b c
theorem UD (l:List (Int×Int)):(Af l).Pairwise (λa b=>a.1<=b.1):=by
 induction l using EX with
 | h0=>exact List.Pairwise.nil
 | h1 l a c=>rw[Hr];exact oU c a
theorem TZ {n:Int}:∀ {l seen:List (Int×Int)},HC n seen l=0->(l.map (·.1)).Nodup/\∀a∈l,∀b∈seen,b.1≠a.1
 | [],_,_=>⟨by simp,λa ha=>by cases ha⟩
 | x :: l,seen,h=>by
  simp only[HC]at h;split at h
  ·cases h
  ·split at h
   ·cases h
   ·rename_i h1 d;obtain⟨g,f⟩:=TZ h;have d:∀b∈seen,b.1≠x.1:=λb c e=>d (Sc.2 ⟨b,c,by simp[e]⟩);refine⟨?_,λa ha b c=>?_⟩
    ·rw[So,UN];refine⟨λi=>?_,g⟩;obtain⟨a,ha,e⟩:=IF.1 i;exact f a ha x (by simp) e.symm
    ·rcases Do.1 ha with rfl|ha
     ·exact d b c
     ·exact f a ha b (by simp[c])
theorem Wx {m:Int}:∀ {f:List AD},HD m f=0->∀x∈f,Ij x.2 m=0
 | [],_,x,a=>by cases a
 | y :: f,h,x,a=>by
  simp only[HD]at h;split at h
  ·cases h
  ·split at h
   ·rename_i h1 b;exact absurd h b
   ·rename_i h1 b;rcases Do.1 a with rfl|a
    ·exact DO b
    ·exact Wx h x a
theorem A0b {l:List (Int×Int)} (h:l.Pairwise (λa b=>a.1<=b.1)) (hn:(l.map (·.1)).Nodup):l.Pairwise (λa b=>a.1<b.1):=by
 rw[List.Nodup,ADc]at hn;refine(h.and hn).imp λ{a b} c=>?_;have h1:=c.1;have d:¬a.1=b.1:=c.2;omega
theorem Mo {f:List AD} (h:D7 f=true):AX f/\Lr f/\0<f.length/\GD f=true:=by
 unfold D7 at h;simp only[AT,UH]at h;obtain⟨⟨e,_⟩,c,d⟩:=h;obtain⟨t,g⟩:=Mc e;have r:WW f:=λx b=>Sd (g x b) (by omega);have a:CG f=0:=by
  unfold BF at c;split at c
  ·assumption
  ·exact c
 obtain⟨o,h0⟩:=Io a r;have k:(BF f).1=JR f 0:=by unfold BF;rw[BY a]
 rw[k]at d;have l:=JV d;refine⟨o,λx b=>⟨?_,Sd (g x b) (by omega)⟩,h0,e⟩;rw[<-l]at b;obtain⟨n,_,rfl⟩:=IF.1 b;rw[KR];have j:((f.getD n.toNat (0,[])).2.map (·.1)).Nodup:=by
  by_cases p:n.toNat<f.length
  ·have q:f.getD n.toNat (0,[])∈f:=AE f (0,[]) p;have m:HD f.length f=0:=by
    unfold CG at a;split at a
    ·cases a
    ·split at a
     ·cases a
     ·exact a
   exact(TZ (Wx m _ q)).1
  ·rw[AS,Sj (by omega)];simp
 have s:=A0b (UD (f.getD n.toNat (0,[])).2) (((FC _).map (·.1)).nodup_iff.2 j);unfold Mb;simp only;rw[ADc];exact s.imp λi=>i
section
attribute [local go_sem] Qq Uk OG WY
theorem A8Q (a b:List AD):(Cw a b==0)=(TX a b==0):=by
 rw[ADz,UH,UH,tB];exact⟨JV,λe=>by rw[e];exact Jx b⟩
def Qs:Ac:={ ins:=[Eg,Dw],pre:=λ(_,f,_)=>Dp f/\TY f,out:=λ(h,f,_)=>[.p Ls (BP h f)] }
attribute [local go_sem] Qs
theorem Zb:Ad Tryz.prog 66 Qs:=by
 refine fK [0,1,2,3,4,5,6,8,10,17,20,21,22,23,31,33,34,35,36,44,50] Tryz.func66 Tryz.ntmps66 (AF A08 (AF A06 AG)) ?_;rintro w0 O0 ⟨⟨b,hf⟩,f,u⟩ d-⟨hs,n⟩;have hs:Dp f:=hs;have n:TY f:=n;simp only[Qs,AM];repeat'(first|exact trivial|refine eS rfl ?_|refine rX d ?_ ?_|refine rC ?_ ?_<;>intro a<;>try(cases a;done))
 ·exact n
 ·have h1:BP (b,hf) f=(BF f).2:=by unfold BP;rw[BY a]
  exact fI d [.tmp 4] (by rw[h1];exact eR)
 ·have t:(BF f).2=0:=by simpa using a
  have x:=TS hs.2;have w:=hs.1;have g:BP (b,hf) f=if f.all (Ui (b,hf))=false then 2 else if (TX f (BF f).1==0)=false then 3 else 0:=by unfold BP;rw[An (by rw[t];simp),A8Q f (BF f).1]
  refine AK (ι:={i:Nat//i<=f.length/\(f.take i).all (Ui (b,hf))=true}) (λi=>⟨[(2,.bp 2 [] 0),(3,.bp 3 [] 0),(5,.bp 5 [] 0),(20,.p Fe f),(21,.p (.int .i64) (f.length:Int)),(22,.p (.int .i64) (i.1:Int))],[(2,.box 31 true [.p Xz b,.p Yu hf]),(3,.box 25 true [.p Fe f]),(5,.box 25 true [.p Fe (BF f).1])]⟩) (λi=>f.length-i.1) ⟨0,by simp⟩ (eW [(2,.nm 2),(3,.nm 3),(5,.nm 5)]) (λi=>?_)
  ·obtain⟨i,hi,l⟩:=i;have r:=λh:i<f.length=>Gf f (0,[]) (Ui (b,hf)) h;simp only;repeat'(first|exact trivial|refine eS rfl ?_|refine rX d ?_ ?_|refine rC ?_ ?_<;>intro a<;>try(cases a;done))
   ·exact a
   ·have c:i<f.length:=If.1 (by assumption);have e:f.all (Ui (b,hf))=false:=by
     rw[ADl];refine⟨_,AE f (0,[]) c,?_⟩;unfold Ui;rw[ADn (ACU.2 a)];simp
    rw[BY e]at g;exact fI d [.tmp 4] (by rw[g];exact eR)
   ·have c:i<f.length:=If.1 (by assumption);have o:=AE f (0,[]) c;have q:Ui (b,hf) (f.getD i (0,[]))=(f.getD i (0,[])).2.all (wA (b,hf)):=by
     unfold Ui;rw[ADm (show (f.getD i (0,[])).1<(b.length:Int) from a)];rfl
    have v:(f.getD i (0,[])).2.length<=100000:=hs.2 _ o;refine AK (ι:={k:Nat//k<=(f.getD i (0,[])).2.length/\((f.getD i (0,[])).2.take k).all (wA (b,hf))=true}) (λk=>⟨[(2,.bp 2 [] 0),(3,.bp 3 [] 0),(5,.bp 5 [] 0),(20,.p Fe f),(21,.p (.int .i64) (f.length:Int)),(22,.p (.int .i64) (i:Int)),(33,.p DN (f.getD i (0,[])).2),(34,.p (.int .i64) ((f.getD i (0,[])).2.length:Int)),(35,.p (.int .i64) (k.1:Int))],[(2,.box 31 true [.p Xz b,.p Yu hf]),(3,.box 25 true [.p Fe f]),(5,.box 25 true [.p Fe (BF f).1])]⟩) (λk=>(f.getD i (0,[])).2.length-k.1) ⟨0,by simp⟩ (eW [(2,.nm 2),(3,.nm 3),(5,.nm 5)]) (λk=>?_)
    ·obtain⟨k,hk,m⟩:=k;have s:=λh:k<(f.getD i (0,[])).2.length=>Gf (f.getD i (0,[])).2 (0,0) (wA (b,hf)) h;simp only;repeat'(first|exact trivial|refine eS rfl ?_|refine AB ?_|refine rX d ?_ ?_|refine rC ?_ ?_<;>intro a<;>try(cases a;done))
     ·exact a
     ·have j:k<(f.getD i (0,[])).2.length:=If.1 (by assumption);have e:f.all (Ui (b,hf))=false:=by
       rw[ADl];refine⟨_,o,?_⟩;rw[q,ADl.2 ⟨_,AE (f.getD i (0,[])).2 (0,0) j,by unfold wA;rw[ADn (ACU.2 a)];simp⟩];simp
      rw[BY e]at g;exact fI d [.tmp 4] (by rw[g];exact eR)
     ·exact eV
     ·have j:k<(f.getD i (0,[])).2.length:=If.1 (by assumption);refine⟨⟨k+1,j,?_⟩,by simp only;omega,AC [(2,.nm 2),(3,.nm 3),(5,.nm 5)] rfl rfl ?_ ?_⟩
      ·rw[s j,m];unfold wA;exact ADm a
      ·exact eN
      ·exact eN
     ·exact eV
     ·have j:(f.getD i (0,[])).2.take k=(f.getD i (0,[])).2:=At (Sb.1 a);rw[j]at m;refine⟨⟨i+1,c,?_⟩,by simp only;omega,AC [(2,.nm 2),(3,.nm 3),(5,.nm 5)] rfl rfl ?_ ?_⟩
      ·rw[r c,l,q,m];rfl
      ·exact eN
      ·exact eN
   ·exact hs
   ·have c:f.take i=f:=At (Sb.1 (by assumption));rw[c]at l;rw[An (by rw[l];simp),BY (by simpa using a)]at g;exact fI d [.tmp 4] (by rw[g];exact eR)
   ·have c:f.take i=f:=At (Sb.1 (by assumption));rw[c]at l;rw[An (by rw[l];simp),An (by rw[a];simp)]at g;exact fI d [.tmp 4] (by rw[g];exact eR)
end
section
attribute [local go_sem] Qs OG WY
def FO (h:AH) (f:List AD) (t:Int):List (Int×Int)->Int
 | []=>0
 | a :: l=>if (B7 h t a.1).2=false then 10 else if A7 h (B7 h t a.1).1 (f.getD a.2.toNat (0,[])).1=false then 11 else FO h f t l
def Ds (h:AH) (f:List AD):List AD->Int
 | []=>0
 | x :: l=>if FO h f x.1 x.2=0 then Ds h f l else FO h f x.1 x.2
def Ag (h:AH) (f:List AD):Int:=if BP h f=0 then Ds h f f else BP h f
structure Chk (h:AH) (f:List AD):Prop where
 ty:∀x∈f,0<=x.1/\x.1<(h.1.length:Int)
 arc:∀x∈f,∀a∈x.2,Lk h f.length a
theorem A4l {h:AH} {f:List AD} (e:BP h f=0):Chk h f:=by
 have h1:(BF f).2=0:=by
  refine DO λhn=>?_;unfold BP at e;rw[BY hn]at e;exact hn e
 have c:CG f=0:=by
  refine DO λhn=>?_;unfold BF at h1;rw[An hn]at h1;exact hn h1
 have d:f.all (Ui h)=true:=by
  cases k:f.all (Ui h) with
  | true=>rfl
  | false =>
   unfold BP at e;rw[An (by rw[h1];simp),BY k]at e;cases e
 have j:HD f.length f=0:=by
  unfold CG at c;split at c
  ·cases c
  ·split at c
   ·cases c
   ·exact c
 have g:=Im j;rw[IS]at d;have i:∀x∈f,x.1<(h.1.length:Int)/\∀a∈x.2,a.1<(h.2.length:Int):=λx b=>by
  have:=d x b;unfold Ui at this;rw[AT,Fj,IS]at this;exact⟨this.1,λa ha=>by have:=this.2 a ha;unfold wA at this;simpa using this⟩
 exact⟨λx b=>⟨(g x b).1,(i x b).1⟩,λx b a ha=>by
  obtain⟨l,m,n⟩:=(g x b).2 a ha;exact⟨⟨l,(i x b).2 a ha⟩,m,n⟩⟩
theorem OJ (h:AH) (f l:List AD) {k:Nat} (hk:k<l.length):Ds h f (l.drop k)=if FO h f (l.getD k (0,[])).1 (l.getD k (0,[])).2=0 then Ds h f (l.drop (k+1)) else FO h f (l.getD k (0,[])).1 (l.getD k (0,[])).2:=by
 rw[Mk (0,[]) hk];rfl
theorem Ta (h:AH) (f:List AD) (t:Int) (l:List (Int×Int)) {k:Nat} (hk:k<l.length):FO h f t (l.drop k)=if (B7 h t (l.getD k (0,0)).1).2=false then 10 else if A7 h (B7 h t (l.getD k (0,0)).1).1 (f.getD (l.getD k (0,0)).2.toNat (0,[])).1=false then 11 else FO h f t (l.drop (k+1)):=by
 rw[Mk (0,0) hk];rfl
def Qt:Ac:={ ins:=[Eg,Dw],pre:=λ(h,f,_)=>dY h/\Dp f/\TY f,out:=λ(h,f,_)=>[.p Ls (Ag h f)] }
attribute [local go_sem] Qt
theorem A0c:Ad Tryz.prog 34 Qt:=by
 refine fK [0,1,2,3,4,5,7,9,10,11,16,19,20,21,22,26,27,28,29,42,53] Tryz.func34 Tryz.ntmps34 (AF Zb (AF wK (AF cE AG))) ?_;rintro w0 O0 ⟨⟨a,hf⟩,f,u⟩ e-⟨o,hs,s⟩;have o:dY (a,hf):=o;have hs:Dp f:=hs;have s:TY f:=s;have K:=hs.1;simp only[Qt,AM];repeat'(first|exact trivial|refine eS rfl ?_|refine rX e ?_ ?_|refine rC ?_ ?_<;>intro b<;>try(cases b;done))
 ·exact⟨hs,s⟩
 ·have j:Ag (a,hf) f=BP (a,hf) f:=An b;exact fI e [.tmp 4] (by rw[j];exact eR)
 ·have C:BP (a,hf) f=0:=by simpa using b
  have j:Ag (a,hf) f=Ds (a,hf) f f:=BY C;obtain⟨A,E⟩:=A4l C;refine AK (ι:={i:Nat//i<=f.length/\Ds (a,hf) f f=Ds (a,hf) f (f.drop i)}) (λi=>⟨[(2,.bp 2 [] 0),(3,.bp 3 [] 0),(19,.p Fe f),(20,.p (.int .i64) (f.length:Int)),(21,.p (.int .i64) (i.1:Int))],[(2,.box 31 true [.p Xz a,.p Yu hf]),(3,.box 25 true [.p Fe f])]⟩) (λi=>f.length-i.1) ⟨0,IN _,rfl⟩ (eW [(2,.nm 2),(3,.nm 3)]) (λi=>?_)
  ·obtain⟨i,hi,g⟩:=i;have I:=λh:i<f.length=>OJ (a,hf) f f h;have H:=λh:i<f.length=>AE f (0,[]) h;simp only;repeat'(first|exact trivial|refine eS rfl ?_|refine rX e ?_ ?_|refine rC ?_ ?_<;>intro b<;>try(cases b;done))
   ·exact b
   ·have q:i<f.length:=If.1 b;have m:=I q;have r:=H q;obtain⟨y,z⟩:=A _ r;have B:=E _ r;have F:=hs.2 _ r;generalize M:f.getD i (0,[])=x at *;obtain⟨t,L⟩:=x;simp only at m y z B F ⊢;refine AK (ι:={k:Nat//k<=L.length/\FO (a,hf) f t L=FO (a,hf) f t (L.drop k)}) (λk=>⟨[(2,.bp 2 [] 0),(3,.bp 3 [] 0),(7,.bp 7 [] 0),(19,.p Fe f),(20,.p (.int .i64) (f.length:Int)),(21,.p (.int .i64) (i:Int)),(26,.p DN L),(27,.p (.int .i64) (L.length:Int)),(28,.p (.int .i64) (k.1:Int))],[(7,.box 93 true [.p T3 t,.p DN L]),(2,.box 31 true [.p Xz a,.p Yu hf]),(3,.box 25 true [.p Fe f])]⟩) (λk=>L.length-k.1) ⟨0,IN _,rfl⟩ (eW [(7,.nm 7),(2,.nm 2),(3,.nm 3)]) (λk=>?_)
    ·obtain⟨k,hk,c⟩:=k;have v:=λh:k<L.length=>Ta (a,hf) f t L h;have G:=λh:k<L.length=>B _ (AE L (0,0) h);simp only;have J:=HH (f:=(L.getD k (0,0)).1) o y z;repeat'(first|exact trivial|refine eS rfl ?_|refine AB ?_|refine rX e ?_ ?_|refine rC ?_ ?_<;>intro b<;>try(cases b;done))
     ·exact b
     ·exact⟨y,z⟩
     ·have d:k<L.length:=by exact eV
      rw[v d,BY b]at c;have l:Ag (a,hf) f=10:=by rw[j,g,m,An (by rw[c];simp),c]
      exact fI e [.tmp 4] (by rw[l];exact eR)
     ·have d:k<L.length:=by exact eV
      obtain⟨-,D,b1⟩:=G d;exact⟨⟨D,b1⟩,J b,A _ (AE f (0,[]) (by omega))⟩
     ·have d:k<L.length:=by exact eV
      have w:(B7 (a,hf) t (List.getD L k (0,0)).1).2=true:=by assumption
      rw[v d,An (by rw[w];simp),BY b]at c;have l:Ag (a,hf) f=11:=by rw[j,g,m,An (by rw[c];simp),c]
      exact fI e [.tmp 4] (by rw[l];exact eR)
     ·omega
     ·have d:k<L.length:=by exact eV
      have w:(B7 (a,hf) t (List.getD L k (0,0)).1).2=true:=by assumption
      rw[v d,An (by rw[w];simp),An (by rw[b];simp)]at c;exact⟨⟨k+1,d,c⟩,by simp only;omega,eW [(7,.nm 7),(2,.nm 2),(3,.nm 3)]⟩
     ·omega
     ·have n:L.drop k=[]:=By (Sb.1 b);rw[n]at c;have c:FO (a,hf) f t L=0:=c;rw[m,BY c]at g;exact⟨⟨i+1,q,g⟩,by simp only;omega,eW [(2,.nm 2),(3,.nm 3)]⟩
   ·have n:f.drop i=[]:=By (Sb.1 b);rw[n]at g;have l:Ag (a,hf) f=0:=by rw[j,g];rfl
    exact fI e [.tmp 4] (by rw[l];exact eR)
theorem A4m:Ad Tryz.prog 124 OG:=by
 refine fK [0,1,2,3,6,7,8,9,19,28] Tryz.func124 Tryz.ntmps124 AG ?_;rintro w0 O0 ⟨⟨b,hf⟩,t,f,u⟩ d q ⟨j,m⟩;simp only[OG,AM];refine Ev.ent (σ':=⟨[(0,.p Eg (b,hf)),(1,.p T3 t),(2,.p T3 f)],[]⟩) ?_ (AC [] rfl rfl ?_ ?_)
 ·repeat'(first|exact trivial|refine eS rfl ?_|refine rX d ?_ ?_)
  ·exact⟨j,m⟩
  ·have o:∀l,l=(List.getD b (Int.toNat t) (ByteArray.empty,[],[],[])).2.2.2->B7 (b,hf) t f=EP f l:=λl e=>by rw[e];rfl
   have r:List.length (List.getD b (Int.toNat t) (ByteArray.empty,[],[],[])).2.2.2<=140737488355328:=(q.1.1.2 _ (AE (b:List HA) TT ((AEp j).2 m))).2.2.2.1;generalize (List.getD b (Int.toNat t) (ByteArray.empty,[],[],[])).2.2.2=l at *;rw[o l rfl];refine AK (ι:={k:Nat//k<=List.length l/\EP f l=EP f (l.drop k)}) (λk=>⟨[(2,.p T3 f),(8,.p Vs l),(9,.p (.int .i64) (k.1:Int))],[]⟩) (λk=>List.length l-k.1) ⟨0,IN _,rfl⟩ (eW []) (λk=>?_)
   ·obtain⟨k,hk,a⟩:=k;have i:=λh:k<List.length l=>Wj f l h;simp only;repeat'(first|exact trivial|refine eS rfl ?_|refine AB ?_|refine rX d ?_ ?_|refine rC ?_ ?_<;>intro c<;>try(cases c;done))
    ·exact c
    ·exact If.2 (by exact eV)
    ·have g:k<List.length l:=by exact eV
     rw[i g,BY c]at a;exact fI d [.tmp 6,.tmp 7] (by rw[a];exact eR)
    ·omega
    ·have g:k<List.length l:=by exact eV
     rw[i g,An c]at a;exact⟨⟨k+1,g,a⟩,by simp only;omega,eW []⟩
    ·have n:List.drop k (l:List (Int×Int))=[]:=By (by exact eV);rw[n]at a;have a:EP f l=(0,false):=a;exact fI d [.tmp 6,.tmp 7] (by rw[a];exact eR)
 ·exact eN
 ·exact eN
end
section
attribute [local go_sem] LN OG QI
theorem A4n {h:AH} (hk:GL h) {a b:Int} (c:0<=a) (d:a<(h.1.length:Int)) (e:0<=b) (b1:b<(h.1.length:Int)):FA (Bc h b) (Bc h a)=A7 h a b:=by
 have f:=hk.1.wds _ (CW c d);have g:=hk.1.wds _ (CW e b1);rw[ADz,Fh g f];exact(Bx hk c d e b1).symm
def cR:Ac:={ ins:=[Eg,T3,T3],pre:=λ(h,a,b,_)=>(((0:Int)<=a/\a<(List.length (h:AH).1:Int))/\((0:Int)<=b/\b<(List.length (h:AH).1:Int)))/\GL h,out:=λ(h,a,b,_)=>[.p .bool (A7 h a b)],lend:=true }
attribute [local go_sem] cR
theorem Mp:Ad Tryz.prog 104 cR:=by
 refine fK [0,1,2,3,6] Tryz.func104 Tryz.ntmps104 (AF Rq AG) ?_;rintro w0 O0 ⟨⟨e,hf⟩,a,b,u⟩ d-⟨⟨ha,c⟩,hk⟩;have hk:GL (e,hf):=hk;have f:=A4n hk ha.1 ha.2 c.1 c.2;have g:(Bc (e,hf) b).length<=100000:=Sd (hk.1.wid _ (CW c.1 c.2)) (by omega);simp only[cR,AM];repeat'(first|exact trivial|refine eS rfl ?_|refine rX d ?_ ?_)
 ·exact⟨c,ha,g⟩
 ·exact fI d [.tmp 6] (by rw[<-f];unfold Bc;exact eR)
def Mq:Ac:={ ins:=[Eg,Dw],pre:=λ(h,f,_)=>dY h/\Dp f/\GL h,out:=λ(h,f,_)=>[.p Ls (Ag h f)] }
attribute [local go_sem] Mq
theorem tF:Ad Tryz.prog 69 Mq:=by
 refine fK [0,1,2,3,4,5,6,7,8,9,10,15,21,33,53,67] Tryz.func69 Tryz.ntmps69 (AF ZO (AF A4m (AF Mp AG))) ?_;rintro w0 O0 ⟨⟨a,hf⟩,f,u⟩ e-⟨n,hs,r⟩;have n:dY (a,hf):=n;have hs:Dp f:=hs;have r:GL (a,hf):=r;have I:=hs.1;simp only[Mq,AM];repeat'(first|exact trivial|refine eS rfl ?_|refine rX e ?_ ?_|refine rC ?_ ?_<;>intro b<;>try(cases b;done))
 ·exact hs
 ·have j:Ag (a,hf) f=BP (a,hf) f:=An b;exact fI e [.tmp 4] (by rw[j];exact eR)
 ·have x:BP (a,hf) f=0:=by simpa using b
  have j:Ag (a,hf) f=Ds (a,hf) f f:=BY x;obtain⟨w,B⟩:=A4l x;refine AK (ι:={i:Nat//i<=f.length/\Ds (a,hf) f f=Ds (a,hf) f (f.drop i)}) (λi=>⟨[(2,.bp 2 [] 0),(3,.bp 3 [] 0),(6,.p (.int .i64) (i.1:Int))],[(2,.box 31 true [.p Xz a,.p Yu hf]),(3,.box 25 true [.p Fe f])]⟩) (λi=>f.length-i.1) ⟨0,IN _,rfl⟩ (eW [(2,.nm 2),(3,.nm 3)]) (λi=>?_)
  ·obtain⟨i,hi,g⟩:=i;have F:=λh:i<f.length=>OJ (a,hf) f f h;have E:=λh:i<f.length=>AE f (0,[]) h;simp only;repeat'(first|exact trivial|refine eS rfl ?_|refine rX e ?_ ?_|refine rC ?_ ?_<;>intro b<;>try(cases b;done))
   ·exact b
   ·have o:i<f.length:=If.1 b;have s:=F o;have q:=E o;obtain⟨y,z⟩:=w _ q;have C:=B _ q;have H:=hs.2 _ q;generalize J:(f.getD i (0,[])).2=L at *;refine AK (ι:={k:Nat//k<=L.length/\FO (a,hf) f (f.getD i (0,[])).1 L=FO (a,hf) f (f.getD i (0,[])).1 (L.drop k)}) (λk=>⟨[(2,.bp 2 [] 0),(3,.bp 3 [] 0),(6,.p (.int .i64) (i:Int)),(7,.p DN L),(8,.p (.int .i64) (k.1:Int))],[(2,.box 31 true [.p Xz a,.p Yu hf]),(3,.box 25 true [.p Fe f])]⟩) (λk=>L.length-k.1) ⟨0,IN _,rfl⟩ (eW [(2,.nm 2),(3,.nm 3)]) (λk=>?_)
    ·obtain⟨k,hk,c⟩:=k;have t:=λh:k<L.length=>Ta (a,hf) f (f.getD i (0,[])).1 L h;have D:=λh:k<L.length=>C _ (AE L (0,0) h);simp only;have G:=HH (f:=(L.getD k (0,0)).1) n y z;repeat'(first|exact trivial|refine eS rfl ?_|refine AB ?_|refine rX e ?_ ?_|refine rC ?_ ?_<;>intro b<;>try(cases b;done))
     ·exact⟨by assumption,b,y,z⟩
     ·have d:k<L.length:=by exact eV
      rw[t d,BY b]at c;have l:Ag (a,hf) f=10:=by rw[j,g,s,An (by rw[c];simp),c]
      exact fI e [.tmp 4] (by rw[l];exact eR)
     ·have d:k<L.length:=by exact eV
      obtain⟨-,A,b1⟩:=D d;exact⟨by assumption,⟨A,b1⟩,⟨G b,w _ (AE f (0,[]) (by omega))⟩,r⟩
     ·have d:k<L.length:=by exact eV
      have v:(B7 (a,hf) (List.getD f i (0,[])).1 (List.getD L k (0,0)).1).2=true:=by assumption
      rw[t d,An (by rw[v];simp),BY b]at c;have l:Ag (a,hf) f=11:=by rw[j,g,s,An (by rw[c];simp),c]
      exact fI e [.tmp 4] (by rw[l];exact eR)
     ·omega
     ·have d:k<L.length:=by exact eV
      have v:(B7 (a,hf) (List.getD f i (0,[])).1 (List.getD L k (0,0)).1).2=true:=by assumption
      rw[t d,An (by rw[v];simp),An (by rw[b];simp)]at c;exact⟨⟨k+1,d,c⟩,by simp only;omega,eW [(2,.nm 2),(3,.nm 3)]⟩
     ·omega
     ·have m:L.drop k=[]:=By (Sb.1 b);rw[m]at c;have c:FO (a,hf) f (f.getD i (0,[])).1 L=0:=c;rw[s,BY c]at g;exact⟨⟨i+1,o,g⟩,by simp only;omega,eW [(2,.nm 2),(3,.nm 3)]⟩
   ·have m:f.drop i=[]:=By (Sb.1 b);rw[m]at g;have l:Ag (a,hf) f=0:=by rw[j,g];rfl
    exact fI e [.tmp 4] (by rw[l];exact eR)
end
section
attribute [local go_sem] OG
theorem tG (h:AH) (hk:GL h) (hi:Lq h) (hf:dY h) (X:h.2.length<=100000) (f:List AD) (P:AX f) (ha:PK h f) (s:Ed) (hs:Nm h f.length s) {n:Int} (n0:0<=n) (n1:n<(f.length:Int)) (T:ZW h s.1+s.2.length<=1000000000) :
  BI Tryz.prog 170 [.bp 1 [] 0,.p Dw f,.p T3 n] (D9 h s) [1]
  (λres z=>(Lj h f n s=none/\res=.p .bool false/\∃A,z=D9 h A)\/∃A,Lj h f n s=some A/\res=.p .bool true/\z=D9 h A):=by
 have H:=Mn ha n0 n1;have Z:(f.getD n.toNat (0,[])).2.length<=100000:=(P.2 _ (AE f (0,[]) (by omega))).1;have O:Lj h f n s=(Ml h n (f.getD n.toNat (0,[])).2 s).bind (Nl h n (f.getD n.toNat (0,[])).2):=rfl;rw[O];refine K0 [0,1,2,4,6,8,10,11,12,18,19,20,21,37,44,45,46,47,76] [] [] Tryz.func170 Tryz.ntmps170 (AF wK AG) ?_;intro w0 K O0 ρ0 a aa ab;simp only[D9,Am];repeat'(first|exact trivial|refine eS rfl ?_|refine rX a ?_ ?_)
 ·exact⟨n0,n1⟩
 ·have Y:f.getD n.toNat (0,[])=f.getD n.toNat (0,[]):=rfl;generalize M:(f.getD n.toNat (0,[])).2=L at *;refine AK (ι:={x:Nat×Ed//x.1<=L.length/\Nm h f.length x.2/\ZW h x.2.1+x.2.2.length<=1000000000/\Ml h n L s=Ml h n (L.drop x.1) x.2}) (λx=>⟨[(0,.bp 1 [] 0),(2,.p T3 n),(4,.bp 4 [] 0),(18,.p DN L),(19,.p (.int .i64) (L.length:Int)),(20,.p (.int .i64) (x.1.1:Int))],[(4,.box 25 true [.p Fe f]),(1,.box 205 true [.p Eg h,.sr 2 T3 0 x.1.2.1.length,.p F3 x.1.2.2]),(2,.arr 3 T3 x.1.2.1)]⟩) (λx=>L.length-x.1.1) ⟨(0,s),IN _,hs,T,rfl⟩ (eW [(4,.nm 4),(1,.nm 1),(2,.nm 2)]) (λx=>?_)
  ·obtain⟨⟨k,s1⟩,R,r,C,i⟩:=x;simp only at R r C i ⊢;repeat'(first|exact trivial|refine eS rfl ?_|refine rX a ?_ ?_|refine rC ?_ ?_<;>intro b<;>try(cases b;done))
   ·exact b
   ·have l:k<L.length:=If.1 b;have d:Ml h n (L.drop k) s1=(DH h s1 n (Li h (L.getD k (0,0)).1)).bind (Ml h n (L.drop (k+1))):=by rw[Mk (0,0) l];rfl
    obtain⟨⟨F,G⟩,u,b1⟩:=H _ (AE L (0,0) l);obtain⟨o,q⟩:=Mm hf F G;obtain⟨w,y⟩:=r.get n0 n1;refine cD 12 a ?_ ?_
    ·exact⟨F,G⟩
    ·refine rM a (n5 h hk s1 n0 (by rw[r.len];exact n1) w y o q (by omega)) [(1,.nm 1),(2,.nm 2)] [2] ?_ ?_ ?_
     ·refine eM ?_;rfl
     ·simp only[D9];exact eN
     ·rintro res z (⟨c,rfl,rfl⟩|⟨s2,c,rfl,rfl⟩)
      ·refine⟨[(1,.nm 1),(2,.nm 2)],.p .bool false,D9 h s1,rfl,rfl,?_,?_,rfl,rfl,?_⟩
       ·simp only[D9];exact eN
       ·exact eN
       ·simp only[D9];refine rL a ?_ ?_
        ·trivial
        ·repeat'(first|exact trivial|refine eS rfl ?_|refine rX a ?_ ?_|refine rC ?_ ?_<;>intro b<;>try(cases b;done))
         refine Ev.ent (σ':=⟨[(6,.p .bool false)],D9 h s1⟩) ?_ (AC [(1,.nm 1),(2,.nm 2)] rfl rfl ?_ ?_)
         ·exact fM a [.tmp 6] (.p .bool false) eT (.inl ⟨by rw[i,d,c];rfl,rfl,s1,rfl⟩)
         ·unfold D9;exact eN
         ·exact eN
      ·refine⟨[(1,.nm 1),(2,.nm 2)],.p .bool true,D9 h s2,rfl,rfl,?_,?_,rfl,rfl,?_⟩
       ·simp only[D9];exact eN
       ·exact eN
       ·simp only[D9];refine rL a ?_ ?_
        ·trivial
        ·obtain⟨D,E,U⟩:=FE hk hi r n0 n1 o q c;repeat'(first|refine eS rfl ?_|refine AB ?_|refine rX a ?_ ?_|refine rC ?_ ?_<;>intro b<;>try(cases b;done))
         ·omega
         ·exact⟨⟨(k+1,s2),l,D,Sd E C,by rw[i,d,c];rfl⟩,by simp only;omega,eW [(4,.nm 4),(1,.nm 1),(2,.nm 2)]⟩
   ·exact⟨n0,n1⟩
   ·have B:L.drop k=[]:=By (Sb.1 b);rw[B]at i;have i:Ml h n L s=some s1:=i;rw[i];have N:(List.getD f n.toNat (0,[])).2=L:=M;rw[N];refine AK (ι:={x:Nat×Ed//x.1<=L.length/\Nm h f.length x.2/\ZW h x.2.1+x.2.2.length<=1000000000/\(some s1).bind (Nl h n L)=Nl h n (L.drop x.1) x.2}) (λx=>⟨[(0,.bp 1 [] 0),(2,.p T3 n),(44,.p DN L),(45,.p (.int .i64) (L.length:Int)),(46,.p (.int .i64) (x.1.1:Int))],[(1,.box 205 true [.p Eg h,.sr 2 T3 0 x.1.2.1.length,.p F3 x.1.2.2]),(2,.arr 3 T3 x.1.2.1)]⟩) (λx=>L.length-x.1.1) ⟨(0,s1),IN _,r,C,rfl⟩ (eW [(1,.nm 1),(2,.nm 2)]) (λx=>?_)
    ·obtain⟨⟨j,s2⟩,Q,m,I,g⟩:=x;simp only at Q m I g ⊢;obtain⟨w,y⟩:=m.get n0 n1;repeat'(first|exact trivial|refine eS rfl ?_|refine rX a ?_ ?_|refine rC ?_ ?_<;>intro b<;>try(cases b;done))
     ·exact b
     ·exact⟨⟨n0,by rw[m.len];exact n1⟩,w,y⟩
     ·have l:j<L.length:=If.1 b;have d:Nl h n (L.drop j) s2=if (B7 h (s2.1.getD n.toNat 0) (L.getD j (0,0)).1).2=true then (DH h s2 (L.getD j (0,0)).2 (B7 h (s2.1.getD n.toNat 0) (L.getD j (0,0)).1).1).bind (Nl h n (L.drop (j+1))) else none:=by rw[Mk (0,0) l];rfl
      obtain⟨-,u,b1⟩:=H _ (AE L (0,0) l);have S:=λe=>HH (f:=(L.getD j (0,0)).1) hf w y e;generalize B7 h (s2.1.getD n.toNat 0) (L.getD j (0,0)).1=v at *;obtain⟨t,ok⟩:=v;refine evP a 3 ?_ ?_
      ·trivial
      ·cases ok with
       | false =>
        rw[An (by simp)]at d;refine rL a ?_ ?_
        ·trivial
        ·repeat'(first|exact trivial|refine eS rfl ?_|refine rX a ?_ ?_|refine rC ?_ ?_<;>intro b<;>try(cases b;done))
         refine Ev.ent (σ':=⟨[(6,.p .bool false)],D9 h s2⟩) ?_ (AC [(1,.nm 1),(2,.nm 2)] rfl rfl ?_ ?_)
         ·exact fM a [.tmp 6] (.p .bool false) eT (.inl ⟨by rw[g,d],rfl,s2,rfl⟩)
         ·unfold D9;exact eN
         ·exact eN
       | true =>
        rw[BY rfl]at d;obtain⟨o,q⟩:=S rfl;simp only at o q d;obtain⟨V,W⟩:=m.get u b1;refine rN 4 a ?_ ?_
        ·trivial
        ·refine clG a (n5 h hk s2 u (by rw[m.len];exact b1) V W o q (by omega)) [(1,.nm 1),(2,.nm 2)] [2] ?_ ?_ ?_
         ·exact eN
         ·simp only[D9];exact eN
         ·rintro res z (⟨c,rfl,rfl⟩|⟨J,c,rfl,rfl⟩)
          ·refine⟨[(1,.nm 1),(2,.nm 2)],.p .bool false,D9 h s2,rfl,rfl,?_,?_,rfl,rfl,?_⟩
           ·simp only[D9];exact eN
           ·exact eN
           ·simp only[D9];refine rL a ?_ ?_
            ·trivial
            ·repeat'(first|exact trivial|refine eS rfl ?_|refine rX a ?_ ?_|refine rC ?_ ?_<;>intro b<;>try(cases b;done))
             refine Ev.ent (σ':=⟨[(6,.p .bool false)],D9 h s2⟩) ?_ (AC [(1,.nm 1),(2,.nm 2)] rfl rfl ?_ ?_)
             ·exact fM a [.tmp 6] (.p .bool false) eT (.inl ⟨by rw[g,d,c];rfl,rfl,s2,rfl⟩)
             ·unfold D9;exact eN
             ·exact eN
          ·refine⟨[(1,.nm 1),(2,.nm 2)],.p .bool true,D9 h J,rfl,rfl,?_,?_,rfl,rfl,?_⟩
           ·simp only[D9];exact eN
           ·exact eN
           ·simp only[D9];refine rL a ?_ ?_
            ·trivial
            ·obtain⟨D,E,U⟩:=FE hk hi m u b1 o q c;repeat'(first|refine eS rfl ?_|refine AB ?_|refine rX a ?_ ?_|refine rC ?_ ?_<;>intro b<;>try(cases b;done))
             ·omega
             ·exact⟨⟨(j+1,J),l,D,Sd E I,by rw[g,d,c];rfl⟩,by simp only;omega,eW [(1,.nm 1),(2,.nm 2)]⟩
     ·have B:L.drop j=[]:=By (Sb.1 b);rw[B]at g;have g:(some s1).bind (Nl h n L)=some s2:=g;refine Ev.ent (σ':=⟨[(6,.p .bool true)],D9 h s2⟩) ?_ (AC [(1,.nm 1),(2,.nm 2)] rfl rfl ?_ ?_)
      ·exact fM a [.tmp 6] (.p .bool true) eT (.inr ⟨s2,g,rfl,rfl⟩)
      ·unfold D9;exact eN
      ·exact eN
end
section
def cS:Ac:={ ins:=[Fe],pre:=λ(l,_)=>List.length l<=100000,out:=λ(l,_)=>[.own 93 NN l] }
attribute [local go_sem] cS
theorem A0d:Ad Tryz.prog 171 cS:=by
 refine fK [0,2,4] Tryz.func171 Tryz.ntmps171 AG ?_;rintro w0 O0 ⟨l,u⟩ a-d;have d:List.length l<=100000:=d;simp only[cS,AM];repeat'(first|exact trivial|refine eS rfl ?_|refine rX a ?_ ?_)
 refine cP 1 a ?_ ?_
 ·trivial
 ·refine y7 a false rfl rfl ?_;intro b e;refine rL a ?_ ?_
  ·trivial
  ·repeat'(first|exact trivial|refine eS rfl ?_|refine rX a ?_ ?_|refine rC ?_ ?_<;>intro c<;>try(cases c;done))
   ·have f:l=[]:=e c;subst f;refine Ev.ent (σ':=⟨[(2,.sr 5 NN 0 0)],[(5,.arr 93 NN [])]⟩) ?_ (AC [(5,.nil)] rfl rfl ?_ ?_)
    ·exact Ob a (.inl rfl) (rv:=.tmp 2) rfl (by simp only[LV,Jn,X1,go_sem,Nat.reduceEqDiff,reduceCtorEq,Nat.reduceAdd,Nat.reduceSub,Nat.reduceMul,Nat.reduceLeDiff,Nat.reduceLT,Int.reduceLE,Int.reduceToNat,Int.reduceNeg,↓reduceIte])
    ·exact eN
    ·exact eN
   ·simp only[AP];omega
   ·exact Ob a (.inl rfl) (rv:=.tmp 2) rfl (by simp only[LV,Jn,X1,go_sem,Nat.reduceEqDiff,reduceCtorEq,Nat.reduceAdd,Nat.reduceSub,Nat.reduceMul,Nat.reduceLeDiff,Nat.reduceLT,Int.reduceLE,Int.reduceToNat,Int.reduceNeg,↓reduceIte])
structure A8R (h:AH) (f:List AD):Prop where
 ok:GL h
 inj:Lq h
 ft:dY h
 fl:h.2.length<=100000
 good:AX f
 arcs:PK h f
 ty:∀x∈f,0<=x.1/\x.1<(h.1.length:Int)
def SB:Ac:={ ins:=[Eg,Dw],pre:=λ(h,f,_)=>A8R h f,out:=λ(h,f,_)=>[.p Dw (Gk h f).1,.p .bool (Gk h f).2] }
theorem Dt (f:List AD) (ty:List Int):(FI f ty).length=f.length:=by simp[FI]
theorem H6 (f:List AD) (ty:List Int) {i:Nat} (h:i<f.length):(FI f ty).getD i (0,[])=(ty.getD i 0,(f.getD i (0,[])).2):=by
 unfold FI;simp[AS,h]
theorem A0e {α:Type} (F f:List α) (d:α) (b:F.length=f.length) {j:Nat} (h:j<f.length):(F.take j++f.drop j).set j (F.getD j d)=F.take (j+1)++f.drop (j+1)/\(F.take j++f.drop j).getD j d=f.getD j d:=by
 have h1:(F.take j).length=j:=by rw[OR];omega
 have a:f.drop j=f.getD j d :: f.drop (j+1):=by
  rw[On h,AS,As h];rfl
 constructor
 ·rw[A0 F d (by omega),ADM _ _ (by omega),h1,ADr,a];simp
 ·rw[AS,Ss (by omega),h1,ADr,a];rfl
theorem A4o:Ad Tryz.prog 127 SB:=by
 refine fK [0,1,2,3,4,5,6,7,8,9,10,11,16,17,18,19,51,64,72,73,74] Tryz.func127 Tryz.ntmps127 (AF A0d AG) ?_;rintro w0 O0 ⟨⟨a,hf⟩,f,u⟩ c-hp;have hp:A8R (a,hf) f:=hp;have D:=A4j (a,hf) f;have w:=hp.good.1;have S:OI (a,hf) f<=30000000:=by
  have h1:a.length<=256:=hp.ok.2;have C:f.length*a.length<=100000*256:=Nat.mul_le_mul w h1;have R:f.length*(a,hf).1.length<=100000*256:=C;unfold OI;omega
 have J:=A4i hp.ty;simp only[SB,AM];repeat'(first|exact trivial|refine eS rfl ?_|refine rX c ?_ ?_)
 refine AK (ι:={i:Nat//i<=f.length}) (λi=>⟨[(3,.bp 3 [] 0),(4,.bp 4 [] 0),(6,.bp 14 [] 0),(16,.p Fe f),(17,.p (.int .i64) (f.length:Int)),(18,.p (.int .i64) (i.1:Int))],[(3,.box 25 true [.p Fe f]),(4,.box 25 true [.raw (.slice none 0 0)]),(14,.box 205 true [.p Eg (a,hf),.sr 31 T3 0 i.1,.sr 41 T3 0 i.1]),(31,.arr 3 T3 ((Bh f).take i.1)),(41,.arr 3 T3 ((Ej f).take i.1))]⟩) (λi=>f.length-i.1) ⟨0,IN _⟩ (eW [(3,.nm 3),(4,.nm 4),(14,.nm 14),(31,.nil),(41,.nil)]) (λi=>?_)
 ·obtain⟨i,hi⟩:=i;have tl:((Bh f).take i).length=i:=by rw[OR];simp[Bh];omega
  have X:((Ej f).take i).length=i:=by rw[OR];simp[Ej];omega
  have ts:i<f.length->(Bh f).take i++[(f.getD i (0,[])).1]=(Bh f).take (i+1):=λh=>by
   rw[A0 (Bh f) 0 (by simpa[Bh] using h)];simp[Bh,AS,h]
  have P:i<f.length->(Ej f).take i++[(i:Int)]=(Ej f).take (i+1):=λh=>by
   rw[A0 (Ej f) 0 (by simpa[Ej] using h)];simp[Ej,AS,h]
  repeat'(first|exact trivial|refine eS rfl ?_|refine rX c ?_ ?_|refine rC ?_ ?_<;>intro b<;>try(cases b;done))
  ·exact b
  ·have g:i<f.length:=If.1 b;have O:=ts g;have Q:=P g;refine Cc drawsAny c 9 [([1,2,3,4,5,6,7],8)] [0] (by kernel_rfl) (Nk ?_ ?_)
   ·trivial
   ·refine PY c [31] ?_ ?_
    ·simp only[AP];omega
    ·refine Tw c ?_ ?_ ?_
     ·trivial
     ·trivial
     ·repeat'(first|refine eS rfl ?_|refine AB ?_|refine rX c ?_ ?_)
      ·simp only[AP];omega
      ·omega
      ·refine⟨⟨i+1,g⟩,by simp only;omega,AC [(3,.nm 3),(4,.nm 4),(14,.nm 14),(31,.nm 31),(41,.nm 41)] rfl rfl ?_ ?_⟩
       ·simp only[<-O,<-Q];refine eM ?_;simp only[AEL,Nat.min_self,and_self]
       ·exact eN
  ·have g:i=f.length:=by
    have:=Sb.1 b;omega
   subst g;have et:(Bh f).take f.length=Bh f:=At (by simp[Bh]);have v:(Ej f).take f.length=Ej f:=At (by simp[Ej]);have N:(Bh f).length=f.length:=by simp[Bh]
   have Y:(Ej f).length=f.length:=by simp[Ej]
   rw[et,v];have B:(Ej f).take f.length=Ej f:=v;refine F1 [41] ?_;rw[B];refine AK (ι:={x:Nat×Ed//Nm (a,hf) f.length x.2/\ZW (a,hf) x.2.1+x.2.2.length+1<=OI (a,hf) f/\x.1<=x.2.2.length/\∃k,ZW (a,hf) x.2.1+x.2.2.length+1<=k+x.1/\wlF (a,hf) f k x.1 x.2=Ir (a,hf) f}) (λx=>⟨[(3,.bp 3 [] 0),(4,.bp 4 [] 0),(6,.bp 14 [] 0),(9,.p (.int .i64) (x.1.1:Int))],[(3,.box 25 true [.p Fe f]),(4,.box 25 true [.raw (.slice none 0 0)]),(14,.box 205 true [.p Eg (a,hf),.sr 31 T3 0 x.1.2.1.length,.p F3 x.1.2.2]),(31,.arr 3 T3 x.1.2.1)]⟩) (λx=>ZW (a,hf) x.1.2.1+x.1.2.2.length-x.1.1) ⟨(0,Bh f,Ej f),J,D,IN _,OI (a,hf) f,by simp only;omega,rfl⟩ (AC [(3,.nm 3),(4,.nm 4),(14,.nm 14),(31,.nm 31)] rfl rfl ?_ ?_) (λx=>?_)
   ·simp only[N];exact eN
   ·exact eN
   ·obtain⟨⟨i,s⟩,hs,I,hi,k,hk,e⟩:=x;simp only at hs I hi hk e ⊢;repeat'(first|exact trivial|refine eS rfl ?_|refine rX c ?_ ?_|refine rC ?_ ?_<;>intro b<;>try(cases b;done))
    ·have m:i<s.2.length:=If.1 b;obtain⟨z,A⟩:=hs.wt _ (AE s.2 (0:Int) m);obtain⟨k,rfl⟩:∃t,k=t+1:=⟨k-1,by omega⟩;have r:wlF (a,hf) f (k+1) i s=(Lj (a,hf) f (s.2.getD i 0) s).bind (wlF (a,hf) f k (i+1)):=BY m;rw[r]at e;refine cD 9 c ?_ ?_
     ·exact b
     ·refine rM c (tG (a,hf) hp.ok hp.inj hp.ft hp.fl f hp.good hp.arcs s hs z A (by omega)) [(1,.nm 14),(2,.nm 31)] [31] ?_ ?_ ?_
      ·exact eN
      ·simp only[D9];exact eN
      ·rintro res W (⟨l,rfl,d,rfl⟩|⟨d,l,rfl,rfl⟩)
       ·refine⟨[(14,.nm 1),(31,.nm 2)],.p .bool false,[(14,.box 205 true [.p Eg (a,hf),.sr 31 T3 0 d.1.length,.p F3 d.2]),(31,.arr 3 T3 d.1)],rfl,rfl,?_,?_,rfl,rfl,?_⟩
        ·simp only[D9];exact eN
        ·exact eN
        ·refine rL c ?_ ?_
         ·trivial
         ·repeat'(first|exact trivial|refine eS rfl ?_|refine rX c ?_ ?_|refine rC ?_ ?_<;>intro b<;>try(cases b;done))
          have o:Gk (a,hf) f=([],false):=by unfold Gk;rw[<-e,l];rfl
          exact fI c [.cell 4 25,.tmp 5] (by rw[o];exact eR)
       ·obtain⟨M,U,V⟩:=Wr hp.ok hp.inj hp.ft hp.arcs z A hs l;rw[l]at e;refine⟨[(14,.nm 1),(31,.nm 2)],.p .bool true,[(14,.box 205 true [.p Eg (a,hf),.sr 31 T3 0 d.1.length,.p F3 d.2]),(31,.arr 3 T3 d.1)],rfl,rfl,?_,?_,rfl,rfl,?_⟩
        ·simp only[D9];exact eN
        ·exact eN
        ·refine rL c ?_ ?_
         ·trivial
         ·repeat'(first|refine eS rfl ?_|refine AB ?_|refine rX c ?_ ?_|refine rC ?_ ?_<;>intro b<;>try(cases b;done))
          ·omega
          ·exact⟨⟨(i+1,d),M,by simp only;omega,by simp only;omega,k,by simp only;omega,e⟩,by simp only;omega,eW [(3,.nm 3),(4,.nm 4),(14,.nm 14),(31,.nm 31)]⟩
    ·exact w
    ·have m:¬i<s.2.length:=λh=>by
      have:=Sb.1 b;omega
     obtain⟨k,rfl⟩:∃t,k=t+1:=⟨k-1,by omega⟩;have r:wlF (a,hf) f (k+1) i s=some s.1:=An m;have o:Gk (a,hf) f=(FI f s.1,true):=by unfold Gk;rw[<-e,r]
     have q:=Dt f s.1;have K:=λi h=>H6 f s.1 (i:=i) h;generalize hT:FI f s.1=F at *;have L:=hs.len;refine AK (ι:={j:Nat//j<=f.length}) (λj=>⟨[(4,.bp 4 [] 0),(6,.bp 14 [] 0),(10,.bp 10 [] 0),(72,.p (.int .i64) (f.length:Int)),(73,.p (.int .i64) (j.1:Int))],[(10,.box 25 true [.sr 68 NN 0 f.length]),(68,.arr 93 NN (F.take j.1++f.drop j.1)),(4,.box 25 true [.raw (.slice none 0 0)]),(14,.box 205 true [.p Eg (a,hf),.sr 31 T3 0 s.1.length,.p F3 s.2]),(31,.arr 3 T3 s.1)]⟩) (λj=>f.length-j.1) ⟨0,IN _⟩ (eW [(10,.nm 10),(68,.nm 68),(4,.nm 4),(14,.nm 14),(31,.nm 31)]) (λj=>?_)
     ·obtain⟨j,T⟩:=j;have H:=λh:j<f.length=>A0e F f (0,[]) q h;repeat'(first|exact trivial|refine eS rfl ?_|refine AB ?_|refine rX c ?_ ?_|refine rC ?_ ?_<;>intro b<;>try(cases b;done))
      ·exact⟨by rw[L];exact b,b⟩
      ·omega
      ·have n:j<f.length:=If.1 b;obtain⟨y,G⟩:=H n;rw[K j n]at y;refine⟨⟨j+1,n⟩,by simp only;omega,AC [(10,.nm 10),(68,.nm 68),(4,.nm 4),(14,.nm 14),(31,.nm 31)] rfl rfl ?_ ?_⟩
       ·simp only[<-y];refine eM ?_;rw[G]
       ·exact eN
      ·have hF:F.take j=F:=At (by rw[q];exact Sb.1 b);have E:List.drop j f=[]:=By (Sb.1 b);rw[hF,E,Sq];exact fI c [.cell 4 25,.tmp 5] (by rw[o];first|exact eR|refine Xy ?_;exact At (by rw[q];exact NO _))
end
section
open Go
end
structure MI (m:List (Int×Bool)) (l:List Bool):Prop where
 nd:(m.map (·.1)).Nodup
 get:∀k:Int,Bi T3 .bool k m=if 0<=k/\l.getD k.toNat false=true then some true else none
theorem wS (k:Int) (v:Bool):∀ {m:List (Int×Bool)},(m.map (·.1)).Nodup->((GM T3 .bool k v m).map (·.1)).Nodup/\∀x,x∈(GM T3 .bool k v m).map (·.1)->x=k\/x∈m.map (·.1)
 | [],_=>by simp[GM]
 | y :: m,h=>by
  rw[So,UN]at h;unfold GM;split
  ·rename_i e;have e:k=y.1:=by simpa[Hv] using e
   refine⟨?_,λx a=>?_⟩
   ·rw[So,UN,e];exact h
   ·rcases Do.1 a with a|a
    ·exact .inl a
    ·exact .inr (OF _ a)
  ·rename_i e;have e:¬k=y.1:=by simpa[Hv] using e
   obtain⟨c,b⟩:=wS k v h.2;refine⟨?_,λx a=>?_⟩
   ·rw[So,UN];refine⟨λd=>?_,c⟩;rcases b _ d with a|a
    ·exact e a.symm
    ·exact h.1 a
   ·rcases Do.1 a with a|a
    ·exact .inr (by rw[a];simp)
    ·exact(b x a).imp id λg=>OF _ g
theorem oV (k:Int):∀m:List (Int×Bool),(qY T3 .bool k m).Sublist m
 | []=>List.Sublist.refl _
 | y :: m=>by
  unfold qY;split
  ·exact List.sublist_cons_self _ _
  ·exact(oV k m).cons_cons _
theorem Zc {x:Int}:∀ {m:List (Int×Bool)},x∉m.map (·.1)->Bi T3 .bool x m=none
 | [],_=>rfl
 | y :: m,h=>by
  unfold Bi;rw[An (by
   intro e;have e:x=y.1:=by simpa[Hv] using e
   exact h (by rw[e];simp))]
  exact Zc λa=>h (OF _ a)
theorem Zd (x k:Int):∀ {m:List (Int×Bool)},(m.map (·.1)).Nodup->Bi T3 .bool x (qY T3 .bool k m)=if x=k then none else Bi T3 .bool x m
 | [],_=>by simp[qY,Bi]
 | y :: m,h=>by
  rw[So,UN]at h;unfold qY;split
  ·rename_i e;have e:k=y.1:=by simpa[Hv] using e
   by_cases a:x=k
   ·rw[BY a,a,e];exact Zc h.1
   ·rw[An a];have c:¬x=y.1:=by rw[<-e];exact a
    simp[Bi,Hv,c]
  ·rename_i e;have e:¬k=y.1:=by simpa[Hv] using e
   have f:=Zd x k h.2;by_cases b:x=y.1
   ·have d:¬x=k:=by rw[b];exact λg=>e g.symm
    rw[An d];simp[Bi,Hv,b]
   ·have hn:¬Hv T3 x y.1=true:=by simpa[Hv] using b
    simp only[Bi];rw[An hn,An hn,f]
theorem MI.zero:MI [] (List.replicate 0 true):=⟨List.nodup_nil,λk=>by simp[Bi]⟩
theorem MI.put {m:List (Int×Bool)} {i:Nat} (h:MI m (List.replicate i true)):MI (GM T3 .bool (i:Int) true m) (List.replicate (i+1) true):=by
 refine⟨(wS _ _ h.nd).1,λ(k:Int)=>?_⟩;rw[Wp,h.get];by_cases hk:k=(i:Int)
 ·rw[BY hk,BY];subst hk;refine⟨oF _,?_⟩;simp[AS,ADC]
 ·rw[An hk];have e:(0<=k/\(List.replicate i true).getD k.toNat false=true)↔(0<=k/\(List.replicate (i+1) true).getD k.toNat false=true):=by
   simp only[AS,ADC];constructor
   ·rintro⟨a,b⟩;refine⟨a,?_⟩;split at b
    ·rw[BY (by omega)];rfl
    ·simp at b
   ·rintro⟨a,b⟩;refine⟨a,?_⟩;split at b
    ·rw[BY (by omega)];rfl
    ·simp at b
  by_cases c:0<=k/\(List.replicate i true).getD k.toNat false=true
  ·rw[BY c,BY (e.1 c)]
  ·rw[An c,An λg=>c (e.2 g)]
theorem MI.del {m:List (Int×Bool)} {l:List Bool} (h:MI m l) (i:Nat):MI (qY T3 .bool (i:Int) m) (l.set i false):=by
 refine⟨h.nd.sublist ((oV _ m).map _),λ(k:Int)=>?_⟩;rw[Zd _ _ h.nd,h.get];by_cases hk:k=(i:Int)
 ·subst hk;rw[BY rfl,An];rintro⟨-,b⟩;rw[Se]at b;simp only[AS,ACY]at b;rw[BY trivial]at b;split at b<;>simp at b
 ·rw[An hk];by_cases a:0<=k
  ·have c:¬i=k.toNat:=by omega
   simp only[AS,ACY];rw[An c]
  ·rw[An λg=>a g.1,An λg=>a g.1]
theorem NX {x:Int}:∀ {m:List (Int×Bool)},x∈m.map (·.1)->Bi T3 .bool x m≠none
 | y :: m,h=>by
  unfold Bi;split
  ·simp
  ·rename_i e;rcases Do.1 h with h|h
   ·exact absurd (by simp[Hv,h]) e
   ·exact NX h
theorem MI.len {m:List (Int×Bool)} {l:List Bool} (h:MI m l):m.length<=l.length:=by
 have h1:((m.map (·.1)).map Int.toNat).Nodup:=by
  rw[List.Nodup,ADc];refine h.nd.imp_of_mem λ{a b:Int} ha d i e=>i ?_;have h1:=NX ha;have c:=NX d;rw[h.get]at h1 c;have n:0<=a:=DO λg=>h1 (An λq=>g q.1);have o:0<=b:=DO λg=>c (An λq=>g q.1);omega
 have:=EU l.length _ h1 (λj f=>by
  obtain⟨x,k,rfl⟩:=IF.1 f;have h1:=NX k;rw[h.get]at h1;refine DO λhn=>h1 (An λg=>?_);have:=g.2;rw[AS,Sj (by omega)]at this;cases this)
 simpa using this
section
open Go
end
def A0f (N:List AD) (i:Nat) (v:Int×Int):List AD:=N.set i ((N.getD i (0,[])).1,(N.getD i (0,[])).2++[(v.1,(N.length:Int))])++[(v.2,[])]
theorem A4p (N:List AD) (i:Nat) (v:Int×Int):(A0f N i v).length=N.length+1:=by simp[A0f]
structure TI2 (h:AH) (m i k:Nat) (N:List AD):Prop where
 len:N.length<=m
 ty:∀x∈N,0<=x.1/\x.1<(h.1.length:Int)
 lo:∀j,j<i->(N.getD j (0,[])).2.length<=200
 at':(N.getD i (0,[])).2.length<=100+k
 hi:∀j,i<j->(N.getD j (0,[])).2.length<=100
theorem A4q {α:Type} (l:List α) (x d:α) (j:Nat):(l++[x]).getD j d=if j<l.length then l.getD j d else if j=l.length then x else d:=by
 simp only[AS];by_cases h:j<l.length
 ·rw[BY h,Sp h]
 ·rw[An h,Ss (by omega)];by_cases e:j=l.length
  ·rw[BY e,e,ADr];rfl
  ·rw[An e,Sj (by simp only[SY];omega)];rfl
theorem NY {α:Type} (l:List α) (x d:α) {i:Nat} (h:i<l.length) (j:Nat):(l.set i x).getD j d=if j=i then x else l.getD j d:=by
 simp only[AS,ACY];by_cases e:i=j
 ·rw[BY e,BY h,BY e.symm];rfl
 ·rw[An e,An (show ¬j=i by omega)]
theorem A4r {N:List AD} {i:Nat} (h:i<N.length) (v:Int×Int) (j:Nat):(A0f N i v).getD j (0,[])=if j=i then ((N.getD i (0,[])).1,(N.getD i (0,[])).2++[(v.1,(N.length:Int))]) else if j=N.length then (v.2,[]) else N.getD j (0,[]):=by
 unfold A0f;rw[A4q,NY _ _ _ h,UM];by_cases a:j=i
 ·rw[BY a,BY (by omega),BY a]
 ·rw[An a,An a];by_cases c:j<N.length
  ·rw[BY c,An (by omega)]
  ·rw[An c];by_cases b:j=N.length
   ·rw[BY b,BY b]
   ·rw[An b,An b,AS,Sj (by omega)];rfl
theorem TI2.add {h:AH} {m i k:Nat} {N:List AD} (b:TI2 h m i k N) (hi:i<N.length) (f:4096<=m) (e:N.length<4096) {v:Int×Int} (v0:0<=v.2) (v1:v.2<(h.1.length:Int)):TI2 h m i (k+1) (A0f N i v):=by
 have c:=λj=>A4r hi v j;refine⟨by rw[A4p];omega,λx a=>?_,λj d=>?_,?_,λj d=>?_⟩
 ·unfold A0f at a;rcases No.1 a with a|a
  ·rcases ADu a with a|rfl
   ·exact b.ty x a
   ·exact(b.ty (N.getD i (0,[])) (AE N (0,[]) hi) :)
  ·rw[UF.1 a];exact⟨v0,v1⟩
 ·rw[c,An (by omega),An (by omega)];exact b.lo j d
 ·rw[c,BY rfl];have:=b.at';simp only[GO,SY];omega
 ·rw[c,An (by omega)];split
  ·simp
  ·exact b.hi j d
theorem TI2.skip {h:AH} {m i k:Nat} {N:List AD} (a:TI2 h m i k N):TI2 h m i (k+1) N:=⟨a.len,a.ty,a.lo,by have:=a.at';omega,a.hi⟩
theorem TI2.next {h:AH} {m i k:Nat} {N:List AD} (a:TI2 h m i k N) (hk:k<=100):TI2 h m (i+1) 0 N:=⟨a.len,a.ty,λj b=>by
 by_cases e:j=i
 ·have:=a.at';rw[e];omega
 ·exact a.lo j (by omega),a.hi (i+1) (by omega),λj b=>a.hi j (by omega)⟩
section
attribute [local go_sem] SB Qq
attribute [local go_sem] vN A8E ne_eq not_false_eq_true
end
section
attribute [local go_sem] KO KM MY LN
end
section
open Go
end
theorem getD_set_ne {α:Type} (l:List α) (d v:α) {i j:Nat} (h:i≠j):(l.set i v).getD j d=l.getD j d:=by
 simp only[AS];rw[List.getElem?_set_ne h]
theorem YJ {α:Type} (l:List α) (d v:α) {i:Nat} (h:i<l.length):(l.set i v).getD i d=v:=by
 simp only[AS];rw[AEg h];rfl
section
open Go
end
section
attribute [local go_sem] Da
end
section
attribute [local go_sem] Da
def X0 (l:List (Int×Int)) (x:Int):Int:=l.foldl (λt a=>if a.1=x then a.2 else t) (-1)
end
section
attribute [local go_sem] LM ZN
end
abbrev AR (f:List AD) (n:Int):List (Int×Int):=(f.getD n.toNat (0,[])).2
def ER (f:List AD):Int->List Int->Option Int
 | n,[]=>some n
 | n,x :: r=>if X0 (AR f n) x<0 then none else ER f (X0 (AR f n) x) r
theorem Wy (f:List AD):∀(p:List Int) (n m x:Int),ER f n p=some m->ER f n (p++[x])=if X0 (AR f m) x<0 then none else some (X0 (AR f m) x)
 | [],n,m,x,h=>by
  simp only[ER,ACW]at h;subst h;rfl
 | y :: p,n,m,x,h=>by
  simp only[ER,ADh]at h ⊢;split at h
  ·cases h
  ·rename_i a;rw[An a];exact Wy f p _ m x h
theorem wT {l:List (Int×Int)} (h:l.Pairwise (λa b=>a.1<b.1)) {a:Int×Int} (ha:a∈l):X0 l a.1=a.2:=by
 have k:∀(l:List (Int×Int)) (t:Int),(∀b∈l,¬b.1=a.1)->l.foldl (λt b=>if b.1=a.1 then b.2 else t) t=t:=by
  intro l;induction l with
  | nil=>intro t _;rfl
  | cons b l j =>
   intro t d;rw[ON,An (d b (by simp))];exact j t (λc i=>d c (by simp[i]))
 obtain⟨n,m,rfl⟩:=List.append_of_mem ha;rw[ADq,To]at h;obtain⟨-,⟨f,-⟩,-⟩:=h;unfold X0;rw[ADU,ON,BY rfl];exact k m _ (λb g e=>by have:=f b g;omega)
theorem OK {f:List AD} (h:D7 f=true):AO f 0=f:=by
 obtain⟨d,hs,h0,_⟩:=Mo h;unfold D7 at h;simp only[AT,UH]at h;obtain⟨_,a,b⟩:=h;have c:(BF f).1=JR f 0:=by
  unfold BF at a ⊢;split at a
  ·rename_i hh;rw[BY hh]
  ·rename_i hh;exact absurd a hh
 rw[c]at b;rw[<-Mi d hs (by omega) (by omega)];exact JV b
theorem tH {b:Int->Int×Int->Bool} {f:List AD} (h:∀i,i<f.length->∀a∈(f.getD i (0,[])).2,b (i:Int) a=true):GU b f f.length=f:=by
 apply UK
 ·exact KQ _ _ _
 ·intro i h1 c;have e:f.getD i (0,[])=f[i]:=by simp[AS,c]
  have:=h i c;simp only[GU,ADJ,ADN,A4k];rw[List.filter_eq_self.2 this,e]
theorem tI {b:Int->Int×Int->Bool} {f:List AD} (c:D7 f=true) (h:∀i,i<f.length->∀a∈(f.getD i (0,[])).2,b (i:Int) a=true):Ws b f=f:=by
 unfold Ws;rw[tH h];exact OK c
theorem oW {f:List AD} (hf:AX f):∀(k:Nat) (o:List Int) (n:Int),KY f o->0<=n->n<f.length->n∉o->f.length-o.length<=k->DZ f (k+1) o n=DZ f k o n
 | 0,o,n,h,h0,h1,c,hk=>by
  have:=(h.snoc h0 h1 c).len;grind
 | k+1,o,n,h,h0,h1,c,hk=>by
  rw[CH,CH];have key:∀(l:List (Int×Int)) (t:List Int),(∀a∈l,0<=a.2/\a.2<(f.length:Int))->KY f t->f.length-t.length<=k->l.foldl (Ab f (k+1)) t=l.foldl (Ab f k) t:=by
   intro l;induction l with
   | nil=>intros;rfl
   | cons a l p =>
    intro t e m j;have g:=e a (by simp);have hs:Ab f (k+1) t a=Ab f k t a:=by
     unfold Ab;split
     ·rfl
     ·rename_i hn;exact oW hf k t a.2 m g.1 g.2 hn j
    have d:KY f (Ab f k t a)/\t <+: Ab f k t a:=by grind [Ab,EA]
    rw[ON,ON,hs];have:=d.2.length_le;exact p _ (λb i=>e b (by simp[i])) d.1 (by omega)
  exact key _ _ (λa ha=>BD hf ha) (h.snoc h0 h1 c) (by simp only[GO,SY];omega)
theorem Gq (f:List AD):KY f []:=⟨by simp,λx a=>by cases a⟩
theorem Qu {f:List AD} (hf:AX f) {n:Int} (h0:0<=n) (h1:n<f.length):∀m,DZ f (f.length+m) [] n=DZ f f.length [] n
 | 0=>rfl
 | m+1=>by
  rw[<-AEO,oW hf _ [] n (Gq f) h0 h1 (by simp) (by simp only[AD7];omega)];exact Qu hf h0 h1 m
structure Iso (Q R:List AD) (ψ:Int->Int) (C:Int->Prop):Prop where
 arc:∀i,C i->AR R (ψ i)=(AR Q i).map λa=>(a.1,ψ a.2)
 cl:∀i,C i->∀a∈AR Q i,C a.2
 inj:∀i j,C i->C j->ψ i=ψ j->i=j
theorem Qv {Q R:List AD} {c:Int->Int} {d:Int->Prop} (h:Iso Q R c d):∀(k:Nat) (t:List Int) (i:Int),(∀x∈t,d x)->d i->DZ R k (t.map c) (c i)=(DZ Q k t i).map c/\∀x∈DZ Q k t i,d x
 | 0,t,i,f,hi=>⟨rfl,f⟩
 | k+1,t,i,f,hi=>by
  have key:∀(l:List (Int×Int)) (t:List Int),(∀a∈l,d a.2)->(∀x∈t,d x) ->
    (l.map λa=>(a.1,c a.2)).foldl (Ab R k) (t.map c)=(l.foldl (Ab Q k) t).map c/\∀x∈l.foldl (Ab Q k) t,d x:=by
   intro l;induction l with
   | nil=>intro t _ f;exact⟨rfl,f⟩
   | cons a l q =>
    intro t j f;have ha:=j a (by simp);have hs:Ab R k (t.map c) (a.1,c a.2)=(Ab Q k t a).map c/\∀x∈Ab Q k t a,d x:=by
     unfold Ab;by_cases m:a.2∈t
     ·grind
     ·have p:¬c a.2∈t.map c:=by
       intro hh;obtain⟨x,g,e⟩:=IF.1 hh;exact m (h.inj x a.2 (f x g) ha e▸g)
      rw[An m];simp only[An p];exact Qv h k t a.2 f ha
    rw[So,ON,ON,hs.1];exact q _ (λb o=>j b (by simp[o])) hs.2
  rw[CH,CH];have e:t.map c++[c i]=(t++[i]).map c:=by simp
  have n:(R.getD (c i).toNat (0,[])).2=(AR Q i).map λa=>(a.1,c a.2):=h.arc i hi;rw[n,e];refine key _ _ (h.cl i hi) λx g=>?_;grind
theorem oX {o:List Int} {a:Int->Int} {x:Int} (h:∀y∈o,a y=a x->y=x):B8 (o.map a) (a x)=B8 o x:=by
 have hi:(o.map a).idxOf (a x)=o.idxOf x:=by
  induction o with
  | nil=>rfl
  | cons y o c =>
   rw[So,List.idxOf_cons,List.idxOf_cons];have b:=h y (by simp);by_cases e:y=x
   ·subst e;simp
   ·grind
 grind [B8]
theorem YK {Q R:List AD} {b:Int->Int} {c:Int->Prop} (h:Iso Q R b c) (k:AX Q) (j:c 0) (h0:b 0=0) (r:0<Q.length) (s:Q.length<=R.length)
  (l:∀i,c i->(R.getD (b i).toNat (0,[])).1=(Q.getD i.toNat (0,[])).1):AO R 0=AO Q 0:=by
 have f:DZ R R.length [] 0=(DZ Q Q.length [] 0).map b/\∀x∈DZ Q Q.length [] 0,c x:=by
  have h1:=Qv h R.length [] 0 (λx m=>by cases m) j;rw[h0]at h1;have q:=Qu k (n:=0) (by omega) (by omega) (R.length-Q.length)
  simp_all
 unfold AO;rw[f.1];generalize DZ Q Q.length [] 0=o at *;rw[ACl];refine Sg λi hi=>?_;have d:=f.2 i hi;show Dq R (o.map b) (b i)=Dq Q o i;unfold Dq;have g:(R.getD (b i).toNat (0,[])).2=(AR Q i).map λa=>(a.1,b a.2):=h.arc i d;rw[l i d,g,ACl];refine AD0 _ (Sg λa ha=>?_);show (a.1,B8 (o.map b) (b a.2))=(a.1,B8 o a.2);rw[oX λy p e=>h.inj y a.2 (f.2 y p) (h.cl i d a ha) e]
structure Ord (f:List AD) (o:List Int):Prop where
 ok:KY f o
 zero:o.getD 0 0=0/\0<o.length
 cl:∀n∈o,∀a∈AR f n,a.2∈o
theorem A4s {f:List AD} (hf:AX f) (h0:0<f.length):[0] <+: DZ f f.length [] 0:=by
 obtain⟨k,hk⟩:∃k,f.length=k+1:=⟨f.length-1,by omega⟩;rw[hk,CH];exact(E2 (EA hf k) _ _ (λa ha=>BD hf ha) ((Gq f).snoc (by omega) (by omega) (by simp))).2
theorem A4t {f:List AD} (hf:AX f) (h0:0<f.length):Ord f (DZ f f.length [] 0):=by
 have h1:=EA hf f.length [] 0 (Gq f) (by omega) (by omega) (by simp);have d:=Ip hf f.length [] 0 (Gq f) (by omega) (by omega) (by simp) (by simp);have b:=A4s hf h0;refine⟨h1.1,?_,λn hn a ha=>?_⟩
 ·obtain⟨t,c⟩:=b;rw[<-c];exact⟨rfl,by simp⟩
 ·grind
theorem It {o:List Int} (hn:o.Nodup) {i:Nat} (hi:i<o.length):B8 o (o.getD i 0)=(i:Int):=by grind [B8]
theorem GH {o:List Int} {x:Int} (h:x∈o):0<=B8 o x/\B8 o x<(o.length:Int)/\o.getD (B8 o x).toNat 0=x:=by
 unfold B8;rw[BY h];have a:=List.idxOf_lt_length_of_mem h
 simp_all
theorem A0g (f:List AD):(AO f 0).length=(DZ f f.length [] 0).length:=by simp[AO]
theorem A0h {f:List AD} {i:Nat} (hi:i<(DZ f f.length [] 0).length):(AO f 0).getD i (0,[])=Dq f (DZ f f.length [] 0) ((DZ f f.length [] 0).getD i 0):=by grind [AO]
theorem oY (a:Int->Int×Int->Bool) {f:List AD} {n:Int} (h0:0<=n) (h1:n<f.length):(GU a f f.length).getD n.toNat (0,[])=((f.getD n.toNat (0,[])).1,(AR f n).filter (a n)):=by grind [GU,A4k]
theorem A6X (l:List (Int×Int)) (x:Int):X0 l x=-1\/∃a∈l,a.1=x/\a.2=X0 l x:=by
 have key:∀(l:List (Int×Int)) (t:Int),l.foldl (λt a=>if a.1=x then a.2 else t) t=t\/∃a∈l,a.1=x/\a.2=l.foldl (λt a=>if a.1=x then a.2 else t) t:=by
  intro l;induction l with
  | nil=>intro t;exact .inl rfl
  | cons b l c =>
   intro t;rw[ON];by_cases h:b.1=x
   ·rw[BY h];rcases c b.2 with e|⟨a,ha,e⟩
    ·exact .inr ⟨b,by simp,h,e.symm⟩
    ·exact .inr ⟨a,by simp[ha],e⟩
   ·rw[An h];rcases c t with e|⟨a,ha,e⟩
    ·exact .inl e
    ·exact .inr ⟨a,by simp[ha],e⟩
 exact key l (-1)
theorem A4u {l:List (Int×Int)} {x:Int} (h:0<=X0 l x):∃a∈l,a.1=x/\a.2=X0 l x:=by
 rcases A6X l x with e|h1
 ·omega
 ·exact h1
theorem A4v {f:List AD} (hs:Lr f) (n:Int):(AR f n).Pairwise (λa b=>a.1<b.1):=(KR _).1 (sW hs n).1
theorem A0i {f:List AD} (hf:AX f) (hs:Lr f) (h0:0<f.length) (a:Int->Int×Int->Bool) {n:Int} (hn:n∈DZ (GU a f f.length) f.length [] 0) :
  AR (Ws a f) (B8 (DZ (GU a f f.length) f.length [] 0) n)=((AR f n).filter (a n)).map (Mh (DZ (GU a f f.length) f.length [] 0)):=by
 obtain⟨h,l⟩:=ZZ hf hs a;have c:=KQ a f f.length;have e:=A4t h (by omega);have d:=λi=>A0h (f:=GU a f f.length) (i:=i);rw[c]at e d;obtain⟨j,k,g⟩:=GH hn;have b:=e.ok.rng n hn;rw[c]at b;show ((Ws a f).getD _ (0,[])).2=_;have:Ws a f=AO (GU a f f.length) 0:=rfl;rw[this,d _ (by omega),g];unfold Dq;rw[oY a b.1 b.2]
theorem Ze {f:List AD}:∀(p:List Int) (n:Int) (z:List Int),ER f n p=none->ER f n (p++z)=none
 | [],_,_,h=>by cases h
 | x :: p,n,z,h=>by
  simp only[ER,ADh]at h ⊢;split
  ·rfl
  ·rename_i a;rw[An a]at h;exact Ze p _ z h
theorem A0j {f:List AD} {p:List Int} {e y:Int} (h:ER f 0 (p++[e])=some y):∃x,ER f 0 p=some x/\∃a∈AR f x,a.1=e/\a.2=y:=by
 cases hh:ER f 0 p with
 | none=>rw[Ze p 0 [e] hh]at h;cases h
 | some x =>
  have b:=Wy f p 0 x e hh;rw[h]at b;split at b
  ·cases b
  ·rename_i g;obtain⟨a,ha,c,d⟩:=A4u (l:=AR f x) (x:=e) (by omega);exact⟨x,rfl,a,ha,c,by rw[d];exact(Option.some.inj b).symm⟩
section
attribute [local go_sem] WY
def Db (l:List (Int×Int)) (e:Int):Int:=match l with
 | []=>-1
 | a :: l=>if a.1=e then a.2 else Db l e
theorem Zf (e:Int) (l:List (Int×Int)) {k:Nat} (h:k<l.length):Db (l.drop k) e=if (l.getD k (0,0)).1=e then (l.getD k (0,0)).2 else Db (l.drop (k+1)) e:=by
 rw[On h];have e:l.getD k (0,0)=l[k]:=by simp[AS,h]
 rw[e];rfl
end
section
attribute [local go_sem] WY
structure A4w (a b:List AD) (m:List Int):Prop where
 len:m.length=a.length
 rng:∀x∈m,x<(b.length:Int)
theorem wU {n:Int} (hn:0<=n):∀ {l:List (Int×Int)} (e:Int),(∀x∈l,x.2<n)->Db l e<n
 | [],_,_=>by simp only[Db];omega
 | x :: l,e,h=>by
  simp only[Db];split
  ·exact h x (by simp)
  ·exact wU hn e (λy a=>h y (by simp[a]))
theorem A4w.set {a b:List AD} {m:List Int} (h:A4w a b m) (k:Nat) {v:Int} (d:v<(b.length:Int)):A4w a b (m.set k v):=by
 refine⟨by simp[h.len],λx c=>?_⟩;rcases ADu c with c|c
 ·exact h.rng x c
 ·rw[c];exact d
theorem A4w.get {a b:List AD} {m:List Int} (h:A4w a b m) (c:0<b.length) (k:Nat):m.getD k 0<(b.length:Int):=by
 rw[AS];cases hh:m[k]? with
 | none=>show (0:Int)<_;omega
 | some x=>exact h.rng x (f3 hh)
def EB (h:AH) (f:List AD):Prop:=∀x∈f,0<=x.1/\x.1<(h.1.length:Int)
theorem Wz {f:List AD} (hf:AX f) (k:Nat):∀x∈(f.getD k (0,[])).2,0<=x.2/\x.2<(f.length:Int):=by
 intro x a;by_cases h:k<f.length
 ·exact(hf.2 _ (AE f (0,[]) h)).2 x a
 ·rw[AS,Sj (by omega)]at a;cases a
end
structure OL (h:AH) (a b:List AD) (m:Int->Int):Prop where
 zero:m 0=0
 rng:∀i,0<=i->i<(a.length:Int)->0<=m i/\m i<(b.length:Int)
 ty:∀i,0<=i->i<(a.length:Int)->A7 h (a.getD i.toNat (0,[])).1 (b.getD (m i).toNat (0,[])).1=true
 arc:∀i,0<=i->i<(a.length:Int)->∀x∈AR a i,Db (AR b (m i)) x.1=m x.2
theorem Mr {l:List (Int×Int)} (h:l.Pairwise (λa b=>a.1<b.1)) {a:Int×Int} (ha:a∈l):Db l a.1=a.2:=by
 induction l with
 | nil=>cases ha
 | cons b l d =>
  obtain⟨h1,c⟩:=To.1 h;simp only[Db];rcases Do.1 ha with rfl|ha
  ·rw[BY rfl]
  ·grind
theorem Qw {l:List (Int×Int)} {e:Int} (h:0<=Db l e):∃a∈l,a.1=e/\a.2=Db l e:=by
 induction l with
 | nil=>simp only[Db]at h;omega
 | cons b l c =>
  simp only[Db]at h ⊢;split
  ·grind
  ·grind
theorem A8S {f:List AD} (hs:Lr f) {n:Int} {a:Int×Int} (ha:a∈AR f n):Db (AR f n) a.1=a.2:=Mr (A4v hs n) ha
def RO (f:List AD):Prop:=∀i:Int,0<i->i<(f.length:Int)->∃j,0<=j/\j<i/\∃x∈AR f j,x.2=i
theorem A6Y {M:List Int} {k j:Nat} {v:Int} (hk:k<M.length):(M.set k v).getD j 0=if k=j then v else M.getD j 0:=by grind
theorem W8 {f:List AD} (hf:AX f):∀(k:Nat) (t:List Int) (n:Int),KY f t->0<=n->n<f.length->n∉t ->
  ∀q,t.length<q->q<(DZ f k t n).length->∃j,j<q/\∃a∈AR f ((DZ f k t n).getD j 0),a.2=(DZ f k t n).getD q 0
 | 0,t,n,h,h0,h1,x,q,A,d=>by simp only[DZ]at d;omega
 | k+1,t,n,h,h0,h1,x,q,A,d=>by
  have key:∀(l:List (Int×Int)) (u:List Int),(∀a∈l,a∈AR f n)->KY f u->t++[n] <+: u ->
    (∀q,t.length<q->q<u.length->∃j,j<q/\∃a∈AR f (u.getD j 0),a.2=u.getD q 0) ->
    ∀q,t.length<q->q<(l.foldl (Ab f k) u).length->∃j,j<q/\∃a∈AR f ((l.foldl (Ab f k) u).getD j 0),a.2=(l.foldl (Ab f k) u).getD q 0:=by
   intro l;induction l with
   | nil=>intro u _ _ _ hu q o c;exact hu q o c
   | cons a l G =>
    intro u y hu s E;have ha:=y a (by simp);have g:=BD hf ha;rw[ON];by_cases p:a.2∈u
    ·grind [Ab]
    ·have hs:Ab f k u a=DZ f k u a.2:=by unfold Ab;rw[An p]
     rw[hs];obtain⟨C,w⟩:=EA hf k u a.2 hu g.1 g.2 p;have r:∀j,j<u.length->(DZ f k u a.2).getD j 0=u.getD j 0:=λj D=>by
      obtain⟨v,m⟩:=w;rw[<-m];simp only[AS];rw[Sp D]
     have F:u.getD t.length 0=n:=by
      obtain⟨v,m⟩:=s;rw[<-m];simp[AS]
     have B:t.length<u.length:=by
      have:=s.length_le;simp at this;omega
     refine G (DZ f k u a.2) (λb i=>y b (by simp[i])) C (s.trans w) (λq o c=>?_);by_cases z:q<u.length
     ·obtain⟨j,H,b,i,e⟩:=E q o z;refine⟨j,H,b,?_,?_⟩
      ·rw[r j (by omega)];exact i
      ·rw[r q z];exact e
     ·by_cases d:q=u.length
      ·subst d;refine⟨t.length,B,a,?_,?_⟩
       ·rw[r _ B,F];exact ha
       ·cases k with
        | zero=>simp only[DZ]at c;omega
        | succ k =>
         have hp:u++[a.2] <+: DZ f (k+1) u a.2:=by
          rw[CH];exact(E2 (EA hf k) _ _ (λb i=>BD hf i) (hu.snoc g.1 g.2 p)).2
         obtain⟨v,m⟩:=hp;rw[<-m];simp[AS]
      ·exact W8 hf k u a.2 hu g.1 g.2 p q (by omega) c
  rw[CH]at d ⊢;exact key _ (t++[n]) (λa ha=>ha) (h.snoc h0 h1 x) (ACo _) (λq o c=>by simp only[GO,SY]at c;omega) q A d
theorem A6Z {f:List AD} (hf:AX f) (hs:Lr f) (h0:0<f.length) (b:Int->Int×Int->Bool):RO (Ws b f):=by
 obtain⟨g,t⟩:=ZZ hf hs b;have h:=KQ b f f.length;have c:=A4t g (by omega);have k:=A0g (GU b f f.length);have m:=W8 g (GU b f f.length).length [] 0 (Gq _) (by omega) (by omega) (by simp);have q:=λn hn=>A0i hf hs h0 b (n:=n) hn;rw[h]at c k m;have r:(Ws b f).length=(DZ (GU b f f.length) f.length [] 0).length:=k;intro i s p;rw[r]at p;generalize DZ (GU b f f.length) f.length [] 0=o at *;obtain⟨j,u,a,ha,e⟩:=m i.toNat (by simp only[AD7];omega) (by omega);have l:o.getD j 0∈o:=AE _ 0 (by omega);have d:=c.ok.rng _ l;rw[h]at d;rw[AR,oY b d.1 d.2]at ha;refine⟨(j:Int),by omega,by omega,Mh o a,?_,?_⟩
 ·have:=q _ l;rw[It c.ok.nd (by omega)]at this;rw[this];exact IF.2 ⟨a,ha,rfl⟩
 ·show B8 o a.2=i;rw[e,It c.ok.nd (by omega)];omega
theorem tJ (x:List Int):Md x x=true:=by grind [Md,H5,TM]
theorem SC (h:AH) (t:Int):A7 h t t=true:=tJ _
abbrev EY (p:List Int) (n:Int):Int:=p.getD n.toNat 0
structure Fo (p:List Int) (rk:Int->Nat):Prop where
 rng:∀n,0<=n->n<(p.length:Int)->0<=EY p n/\EY p n<(p.length:Int)
 dec:∀n,0<=n->n<(p.length:Int)->EY p n≠n->rk (EY p n)<rk n
inductive Rt (p:List Int):Int->Int->Prop
 | base {n:Int} (h:EY p n=n):Rt p n n
 | step {n r:Int} (h:EY p n≠n) (h2:Rt p (EY p n) r):Rt p n r
theorem Rt.det {p:List Int} {n r s:Int} (h:Rt p n r) (g:Rt p n s):r=s:=by
 induction h with
 | base h =>
  cases g with
  | base g=>rfl
  | step g _=>exact absurd h g
 | step h _ b =>
  cases g with
  | base g=>exact absurd g h
  | step _ a=>exact b a
theorem Rt.root {p:List Int} {n r:Int} (h:Rt p n r):EY p r=r:=by
 induction h with
 | base h=>exact h
 | step _ _ a=>exact a
theorem Fo.ex {p:List Int} {b:Int->Nat} (h:Fo p b):∀(k:Nat) (n:Int),b n<=k->0<=n->n<(p.length:Int)->∃r,Rt p n r/\0<=r/\r<(p.length:Int)
 | 0,n,hk,h0,h1=>by
  by_cases e:EY p n=n
  ·exact⟨n,.base e,h0,h1⟩
  ·have:=h.dec n h0 h1 e;omega
 | k+1,n,hk,h0,h1=>by
  by_cases e:EY p n=n
  ·exact⟨n,.base e,h0,h1⟩
  ·have g:=h.dec n h0 h1 e;have a:=h.rng n h0 h1;obtain⟨r,c,d,f⟩:=h.ex k (EY p n) (by omega) a.1 a.2;exact⟨r,.step e c,d,f⟩
theorem Fo.root {p:List Int} {a:Int->Nat} (h:Fo p a) {n:Int} (h0:0<=n) (h1:n<(p.length:Int)):∃r,Rt p n r/\0<=r/\r<(p.length:Int):=h.ex (a n) n (NO _) h0 h1
theorem DC {p:List Int} {n v:Int} (h0:0<=n) (h1:n<(p.length:Int)) (x:Int) (a:0<=x):EY (p.set n.toNat v) x=if x=n then v else EY p x:=by
 unfold EY;rw[A6Y (by omega)];by_cases e:x=n
 ·subst e;rw[BY rfl,BY rfl]
 ·rw[An (by omega),An e]
def GI (p:List Int) (n:Int):List Int:=p.set n.toNat (EY p (EY p n))
theorem SD (p:List Int) (n:Int):(GI p n).length=p.length:=by simp[GI]
theorem A4x {p:List Int} {f:Int->Nat} (h:Fo p f) {n:Int} (h0:0<=n) (h1:n<(p.length:Int)) (hn:EY p n≠n):Fo (GI p n) f:=by
 have c:=h.rng n h0 h1;have g:=h.rng _ c.1 c.2;have i:=h.dec n h0 h1 hn;have j:f (EY p (EY p n))<=f (EY p n):=by
  by_cases e:EY p (EY p n)=EY p n
  ·rw[e];exact NO _
  ·exact AEC (h.dec _ c.1 c.2 e)
 refine⟨λx a b=>?_,λx a b d=>?_⟩
 ·rw[SD]at b ⊢;unfold GI;rw[DC h0 h1 x a];split
  ·exact g
  ·exact h.rng x a b
 ·rw[SD]at b;unfold GI at d ⊢;rw[DC h0 h1 x a]at d ⊢;split
  ·rename_i e;subst e;omega
  ·rename_i e;rw[An e]at d;exact h.dec x a b d
theorem oZ {p:List Int} {o:Int->Nat} (h:Fo p o) {n:Int} (h0:0<=n) (h1:n<(p.length:Int)) (hn:EY p n≠n):∀(k:Nat) (x r:Int),o x<=k->0<=x->x<(p.length:Int)->Rt p x r->Rt (GI p n) x r:=by
 intro k;induction k with
 | zero =>
  intro x r hk a j i;have e:EY p x=x:=DO λe=>by have:=h.dec x a j e;omega
  have d:x≠n:=λb=>hn (b▸e);have:=i.det (.base e);rw[this];refine .base ?_;unfold GI;rw[DC h0 h1 x a,An d];exact e
 | succ k l =>
  intro x r hk a j i;by_cases e:EY p x=x
  ·have d:x≠n:=λb=>hn (b▸e);have:=i.det (.base e);rw[this];refine .base ?_;unfold GI;rw[DC h0 h1 x a,An d];exact e
  ·have u:=h.dec x a j e;have c:=h.rng x a j;have f:Rt p (EY p x) r:=by
    cases i with
    | base g=>exact absurd g e
    | step _ g=>exact g
   by_cases d:x=n
   ·subst d;by_cases b:EY p (EY p x)=EY p x
    ·have:=f.det (.base b);rw[this]at f ⊢;refine .step (r:=EY p x) ?_ ?_
     ·unfold GI;rw[DC h0 h1 x a,BY rfl,b];exact e
     ·have hp:EY (GI p x) x=EY p x:=by
       unfold GI;rw[DC h0 h1 x a,BY rfl,b]
      rw[hp];exact l _ _ (by omega) c.1 c.2 f
    ·have s:=h.dec _ c.1 c.2 b;have m:=h.rng _ c.1 c.2;have t:Rt p (EY p (EY p x)) r:=by
      cases f with
      | base g=>exact absurd g b
      | step _ g=>exact g
     have hp:EY (GI p x) x=EY p (EY p x):=by
      unfold GI;rw[DC h0 h1 x a,BY rfl]
     refine .step ?_ ?_
     ·rw[hp];intro q;rw[q]at s;omega
     ·rw[hp];exact l _ _ (by omega) m.1 m.2 t
   ·have hp:EY (GI p n) x=EY p x:=by
     unfold GI;rw[DC h0 h1 x a,An d]
    refine .step ?_ ?_
    ·rw[hp];exact e
    ·rw[hp];exact l _ _ (by omega) c.1 c.2 f
def E3 (p q:List Int):Prop:=p.length=q.length/\∀x r,0<=x->x<(p.length:Int)->(Rt p x r↔Rt q x r)
theorem E3.refl (p:List Int):E3 p p:=⟨rfl,λ_ _ _ _=>Iff.rfl⟩
theorem E3.trans {p q s:List Int} (h:E3 p q) (g:E3 q s):E3 p s :=
 ⟨h.1.trans g.1,λx r a b=>(h.2 x r a b).trans (g.2 x r a (by rw[<-h.1];exact b))⟩
theorem tK {p:List Int} {d:Int->Nat} (h:Fo p d) {n:Int} (h0:0<=n) (h1:n<(p.length:Int)) (hn:EY p n≠n):E3 p (GI p n):=by
 refine⟨(SD p n).symm,λx r b c=>⟨λa=>oZ h h0 h1 hn _ x r (NO _) b c a,λa=>?_⟩⟩;obtain⟨s,hs,-,-⟩:=h.root b c;have:=oZ h h0 h1 hn _ x s (NO _) b c hs;have e:=this.det a;rw[<-e];exact hs
def Zg (h:AH) (p ty:List Int) (ar:List (List (Int×Int))):List (Nat×Obj):=[(1,.box 111 true [.p Eg h,.sr 2 T3 0 p.length,.sr 3 T3 0 ty.length,.sr 4 DN 0 ar.length]),(2,.arr 3 T3 p),(3,.arr 3 T3 ty),(4,.arr 91 DN ar)]
theorem cU (h:AH) (ty:List Int) (ar:List (List (Int×Int))) (d:Int->Nat) {p:List Int} (hp:Fo p d) {n:Int} (h0:0<=n) (h1:n<(p.length:Int)):BI Tryz.prog 136 [.bp 1 [] 0,.p T3 n] (Zg h p ty ar) [1]
  (λres A=>∃(t:List Int) (r:Int),res=.p T3 r/\A=Zg h t ty ar/\Fo t d/\E3 p t/\Rt p n r):=by
 refine K0 [0,1,4,13] [] [] Tryz.func136 Tryz.ntmps136 AG ?_;intro w0 K O0 ρ0 j C D;simp only[Am,Zg];repeat'(first|exact trivial|refine eS rfl ?_|refine rX j ?_ ?_)
 refine AK (ι:={x:List Int×Int//Fo x.1 d/\E3 p x.1/\0<=x.2/\x.2<(p.length:Int)/\(∀r,Rt x.1 x.2 r->Rt p n r)}) (λx=>⟨[(0,.bp 1 [] 0),(1,.p T3 x.1.2)],[(1,.box 111 true [.p Eg h,.sr 2 T3 0 p.length,.sr 3 T3 0 ty.length,.sr 4 DN 0 ar.length]),(2,.arr 3 T3 x.1.1),(3,.arr 3 T3 ty),(4,.arr 91 DN ar)]⟩) (λx=>d x.1.2) ⟨(p,n),hp,E3.refl p,h0,h1,λ_ g=>g⟩ (eW [(1,.nm 1),(2,.nm 2),(3,.nm 3),(4,.nm 4)]) (λx=>?_)
 ·obtain⟨⟨q,m⟩,b,hs,a,f,s⟩:=x;simp only at b hs a f s;have o:q.length=p.length:=hs.1.symm;have c:=b.rng m a (by omega);simp only;repeat'(first|exact trivial|refine eS rfl ?_|refine AB ?_|refine rX j ?_ ?_|refine rC ?_ ?_<;>intro i<;>try(cases i;done))
  ·exact⟨a,f⟩
  ·exact⟨⟨a,f⟩,⟨c.1,by rw[<-o];exact c.2⟩,a,f⟩
  ·exact⟨a,f⟩
  ·have k:EY q m≠m:=i;have B:=b.dec m a (by omega) k;have u:=b.rng _ c.1 c.2;have w:d (EY q (EY q m))<=d (EY q m):=by
    by_cases e:EY q (EY q m)=EY q m
    ·rw[e];exact NO _
    ·exact AEC (b.dec _ c.1 c.2 e)
   have v:=tK b a (by omega) k;have l:EY (GI q m) m=EY q (EY q m):=by
    unfold GI;rw[DC a (by omega) m a,BY rfl]
   refine⟨⟨(GI q m,EY q (EY q m)),A4x b a (by omega) k,hs.trans v,u.1,by rw[<-o];exact u.2,λr z=>s r ?_⟩,by simp only;omega,AC [(1,.nm 1),(2,.nm 2),(3,.nm 3),(4,.nm 4)] rfl rfl ?_ ?_⟩
   ·refine(v.2 m r a (by omega)).2 (.step ?_ ?_)
    ·rw[l];intro e;rw[e]at w;omega
    ·rw[l];exact z
   ·refine eM ?_;rfl
   ·refine eM ?_;exact l
  ·have y:EY q m=m:=by simpa using i
   refine Ev.ent (σ':=⟨[(4,.p T3 m)],Zg h q ty ar⟩) ?_ (AC [(1,.nm 1),(2,.nm 2),(3,.nm 3),(4,.nm 4)] rfl rfl ?_ ?_)
   ·exact fM j [.tmp 4] (.p T3 m) eT ⟨q,m,rfl,rfl,b,hs,s m (.base y)⟩
   ·unfold Zg;rw[o];exact eN
   ·exact eN
def Cm (b n:Nat):List Int:=(List.range n).map λi=>((b+i:Nat):Int)
def A3 (b:Nat) (l:List (Int×Int)):List (Int×Int):=l.map λa=>(a.1,a.2+(b:Int))
def DI (l:List AD) (n:Nat):List Int:=(l.take n).map λx=>x.1
def F0 (b:Nat) (l:List AD) (n:Nat):List (List (Int×Int)):=(l.take n).map λx=>A3 b x.2
theorem tL (b n:Nat):Cm b (n+1)=Cm b n++[((b+n:Nat):Int)]:=by simp[Cm,UJ]
theorem KT (b n:Nat):(Cm b n).length=n:=by simp[Cm]
theorem A4y (h:AH) (p ty:List Int) (ar:List (List (Int×Int))) (l:List AD) (f:AX l) (J:p.length<=100000) (L:ty.length=p.length) (E:ar.length=p.length) :
  BI Tryz.prog 85 [.bp 1 [] 0,.p Fe l] (Zg h p ty ar) [1]
  (λres D=>res=.raw (.tuple #[])/\D=Zg h (p++Cm p.length l.length) (ty++DI l l.length) (ar++F0 p.length l l.length)):=by
 refine K0 [0,1,4,5,6,7,9,15,16,17,18,46,47,48,49] [] [] Tryz.func85 Tryz.ntmps85 AG ?_;intro w0 K O0 ρ0 c H I;have G:=f.1;simp only[Am,Zg];repeat'(first|exact trivial|refine eS rfl ?_|refine rX c ?_ ?_)
 refine AK (ι:={i:Nat//i<=l.length}) (λi=>⟨[(0,.bp 1 [] 0),(4,.p (.int .i64) (p.length:Int)),(15,.p Fe l),(16,.p (.int .i64) (l.length:Int)),(17,.p (.int .i64) (i.1:Int))],[(1,.box 111 true [.p Eg h,.sr 2 T3 0 (p++Cm p.length i.1).length,.sr 3 T3 0 (ty++DI l i.1).length,.sr 4 DN 0 (ar++F0 p.length l i.1).length]),(2,.arr 3 T3 (p++Cm p.length i.1)),(3,.arr 3 T3 (ty++DI l i.1)),(4,.arr 91 DN (ar++F0 p.length l i.1))]⟩) (λi=>l.length-i.1) ⟨0,IN _⟩ (AC [(1,.nm 1),(2,.nm 2),(3,.nm 3),(4,.nm 4)] rfl rfl ?_ ?_) (λi=>?_)
 ·refine eM ?_;simp[Cm,DI,F0]
 ·exact eN
 ·obtain⟨i,hi⟩:=i;have s:=KT p.length i;have t:=tL p.length i;have y:(DI l i).length=i:=by unfold DI;rw[SX,OR];omega
  have n:(F0 p.length l i).length=i:=by unfold F0;rw[SX,OR];omega
  have z:=λh:i<l.length=>EW (λx:AD=>x.1) l (0,[]) h;have o:=λh:i<l.length=>EW (λx:AD=>A3 p.length x.2) l (0,[]) h;simp only;repeat'(first|exact trivial|refine eS rfl ?_|refine rX c ?_ ?_|refine rC ?_ ?_<;>intro b<;>try(cases b;done))
  ·exact b
  ·refine⟨⟨by omega,by omega⟩,?_⟩;rw[s];simp only[AP];omega
  ·have d:i<l.length:=If.1 b;refine Cc drawsAny c 9 [([1,2,3,4,5,6,7],8)] [0] (by kernel_rfl) (Nk ?_ ?_)
   ·trivial
   ·refine PY c [3] ?_ ?_
    ·rw[y];simp only[AP];omega
    ·refine Tw c ?_ ?_ ?_
     ·trivial
     ·trivial
     ·have A:=z d;have q:=o d;have m:p++Cm p.length i++[(p.length:Int)+(i:Int)]=p++Cm p.length (i+1):=by
       rw[t,Sm];rfl
      have eT:ty++DI l i++[(l.getD i (0,[])).1]=ty++DI l (i+1):=by
       unfold DI;rw[A,Sm]
      have B:p.length+(Cm p.length i).length+1=(p++Cm p.length (i+1)).length:=by rw[GO,KT,KT];omega
      have C:ty.length+(DI l i).length+1=(ty++DI l (i+1)).length:=by rw[<-eT,GO,GO,SY]
      have u:=Wz f i;have N:(l.getD i (0,[])).2.length<=100000:=(f.2 _ (AE l (0,[]) d)).1;repeat'(first|exact trivial|refine eS rfl ?_|refine rX c ?_ ?_)
      rw[m,eT,B,C];generalize M:(l.getD i (0,[])).2=xs at *;refine AK (ι:={k:Nat//k<=xs.length}) (λk=>⟨[(0,.bp 1 [] 0),(4,.p (.int .i64) (p.length:Int)),(7,.sr 61 AU 0 (A3 p.length (xs.take k.1)).length),(15,.p Fe l),(16,.p (.int .i64) (l.length:Int)),(17,.p (.int .i64) (i:Int)),(46,.p DN xs),(47,.p (.int .i64) (xs.length:Int)),(48,.p (.int .i64) (k.1:Int))],[(1,.box 111 true [.p Eg h,.sr 2 T3 0 (p++Cm p.length (i+1)).length,.sr 3 T3 0 (ty++DI l (i+1)).length,.sr 4 DN 0 (ar++F0 p.length l i).length]),(2,.arr 3 T3 (p++Cm p.length (i+1))),(3,.arr 3 T3 (ty++DI l (i+1))),(4,.arr 91 DN (ar++F0 p.length l i)),(61,.arr 106 AU (A3 p.length (xs.take k.1)))]⟩) (λk=>xs.length-k.1) ⟨0,IN _⟩ (AC [(1,.nm 1),(2,.nm 2),(3,.nm 3),(4,.nm 4),(61,.nil)] rfl rfl ?_ ?_) (λk=>?_)
      ·refine eM ?_;rfl
      ·refine eM ?_;rfl
      ·obtain⟨k,hk⟩:=k;have v:(A3 p.length (xs.take k)).length=k:=by unfold A3;rw[SX,OR];omega
       have w:=λh:k<xs.length=>EW (λa:Int×Int=>(a.1,a.2+(p.length:Int))) xs (0,0) h;have r:=λh:k<xs.length=>u _ (AE xs (0,0) h);simp only;repeat'(first|exact trivial|refine eS rfl ?_|refine AB ?_|refine rX c ?_ ?_|refine rC ?_ ?_<;>intro b<;>try(cases b;done))
       ·exact b
       ·have e:k<xs.length:=If.1 b;have F:=r e;refine⟨⟨by omega,by omega⟩,?_⟩;rw[v];simp only[AP];omega
       ·omega
       ·have e:k<xs.length:=If.1 b;have g:A3 p.length (xs.take (k+1))=A3 p.length (xs.take k)++[((xs.getD k (0,0)).1,(xs.getD k (0,0)).2+(p.length:Int))]:=w e;refine⟨⟨k+1,e⟩,by simp only;omega,AC [(1,.nm 1),(2,.nm 2),(3,.nm 3),(4,.nm 4),(61,.nm 61)] rfl rfl ?_ ?_⟩
        ·simp only[g];exact eN
        ·simp only[g];exact eN
       ·rw[n];simp only[AP];omega
       ·omega
       ·have e:xs.take k=xs:=At (Sb.1 b);rw[e];have j:ar++F0 p.length l i++[A3 p.length xs]=ar++F0 p.length l (i+1):=by
         unfold F0;rw[q,Sm]
        refine⟨⟨i+1,d⟩,by simp only;omega,AC [(1,.nm 1),(2,.nm 2),(3,.nm 3),(4,.nm 4)] rfl rfl ?_ ?_⟩
        ·simp only[<-j];exact eN
        ·exact eN
  ·have d:i=l.length:=by omega
   subst d;refine Ev.ent (σ':=⟨[],Zg h (p++Cm p.length l.length) (ty++DI l l.length) (ar++F0 p.length l l.length)⟩) ?_ (AC [(1,.nm 1),(2,.nm 2),(3,.nm 3),(4,.nm 4)] rfl rfl ?_ ?_)
   ·exact fM c [] (.raw (.tuple #[])) rfl ⟨rfl,rfl⟩
   ·unfold Zg;exact eN
   ·exact eN
section
attribute [local go_sem] wC
def Bz:List (Int×Int)->List (Int×Int)->List (Int×Int)×List (Int×Int)
 | [],y=>(y,[])
 | a :: x,[]=>(a :: x,[])
 | a :: x,b :: y =>
  if a.1<b.1 then (a :: (Bz x (b :: y)).1,(Bz x (b :: y)).2)
  else if b.1<a.1 then (b :: (Bz (a :: x) y).1,(Bz (a :: x) y).2)
  else (a :: (Bz x y).1,(a.2,b.2) :: (Bz x y).2)
termination_by x y=>x.length+y.length
structure tM (xs ys:List (Int×Int)) (W0:List (Int×Int)) (s:(List (Int×Int)×List (Int×Int))×(List (Int×Int)×List (Int×Int)×Nat)):Prop where
 hi:s.2.2.2<=s.2.2.1.length
 both:s.2.1++(Bz s.1.1 s.1.2).1=(Bz xs ys).1
 wait:s.2.2.1.take s.2.2.2++(Bz s.1.1 s.1.2).2=W0++(Bz xs ys).2
 len:s.2.1.length+s.1.1.length+s.1.2.length<=xs.length+ys.length
 num:s.2.2.2+s.1.1.length<=W0.length+xs.length
theorem ACu {x y:List (Int×Int)} (h0:0<x.length) (h:y.length=0\/(x.getD 0 (0,0)).1<(y.getD 0 (0,0)).1):Bz x y=(x.getD 0 (0,0) :: (Bz (x.drop 1) y).1,(Bz (x.drop 1) y).2):=by
 cases x with
 | nil=>simp at h0
 | cons a x =>
  cases y with
  | nil =>
   simp only[ADi,UL];cases x<;>simp[Bz]
  | cons b y =>
   have h:a.1<b.1:=by simpa using h
   simp only[ADi,UL];rw[Bz,BY h];rfl
theorem ACv {x y:List (Int×Int)} (h0:0<y.length) (h:x.length=0\/(y.getD 0 (0,0)).1<(x.getD 0 (0,0)).1):Bz x y=(y.getD 0 (0,0) :: (Bz x (y.drop 1)).1,(Bz x (y.drop 1)).2):=by
 cases y with
 | nil=>simp at h0
 | cons b y =>
  cases x with
  | nil=>simp[Bz]
  | cons a x =>
   have h:b.1<a.1:=by simpa using h
   simp only[ADi,UL];rw[Bz,An (by omega),BY h];rfl
theorem A8T {x y:List (Int×Int)} (h0:0<x.length) (h1:0<y.length) (h:(x.getD 0 (0,0)).1=(y.getD 0 (0,0)).1):Bz x y=(x.getD 0 (0,0) :: (Bz (x.drop 1) (y.drop 1)).1,((x.getD 0 (0,0)).2,(y.getD 0 (0,0)).2) :: (Bz (x.drop 1) (y.drop 1)).2):=by
 cases x with
 | nil=>simp at h0
 | cons a x =>
  cases y with
  | nil=>simp at h1
  | cons b y =>
   have h:a.1=b.1:=by simpa using h
   simp only[ADi,UL];rw[Bz,An (by omega),An (by omega)];rfl
section
variable {xs ys W0 x y bo V:List (Int×Int)} {k:Nat}
theorem A8U (h:tM xs ys W0 ((x,y),bo,V,k)) (h0:0<x.length) (f:y.length=0\/(x.getD 0 (0,0)).1<(y.getD 0 (0,0)).1):tM xs ys W0 ((x.drop 1,y),bo++[x.getD 0 (0,0)],V,k):=by
 have e:=ACu h0 f;obtain⟨h1,a,b,c,d⟩:=h;simp only at h1 a b c d;rw[e]at a b;exact⟨h1,by rw[Sm];exact a,b,by simp only[GO,SY,UI];omega,by simp only[UI];omega⟩
theorem A8V (h:tM xs ys W0 ((x,y),bo,V,k)) (h0:0<y.length) (f:x.length=0\/(y.getD 0 (0,0)).1<(x.getD 0 (0,0)).1):tM xs ys W0 ((x,y.drop 1),bo++[y.getD 0 (0,0)],V,k):=by
 have e:=ACv h0 f;obtain⟨h1,a,b,d,c⟩:=h;simp only at h1 a b d c;rw[e]at a b;exact⟨h1,by rw[Sm];exact a,b,by simp only[GO,SY,UI];omega,c⟩
theorem A70 (h:tM xs ys W0 ((x,y),bo,V,k)) (h0:0<x.length) (h1:0<y.length) (g:(x.getD 0 (0,0)).1=(y.getD 0 (0,0)).1):tM xs ys W0 ((x.drop 1,y.drop 1),bo++[x.getD 0 (0,0)],V.take k++[((x.getD 0 (0,0)).2,(y.getD 0 (0,0)).2)],k+1):=by
 have e:=A8T h0 h1 g;obtain⟨c,a,b,d,f⟩:=h;simp only at c a b d f;rw[e]at a b;have i:(V.take k++[((x.getD 0 (0,0)).2,(y.getD 0 (0,0)).2)]).length=k+1:=by simp only[GO,SY,OR];omega
 exact⟨by simp only[i];omega,by rw[Sm];exact a,by simp only;rw[At (by omega),Sm];exact b,by simp only[GO,SY,UI];omega,by simp only[UI];omega⟩
end
def mgO (h:AH) (p ty:List Int) (ar:List (List (Int×Int))) (W:List (Int×Int)) (hi:Nat):List (Nat×Obj) :=
 [(1,.box 111 true [.p Eg h,.sr 2 T3 0 p.length,.sr 3 T3 0 ty.length,.sr 4 DN 0 ar.length]),(2,.arr 3 T3 p),(3,.arr 3 T3 ty),(4,.arr 91 DN ar),(5,.box 108 false [.bp 1 [] 0]),(6,.box 173 false [.sr 7 Rm 0 hi]),(7,.arr 172 Rm W)]
theorem A4A (h:AH) (hh:h.1.length<=100000) (H:∀x∈h.1,x.2.1.length<=100000) (p ty:List Int) (ar:List (List (Int×Int))) (W:List (Int×Int)) (hi:Nat) (I:hi<=W.length) (O:hi<=100000000000) {a b:Int} (m:0<=a) (M:a<(p.length:Int)) (o:0<=b) (b1:b<(p.length:Int)) (U:ty.length=p.length) (N:ar.length=p.length)
  (ta:0<=ty.getD a.toNat 0/\ty.getD a.toNat 0<(h.1.length:Int)) (tb:0<=ty.getD b.toNat 0/\ty.getD b.toNat 0<(h.1.length:Int)) (P:(ar.getD a.toNat []).length<=10000000) (Q:(ar.getD b.toNat []).length<=10000000) :
  BI Tryz.prog 134 [.p T3 a,.p T3 b,.bp 5 [] 0,.bp 6 [] 0] (mgO h p ty ar W hi) [1,5,6]
  (λres A=>((Bo h (ty.getD a.toNat 0) (ty.getD b.toNat 0)).2=false/\res=.p .bool false/\A=mgO h p ty ar W hi) \/
   ((Bo h (ty.getD a.toNat 0) (ty.getD b.toNat 0)).2=true/\res=.p .bool true/\∃n q,q<=n.length/\n.take q=W.take hi++(Bz (ar.getD a.toNat []) (ar.getD b.toNat [])).2 /\
    A=mgO h (p.set b.toNat a) (ty.set a.toNat (Bo h (ty.getD a.toNat 0) (ty.getD b.toNat 0)).1) (ar.set a.toNat (Bz (ar.getD a.toNat []) (ar.getD b.toNat [])).1) n q)):=by
 refine K0 [0,1,2,3,6,7,8,9,10,11,35,71,94,122] [] [] Tryz.func134 Tryz.ntmps134 (AF wD AG) ?_;intro w0 K O0 ρ0 d R S;have u:a<(ty.length:Int):=by omega
 have C:b<(ty.length:Int):=by omega
 have r:a<(ar.length:Int):=by omega
 have B:b<(ar.length:Int):=by omega
 simp only[mgO,Am];repeat'(first|exact trivial|refine eS rfl ?_|refine rX d ?_ ?_|refine rC ?_ ?_<;>intro c<;>try(cases c;done))
 ·refine⟨⟨m,u⟩,⟨o,C⟩,ta,tb,hh,H⟩
 ·refine Ev.ent (σ':=⟨[(6,.p .bool false)],mgO h p ty ar W hi⟩) ?_ (AC [(1,.nm 1),(2,.nm 2),(3,.nm 3),(4,.nm 4),(5,.nm 5),(6,.nm 6),(7,.nm 7)] rfl rfl ?_ ?_)
  ·exact fM d [.tmp 6] (.p .bool false) eT (.inl ⟨c,rfl,rfl⟩)
  ·unfold mgO;exact eN
  ·exact eN
 ·exact⟨o,b1⟩
 ·exact⟨m,u⟩
 ·exact⟨⟨m,r⟩,o,B⟩
 ·generalize T:(Bo h (ty.getD a.toNat 0) (ty.getD b.toNat 0)).1=t at *;generalize X:ar.getD a.toNat []=xs at *;generalize Y:ar.getD b.toNat []=ys at *;refine AK (ι:={s:(List (Int×Int)×List (Int×Int))×(List (Int×Int)×List (Int×Int)×Nat)//tM xs ys (W.take hi) s}) (λs=>⟨[(0,.p T3 a),(1,.p T3 b),(2,.bp 5 [] 0),(3,.bp 6 [] 0),(9,.p DN s.1.1.1),(10,.p DN s.1.1.2),(11,.sr 11 AU 0 s.1.2.1.length)],[(1,.box 111 true [.p Eg h,.sr 2 T3 0 p.length,.sr 3 T3 0 ty.length,.sr 4 DN 0 ar.length]),(2,.arr 3 T3 (p.set b.toNat a)),(3,.arr 3 T3 (ty.set a.toNat t)),(4,.arr 91 DN ar),(5,.box 108 false [.bp 1 [] 0]),(6,.box 173 false [.sr 7 Rm 0 s.1.2.2.2]),(7,.arr 172 Rm s.1.2.2.1),(11,.arr 106 AU s.1.2.1)]⟩) (λs=>s.1.1.1.length+s.1.1.2.length) ⟨((xs,ys),([],W,hi)),I,rfl,rfl,by simp,by simp only[OR];omega⟩ (eW [(1,.nm 1),(2,.nm 2),(3,.nm 3),(4,.nm 4),(5,.nm 5),(6,.nm 6),(7,.nm 7),(11,.nil)]) (λs=>?_)
  ·obtain⟨⟨⟨x,y⟩,bo,V,k⟩,i⟩:=s;have J:=i.len;have L:=i.num;have w:=i.hi;simp only[OR]at J L w ⊢;repeat'(first|exact trivial|refine eS rfl ?_|refine rX d ?_ ?_|refine rC ?_ ?_<;>intro c<;>try(cases c;done))
   ·refine⟨λh=>?_,λh=>?_⟩
    ·rw[AT,Fj]at h;exact h.2
    ·rw[AT,SZ,AD5]at h;have E:=h.1;have l:y.length≠0:=λe=>E (by rw[e];rfl);exact If.2 (ADo l)
   ·have f:0<x.length:=by
     rcases c with c|c
     ·omega
     ·exact If.1 c.1
    have F:y.length=0\/(x.getD 0 (0,0)).1<(y.getD 0 (0,0)).1:=by
     rcases c with c|c
     ·exact .inl (AEP c)
     ·exact .inr c.2
    refine Cc drawsAny d 9 [([0,1,2,3,4],5),([],8)] [6,7] (by kernel_rfl) (Nk ?_ ?_)
    ·exact⟨If.2 f,Sb.2 f⟩
    ·refine PY d [11] ?_ ?_
     ·simp only[AP];omega
     ·refine Nk ?_ ?_
      ·exact Sb.2 f
      ·refine PY d [] ?_ ?_
       ·trivial
       ·refine Tw d ?_ ?_ ?_
        ·exact Sb.2 f
        ·trivial
        ·repeat'(first|refine eS rfl ?_|refine AB ?_)
         exact⟨⟨((x.drop 1,y),bo++[x.getD 0 (0,0)],V,k),A8U i f F⟩,by simp only[UI];omega,eW [(1,.nm 1),(2,.nm 2),(3,.nm 3),(4,.nm 4),(5,.nm 5),(6,.nm 6),(7,.nm 7),(11,.nm 11)]⟩
   ·have l:y.length≠0:=λe=>c.1 (by rw[e];rfl);have D:0<y.length:=ADo l;refine⟨λh=>If.2 D,λh=>?_⟩
    ·rw[SZ,AD5]at h;have l:x.length≠0:=λe=>h (by rw[e];rfl);exact If.2 (ADo l)
   ·have g:0<y.length:=ADo λe=>(by assumption:¬_/\_).1 (by rw[e];rfl);have j:x.length=0\/(y.getD 0 (0,0)).1<(x.getD 0 (0,0)).1:=by
     rcases c with c|c
     ·exact .inl (AEP c)
     ·exact .inr c
    refine Cc drawsAny d 9 [([0,1,2,3,4],5),([],8)] [6,7] (by kernel_rfl) (Nk ?_ ?_)
    ·exact⟨If.2 g,Sb.2 g⟩
    ·refine PY d [11] ?_ ?_
     ·simp only[AP];omega
     ·refine Nk ?_ ?_
      ·exact Sb.2 g
      ·refine PY d [] ?_ ?_
       ·trivial
       ·refine Tw d ?_ ?_ ?_
        ·exact Sb.2 g
        ·trivial
        ·repeat'(first|refine eS rfl ?_|refine AB ?_)
         exact⟨⟨((x,y.drop 1),bo++[y.getD 0 (0,0)],V,k),A8V i g j⟩,by simp only[UI];omega,eW [(1,.nm 1),(2,.nm 2),(3,.nm 3),(4,.nm 4),(5,.nm 5),(6,.nm 6),(7,.nm 7),(11,.nm 11)]⟩
   ·rename_i j;have f:0<x.length:=ADo λe=>c.1 (by rw[e];rfl);have g:0<y.length:=ADo λe=>j.1 (by rw[e];rfl);refine⟨If.2 f,If.2 g,?_⟩;simp only[AP];omega
   ·rename_i j;have f:0<x.length:=ADo λe=>c.1 (by rw[e];rfl);have g:0<y.length:=ADo λe=>j.1 (by rw[e];rfl);have G:(x.getD 0 (0,0)).1=(y.getD 0 (0,0)).1:=Int.le_antisymm c.2 (j.2 (If.2 f));refine Cc drawsAny d 12 [([0,1,2,3,4],5),([],10),([6,7],11)] [8,9] (by kernel_rfl) (Nk ?_ ?_)
    ·exact⟨If.2 f,Sb.2 f,Sb.2 g⟩
    ·refine PY d [11] ?_ ?_
     ·simp only[AP];omega
     ·refine Nk ?_ ?_
      ·exact⟨Sb.2 f,Sb.2 g⟩
      ·refine PY d [] ?_ ?_
       ·trivial
       ·refine Nk ?_ ?_
        ·exact⟨Sb.2 f,Sb.2 g⟩
        ·refine PY d [] ?_ ?_
         ·trivial
         ·refine Tw d ?_ ?_ ?_
          ·exact Sb.2 g
          ·trivial
          ·repeat'(first|refine eS rfl ?_|refine AB ?_)
           exact⟨⟨((x.drop 1,y.drop 1),bo++[x.getD 0 (0,0)],V.take k++[((x.getD 0 (0,0)).2,(y.getD 0 (0,0)).2)],k+1),A70 i f g G⟩,by simp only[UI];omega,eW [(1,.nm 1),(2,.nm 2),(3,.nm 3),(4,.nm 4),(5,.nm 5),(6,.nm 6),(7,.nm 7),(11,.nm 11)]⟩
   ·exact⟨m,r⟩
   ·have f:x=[]:=Sk (by omega);have g:y=[]:=Sk (by omega);subst f g;have v:=i.both;have z:=i.wait;simp only[Bz,Sq]at v z;refine Ev.ent (σ':=⟨[(6,.p .bool true)],mgO h (p.set b.toNat a) (ty.set a.toNat t) (ar.set a.toNat bo) V k⟩) ?_ (AC [(1,.nm 1),(2,.nm 2),(3,.nm 3),(4,.nm 4),(5,.nm 5),(6,.nm 6),(7,.nm 7)] rfl rfl ?_ ?_)
    ·exact fM d [.tmp 6] (.p .bool true) eT (.inr ⟨by assumption,rfl,V,k,w,z,by rw[v];rfl⟩)
    ·unfold mgO;simp only[UM];exact eN
    ·exact eN
end
theorem PM {h:AH} (hk:GL h) {a b c:Int} (d:0<=a) (e:a<(h.1.length:Int)) (f:0<=b) (b1:b<(h.1.length:Int)) (c0:0<=c) (c1:c<(h.1.length:Int)) (h1:A7 h a b=true) (g:A7 h b c=true):A7 h a c=true :=
 (Bx hk d e c0 c1).2 λi hi=>(Bx hk d e f b1).1 h1 i ((Bx hk f b1 c0 c1).1 g i hi)
theorem Qx:∀ {x y:List (Int×Int)} {a:Int×Int},a∈x->a∈(Bz x y).1
 | [],_,_,h=>by cases h
 | b :: x,[],a,h=>by simpa[Bz] using h
 | b :: x,c :: y,a,h=>by
  rw[Bz];split
  ·rcases Do.1 h with rfl|h
   ·simp
   ·exact OF _ (Qx h)
  ·split
   ·exact OF _ (Qx h)
   ·rcases Do.1 h with rfl|h
    ·simp
    ·exact OF _ (Qx h)
termination_by x y=>x.length+y.length
theorem NZ:∀ {x y:List (Int×Int)} {a:Int×Int},a∈y->a∈(Bz x y).1\/∃t,(a.1,t)∈(Bz x y).1/\(t,a.2)∈(Bz x y).2
 | [],y,a,h=>by
  left;simpa[Bz] using h
 | b :: x,[],a,h=>by cases h
 | b :: x,c :: y,a,h=>by
  rw[Bz];split
  ·rcases NZ (x:=x) h with g|⟨t,d,e⟩
   ·exact .inl (OF _ g)
   ·exact .inr ⟨t,OF _ d,e⟩
  ·split
   ·rcases Do.1 h with rfl|h
    ·left;simp
    ·rcases NZ (x:=b :: x) h with g|⟨t,d,e⟩
     ·exact .inl (OF _ g)
     ·exact .inr ⟨t,OF _ d,e⟩
   ·rcases Do.1 h with rfl|h
    ·right;exact⟨b.2,by rw[show a.1=b.1 by omega];simp,by simp⟩
    ·rcases NZ (x:=x) h with g|⟨t,d,e⟩
     ·exact .inl (OF _ g)
     ·exact .inr ⟨t,OF _ d,OF _ e⟩
termination_by x y=>x.length+y.length
theorem JW:∀ {x y:List (Int×Int)} {a:Int×Int},a∈(Bz x y).1->a∈x\/a∈y
 | [],y,a,h=>by
  right;simpa[Bz] using h
 | b :: x,[],a,h=>by
  left;simpa[Bz] using h
 | b :: x,c :: y,a,h=>by
  rw[Bz]at h;split at h
  ·rcases Do.1 h with rfl|h
   ·left;simp
   ·rcases JW h with g|g
    ·exact .inl (OF _ g)
    ·exact .inr g
  ·split at h
   ·rcases Do.1 h with rfl|h
    ·right;simp
    ·rcases JW h with g|g
     ·exact .inl g
     ·exact .inr (OF _ g)
   ·rcases Do.1 h with rfl|h
    ·left;simp
    ·rcases JW h with g|g
     ·exact .inl (OF _ g)
     ·exact .inr (OF _ g)
termination_by x y=>x.length+y.length
theorem Qy:∀ {x y:List (Int×Int)} {q:Int×Int},q∈(Bz x y).2->∃e,(e,q.1)∈x/\(e,q.2)∈y
 | [],y,q,h=>by simp[Bz]at h
 | b :: x,[],q,h=>by simp[Bz]at h
 | b :: x,c :: y,q,h=>by
  rw[Bz]at h;split at h
  ·obtain⟨e,h1,a⟩:=Qy h;exact⟨e,OF _ h1,a⟩
  ·split at h
   ·obtain⟨e,h1,a⟩:=Qy h;exact⟨e,h1,OF _ a⟩
   ·rcases Do.1 h with rfl|h
    ·exact⟨b.1,by simp,by rw[show b.1=c.1 by omega];simp⟩
    ·obtain⟨e,h1,a⟩:=Qy h;exact⟨e,OF _ h1,OF _ a⟩
termination_by x y=>x.length+y.length
theorem Qz:∀ {x y:List (Int×Int)},(Bz x y).2.length<=x.length
 | [],y=>by simp[Bz]
 | b :: x,[]=>by simp[Bz]
 | b :: x,c :: y=>by
  rw[Bz];split
  ·have:=Qz (x:=x) (y:=c :: y);simp only[OS];omega
  ·split
   ·exact Qz (x:=b :: x) (y:=y)
   ·have:=Qz (x:=x) (y:=y);simp only[OS];omega
termination_by x y=>x.length+y.length
abbrev Nn (l:List (Int×Int)):Prop:=l.Pairwise (λa b=>a.1<b.1)
theorem Un:∀ {x y:List (Int×Int)},Nn x->Nn y->Nn (Bz x y).1
 | [],y,_,h=>by simpa[Bz] using h
 | b :: x,[],h,_=>by simpa[Bz] using h
 | b :: x,c :: y,i,j=>by
  have d:=To.1 i;have e:=To.1 j;rw[Bz];split
  ·rename_i f;refine To.2 ⟨λa ha=>?_,Un d.2 j⟩;rcases JW ha with g|g
   ·exact d.1 a g
   ·rcases Do.1 g with rfl|g
    ·exact f
    ·have:=e.1 a g;omega
  ·split
   ·rename_i f;refine To.2 ⟨λa ha=>?_,Un i e.2⟩;rcases JW ha with g|g
    ·rcases Do.1 g with rfl|g
     ·exact f
     ·have:=d.1 a g;omega
    ·exact e.1 a g
   ·refine To.2 ⟨λa ha=>?_,Un d.2 e.2⟩;rcases JW ha with g|g
    ·exact d.1 a g
    ·have:=e.1 a g;omega
termination_by x y=>x.length+y.length
theorem A71 {p:List Int} {o:Int->Nat} (hp:Fo p o) {a b:Int} (j:0<=a) (c:0<=b) (b1:b<(p.length:Int)) (ha:EY p a=a) (k:EY p b=b) (f:a≠b) {x r:Int} (d:0<=x) (q:x<(p.length:Int)) (h:Rt p x r):Rt (p.set b.toNat a) x (if r=b then a else r):=by
 have l:Rt (p.set b.toNat a) a a:=.base (by rw[DC c b1 a j,An f];exact ha);induction h with
 | @base n hn =>
  split
  ·rename_i e;rw[e];exact .step (by rw[DC c b1 b c,BY rfl];exact f) (by rw[DC c b1 b c,BY rfl];exact l)
  ·rename_i e;exact .base (by rw[DC c b1 n d,An e];exact hn)
 | @step n r hn _ m =>
  have g:n≠b:=λe=>hn (e▸k);have i:=hp.rng n d q;exact .step (by rw[DC c b1 n d,An g];exact hn) (by rw[DC c b1 n d,An g];exact m i.1 i.2)
theorem A72 {p:List Int} {c:Int->Nat} (hp:Fo p c) {a b:Int} (h:0<=a) (i:a<(p.length:Int)) (d:0<=b) (b1:b<(p.length:Int)) (ha:EY p a=a) (l:EY p b=b) (k:a≠b):∃o,Fo (p.set b.toNat a) o:=by
 classical
 refine⟨λx=>if Rt p x b then c x+c a+1 else c x,λn n0 n1=>?_,λn n0 n1 hn=>?_⟩
 ·rw[UM]at n1 ⊢;rw[DC d b1 n n0];split
  ·exact⟨h,i⟩
  ·exact hp.rng n n0 n1
 ·rw[UM]at n1;rw[DC d b1 n n0]at hn ⊢;by_cases e:n=b
  ·subst e;rw[BY rfl];have h1:¬Rt p a n:=λg=>k (g.det (.base ha)).symm;rw[An h1,BY (.base l)];omega
  ·rw[An e]at hn ⊢;have m:=hp.dec n n0 n1 hn;have f:Rt p n b↔Rt p (EY p n) b:=by
    constructor
    ·intro g;cases g with
     | base g=>exact absurd g hn
     | step _ g=>exact g
    ·exact λg=>.step hn g
   by_cases g:Rt p n b
   ·rw[BY g,BY (f.1 g)];omega
   ·rw[An g,An (λj=>g (f.2 j))];exact m
inductive EG (n:Nat) (p:List Int) (W:List (Int×Int)):Int->Int->Prop
 | cls {x y r:Int} (x0:0<=x) (x1:x<(n:Int)) (y0:0<=y) (y1:y<(n:Int)) (h:Rt p x r) (g:Rt p y r):EG n p W x y
 | wt {x y:Int} (h:(x,y)∈W):EG n p W x y
 | symm {x y:Int} (h:EG n p W x y):EG n p W y x
 | trans {x y z:Int} (h:EG n p W x y) (g:EG n p W y z):EG n p W x z
theorem EG.mono {n:Nat} {p q:List Int} {W V:List (Int×Int)} (h1:∀x y r,0<=x->x<(n:Int)->0<=y->y<(n:Int)->Rt p x r->Rt p y r->EG n q V x y) (a:∀x y,(x,y)∈W->EG n q V x y) {x y:Int} (h:EG n p W x y):EG n q V x y:=by
 induction h with
 | cls e f i j h g=>exact h1 _ _ _ e f i j h g
 | wt h=>exact a _ _ h
 | symm _ b=>exact .symm b
 | trans _ _ c d=>exact .trans c d
structure dZ (h:AH) (N:List AD) (P:List (Int×Int)) (X:List AD) (v:Int->Int):Prop where
 rng:∀x,0<=x->x<(N.length:Int)->0<=v x/\v x<(X.length:Int)
 ty:∀x,0<=x->x<(N.length:Int)->A7 h (N.getD x.toNat (0,[])).1 (X.getD (v x).toNat (0,[])).1=true
 arc:∀x,0<=x->x<(N.length:Int)->∀a∈AR N x,Db (AR X (v x)) a.1=v a.2
 eq:∀q∈P,v q.1=v q.2
structure JX (h:AH) (X:List AD) (v:Int->Int) (n:Nat) (p ty:List Int) (ar:List (List (Int×Int))) (W:List (Int×Int)):Prop where
 cls:∀x r,0<=x->x<(n:Int)->Rt p x r->v x=v r
 wt:∀w∈W,v w.1=v w.2
 ty:∀r,0<=r->r<(n:Int)->EY p r=r->A7 h (ty.getD r.toNat 0) (X.getD (v r).toNat (0,[])).1=true
 arc:∀r,0<=r->r<(n:Int)->EY p r=r->∀a∈ar.getD r.toNat [],Db (AR X (v r)) a.1=v a.2
def Cz (N:List AD):List Int:=N.flatMap λx=>x.2.map (·.1)
structure JI (h:AH) (N:List AD) (P:List (Int×Int)) (p ty:List Int) (ar:List (List (Int×Int))) (W:List (Int×Int)):Prop where
 nty:EB h N
 fo:∃rk,Fo p rk
 lp:p.length=N.length
 lt:ty.length=N.length
 la:ar.length=N.length
 wr:∀w∈W,(0<=w.1/\w.1<(N.length:Int))/\(0<=w.2/\w.2<(N.length:Int))
 tyr:∀x,0<=x->x<(N.length:Int)->0<=ty.getD x.toNat 0/\ty.getD x.toNat 0<(h.1.length:Int)
 arr:∀k,∀a∈ar.getD k [],(0<=a.2/\a.2<(N.length:Int))/\a.1∈Cz N
 srt:∀k,Nn (ar.getD k [])
 sp:∀q∈P,EG N.length p W q.1 q.2
 st:∀x r,0<=x->x<(N.length:Int)->Rt p x r->A7 h (N.getD x.toNat (0,[])).1 (ty.getD r.toNat 0)=true
 sa:∀x r,0<=x->x<(N.length:Int)->Rt p x r->∀a∈AR N x,∃t,(a.1,t)∈ar.getD r.toNat []/\EG N.length p W a.2 t
 co:∀X v,EB h X->dZ h N P X v->JX h X v N.length p ty ar W
theorem GJ {p:List Int} {a:Int->Nat} (hp:Fo p a) {x r:Int} (c:0<=x) (d:x<(p.length:Int)) (h:Rt p x r):0<=r/\r<(p.length:Int):=by
 obtain⟨s,hs,b,s1⟩:=hp.root c d;rw[h.det hs];exact⟨b,s1⟩
theorem SE {p q:List Int} (h:E3 p q) {r:Int} (a:0<=r) (b:r<(p.length:Int)):EY p r=r↔EY q r=r :=
 ⟨λe=>((h.2 r r a b).1 (.base e)).root,λe=>((h.2 r r a b).2 (.base e)).root⟩
theorem A73 {h:AH} {N:List AD} {P:List (Int×Int)} {p q ty:List Int} {ar:List (List (Int×Int))} {W:List (Int×Int)} (hs:E3 p q) (j:∃z,Fo q z) (u:JI h N P p ty ar W):JI h N P q ty ar W:=by
 obtain⟨nty,fo,lp,lt,la,wr,tyr,arr,srt,sp,st,sa,co⟩:=u;have i:∀x r,0<=x->x<(N.length:Int)->(Rt p x r↔Rt q x r):=λx r b c=>hs.2 x r b (by rw[lp];exact c);have s:∀ {x y},EG N.length p W x y->EG N.length q W x y:=λ{x y} g=>g.mono (λx y r b c k l h1 o=>.cls b c k l ((i x r b c).1 h1) ((i y r k l).1 o)) (λ_ _ h=>.wt h);refine⟨nty,j,by rw[<-hs.1];exact lp,lt,la,wr,tyr,arr,srt,λq j=>s (sp q j),λx r b c d=>st x r b c ((i x r b c).2 d),λx r b c d a ha=>?_,λX v t w=>?_⟩
 ·grind
 ·obtain⟨c1,c2,m,n⟩:=co X v t w;exact⟨λx r b c d=>c1 x r b c ((i x r b c).2 d),c2,λr e f d=>m r e f ((SE hs e (by rw[lp];exact f)).2 d),λr e f d=>n r e f ((SE hs e (by rw[lp];exact f)).2 d)⟩
section
variable {h:AH} {N:List AD} {P:List (Int×Int)} {p ty:List Int} {ar:List (List (Int×Int))} {W:List (Int×Int)} {s t a b:Int}
theorem cV (n:JI h N P p ty ar (W++[(s,t)])) (hs:Rt p s a) (u:Rt p t a):JI h N P p ty ar W:=by
 obtain⟨nty,fo,lp,lt,la,wr,tyr,arr,srt,sp,st,sa,co⟩:=n;have b:=wr (s,t) (by simp);have l:∀ {x y},EG N.length p (W++[(s,t)]) x y->EG N.length p W x y:=λ{x y} g=>g.mono (λx y r d f A B h1 k=>.cls d f A B h1 k) (λx y c=>by
  rcases No.1 c with c|c
  ·exact .wt c
  ·have e:(x,y)=(s,t):=by simpa using c
   cases e;exact .cls b.1.1 b.1.2 b.2.1 b.2.2 hs u)
 refine⟨nty,fo,lp,lt,la,λw b=>wr w (UG _ b),tyr,arr,srt,λq o=>l (sp q o),st,λx r d f C a ha=>?_,λX v m z=>?_⟩
 ·grind
 ·obtain⟨c1,c2,i,j⟩:=co X v m z;exact⟨c1,λw b=>c2 w (UG _ b),i,j⟩
theorem Uo (hk:GL h) (c:JI h N P p ty ar (W++[(s,t)])) (hs:Rt p s a) (g:Rt p t b) {X:List AD} {v:Int->Int} (o:EB h X) (q:dZ h N P X v) :
  v a=v b/\(Bo h (ty.getD a.toNat 0) (ty.getD b.toNat 0)).2=true/\A7 h (Bo h (ty.getD a.toNat 0) (ty.getD b.toNat 0)).1 (X.getD (v a).toNat (0,[])).1=true:=by
 obtain⟨D,fo⟩:=c.fo;obtain⟨⟨i,s1⟩,j,l⟩:=c.wr (s,t) (by simp);simp only at i s1 j l;have d:=GJ fo i (by rw[c.lp];exact s1) hs;have f:=GJ fo j (by rw[c.lp];exact l) g;rw[c.lp]at d f;obtain⟨c1,c2,m,B⟩:=c.co X v o q;have u:=c1 s a i s1 hs;have w:=c1 t b j l g;have x:v s=v t:=c2 (s,t) (by simp);have e:v a=v b:=by rw[<-u,<-w,x]
 have y:=m a d.1 d.2 hs.root;have n:=m b f.1 f.2 g.root;rw[<-e]at n;have C:=q.rng a d.1 d.2;have r:=o _ (AE X (0,[]) (k:=(v a).toNat) (by omega));have ta:=c.tyr a d.1 d.2;have tb:=c.tyr b f.1 f.2;obtain⟨z,A⟩:=(Me hk ta.1 ta.2 tb.1 tb.2).2 _ r.1 r.2 y n;exact⟨e,z,A⟩
theorem Zh {α:Type} {l:List α} {d v:α} {a r:Int} (b:0<=a) (c:a<(l.length:Int)) (e:0<=r):(l.set a.toNat v).getD r.toNat d=if r=a then v else l.getD r.toNat d:=by grind
theorem W9 (hk:GL h) (ae:JI h N P p ty ar (W++[(s,t)])) (hs:Rt p s a) (L:Rt p t b) (Y:a≠b) (al:(Bo h (ty.getD a.toNat 0) (ty.getD b.toNat 0)).2=true) :
  JI h N P (p.set b.toNat a) (ty.set a.toNat (Bo h (ty.getD a.toNat 0) (ty.getD b.toNat 0)).1) (ar.set a.toNat (Bz (ar.getD a.toNat []) (ar.getD b.toNat [])).1) (W++(Bz (ar.getD a.toNat []) (ar.getD b.toNat [])).2):=by
 have am:=λX v J M=>Uo (X:=X) (v:=v) hk ae hs L J M;obtain⟨nty,⟨bb,fo⟩,lp,lt,la,wr,tyr,arr,srt,sp,st,sa,co⟩:=ae;obtain⟨⟨Q,s1⟩,R,S⟩:=wr (s,t) (by simp);simp only at Q s1 R S;have n:=GJ fo Q (by rw[lp];exact s1) hs;have A:=GJ fo R (by rw[lp];exact S) L;have ha:=hs.root;have Z:=L.root;have F:=λ{x r:Int} (c:0<=x) (i:x<(N.length:Int)) (O:Rt p x r)=>A71 fo n.1 A.1 A.2 ha Z Y c (by rw[lp];exact i) O;have aa:∀ {x r:Int},0<=x->x<(N.length:Int)->Rt (p.set b.toNat a) x r->∃j,Rt p x j/\r=if j=b then a else j:=λ{x r} c i O=>by
  obtain⟨j,h1,-,-⟩:=fo.root c (by rw[lp];exact i);exact⟨j,h1,O.det (F c i h1)⟩
 have ta:=tyr a n.1 (by rw[<-lp];exact n.2);have tb:=tyr b A.1 (by rw[<-lp];exact A.2);obtain⟨ax,ay,az,ba⟩:=(Me hk ta.1 ta.2 tb.1 tb.2).1 al;generalize aq:(Bo h (ty.getD a.toNat 0) (ty.getD b.toNat 0)).1=m at *;generalize ag:ar.getD a.toNat []=xs at *;generalize ah:ar.getD b.toNat []=ys at *;have ao:EG N.length (p.set b.toNat a) (W++(Bz xs ys).2) s t:=by
  have h1:=F Q s1 hs;have I:=F R S L;rw[An Y]at h1;rw[BY rfl]at I;exact .cls Q s1 R S h1 I
 have E:∀ {x y},EG N.length p (W++[(s,t)]) x y->EG N.length (p.set b.toNat a) (W++(Bz xs ys).2) x y:=λ{x y} g=>g.mono (λx y r c i aj ak h1 I=>.cls c i aj ak (F c i h1) (F aj ak I)) (λx y G=>by
  rcases No.1 G with G|G
  ·exact .wt (UG _ G)
  ·have e:(x,y)=(s,t):=by simpa using G
   cases e;exact ao)
 have av:=λ{r:Int} (D:0<=r)=>Zh (l:=ty) (d:=0) (v:=m) n.1 (by rw[lt,<-lp];exact n.2) D;have K:=λ{r:Int} (D:0<=r)=>Zh (l:=ar) (d:=[]) (v:=(Bz xs ys).1) n.1 (by rw[la,<-lp];exact n.2) D;refine⟨nty,A72 fo n.1 n.2 A.1 A.2 ha Z Y,by rw[UM];exact lp,by rw[UM];exact lt,by rw[UM];exact la,λw o=>?_,λx c i=>?_,λk y C=>?_,λk=>?_,λq an=>E (sp q an),λx r c i z=>?_,λx r c i z y C=>?_,λX v J M=>?_⟩
 ·rcases No.1 o with o|o
  ·exact wr w (UG _ o)
  ·grind [Qy]
 ·grind
 ·have h1:=K (r:=(k:Int)) (by omega);rw[Se]at h1;rw[h1]at C;split at C
  ·grind [JW]
  ·exact arr _ _ C
 ·have h1:=K (r:=(k:Int)) (by omega);rw[Se]at h1;rw[h1];split
  ·grind [Un]
  ·exact srt k
 ·obtain⟨j,h1,rfl⟩:=aa c i z;have O:=nty _ (AE N (0,[]) (k:=x.toNat) (by omega));have af:=GJ fo c (by rw[lp];exact i) h1;by_cases e:j=b
  ·grind [PM]
  ·grind [PM]
 ·obtain⟨j,h1,rfl⟩:=aa c i z;have af:=GJ fo c (by rw[lp];exact i) h1;obtain⟨u,H,T⟩:=sa x j c i h1 y C;by_cases e:j=b
  ·rw[BY e,K n.1,BY rfl];rw[e,ah]at H;rcases NZ (x:=xs) H with g|⟨w,U,V⟩
   ·exact⟨u,g,E T⟩
   ·exact⟨w,U,.trans (E T) (.symm (.wt (ADx _ V)))⟩
  ·rw[An e,K af.1];split
   ·rename_i B;rw[B,ag]at H;exact⟨u,Qx H,E T⟩
   ·exact⟨u,H,E T⟩
 ·obtain⟨c1,c2,ap,ab⟩:=co X v J M;obtain⟨e,-,aw⟩:=am X v J M;have au:∀r,0<=r->r<(N.length:Int)->EY (p.set b.toNat a) r=r->r≠b/\EY p r=r:=λr D ai z=>by grind [DC]
  refine⟨λx r c i z=>?_,λw o=>?_,λr D ai z=>?_,λr D ai z y C=>?_⟩
  ·obtain⟨j,h1,rfl⟩:=aa c i z;have:=c1 x j c i h1;split
   ·rename_i B;rw[this,B,e]
   ·exact this
  ·rcases No.1 o with o|o
   ·exact c2 w (UG _ o)
   ·obtain⟨f,ad,B⟩:=Qy o;rw[<-ag]at ad;rw[<-ah]at B;have U:=ab a n.1 (by rw[<-lp];exact n.2) ha _ ad;have V:=ab b A.1 (by rw[<-lp];exact A.2) Z _ B;rw[<-U,<-V,e]
  ·grind
  ·grind [JW]
end
theorem o0 {l:List Nat} {f g:Nat->Bool} {b:Nat} (hn:l.Nodup) (c:b∈l) (h1:f b=true) (d:g b=false) (h:∀x∈l,x≠b->g x=f x):(l.filter g).length+1=(l.filter f).length:=by
 induction l with
 | nil=>cases c
 | cons x l m =>
  obtain⟨k,j⟩:=UN.1 hn;by_cases e:x=b
  ·subst e;have:l.filter g=l.filter f:=List.filter_congr λy a=>h y (by simp[a]) (λe=>k (e▸a));rw[bY,bY,An (by rw[d];simp),BY h1,this];rfl
  ·have i:b∈l:=by
    rcases Do.1 c with g|g
    ·exact absurd g.symm e
    ·exact g
   have n:=m j i (λy a=>h y (by simp[a]));rw[bY,bY,h x (by simp) e];split
   ·simp only[OS];omega
   ·exact n
def nR (p:List Int):Nat:=((List.range p.length).filter λk=>p.getD k 0==(k:Int)).length
theorem ACw (p:List Int):nR p<=p.length:=by
 have:=aS (λk=>p.getD k 0==(k:Int)) (List.range p.length);rw[AE5]at this;exact this
theorem wV {p q:List Int} (h:E3 p q):nR q=nR p:=by
 unfold nR;rw[<-h.1];refine AD0 List.length (List.filter_congr λk hk=>?_);have a:=Sl.1 hk;have:=SE h (r:=(k:Int)) (by omega) (by omega);unfold EY at this;rw[Se]at this;rw[ADz,UH,UH];exact this.symm
theorem wW {p:List Int} {a b:Int} (d:0<=b) (b1:b<(p.length:Int)) (c:EY p b=b) (e:a≠b):nR (p.set b.toNat a)+1=nR p:=by
 unfold nR;rw[UM];refine o0 (b:=b.toNat) List.nodup_range (Sl.2 (by omega)) ?_ ?_ λx _ f=>?_
 ·rw[UH];unfold EY at c;omega
 ·rw[YJ _ _ _ (by omega),AD5];omega
 ·rw[getD_set_ne _ _ _ (by omega)]
theorem SF {α:Type} [DecidableEq α]:∀ {l l':List α},l.Nodup->(∀x∈l,x∈l')->l.length<=l'.length
 | [],_,_,_=>by simp
 | x :: l,l',hn,h=>by
  obtain⟨d,c⟩:=UN.1 hn;have a:=h x (by simp);have:=SF (l:=l) (l':=l'.erase x) c (λy b=>(AEw (λe:y=x=>d (by rw[<-e];exact b))).2 (h y (by simp[b])));rw[List.length_erase_of_mem a]at this;have:=AEf a;simp only[OS];omega
theorem cW {l:List (Int×Int)} (h:Nn l) {S:List Int} (hs:∀a∈l,a.1∈S):l.length<=S.length:=by
 have hn:(l.map (·.1)).Nodup:=by
  unfold List.Nodup;rw[ADc];exact h.imp λg=>by omega
 have:=SF hn (l':=S) (λx b=>by
  obtain⟨a,ha,rfl⟩:=IF.1 b;exact hs a ha)
 rwa [SX]at this
theorem XA {h:AH} {N:List AD} {P:List (Int×Int)} {p ty:List Int} {ar:List (List (Int×Int))} (t:JI h N P p ty ar []) {a b:Int} (ha:0<=a/\a<(N.length:Int)) (s:0<=b/\b<(N.length:Int)):JI h N (P++[(a,b)]) p ty ar [(a,b)]:=by
 obtain⟨nty,fo,lp,lt,la,wr,tyr,arr,srt,sp,st,sa,co⟩:=t;have l:∀ {x y},EG N.length p [] x y->EG N.length p [(a,b)] x y:=λ{x y} g=>g.mono (λx y r j k C D h1 f=>.cls j k C D h1 f) (λx y A=>by cases A);refine⟨nty,fo,lp,lt,la,λw i=>?_,tyr,arr,srt,λq c=>?_,st,λx r j k z y B=>?_,λX v o d=>?_⟩
 ·have e:w=(a,b):=by simpa using i
  subst e;exact⟨ha,s⟩
 ·rcases No.1 c with c|c
  ·exact l (sp q c)
  ·have e:q=(a,b):=by simpa using c
   subst e;exact .wt (by simp)
 ·obtain⟨u,h1,f⟩:=sa x r j k z y B;exact⟨u,h1,l f⟩
 ·obtain⟨c1,c2,m,n⟩:=co X v o ⟨d.rng,d.ty,d.arc,λq c=>d.eq q (UG _ c)⟩;refine⟨c1,λw i=>?_,m,n⟩;have e:w=(a,b):=by simpa using i
  subst e;exact d.eq _ (by simp)
def wX (h:AH) (p ty:List Int) (ar:List (List (Int×Int))):List (Nat×Obj):=[(101,.box 111 true [.p Eg h,.sr 102 T3 0 p.length,.sr 103 T3 0 ty.length,.sr 104 DN 0 ar.length]),(102,.arr 3 T3 p),(103,.arr 3 T3 ty),(104,.arr 91 DN ar)]
theorem A74 (h:AH) (hk:GL h) {N:List AD} {P:List (Int×Int)} {p ty:List Int} {ar:List (List (Int×Int))} (Y:JI h N P p ty ar []) {a b:Int} (ha:0<=a/\a<(N.length:Int)) (ah:0<=b/\b<(N.length:Int)) (af:N.length<=10000) (hF:(Cz N).length<=1000000) :
  BI Tryz.prog 86 [.bp 101 [] 0,.p T3 a,.p T3 b] (wX h p ty ar) [101]
  (λres M=>(res=.p .bool true/\∃B H u,M=wX h B H u/\JI h N (P++[(a,b)]) B H u [])\/(res=.p .bool false/\(∃B H u,M=wX h B H u)/\∀X v,EB h X->¬dZ h N (P++[(a,b)]) X v)):=by
 refine K0 [0,1,2,3,6,7,8,9,10,11,19,48] [] [] Tryz.func86 Tryz.ntmps86 AG ?_;intro w0 K O0 ρ0 f ba bb;have hh:h.1.length<=100000:=Sd hk.2 (by omega);have ai:∀x∈h.1,x.2.1.length<=100000:=λx av=>Sd (hk.1.wid x.2.1 (IF.2 ⟨x,av,rfl⟩)) (by omega);have aj:=XA Y ha ah;generalize az:P++[(a,b)]=Q at *;have ay:N.length*((Cz N).length+1)<=10000*1000001:=Nat.mul_le_mul af (by omega);simp only[wX,Am];repeat'(first|exact trivial|refine eS rfl ?_|refine rX f ?_ ?_)
 refine AK (ι:={s:(List Int×List Int×List (List (Int×Int)))×(List (Int×Int)×Nat)//JI h N Q s.1.1 s.1.2.1 s.1.2.2 (s.2.1.take s.2.2)/\s.2.2<=s.2.1.length/\nR s.1.1*((Cz N).length+1)+s.2.2<=N.length*((Cz N).length+1)+1}) (λs=>⟨[(3,.bp 3 [] 0),(7,.bp 7 [] 0),(8,.clo 134 [3,7])],[(101,.box 111 true [.p Eg h,.sr 102 T3 0 s.1.1.1.length,.sr 103 T3 0 s.1.1.2.1.length,.sr 104 DN 0 s.1.1.2.2.length]),(102,.arr 3 T3 s.1.1.1),(103,.arr 3 T3 s.1.1.2.1),(104,.arr 91 DN s.1.1.2.2),(3,.box 108 false [.bp 101 [] 0]),(7,.box 173 false [.sr 15 Rm 0 s.1.2.2]),(15,.arr 172 Rm s.1.2.1)]⟩) (λs=>nR s.1.1.1*((Cz N).length+1)+s.1.2.2) ⟨((p,ty,ar),([(a,b)],1)),aj,by simp,by have:=Sn ((Cz N).length+1) (ACw p);rw[Y.lp]at this;simp only;omega⟩ (eW [(101,.nm 101),(102,.nm 102),(103,.nm 103),(104,.nm 104),(3,.nm 3),(7,.nm 7),(15,.nm 15)]) (λs=>?_)
 ·obtain⟨⟨⟨q,d,aq⟩,V,k⟩,l,ak,ae⟩:=s;simp only at l ak ae ⊢;repeat'(first|exact trivial|refine eS rfl ?_|refine rX f ?_ ?_|refine rC ?_ ?_<;>intro j<;>try(cases j;done))
  ·exact eV
  ·exact eV
  ·have Z:0<k:=If.1 j;have al:((k:Int)-1).toNat=k-1:=by omega
   have U:=A0 V (0,0) (k:=k-1) (by omega);rw[show k-1+1=k by omega]at U;rw[al];generalize bd:V.getD (k-1) (0,0)=st at *;obtain⟨s,t⟩:=st;rw[U]at l;obtain⟨⟨D,s1⟩,F,G⟩:=l.wr (s,t) (by simp);simp only at D s1 F G;obtain⟨O,fo⟩:=l.fo;have C:=l.lp;refine Cc drawsAny f 8 [([0,1,2],3),([4,5,6],7)] [] (by kernel_rfl) (Nk ?_ ?_)
   ·trivial
   ·refine mxC f (cU h d aq O fo D (by rw[C];exact s1)) [(1,.nm 101),(2,.nm 102),(3,.nm 103),(4,.nm 104)] [102,103,104] ?_ ?_ ?_
    ·exact eN
    ·simp only[Zg];exact eN
    ·rintro _ _ ⟨ab,c,rfl,rfl,ad,E,aw⟩;refine⟨[(101,.nm 1),(102,.nm 2),(103,.nm 3),(104,.nm 4)],.p T3 c,[(101,.box 111 true [.p Eg h,.sr 102 T3 0 ab.length,.sr 103 T3 0 d.length,.sr 104 DN 0 aq.length]),(102,.arr 3 T3 ab),(103,.arr 3 T3 d),(104,.arr 91 DN aq)],rfl,rfl,?_,?_,rfl,rfl,rfl,?_⟩
     ·simp only[Zg];exact eN
     ·exact eN
     ·refine Nk ?_ ?_
      ·trivial
      ·refine mxC f (cU h d aq O ad F (by rw[<-E.1,C];exact G)) [(1,.nm 101),(2,.nm 102),(3,.nm 103),(4,.nm 104)] [102,103,104] ?_ ?_ ?_
       ·exact eN
       ·simp only[Zg];exact eN
       ·rintro _ _ ⟨g,e,rfl,rfl,J,S,ax⟩;refine⟨[(101,.nm 1),(102,.nm 2),(103,.nm 3),(104,.nm 4)],.p T3 e,[(101,.box 111 true [.p Eg h,.sr 102 T3 0 g.length,.sr 103 T3 0 d.length,.sr 104 DN 0 aq.length]),(102,.arr 3 T3 g),(103,.arr 3 T3 d),(104,.arr 91 DN aq)],rfl,rfl,?_,?_,rfl,rfl,rfl,?_⟩
        ·simp only[Zg];exact eN
        ·exact eN
        ·refine Tw f ?_ ?_ ?_
         ·trivial
         ·trivial
         ·repeat' refine eS rfl ?_
          have i:=A73 (E.trans S) ⟨O,J⟩ l;have R:=E.trans S;have A:=(R.2 s c D (by rw[C];exact s1)).1 aw;have o:=(S.2 t e F (by rw[<-E.1,C];exact G)).1 ax;have n:=i.lp;have w:=GJ J D (by rw[n];exact s1) A;have m:=GJ J F (by rw[n];exact G) o;refine evP f 4 ?_ ?_
          ·trivial
          ·by_cases z:c=e
           ·subst z;rw[show (c != c)=false from bne_self_eq_false c];refine rL f ?_ ?_
            ·trivial
            ·repeat'(first|refine eS rfl ?_|refine AB ?_|refine rC ?_ ?_<;>intro j<;>try(cases j;done))
             have y:=cV i A o;have hn:=wV R;exact⟨⟨((g,d,aq),V,k-1),y,by simp only;omega,by simp only;rw[hn];omega⟩,by simp only;rw[hn];omega,eW [(101,.nm 101),(102,.nm 102),(103,.nm 103),(104,.nm 104),(3,.nm 3),(7,.nm 7),(15,.nm 15)]⟩
           ·rw[show (c != e)=true by simpa using z];refine rN 3 f ?_ ?_
            ·trivial
            ·have L:=λr:Int=>cW (i.srt r.toNat) (λa ha=>(i.arr r.toNat a ha).2);refine clG f (A4A h hh ai g d aq V (k-1) (by omega) (by omega) w.1 w.2 m.1 m.2 (by rw[i.lt,n]) (by rw[i.la,n]) (i.tyr c w.1 (by rw[<-n];exact w.2)) (i.tyr e m.1 (by rw[<-n];exact m.2)) (Sd (L c) (by omega)) (Sd (L e) (by omega))) [(1,.nm 101),(2,.nm 102),(3,.nm 103),(4,.nm 104),(5,.nm 3),(6,.nm 7),(7,.nm 15)] [102,103,104,15] ?_ ?_ ?_
             ·exact eN
             ·simp only[mgO];exact eN
             ·rintro res M (⟨I,rfl,rfl⟩|⟨I,rfl,T,W,ap,aa,rfl⟩)
              ·refine⟨[(101,.nm 1),(102,.nm 2),(103,.nm 3),(104,.nm 4),(3,.nm 5),(7,.nm 6),(15,.nm 7)],.p .bool false,[(101,.box 111 true [.p Eg h,.sr 102 T3 0 g.length,.sr 103 T3 0 d.length,.sr 104 DN 0 aq.length]),(102,.arr 3 T3 g),(103,.arr 3 T3 d),(104,.arr 91 DN aq),(3,.box 108 false [.bp 101 [] 0]),(7,.box 173 false [.sr 15 Rm 0 (k-1)]),(15,.arr 172 Rm V)],rfl,rfl,?_,?_,rfl,rfl,?_⟩
               ·simp only[mgO];exact eN
               ·exact eN
               ·refine rL f ?_ ?_
                ·trivial
                ·repeat'(first|exact trivial|refine eS rfl ?_|refine rX f ?_ ?_|refine rC ?_ ?_<;>intro j<;>try(cases j;done))
                 refine Ev.ent (σ':=⟨[(6,.p .bool false)],wX h g d aq⟩) ?_ (AC [(101,.nm 101),(102,.nm 102),(103,.nm 103),(104,.nm 104)] rfl rfl ?_ ?_)
                 ·exact fM f [.tmp 6] (.p .bool false) eT (.inr ⟨rfl,⟨g,d,aq,rfl⟩,λX v ag ao=>by
                   have:=(Uo hk i A o ag ao).2.1;rw[I]at this;cases this⟩)
                 ·unfold wX;exact eN
                 ·exact eN
              ·refine⟨[(101,.nm 1),(102,.nm 2),(103,.nm 3),(104,.nm 4),(3,.nm 5),(7,.nm 6),(15,.nm 7)],.p .bool true,[(101,.box 111 true [.p Eg h,.sr 102 T3 0 (g.set e.toNat c).length,.sr 103 T3 0 (d.set c.toNat (Bo h (d.getD c.toNat 0) (d.getD e.toNat 0)).1).length,.sr 104 DN 0 (aq.set c.toNat (Bz (aq.getD c.toNat []) (aq.getD e.toNat [])).1).length]),(102,.arr 3 T3 (g.set e.toNat c)),(103,.arr 3 T3 (d.set c.toNat (Bo h (d.getD c.toNat 0) (d.getD e.toNat 0)).1)),(104,.arr 91 DN (aq.set c.toNat (Bz (aq.getD c.toNat []) (aq.getD e.toNat [])).1)),(3,.box 108 false [.bp 101 [] 0]),(7,.box 173 false [.sr 15 Rm 0 W]),(15,.arr 172 Rm T)],rfl,rfl,?_,?_,rfl,rfl,?_⟩
               ·simp only[mgO];exact eN
               ·exact eN
               ·refine rL f ?_ ?_
                ·trivial
                ·repeat'(first|refine eS rfl ?_|refine AB ?_|refine rC ?_ ?_<;>intro j<;>try(cases j;done))
                 have y:=W9 hk i A o z I;rw[<-aa]at y;have hn:=wV R;have an:=wW (a:=c) m.1 m.2 o.root z;have bc:(Bz (aq.getD c.toNat []) (aq.getD e.toNat [])).2.length<=(Cz N).length:=Sd Qz (L c);have au:=AD0 List.length aa;rw[GO,OR,OR]at au;have am:nR g*((Cz N).length+1)=nR (g.set e.toNat c)*((Cz N).length+1)+((Cz N).length+1):=by rw[<-an,AEj,Nat.one_mul]
                 rw[hn]at am;exact⟨⟨((g.set e.toNat c,d.set c.toNat (Bo h (d.getD c.toNat 0) (d.getD e.toNat 0)).1,aq.set c.toNat (Bz (aq.getD c.toNat []) (aq.getD e.toNat [])).1),T,W),y,ap,by simp only;omega⟩,by simp only;omega,eW [(101,.nm 101),(102,.nm 102),(103,.nm 103),(104,.nm 104),(3,.nm 3),(7,.nm 7),(15,.nm 15)]⟩
  ·have Z:k=0:=by
    have:=Sb.1 j;omega
   subst Z;rw[ACX]at l;refine Ev.ent (σ':=⟨[(6,.p .bool true)],wX h q d aq⟩) ?_ (AC [(101,.nm 101),(102,.nm 102),(103,.nm 103),(104,.nm 104)] rfl rfl ?_ ?_)
   ·exact fM f [.tmp 6] (.p .bool true) eT (.inl ⟨rfl,q,d,aq,rfl,l⟩)
   ·unfold wX;exact eN
   ·exact eN
open Classical in
noncomputable def El (p:List Int) (x:Int):Int:=if h:∃r,Rt p x r then h.choose else x
theorem cX {p:List Int} {x r:Int} (h:Rt p x r):El p x=r:=by
 unfold El;rw[dif_pos ⟨r,h⟩];exact(Exists.choose_spec (p:=λr=>Rt p x r) ⟨r,h⟩).det h
theorem PN {p:List Int} {a:Int->Nat} (hp:Fo p a) {x:Int} (b:0<=x) (c:x<(p.length:Int)):Rt p x (El p x):=by
 obtain⟨r,h,-,-⟩:=hp.root b c;rw[cX h];exact h
noncomputable def quo (p ty:List Int) (ar:List (List (Int×Int))):List AD:=(List.range p.length).map λk=>(ty.getD k 0,(ar.getD k []).map λa=>(a.1,El p a.2))
theorem FF (p ty:List Int) (ar:List (List (Int×Int))):(quo p ty ar).length=p.length:=by simp[quo]
theorem Na {p ty:List Int} {ar:List (List (Int×Int))} {n:Int} (n0:0<=n) (n1:n<(p.length:Int)):(quo p ty ar).getD n.toNat (0,[])=(ty.getD n.toNat 0,(ar.getD n.toNat []).map λa=>(a.1,El p a.2)):=by
 unfold quo;rw[AS,iS,ADt (by omega)];rfl
def LO (len:Nat) (o:List Int):List Int:=(List.range len).map λ(k:Nat)=>if (k:Int)∈o then ((o.idxOf (k:Int):Nat):Int) else -1
theorem XB (len:Nat) (o:List Int):(LO len o).length=len:=by simp[LO]
theorem XC {len:Nat} {o:List Int} {n:Int} (n0:0<=n) (n1:n<(len:Int)):(LO len o).getD n.toNat 0=if n∈o then (o.idxOf n:Int) else -1:=by
 unfold LO;rw[AS,iS,ADt (by omega)];simp only[ADF,AEr];rw[show ((n.toNat:Nat):Int)=n by omega]
theorem XD {o:List Int} {n:Int} (h:n∉o):(o++[n]).idxOf n=o.length:=by
 rw[AEk,An h];simp
theorem Zi {o t:List Int} {n:Int} (h:n∈o):(o++t).idxOf n=o.idxOf n:=by
 rw[AEk,BY h]
theorem A4B {len:Nat} {o:List Int} {n:Int} (n0:0<=n) (n1:n<(len:Int)) (h:n∉o):(LO len o).set n.toNat (o.length:Int)=LO len (o++[n]):=by
 apply UK
 ·simp[LO]
 ·intro i h1 c;rw[List.getElem_set];simp only[LO,ADJ,ADN];by_cases e:n.toNat=i
  ·rw[BY e];have b:(i:Int)=n:=by omega
   rw[b,BY (by simp),XD h]
  ·rw[An e];have b:(i:Int)≠n:=by omega
   by_cases a:(i:Int)∈o
   ·rw[BY a,BY (by simp[a]),Zi a]
   ·rw[An a,An (by simp[a,b])]
theorem XE {o t:List Int} {x:Int} (h:x∈o):B8 (o++t) x=B8 o x:=by
 unfold B8;rw[BY (UG _ h),BY h,Zi h]
theorem Q0 {f:List AD} (hf:AX f) (k:Nat):∀(l:List (Int×Int)) (t:List Int),(∀a∈l,0<=a.2/\a.2<(f.length:Int))->KY f t->f.length-t.length<=k ->
  (∀a∈l,a.2∈l.foldl (Ab f k) t)/\∀x∈l.foldl (Ab f k) t,x∈t\/∀a∈(f.getD x.toNat (0,[])).2,a.2∈l.foldl (Ab f k) t:=by
 intro l;induction l with
 | nil=>exact λt _ _ _=>⟨λa ha=>(by cases ha),λx c=>.inl c⟩
 | cons a l u =>
  intro t j m o;simp only[ON];have p:KY f (Ab f k t a)/\t <+: Ab f k t a/\a.2∈Ab f k t a/\∀x∈Ab f k t a,x∈t\/∀b∈(f.getD x.toNat (0,[])).2,b.2∈Ab f k t a:=by
   unfold Ab;split
   ·rename_i hn;exact⟨m,ACo _,hn,λx c=>.inl c⟩
   ·rename_i hn;have q:=j a (by simp);obtain⟨e,g⟩:=EA hf k t a.2 m q.1 q.2 hn;obtain⟨h,i⟩:=Ip hf k t a.2 m q.1 q.2 hn o;exact⟨e,g,h,i⟩
  obtain⟨e,g,h,i⟩:=p;have v:=g.length_le;obtain⟨r,s⟩:=u (Ab f k t a) (λb d=>j b (by simp[d])) e (by omega);obtain⟨_,n⟩:=E2 (EA hf k) l (Ab f k t a) (λb d=>j b (by simp[d])) e;refine⟨λb d=>?_,λx c=>?_⟩
  ·rcases Do.1 d with rfl|d
   ·exact n.subset h
   ·exact r b d
  ·rcases s x c with c|c
   ·rcases i x c with c|c
    ·exact .inl c
    ·exact .inr λb d=>n.subset (c b d)
   ·exact .inr c
def HV (f:List AD) (o a:List Int):List AD:=(a.drop o.length).map (Dq f a)
theorem A0k {f:List AD} {o t:List Int} {x:Int} (h:∀a∈(f.getD x.toNat (0,[])).2,a.2∈o):Dq f (o++t) x=Dq f o x:=by
 unfold Dq;refine AD0 _ (Sg λa ha=>?_);unfold Mh;rw[XE (h a ha)]
theorem A4C {f:List AD} {c b d:List Int} (g:c <+: b) (i:b <+: d) (j:∀x∈b,x∈c\/∀a∈(f.getD x.toNat (0,[])).2,a.2∈b) (hn:b.Nodup):HV f c b++HV f b d=HV f c d:=by
 obtain⟨t,rfl⟩:=g;obtain⟨s,rfl⟩:=i;unfold HV;rw[AE0,AE0,Sm,AE0,<-Sm,gO]
 congr 1
 refine Sg λx e=>?_;refine(A0k λa ha=>?_).symm;rcases j x (ADx _ e) with h|h
 ·exact absurd rfl ((ADe.1 hn).2.2 x h x e)
 ·exact h a ha
theorem Zj (f:List AD) (o:List Int):HV f o o=[]:=by
 unfold HV;rw[AEu];rfl
theorem SG {α β:Type} (f:α->β) {l:List α} (d:α) (e:β) {i:Nat} (h:i<l.length):(l.map f).getD i e=f (l.getD i d):=by
 simp[AS,As h]
structure ACx (Q:List AD) (o1:List Int) (L:List (Int×Int)) (j:Nat) (oo:Nat->List Int):Prop where
 zero:oo 0=o1
 succ:∀i,i<L.length->oo (i+1)=Ab Q j (oo i) (0,(L.getD i (0,0)).2)
 dok:∀i,KY Q (oo i)
 pre:∀i,o1 <+: oo i
 nxt:∀i,oo i <+: oo (i+1)
 tgt:∀i,∀a∈L.take i,a.2∈oo i
 cls:∀i,∀x∈oo i,x∈o1\/∀a∈(Q.getD x.toNat (0,[])).2,a.2∈oo i
 last:oo L.length=L.foldl (Ab Q j) o1
theorem A75 {Q:List AD} (c:AX Q) {b:List Int} {L:List (Int×Int)} {j:Nat} (g:∀a∈L,0<=a.2/\a.2<(Q.length:Int)) (h1:KY Q b) (k:Q.length-b.length<=j):ACx Q b L j (λi=>(L.take i).foldl (Ab Q j) b):=by
 have f:=λi=>λa (ha:a∈L.take i)=>g a (dO ha);have hs:∀i,i<L.length->(L.take (i+1)).foldl (Ab Q j) b=Ab Q j ((L.take i).foldl (Ab Q j) b) (0,(L.getD i (0,0)).2):=λi hi=>NU (Ab Q j) L (0,0) b hi;have d:=λi=>E2 (EA c j) (L.take i) b (f i) h1;refine⟨rfl,hs,λi=>(d i).1,λi=>(d i).2,λi=>?_,λi=>(Q0 c j _ b (f i) h1 k).1,λi=>(Q0 c j _ b (f i) h1 k).2,by simp only[Sf]⟩;by_cases h:i<L.length
 ·show _ <+: (L.take (i+1)).foldl (Ab Q j) b;rw[hs i h];have l:=g _ (AE L (0,0) h);exact(E2 (EA c j) [(0,(L.getD i (0,0)).2)] _ (λa ha=>by
   have e:a=(0,(L.getD i (0,0)).2):=by simpa using ha
   subst e;exact l) (d i).1).2
 ·show (L.take i).foldl (Ab Q j) b <+: (L.take (i+1)).foldl (Ab Q j) b;rw[At (by omega),At (by omega)];exact ACo _
theorem A76 {α:Type} (l:List α) (x y:α) (t:List α) {k:Nat} (hk:k=l.length):(l++[x]++t).set k y=l++y :: t:=by
 subst hk;rw[Sm,ADM _ _ (by omega),ADr];rfl
theorem A0l {Q:List AD} {o a:List Int} {n:Int} (h:o++[n] <+: a):HV Q o a=Dq Q a n :: HV Q (o++[n]) a:=by
 obtain⟨t,rfl⟩:=h;unfold HV;rw[AE0,Sm,AE0];rfl
end Go.Proofs.YtapkhdkbkodbjaaGreat.Fw
