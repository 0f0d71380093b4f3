/- Contracts of the program's and the reference's functions, and the plain laws of what they compute: R07d R07e Sorted R07f R07g R07h R15c P8 C37 H1 D1 D4 N5 N6 N7 T4 G1 G3 PS PA PB PC PD PE PF PL PG PH. -/
import Derived.Test.YtapkhdkbkodbjaaGreatHYA
import Derived.Test.YtapkhdkbkodbjaaGreatHZJ
import Derived.Test.YtapkhdkbkodbjaaGreatHZI
set_option linter.unusedVariables false
set_option linter.unusedSimpArgs false
namespace Go.Proofs.YtapkhdkbkodbjaaGreat.Fw
open Go
attribute [local irreducible] Ev
attribute [local go_sem] YY AM List.toList_toArray Bq evG evK VA Ef Jj Fs E7 II Pi L2 DA Cp Kj B3 Cq frz d7 GV DE A6 Fa Bd AV.frz AV.frzs AV.drp AV.drps AV.names AV.namess aq GW J4 Ja RP H7 BX Be Iz EZ Hf Ea Hh Hg Hi Tr Np GX I0 Fc Dx Ts Pd qUn I8 IA Kd FJ Df IB Jc EE RQ DJ EF Eq Pe IC Lz FP Ly Nq Pf LS ID Jd EH Dg Gt Di HN DK Er DL EI Y1 B3 Cg PX Pa Lx F6 H9 H8 Jb Nt Pg L1 Ki Kg Jg Ph Kh Jh X6 Nv Nu AV.trn AV.trns Eo C0 Obj.trn JJ bF Dh EK Dy EJ CU Es Ao lk Gn GP HK bin d6 Uz d9 Pc uN uP pfs AV.cells CD Ix OQ Jf Ns CT Lv Ty.cell1 He Ep De F5 Kb E5 J0 LR PZ Em Gr Lu RN Tp Ln Jz X3 aC Pb Lw Co Iy RV.flat Ty.flat Ty.size St.add upd del Bj Value.oneCell' KZ Ty.dflt Hd NE Gx NK List.take_succ_cons List.take_zero List.length_cons Yf Yg NJ IQ KD Gb Hz yF E8 Kr Ks Kt Ku Od Oe Kv Hn Rc Option.map_some Option.map_none Option.bind_some Option.getD_some Option.getD_none Option.isNone_none Option.isNone_some Bool.and_true Bool.true_and Bool.and_false Bool.false_and Bool.not_true Bool.not_false if_true if_false List.length_cons List.length_nil and_true true_and and_self List.all_cons List.all_nil List.append_nil List.nil_append List.cons_append List.getElem?_cons_zero List.getElem?_cons_succ List.getElem?_nil List.map_cons List.map_nil List.set_cons_zero List.set_cons_succ List.isEmpty_nil List.isEmpty_cons decide_true decide_false beq_self_eq_true bne_self_eq_false Nat.zero_add Nat.add_zero Nat.sub_zero Int.toNat_natCast Int.toNat_zero Int.toNat_one List.take_length List.length_append List.length_singleton true_or or_true or_self false_or or_false Ty.agg.injEq Ty.slice.injEq Ty.prod.injEq Ty.int.injEq Option.some.injEq beq_iff_eq La evMG evMQ opM HR LZ B2 JD Gy Nz JC HQ Ho JE KB MD MF ME Rd KA NG NH Hy Aa Aj Op.operands Call.operands List.filterMap_cons List.filterMap_nil List.append_eq Bool.cond_false_right Bool.cond_true_left cond_true cond_false implies_true decide_eq_true_eq beq_true beq_false Bool.or_true Bool.or_false Bool.true_or Bool.false_or Option.isSome_some Array.empty_append List.append_toArray Fb Kk Et HZ X5 Nr FQ Fl Fk IE HL Je Ke U0 d8 Hv inB Ji FY F7 IG Am Yh List.drop_zero DU Ha YA CL Jr CJ AV.fgt AV.fgts Obj.fgt Av Ah Aa Cs IR BK GB List.any_cons List.any_nil pX bB YB bC Lo QC qs List.flatMap_cons List.flatMap_nil List.cons_append tn YC JK List.take_succ_cons List.drop_succ_cons YD Gd BT fV KF B4 CM Ae Ey Jp Bk Ex Dj HO Hm GA HP
attribute [local go_sem] ty1 ty2 ty3 ty4 ty5 ty9 A22 A23 A24 A25 A26 A27 A28 A29 A2a A2b A2c A2d A2e A2f A2g A2h A2i A2j A2k A2l A2m A2n A2o A2p A2q A2r A2s A2t A2u A2v A2w A2x A2y A2z A2A A2B A2C A2D A2E A2F A2G A2H A2I A2J A2K A2L A2M A2N A2O A2P A2Q A2R A2S A2T A2U A2V A2W A2X A2Y A2Z A30 A31 A32 A33 A34 A35 A36 A37 A38 A39 A3a f5 f6 f7 f8 f9 gB gC gD gE gF gG gH gI gJ gK gL gM gN gP gQ gR gS gT gU gV gW gX gY gZ g9 hC hH hZ iA iB iC iD iE iG iH iI iJ iK iL iM iO iP iQ iR iT iU iV iW iX iY iZ i3 i4 i5 i6 i7 i8 i9 jA jB jC jD jE jF jG jH jI jJ jK jL jM jN jO jP jQ jR jS jT jU jV jW jX jY jZ j5 j6 j7 j8 j9 kA kB kC kD kE kF kG kH kI kJ kK kL kM kN kO kP kQ kR kS kT kU kV kW kX kY kZ k5 k6 k7 k8 k9 lA lB lC lD lE lF lG lH lI lJ lK lL lM lN lO lQ lS lU lV lW lX lY lZ l3 l4 l7 l8 l9 mA mB mC mD mE mF mG mH mI mJ mK mL mM
set_option maxRecDepth 100000
set_option maxHeartbeats 4000000
section
attribute [local go_sem] WQ
def LL:List Int->List Int->Int
 | x :: xs,y :: ys=>if x<y then -1 else if y<x then 1 else LL xs ys
 | _,_=>0
theorem R2 (xs ys:List Int) {k:Nat} (h1:k<xs.length) (a:k<ys.length):LL (xs.drop k) (ys.drop k)=if xs.getD k 0<ys.getD k 0 then -1 else if ys.getD k 0<xs.getD k 0 then 1 else LL (xs.drop (k+1)) (ys.drop (k+1)):=by
 rw[On h1,On a,AS,As h1,AS,As a];rfl
theorem A3T (xs ys:List Int) {k:Nat} (h:xs.length<=k\/ys.length<=k):LL (xs.drop k) (ys.drop k)=0:=by
 rcases h with h|h
 ·rw[By h];simp[LL]
 ·rw[By h];simp[LL]
def Cw (a b:List (Int×List (Int×Int))):Int:=LL (Bw a) (Bw b)
def Dp (f:List (Int×List (Int×Int))):Prop:=f.length<=100000/\∀n∈f,n.2.length<=100000
def WR:Ac:={ ins:=[Dw,Dw],pre:=λ(a,b,_)=>Dp a/\Dp b,out:=λ(a,b,_)=>[.p T3 (Cw a b)] }
theorem Qf {f:List (Int×List (Int×Int))} (h:Dp f):(Bw f).length<=1+f.length*200002:=by
 have:=WP f h.2;simp only[Bw,OS];omega
theorem sK:Ad Tryz.prog 78 WR:=by
 refine fK [0,1,2,3,4,5,6,7,21,32,41] Tryz.func78 Tryz.ntmps78 (AF sJ AG) ?_;rintro w0 O0 ⟨a,b,u⟩ e-⟨⟨g,i⟩,⟨j,l⟩⟩;have m:=Qf ⟨g,i⟩;have n:=Qf ⟨j,l⟩;simp only[WR,AM];repeat'(first|exact trivial|refine eS rfl ?_|refine rX e ?_ ?_)
 ·exact⟨g,i⟩
 ·exact⟨j,l⟩
 ·refine AK (ι:={k:Nat//LL ((Bw a).drop k) ((Bw b).drop k)=Cw a b}) (λk=>⟨[(5,.p F3 (Bw a)),(6,.p F3 (Bw b)),(7,.p (.int .i64) (k.1:Int))],[]⟩) (λk=>(Bw a).length-k.1) ⟨0,by simp[Cw]⟩ (AC [] rfl rfl ?_ ?_) (λk=>?_)
  ·exact eN
  ·exact eN
  ·obtain⟨k,hk⟩:=k;repeat'(first|exact trivial|refine eS rfl ?_|refine AB ?_|refine rX e ?_ ?_|refine rC ?_ ?_<;>intro f<;>try(cases f;done))
   ·exact eV
   ·obtain⟨h1,c⟩:k<(Bw a).length/\k<(Bw b).length:=by exact eV
    have d:Cw a b=-1:=by rw[<-hk,R2 _ _ h1 c,BY f]
    exact fI e [.tmp 4] (by rw[d];exact eR)
   ·exact eV
   ·obtain⟨h1,c⟩:k<(Bw a).length/\k<(Bw b).length:=by exact eV
    have d:Cw a b=1:=by rw[<-hk,R2 _ _ h1 c,An (by exact eV),BY f]
    exact fI e [.tmp 4] (by rw[d];exact eR)
   ·exact eV
   ·obtain⟨h1,c⟩:k<(Bw a).length/\k<(Bw b).length:=by exact eV
    refine⟨⟨k+1,?_⟩,by simp only;exact eV,AC [] rfl rfl ?_ ?_⟩
    ·rw[<-hk,R2 _ _ h1 c,An (by exact eV),An (by exact eV)]
    ·exact eN
    ·exact eN
   ·have d:Cw a b=0:=by
     rw[<-hk];apply A3T;by_cases h:k<(Bw a).length
     ·right;have:=f (by exact eV);exact eV
     ·left;exact eV
    exact fI e [.tmp 4] (by rw[d];exact eR)
def LM:Ac:={ ins:=[Dw,Dw],pre:=λ(a,b,_)=>Dp a/\Dp b,out:=λ(a,b,_)=>[.p .bool (Cw a b==0)] }
end
section
attribute [local go_sem] WR nS
theorem nU:Ad Tryz.prog 25 LM:=by
 refine fK [0,1,2,3,4] Tryz.func25 Tryz.ntmps25 (AF sK AG) ?_;rintro w0 O0 ⟨a,b,u⟩ c-d;simp only[LM,AM];repeat'(first|exact trivial|refine eS rfl ?_|refine rX c ?_ ?_)
 ·exact d
 ·exact fI c [.tmp 4]
def HD (m:Int):List (Int×List (Int×Int))->Int
 | []=>0
 | n :: r=>if n.1<0 then 2 else if Ij n.2 m≠0 then Ij n.2 m else HD m r
def CG (f:List (Int×List (Int×Int))):Int:=if f.length=0 then 1 else if 4096<f.length then 7 else HD f.length f
def A3U:Ac:={ ins:=[Dw],pre:=λ_=>True,out:=λ(f,_)=>[.p Ls (CG f)] }
theorem Ik (m:Int) (l:List (Int×List (Int×Int))) {k:Nat} (h:k<l.length):HD m (l.drop k)=if (l.getD k (0,[])).1<0 then 2 else if Ij (l.getD k (0,[])).2 m≠0 then Ij (l.getD k (0,[])).2 m else HD m (l.drop (k+1)):=by
 rw[On h,AS,As h];rfl
theorem A6v:Ad Tryz.prog 132 A3U:=by
 refine fK [0,1,2,3,4,8,12,17,26,38] Tryz.func132 Tryz.ntmps132 (AF A6u AG) ?_;rintro w0 O0 ⟨l,u⟩ a ⟨f,-⟩ -;simp only[A3U,AM];repeat'(first|exact trivial|refine eS rfl ?_|refine rX a ?_ ?_|refine rC ?_ ?_<;>intro b<;>try(cases b;done))
 ·have h1:CG l=1:=by
   have h:l.length=0:=by exact eV
   unfold CG;rw[BY h]
  exact fI a [.tmp 2] (by rw[h1];exact eR)
 ·have h1:CG l=7:=by
   have h:¬l.length=0:=by exact eV
   have e:4096<l.length:=by exact eV
   unfold CG;rw[An h,BY e]
  exact fI a [.tmp 2] (by rw[h1];exact eR)
 ·have h1:CG l=HD l.length l:=by
   have h:¬l.length=0:=by exact eV
   have e:¬4096<l.length:=by exact eV
   unfold CG;rw[An h,An e]
  refine AK (ι:={k:Nat//k<=l.length/\HD l.length (l.drop k)=CG l}) (λk=>⟨[(1,.bp 1 [] 0),(3,.p (.int .i64) (k.1:Int))],[(1,.box 25 true [.p Fe l])]⟩) (λk=>l.length-k.1) ⟨0,by simp[h1]⟩ (AC [(1,.nm 1)] rfl rfl ?_ ?_) (λk=>?_)
  ·exact eN
  ·exact eN
  ·obtain⟨k,hk,hf⟩:=k;repeat'(first|exact trivial|refine eS rfl ?_|refine AB ?_|refine rX a ?_ ?_|refine rC ?_ ?_<;>intro b<;>try(cases b;done))
   ·exact eV
   ·have d:k<l.length:=by exact eV
    have c:CG l=2:=by rw[<-hf,Ik _ _ d,BY b]
    exact fI a [.tmp 2] (by rw[c];exact eR)
   ·exact eV
   ·have d:k<l.length:=by exact eV
    have c:CG l=Ij (l.getD k (0,[])).2 l.length:=by rw[<-hf,Ik _ _ d,An (by exact eV),BY b]
    exact fI a [.tmp 2] (by rw[c];exact eR)
   ·exact eV
   ·have d:k<l.length:=by exact eV
    refine⟨⟨k+1,by exact eV,?_⟩,by simp only;exact eV,AC [(1,.nm 1)] rfl rfl ?_ ?_⟩
    ·rw[<-hf,Ik _ _ d,An (by exact eV),An (by simpa using b)]
    ·exact eN
    ·exact eN
   ·have c:CG l=0:=by
     have hk:l.length<=k:=by exact eV
     rw[<-hf,By hk];rfl
    exact fI a [.tmp 2] (by rw[c];exact eR)
end
def Il (x:Int×Int) (s:List (Int×Int)):Nat->Nat
 | 0=>0
 | n+1=>if x.1<(s.getD n (0,0)).1 then Il x s n else n+1
def O9 (s:List (Int×Int)) (x:Int×Int):List (Int×Int):=s.take (Il x s s.length)++[x]++s.drop (Il x s s.length)
def Af (l:List (Int×Int)):List (Int×Int):=l.foldl O9 []
theorem Uf (x:Int×Int) (s:List (Int×Int)):∀n,Il x s n<=n
 | 0=>NO _
 | n+1=>by
  unfold Il;have:=Uf x s n;split<;>omega
theorem A3V (s:List (Int×Int)) (x:Int×Int):(O9 s x).length=s.length+1:=by
 have:=Uf x s s.length;simp[O9];omega
theorem Hr (l:List (Int×Int)) (x:Int×Int):Af (l++[x])=O9 (Af l) x:=by simp[Af]
theorem MZ:∀(l s:List (Int×Int)),(l.foldl O9 s).length=s.length+l.length
 | [],s=>by simp
 | x :: l,s=>by simp[MZ l,A3V];omega
theorem Cl (l:List (Int×Int)):(Af l).length=l.length:=by simp[Af,MZ]
def Qg:Ac:={ ins:=[DN],pre:=λ(l,_)=>l.length<=1000000,out:=λ(l,_)=>[.own 106 AU (Af l)] }
theorem ZL:Ad Tryz.prog 152 Qg:=by
 refine fK [0,2,3,4,5,6,10,30] Tryz.func152 Tryz.ntmps152 AG ?_;rintro w0 O0 ⟨l,u⟩ c s j;simp only[Qg]at j;simp only[Qg,AM];repeat'(first|exact trivial|refine eS rfl ?_|refine rX c ?_ ?_)
 refine AK (ι:={p:Nat//p<=l.length}) (λk=>⟨[(0,.p DN l),(3,.sr 10 AU 0 (Af (l.take k.1)).length),(4,.p (.int .i64) (k.1:Int))],[(10,.arr 106 AU (Af (l.take k.1)))]⟩) (λk=>l.length-k.1) ⟨0,by omega⟩ (AC [(10,.nil)] rfl rfl ?_ ?_) (λk=>?_)
 ·refine eM ?_;rfl
 ·refine eM ?_;rfl
 ·obtain⟨k,g⟩:=k;have o:(Af (l.take k)).length=k:=by rw[Cl,OR];exact ADH g
  repeat'(first|exact trivial|refine eS rfl ?_|refine rX c ?_ ?_|refine rC ?_ ?_<;>intro b<;>try(cases b;done))
  ·refine AK (ι:={q:Nat//q<=(Af (l.take k)).length/\Il (l.getD k (0,0)) (Af (l.take k)) q=Il (l.getD k (0,0)) (Af (l.take k)) (Af (l.take k)).length}) (λq=>⟨[(0,.p DN l),(3,.sr 10 AU 0 (Af (l.take k)).length),(4,.p (.int .i64) (k:Int)),(5,.p (.int .i64) (q.1:Int))],[(10,.arr 106 AU (Af (l.take k)))]⟩) (λq=>q.1) ⟨(Af (l.take k)).length,by simp⟩ (eW [(10,.nm 10)]) (λq=>?_)
   ·obtain⟨q,m,hp⟩:=q;have h:k<l.length:=by omega
    have n:=l.length_take_le k;have d:(List.take q (Af (List.take k l))).length=q:=by rw[OR];exact ADH m
    repeat'(first|exact trivial|refine eS rfl ?_|refine AB ?_|refine rX c ?_ ?_|refine rC ?_ ?_<;>intro b<;>try(cases b;done))
    ·exact eV
    ·exact eV
    ·obtain⟨h1,a⟩:=b;obtain⟨q,rfl⟩:∃r,q=r+1:=⟨q-1,by omega⟩;have e:((q+1:Nat):Int)-1=(q:Int):=by omega
     refine⟨⟨q,by omega,?_⟩,AEs q,AC [(10,.nm 10)] rfl rfl ?_ ?_⟩
     ·rw[<-hp];simp only[Il];rw[e,Se]at a;rw[BY a]
     ·exact eN
     ·refine eM ?_;show (q:Int)+1-1=q;omega
    ·refine⟨by exact eV,?_⟩;rw[d];unfold AP;omega
    ·refine⟨by exact eV,?_⟩;rw[d];simp only[AP];omega
    ·refine⟨by exact eV,?_⟩;rw[d];simp only[AP,UI];omega
    ·exact eV
    ·have i:Il (l.getD k (0,0)) (Af (l.take k)) q=q:=by
      cases q with
      | zero=>rfl
      | succ q =>
       have e:((q+1:Nat):Int)-1=(q:Int):=by omega
       have:=b (by omega);rw[e,Se]at this;simp only[Il];rw[An (by omega)]
     have h1:=A0 l (0,0) h;have a:Af (l.take (k+1))=_:=(AD0 Af h1).trans (Hr _ _);unfold O9 at a;rw[<-hp,i]at a;refine⟨⟨k+1,by exact eV⟩,by simp only;exact eV,AC [(10,.nm 37)] rfl rfl ?_ ?_⟩
     ·refine eM ?_;exact a.symm
     ·refine eM ?_;have f:=AD0 List.length a;rw[GO,GO]at f;exact f.symm
  ·have hk:l.take k=l:=At (by exact eV);refine Ob c (.inl rfl) (rv:=.tmp 2) rfl ?_;simp only[LV,Jn,X1,go_sem,Nat.reduceEqDiff,reduceCtorEq,Nat.reduceAdd,Nat.reduceSub,Nat.reduceMul,Nat.reduceLeDiff,Nat.reduceLT,Int.reduceLE,Int.reduceToNat,Int.reduceNeg,↓reduceIte];rw[hk];first|rfl|exact⟨rfl,rfl⟩|exact⟨rfl,rfl,rfl⟩
section
attribute [local go_sem] Qg
abbrev AD:=Int×List (Int×Int)
def D6 (f:List AD):Nat->List Int×List Int->Int->List Int×List Int
 | 0,s,_=>s
 | k+1,s,n=>(Af (f.getD n.toNat (0,[])).2).foldl (λs a=>if s.1.getD a.2.toNat 0<0 then D6 f k s a.2 else s) (s.1.set n.toNat (s.2.length:Int),s.2++[n])
def Lp (l:List Int):Nat:=l.countP (λx=>decide (x<0))
def AX (f:List AD):Prop:=f.length<=100000/\∀x∈f,x.2.length<=100000/\∀a∈x.2,0<=a.2/\a.2<(f.length:Int)
def UC (f:List AD) (s:List Int×List Int):Prop:=s.1.length=f.length/\s.2.length+Lp s.1<=f.length
theorem A3W {l:List Int} {n:Nat} {v:Int} (hn:n<l.length) (a:l.getD n 0<0) (d:0<=v):Lp (l.set n v)+1=Lp l:=by
 induction l generalizing n with
 | nil=>simp at hn
 | cons x r c =>
  cases n with
  | zero =>
   have b:x<0:=by simpa using a
   have:¬v<0:=by omega
   simp[Lp,ADK,b,this]
  | succ n =>
   have h1:=c (n:=n) (by simpa using hn) (by simpa using a);simp only[Lp,AEE,ADK]at h1 ⊢;omega
theorem sL {f:List AD} {s:List Int×List Int} {n:Int} (h:UC f s) (d:0<=n) (hn:n<f.length) (b:s.1.getD n.toNat 0<0) :
  UC f (s.1.set n.toNat (s.2.length:Int),s.2++[n])/\Lp (s.1.set n.toNat (s.2.length:Int))+1=Lp s.1:=by
 obtain⟨h1,c⟩:=h;have a:=A3W (l:=s.1) (n:=n.toNat) (v:=(s.2.length:Int)) (by omega) b (by omega);refine⟨⟨by simpa using h1,?_⟩,a⟩;simp only[GO,SY];omega
theorem zT (s:List (Int×Int)) (x:Int×Int):(O9 s x).Perm (x :: s):=by
 unfold O9;refine(List.perm_append_comm.append_right _).trans ?_;simp
theorem Ld:∀(l s:List (Int×Int)),(l.foldl O9 s).Perm (l++s)
 | [],s=>List.Perm.refl _
 | x :: l,s=>by
  refine(Ld l (O9 s x)).trans ?_;refine(List.Perm.append_left l (zT s x)).trans ?_;exact AEV
theorem FC (l:List (Int×Int)):(Af l).Perm l:=by
 have:=Ld l [];simpa[Af] using this
theorem Ma {f:List AD} (hf:AX f) (n:Int):List.length (f.getD n.toNat (0,[])).2<=100000:=by
 by_cases h:n.toNat<f.length
 ·have a:f.getD n.toNat (0,[])∈f:=by
   rw[AS,As h];exact nO h
  exact(hf.2 _ a).1
 ·rw[AS,Sj (by omega)];simp
theorem Ug {f:List AD} (hf:AX f) {n:Int} {a:Int×Int} (ha:a∈Af (f.getD n.toNat (0,[])).2):0<=a.2/\a.2<f.length:=by
 have ha:=(FC _).mem_iff.1 ha;by_cases h:n.toNat<f.length
 ·have b:f.getD n.toNat (0,[])∈f:=by
   rw[AS,As h];exact nO h
  exact(hf.2 _ b).2 a ha
 ·rw[AS,Sj (by omega)]at ha;simp at ha
def Ei (f:List AD) (k:Nat) (s:List Int×List Int) (a:Int×Int):List Int×List Int:=if s.1.getD a.2.toNat 0<0 then D6 f k s a.2 else s
theorem Fz (f:List AD) (k:Nat) (s:List Int×List Int) (n:Int):D6 f (k+1) s n=(Af (f.getD n.toNat (0,[])).2).foldl (Ei f k) (s.1.set n.toNat (s.2.length:Int),s.2++[n]):=rfl
theorem Uh {f:List AD} {k:Nat} (i:∀(s:List Int×List Int) (n:Int),UC f s->0<=n->n<f.length->s.1.getD n.toNat 0<0->UC f (D6 f k s n)/\Lp (D6 f k s n).1<=Lp s.1) :
  ∀(l:List (Int×Int)) (t:List Int×List Int),(∀a∈l,0<=a.2/\a.2<(f.length:Int))->UC f t->UC f (l.foldl (Ei f k) t)/\Lp (l.foldl (Ei f k) t).1<=Lp t.1
 | [],t,_,d=>⟨d,NO _⟩
 | a :: l,t,c,d=>by
  simp only[ON];by_cases h:t.1.getD a.2.toNat 0<0
  ·obtain⟨j,m⟩:=i t a.2 d (c a (by simp)).1 (c a (by simp)).2 h;have e:Ei f k t a=D6 f k t a.2:=BY h;rw[e];obtain⟨o,p⟩:=Uh i l _ (λb g=>c b (by simp[g])) j;exact⟨o,Sd p m⟩
  ·have e:Ei f k t a=t:=An h;rw[e];exact Uh i l t (λb g=>c b (by simp[g])) d
theorem R3 {f:List AD} (hf:AX f):∀(k:Nat) (s:List Int×List Int) (n:Int),UC f s->0<=n->n<f.length->s.1.getD n.toNat 0<0->UC f (D6 f k s n)/\Lp (D6 f k s n).1<=Lp s.1
 | 0,s,n,h,_,_,_=>⟨h,NO _⟩
 | k+1,s,n,h,h0,h1,d=>by
  obtain⟨e,g⟩:=sL h h0 h1 d;obtain⟨b,c⟩:=Uh (R3 hf k) _ _ (λa ha=>Ug hf ha) e;rw[Fz];exact⟨b,by simp only at c g;omega⟩
theorem NU {α β:Type} (g:β->α->β) (l:List α) (d:α) (t:β) {i:Nat} (hi:i<l.length):(l.take (i+1)).foldl g t=g ((l.take i).foldl g t) (l.getD i d):=by
 rw[A0 l d hi,ADU];rfl
def Le (f:List AD) (s:List Int×List Int):List (Nat×Obj):=[(1,.box 184 true [.p Dw f,.sr 2 T3 0 s.1.length,.sr 3 T3 0 s.2.length]),(2,.arr 3 T3 s.1),(3,.arr 3 T3 s.2)]
theorem A3X (f:List AD) (hf:AX f):∀(k:Nat) (s:List Int×List Int) (n:Int),UC f s->0<=n->n<f.length->s.1.getD n.toNat 0<0->Lp s.1<=k ->
  BI Tryz.prog 151 [.bp 1 [] 0,.p T3 n] (Le f s) [1] (λres M=>res=.raw (.tuple #[])/\M=Le f (D6 f k s n)):=by
 intro k;induction k with
 | zero =>
  intro s n h0 h1 u B N;obtain⟨_,O⟩:=sL h0 h1 u B;omega
 | succ k J =>
  intro s n A w m x hk;obtain⟨num,g⟩:=s;obtain⟨t,v⟩:=sL A w m x;obtain⟨G,H⟩:=A;simp only at G H x t v hk;refine K0 [0,1,4,5,40,54] [] [] Tryz.func151 Tryz.ntmps151 (AF ZL AG) ?_;intro w0 K O0 ρ0 c Q R;simp only[Le,Am];repeat'(first|exact trivial|refine eS rfl ?_|refine rX c ?_ ?_)
  ·exact eV
  ·have:=hf.1;simp only[AP];omega
  ·have I:=Ma hf n;exact⟨⟨w,m⟩,Sd I (by omega)⟩
  ·have l:=λa (ha:a∈Af (f.getD n.toNat (0,[])).2)=>Ug hf ha;have D:(Af (f.getD n.toNat (0,[])).2).length<=100000:=by rw[Cl];exact Ma hf n
   generalize C:Af (f.getD n.toNat (0,[])).2=L at l D;generalize o:(num.set n.toNat (g.length:Int),g++[n])=s1 at t;have F:∀i,UC f ((L.take i).foldl (Ei f k) s1)/\Lp ((L.take i).foldl (Ei f k) s1).1<=Lp s1.1:=λi=>Uh (R3 hf k) _ _ (λa ha=>l a (dO ha)) t;have m:num.set n.toNat (g.length:Int)=s1.1:=by rw[<-o]
   have P:g++[n]=s1.2:=by rw[<-o]
   rw[m]at v;refine AK (ι:={i:Nat//i<=L.length}) (λi=>⟨[(0,.bp 1 [] 0),(1,.p T3 n),(4,.p DN L),(5,.p (.int .i64) (i.1:Int))],Le f ((L.take i.1).foldl (Ei f k) s1)⟩) (λi=>L.length-i.1) ⟨0,by omega⟩ (A9V [36] (AC [(1,.nm 1),(2,.nm 2),(3,.nm 3)] rfl rfl ?_ ?_)) (λi=>?_)
   ·simp only[Le];refine eM ?_;simp only[List.foldl_nil];rw[<-o];simp
   ·exact eN
   ·obtain⟨i,hi⟩:=i;obtain⟨r,E⟩:=F i;have q:=λ(h:i<L.length)=>NU (Ei f k) L (0,0) s1 h;generalize z:(L.take i).foldl (Ei f k) s1=b at r E q;simp only[Le];repeat'(first|exact trivial|refine eS rfl ?_|refine AB ?_|refine rX c ?_ ?_|refine rC ?_ ?_<;>intro j<;>try(cases j;done))
    ·have d:i<L.length:=by exact eV
     have:=l _ (AE L (0,0) d);obtain⟨h1,u⟩:=r;refine⟨by exact eV,this.1,?_⟩;rw[h1];exact this.2
    ·have d:i<L.length:=by exact eV
     have y:=l _ (AE L (0,0) d);refine cP 6 c ?_ ?_
     ·exact eV
     ·refine rM c (J b (L.getD i (0,0)).2 r y.1 y.2 (by simpa using j) (by omega)) [(1,.nm 1),(2,.nm 2),(3,.nm 3)] [2,3] ?_ ?_ ?_
      ·exact eN
      ·simp only[Le];exact eN
      ·rintro _ _ ⟨rfl,rfl⟩;refine⟨[(1,.nm 1),(2,.nm 2),(3,.nm 3)],.raw (.tuple #[]),Le f (D6 f k b (L.getD i (0,0)).2),rfl,rfl,?_,?_,rfl,rfl,CQ ?_⟩
       ·simp only[Le];exact eN
       ·exact eN
       ·repeat'(first|refine eS rfl ?_|refine AB ?_|refine rX c ?_ ?_)
        ·exact eV
        ·have e:Ei f k b (L.getD i (0,0))=D6 f k b (L.getD i (0,0)).2:=BY (by simpa using j);refine⟨⟨i+1,by omega⟩,by simp only;omega,AC [(1,.nm 1),(2,.nm 2),(3,.nm 3)] rfl rfl ?_ ?_⟩
         ·simp only[Le,q d,e];exact eN
         ·exact eN
    ·exact eV
    ·have d:i<L.length:=by exact eV
     have e:Ei f k b (L.getD i (0,0))=b:=An (by simpa using j);refine⟨⟨i+1,by omega⟩,by simp only;omega,AC [(1,.nm 1),(2,.nm 2),(3,.nm 3)] rfl rfl ?_ ?_⟩
     ·simp only[q d,e];exact eN
     ·exact eN
    ·have hk:L.take i=L:=At (by exact eV);rw[hk]at z;have h1:D6 f (k+1) (num,g) n=b:=by rw[Fz,C,<-z,<-o]
     rw[h1];exact fM c [] (.raw (.tuple #[])) rfl ⟨rfl,rfl⟩
end
section
attribute [local go_sem] Qg
def nV (f:List AD) (s:List Int×List Int):Prop:=∀n∈s.2,0<=n/\n<(f.length:Int)
theorem WT {f:List AD} (hf:AX f):∀(k:Nat) (s:List Int×List Int) (n:Int),nV f s->0<=n->n<f.length->nV f (D6 f k s n)
 | 0,s,n,h,_,_=>h
 | k+1,s,n,h,h0,h1=>by
  rw[Fz];have key:∀(l:List (Int×Int)) (t:List Int×List Int),(∀a∈l,0<=a.2/\a.2<(f.length:Int))->nV f t->nV f (l.foldl (Ei f k) t):=by
   intro l;induction l with
   | nil=>intro t _ d;exact d
   | cons a l i =>
    intro t e d;simp only[ON];refine i _ (λb g=>e b (by simp[g])) ?_;unfold Ei;split
    ·exact WT hf k t a.2 d (e a (by simp)).1 (e a (by simp)).2
    ·exact d
  refine key _ _ (λa ha=>Ug hf ha) ?_;intro m c;simp only[No,UF]at c;rcases c with c|rfl
  ·exact h m c
  ·exact⟨h0,h1⟩
def GT (f:List AD) (root:Int):List Int×List Int:=D6 f f.length (List.replicate f.length (-1),[]) root
def YH (num:List Int) (a:Int×Int):Int×Int:=(a.1,num.getD a.2.toNat 0)
def Mb (f:List AD) (num:List Int) (n:Int):AD:=((f.getD n.toNat (0,[])).1,(Af (f.getD n.toNat (0,[])).2).map (YH num))
def JR (f:List AD) (root:Int):List AD:=(GT f root).2.map (Mb f (GT f root).1)
theorem nW (m:Nat):Lp (List.replicate m (-1))=m:=by
 induction m with
 | zero=>rfl
 | succ m a=>simp only[Lp,AEb,ADK]at a ⊢;simp[a]
theorem tr0 (f:List AD):UC f (List.replicate f.length (-1),[]):=⟨by simp,by simp[nW]⟩
theorem v7 {f:List AD} {n:Int} (h0:0<=n) (h1:n<f.length):(List.replicate f.length (-1:Int)).getD n.toNat 0<0:=by
 have:n.toNat<f.length:=by omega
 simp[AS,ADC,this]
theorem v8 {f:List AD} (hf:AX f) {n:Int} (h0:0<=n) (h1:n<f.length):UC f (GT f n)/\nV f (GT f n) :=
 ⟨(R3 hf _ _ n (tr0 f) h0 h1 (v7 h0 h1)).1,WT hf _ _ n (λm a=>by simp at a) h0 h1⟩
theorem WU {α b:Type} (g:α->b) (h:b->α) (L:List α) (d:α) {k:Nat} (hk:k<L.length) (u:α->α):((L.take k).map u++L.drop k).set k (u (L.getD k d))=(L.take (k+1)).map u++L.drop (k+1)/\((L.take k).map u++L.drop k).getD k d=L.getD k d:=by
 have h1:((L.take k).map u).length=k:=by simp;omega
 have a:L.drop k=L.getD k d :: L.drop (k+1):=by
  rw[On hk,AS,As hk];rfl
 constructor
 ·rw[A0 L d hk,ADM _ _ (by omega),h1,ADr,a];simp
 ·rw[AS,Ss (by omega),h1,ADr,a];rfl
def ZM:Ac:={ ins:=[Dw,T3],pre:=λ(f,n,_)=>AX f/\0<=n/\n<(List.length f:Int),out:=λ(f,n,_)=>[.p Dw (JR f n)] }
theorem A6w:Ad Tryz.prog 114 ZM:=by
 refine fK [0,1,2,4,5,6,7,8,9,10,11,19,40,60] Tryz.func114 Tryz.ntmps114 (AF ZL AG) ?_;rintro w0 O0 ⟨f,root,u⟩ d-⟨hf,l,m⟩;simp only[ZM,AM];have G:=hf.1;repeat'(first|exact trivial|refine eS rfl ?_|refine rX d ?_ ?_)
 refine AK (ι:={i:Nat//i<=f.length}) (λi=>⟨[(1,.p T3 root),(2,.bp 2 [] 0),(4,.bp 4 [] 0),(5,.bp 14 [] 0),(6,.p (.int .i64) (i.1:Int))],[(2,.box 25 true [.p Fe f]),(4,.box 25 true [.raw (.slice none 0 0)]),(14,.box 184 true [.p Dw f,.sr 10 T3 0 i.1,.raw (.slice none 0 0)]),(10,.arr 3 T3 (List.replicate i.1 (-1)))]⟩) (λi=>f.length-i.1) ⟨0,by omega⟩ (AC [(2,.nm 2),(4,.nm 4),(14,.nm 14),(10,.nil)] rfl rfl ?_ ?_) (λi=>?_)
 ·refine eM ?_;rfl
 ·exact eN
 ·obtain⟨i,hi⟩:=i;repeat'(first|exact trivial|refine eS rfl ?_|refine AB ?_|refine rX d ?_ ?_|refine rC ?_ ?_<;>intro h<;>try(cases h;done))
  ·simp only[AP];omega
  ·exact eV
  ·have hi:i<List.length f:=by exact eV
   refine⟨⟨i+1,by omega⟩,by simp only;omega,AC [(2,.nm 2),(4,.nm 4),(14,.nm 14),(10,.nm 10)] rfl rfl ?_ ?_⟩
   ·refine eM ?_;rw[AEv];simp
   ·exact eN
  ·have A:i=List.length f:=by exact eV
   subst A;have w:=v8 hf l m;refine cP 2 d ?_ ?_
   ·trivial
   ·refine rM d (A3X f hf (List.length f) (List.replicate (List.length f) (-1),[]) root (tr0 f) l m (v7 l m) (by rw[nW];exact NO _)) [(1,.nm 14),(2,.nm 10),(3,.nil)] [10] ?_ ?_ ?_
    ·exact eN
    ·simp only[Le];refine eM ?_;simp
    ·rintro _ _ ⟨rfl,rfl⟩;refine⟨[(14,.nm 1),(101,.nm 2),(102,.nm 3)],.raw (.tuple #[]),[(14,.box 184 true [.p Dw f,.sr 101 T3 0 (GT f root).1.length,.sr 102 T3 0 (GT f root).2.length]),(101,.arr 3 T3 (GT f root).1),(102,.arr 3 T3 (GT f root).2)],rfl,rfl,?_,?_,rfl,rfl,CQ ?_⟩
     ·simp only[Le,GT];exact eN
     ·exact eN
     ·have z:JR f root=(GT f root).2.map (Mb f (GT f root).1):=rfl;rw[z];generalize GT f root=s at w;obtain⟨num,c⟩:=s;obtain⟨⟨r,t⟩,j⟩:=w;simp only at r t;have j:∀n∈c,0<=n/\n<(List.length f:Int):=j;repeat'(first|exact trivial|refine eS rfl ?_|refine rX d ?_ ?_)
      refine AK (ι:={i:Nat//i<=c.length}) (λi=>⟨[(2,.bp 2 [] 0),(4,.bp 4 [] 0),(5,.bp 14 [] 0),(7,.bp 7 [] 0),(8,.p (.int .i64) (i.1:Int))],[(2,.box 25 true [.p Fe f]),(4,.box 25 true [.raw (.slice none 0 0)]),(14,.box 184 true [.p Dw f,.sr 101 T3 0 num.length,.sr 102 T3 0 c.length]),(101,.arr 3 T3 num),(102,.arr 3 T3 c),(7,.box 25 true [.sr 200 NN 0 i.1]),(200,.arr 93 NN ((c.take i.1).map (Mb f num)))]⟩) (λi=>c.length-i.1) ⟨0,by omega⟩ (eW [(2,.nm 2),(4,.nm 4),(14,.nm 14),(101,.nm 101),(102,.nm 102),(7,.nm 7),(200,.nil)]) (λi=>?_)
      ·obtain⟨i,hi⟩:=i;repeat'(first|exact trivial|refine eS rfl ?_|refine rX d ?_ ?_|refine rC ?_ ?_<;>intro h<;>try(cases h;done))
       ·have hi:i<c.length:=by exact eV
        exact⟨by exact eV,j _ (AE c 0 hi)⟩
       ·exact Sd (Ma hf _) (by omega)
       ·have hi:i<c.length:=by exact eV
        have q:=λa (ha:a∈Af (f.getD (Int.toNat (c.getD i 0)) (0,[])).2)=>Ug hf ha;have v:Mb f num (c.getD i 0)=((f.getD (Int.toNat (c.getD i 0)) (0,[])).1,(Af (f.getD (Int.toNat (c.getD i 0)) (0,[])).2).map (YH num)):=rfl;have B:=Ma hf (c.getD i 0);generalize List.getD f (Int.toNat (c.getD i 0)) (0,[])=x at *;obtain⟨E,o⟩:=x;simp only at q v B;have F:=Cl o;generalize Af o=L at *;refine AK (ι:={k:Nat//k<=L.length}) (λk=>⟨[(2,.bp 2 [] 0),(4,.bp 4 [] 0),(5,.bp 14 [] 0),(7,.bp 7 [] 0),(8,.p (.int .i64) (i:Int)),(9,.bp 9 [] 0),(10,.sr 56 AU 0 L.length),(11,.p (.int .i64) (k.1:Int))],[(56,.arr 106 AU ((L.take k.1).map (YH num)++L.drop k.1)),(9,.box 93 true [.p T3 E,.p DN o]),(2,.box 25 true [.p Fe f]),(4,.box 25 true [.raw (.slice none 0 0)]),(14,.box 184 true [.p Dw f,.sr 101 T3 0 num.length,.sr 102 T3 0 c.length]),(101,.arr 3 T3 num),(102,.arr 3 T3 c),(7,.box 25 true [.sr 200 NN 0 i]),(200,.arr 93 NN ((c.take i).map (Mb f num)))]⟩) (λk=>L.length-k.1) ⟨0,by omega⟩ (eW [(2,.nm 2),(4,.nm 4),(14,.nm 14),(101,.nm 101),(102,.nm 102),(7,.nm 7),(200,.nm 200),(9,.nm 9),(56,.nm 56)]) (λk=>?_)
        ·obtain⟨k,hk⟩:=k;repeat'(first|exact trivial|refine eS rfl ?_|refine AB ?_|refine rX d ?_ ?_|refine rC ?_ ?_<;>intro h<;>try(cases h;done))
         ·have g:k<L.length:=by exact eV
          have e:=(WU (YH num) (λb=>b) L (0,0) g (YH num)).2;rw[e];have:=q _ (AE L (0,0) g);rw[r];exact⟨by exact eV,this,by exact eV⟩
         ·exact eV
         ·have g:k<L.length:=by exact eV
          have e:=WU (YH num) (λb=>b) L (0,0) g (YH num);refine⟨⟨k+1,by omega⟩,by simp only;omega,AC [(2,.nm 2),(4,.nm 4),(14,.nm 14),(101,.nm 101),(102,.nm 102),(7,.nm 7),(200,.nm 200),(9,.nm 9),(56,.nm 56)] rfl rfl ?_ ?_⟩
          ·refine eM ?_;rw[e.2];exact e.1
          ·exact eN
         ·simp only[AP];have:=t;omega
         ·exact eV
         ·have g:L.take k=L:=At (by exact eV);have y:L.drop k=[]:=By (by exact eV);refine⟨⟨i+1,by omega⟩,by simp only;omega,AC [(2,.nm 2),(4,.nm 4),(14,.nm 14),(101,.nm 101),(102,.nm 102),(7,.nm 7),(200,.nm 200)] rfl rfl ?_ ?_⟩
          ·refine eM ?_;rw[g,y,Sq,A0 c 0 hi,gO,So,AEm,v];have C:List.take i ((c.take i).map (Mb f num))=(c.take i).map (Mb f num):=At (by rw[SX,OR];omega);have D:List.take L.length (L.map (YH num))=L.map (YH num):=At (by rw[SX];omega);rw[C,D]
          ·exact eN
       ·have hk:c.take i=c:=At (by exact eV);rw[hk];refine fI d [.cell 4 25] (by first|exact eR|refine Xy ?_;exact At (by rw[SX];exact eV))
end
section
attribute [local go_sem] A3U ZM
theorem WV {n:Int}:∀ {l seen:List (Int×Int)},HC n seen l=0->∀a∈l,0<=a.1/\0<=a.2/\a.2<n
 | [],_,_,a,ha=>by cases ha
 | x :: l,seen,h,a,ha=>by
  simp only[HC]at h;split at h
  ·cases h
  ·split at h
   ·cases h
   ·rename_i h1 _;rcases Do.1 ha with rfl|ha
    ·omega
    ·exact WV h a ha
theorem Im {m:Int}:∀ {f:List (Int×List (Int×Int))},HD m f=0->∀x∈f,0<=x.1/\∀a∈x.2,0<=a.1/\0<=a.2/\a.2<m
 | [],_,x,c=>by cases c
 | y :: f,h,x,c=>by
  simp only[HD]at h;split at h
  ·cases h
  ·split at h
   ·rename_i h1 b;exact absurd h b
   ·rename_i h1 b;have b:Ij y.2 m=0:=DO b;rcases Do.1 c with rfl|c
    ·exact⟨by omega,WV b⟩
    ·exact Im h x c
def WW (f:List (Int×List (Int×Int))):Prop:=∀x∈f,x.2.length<=100000
theorem Io {f:List (Int×List (Int×Int))} (h:CG f=0) (hs:WW f):AX f/\0<f.length:=by
 unfold CG at h;split at h
 ·cases h
 ·split at h
  ·cases h
  ·refine⟨⟨by omega,λx b=>⟨hs x b,λa ha=>?_⟩⟩,by omega⟩;have:=(Im h x b).2 a ha;exact⟨this.2.1,this.2.2⟩
def BF (f:List AD):List AD×Int:=if CG f=0 then (JR f 0,0) else ([],CG f)
def cB:Ac:={ ins:=[Dw],pre:=λ(f,_)=>WW f,out:=λ(f,_)=>[.p Dw (BF f).1,.p Ls (BF f).2] }
theorem A3Y:Ad Tryz.prog 82 cB:=by
 refine fK [0,1,2,3,4,8] Tryz.func82 Tryz.ntmps82 (AF A6v (AF A6w AG)) ?_;rintro w0 O0 ⟨f,u⟩ b-hs;simp only[cB,AM];repeat'(first|exact trivial|refine eS rfl ?_|refine rX b ?_ ?_|refine rC ?_ ?_<;>intro a<;>try(cases a;done))
 ·have h:¬CG f=0:=by simpa using a
  have e:BF f=([],CG f):=An h;exact fI b [.cell 2 25,.tmp 3] (by rw[e];exact eR)
 ·have h:CG f=0:=by simpa using a
  have:=Io h hs;exact⟨this.1,by exact eV⟩
 ·have h:CG f=0:=by simpa using a
  have e:BF f=(JR f 0,0):=BY h;exact fI b [.cell 2 25,.tmp 3] (by rw[e];exact eR)
end
def v9 (l:List Int) (n:Int):Bool:=l.any λx=>x==n
def ZN:Ac:={ ins:=[T3],pre:=λ_=>True,out:=λ(t,_)=>[.p Dw [(t,[])]] }
theorem A6x:Ad Tryz.prog 27 ZN:=by
 refine fK [0,2] Tryz.func27 Tryz.ntmps27 AG ?_;rintro w0 O0 ⟨t,u⟩ a - -;simp only[ZN,AM];repeat'(first|exact trivial|refine eS rfl ?_|refine AB ?_|refine rX a ?_ ?_|refine rC ?_ ?_<;>intro b<;>try(cases b;done))
 exact fI a [.cell 2 25]
section
attribute [local go_sem] MY cB LM
def ftB (a:Int×Int):Bool:=decide (a.1<64)
def ndB (x:AD):Bool:=decide (x.1<256)&&x.2.all ftB
def D7 (f:List AD):Bool:=GD f&&f.all ndB&&((BF f).2==0&&(Cw (BF f).1 f==0))
theorem Mc {f:List AD} (h:GD f=true):f.length<=12/\∀x∈f,x.2.length<=12:=by
 unfold GD at h;simp only[AT,Fj,IS]at h;exact h
theorem sM {f:List AD} (hf:AX f) {n:Int} (h0:0<=n) (h1:n<f.length):Dp (JR f n):=by
 obtain⟨⟨b,c⟩,_⟩:=v8 hf h0 h1;have d:=hf.1;refine⟨?_,λx a=>?_⟩
 ·unfold JR;rw[SX];omega
 ·obtain⟨m,_,rfl⟩:=IF.1 a;unfold Mb;simp only[SX,Cl];exact Ma hf m
theorem TS {f:List AD} (hs:WW f):Dp (BF f).1:=by
 unfold BF;split
 ·rename_i h;obtain⟨h1,b⟩:=Io h hs;exact sM h1 (by omega) (by omega)
 ·exact⟨by simp,λx a=>by cases a⟩
end
section
attribute [local go_sem] cB LM
def wA (h:AH) (a:Int×Int):Bool:=decide (a.1<(h.2.length:Int))
def Ui (h:AH) (x:AD):Bool:=decide (x.1<(h.1.length:Int))&&x.2.all (wA h)
def BP (h:AH) (f:List AD):Int:=if (BF f).2≠0 then (BF f).2 else if f.all (Ui h)=false then 2 else if (Cw f (BF f).1==0)=false then 3 else 0
def LN:Ac:={ ins:=[Eg,Dw],pre:=λ(_,f,_)=>Dp f,out:=λ(h,f,_)=>[.p Ls (BP h f)] }
theorem ZO:Ad Tryz.prog 33 LN:=by
 refine fK [0,1,2,3,4,5,6,7,8,9,16,22,35,40,52,56] Tryz.func33 Tryz.ntmps33 (AF A3Y (AF nU AG)) ?_;rintro w0 O0 ⟨⟨b,hf⟩,f,u⟩ d-hs;have hs:Dp f:=hs;simp only[LN,AM];repeat'(first|exact trivial|refine eS rfl ?_|refine rX d ?_ ?_|refine rC ?_ ?_<;>intro a<;>try(cases a;done))
 ·exact hs.2
 ·have h1:BP (b,hf) f=(BF f).2:=by unfold BP;rw[BY a]
  exact fI d [.tmp 4] (by rw[h1];exact eR)
 ·have t:(BF f).2=0:=by simpa using a
  have q:=TS hs.2;have w:=hs.1;have g:BP (b,hf) f=if f.all (Ui (b,hf))=false then 2 else if (Cw f (BF f).1==0)=false then 3 else 0:=by unfold BP;rw[An (by rw[t];simp)]
  refine AK (ι:={i:Nat//i<=f.length/\(f.take i).all (Ui (b,hf))=true}) (λi=>⟨[(2,.bp 2 [] 0),(3,.bp 3 [] 0),(5,.bp 5 [] 0),(7,.p (.int .i64) (i.1:Int))],[(2,.box 31 true [.p Xz b,.p Yu hf]),(3,.box 25 true [.p Fe f]),(5,.box 25 true [.p Fe (BF f).1])]⟩) (λi=>f.length-i.1) ⟨0,by simp⟩ (eW [(2,.nm 2),(3,.nm 3),(5,.nm 5)]) (λi=>?_)
  ·obtain⟨i,hi,l⟩:=i;have r:=λh:i<f.length=>Gf f (0,[]) (Ui (b,hf)) h;simp only;repeat'(first|exact trivial|refine eS rfl ?_|refine rX d ?_ ?_|refine rC ?_ ?_<;>intro a<;>try(cases a;done))
   ·exact a
   ·have c:i<f.length:=If.1 (by assumption);have e:f.all (Ui (b,hf))=false:=by
     rw[ADl];refine⟨_,AE f (0,[]) c,?_⟩;unfold Ui;rw[ADn (ACU.2 a)];simp
    rw[BY e]at g;exact fI d [.tmp 4] (by rw[g];exact eR)
   ·have c:i<f.length:=If.1 (by assumption);have n:=AE f (0,[]) c;have o:Ui (b,hf) (f.getD i (0,[]))=(f.getD i (0,[])).2.all (wA (b,hf)):=by
     unfold Ui;rw[ADm (show (f.getD i (0,[])).1<(b.length:Int) from a)];rfl
    have v:(f.getD i (0,[])).2.length<=100000:=hs.2 _ n;refine AK (ι:={k:Nat//k<=(f.getD i (0,[])).2.length/\((f.getD i (0,[])).2.take k).all (wA (b,hf))=true}) (λk=>⟨[(2,.bp 2 [] 0),(3,.bp 3 [] 0),(5,.bp 5 [] 0),(7,.p (.int .i64) (i:Int)),(8,.bp 8 [] 0),(9,.p (.int .i64) (k.1:Int))],[(2,.box 31 true [.p Xz b,.p Yu hf]),(3,.box 25 true [.p Fe f]),(5,.box 25 true [.p Fe (BF f).1]),(8,.box 93 true [.p T3 (f.getD i (0,[])).1,.p DN (f.getD i (0,[])).2])]⟩) (λk=>(f.getD i (0,[])).2.length-k.1) ⟨0,by simp⟩ (eW [(2,.nm 2),(3,.nm 3),(5,.nm 5),(8,.nm 8)]) (λk=>?_)
    ·obtain⟨k,hk,m⟩:=k;have s:=λh:k<(f.getD i (0,[])).2.length=>Gf (f.getD i (0,[])).2 (0,0) (wA (b,hf)) h;simp only;repeat'(first|exact trivial|refine eS rfl ?_|refine AB ?_|refine rX d ?_ ?_|refine rC ?_ ?_<;>intro a<;>try(cases a;done))
     ·exact a
     ·have j:k<(f.getD i (0,[])).2.length:=If.1 (by assumption);have e:f.all (Ui (b,hf))=false:=by
       rw[ADl];refine⟨_,n,?_⟩;rw[o,ADl.2 ⟨_,AE (f.getD i (0,[])).2 (0,0) j,by unfold wA;rw[ADn (ACU.2 a)];simp⟩];simp
      rw[BY e]at g;exact fI d [.tmp 4] (by rw[g];exact eR)
     ·exact eV
     ·have j:k<(f.getD i (0,[])).2.length:=If.1 (by assumption);refine⟨⟨k+1,j,?_⟩,by simp only;omega,AC [(2,.nm 2),(3,.nm 3),(5,.nm 5),(8,.nm 8)] rfl rfl ?_ ?_⟩
      ·rw[s j,m];unfold wA;exact ADm a
      ·exact eN
      ·exact eN
     ·exact eV
     ·have j:(f.getD i (0,[])).2.take k=(f.getD i (0,[])).2:=At (Sb.1 a);rw[j]at m;refine⟨⟨i+1,c,?_⟩,by simp only;omega,AC [(2,.nm 2),(3,.nm 3),(5,.nm 5)] rfl rfl ?_ ?_⟩
      ·rw[r c,l,o,m];rfl
      ·exact eN
      ·exact eN
   ·exact⟨hs,q⟩
   ·have c:f.take i=f:=At (Sb.1 (by assumption));rw[c]at l;rw[An (by rw[l];simp),BY (by simpa using a)]at g;exact fI d [.tmp 4] (by rw[g];exact eR)
   ·have c:f.take i=f:=At (Sb.1 (by assumption));rw[c]at l;rw[An (by rw[l];simp),An (by rw[a];simp)]at g;exact fI d [.tmp 4] (by rw[g];exact eR)
def cC (h:AH) (f:List AD):Bool:=GD f&&BP h f==0
end
section
attribute [local go_sem] KO KM MY LN
def wB (d:List AI):AH:=if d.length<=12/\(Ar d).2=0 then (Ar d).1 else (Ar Cv).1
end
section
def sN:Ac:={ ins:=[BU,T3],pre:=λ(_,i,_)=>(0:Int)<=i,out:=λ(b,i,_)=>[.p QH (GQ b i)],lend:=true }
attribute [local go_sem] sN
theorem A3Z:Ad Tryz.prog 175 sN:=by
 refine fK [0,1,4,8] Tryz.func175 Tryz.ntmps175 AG ?_;rintro w0 O0 ⟨b,i,u⟩ c-hi;simp only[sN,AM];repeat'(first|exact trivial|refine eS rfl ?_|refine rX c ?_ ?_|refine rC ?_ ?_<;>intro a<;>try(cases a;done))
 ·exact⟨hi,a⟩
 ·have h1:GQ b i=b.getD i.toNat 0:=by unfold GQ;rw[BY a]
  exact fI c [.tmp 4] (by rw[h1];exact eR)
 ·have h1:GQ b i=0:=by unfold GQ;rw[An (ACU.2 a)]
  exact fI c [.tmp 4] (by rw[h1];exact eR)
def Md (a b:List Int):Bool:=(List.range a.length).all λi=>CA .andNot .u64 (a.getD i 0) (GQ b (i:Int))==0
def nX (a b:List Int) (n:Nat):Bool:=(List.range n).all λi=>CA .andNot .u64 (a.getD i 0) (GQ b (i:Int))==0
theorem sO (a b:List Int) (n:Nat):nX a b (n+1)=(nX a b n&&CA .andNot .u64 (a.getD n 0) (GQ b (n:Int))==0):=by
 unfold nX;rw[UJ,AE4];simp
def Qh:Ac:={ ins:=[BU,BU],pre:=λ_=>True,out:=λ(a,b,_)=>[.p .bool (Md a b)],lend:=true }
attribute [local go_sem] Qh
theorem WX:Ad Tryz.prog 133 Qh:=by
 refine fK [0,1,4,5,6,7,8,9,10,19] Tryz.func133 Tryz.ntmps133 (AF A3Z AG) ?_;rintro w0 O0 ⟨a,b,u⟩ e ⟨⟨g,-⟩,-⟩ -;simp only[AP]at g;simp only[Qh,AM];repeat'(first|exact trivial|refine eS rfl ?_|refine rX e ?_ ?_)
 have h:Md a b=nX a b a.length:=rfl;refine AK (ι:={n:Nat//n<=a.length/\nX a b n=true}) (λn=>⟨[(1,.p BU b),(7,.p BU a),(8,.p (.int .i64) (a.length:Int)),(9,.p (.int .i64) (n.1:Int))],[]⟩) (λn=>a.length-n.1) ⟨0,IN _,rfl⟩ (eW []) (λn=>?_)
 ·obtain⟨n,hn,f⟩:=n;have hs:=sO a b n;simp only;repeat'(first|exact trivial|refine eS rfl ?_|refine AB ?_|refine rX e ?_ ?_|refine rC ?_ ?_<;>intro d<;>try(cases d;done))
  ·exact d
  ·have c:n<a.length:=by exact eV
   have h1:Md a b=false:=by
    unfold Md;rw[ADl];exact⟨n,Sl.2 c,by simpa using d⟩
   exact fI e [.tmp 4] (by rw[h1];exact eR)
  ·exact eV
  ·have c:n<a.length:=by exact eV
   refine⟨⟨n+1,c,?_⟩,by simp only;omega,AC [] rfl rfl ?_ ?_⟩
   ·rw[hs,f];simpa using d
   ·exact eN
   ·exact eN
  ·have c:n=a.length:=by exact eV
   subst c;exact fI e [.tmp 4] (by rw[h,f];exact eR)
abbrev TT:HA:=(ByteArray.empty,[],[],[])
def A7 (h:AH) (a b:Int):Bool:=Md (h.1.getD b.toNat TT).2.1 (h.1.getD a.toNat TT).2.1
def WY:Ac:={ ins:=[Eg,T3,T3],pre:=λ(h,a,b,_)=>((0:Int)<=a/\a<(List.length (h:AH).1:Int))/\((0:Int)<=b/\b<(List.length (h:AH).1:Int)),out:=λ(h,a,b,_)=>[.p .bool (A7 h a b)],lend:=true }
theorem cE:Ad Tryz.prog 84 WY:=by
 refine fK [0,1,2,3,6] Tryz.func84 Tryz.ntmps84 (AF WX AG) ?_;rintro w0 O0 ⟨⟨e,hf⟩,a,b,u⟩ c-⟨ha,d⟩;simp only[WY,AM];repeat'(first|exact trivial|refine eS rfl ?_|refine rX c ?_ ?_)
 ·exact⟨d,ha⟩
 ·exact fI c [.tmp 6] (by unfold A7;exact eR)
end
section
attribute [local go_sem] Qh
def WZ:Ac:={ ins:=[BU],pre:=λ(b,_)=>List.length b<=100000,out:=λ(b,_)=>[.p BU (BM b)] }
attribute [local go_sem] WZ
theorem sP:Ad Tryz.prog 212 WZ:=by
 refine fK [0,2,3,15] Tryz.func212 Tryz.ntmps212 AG ?_;rintro w0 O0 ⟨b,u⟩ d-f;have f:b.length<=100000:=f;simp only[WZ,AM];repeat'(first|exact trivial|refine eS rfl ?_|refine rX d ?_ ?_)
 refine AK (ι:={n:Nat//n<=b.length/\Cf b n=Cf b b.length}) (λn=>⟨[(0,.p BU b),(3,.p (.int .i64) (n.1:Int))],[]⟩) (λn=>n.1) ⟨b.length,NO _,rfl⟩ (eW []) (λn=>?_)
 ·obtain⟨n,hn,g⟩:=n;simp only;repeat'(first|refine eS rfl ?_|refine AB ?_|refine rX d ?_ ?_|refine rC ?_ ?_<;>intro c<;>try(cases c;done))
  ·constructor
   ·exact eV
   ·intro h;refine⟨?_,?_⟩<;>exact eV
  ·exact eV
  ·obtain⟨h1,a⟩:=c;obtain⟨m,rfl⟩:∃m,n=m+1:=⟨n-1,by omega⟩;have e:(((m+1:Nat):Int)-1)=(m:Int):=by omega
   rw[e]at a;have a:b.getD m 0=0:=a;have j:Cf b m=Cf b b.length:=by
    rw[<-g];show _=if b.getD m 0=0 then Cf b m else m+1
    rw[BY a]
   refine⟨⟨m,by omega,j⟩,by simp,AC [] rfl rfl ?_ ?_⟩
   ·exact eN
   ·simp only[e];exact eN
  ·exact Sb.2 hn
  ·have i:Cf b n=n:=by
    cases n with
    | zero=>rfl
    | succ m =>
     have e:(((m+1:Nat):Int)-1)=(m:Int):=by omega
     rw[e]at c;have a:=c (by omega);have a:¬b.getD m 0=0:=a;show (if b.getD m 0=0 then Cf b m else m+1)=m+1;rw[An a]
   have h1:BM b=b.take n:=by unfold BM;rw[<-g,i]
   rw[<-h1];exact fI d [.tmp 2]
def HE (g:Nat->Int) (n i:Nat):List Int:=(List.range n).map λj=>if j<i then g j else 0
theorem ZP (g:Nat->Int) (n i:Nat):(HE g n i).length=n:=by simp[HE]
theorem sQ (g:Nat->Int) (n:Nat):HE g n 0=List.replicate n 0:=by
 apply UK
 ·simp[HE]
 ·intro j h1 a;simp[HE]
theorem zU (g:Nat->Int) (n i:Nat):(HE g n i).set i (g i)=HE g n (i+1):=by
 apply UK
 ·simp[HE]
 ·intro j h1 b;simp only[HE,List.getElem_set,ADJ,ADN];split
  ·rename_i e;rw[BY (by omega),e]
  ·rename_i e;by_cases a:j<i
   ·rw[BY a,BY (by omega)]
   ·rw[An a,An (by omega)]
def cF (a b:List Int) (i:Nat):Int:=CA .and .u64 (a.getD i 0) (b.getD i 0)
def GE (a b:List Int):List Int:=BM (HE (cF a b) (min a.length b.length) (min a.length b.length))
def A40:Ac:={ ins:=[BU,BU],pre:=λ(a,_,_)=>List.length a<=100000,out:=λ(a,b,_)=>[.p BU (GE a b)] }
attribute [local go_sem] A40
theorem A6y:Ad Tryz.prog 176 A40:=by
 refine fK [0,1,4,5,6,14,15,16] Tryz.func176 Tryz.ntmps176 (AF sP AG) ?_;rintro w0 O0 ⟨a,b,u⟩ d-ha;have ha:a.length<=100000:=ha;simp only[A40,AM];repeat'(first|exact trivial|refine eS rfl ?_|refine rX d ?_ ?_)
 ·split<;>simp only[AP]<;>dsimp only[Ty.den]at *<;>omega
 ·have h:Int.toNat (if ((List.length b:Nat):Int)<((List.length a:Nat):Int) then ((List.length b:Nat):Int) else ((List.length a:Nat):Int))=min (List.length a) (List.length b):=by split<;>omega
  rw[h];have j:GE a b=BM (HE (cF a b) (min a.length b.length) (min a.length b.length)):=rfl;have k:min a.length b.length<=a.length:=Nat.min_le_left _ _;have l:min a.length b.length<=b.length:=Nat.min_le_right _ _;generalize min a.length b.length=n at *;refine AK (ι:={i:Nat//i<=n}) (λi=>⟨[(0,.p BU a),(1,.p BU b),(5,.sr 12 QH 0 n),(14,.p (.int .i64) (n:Int)),(15,.p (.int .i64) (i.1:Int))],[(12,.arr 186 QH (HE (cF a b) n i.1))]⟩) (λi=>n-i.1) ⟨0,IN _⟩ (AC [(12,.nm 12)] rfl rfl ?_ ?_) (λi=>?_)
  ·refine eM ?_;rw[sQ]
  ·exact eN
  ·obtain⟨i,hi⟩:=i;have f:=ZP (cF a b) n i;simp only;repeat'(first|exact trivial|refine eS rfl ?_|refine AB ?_|refine rX d ?_ ?_|refine rC ?_ ?_<;>intro c<;>try(cases c;done))
   ·have e:i<n:=If.1 c;exact⟨by exact eV,by exact eV,c⟩
   ·exact eV
   ·have e:i<n:=If.1 c;refine⟨⟨i+1,e⟩,by simp only;omega,AC [(12,.nm 12)] rfl rfl ?_ ?_⟩
    ·simp only[<-zU];refine eM ?_;rfl
    ·exact eN
   ·have e:i=n:=by omega
    subst e;have g:(HE (cF a b) i i).take i=HE (cF a b) i i:=At (by rw[f];exact NO _);refine F1 [12] ?_;repeat'(first|refine eS rfl ?_|refine rX d ?_ ?_)
    ·rw[g,f];dsimp only[Ty.den]at *;omega
    ·rw[g];exact fI d [.tmp 4] (by rw[j];exact eR)
def D8 (a b:List Int):Bool:=Md a b&&Md b a
def cH:Ac:={ ins:=[BU,BU],pre:=λ_=>True,out:=λ(a,b,_)=>[.p .bool (D8 a b)],lend:=true }
attribute [local go_sem] cH
theorem zV:Ad Tryz.prog 179 cH:=by
 refine fK [0,1,4] Tryz.func179 Tryz.ntmps179 (AF WX AG) ?_;rintro w0 O0 ⟨a,b,u⟩ c - -;simp only[cH,AM];repeat'(first|exact trivial|refine eS rfl ?_|refine rX c ?_ ?_)
 exact fI c [.tmp 4] (by unfold D8;exact eR)
def FH (c:List Int):Nat->List HA->Int
 | _,[]=>-1
 | k,t :: l=>if D8 t.2.1 c=true then (k:Int) else FH c (k+1) l
theorem sR (c:List Int) (l:List HA) {k:Nat} (h:k<l.length):FH c k (l.drop k)=if D8 (l.getD k TT).2.1 c=true then (k:Int) else FH c (k+1) (l.drop (k+1)):=by
 rw[On h];have e:l.getD k TT=l[k]:=by simp[AS,h]
 rw[e];rfl
theorem A41 (c:List Int) (t:HA):BI Tryz.prog 178 [.p rA t,.bp 1 [] 0] [(1,.box 140 false [.p BU c])] [1] (λres b=>res=.p .bool (D8 t.2.1 c)/\b=[(1,.box 140 false [.p BU c])]):=by
 refine K0 [0,1,2,3] [] [] Tryz.func178 Tryz.ntmps178 (AF zV AG) ?_;intro w0 K O0 ρ0 a d e;simp only[Am];repeat'(first|exact trivial|refine eS rfl ?_|refine rX a ?_ ?_)
 refine Ev.ent (σ':=⟨[(3,.p .bool (D8 t.2.1 c))],[(1,.box 140 false [.p BU c])]⟩) ?_ (AC [(1,.nm 1)] rfl rfl ?_ ?_)
 ·exact fM a [.tmp 3] (.p .bool (D8 t.2.1 c)) eT ⟨rfl,rfl⟩
 ·exact eN
 ·exact eN
theorem zW (l:List HA) (c:List Int) (i:l.length<=100000):BI Tryz.prog 177 [.p Xz l,.clo 178 [1]] [(1,.box 140 false [.p BU c])] [1] (λres g=>res=.p T3 (FH c 0 l)/\g=[(1,.box 140 false [.p BU c])]):=by
 refine K0 [0,1,4,5,7,8,9,16] [] [] Tryz.func177 Tryz.ntmps177 AG ?_;intro w0 K O0 ρ0 b j m;simp only[Am];repeat'(first|exact trivial|refine eS rfl ?_|refine rX b ?_ ?_)
 refine AK (ι:={k:Nat//k<=l.length/\FH c k (l.drop k)=FH c 0 l}) (λk=>⟨[(0,.p Xz l),(1,.clo 178 [1]),(7,.p (.int .i64) (l.length:Int)),(8,.p (.int .i64) (k.1:Int))],[(1,.box 140 false [.p BU c])]⟩) (λk=>l.length-k.1) ⟨0,IN _,rfl⟩ (eW [(1,.nm 1)]) (λk=>?_)
 ·obtain⟨k,hk,hf⟩:=k;have f:=λh:k<l.length=>sR c l h;simp only;repeat'(first|exact trivial|refine eS rfl ?_|refine rX b ?_ ?_|refine rC ?_ ?_<;>intro a<;>try(cases a;done))
  ·have d:k<l.length:=If.1 a;have e:=f d;refine cP 5 b ?_ ?_
   ·exact a
   ·refine rM b (A41 c (l.getD k TT)) [(1,.nm 1)] [] ?_ ?_ ?_
    ·exact eN
    ·exact eN
    ·rintro _ _ ⟨rfl,rfl⟩;refine⟨[(1,.nm 1)],.p .bool (D8 (l.getD k TT).2.1 c),[(1,.box 140 false [.p BU c])],rfl,rfl,?_,?_,rfl,rfl,CQ ?_⟩
     ·exact eN
     ·exact eN
     ·repeat'(first|exact trivial|refine eS rfl ?_|refine AB ?_|refine rX b ?_ ?_|refine rC ?_ ?_<;>intro a<;>try(cases a;done))
      ·have a:D8 (l.getD k TT).2.1 c=true:=a;rw[BY a,hf]at e;refine Ev.ent (σ':=⟨[(4,.p (.int .i64) (k:Int))],[(1,.box 140 false [.p BU c])]⟩) ?_ (AC [(1,.nm 1)] rfl rfl ?_ ?_)
       ·exact fM b [.tmp 4] (.p T3 (k:Int)) eT ⟨by rw[e],rfl⟩
       ·exact eN
       ·exact eN
      ·omega
      ·have a:D8 (l.getD k TT).2.1 c=false:=a;rw[An (by rw[a];simp)]at e;exact⟨⟨k+1,d,e.symm.trans hf⟩,by simp only;omega,eW [(1,.nm 1)]⟩
  ·have d:l.drop k=[]:=By (Sb.1 a);rw[d]at hf;have hf:(-1:Int)=FH c 0 l:=hf;refine Ev.ent (σ':=⟨[(4,.p (.int .i64) (-1))],[(1,.box 140 false [.p BU c])]⟩) ?_ (AC [(1,.nm 1)] rfl rfl ?_ ?_)
   ·exact fM b [.tmp 4] (.p T3 (-1)) eT ⟨by rw[hf],rfl⟩
   ·exact eN
   ·exact eN
def Bc (h:AH) (t:Int):List Int:=(h.1.getD t.toNat TT).2.1
def Bo (h:AH) (a b:Int):Int×Bool :=
 if (GE (Bc h a) (Bc h b)).length=0 then (0,false) else if FH (GE (Bc h a) (Bc h b)) 0 h.1<0 then (0,false) else (FH (GE (Bc h a) (Bc h b)) 0 h.1,true)
def wC:Ac:={ ins:=[Eg,T3,T3],pre:=λ(h,a,b,_)=>((0:Int)<=a/\a<(List.length (h:AH).1:Int))/\((0:Int)<=b/\b<(List.length (h:AH).1:Int))/\List.length (h:AH).1<=100000/\(∀x∈(h:AH).1,x.2.1.length<=100000),out:=λ(h,a,b,_)=>[.p T3 (Bo h a b).1,.p .bool (Bo h a b).2],lend:=true }
theorem wD:Ad Tryz.prog 135 wC:=by
 refine fK [0,1,2,3,6,7,8,9,25,31] Tryz.func135 Tryz.ntmps135 (AF A6y AG) ?_;rintro w0 O0 ⟨⟨d,hf⟩,a,b,u⟩ e-⟨ha,i,k,n⟩;simp only[wC,AM];refine Ev.ent (σ':=⟨[(0,.p Eg (d,hf)),(1,.p T3 a),(2,.p T3 b)],[]⟩) ?_ (AC [] rfl rfl ?_ ?_)
 ·repeat'(first|exact trivial|refine eS rfl ?_|refine rX e ?_ ?_|refine rC ?_ ?_<;>intro f<;>try(cases f;done))
  ·refine⟨ha,i,?_⟩;have h1:Int.toNat a<List.length d:=(AEp ha.1).2 ha.2;exact n _ (AE (d:List HA) TT h1)
  ·have l:Bo (d,hf) a b=(0,false):=by
    unfold Bo;rw[BY (by unfold Bc;exact AEP f)]
   exact fI e [.tmp 6,.tmp 7] (by rw[l];exact eR)
  ·have j:∀c,c=GE (List.getD d (Int.toNat a) (ByteArray.empty,[],[],[])).2.1 (List.getD d (Int.toNat b) (ByteArray.empty,[],[],[])).2.1->c=GE (Bc (d,hf) a) (Bc (d,hf) b):=λc h=>h;have g:Bo (d,hf) a b=if FH (GE (Bc (d,hf) a) (Bc (d,hf) b)) 0 d<0 then (0,false) else (FH (GE (Bc (d,hf) a) (Bc (d,hf) b)) 0 d,true):=by
    unfold Bo;rw[An (λh=>f (by unfold Bc at h;exact AD0 Int.ofNat h))]
   generalize o:GE (List.getD d (Int.toNat a) (ByteArray.empty,[],[],[])).2.1 (List.getD d (Int.toNat b) (ByteArray.empty,[],[],[])).2.1=c at *;rw[<-j c rfl]at g;refine cP 3 e ?_ ?_
   ·trivial
   ·refine rM e (zW d c k) [(1,.nm 8)] [] ?_ ?_ ?_
    ·exact eN
    ·exact eN
    ·rintro _ _ ⟨rfl,rfl⟩;refine⟨[(8,.nm 1)],.p T3 (FH c 0 d),[(8,.box 140 false [.p BU c])],rfl,rfl,?_,?_,rfl,rfl,?_⟩
     ·exact eN
     ·exact eN
     ·generalize FH c 0 d=m at *;refine rL e ?_ ?_
      ·trivial
      ·repeat'(first|exact trivial|refine eS rfl ?_|refine rX e ?_ ?_|refine rC ?_ ?_<;>intro f<;>try(cases f;done))
       ·rw[BY f]at g;exact fI e [.tmp 6,.tmp 7] (by rw[g];exact eR)
       ·rw[An (ACU.2 f)]at g;exact fI e [.tmp 6,.tmp 7] (by rw[g];exact eR)
 ·exact eN
 ·exact eN
end
theorem Wa (l:List (List Int)) (i k:Nat):l <+: Gg l i k:=by
 unfold Gg;split
 ·exact AEF _ _
 ·exact ACo _
theorem Wb (i:Nat):∀(n k:Nat) (l:List (List Int)),l <+: Gh i n k l
 | 0,_,l=>ACo l
 | n+1,k,l=>by
  unfold Gh;split
  ·exact(Wa l i k).trans (Wb i n (k+1) _)
  ·exact ACo l
theorem Qi:∀(n i:Nat) (l:List (List Int)),l <+: Ib n i l
 | 0,_,l=>ACo l
 | n+1,i,l=>by
  unfold Ib;split
  ·exact(Wb i i 0 l).trans (Qi n (i+1) _)
  ·exact ACo l
theorem Qj {l m:List (List Int)} (h:l <+: m) {k:Nat} (hk:k<l.length):m.getD k []=l.getD k []:=by
 obtain⟨t,rfl⟩:=h;simp only[AS];rw[Sp hk]
def Lf (l:List (List Int)) (q p:Nat):Prop:=Ek (l.getD q []) (l.getD p [])=[]\/Ek (l.getD q []) (l.getD p [])∈l
theorem Lf.pre {l m:List (List Int)} (h:l <+: m) {q p:Nat} (b:q<l.length) (hp:p<l.length) (a:Lf l q p):Lf m q p:=by
 unfold Lf at a ⊢;rw[Qj h b,Qj h hp];rcases a with a|a
 ·exact .inl a
 ·exact .inr (h.subset a)
theorem A6z {l:List (List Int)} {b:List Int} (h:rQ l b=true):b∈l:=by
 obtain⟨x,a,e⟩:=Sc.1 h;have:x=b:=by simpa[Hb] using e
 rw[<-this];exact a
theorem sS {l:List (List Int)} {i k:Nat} (hi:i<l.length) (hk:k<l.length):Lf (Gg l i k) i k:=by
 have hp:=Wa l i k;unfold Lf;rw[Qj hp hi,Qj hp hk];unfold Gg;split
 ·right;simp
 ·rename_i a;rw[AT,Fj,SZ]at a;by_cases h0:0<((Ek (l.getD i []) (l.getD k [])).length:Int)
  ·right;cases hh:rQ l (Ek (l.getD i []) (l.getD k [])) with
   | true=>exact A6z hh
   | false=>exact absurd ⟨h0,hh⟩ a
  ·left;exact Sk (by omega)
theorem Wc {i:Nat}:∀ {n k:Nat} {l:List (List Int)},n+k=i->i<l.length->(Gh i n k l).length<=256->(∀p,p<k->Lf l i p)->∀p,p<i->Lf (Gh i n k l) i p
 | 0,k,l,hn,hi,a,h=>λp hp=>h p (by omega)
 | n+1,k,l,hn,hi,a,h=>by
  unfold Gh at a ⊢;split at a
  ·rename_i b;rw[BY b];have hp:=Wa l i k;refine Wc (by omega) (ACq hi hp.length_le) a λp c=>?_;by_cases e:p=k
   ·subst e;exact sS hi (by omega)
   ·exact(h p (by omega)).pre hp hi (by omega)
  ·rename_i b;exact absurd (by omega:l.length<=256) b
theorem Wd:∀ {n i:Nat} {l:List (List Int)},257<=n+i->(Ib n i l).length<=256->i<=l.length->(∀q p,p<q->q<i->Lf l q p)->∀q p,p<q->q<(Ib n i l).length->Lf (Ib n i l) q p
 | 0,i,l,hn,a,f,h=>λq p c d=>by
  have j:l.length<=256:=a;omega
 | n+1,i,l,hn,a,f,h=>by
  unfold Ib at a ⊢;split at a
  ·rename_i b;rw[BY b];have hp:=Wb i i 0 l;have k:=hp.length_le;have g:=(Qi n (i+1) (Gh i i 0 l)).length_le;refine Wd (by omega) a (by omega) λq p c d=>?_;by_cases e:q=i
   ·subst e;exact Wc (by omega) b.1 (by omega) (λp hp=>by omega) p c
   ·exact(h q p c (by omega)).pre hp (by omega) (by omega)
  ·rename_i b;rw[An b];intro q p c d;exact h q p c (by
    refine DO λhh=>b ⟨by omega,a⟩)
theorem cI {c:List (List Int)} (a:(Au c).length<=256):∀q p,p<q->q<(Au c).length->Lf (Au c) q p :=
 Wd (by omega) a (IN _) (λq p _ h=>by omega)
theorem A42 (a b:List Int) (k:Nat):(Ek a b).getD k 0=if k<a.length then CA .and .u64 (a.getD k 0) (b.getD k 0) else 0:=by
 unfold Ek;rw[QU];split
 ·rename_i h;exact NR .and a b h
 ·rename_i h;rw[AS,Sj (by rw[E0];omega)];rfl
theorem HF {b:List Int} {k:Nat} (h:¬k<b.length):b.getD k 0=0:=by
 rw[AS,Sj (by omega)];rfl
theorem Qk {a b:List Int} (ha:Id a) (c:Id b) (i:Nat):BE (Ek a b) i=(BE a i&&BE b i):=by
 unfold BE;rw[A42];split
 ·rw[Ic (BJ ha _) (BJ c _),Se,Nat.testBit_and]
 ·rename_i h;rw[HF h];simp
theorem Ql {a b:List Int} (ha:Id a) (d:Id b):Id (Ek a b):=by
 refine Oz λx c=>?_;unfold Ge at c;obtain⟨i,-,rfl⟩:=IF.1 c;rw[H5,Ic (BJ ha _) (BJ d _)];have h1:=BJ ha i;have e:(a.getD i 0).toNat &&& (b.getD i 0).toNat<=(a.getD i 0).toNat:=AEy;have f:=h1.1;have g:=h1.2;exact⟨oF _,by omega⟩
theorem R4 (b:List Int):∀n,Cf b n=0\/b.getD (Cf b n-1) 0≠0
 | 0=>.inl rfl
 | n+1=>by
  unfold Cf;split
  ·exact R4 b n
  ·rename_i h;right;simpa using h
theorem A6A {n:Nat} (h0:n≠0) (h1:n<18446744073709551616):∃r,r<64/\n.testBit r=true:=by
 refine DO λb=>h0 ?_;refine Nat.eq_of_testBit_eq λr=>?_;rw[Nat.zero_testBit];by_cases c:r<64
 ·cases a:n.testBit r with
  | false=>rfl
  | true=>exact absurd ⟨r,c,a⟩ b
 ·have e:(18446744073709551616:Nat)=2 ^ 64:=by decide
  rw[e]at h1;exact Nat.testBit_lt_two_pow (ACq h1 (Nat.pow_le_pow_right (by decide) (by omega)))
theorem nY {b:List Int} (a:Id b) {k:Nat} (h:b.getD k 0≠0):∃i,BE b i=true:=by
 have hu:=BJ a k;have h1:=hu.1;have d:=hu.2;obtain⟨r,e,c⟩:=A6A (n:=(b.getD k 0).toNat) (by omega) (by omega);refine⟨64*k+r,?_⟩;unfold BE;rw[show (64*k+r) / 64=k by omega,show (64*k+r) % 64=r by omega];exact c
theorem sT {b:List Int} (a:Id b) (h:BM b≠[]):∃i,BE b i=true:=by
 rcases R4 b b.length with h1|h1
 ·exact absurd (by unfold BM;rw[h1];rfl) h
 ·exact nY a h1
theorem ZQ {a b:List Int} (ha:Id a) (c:Id b) (h:∀i,BE a i=true->BE b i=true) (k:Nat):CA .andNot .u64 (a.getD k 0) (b.getD k 0)=0:=by
 rw[Rw];have:(BitVec.ofInt 64 (a.getD k 0) &&& ~~~BitVec.ofInt 64 (b.getD k 0))=0#64:=by
  apply BitVec.eq_of_getLsbD_eq;intro r e;rw[BitVec.getLsbD_and,BitVec.getLsbD_not,<-ADS,<-ADS,Fv (BJ ha k),Fv (BJ c k)];have hk:=h (64*k+r);unfold BE at hk;rw[show (64*k+r) / 64=k by omega,show (64*k+r) % 64=r by omega]at hk;cases d:(a.getD k 0).toNat.testBit r with
  | false=>simp
  | true=>rw[hk d];simp
 rw[this];rfl
theorem Fh {a b:List Int} (ha:Id a) (c:Id b):FA a b=true↔∀i,BE a i=true->BE b i=true:=by
 constructor
 ·exact λh i hi=>MW ha c h hi
 ·intro h;unfold FA Rp BM;have h1:Cf (Ge .andNot a b a.length) (Ge .andNot a b a.length).length=0:=by
   rw[E0];exact Rx λk hk=>by rw[NR _ _ _ hk];exact ZQ ha c h k
  rw[h1];rfl
structure JS (l:List (List Int)):Prop where
 wds:∀c∈l,Id c
 some:∀c∈l,∃i,BE c i=true
 wid:∀c∈l,c.length<=64
 meet:∀a∈l,∀b∈l,(∃i,BE a i=true/\BE b i=true)->∃t∈l,∀i,BE t i=(BE a i&&BE b i)
structure Bs (l:List (List Int)):Prop where
 wds:∀c∈l,Id c
 some:∀c∈l,∃i,BE c i=true
theorem R5 {l:List (List Int)} {k:Nat} (h:¬k<l.length):l.getD k []=[]:=by
 rw[AS,Sj (by omega)];rfl
theorem Bs.get {l:List (List Int)} (h:Bs l) (k:Nat):Id (l.getD k []):=by
 by_cases hk:k<l.length
 ·exact h.wds _ (BC hk)
 ·rw[R5 hk];intro x a;cases a
theorem A6B {l:List (List Int)} (h:Bs l) (i k:Nat):Bs (Gg l i k):=by
 unfold Gg;split
 ·rename_i b;rw[AT,Fj]at b;refine⟨λc a=>?_,λc a=>?_⟩
  ·rcases No.1 a with a|a
   ·exact h.wds c a
   ·have:c=Ek (l.getD i []) (l.getD k []):=by simpa using a
    rw[this];exact Ql (h.get i) (h.get k)
  ·rcases No.1 a with a|a
   ·exact h.some c a
   ·have:c=Ek (l.getD i []) (l.getD k []):=by simpa using a
    rw[this];have g:Ek (l.getD i []) (l.getD k [])≠[]:=by
     intro e;rw[e]at b;exact absurd b.1 (by simp)
    have m:Id (Ge .and (l.getD i []) (l.getD k []) (l.getD i []).length):=by
     intro x d;unfold Ge at d;obtain⟨j,-,rfl⟩:=IF.1 d;rw[H5,Ic (BJ (h.get i) _) (BJ (h.get k) _)];have h1:=BJ (h.get i) j;have n:((l.getD i []).getD j 0).toNat &&& ((l.getD k []).getD j 0).toNat<=((l.getD i []).getD j 0).toNat:=AEy;have o:=h1.1;have p:=h1.2;exact⟨oF _,by omega⟩
    obtain⟨j,f⟩:=sT m g;exact⟨j,by unfold Ek;rw[Oy];exact f⟩
 ·exact h
theorem wF {i:Nat}:∀ {n k:Nat} {l:List (List Int)},Bs l->Bs (Gh i n k l)
 | 0,_,_,h=>h
 | n+1,k,l,h=>by
  unfold Gh;split
  ·exact wF (A6B h i k)
  ·exact h
theorem wG:∀ {n i:Nat} {l:List (List Int)},Bs l->Bs (Ib n i l)
 | 0,_,_,h=>h
 | n+1,i,l,h=>by
  unfold Ib;split
  ·exact wG (wF h)
  ·exact h
theorem zX {d:List AI} (f:A5 d=0):Bs (AW d):=by
 obtain⟨-,l,-⟩:=Ay f;have h:=D0 d d.length;rw[Sf]at h;have b:(AN d).length<=4096:=by omega
 refine⟨λc a=>?_,λc a=>?_⟩
 ·unfold AW at a;obtain⟨s,-,rfl⟩:=IF.1 a;exact(B5 (d:=d) b s 0).2.1
 ·unfold AW at a;obtain⟨s,hs,rfl⟩:=IF.1 a;obtain⟨j,g,e⟩:=CV ByteArray.empty hs;have i:0<=Ap d s:=by
   obtain⟨x,k,e⟩:=DW hs;rw[<-e];exact DV k
  exact⟨j,(B5 (d:=d) b s j).1.2 ⟨g,by rw[e];exact O2 i⟩⟩
theorem We {d:List AI} (l:A5 d=0) (s:(Au (AW d)).length<=256):JS (Au (AW d)):=by
 obtain⟨-,o,-⟩:=Ay l;have g:Bs (Au (AW d)):=wG (zX l);have n:=cI s;refine⟨g.wds,g.some,Qa (O6 o),λa ha b r hi=>?_⟩;obtain⟨q,f,rfl⟩:=CV [] ha;obtain⟨p,hp,rfl⟩:=CV [] r;have key:∀q p,q<(Au (AW d)).length->p<(Au (AW d)).length->Lf (Au (AW d)) q p->(∃i,BE ((Au (AW d)).getD q []) i=true/\BE ((Au (AW d)).getD p []) i=true) ->
   ∃t∈Au (AW d),∀i,BE t i=(BE ((Au (AW d)).getD q []) i&&BE ((Au (AW d)).getD p []) i):=by
  intro q p f hp c hi;have m:=Qk (g.get q) (g.get p);rcases c with c|c
  ·obtain⟨i,j,k⟩:=hi;have:=m i;rw[c,j,k]at this;unfold BE at this;simp at this
  ·exact⟨_,c,m⟩
 rcases AEi p q with h|h|h
 ·exact key q p f hp (n q p h f) hi
 ·subst h;exact⟨_,BC f,λi=>by rw[Bool.and_self]⟩
 ·obtain⟨t,u,e⟩:=key p q hp f (n p q h hp) (by obtain⟨i,j,k⟩:=hi;exact⟨i,k,j⟩);exact⟨t,u,λi=>by rw[e i,AET]⟩
def GL (h:AH):Prop:=JS (h.1.map λt=>t.2.1)/\h.1.length<=256
theorem JT (d:List AI):GL (Ar d).1:=by
 unfold Ar;split
 ·exact⟨⟨λc h=>(by cases h),λc h=>(by cases h),λc h=>(by cases h),λc h=>(by cases h)⟩,by simp⟩
 ·rename_i g;have g:(BA d).2=0:=DO g;have m:Ax d=0:=by
   unfold BA at g;split at g
   ·rename_i h;exact absurd g h
   ·rename_i h;exact DO h
  obtain⟨p,-,-⟩:=CC m;obtain⟨l,k,-⟩:=Ba p;have hf:=We l k;have f:∀c,c∈((Br d).1.map λt=>t.2.1)↔c∈Au (AW d):=by
   intro c;have e:((Br d).1.map λt=>t.2.1)=(AL d).map λx=>x.2:=by
    show ((Eh _ _ _).map λt=>t.2.1)=_;unfold Eh;rw[ACl];apply UK
    ·simp
    ·intro i h1 q;simp[AS,show i<(AL d).length by simpa using h1]
   rw[e];constructor
   ·intro h;obtain⟨x,o,rfl⟩:=IF.1 h;obtain⟨b,j,rfl⟩:=DX.1 o;exact j
   ·intro h;exact IF.2 ⟨_,DX.2 ⟨c,h,rfl⟩,rfl⟩
  refine⟨⟨λc h=>hf.wds c ((f c).1 h),λc h=>hf.some c ((f c).1 h),λc h=>hf.wid c ((f c).1 h),λa ha b j hi=>?_⟩,?_⟩
  ·obtain⟨t,n,e⟩:=hf.meet a ((f a).1 ha) b ((f b).1 j) hi;exact⟨t,(f t).2 n,e⟩
  ·show (Eh _ _ _).length<=256;rw[KN,Ig];exact k
theorem CW {h:AH} {t:Int} (a:0<=t) (b:t<(h.1.length:Int)):Bc h t∈h.1.map λt=>t.2.1 :=
 IF.2 ⟨_,AE h.1 TT (k:=t.toNat) (by omega),rfl⟩
theorem Wf {a b:List Int} (ha:Id a) (c:Id b):Md a b=true↔∀i,BE a i=true->BE b i=true:=by
 constructor
 ·intro h i hi;by_cases hk:i / 64<a.length
  ·have h1:=IS.1 h (i / 64) (Sl.2 hk);rw[UH,H5]at h1;exact TL (BJ ha _) (BJ c _) h1 (AF0 _ (by decide)) hi
  ·exfalso;unfold BE at hi;rw[HF hk]at hi;simp at hi
 ·intro h;unfold Md;rw[IS];intro k _;rw[UH,H5];exact ZQ ha c h k
theorem A43 {a b:List Int} (ha:Id a) (c:Id b) (i:Nat):BE (GE a b) i=(BE a i&&BE b i):=by
 unfold GE;rw[Oy];unfold BE;have:(HE (cF a b) (min a.length b.length) (min a.length b.length)).getD (i / 64) 0=CA .and .u64 (a.getD (i / 64) 0) (b.getD (i / 64) 0):=by
  by_cases h:i / 64<min a.length b.length
  ·unfold HE;rw[AS,iS,ADt h];show (if i / 64<min a.length b.length then cF a b (i / 64) else 0)=_;rw[BY h];rfl
  ·rw[HF (by rw[ZP];exact h),Ic (BJ ha _) (BJ c _)];by_cases h1:i / 64<a.length
   ·rw[HF (b:=b) (by omega)];simp
   ·rw[HF (b:=a) h1];simp
 rw[this,Ic (BJ ha _) (BJ c _),Se,Nat.testBit_and]
theorem A44 {a b:List Int} (ha:Id a) (d:Id b):Id (GE a b):=by
 refine Oz λx c=>?_;unfold HE at c;obtain⟨j,-,rfl⟩:=IF.1 c;split
 ·unfold cF;rw[Ic (BJ ha _) (BJ d _)];have h1:=BJ ha j;have e:(a.getD j 0).toNat &&& (b.getD j 0).toNat<=(a.getD j 0).toNat:=AEy;have f:=h1.1;have g:=h1.2;exact⟨oF _,by omega⟩
 ·exact⟨by decide,by decide⟩
theorem Wg (c:List Int):∀(l:List HA) (k:Nat),(FH c k l=-1/\∀t∈l,D8 t.2.1 c=false)\/((k:Int)<=FH c k l/\FH c k l<(k:Int)+l.length/\D8 (l.getD ((FH c k l).toNat-k) TT).2.1 c=true)
 | [],k=>.inl ⟨rfl,λt a=>by cases a⟩
 | x :: l,k=>by
  simp only[FH];split
  ·rename_i h;right;refine⟨by omega,by simp only[OS];omega,?_⟩;rw[show ((k:Int).toNat-k)=0 by omega];exact h
  ·rename_i h;have h:D8 x.2.1 c=false:=by simpa using h
   rcases Wg c l (k+1) with ⟨h1,b⟩|⟨h1,b,d⟩
   ·left;refine⟨h1,λt a=>?_⟩;rcases Do.1 a with rfl|a
    ·exact h
    ·exact b t a
   ·right;refine⟨by omega,by simp only[OS];omega,?_⟩;rw[show ((FH c (k+1) l).toNat-k)=((FH c (k+1) l).toNat-(k+1))+1 by omega];exact d
def Tb2 (h:AH) (t:Int) (i:Nat):Bool:=BE (Bc h t) i
theorem Bx {h:AH} (hk:GL h) {a b:Int} (c:0<=a) (d:a<(h.1.length:Int)) (e:0<=b) (b1:b<(h.1.length:Int)):A7 h a b=true↔∀i,Tb2 h b i=true->Tb2 h a i=true :=
 Wf (hk.1.wds _ (CW e b1)) (hk.1.wds _ (CW c d))
theorem A46 {h:AH} (hk:GL h) {a b:Int} (g:0<=a) (j:a<(h.1.length:Int)) (l:0<=b) (b1:b<(h.1.length:Int)) :
  ((Bo h a b).2=true->0<=(Bo h a b).1/\(Bo h a b).1<(h.1.length:Int)/\∀i,Tb2 h (Bo h a b).1 i=(Tb2 h a i&&Tb2 h b i))/\((∃i,Tb2 h a i=true/\Tb2 h b i=true)->(Bo h a b).2=true):=by
 have s:=hk.1.wds _ (CW g j);have u:=hk.1.wds _ (CW l b1);have c:=A43 s u;have o:=A44 s u;have heq:∀t∈h.1,D8 t.2.1 (GE (Bc h a) (Bc h b))=true↔∀i,BE t.2.1 i=BE (GE (Bc h a) (Bc h b)) i:=by
  intro t d;have wt:=hk.1.wds t.2.1 (IF.2 ⟨t,d,rfl⟩);unfold D8;rw[AT,Wf wt o,Wf o wt];constructor
  ·rintro⟨v,w⟩ i;rw[ADz];exact⟨v i,w i⟩
  ·intro e;exact⟨λi hi=>by rw[<-e i];exact hi,λi hi=>by rw[e i];exact hi⟩
 unfold Bo;by_cases f:(GE (Bc h a) (Bc h b)).length=0
 ·rw[BY f];refine⟨λe=>(by cases e),?_⟩;rintro⟨i,q,r⟩;exfalso;have:=c i;rw[Sk f]at this;unfold Tb2 at q r;rw[q,r]at this;unfold BE at this;simp at this
 ·rw[An f];rcases Wg (GE (Bc h a) (Bc h b)) h.1 0 with ⟨h1,m⟩|⟨h1,m,n⟩
  ·rw[BY (by omega)];refine⟨λe=>(by cases e),λhi=>?_⟩;exfalso;obtain⟨t,d,e⟩:=hk.1.meet _ (CW g j) _ (CW l b1) hi;obtain⟨x,p,rfl⟩:=IF.1 d;have:=(heq x p).2 (λi=>by rw[c i];exact e i);rw[m x p]at this;cases this
  ·have h1:0<=FH (GE (Bc h a) (Bc h b)) 0 h.1:=by omega
   rw[An (by omega)];refine⟨λ_=>⟨h1,by simp only;omega,λi=>?_⟩,λ_=>rfl⟩;rw[Nat.sub_zero]at n;have y:=AE h.1 TT (k:=(FH (GE (Bc h a) (Bc h b)) 0 h.1).toNat) (by omega);have:=(heq _ y).1 n i;rw[c i]at this;exact this
theorem Me {h:AH} (hk:GL h) {a b:Int} (l:0<=a) (m:a<(h.1.length:Int)) (n:0<=b) (b1:b<(h.1.length:Int)) :
  ((Bo h a b).2=true->0<=(Bo h a b).1/\(Bo h a b).1<(h.1.length:Int)/\A7 h a (Bo h a b).1=true/\A7 h b (Bo h a b).1=true) /\
  ∀x,0<=x->x<(h.1.length:Int)->A7 h a x=true->A7 h b x=true->(Bo h a b).2=true/\A7 h (Bo h a b).1 x=true:=by
 obtain⟨r,u⟩:=A46 hk l m n b1;refine⟨λe=>?_,λx g k s t=>?_⟩
 ·obtain⟨c,d,f⟩:=r e;refine⟨c,d,(Bx hk l m c d).2 λi hi=>?_,(Bx hk n b1 c d).2 λi hi=>?_⟩
  ·rw[f i,AT]at hi;exact hi.1
  ·rw[f i,AT]at hi;exact hi.2
 ·have o:=(Bx hk l m g k).1 s;have p:=(Bx hk n b1 g k).1 t;obtain⟨i,hi⟩:=hk.1.some _ (CW g k);have e:=u ⟨i,o i hi,p i hi⟩;obtain⟨c,d,f⟩:=r e;refine⟨e,(Bx hk c d g k).2 λj q=>?_⟩;rw[f j,AT];exact⟨o j q,p j q⟩
def Nrm (c:List Int):Prop:=c.length=0\/c.getD (c.length-1) 0≠0
theorem PI (b:List Int):Nrm (BM b):=by
 unfold Nrm BM;have a:=Vv b b.length;rw[OR,ADH a];rcases R4 b b.length with h|h
 ·exact .inl h
 ·by_cases h0:Cf b b.length=0
  ·exact .inl h0
  ·right;rw[AS,List.getElem?_take_of_lt (by omega),<-AS];exact h
theorem A6C {a b:List Int} (ha:Id a) (f:Id b) (h:∀i,BE a i=BE b i) (k:Nat):a.getD k 0=b.getD k 0:=by
 have c:=BJ ha k;have d:=BJ f k;have j:=c.1;have l:=c.2;have m:=d.1;have o:=d.2;have e:(a.getD k 0).toNat=(b.getD k 0).toNat:=by
  refine Nat.eq_of_testBit_eq λr=>?_;by_cases g:r<64
  ·have:=h (64*k+r);unfold BE at this;rw[show (64*k+r) / 64=k by omega,show (64*k+r) % 64=r by omega]at this;exact this
  ·have big:∀n:Nat,n<18446744073709551616->n.testBit r=false:=λn hn=>by
    have e:(18446744073709551616:Nat)=2 ^ 64:=by decide
    rw[e]at hn;exact Nat.testBit_lt_two_pow (ACq hn (Nat.pow_le_pow_right (by decide) (by omega)))
   rw[big _ (by omega),big _ (by omega)]
 omega
theorem wH {a b:List Int} (d:∀k,a.getD k 0=b.getD k 0) (c:Nrm b):b.length<=a.length:=by
 rcases c with h|h
 ·omega
 ·refine DO λe=>h ?_;rw[<-d];exact HF (by omega)
theorem sU {a b:List Int} (ha:Id a) (e:Id b) (g:Nrm a) (j:Nrm b) (h:∀i,BE a i=BE b i):a=b:=by
 have c:=A6C ha e h;have f:a.length=b.length:=ADT (wH (λk=>(c k).symm) g) (wH c j);refine UK f λi h1 d=>?_;have:=c i;simpa[AS,h1,d] using this
theorem nZ {α:Type} (l:List α) (x:α) (n:Nat):List.Perm (l.take n++[x]++l.drop n) (x :: l):=by
 have h:l.take n++[x]++l.drop n=l.take n++x :: l.drop n:=by simp
 rw[h];refine AEV.trans ?_;rw[ADL]
def wI (l:List ByteArray):Prop:=l.Pairwise λa b=>AY a b=false
theorem Mf {a b:ByteArray} (h:AY a b=false):AY b a=false:=by
 cases hh:AY b a with
 | false=>rfl
 | true=>rw[D5 hh]at h;cases h
theorem Wh {l:List ByteArray} {s:ByteArray} (h:wI l) (hs:∀x∈l,AY x s=false):wI (Ec l s):=by
 unfold Ec;split
 ·exact h
 ·refine(List.Perm.pairwise_iff (λb=>Mf b) (nZ l s _)).2 ?_;exact To.2 ⟨λx a=>Mf (hs x a),h⟩
theorem Wi {d:List AI} (hn:Ci d=0):wI (AN d):=by
 have key:∀k,k<=d.length->wI (AN (d.take k))/\∀s∈AN (d.take k),∃i,i<k/\(d.getD i d0).1=s:=by
  intro k;induction k with
  | zero =>
   intro _;exact⟨.nil,λs hs=>by cases hs⟩
  | succ k c =>
   intro hk;obtain⟨h1,a⟩:=c (by omega);have e:AN (d.take (k+1))=Ec (AN (d.take k)) (d.getD k d0).1:=by
    have:d.take (k+1)=d.take k++[d.getD k d0]:=A0 d d0 (by omega);rw[this];unfold AN;rw[ADU];rfl
   rw[e];refine⟨Wh h1 λx b=>?_,λs hs=>?_⟩
   ·obtain⟨i,hi,rfl⟩:=a x b;cases hh:AY (d.getD i d0).1 (d.getD k d0).1 with
    | false=>rfl
    | true =>
     have g:=JO d hh;rw[MX hn (j:=i) (by omega),MX hn (j:=k) (by omega)]at g;omega
   ·rcases G7 hs with hs|hs
    ·obtain⟨i,hi,e⟩:=a s hs;exact⟨i,by omega,e⟩
    ·exact⟨k,by omega,hs.symm⟩
 have:=(key d.length (NO _)).1
 rwa [Sf]at this
structure Nd (l:List (List Int)):Prop where
 nd:l.Nodup
 nrm:∀c∈l,Nrm c
theorem A6D {l:List (List Int)} {c:List Int} (h:Nd l) (b:c∉l) (hn:Nrm c):Nd (l++[c]):=by
 refine⟨?_,λx a=>?_⟩
 ·rw[ADe];refine⟨h.nd,by simp,λx a y d e=>b ?_⟩;have:y=c:=by simpa using d
  rw[<-this,<-e];exact a
 ·rcases No.1 a with a|a
  ·exact h.nrm x a
  ·have:x=c:=by simpa using a
   rw[this];exact hn
theorem A6E {l:List (List Int)} (h:Nd l) (i k:Nat):Nd (Gg l i k):=by
 unfold Gg;split
 ·rename_i a;rw[AT,SZ]at a;refine A6D h (λb=>?_) (PI _);have:rQ l (Ek (l.getD i []) (l.getD k []))=true:=Sc.2 ⟨_,b,by unfold Hb;exact ADm rfl⟩;rw[this]at a;cases a.2
 ·exact h
theorem wJ {i:Nat}:∀ {n k:Nat} {l:List (List Int)},Nd l->Nd (Gh i n k l)
 | 0,_,_,h=>h
 | n+1,k,l,h=>by
  unfold Gh;split
  ·exact wJ (A6E h i k)
  ·exact h
theorem Uj:∀ {n i:Nat} {l:List (List Int)},Nd l->Nd (Ib n i l)
 | 0,_,_,h=>h
 | n+1,i,l,h=>by
  unfold Ib;split
  ·exact Uj (wJ h)
  ·exact h
theorem R6 {d:List AI} (m:A5 d=0):Nd (AW d):=by
 obtain⟨-,l,-,hn,p⟩:=Ay m;have q:=D0 d d.length;rw[Sf]at q;have hap:=Wi hn;refine⟨?_,λc n=>?_⟩
 ·unfold AW List.Nodup;rw[ADc,Si];intro i j hi a o e;have h1:=(Si.1 hap) i j hi a o;have g:∀k,(hk:k<(AN d).length)->(AN d).getD k ByteArray.empty=(AN d)[k]:=λk hk=>by simp[AS,hk]
  have f:=(B5 (d:=d) (all:=AN d) (by omega) (AN d)[j] 0).2.1;have b:=nB hn p l hi a (by
   rw[g i hi,g j a,e];unfold DP;have:=(Fh f f).2 λ_ h=>h;rw[this];rfl)
  rw[g i hi,g j a,h1]at b;cases b
 ·obtain⟨s,hs,rfl⟩:=IF.1 n;unfold E1 ofF;split
  ·exact PI _
  ·exact .inl rfl
theorem Mg {d:List AI}:∀ {l:List (List Int)} {o:List AQ},(o.map (·.2)++l).Nodup->((l.foldl (Ry d) o).map (·.2)).Nodup
 | [],o,h=>by simpa using h
 | b :: l,o,h=>by
  rw[ON];refine Mg ?_;unfold Ry Gi b5;have hp:=(nZ o (G8 d (AN d) (AW d) b,b) (Fy (G8 d (AN d) (AW d) b,b) o o.length)).map (λx:AQ=>x.2);have c:List.Perm ((o.take (Fy (G8 d (AN d) (AW d) b,b) o o.length)++[(G8 d (AN d) (AW d) b,b)]++o.drop (Fy (G8 d (AN d) (AW d) b,b) o o.length)).map (λx:AQ=>x.2)++l) (o.map (·.2)++b :: l) :=
   (hp.append_right l).trans (AEV (a:=b)).symm
  exact c.nodup_iff.2 h
def Lq (h:AH):Prop:=∀a b,0<=a->a<(h.1.length:Int)->0<=b->b<(h.1.length:Int)->A7 h a b=true->A7 h b a=true->a=b
theorem A8K {h:AH} (hk:GL h) (hn:Nd (h.1.map λt=>t.2.1)):Lq h:=by
 intro a b c d f b1 h1 j;have m:=hk.1.wds _ (CW c d);have n:=hk.1.wds _ (CW f b1);have e:Bc h a=Bc h b:=sU m n (hn.nrm _ (CW c d)) (hn.nrm _ (CW f b1)) λi=>by
  rw[ADz];exact⟨(Bx hk f b1 c d).1 j i,(Bx hk c d f b1).1 h1 i⟩
 have hp:=Si.1 hn.nd;have g:∀k:Int,0<=k->(hk:k<(h.1.length:Int))->Bc h k=(h.1.map λt=>t.2.1)[k.toNat]'(by rw[SX];omega):=λk o p=>by
  unfold Bc;simp[AS,show k.toNat<h.1.length by omega]
 rw[g a c d,g b f b1]at e;rcases Int.lt_trichotomy a b with l|heq|l
 ·exact absurd e (hp a.toNat b.toNat (by rw[SX];omega) (by rw[SX];omega) (by omega))
 ·exact heq
 ·exact absurd e.symm (hp b.toNat a.toNat (by rw[SX];omega) (by rw[SX];omega) (by omega))
theorem n4 (d:List AI):Lq (Ar d).1:=by
 refine A8K (JT d) ?_;unfold Ar;split
 ·exact⟨.nil,λc h=>(by cases h)⟩
 ·rename_i a;have a:(BA d).2=0:=DO a;have g:Ax d=0:=by
   unfold BA at a;split at a
   ·rename_i h;exact absurd a h
   ·rename_i h;exact DO h
  obtain⟨m,-,-⟩:=CC g;obtain⟨f,o,-⟩:=Ba m;have hf:Nd (Au (AW d)):=Uj (R6 f);have e:((Br d).1.map λt=>t.2.1)=(AL d).map λx=>x.2:=by
   show ((Eh _ _ _).map λt=>t.2.1)=_;unfold Eh;rw[ACl];apply UK
   ·simp
   ·intro i h1 n;simp[AS,show i<(AL d).length by simpa using h1]
  show Nd ((Br d).1.map λt=>t.2.1);rw[e];refine⟨Mg (by simpa using hf.nd),λc k=>?_⟩;obtain⟨x,l,rfl⟩:=IF.1 k;obtain⟨b,j,rfl⟩:=DX.1 l;exact hf.nrm b j
section
attribute [local go_sem] wC
def EP (f:Int):List (Int×Int)->Int×Bool
 | []=>(0,false)
 | x :: l=>if x.1=f then (x.2,true) else EP f l
theorem Wj (f:Int) (l:List (Int×Int)) {k:Nat} (h:k<l.length):EP f (l.drop k)=if (l.getD k (0,0)).1=f then ((l.getD k (0,0)).2,true) else EP f (l.drop (k+1)):=by
 rw[On h];have e:l.getD k (0,0)=l[k]:=by simp[AS,h]
 rw[e];rfl
def cJ (h:AH) (t:Int):List (Int×Int):=(h.1.getD t.toNat TT).2.2.2
def B7 (h:AH) (t f:Int):Int×Bool:=EP f (cJ h t)
def OG:Ac:={ ins:=[Eg,T3,T3],pre:=λ(h,t,_,_)=>(0:Int)<=t/\t<(List.length (h:AH).1:Int),out:=λ(h,t,f,_)=>[.p T3 (B7 h t f).1,.p .bool (B7 h t f).2],lend:=true }
attribute [local go_sem] OG
theorem wK:Ad Tryz.prog 83 OG:=by
 refine fK [0,1,2,3,6,7,9,15,16,17,18,26] Tryz.func83 Tryz.ntmps83 AG ?_;rintro w0 O0 ⟨⟨d,hf⟩,t,f,u⟩ a q ⟨j,m⟩;simp only[OG,AM];refine Ev.ent (σ':=⟨[(0,.p Eg (d,hf)),(1,.p T3 t),(2,.p T3 f)],[]⟩) ?_ (AC [] rfl rfl ?_ ?_)
 ·repeat'(first|exact trivial|refine eS rfl ?_|refine rX a ?_ ?_)
  ·exact⟨j,m⟩
  ·have o:∀l,l=(List.getD d (Int.toNat t) (ByteArray.empty,[],[],[])).2.2.2->B7 (d,hf) t f=EP f l:=λl e=>by rw[e];rfl
   have r:List.length (List.getD d (Int.toNat t) (ByteArray.empty,[],[],[])).2.2.2<=140737488355328:=(q.1.1.2 _ (AE (d:List HA) TT ((AEp j).2 m))).2.2.2.1;generalize (List.getD d (Int.toNat t) (ByteArray.empty,[],[],[])).2.2.2=l at *;rw[o l rfl];refine AK (ι:={k:Nat//k<=List.length l/\EP f l=EP f (l.drop k)}) (λk=>⟨[(2,.p T3 f),(15,.p Vs l),(16,.p (.int .i64) (List.length l:Int)),(17,.p (.int .i64) (k.1:Int))],[]⟩) (λk=>List.length l-k.1) ⟨0,IN _,rfl⟩ (eW []) (λk=>?_)
   ·obtain⟨k,hk,b⟩:=k;have i:=λh:k<List.length l=>Wj f l h;simp only;repeat'(first|exact trivial|refine eS rfl ?_|refine rX a ?_ ?_|refine rC ?_ ?_<;>intro c<;>try(cases c;done))
    ·exact c
    ·refine cP 5 a ?_ ?_
     ·trivial
     ·refine AD8 a ?_;refine rL a ?_ ?_
      ·trivial
      ·repeat'(first|exact trivial|refine eS rfl ?_|refine AB ?_|refine rX a ?_ ?_|refine rC ?_ ?_<;>intro c<;>try(cases c;done))
       ·have g:k<List.length l:=by exact eV
        rw[i g,BY c]at b;exact fI a [.tmp 6,.tmp 7] (by rw[b];exact eR)
       ·omega
       ·have g:k<List.length l:=by exact eV
        rw[i g,An c]at b;exact⟨⟨k+1,g,b⟩,by simp only;omega,eW []⟩
    ·have n:List.drop k (l:List (Int×Int))=[]:=By (by exact eV);rw[n]at b;have b:EP f l=(0,false):=b;exact fI a [.tmp 6,.tmp 7] (by rw[b];exact eR)
 ·exact eN
 ·exact eN
abbrev Ed:=List Int×List Int
def DH (h:AH) (s:Ed) (n t:Int):Option Ed :=
 if (Bo h (s.1.getD n.toNat 0) t).2=true then some (if (Bo h (s.1.getD n.toNat 0) t).1=s.1.getD n.toNat 0 then s else (s.1.set n.toNat (Bo h (s.1.getD n.toNat 0) t).1,s.2++[n])) else none
def D9 (h:AH) (s:Ed):List (Nat×Obj):=[(1,.box 205 true [.p Eg h,.sr 2 T3 0 s.1.length,.p F3 s.2]),(2,.arr 3 T3 s.1)]
theorem n5 (h:AH) (hk:GL h) (s:Ed) {n t:Int} (n0:0<=n) (n1:n<(s.1.length:Int)) (f:0<=s.1.getD n.toNat 0) (ty1:s.1.getD n.toNat 0<(h.1.length:Int)) (k:0<=t) (l:t<(h.1.length:Int)) (i:s.2.length<=1000000000) :
  BI Tryz.prog 211 [.bp 1 [] 0,.p T3 n,.p T3 t] (D9 h s) [1]
  (λres d=>(DH h s n t=none/\res=.p .bool false/\d=D9 h s)\/∃e,DH h s n t=some e/\res=.p .bool true/\d=D9 h e):=by
 obtain⟨ty,w⟩:=s;simp only at n1 f ty1 i;have hh:h.1.length<=100000:=Sd hk.2 (by omega);have g:∀x∈h.1,x.2.1.length<=100000:=λx j=>Sd (hk.1.wid x.2.1 (IF.2 ⟨x,j,rfl⟩)) (by omega);refine K0 [0,1,2,6,7,8,26,35] [] [] Tryz.func211 Tryz.ntmps211 (AF wD AG) ?_;intro w0 K O0 ρ0 c o q;simp only[D9,Am];repeat'(first|exact trivial|refine eS rfl ?_|refine rX c ?_ ?_|refine rC ?_ ?_<;>intro b<;>try(cases b;done))
 ·exact⟨⟨n0,n1⟩,⟨f,ty1⟩,⟨k,l⟩,hh,g⟩
 ·have a:DH h (ty,w) n t=none:=by unfold DH;rw[An (by simp only;rw[b];simp)]
  refine Ev.ent (σ':=⟨[(6,.p .bool false)],D9 h (ty,w)⟩) ?_ (AC [(1,.nm 1),(2,.nm 2)] rfl rfl ?_ ?_)
  ·exact fM c [.tmp 6] (.p .bool false) eT (.inl ⟨a,rfl,rfl⟩)
  ·unfold D9;exact eN
  ·exact eN
 ·exact⟨n0,n1⟩
 ·exact⟨n0,n1⟩
 ·simp only[AP];omega
 ·have a:DH h (ty,w) n t=some (ty.set n.toNat (Bo h (ty.getD n.toNat 0) t).1,w++[n]):=by unfold DH;rw[BY (by assumption),An b]
  generalize (Bo h (ty.getD n.toNat 0) t).1=m at *;have r:(w++[n]).take (w.length+1)=w++[n]:=At (by simp);refine F1 [61] ?_;refine Ev.ent (σ':=⟨[(6,.p .bool true)],D9 h (ty.set n.toNat m,w++[n])⟩) ?_ (AC [(1,.nm 1),(2,.nm 2)] rfl rfl ?_ ?_)
  ·exact fM c [.tmp 6] (.p .bool true) eT (.inr ⟨_,a,rfl,rfl⟩)
  ·unfold D9;simp only[UM];exact eN
  ·exact eN
 ·have a:DH h (ty,w) n t=some (ty,w):=by unfold DH;rw[BY (by assumption),BY (by simpa using b)]
  refine Ev.ent (σ':=⟨[(6,.p .bool true)],D9 h (ty,w)⟩) ?_ (AC [(1,.nm 1),(2,.nm 2)] rfl rfl ?_ ?_)
  ·exact fM c [.tmp 6] (.p .bool true) eT (.inr ⟨_,a,rfl,rfl⟩)
  ·unfold D9;exact eN
  ·exact eN
end
section
def sV:Ac:={ ins:=[T3],pre:=λ_=>True,out:=λ_=>[.p .bool false] }
attribute [local go_sem] sV
def F2 (a b:Int):Int:=if a<b then -1 else if b<a then 1 else 0
def HG:Ac:={ ins:=[T3,T3],pre:=λ_=>True,out:=λ(a,b,_)=>[.p T3 (F2 a b)] }
attribute [local go_sem] HG
def Cy:Ac:={ ins:=[AU,AU],pre:=λ_=>True,out:=λ(a,b,_)=>[.p T3 (F2 (Prod.fst a) (Prod.fst b))] }
attribute [local go_sem] Cy
theorem A47:Ad Tryz.prog 224 sV:=by
 refine fK [0,2] Tryz.func224 Tryz.ntmps224 AG ?_;rintro w0 O0 ⟨x,u⟩ a - -;simp only[sV,AM];repeat'(first|exact trivial|refine eS rfl ?_|refine rX a ?_ ?_)
 exact fI a [.tmp 2]
theorem Gp:Ad Tryz.prog 208 HG:=by
 refine fK [0,1,4,5,6,11,12,13,16,19] Tryz.func208 Tryz.ntmps208 (AF A47 AG) ?_;rintro w0 O0 ⟨a,b,u⟩ c - -;simp only[HG,AM];repeat'(first|exact trivial|refine eS rfl ?_|refine rX c ?_ ?_|refine rC ?_ ?_<;>intro d<;>try(cases d;done))
 ·have e:F2 a b=-1:=BY d;exact fI c [.tmp 4] (by rw[e];exact eR)
 ·have e:F2 a b=1:=by unfold F2;rw[An (by omega),BY d]
  exact fI c [.tmp 4] (by rw[e];exact eR)
 ·have e:F2 a b=0:=by unfold F2;rw[An (by omega),An (by omega)]
  exact fI c [.tmp 4] (by rw[e];exact eR)
theorem FD:Ad Tryz.prog 192 Cy:=by
 refine fK [0,1,2,3,4] Tryz.func192 Tryz.ntmps192 (AF Gp AG) ?_;rintro w0 O0 ⟨a,b,u⟩ c - -;simp only[Cy,AM];repeat'(first|exact trivial|refine eS rfl ?_|refine rX c ?_ ?_)
 exact fI c [.tmp 4]
def n6 (l:List (Int×Int)):Prop:=∀i,i+1<l.length->(l.getD i (0,0)).1<(l.getD (i+1) (0,0)).1
end
def DZ (f:List AD):Nat->List Int->Int->List Int
 | 0,o,_=>o
 | k+1,o,n=>(f.getD n.toNat (0,[])).2.foldl (λo a=>if a.2∈o then o else DZ f k o a.2) (o++[n])
def Ab (f:List AD) (k:Nat) (o:List Int) (a:Int×Int):List Int:=if a.2∈o then o else DZ f k o a.2
theorem CH (f:List AD) (k:Nat) (o:List Int) (n:Int):DZ f (k+1) o n=(f.getD n.toNat (0,[])).2.foldl (Ab f k) (o++[n]):=rfl
structure KY (f:List AD) (o:List Int):Prop where
 nd:o.Nodup
 rng:∀x∈o,0<=x/\x<(f.length:Int)
theorem KY.len {f:List AD} {o:List Int} (h:KY f o):o.length<=f.length:=by
 have h1:(o.map Int.toNat).Nodup:=by
  rw[List.Nodup,ADc];refine h.nd.imp_of_mem λ{a b} ha c g e=>g ?_;have:=h.rng a ha;have:=h.rng b c;omega
 have:=EU f.length (o.map Int.toNat) h1 (λj d=>by
  obtain⟨x,i,rfl⟩:=IF.1 d;have:=h.rng x i;omega)
 simpa using this
theorem KY.snoc {f:List AD} {o:List Int} (h:KY f o) {n:Int} (h0:0<=n) (h1:n<f.length) (hn:n∉o):KY f (o++[n]):=by
 refine⟨?_,λx c=>?_⟩
 ·rw[ADe];refine⟨h.nd,by simp,λa ha b d=>?_⟩;have:b=n:=by simpa using d
  subst this;intro e;subst e;exact hn ha
 ·rcases No.1 c with c|c
  ·exact h.rng x c
  ·have:x=n:=by simpa using c
   subst this;exact⟨h0,h1⟩
theorem E2 {f:List AD} {k:Nat} (e:∀(o:List Int) (n:Int),KY f o->0<=n->n<f.length->n∉o->KY f (DZ f k o n)/\o <+: DZ f k o n) :
  ∀(l:List (Int×Int)) (o:List Int),(∀a∈l,0<=a.2/\a.2<(f.length:Int))->KY f o->KY f (l.foldl (Ab f k) o)/\o <+: l.foldl (Ab f k) o
 | [],o,_,h=>⟨h,ACo _⟩
 | a :: l,o,c,h=>by
  simp only[ON];have d:KY f (Ab f k o a)/\o <+: Ab f k o a:=by
   unfold Ab;split
   ·exact⟨h,ACo _⟩
   ·rename_i hn;exact e o a.2 h (c a (by simp)).1 (c a (by simp)).2 hn
  obtain⟨g,i⟩:=E2 e l _ (λb j=>c b (by simp[j])) d.1;exact⟨g,d.2.trans i⟩
theorem BD {f:List AD} (hf:AX f) {n:Int} {a:Int×Int} (ha:a∈(f.getD n.toNat (0,[])).2):0<=a.2/\a.2<f.length:=by
 by_cases h:n.toNat<f.length
 ·have b:f.getD n.toNat (0,[])∈f:=by
   rw[AS,As h];exact nO h
  exact(hf.2 _ b).2 a ha
 ·rw[AS,Sj (by omega)]at ha;simp at ha
theorem EA {f:List AD} (hf:AX f):∀(k:Nat) (o:List Int) (n:Int),KY f o->0<=n->n<f.length->n∉o->KY f (DZ f k o n)/\o <+: DZ f k o n
 | 0,o,n,h,_,_,_=>⟨h,ACo _⟩
 | k+1,o,n,h,h0,h1,d=>by
  obtain⟨b,c⟩:=E2 (EA hf k) _ _ (λa ha=>BD hf ha) (h.snoc h0 h1 d);rw[CH];exact⟨b,(AEF o [n]).trans c⟩
theorem Ip {f:List AD} (hf:AX f):∀(k:Nat) (o:List Int) (n:Int),KY f o->0<=n->n<f.length->n∉o->f.length-o.length<=k ->
  n∈DZ f k o n/\∀x∈DZ f k o n,x∈o\/∀a∈(f.getD x.toNat (0,[])).2,a.2∈DZ f k o n
 | 0,o,n,h,h0,h1,m,hk=>by
  have:=(h.snoc h0 h1 m).len;simp only[GO,SY]at this;omega
 | k+1,o,n,h,h0,h1,m,hk=>by
  have key:∀(l:List (Int×Int)) (t:List Int),(∀a∈l,0<=a.2/\a.2<(f.length:Int))->KY f t->f.length-t.length<=k ->
    (∀a∈l,a.2∈l.foldl (Ab f k) t)/\∀x∈l.foldl (Ab f k) t,x∈t\/∀a∈(f.getD x.toNat (0,[])).2,a.2∈l.foldl (Ab f k) t:=by
   intro l;induction l with
   | nil=>exact λt _ _ _=>⟨λa ha=>(by cases ha),λx c=>.inl c⟩
   | cons a l z =>
    intro t p r u;simp only[ON];have v:KY f (Ab f k t a)/\t <+: Ab f k t a/\a.2∈Ab f k t a/\∀x∈Ab f k t a,x∈t\/∀b∈(f.getD x.toNat (0,[])).2,b.2∈Ab f k t a:=by
     unfold Ab;split
     ·rename_i hn;exact⟨r,ACo _,hn,λx c=>.inl c⟩
     ·rename_i hn;have q:=p a (by simp);obtain⟨e,g⟩:=EA hf k t a.2 r q.1 q.2 hn;obtain⟨i,j⟩:=Ip hf k t a.2 r q.1 q.2 hn u;exact⟨e,g,i,j⟩
    obtain⟨e,g,i,j⟩:=v;have A:=g.length_le;obtain⟨w,y⟩:=z (Ab f k t a) (λb d=>p b (by simp[d])) e (by omega);obtain⟨_,s⟩:=E2 (EA hf k) l (Ab f k t a) (λb d=>p b (by simp[d])) e;refine⟨λb d=>?_,λx c=>?_⟩
    ·rcases Do.1 d with rfl|d
     ·exact s.subset i
     ·exact w b d
    ·rcases y x c with c|c
     ·rcases j x c with c|c
      ·exact .inl c
      ·exact .inr λb d=>s.subset (c b d)
     ·exact .inr c
  have hs:=h.snoc h0 h1 m;obtain⟨e,g⟩:=key (f.getD n.toNat (0,[])).2 (o++[n]) (λa ha=>BD hf ha) hs (by simp only[GO,SY];omega);obtain⟨_,i⟩:=E2 (EA hf k) (f.getD n.toNat (0,[])).2 (o++[n]) (λa ha=>BD hf ha) hs;rw[CH];refine⟨i.subset (by simp),λx c=>?_⟩;rcases g x c with c|c
  ·rcases No.1 c with c|c
   ·exact .inl c
   ·have:x=n:=by simpa using c
    subst this;exact .inr e
  ·exact .inr c
def B8 (o:List Int) (x:Int):Int:=if x∈o then (o.idxOf x:Int) else 0
def Mh (o:List Int) (a:Int×Int):Int×Int:=(a.1,B8 o a.2)
def Dq (f:List AD) (o:List Int) (n:Int):AD:=((f.getD n.toNat (0,[])).1,(f.getD n.toNat (0,[])).2.map (Mh o))
def AO (f:List AD) (root:Int):List AD:=(DZ f f.length [] root).map (Dq f (DZ f f.length [] root))
def Lr (f:List AD):Prop:=∀x∈f,n6 x.2/\x.2.length<=200
theorem sW {f:List AD} (hf:Lr f) (n:Int):n6 (f.getD n.toNat (0,[])).2/\(f.getD n.toNat (0,[])).2.length<=200:=by
 by_cases h:n.toNat<f.length
 ·have a:f.getD n.toNat (0,[])∈f:=by
   rw[AS,As h];exact nO h
  exact hf _ a
 ·rw[AS,Sj (by omega)];exact⟨λi hi=>by simp at hi,by simp⟩
theorem JU {l:List (Int×Int)} (h:n6 l):Af l=l:=by
 have key:∀i,i<=l.length->Af (l.take i)=l.take i:=by
  intro i;induction i with
  | zero=>intro _;rfl
  | succ i d =>
   intro hi;rw[A0 l (0,0) (by omega),Hr,d (by omega)];have b:(l.take i).length=i:=by rw[OR];omega
   have c:Il (l.getD i (0,0)) (l.take i) (l.take i).length=(l.take i).length:=by
    rw[b];cases i with
    | zero=>rfl
    | succ i =>
     have h1:=h i (by omega);have a:(l.take (i+1)).getD i (0,0)=l.getD i (0,0):=by
      simp only[AS];rw[Sr];simp
     simp only[Il];rw[a,An (by omega)]
   unfold O9;rw[c,Sf,AEu,Sq]
 have:=key l.length (NO _)
 rwa [Sf]at this
structure Lg (f:List AD) (num o:List Int):Prop where
 len:num.length=f.length
 get:∀j,j<f.length->num.getD j 0=if (j:Int)∈o then (o.idxOf (j:Int):Int) else -1
theorem Lg.neg {f:List AD} {num o:List Int} (h:Lg f num o) {n:Int} (h0:0<=n) (h1:n<f.length):num.getD n.toNat 0<0↔n∉o:=by
 have:=h.get n.toNat (by omega);rw[show ((n.toNat:Nat):Int)=n by omega]at this;rw[this];split
 ·rename_i a;constructor
  ·intro e;omega
  ·intro e;exact absurd a e
 ·rename_i a;exact⟨λ_=>a,λ_=>by omega⟩
theorem ZR {o:List Int} {x n:Int} (h:x∈o):(o++[n]).idxOf x=o.idxOf x:=by rw[AEk,BY h]
theorem ZS {o:List Int} {n:Int} (h:n∉o):(o++[n]).idxOf n=o.length:=by rw[AEk,An h];simp
theorem Lg.snoc {f:List AD} {num o:List Int} (h:Lg f num o) {n:Int} (h0:0<=n) (h1:n<f.length) (hn:n∉o):Lg f (num.set n.toNat (o.length:Int)) (o++[n]):=by
 refine⟨by simpa using h.len,λj b=>?_⟩;have d:j<num.length:=by rw[h.len];exact b
 by_cases e:j=n.toNat
 ·subst e;have en:((n.toNat:Nat):Int)=n:=by omega
  rw[en];simp only[AS];rw[AEg d,BY (by simp),ZS hn];simp
 ·have en:¬(j:Int)=n:=by omega
  simp only[AS];rw[List.getElem?_set_ne (λc=>e c.symm)];have:=h.get j b;simp only[AS]at this;rw[this];by_cases a:(j:Int)∈o
  ·rw[BY a,BY (by simp[a]),ZR a]
  ·rw[An a,An (by simp[a,en])]
theorem Wk {f:List AD} (hf:AX f) (hs:Lr f):∀(k:Nat) (s:List Int×List Int) (n:Int),Lg f s.1 s.2->KY f s.2->0<=n->n<f.length->n∉s.2->(D6 f k s n).2=DZ f k s.2 n/\Lg f (D6 f k s n).1 (D6 f k s n).2
 | 0,s,n,h,_,_,_,_=>⟨rfl,h⟩
 | k+1,s,n,h,w,h0,h1,m=>by
  have key:∀(l:List (Int×Int)) (t:List Int×List Int),(∀a∈l,0<=a.2/\a.2<(f.length:Int))->Lg f t.1 t.2->KY f t.2->(l.foldl (Ei f k) t).2=l.foldl (Ab f k) t.2/\Lg f (l.foldl (Ei f k) t).1 (l.foldl (Ei f k) t).2:=by
   intro l;induction l with
   | nil=>exact λt _ d _=>⟨rfl,d⟩
   | cons a l z =>
    intro t o d j;simp only[ON];have q:=o a (by simp);have p:=d.neg q.1 q.2;have x:(Ei f k t a).2=Ab f k t.2 a/\Lg f (Ei f k t a).1 (Ei f k t a).2/\KY f (Ei f k t a).2:=by
     unfold Ei Ab;by_cases c:a.2∈t.2
     ·rw[BY c,An (by rw[p];exact λe=>e c)];exact⟨rfl,d,j⟩
     ·rw[An c,BY (by rw[p];exact c)];obtain⟨g,i⟩:=Wk hf hs k t a.2 d j q.1 q.2 c;exact⟨g,i,by rw[g];exact(EA hf k t.2 a.2 j q.1 q.2 c).1⟩
    obtain⟨g,i,u⟩:=x;obtain⟨r,y⟩:=z (Ei f k t a) (λb v=>o b (by simp[v])) i u;rw[g]at r;exact⟨r,y⟩
  rw[Fz,CH,JU (sW hs n).1];exact key _ (s.1.set n.toNat (s.2.length:Int),s.2++[n]) (λa ha=>BD hf ha) (h.snoc h0 h1 m) (w.snoc h0 h1 m)
theorem Mi {f:List AD} (hf:AX f) (hs:Lr f) {root:Int} (h0:0<=root) (h1:root<f.length):JR f root=AO f root:=by
 have l:Lg f (List.replicate f.length (-1)) []:=⟨by simp,λj k=>by simp[AS,ADC,k]⟩;have d:KY f []:=⟨by simp,λx e=>by cases e⟩;obtain⟨c,b⟩:=Wk hf hs f.length (List.replicate f.length (-1),[]) root l d h0 h1 (by simp);have c:(GT f root).2=DZ f f.length [] root:=c;have b:Lg f (GT f root).1 (GT f root).2:=b;have i:=(Ip hf f.length [] root d h0 h1 (by simp) (by simp)).2;have m:=(EA hf f.length [] root d h0 h1 (by simp)).1;unfold JR AO;rw[c]at b ⊢;generalize DZ f f.length [] root=o at *;refine Sg λx e=>?_;unfold Mb Dq;rw[JU (sW hs x).1];refine AD0 _ (Sg λa ha=>?_);unfold YH Mh B8;have h:a.2∈o:=by
  rcases i x e with g|g
  ·cases g
  ·exact g a ha
 have n:=BD hf ha;have:=b.get a.2.toNat (by omega);rw[show ((a.2.toNat:Nat):Int)=a.2 by omega]at this;rw[this,BY h,BY h]
def mOf (o:List Int):List (Int×Int):=(List.range o.length).map λi=>(o.getD i 0,(i:Int))
theorem n7 (o:List Int) (n:Int):mOf (o++[n])=mOf o++[(n,(o.length:Int))]:=by
 unfold mOf;rw[GO,SY,UJ,gO]
 congr 1
 ·refine Sg λi hi=>?_;have:i<o.length:=Sl.1 hi;simp only[AS];rw[Sp this]
 ·simp[AS]
theorem zY (k:Int) (a b:List (Int×Int)):Bi T3 T3 k (a++b)=(Bi T3 T3 k a).or (Bi T3 T3 k b):=by
 induction a with
 | nil=>rfl
 | cons x a c =>
  simp only[ADh,Bi];split
  ·rfl
  ·exact c
theorem EX {α:Type} {p:List α->Prop} (h0:p []) (h1:∀l a,p l->p (l++[a])) (l:List α):p l:=by
 have:∀n (l:List α),l.length=n->p l:=by
  intro n;induction n with
  | zero=>intro l b;rw[List.length_eq_zero_iff.1 b];exact h0
  | succ n d =>
   intro l b;have c:l≠[]:=by intro e;subst e;simp at b
   rw[<-List.dropLast_concat_getLast c];exact h1 _ _ (d _ (by simp[b]))
 exact this _ l rfl
theorem R7 (o:List Int) (x:Int):Bi T3 T3 x (mOf o)=if x∈o then some (o.idxOf x:Int) else none:=by
 induction o using EX with
 | h0=>rfl
 | h1 o n b =>
  rw[n7,zY,b];by_cases a:x∈o
  ·rw[BY a,BY (by simp[a]),ZR a];rfl
  ·rw[An a];by_cases hn:x=n
   ·subst hn;rw[BY (by simp),ZS a];simp[Bi,Hv]
   ·rw[An (by simp[a,hn])];have:((x==n)=true)↔False:=by simp[hn]
    simp[Bi,Hv,hn]
theorem zZ (k v:Int) (l:List (Int×Int)) (h:Bi T3 T3 k l=none):GM T3 T3 k v l=l++[(k,v)]:=by
 induction l with
 | nil=>rfl
 | cons x l b =>
  simp only[Bi]at h;simp only[GM,ADh];split at h
  ·cases h
  ·rename_i a;rw[An a,b h]
theorem A48 {o:List Int} {n:Int} (hn:n∉o):GM T3 T3 n (o.length:Int) (mOf o)=mOf (o++[n]):=by
 rw[zZ _ _ _ (by rw[R7,An hn]),n7]
theorem A6F (o:List Int) (x:Int):(Bi T3 T3 x (mOf o)).getD 0=B8 o x:=by
 rw[R7];unfold B8;split<;>rfl
theorem Wl (o:List Int) (x:Int):(Bi T3 T3 x (mOf o)).isSome=decide (x∈o):=by
 rw[R7];split<;>simp[*]
section
variable {α:Type}
structure SO (o:α->α->Int):Prop where
 anti:∀a b,o b a=- o a b
 trans:∀ {a b c},o a b<0->o b c<0->o a c<0
variable {o:α->α->Int} {d:α}
def CX (d:α) (l:List α) (i j:Nat):List α:=(l.set i (l.getD j d)).set j (l.getD i d)
theorem Iq {l:List α} {i j:Nat} (hi:i<l.length) (c:j<l.length) (k:Nat):(CX d l i j).getD k d=if k=j then l.getD i d else if k=i then l.getD j d else l.getD k d:=by
 unfold CX;simp only[AS,ACY,UM];by_cases a:j=k
 ·rw[BY a,BY (by omega),BY a.symm];rfl
 ·rw[An a,An (show ¬k=j by omega)];by_cases b:i=k
  ·rw[BY b,BY (by omega),BY b.symm];rfl
  ·rw[An b,An (show ¬k=i by omega)]
theorem z0 {l:List α} {i j:Nat} (hi:i<l.length) (a:j<l.length):(CX d l i j).Perm l:=by
 have b:l.getD i d=l[i]:=by rw[AS,As hi];rfl
 have c:l.getD j d=l[j]:=by rw[AS,As a];rfl
 unfold CX;rw[b,c];exact List.set_set_perm hi a
structure ED (d:α) (a b:Nat) (l r:List α):Prop where
 perm:r.Perm l
 out:∀k,k<a\/b<=k->r.getD k d=l.getD k d
 inn:∀i,a<=i->i<b->∃j,a<=j/\j<b/\r.getD i d=l.getD j d
theorem ED.len {a b:Nat} {l r:List α} (h:ED d a b l r):r.length=l.length:=h.perm.length_eq
theorem ED.refl (a b:Nat) (l:List α):ED d a b l l:=⟨List.Perm.refl _,λ_ _=>rfl,λi h1 c=>⟨i,h1,c,rfl⟩⟩
theorem ED.trans {a b:Nat} {l r s:List α} (h:ED d a b l r) (c:ED d a b r s):ED d a b l s:=⟨c.perm.trans h.perm,λk hk=>(c.out k hk).trans (h.out k hk),λi h1 g=>by
 obtain⟨j,m,n,e⟩:=c.inn i h1 g;obtain⟨k,o,p,f⟩:=h.inn j m n;exact⟨k,o,p,e.trans f⟩⟩
theorem ED.mono {a b c b':Nat} {l r:List α} (h:ED d a b l r) (ha:c<=a) (g:b<=b'):ED d c b' l r:=⟨h.perm,λk hk=>h.out k (by omega),λi h1 f=>by
 by_cases hi:a<=i/\i<b
 ·obtain⟨j,m,n,e⟩:=h.inn i hi.1 hi.2;exact⟨j,by omega,by omega,e⟩
 ·exact⟨i,h1,f,h.out i (by omega)⟩⟩
theorem ED.swap {a b:Nat} (l:List α) {i j:Nat} (g:a<=i) (h:i<b) (m:a<=j) (n:j<b) (q:b<=l.length):ED d a b l (CX d l i j):=by
 have f:=Iq (d:=d) (l:=l) (i:=i) (j:=j) (by omega) (by omega);refine⟨z0 (by omega) (by omega),λk hk=>?_,λk o p=>?_⟩
 ·rw[f k,An (by omega),An (by omega)]
 ·rw[f k];by_cases c:k=j
  ·rw[BY c];exact⟨i,g,h,rfl⟩
  ·rw[An c];by_cases e:k=i
   ·rw[BY e];exact⟨j,m,n,rfl⟩
   ·rw[An e];exact⟨k,o,p,rfl⟩
def pY (o:α->α->Int) (d:α) (l:List α):Prop:=∀i j,i<l.length->j<l.length->i≠j->o (l.getD i d) (l.getD j d)≠0
theorem wL (g:SO o) (l:List α):pY o d l↔l.Pairwise λa b=>o a b≠0:=by
 have e:∀i (h:i<l.length),l.getD i d=l[i]:=λi h=>by rw[AS,As h];rfl
 rw[Si];constructor
 ·intro h i j hi c f;have:=h i j hi c (by omega)
  rwa [e i hi,e j c]at this
 ·intro h i j hi c f;rw[e i hi,e j c];rcases Nat.lt_or_gt_of_ne f with h1|h1
  ·exact h i j hi c h1
  ·have k:=h j i c hi h1;rw[g.anti];omega
theorem pY.perm (c:SO o) {l r:List α} (h:pY o d l) (hp:r.Perm l):pY o d r:=by
 rw[wL c]at h ⊢;refine(hp.symm.pairwise_iff ?_).1 h;intro a b e;rw[c.anti];omega
theorem pY.lt (c:SO o) {l:List α} (h:pY o d l) {i j:Nat} (hi:i<l.length) (b:j<l.length) (a:i≠j) (hn:¬o (l.getD i d) (l.getD j d)<0):o (l.getD j d) (l.getD i d)<0:=by
 have h1:=h i j hi b a;rw[c.anti];omega
def R8 (o:α->α->Int) (d:α) (a b:Nat) (l:List α):Prop:=∀i j,a<=i->i<j->j<b->o (l.getD i d) (l.getD j d)<0
theorem cK (a:Nat) (l:List α):R8 o d a (a+1) l:=λi j h1 b c=>by omega
theorem A49 (g:SO o) {a b:Nat} {l:List α} (h:R8 o d a b l) (m:a<b) (c:o (l.getD (b-1) d) (l.getD b d)<0):R8 o d a (b+1) l:=by
 intro i j h1 e k;by_cases f:j=b
 ·subst f;by_cases hi:i=j-1
  ·rw[hi];exact c
  ·exact g.trans (h i (j-1) h1 (by omega) (by omega)) c
 ·exact h i j h1 e (by omega)
theorem NV {a b:Nat} {l r:List α} (h:R8 o d a b l) (e:∀k,a<=k->k<b->r.getD k d=l.getD k d):R8 o d a b r:=λi j h1 f c=>by
 rw[e i h1 (by omega),e j (by omega) c];exact h i j h1 f c
def sX (o:α->α->Int) (d:α) (a i j:Nat) (m:List α):Prop:=(∀x y,a<=x->x<y->y<=i->x≠j->y≠j->o (m.getD x d) (m.getD y d)<0)/\∀y,j<y->y<=i->o (m.getD j d) (m.getD y d)<0
theorem sY {a i:Nat} {m:List α} (h:R8 o d a i m):sX o d a i i m:=⟨λx y h0 h1 b c e=>h x y h0 h1 (by omega),λy h1 b=>by omega⟩
theorem Wm (g:SO o) {a i j:Nat} {m:List α} (h:sX o d a i j m) (l:a<=j) (n:j<=i) (b:j=a\/o (m.getD (j-1) d) (m.getD j d)<0):R8 o d a (i+1) m:=by
 intro x y h0 h1 k;by_cases c:x=j
 ·subst c;exact h.2 y h1 (by omega)
 ·by_cases e:y=j
  ·subst e;rcases b with b|b
   ·omega
   ·by_cases f:x=y-1
    ·subst f;exact b
    ·exact g.trans (h.1 x (y-1) h0 (by omega) (by omega) c (by omega)) b
  ·exact h.1 x y h0 h1 (by omega) c e
theorem ZT {a i j:Nat} {m:List α} (h:sX o d a i j m) (h0:a<j) (q:j<=i) (hi:i<m.length) (p:o (m.getD j d) (m.getD (j-1) d)<0):sX o d a i (j-1) (CX d m j (j-1)):=by
 have f:=Iq (d:=d) (l:=m) (i:=j) (j:=j-1) (by omega) (by omega);refine⟨λx y g h1 e k n=>?_,λy h1 e=>?_⟩
 ·rw[f x,f y,An k,An n];by_cases c:x=j
  ·subst c;rw[BY rfl,An (by omega)];exact h.1 (x-1) y (by omega) (by omega) e (by omega) (by omega)
  ·rw[An c];by_cases b:y=j
   ·rw[BY b];exact h.1 x (j-1) g (by omega) (by omega) c (by omega)
   ·rw[An b];exact h.1 x y g h1 e c b
 ·rw[f (j-1),f y,BY rfl,An (by omega)];by_cases b:y=j
  ·rw[BY b];exact p
  ·rw[An b];exact h.2 y (by omega) e
def Hp (o:α->α->Int) (d:α) (f hi lo:Nat) (m:List α):Prop:=∀k c,lo<=k->(c=2*k+1\/c=2*k+2)->c<hi->o (m.getD (f+c) d) (m.getD (f+k) d)<0
structure HpX (o:α->α->Int) (d:α) (f hi lo root:Nat) (m:List α):Prop where
 le:lo<=root
 hp:∀k c,lo<=k->k≠root->(c=2*k+1\/c=2*k+2)->c<hi->o (m.getD (f+c) d) (m.getD (f+k) d)<0
 up:∀p c,lo<=p->(root=2*p+1\/root=2*p+2)->(c=2*root+1\/c=2*root+2)->c<hi->o (m.getD (f+c) d) (m.getD (f+p) d)<0
theorem z1 {f hi lo:Nat} {m:List α} (h:Hp o d f hi (lo+1) m):HpX o d f hi lo lo m:=⟨NO _,λk c h1 a b e=>h k c (by omega) b e,λp c h1 a=>by omega⟩
theorem A4a {f hi lo root:Nat} {m:List α} (h:HpX o d f hi lo root m) (e:hi<=2*root+1):Hp o d f hi lo m:=λk c h1 a b=>h.hp k c h1 (by omega) a b
theorem n8 (i:SO o) {f hi lo root ch:Nat} {m:List α} (h:HpX o d f hi lo root m) (j:ch=2*root+1\/ch=2*root+2) (g:o (m.getD (f+ch) d) (m.getD (f+root) d)<0)
  (hs:∀c,(c=2*root+1\/c=2*root+2)->c<hi->c≠ch->o (m.getD (f+c) d) (m.getD (f+ch) d)<0):Hp o d f hi lo m:=λk c h1 a b=>by
 by_cases hk:k=root
 ·subst hk;by_cases e:c=ch
  ·rw[e];exact g
  ·exact i.trans (hs c a b e) g
 ·exact h.hp k c h1 hk a b
theorem n9 {f hi lo root ch:Nat} {m:List α} (h:HpX o d f hi lo root m) (r:ch<hi) (hf:f+hi<=m.length) (n:ch=2*root+1\/ch=2*root+2) (t:o (m.getD (f+root) d) (m.getD (f+ch) d)<0)
  (hs:∀c,(c=2*root+1\/c=2*root+2)->c<hi->c≠ch->o (m.getD (f+c) d) (m.getD (f+ch) d)<0):HpX o d f hi lo ch (CX d m (f+root) (f+ch)):=by
 have e:=Iq (d:=d) (l:=m) (i:=f+root) (j:=f+ch) (by omega) (by omega);have u:=h.le;refine⟨by omega,λk c h1 g a b=>?_,λp c h1 g a b=>?_⟩
 ·rw[e,e];by_cases hk:k=root
  ·subst hk;rw[An (show ¬f+k=f+ch by omega),BY rfl];by_cases q:c=ch
   ·rw[BY (by omega)];exact t
   ·rw[An (by omega),An (by omega)];exact hs c a b q
  ·rw[An (show ¬f+k=f+ch by omega),An (show ¬f+k=f+root by omega)];by_cases s:c=root
   ·subst s;rw[An (by omega),BY rfl];exact h.up k ch h1 a n r
   ·rw[An (by omega),An (by omega)];exact h.hp k c h1 hk a b
 ·have hp:p=root:=by omega
  subst hp;rw[e,e,An (by omega),An (by omega),An (by omega),BY rfl];exact h.hp ch c (by omega) (by omega) a b
theorem oA (b:SO o) {f hi:Nat} {m:List α} (h:Hp o d f hi 0 m):∀(n k:Nat),k<=n->0<k->k<hi->o (m.getD (f+k) d) (m.getD f d)<0
 | 0,k,h1,c,_=>by omega
 | n+1,k,h1,c,e=>by
  have a:=h ((k-1) / 2) k (by omega) (by omega) e;by_cases g:(k-1) / 2=0
  ·rw[g]at a;exact a
  ·exact b.trans a (oA b h n ((k-1) / 2) (by omega) (by omega) (by omega))
structure z2 (o:α->α->Int) (d:α) (f n i:Nat) (m:List α):Prop where
 heap:Hp o d f i 0 m
 srt:R8 o d (f+i) (f+n) m
 big:∀x y,x<i->i<=y->y<n->o (m.getD (f+x) d) (m.getD (f+y) d)<0
theorem sZ {f n:Nat} {m:List α} (h:Hp o d f n 0 m):z2 o d f n n m:=⟨h,λi j h1 a b=>by omega,λx y h1 a b=>by omega⟩
theorem z3 (t:SO o) {f n i:Nat} {m:List α} (h:z2 o d f n (i+1) m) (hi:i<n) (v:f+n<=m.length) :
  HpX o d f i 0 0 (CX d m f (f+i))/\R8 o d (f+i) (f+n) (CX d m f (f+i))/\∀x y,x<i->i<=y->y<n->o ((CX d m f (f+i)).getD (f+x) d) ((CX d m f (f+i)).getD (f+y) d)<0:=by
 have a:=Iq (d:=d) (l:=m) (i:=f) (j:=f+i) (by omega) (by omega);have q:=oA t h.heap i;refine⟨⟨NO _,λk c h1 e b u=>?_,λp c h1 e=>by omega⟩,λx y h1 e b=>?_,λx y h1 e b=>?_⟩
 ·rw[a,a,An (by omega),An (by omega),An (by omega),An (by omega)];exact h.heap k c h1 b (by omega)
 ·rw[a,a,An (show ¬y=f+i by omega),An (show ¬y=f by omega)];by_cases g:x=f+i
  ·rw[BY g];have:=h.big 0 (y-f) (by omega) (by omega) (by omega)
   rwa [show f+0=f by omega,show f+(y-f)=y by omega]at this
  ·rw[An g,An (by omega)];exact h.srt x y (by omega) e b
 ·have key:∀z,z<i+1->i+1<=y->o (m.getD (f+z) d) (m.getD (f+y) d)<0:=λz s r=>h.big z y s r b;rw[a,a,An (show ¬f+x=f+i by omega)];by_cases r:y=i
  ·rw[BY (show f+y=f+i by omega)];by_cases g:x=0
   ·rw[BY (show f+x=f by omega)];exact q i (by omega) (by omega) (by omega)
   ·rw[An (show ¬f+x=f by omega)];exact q x (by omega) (by omega) (by omega)
  ·rw[An (show ¬f+y=f+i by omega),An (show ¬f+y=f by omega)];by_cases g:x=0
   ·rw[BY (show f+x=f by omega)];exact key i (by omega) (by omega)
   ·rw[An (show ¬f+x=f by omega)];exact key x (by omega) (by omega)
theorem z4 {f n i:Nat} {m r:List α} (hp:ED d f (f+i) m r) (hh:Hp o d f i 0 r) (hs:R8 o d (f+i) (f+n) m) (c:∀x y,x<i->i<=y->y<n->o (m.getD (f+x) d) (m.getD (f+y) d)<0):z2 o d f n i r :=
 ⟨hh,NV hs λk h1 a=>hp.out k (by omega),λx y h1 a b=>by
  rw[hp.out (f+y) (by omega)];obtain⟨j,g,h,e⟩:=hp.inn (f+x) (by omega) (by omega);rw[e];have:=c (j-f) y (by omega) a b
  rwa [show f+(j-f)=j by omega]at this⟩
theorem A4b {f n:Nat} {m:List α} (h:z2 o d f n 0 m):R8 o d f (f+n) m:=h.srt
structure PtI (o:α->α->Int) (d:α) (a b i j:Nat) (m:List α):Prop where
 lo:∀x,a<x->x<i->o (m.getD x d) (m.getD a d)<0
 hi:∀x,j<x->x<b->o (m.getD a d) (m.getD x d)<0
theorem oB {a b i j:Nat} {m:List α} (h:PtI o d a b i j m) (n:a<i) (q:i<j) (r:j<b) (p:b<=m.length) (h1:o (m.getD a d) (m.getD i d)<0) (k:o (m.getD j d) (m.getD a d)<0):PtI o d a b (i+1) (j-1) (CX d m i j):=by
 have c:=Iq (d:=d) (l:=m) (i:=i) (j:=j) (by omega) (by omega);refine⟨λx f g=>?_,λx f g=>?_⟩
 ·rw[c x,c a,An (show ¬x=j by omega),An (show ¬a=j by omega),An (show ¬a=i by omega)];by_cases e:x=i
  ·rw[BY e];exact k
  ·rw[An e];exact h.lo x f (by omega)
 ·rw[c x,c a,An (show ¬a=j by omega),An (show ¬a=i by omega)];by_cases e:x=j
  ·rw[BY e];exact h1
  ·rw[An e,An (by omega)];exact h.hi x (by omega) g
structure PtE (o:α->α->Int) (d:α) (a b p:Nat) (m:List α):Prop where
 l:a<=p
 r:p<b
 lo:∀x,a<=x->x<p->o (m.getD x d) (m.getD p d)<0
 hi:∀x,p<x->x<b->o (m.getD p d) (m.getD x d)<0
theorem wM {a b j:Nat} {m:List α} (h:PtI o d a b (j+1) j m) (g:a<=j) (k:j<b) (p:b<=m.length):PtE o d a b j (CX d m j a):=by
 have c:=Iq (d:=d) (l:=m) (i:=j) (j:=a) (by omega) (by omega);refine⟨g,k,λx n f=>?_,λx n f=>?_⟩
 ·rw[c x,c j,An (show ¬j=a by omega),BY rfl];by_cases e:x=a
  ·rw[BY e];exact h.lo j (by omega) (by omega)
  ·rw[An e,An (by omega)];exact h.lo x (by omega) (by omega)
 ·rw[c x,c j,An (show ¬x=a by omega),An (show ¬x=j by omega)];by_cases e:j=a
  ·rw[BY e];rw[e];exact h.hi x (by omega) f
  ·rw[An e,BY rfl];exact h.hi x (by omega) f
structure z5 (o:α->α->Int) (d:α) (a0 b0 a b:Nat) (m:List α):Prop where
 s1:R8 o d a0 a m
 s2:R8 o d b b0 m
 c1:∀x y,a0<=x->x<a->a<=y->y<b0->o (m.getD x d) (m.getD y d)<0
 c2:∀x y,a0<=x->x<b->b<=y->y<b0->o (m.getD x d) (m.getD y d)<0
 ab:a0<=a/\a<=b/\b<=b0
theorem z6 {a b:Nat} (g:a<=b) (m:List α):z5 o d a b a b m:=⟨λi j h1 c e=>by omega,λi j h1 c e=>by omega,λx y h1 c=>by omega,λx y h1 c e f=>by omega,by omega⟩
theorem z5.pin {l n a b:Nat} {m r:List α} (h:z5 o d l n a b m) (hp:ED d a b m r):z5 o d l n a b r:=by
 obtain⟨w,B,A⟩:=h.ab;have key:∀(P:α->Prop) (lo hi:Nat),lo<=a->b<=hi->(∀y,lo<=y->y<hi->P (m.getD y d))->∀y,lo<=y->y<hi->P (r.getD y d):=λP lo hi h1 p q y c f=>by
  obtain⟨j,s,t,e⟩:=(hp.mono h1 p).inn y c f;rw[e];exact q j s t
 refine⟨NV h.s1 λk u v=>hp.out k (by omega),NV h.s2 λk u v=>hp.out k (by omega),λx y g i c f=>?_,λx y g i c f=>?_,h.ab⟩
 ·rw[hp.out x (by omega)];exact key (λz=>o (m.getD x d) z<0) a n (NO _) A (λy c f=>h.c1 x y g i c f) y c f
 ·rw[hp.out y (by omega)];exact key (λz=>o z (m.getD y d)<0) l b w (NO _) (λx g i=>h.c2 x y g i c f) x g i
theorem z5.done {g k a b:Nat} {m:List α} (h:z5 o d g k a b m) (hs:R8 o d a b m):R8 o d g k m:=by
 obtain⟨n,p,q⟩:=h.ab;intro i j h1 c e;by_cases hi:i<a
 ·by_cases f:j<a
  ·exact h.s1 i j h1 c f
  ·exact h.c1 i j h1 hi (by omega) e
 ·by_cases f:j<b
  ·exact hs i j (by omega) c f
  ·by_cases l:i<b
   ·exact h.c2 i j h1 l (by omega) e
   ·exact h.s2 i j (by omega) c e
theorem z5.left (u:SO o) {e f a b p:Nat} {m:List α} (h:z5 o d e f a b m) (hp:PtE o d a b p m) (hs:R8 o d a p m):z5 o d e f (p+1) b m:=by
 obtain⟨A,B,C⟩:=h.ab;have w:=hp.l;have z:=hp.r;refine⟨λi j h1 g v=>?_,h.s2,λx y n D E q=>?_,h.c2,by omega⟩
 ·by_cases hi:i<a
  ·by_cases c:j<a
   ·exact h.s1 i j h1 g c
   ·exact h.c1 i j h1 hi (by omega) (by omega)
  ·by_cases c:j=p
   ·rw[c];exact hp.lo i (by omega) (by omega)
   ·exact hs i j (by omega) g (by omega)
 ·by_cases s:x<a
  ·exact h.c1 x y n s (by omega) q
  ·by_cases k:y<b
   ·by_cases t:x=p
    ·rw[t];exact hp.hi y (by omega) k
    ·exact u.trans (hp.lo x (by omega) (by omega)) (hp.hi y (by omega) k)
   ·exact h.c2 x y n (by omega) (by omega) q
theorem z5.right (z:SO o) {g k a b p:Nat} {m:List α} (h:z5 o d g k a b m) (hp:PtE o d a b p m) (hs:R8 o d (p+1) b m):z5 o d g k a p m:=by
 obtain⟨C,D,E⟩:=h.ab;have A:=hp.l;have B:=hp.r;refine⟨h.s1,λi j h1 n q=>?_,λx y c e t f=>h.c1 x y c e t f,λx y c e t f=>?_,by omega⟩
 ·by_cases s:j<b
  ·by_cases hi:i=p
   ·rw[hi];exact hp.hi j (by omega) s
   ·exact hs i j (by omega) n s
  ·by_cases u:i<b
   ·exact h.c2 i j (by omega) u (by omega) q
   ·exact h.s2 i j (by omega) n q
 ·by_cases w:y<b
  ·by_cases v:x<a
   ·exact h.c1 x y c v (by omega) f
   ·by_cases hyp:y=p
    ·rw[hyp];exact hp.lo x (by omega) e
    ·exact z.trans (hp.lo x (by omega) e) (hp.hi y (by omega) w)
  ·exact h.c2 x y c (by omega) (by omega) f
theorem PtE.pinL {a b p:Nat} {m r:List α} (h:PtE o d a b p m) (hp:ED d a p m r):PtE o d a b p r:=by
 have g:=h.l;have i:=h.r;refine⟨g,i,λx c f=>?_,λx c f=>?_⟩
 ·rw[hp.out p (by omega)];obtain⟨j,k,n,e⟩:=hp.inn x c f;rw[e];exact h.lo j k n
 ·rw[hp.out p (by omega),hp.out x (by omega)];exact h.hi x c f
theorem PtE.pinR {a b p:Nat} {m r:List α} (h:PtE o d a b p m) (hp:ED d (p+1) b m r):PtE o d a b p r:=by
 have g:=h.l;have i:=h.r;refine⟨g,i,λx f c=>?_,λx f c=>?_⟩
 ·rw[hp.out p (by omega),hp.out x (by omega)];exact h.lo x f c
 ·rw[hp.out p (by omega)];obtain⟨j,n,k,e⟩:=hp.inn x (by omega) c;rw[e];exact h.hi j (by omega) k
def Bf (o:α->α->Int) (d:α) (a b:Nat) (m:List α):Prop:=a=0\/∀y,a<=y->y<b->o (m.getD (a-1) d) (m.getD y d)<0
theorem Bf.pin {a b:Nat} {m r:List α} (h:Bf o d a b m) (hp:ED d a b m r):Bf o d a b r:=by
 rcases h with h|h
 ·exact .inl h
 ·by_cases h0:a=0
  ·exact .inl h0
  ·right;intro y g i;rw[hp.out (a-1) (by omega)];obtain⟨j,c,f,e⟩:=hp.inn y g i;rw[e];exact h j c f
theorem Bf.sub {a b b':Nat} {m:List α} (h:Bf o d a b m) (e:b'<=b):Bf o d a b' m:=h.imp id λh y c f=>h y c (by omega)
theorem PtE.bf {a b p:Nat} {m:List α} (h:PtE o d a b p m):Bf o d (p+1) b m:=.inr λy e c=>by
 rw[show p+1-1=p by omega];exact h.hi y (by omega) c
end
section
attribute [local go_sem] Cy
def CF (a b:Int×Int):Int:=F2 a.1 b.1
theorem CN:SO CF:=⟨λa b=>by unfold CF F2;(repeat' split)<;>omega,λ{a b c} h1 d=>by
 unfold CF F2 at *
 (repeat' split at h1)<;>(repeat' split at d)<;>(repeat' split)<;>omega⟩
theorem A6G (l:List (Int×Int)) (M:l.length<=100000) (w:pY CF (0,0) l) (a b:Nat) (H:a<=100000) (I:b<=l.length):BI Tryz.prog 232 [.sr 1000000 AU 0 l.length,.p T3 (a:Int),.p T3 (b:Int),.fn 192] [(1000000,.arr 106 AU l)] [1000000] (λres F=>res=.raw (.tuple #[])/\∃r,F=[(1000000,.arr 106 AU r)]/\ED (0,0) a b l r/\R8 CF (0,0) a b r):=by
 refine K0 [0,1,2,3,8,9,14,34] [] [] Tryz.func232 Tryz.ntmps232 (AF FD AG) ?_;intro w0 K O0 ρ0 d O P;simp only[Am];repeat'(first|exact trivial|refine eS rfl ?_|refine AB ?_|refine rX d ?_ ?_|refine rC ?_ ?_<;>intro e<;>try(cases e;done))
 ·omega
 ·refine AK (ι:={s:Nat×List (Int×Int)//a+1<=s.1/\(s.1=a+1\/s.1<=b)/\ED (0,0) a b l s.2/\R8 CF (0,0) a s.1 s.2}) (λs=>⟨[(0,.sr 1000000 AU 0 l.length),(1,.p T3 (a:Int)),(2,.p T3 (b:Int)),(3,.fn 192),(8,.p (.int .i64) (s.1.1:Int))],[(1000000,.arr 106 AU s.1.2)]⟩) (λs=>b-s.1.1) ⟨(a+1,l),NO _,.inl rfl,ED.refl a b l,cK a l⟩ (AC [(1000000,.nm 1000000)] rfl rfl ?_ ?_) (λs=>?_)
  ·first|exact eN|refine eM ?_
  ·first|exact eN|refine eM ?_
  ·obtain⟨⟨i,m⟩,B,C,hp,hs⟩:=s;simp only at B C hp hs ⊢;have N:=hp.len;repeat'(first|exact trivial|refine eS rfl ?_|refine AB ?_|refine rX d ?_ ?_|refine rC ?_ ?_<;>intro e<;>try(cases e;done))
   ·have D:i<b:=by exact eV
    refine AK (ι:={t:Nat×List (Int×Int)//a<=t.1/\t.1<=i/\ED (0,0) a b l t.2/\sX CF (0,0) a i t.1 t.2}) (λt=>⟨[(0,.sr 1000000 AU 0 l.length),(1,.p T3 (a:Int)),(2,.p T3 (b:Int)),(3,.fn 192),(8,.p (.int .i64) (i:Int)),(9,.p (.int .i64) (t.1.1:Int))],[(1000000,.arr 106 AU t.1.2)]⟩) (λt=>t.1.1) ⟨(i,m),by omega,NO i,hp,sY hs⟩ (AC [(1000000,.nm 1000000)] rfl rfl ?_ ?_) (λt=>?_)
    ·first|exact eN|refine eM ?_
    ·first|exact eN|refine eM ?_
    ·obtain⟨⟨j,c⟩,ha,q,g,o⟩:=t;simp only at ha q g o ⊢;have J:=g.len;have z:=w.perm CN g.perm;repeat'(first|exact trivial|refine eS rfl ?_|refine AB ?_|refine rX d ?_ ?_)
     ·dsimp only[Ty.den]at *;exact⟨λ_=>by omega,λ_=>⟨by omega,by omega⟩,λ_=>⟨by omega,by omega⟩⟩
     ·have n:a<j->((j:Int)-1).toNat=j-1:=λ_=>by omega
      refine Dm (by simp only[go_sem,Nat.reduceEqDiff,reduceCtorEq,Nat.reduceAdd,Nat.reduceSub,Nat.reduceMul,Nat.reduceLeDiff,Nat.reduceLT,Int.reduceLE,Int.reduceToNat,Int.reduceNeg,↓reduceIte];rfl) ?_ ?_
      ·intro f;simp only[AT,Fj]at f;have k:a<j:=by omega
       have u:CF (c.getD j (0,0)) (c.getD ((j:Int)-1).toNat (0,0))<0:=f.2;rw[n k]at u;have E:CX (0,0) c j (j-1)=(c.set j (c.getD (j-1) (0,0))).set (j-1) (c.getD j (0,0)):=rfl;repeat'(first|exact trivial|refine eS rfl ?_|refine AB ?_|refine rP d ?_ ?_|fail)
       (refine Cc drawsAny d 16 [([0,1,5,6,7,8,9,10,11,12,13,14],15)] [2,3,4] (by kernel_rfl) (Nk ?_ ?_);(next=>exact CY);refine PY d [] ?_ ?_;(next=>exact CY);refine Tw d ?_ ?_ ?_;(next=>exact CY);(next=>exact CY))
       rw[n k];repeat'(first|exact trivial|refine eS rfl ?_|refine AB ?_|refine rX d ?_ ?_|refine rC ?_ ?_<;>intro e<;>try(cases e;done))
       ·dsimp only[Ty.den]at *;omega
       ·refine⟨⟨(j-1,CX (0,0) c j (j-1)),by simp only;omega,by simp only;omega,g.trans (ED.swap c (by omega) (by omega) (by omega) (by omega) (by omega)),ZT o k q (by omega) u⟩,by simp only;omega,AC [(1000000,.nm 1000000)] rfl rfl ?_ ?_⟩
        ·simp only;rw[E];first|exact eN|refine eM ?_
        ·simp only;rw[show ((j-1:Nat):Int)=(j:Int)-1 by omega];first|exact eN|refine eM ?_
      ·intro f;have A:j=a\/CF (c.getD (j-1) (0,0)) (c.getD j (0,0))<0:=by
        by_cases k:j=a
        ·exact .inl k
        ·right;simp only[ACT,Of]at f;rw[n (by omega)]at f;rcases f with h|h
         ·omega
         ·exact z.lt CN (by omega) (by omega) (by omega) h
       repeat'(first|exact trivial|refine eS rfl ?_|refine AB ?_|refine rX d ?_ ?_|refine rC ?_ ?_<;>intro e<;>try(cases e;done))
       ·exact eV
       ·refine⟨⟨(i+1,c),by simp only;omega,.inr D,g,Wm CN o ha q A⟩,by simp only;omega,AC [(1000000,.nm 1000000)] rfl rfl ?_ ?_⟩
        ·first|exact eN|refine eM ?_
        ·first|exact eN|refine eM ?_
   ·have L:b<=i:=by exact eV
    exact fM d [] (.raw (.tuple #[])) rfl ⟨rfl,m,rfl,hp,λx y h1 v G=>hs x y h1 v (by omega)⟩
end
section
attribute [local go_sem] Cy
theorem A6H (l:List (Int×Int)) (o:l.length<=100000) (a b:Nat) (h:a<b) (k:b<=l.length):BI Tryz.prog 236 [.sr 1000000 AU 0 l.length,.p T3 (a:Int),.p T3 (b:Int),.fn 192] [(1000000,.arr 106 AU l)] [1000000] (λres g=>res=.raw (.tuple #[])/\∃r,g=[(1000000,.arr 106 AU r)]/\ED (0,0) a b l r):=by
 refine K0 [0,1,2,8,9,15] [] [] Tryz.func236 Tryz.ntmps236 AG ?_;intro w0 K O0 ρ0 c t u;simp only[Am];repeat'(first|exact trivial|refine eS rfl ?_|refine AB ?_|refine rX c ?_ ?_|refine rC ?_ ?_<;>intro d<;>try(cases d;done))
 ·omega
 ·rw[show (b:Int)-1=((b-1:Nat):Int) by omega];refine AK (ι:={s:Nat×Nat×List (Int×Int)//a<=s.1/\s.2.1<b/\ED (0,0) a b l s.2.2}) (λs=>⟨[(0,.sr 1000000 AU 0 l.length),(8,.p (.int .i64) (s.1.1:Int)),(9,.p (.int .i64) (s.1.2.1:Int))],[(1000000,.arr 106 AU s.1.2.2)]⟩) (λs=>s.1.2.1-s.1.1) ⟨(a,b-1,l),NO _,by simp only;omega,ED.refl a b l⟩ (AC [(1000000,.nm 1000000)] rfl rfl ?_ ?_) (λs=>?_)
  ·first|exact eN|refine eM ?_
  ·first|exact eN|refine eM ?_
  ·obtain⟨⟨i,j,m⟩,hi,e,hp⟩:=s;simp only at hi e hp ⊢;have q:=hp.len;repeat'(first|exact trivial|refine eS rfl ?_|refine AB ?_|refine rX c ?_ ?_)
   refine rC ?_ ?_<;>intro d
   ·repeat'(first|exact trivial|refine eS rfl ?_|refine AB ?_|refine rP c ?_ ?_|fail)
    have n:i<j:=by omega
    have f:CX (0,0) m i j=(m.set i (m.getD j (0,0))).set j (m.getD i (0,0)):=rfl
    (refine Cc drawsAny c 14 [([0,1,4,5,6,7,8,9,10,11,12],13)] [2,3] (by kernel_rfl) (Nk ?_ ?_);(next=>exact CY);refine PY c [] ?_ ?_;(next=>exact CY);refine Tw c ?_ ?_ ?_;(next=>exact CY);(next=>exact CY))
    repeat'(first|exact trivial|refine eS rfl ?_|refine AB ?_|refine rX c ?_ ?_|refine rC ?_ ?_<;>intro d<;>try(cases d;done))
    ·omega
    ·omega
    ·refine⟨⟨(i+1,j-1,CX (0,0) m i j),by simp only;omega,by simp only;omega,hp.trans (ED.swap m (by omega) (by omega) (by omega) (by omega) (by omega))⟩,by simp only;omega,AC [(1000000,.nm 1000000)] rfl rfl ?_ ?_⟩
     ·simp only;rw[f];first|exact eN|refine eM ?_
     ·simp only;rw[show ((j-1:Nat):Int)=(j:Int)-1 by omega];first|exact eN|refine eM ?_
   ·repeat'(first|exact trivial|refine eS rfl ?_|refine AB ?_|refine rX c ?_ ?_|refine rC ?_ ?_<;>intro d<;>try(cases d;done))
    exact fM c [] (.raw (.tuple #[])) rfl ⟨rfl,m,rfl,hp⟩
theorem oC (l:List (Int×Int)) (o:l.length<=100000) (z:pY CF (0,0) l) (lo hi f:Nat) (F:lo<=100000) (hf:f+hi<=l.length) (A:HpX CF (0,0) f hi lo lo l):BI Tryz.prog 244 [.sr 1000000 AU 0 l.length,.p T3 (lo:Int),.p T3 (hi:Int),.p T3 (f:Int),.fn 192] [(1000000,.arr 106 AU l)] [1000000] (λres E=>res=.raw (.tuple #[])/\∃r,E=[(1000000,.arr 106 AU r)]/\ED (0,0) f (f+hi) l r/\Hp CF (0,0) f hi lo r):=by
 refine K0 [0,1,2,3,4,10,11,18,40,58] [] [] Tryz.func244 Tryz.ntmps244 (AF FD AG) ?_;intro w0 K O0 ρ0 a H I;simp only[Am];repeat'(first|exact trivial|refine eS rfl ?_|refine AB ?_|refine rX a ?_ ?_|refine rC ?_ ?_<;>intro d<;>try(cases d;done))
 refine AK (ι:={s:Nat×List (Int×Int)//s.1<=lo+hi/\ED (0,0) f (f+hi) l s.2/\HpX CF (0,0) f hi lo s.1 s.2}) (λs=>⟨[(0,.sr 1000000 AU 0 l.length),(2,.p T3 (hi:Int)),(3,.p T3 (f:Int)),(4,.fn 192),(10,.p (.int .i64) (s.1.1:Int))],[(1000000,.arr 106 AU s.1.2)]⟩) (λs=>lo+hi-s.1.1) ⟨(lo,l),by omega,ED.refl _ _ l,A⟩ (AC [(1000000,.nm 1000000)] rfl rfl ?_ ?_) (λs=>?_)
 ·first|exact eN|refine eM ?_
 ·first|exact eN|refine eM ?_
 ·obtain⟨⟨root,m⟩,D,hp,k⟩:=s;simp only at D hp k ⊢;have G:=hp.len;have t:=z.perm CN hp.perm;repeat'(first|exact trivial|refine eS rfl ?_|refine AB ?_|refine rX a ?_ ?_)
  ·omega
  ·refine rC ?_ ?_<;>intro d
   ·have o:hi<=2*root+1:=by omega
    repeat'(first|exact trivial|refine eS rfl ?_|refine AB ?_|refine rX a ?_ ?_|refine rC ?_ ?_<;>intro d<;>try(cases d;done))
    exact fM a [] (.raw (.tuple #[])) rfl ⟨rfl,m,rfl,hp,A4a k o⟩
   ·have o:2*root+1<hi:=by omega
    have n:((f:Int)+(2*(root:Int)+1)).toNat=f+(2*root+1):=by omega
    have q:((f:Int)+(2*(root:Int)+1+1)).toNat=f+(2*root+2):=by omega
    have w:((f:Int)+(2*(root:Int)+1)+1).toNat=f+(2*root+2):=by omega
    have g:((f:Int)+(root:Int)).toNat=f+root:=by omega
    repeat'(first|exact trivial|refine eS rfl ?_|refine AB ?_|refine rX a ?_ ?_)
    ·dsimp only[Ty.den];exact⟨by omega,λ_=>by omega,λ_=>by omega,λ_=>by omega,λ_=>by omega,λ_=>by omega⟩
    ·refine Dm (by simp only[go_sem,Nat.reduceEqDiff,reduceCtorEq,Nat.reduceAdd,Nat.reduceSub,Nat.reduceMul,Nat.reduceLeDiff,Nat.reduceLT,Int.reduceLE,Int.reduceToNat,Int.reduceNeg,↓reduceIte];rfl) ?_ ?_
     ·intro e;simp only[AT,Fj]at e;obtain⟨hh,e⟩:=e;have C:CF (m.getD (f+(2*root+1)) (0,0)) (m.getD (f+(2*root+2)) (0,0))<0:=by rw[<-n,<-w];exact e
      have B:2*root+2<hi:=by omega
      have hs:∀c,(c=2*root+1\/c=2*root+2)->c<hi->c≠2*root+2->CF (m.getD (f+c) (0,0)) (m.getD (f+(2*root+2)) (0,0))<0:=λc h1 x y=>by
       rw[show c=2*root+1 by omega];exact C
      repeat'(first|exact trivial|refine eS rfl ?_|refine AB ?_|refine rX a ?_ ?_)
      ·omega
      ·exact CY
      ·refine Dm (by simp only[go_sem,Nat.reduceEqDiff,reduceCtorEq,Nat.reduceAdd,Nat.reduceSub,Nat.reduceMul,Nat.reduceLeDiff,Nat.reduceLT,Int.reduceLE,Int.reduceToNat,Int.reduceNeg,↓reduceIte];rfl) ?_ ?_
       ·intro b;simp only[SZ,Of]at b;rw[g,q]at b;have u:=t.lt CN (i:=f+root) (j:=f+(2*root+2)) (by omega) (by omega) (by omega) b;repeat'(first|exact trivial|refine eS rfl ?_|refine AB ?_|refine rX a ?_ ?_|refine rC ?_ ?_<;>intro d<;>try(cases d;done))
        exact fM a [] (.raw (.tuple #[])) rfl ⟨rfl,m,rfl,hp,n8 CN k (.inr rfl) u hs⟩
       ·intro b;simp only[ADf,Fj]at b;rw[g,q]at b;have v:CX (0,0) m (f+root) (f+(2*root+2))=(m.set (f+root) (m.getD (f+(2*root+2)) (0,0))).set (f+(2*root+2)) (m.getD (f+root) (0,0)):=rfl;repeat'(first|exact trivial|refine eS rfl ?_|refine AB ?_|refine rP a ?_ ?_|fail)
        (refine Cc drawsAny a 22 [([0,1,2,3,8,9,10,11,12,13,14,15,16,17,18,19,20],21)] [4,5,6,7] (by kernel_rfl) (Nk ?_ ?_);(next=>exact CY);refine PY a [] ?_ ?_;(next=>exact CY);refine Tw a ?_ ?_ ?_;(next=>exact CY);(next=>exact CY))
        rw[g,q];repeat'(first|exact trivial|refine eS rfl ?_|refine AB ?_|refine rX a ?_ ?_|refine rC ?_ ?_<;>intro d<;>try(cases d;done))
        refine⟨⟨(2*root+2,CX (0,0) m (f+root) (f+(2*root+2))),by simp only;omega,hp.trans (ED.swap m (by omega) (by omega) (by omega) (by omega) (by omega)),n9 k B (by omega) (.inr rfl) b hs⟩,by simp only;omega,AC [(1000000,.nm 1000000)] rfl rfl ?_ ?_⟩
        ·simp only;rw[v];first|exact eN|refine eM ?_
        ·simp only;rw[show ((2*root+2:Nat):Int)=2*(root:Int)+1+1 by omega];first|exact eN|refine eM ?_
     ·intro e;have hs:∀c,(c=2*root+1\/c=2*root+2)->c<hi->c≠2*root+1->CF (m.getD (f+c) (0,0)) (m.getD (f+(2*root+1)) (0,0))<0:=λc h1 x y=>by
       simp only[ACT,Of]at e;have a:c=2*root+2:=by omega
       subst a;rcases e with h|h
       ·omega
       ·rw[n,w]at h;exact t.lt CN (by omega) (by omega) (by omega) h
      repeat'(first|exact trivial|refine eS rfl ?_|refine AB ?_|refine rX a ?_ ?_)
      ·exact CY
      ·refine Dm (by simp only[go_sem,Nat.reduceEqDiff,reduceCtorEq,Nat.reduceAdd,Nat.reduceSub,Nat.reduceMul,Nat.reduceLeDiff,Nat.reduceLT,Int.reduceLE,Int.reduceToNat,Int.reduceNeg,↓reduceIte];rfl) ?_ ?_
       ·intro b;simp only[SZ,Of]at b;rw[g,n]at b;have u:=t.lt CN (i:=f+root) (j:=f+(2*root+1)) (by omega) (by omega) (by omega) b;repeat'(first|exact trivial|refine eS rfl ?_|refine AB ?_|refine rX a ?_ ?_|refine rC ?_ ?_<;>intro d<;>try(cases d;done))
        exact fM a [] (.raw (.tuple #[])) rfl ⟨rfl,m,rfl,hp,n8 CN k (.inl rfl) u hs⟩
       ·intro b;simp only[ADf,Fj]at b;rw[g,n]at b;have v:CX (0,0) m (f+root) (f+(2*root+1))=(m.set (f+root) (m.getD (f+(2*root+1)) (0,0))).set (f+(2*root+1)) (m.getD (f+root) (0,0)):=rfl;repeat'(first|exact trivial|refine eS rfl ?_|refine AB ?_|refine rP a ?_ ?_|fail)
        (refine Cc drawsAny a 22 [([0,1,2,3,8,9,10,11,12,13,14,15,16,17,18,19,20],21)] [4,5,6,7] (by kernel_rfl) (Nk ?_ ?_);(next=>exact CY);refine PY a [] ?_ ?_;(next=>exact CY);refine Tw a ?_ ?_ ?_;(next=>exact CY);(next=>exact CY))
        rw[g,n];repeat'(first|exact trivial|refine eS rfl ?_|refine AB ?_|refine rX a ?_ ?_|refine rC ?_ ?_<;>intro d<;>try(cases d;done))
        refine⟨⟨(2*root+1,CX (0,0) m (f+root) (f+(2*root+1))),by simp only;omega,hp.trans (ED.swap m (by omega) (by omega) (by omega) (by omega) (by omega)),n9 k o (by omega) (.inl rfl) b hs⟩,by simp only;omega,AC [(1000000,.nm 1000000)] rfl rfl ?_ ?_⟩
        ·simp only;rw[v];first|exact eN|refine eM ?_
        ·simp only;rw[show ((2*root+1:Nat):Int)=2*(root:Int)+1 by omega];first|exact eN|refine eM ?_
end
section
attribute [local go_sem] Cy
theorem A4c (l:List (Int×Int)) (L:l.length<=100000) (u:pY CF (0,0) l) (a b:Nat) (I:a<=b) (J:b<=l.length):BI Tryz.prog 233 [.sr 1000000 AU 0 l.length,.p T3 (a:Int),.p T3 (b:Int),.fn 192] [(1000000,.arr 106 AU l)] [1000000] (λres C=>res=.raw (.tuple #[])/\∃r,C=[(1000000,.arr 106 AU r)]/\ED (0,0) a b l r/\R8 CF (0,0) a b r):=by
 refine K0 [0,1,2,3,8,9,10,11,12,21,33] [] [] Tryz.func233 Tryz.ntmps233 AG ?_;intro w0 K O0 ρ0 d M N;simp only[Am];obtain⟨n,hn⟩:∃n,b=a+n:=⟨b-a,by omega⟩;subst hn;have t:(((a+n:Nat):Int)-(a:Int)-1).tdiv 2=(((n-1) / 2+1:Nat):Int)-1:=by
  by_cases h0:n=0
  ·subst h0;rw[show ((a+0:Nat):Int)-(a:Int)-1=-1 by omega];decide
  ·rw[oR (by omega)];omega
 have en:((a+n:Nat):Int)-(a:Int)=(n:Int):=by omega
 repeat'(first|exact trivial|refine eS rfl ?_|refine AB ?_|refine rX d ?_ ?_|refine rC ?_ ?_<;>intro e<;>try(cases e;done))
 ·omega
 ·rw[t];exact⟨by omega,by decide,by omega⟩
 ·rw[t,en];refine AK (ι:={s:Nat×List (Int×Int)//s.1<=n+1/\ED (0,0) a (a+n) l s.2/\Hp CF (0,0) a n s.1 s.2}) (λs=>⟨[(0,.sr 1000000 AU 0 l.length),(3,.fn 192),(8,.p T3 (a:Int)),(9,.p (.int .i64) (0:Int)),(10,.p (.int .i64) (n:Int)),(11,.p (.int .i64) ((s.1.1:Int)-1))],[(1000000,.arr 106 AU s.1.2)]⟩) (λs=>s.1.1) ⟨((n-1) / 2+1,l),by simp only;omega,ED.refl _ _ l,λk c h1 G H=>by simp only at h1;omega⟩ (AC [(1000000,.nm 1000000)] rfl rfl ?_ ?_) (λs=>?_)
  ·first|exact eN|refine eM ?_
  ·first|exact eN|refine eM ?_
  ·obtain⟨⟨k,m⟩,hk,hp,q⟩:=s;simp only at hk hp q ⊢;have y:=hp.len;have x:=u.perm CN hp.perm;repeat'(first|exact trivial|refine eS rfl ?_|refine AB ?_|refine rX d ?_ ?_)
   refine rC ?_ ?_<;>intro e
   ·have f:0<k:=by omega
    have key:=oC m (by omega) x (k-1) n a (by omega) (by omega) (z1 (by rw[show k-1+1=k by omega];exact q));rw[y,show ((k-1:Nat):Int)=(k:Int)-1 by omega]at key;repeat'(first|exact trivial|refine eS rfl ?_|refine AB ?_|refine rX d ?_ ?_)
    refine cP 5 d ?_ ?_
    ·trivial
    ·refine rM d (key) [(1000000,.nm 1000000)] [] ?_ ?_ ?_
     ·first|exact eN|refine eM ?_
     ·first|exact eN|refine eM ?_
     ·rintro _ _ ⟨rfl,r,rfl,i,j⟩;refine⟨[(1000000,.nm 1000000)],.raw (.tuple #[]),[(1000000,.arr 106 AU r)],rfl,rfl,?_,?_,rfl,rfl,CQ ?_⟩
      ·first|exact eN|refine eM ?_
      ·first|exact eN|refine eM ?_
      ·repeat'(first|exact trivial|refine eS rfl ?_|refine AB ?_|refine rX d ?_ ?_|refine rC ?_ ?_<;>intro e<;>try(cases e;done))
       ·omega
       ·refine⟨⟨(k-1,r),by simp only;omega,hp.trans i,j⟩,by simp only;omega,AC [(1000000,.nm 1000000)] rfl rfl ?_ ?_⟩
        ·simp only;first|exact eN|refine eM ?_
        ·simp only;rw[show ((k-1:Nat):Int)=(k:Int)-1 by omega];first|exact eN|refine eM ?_
   ·have f:k=0:=by omega
    subst f;repeat'(first|exact trivial|refine eS rfl ?_|refine AB ?_|refine rX d ?_ ?_)
    ·omega
    ·refine AK (ι:={s:Nat×List (Int×Int)//s.1<=n/\ED (0,0) a (a+n) l s.2/\z2 CF (0,0) a n s.1 s.2}) (λs=>⟨[(0,.sr 1000000 AU 0 l.length),(3,.fn 192),(8,.p T3 (a:Int)),(9,.p (.int .i64) (0:Int)),(12,.p (.int .i64) ((s.1.1:Int)-1))],[(1000000,.arr 106 AU s.1.2)]⟩) (λs=>s.1.1) ⟨(n,m),NO _,hp,sZ q⟩ (AC [(1000000,.nm 1000000)] rfl rfl ?_ ?_) (λs=>?_)
     ·first|exact eN|refine eM ?_
     ·first|exact eN|refine eM ?_
     ·obtain⟨⟨k,c⟩,hk,g,h⟩:=s;simp only at hk g h ⊢;have w:=g.len;repeat'(first|exact trivial|refine eS rfl ?_|refine AB ?_|refine rX d ?_ ?_)
      refine rC ?_ ?_<;>intro e
      ·have f:0<k:=by omega
       have h:z2 CF (0,0) a n (k-1+1) c:=by rw[show k-1+1=k by omega];exact h
       obtain⟨D,E,F⟩:=z3 CN h (by omega) (by omega);have o:ED (0,0) a (a+n) c (CX (0,0) c a (a+(k-1))):=ED.swap c (by omega) (by omega) (by omega) (by omega) (by omega);have A:=o.len;have z:=u.perm CN (g.trans o).perm;have v:((a:Int)+((k:Int)-1)).toNat=a+(k-1):=by omega
       have B:CX (0,0) c a (a+(k-1))=(c.set a (c.getD (a+(k-1)) (0,0))).set (a+(k-1)) (c.getD a (0,0)):=rfl;have key:=oC (CX (0,0) c a (a+(k-1))) (by omega) z 0 (k-1) a (by omega) (by omega) D;rw[A,w,show ((k-1:Nat):Int)=(k:Int)-1 by omega]at key;repeat'(first|exact trivial|refine eS rfl ?_|refine AB ?_|refine rP d ?_ ?_|fail)
       (refine Cc drawsAny d 18 [([0,1,6,7,8,9,10,11,12,13,14,15,16],17)] [2,3,4,5] (by kernel_rfl) (Nk ?_ ?_);(next=>exact CY);refine PY d [] ?_ ?_;(next=>exact CY);refine Tw d ?_ ?_ ?_;(next=>exact CY);(next=>exact CY))
       rw[v,<-B];repeat'(first|exact trivial|refine eS rfl ?_|refine AB ?_|refine rP d ?_ ?_|fail)
       refine cP 5 d ?_ ?_
       ·trivial
       ·refine rM d (key) [(1000000,.nm 1000000)] [] ?_ ?_ ?_
        ·first|exact eN|refine eM ?_
        ·first|exact eN|refine eM ?_
        ·rintro _ _ ⟨rfl,r,rfl,i,j⟩;refine⟨[(1000000,.nm 1000000)],.raw (.tuple #[]),[(1000000,.arr 106 AU r)],rfl,rfl,?_,?_,rfl,rfl,CQ ?_⟩
         ·first|exact eN|refine eM ?_
         ·first|exact eN|refine eM ?_
         ·repeat'(first|exact trivial|refine eS rfl ?_|refine AB ?_|refine rX d ?_ ?_|refine rC ?_ ?_<;>intro e<;>try(cases e;done))
          ·omega
          ·refine⟨⟨(k-1,r),by simp only;omega,(g.trans o).trans (i.mono (NO _) (by omega)),z4 i j E F⟩,by simp only;omega,AC [(1000000,.nm 1000000)] rfl rfl ?_ ?_⟩
           ·simp only;first|exact eN|refine eM ?_
           ·simp only;rw[show ((k-1:Nat):Int)=(k:Int)-1 by omega];first|exact eN|refine eM ?_
      ·have f:k=0:=by omega
       subst f;repeat'(first|exact trivial|refine eS rfl ?_|refine AB ?_|refine rX d ?_ ?_|refine rC ?_ ?_<;>intro e<;>try(cases e;done))
       exact fM d [] (.raw (.tuple #[])) rfl ⟨rfl,c,rfl,g,A4b h⟩
end
section
attribute [local go_sem] Cy
theorem A6I (l:List (Int×Int)) (ah:l.length<=100000) (O:pY CF (0,0) l) (a b p:Nat) (hap:a<=p) (aa:p<b) (V:b<=l.length):BI Tryz.prog 239 [.sr 1000000 AU 0 l.length,.p T3 (a:Int),.p T3 (b:Int),.p T3 (p:Int),.fn 192] [(1000000,.arr 106 AU l)] [1000000] (λres ae=>∃(q:Nat) (w:Bool) (r:List (Int×Int)),res=.tup [.p T3 (q:Int),.p .bool w]/\ae=[(1000000,.arr 106 AU r)]/\ED (0,0) a b l r/\PtE CF (0,0) a b q r):=by
 refine K0 [0,1,2,3,4,10,11,12,13,47,66,71,120,139,144] [] [] Tryz.func239 Tryz.ntmps239 (AF FD AG) ?_;intro w0 K O0 ρ0 c ai aj;simp only[Am];have g:ED (0,0) a b l (CX (0,0) l a p):=ED.swap l (NO _) (by omega) hap aa V;have n:CX (0,0) l a p=(l.set a (l.getD p (0,0))).set p (l.getD a (0,0)):=rfl;repeat'(first|exact trivial|refine eS rfl ?_|refine AB ?_|refine rP c ?_ ?_|fail)
 (refine Cc drawsAny c 14 [([0,1,4,5,6,7,8,9,10,11,12],13)] [2,3] (by kernel_rfl) (Nk ?_ ?_);(next=>exact CY);refine PY c [] ?_ ?_;(next=>exact CY);refine Tw c ?_ ?_ ?_;(next=>exact CY);(next=>exact CY))
 rw[<-n];have y:=O.perm CN g.perm;have R:=g.len;clear n;generalize CX (0,0) l a p=m at *;repeat'(first|exact trivial|refine eS rfl ?_|refine AB ?_|refine rP c ?_ ?_|fail)
 ·exact CY
 ·rw[show (a:Int)+1=((a+1:Nat):Int) by omega,show (b:Int)-1=((b-1:Nat):Int) by omega];refine AK (ι:={i:Nat//a<i/\i<=b/\PtI CF (0,0) a b i (b-1) m}) (λs=>⟨[(0,.sr 1000000 AU 0 l.length),(1,.p T3 (a:Int)),(4,.fn 192),(12,.p (.int .i64) (s.1:Int)),(13,.p (.int .i64) ((b-1:Nat):Int))],[(1000000,.arr 106 AU m)]⟩) (λs=>b-s.1) ⟨a+1,by omega,by omega,⟨λx h1 f=>by omega,λx h1 f=>by omega⟩⟩ (AC [(1000000,.nm 1000000)] rfl rfl ?_ ?_) (λs=>?_)
  ·first|exact eN|refine eM ?_
  ·first|exact eN|refine eM ?_
  ·obtain⟨i,E,I,t⟩:=s;simp only at E I t ⊢;repeat'(first|exact trivial|refine eS rfl ?_|refine AB ?_|refine rX c ?_ ?_)
   ·dsimp only[Ty.den];exact⟨λ_=>by omega,λ_=>by omega⟩
   ·refine Dm (by simp only[go_sem,Nat.reduceEqDiff,reduceCtorEq,Nat.reduceAdd,Nat.reduceSub,Nat.reduceMul,Nat.reduceLeDiff,Nat.reduceLT,Int.reduceLE,Int.reduceToNat,Int.reduceNeg,↓reduceIte];rfl) ?_ ?_
    ·intro d;simp only[AT,Fj]at d;obtain⟨h1,f⟩:=d;repeat'(first|exact trivial|refine eS rfl ?_|refine AB ?_|refine rX c ?_ ?_)
     ·exact CY
     ·refine⟨⟨i+1,by omega,by omega,⟨λx G H=>?_,t.hi⟩⟩,by simp only;omega,AC [(1000000,.nm 1000000)] rfl rfl ?_ ?_⟩
      ·by_cases e:x=i
       ·rw[e];exact f
       ·exact t.lo x G (by omega)
      ·first|exact eN|refine eM ?_
      ·first|exact eN|refine eM ?_
    ·intro d;have A:i<=b-1->CF (m.getD a (0,0)) (m.getD i (0,0))<0:=λh1=>y.lt CN (by omega) (by omega) (by omega) λf=>by
      simp only[ACT,Of]at d;rcases d with h|h
      ·omega
      ·exact h f
     have ag:i<=b-1+1:=by omega
     repeat'(first|exact trivial|refine eS rfl ?_|refine AB ?_|refine rX c ?_ ?_)
     refine AK (ι:={j:Nat//a<=j/\j<b/\i<=j+1/\PtI CF (0,0) a b i j m}) (λs=>⟨[(0,.sr 1000000 AU 0 l.length),(1,.p T3 (a:Int)),(4,.fn 192),(12,.p (.int .i64) (i:Int)),(13,.p (.int .i64) (s.1:Int))],[(1000000,.arr 106 AU m)]⟩) (λs=>s.1) ⟨b-1,by omega,by omega,by omega,t⟩ (AC [(1000000,.nm 1000000)] rfl rfl ?_ ?_) (λs=>?_)
     ·first|exact eN|refine eM ?_
     ·first|exact eN|refine eM ?_
     ·obtain⟨j,u,v,W,C⟩:=s;simp only at u v W C ⊢;clear d;repeat'(first|exact trivial|refine eS rfl ?_|refine AB ?_|refine rX c ?_ ?_)
      ·dsimp only[Ty.den];exact⟨λ_=>by omega,λ_=>by omega⟩
      ·refine Dm (by simp only[go_sem,Nat.reduceEqDiff,reduceCtorEq,Nat.reduceAdd,Nat.reduceSub,Nat.reduceMul,Nat.reduceLeDiff,Nat.reduceLT,Int.reduceLE,Int.reduceToNat,Int.reduceNeg,↓reduceIte];rfl) ?_ ?_
       ·intro d;simp only[AT,Fj,SZ,Of]at d;obtain⟨h1,f⟩:=d;have f:=y.lt CN (i:=j) (j:=a) (by omega) (by omega) (by omega) f;repeat'(first|exact trivial|refine eS rfl ?_|refine AB ?_|refine rX c ?_ ?_)
        ·exact CY
        ·refine⟨⟨j-1,by omega,by omega,by omega,⟨C.lo,λx G H=>?_⟩⟩,by simp only;omega,AC [(1000000,.nm 1000000)] rfl rfl ?_ ?_⟩
         ·by_cases e:x=j
          ·rw[e];exact f
          ·exact C.hi x (by omega) H
         ·first|exact eN|refine eM ?_
         ·simp only;rw[show ((j-1:Nat):Int)=(j:Int)-1 by omega];first|exact eN|refine eM ?_
       ·intro d;have B:i<=j->CF (m.getD j (0,0)) (m.getD a (0,0))<0:=λh1=>by
         simp only[ACT,Of,ADf,Fj]at d;rcases d with h|h
         ·omega
         ·exact h
        repeat'(first|exact trivial|refine eS rfl ?_|refine AB ?_|refine rX c ?_ ?_)
        refine rC ?_ ?_<;>intro D
        ·have Q:i=j+1:=by omega
         subst Q;have o:ED (0,0) a b m (CX (0,0) m j a):=ED.swap m u v (NO _) (by omega) (by omega);have n:CX (0,0) m j a=(m.set j (m.getD a (0,0))).set a (m.getD j (0,0)):=rfl;repeat'(first|exact trivial|refine eS rfl ?_|refine AB ?_|refine rP c ?_ ?_|fail)
         (refine Cc drawsAny c 14 [([0,1,4,5,6,7,8,9,10,11,12],13)] [2,3] (by kernel_rfl) (Nk ?_ ?_);(next=>exact CY);refine PY c [] ?_ ?_;(next=>exact CY);refine Tw c ?_ ?_ ?_;(next=>exact CY);(next=>exact CY))
         rw[<-n];repeat'(first|exact trivial|refine eS rfl ?_|refine AB ?_|refine rX c ?_ ?_|refine rC ?_ ?_<;>intro D<;>try(cases D;done))
         exact fM c [.tmp 10,.tmp 11] (.tup [.p T3 (j:Int),.p .bool true]) eT ⟨j,true,_,rfl,rfl,g.trans o,wM C u v (by omega)⟩
        ·have Z:i≠j:=λe=>by
          have S:=A (by omega);have af:=B (by omega);rw[e,CN.anti]at S;omega
         have P:i<j:=by omega
         have o:ED (0,0) a b m (CX (0,0) m i j):=ED.swap m (by omega) (by omega) u v (by omega);have n:CX (0,0) m i j=(m.set i (m.getD j (0,0))).set j (m.getD i (0,0)):=rfl;have M:=oB C E P v (by omega) (A (by omega)) (B (by omega));repeat'(first|exact trivial|refine eS rfl ?_|refine AB ?_|refine rP c ?_ ?_|fail)
         (refine Cc drawsAny c 14 [([0,1,4,5,6,7,8,9,10,11,12],13)] [2,3] (by kernel_rfl) (Nk ?_ ?_);(next=>exact CY);refine PY c [] ?_ ?_;(next=>exact CY);refine Tw c ?_ ?_ ?_;(next=>exact CY);(next=>exact CY))
         rw[<-n];have J:=g.trans o;have y:=O.perm CN J.perm;have R:=J.len;clear n o C t A B d g;generalize CX (0,0) m i j=ad at *;repeat'(first|exact trivial|refine eS rfl ?_|refine AB ?_|refine rX c ?_ ?_)
         ·exact CY
         ·exact CY
         ·rw[show (i:Int)+1=((i+1:Nat):Int) by omega,show (j:Int)-1=((j-1:Nat):Int) by omega];refine AK (ι:={s:Nat×Nat×List (Int×Int)//(a<s.1/\s.1<=s.2.1+1)/\(a<=s.2.1/\s.2.1<b)/\ED (0,0) a b l s.2.2/\PtI CF (0,0) a b s.1 s.2.1 s.2.2}) (λs=>⟨[(0,.sr 1000000 AU 0 l.length),(1,.p T3 (a:Int)),(4,.fn 192),(12,.p (.int .i64) (s.1.1:Int)),(13,.p (.int .i64) (s.1.2.1:Int))],[(1000000,.arr 106 AU s.1.2.2)]⟩) (λs=>s.1.2.1+1-s.1.1) ⟨(i+1,j-1,ad),by simp only;omega,by simp only;omega,J,M⟩ (AC [(1000000,.nm 1000000)] rfl rfl ?_ ?_) (λs=>?_)
          ·first|exact eN|refine eM ?_
          ·first|exact eN|refine eM ?_
          ·clear M y R J;obtain⟨⟨i,j,m⟩,⟨E,I⟩,⟨u,v⟩,g,t⟩:=s;simp only at E I u v g t ⊢;have y:=O.perm CN g.perm;have R:=g.len;repeat'(first|exact trivial|refine eS rfl ?_|refine AB ?_|refine rX c ?_ ?_)
           refine AK (ι:={k:Nat//a<k/\i<=k/\k<=j+1/\PtI CF (0,0) a b k j m}) (λs=>⟨[(0,.sr 1000000 AU 0 l.length),(1,.p T3 (a:Int)),(4,.fn 192),(12,.p (.int .i64) (s.1:Int)),(13,.p (.int .i64) (j:Int))],[(1000000,.arr 106 AU m)]⟩) (λs=>j+1-s.1) ⟨i,E,NO _,I,t⟩ (AC [(1000000,.nm 1000000)] rfl rfl ?_ ?_) (λs=>?_)
           ·first|exact eN|refine eM ?_
           ·first|exact eN|refine eM ?_
           ·obtain⟨k,T,X,U,L⟩:=s;simp only at T U X L ⊢;repeat'(first|exact trivial|refine eS rfl ?_|refine AB ?_|refine rX c ?_ ?_)
            ·dsimp only[Ty.den];exact⟨λ_=>by omega,λ_=>by omega⟩
            ·refine Dm (by simp only[go_sem,Nat.reduceEqDiff,reduceCtorEq,Nat.reduceAdd,Nat.reduceSub,Nat.reduceMul,Nat.reduceLeDiff,Nat.reduceLT,Int.reduceLE,Int.reduceToNat,Int.reduceNeg,↓reduceIte];rfl) ?_ ?_
             ·intro d;simp only[AT,Fj]at d;obtain⟨h1,f⟩:=d;repeat'(first|exact trivial|refine eS rfl ?_|refine AB ?_|refine rX c ?_ ?_)
              ·exact CY
              ·refine⟨⟨k+1,by omega,by omega,by omega,⟨λx G H=>?_,L.hi⟩⟩,by simp only;omega,AC [(1000000,.nm 1000000)] rfl rfl ?_ ?_⟩
               ·by_cases e:x=k
                ·rw[e];exact f
                ·exact L.lo x G (by omega)
               ·first|exact eN|refine eM ?_
               ·first|exact eN|refine eM ?_
             ·intro d;have A:k<=j->CF (m.getD a (0,0)) (m.getD k (0,0))<0:=λh1=>y.lt CN (by omega) (by omega) (by omega) λf=>by
               simp only[ACT,Of]at d;rcases d with h|h
               ·omega
               ·exact h f
              repeat'(first|exact trivial|refine eS rfl ?_|refine AB ?_|refine rX c ?_ ?_)
              refine AK (ι:={z:Nat//a<=z/\z<=j/\k<=z+1/\PtI CF (0,0) a b k z m}) (λs=>⟨[(0,.sr 1000000 AU 0 l.length),(1,.p T3 (a:Int)),(4,.fn 192),(12,.p (.int .i64) (k:Int)),(13,.p (.int .i64) (s.1:Int))],[(1000000,.arr 106 AU m)]⟩) (λs=>s.1) ⟨j,u,NO _,U,L⟩ (AC [(1000000,.nm 1000000)] rfl rfl ?_ ?_) (λs=>?_)
              ·first|exact eN|refine eM ?_
              ·first|exact eN|refine eM ?_
              ·obtain⟨z,N,ab,Y,F⟩:=s;simp only at N ab Y F ⊢;clear d;repeat'(first|exact trivial|refine eS rfl ?_|refine AB ?_|refine rX c ?_ ?_)
               ·dsimp only[Ty.den];exact⟨λ_=>by omega,λ_=>by omega⟩
               ·refine Dm (by simp only[go_sem,Nat.reduceEqDiff,reduceCtorEq,Nat.reduceAdd,Nat.reduceSub,Nat.reduceMul,Nat.reduceLeDiff,Nat.reduceLT,Int.reduceLE,Int.reduceToNat,Int.reduceNeg,↓reduceIte];rfl) ?_ ?_
                ·intro d;simp only[AT,Fj,SZ,Of]at d;obtain⟨h1,f⟩:=d;have f:=y.lt CN (i:=z) (j:=a) (by omega) (by omega) (by omega) f;repeat'(first|exact trivial|refine eS rfl ?_|refine AB ?_|refine rX c ?_ ?_)
                 ·exact CY
                 ·refine⟨⟨z-1,by omega,by omega,by omega,⟨F.lo,λx G H=>?_⟩⟩,by simp only;omega,AC [(1000000,.nm 1000000)] rfl rfl ?_ ?_⟩
                  ·by_cases e:x=z
                   ·rw[e];exact f
                   ·exact F.hi x (by omega) H
                  ·first|exact eN|refine eM ?_
                  ·simp only;rw[show ((z-1:Nat):Int)=(z:Int)-1 by omega];first|exact eN|refine eM ?_
                ·intro d;have B:k<=z->CF (m.getD z (0,0)) (m.getD a (0,0))<0:=λh1=>by
                  simp only[ACT,Of,ADf,Fj]at d;rcases d with h|h
                  ·omega
                  ·exact h
                 repeat'(first|exact trivial|refine eS rfl ?_|refine AB ?_|refine rX c ?_ ?_)
                 refine rC ?_ ?_<;>intro D
                 ·have Q:k=z+1:=by omega
                  subst Q;have o:ED (0,0) a b m (CX (0,0) m z a):=ED.swap m N (by omega) (NO _) (by omega) (by omega);have n:CX (0,0) m z a=(m.set z (m.getD a (0,0))).set a (m.getD z (0,0)):=rfl;repeat'(first|exact trivial|refine eS rfl ?_|refine AB ?_|refine rP c ?_ ?_|fail)
                  (refine Cc drawsAny c 14 [([0,1,4,5,6,7,8,9,10,11,12],13)] [2,3] (by kernel_rfl) (Nk ?_ ?_);(next=>exact CY);refine PY c [] ?_ ?_;(next=>exact CY);refine Tw c ?_ ?_ ?_;(next=>exact CY);(next=>exact CY))
                  rw[<-n];repeat'(first|exact trivial|refine eS rfl ?_|refine AB ?_|refine rX c ?_ ?_|refine rC ?_ ?_<;>intro D<;>try(cases D;done))
                  exact fM c [.tmp 10,.tmp 11] (.tup [.p T3 (z:Int),.p .bool false]) eT ⟨z,false,_,rfl,rfl,g.trans o,wM F N (by omega) (by omega)⟩
                 ·have Z:k≠z:=λe=>by
                   have S:=A (by omega);have af:=B (by omega);rw[e,CN.anti]at S;omega
                  have P:k<z:=by omega
                  have o:ED (0,0) a b m (CX (0,0) m k z):=ED.swap m (by omega) (by omega) N (by omega) (by omega);have n:CX (0,0) m k z=(m.set k (m.getD z (0,0))).set z (m.getD k (0,0)):=rfl;have M:=oB F T P (by omega) (by omega) (A (by omega)) (B (by omega));repeat'(first|exact trivial|refine eS rfl ?_|refine AB ?_|refine rP c ?_ ?_|fail)
                  (refine Cc drawsAny c 14 [([0,1,4,5,6,7,8,9,10,11,12],13)] [2,3] (by kernel_rfl) (Nk ?_ ?_);(next=>exact CY);refine PY c [] ?_ ?_;(next=>exact CY);refine Tw c ?_ ?_ ?_;(next=>exact CY);(next=>exact CY))
                  rw[<-n];repeat'(first|exact trivial|refine eS rfl ?_|refine AB ?_|refine rX c ?_ ?_)
                  ·exact CY
                  ·exact CY
                  ·refine⟨⟨(k+1,z-1,CX (0,0) m k z),by simp only;omega,by simp only;omega,g.trans o,M⟩,by simp only;omega,AC [(1000000,.nm 1000000)] rfl rfl ?_ ?_⟩
                   ·first|exact eN|refine eM ?_
                   ·simp only;rw[show ((z-1:Nat):Int)=(z:Int)-1 by omega];first|exact eN|refine eM ?_
end
section
attribute [local go_sem] Cy
theorem A6J (l:List (Int×Int)) (am:l.length<=100000) (L:pY CF (0,0) l) (a b:Nat) (ak:a<b) (al:b<=l.length) (U:Bf CF (0,0) a b l):BI Tryz.prog 237 [.sr 1000000 AU 0 l.length,.p T3 (a:Int),.p T3 (b:Int),.fn 192] [(1000000,.arr 106 AU l)] [1000000] (λres aj=>∃(w:Bool) (r:List (Int×Int)),res=.p .bool w/\aj=[(1000000,.arr 106 AU r)]/\ED (0,0) a b l r/\(w=true->R8 CF (0,0) a b r)):=by
 refine K0 [0,1,2,3,8,9,10,11,12,16,36,41,45,65,69,84,104,109,124] [] [] Tryz.func237 Tryz.ntmps237 (AF FD AG) ?_;intro w0 K O0 ρ0 f an ao;simp only[Am];repeat'(first|exact trivial|refine eS rfl ?_|refine AB ?_|refine rX f ?_ ?_|refine rC ?_ ?_<;>intro q<;>try(cases q;done))
 ·exact CY
 ·refine AK (ι:={s:Nat×Nat×List (Int×Int)//(a+1<=s.1/\s.1<=b)/\s.2.1<=5/\ED (0,0) a b l s.2.2/\R8 CF (0,0) a s.1 s.2.2}) (λs=>⟨[(0,.sr 1000000 AU 0 l.length),(1,.p T3 (a:Int)),(2,.p T3 (b:Int)),(3,.fn 192),(9,.p (.int .i64) (s.1.1:Int)),(10,.p (.int .i64) (s.1.2.1:Int))],[(1000000,.arr 106 AU s.1.2.2)]⟩) (λs=>5-s.1.2.1) ⟨(a+1,0,l),by simp only;omega,IN _,ED.refl a b l,cK a l⟩ (AC [(1000000,.nm 1000000)] rfl rfl ?_ ?_) (λs=>?_)
  ·first|exact eN|refine eM ?_
  ·first|exact eN|refine eM ?_
  ·obtain⟨⟨i,t,m⟩,⟨ab,N⟩,ai,u,Q⟩:=s;simp only at ab N ai u Q ⊢;have P:=L.perm CN u.perm;have ah:=u.len;repeat'(first|exact trivial|refine eS rfl ?_|refine AB ?_|refine rX f ?_ ?_)
   refine rC ?_ ?_<;>intro q
   ·repeat'(first|exact trivial|refine eS rfl ?_|refine AB ?_|refine rX f ?_ ?_)
    refine AK (ι:={k:Nat//i<=k/\k<=b/\R8 CF (0,0) a k m}) (λs=>⟨[(0,.sr 1000000 AU 0 l.length),(1,.p T3 (a:Int)),(2,.p T3 (b:Int)),(3,.fn 192),(9,.p (.int .i64) (s.1:Int)),(10,.p (.int .i64) (t:Int))],[(1000000,.arr 106 AU m)]⟩) (λs=>b-s.1) ⟨i,NO _,N,Q⟩ (AC [(1000000,.nm 1000000)] rfl rfl ?_ ?_) (λs=>?_)
    ·first|exact eN|refine eM ?_
    ·first|exact eN|refine eM ?_
    ·obtain⟨k,ae,af,F⟩:=s;simp only at ae af F ⊢;have J:((k:Int)-1).toNat=k-1:=by omega
     repeat'(first|exact trivial|refine eS rfl ?_|refine AB ?_|refine rX f ?_ ?_)
     ·dsimp only[Ty.den];exact⟨λ_=>by omega,λ_=>by omega,λ_=>by omega⟩
     ·refine Dm (by simp only[go_sem,Nat.reduceEqDiff,reduceCtorEq,Nat.reduceAdd,Nat.reduceSub,Nat.reduceMul,Nat.reduceLeDiff,Nat.reduceLT,Int.reduceLE,Int.reduceToNat,Int.reduceNeg,↓reduceIte];rfl) ?_ ?_
      ·intro g;simp only[AT,Fj,SZ,Of]at g;obtain⟨h1,z⟩:=g;rw[J]at z;have z:=P.lt CN (i:=k) (j:=k-1) (by omega) (by omega) (by omega) z;repeat'(first|exact trivial|refine eS rfl ?_|refine AB ?_|refine rX f ?_ ?_)
       ·exact CY
       ·refine⟨⟨k+1,by omega,by omega,A49 CN F (by omega) z⟩,by simp only;omega,AC [(1000000,.nm 1000000)] rfl rfl ?_ ?_⟩
        ·first|exact eN|refine eM ?_
        ·first|exact eN|refine eM ?_
      ·intro g;clear g;repeat'(first|exact trivial|refine eS rfl ?_|refine AB ?_|refine rX f ?_ ?_)
       refine rC (λZ=>?_) (λZ=>?_)
       ·have O:k=b:=by omega
        subst O;repeat'(first|exact trivial|refine eS rfl ?_|refine AB ?_|refine rX f ?_ ?_|refine rC ?_ ?_<;>intro q<;>try(cases q;done))
        exact fM f [.tmp 8] (.p .bool true) eT ⟨true,m,rfl,rfl,u,λ_=>F⟩
       ·have O:k<b:=by omega
        repeat'(first|exact trivial|refine eS rfl ?_|refine AB ?_|refine rX f ?_ ?_)
        ·exact CY
        ·refine rC (λaa=>?_) (λaa=>?_)
         ·repeat'(first|exact trivial|refine eS rfl ?_|refine AB ?_|refine rX f ?_ ?_|refine rC ?_ ?_<;>intro q<;>try(cases q;done))
          exact fM f [.tmp 8] (.p .bool false) eT ⟨false,m,rfl,rfl,u,λh=>by cases h⟩
         ·have v:ED (0,0) a b m (CX (0,0) m k (k-1)):=ED.swap m (by omega) (by omega) (by omega) (by omega) (by omega);have B:CX (0,0) m k (k-1)=(m.set k (m.getD (k-1) (0,0))).set (k-1) (m.getD k (0,0)):=rfl;have R:sX CF (0,0) a (k-1) (k-1) (CX (0,0) m k (k-1)):=⟨λx y h0 h1 z S T=>by
           have M:=Iq (d:=(0,0)) (l:=m) (i:=k) (j:=k-1) (by omega) (by omega);rw[M x,M y,An S,An (show ¬x=k by omega),An T,An (show ¬y=k by omega)];exact F x y h0 h1 (by omega),λy h1 z=>by omega⟩
          repeat'(first|exact trivial|refine eS rfl ?_|refine AB ?_|refine rP f ?_ ?_|fail)
          (refine Cc drawsAny f 16 [([0,1,5,6,7,8,9,10,11,12,13,14],15)] [2,3,4] (by kernel_rfl) (Nk ?_ ?_);(next=>exact CY);refine PY f [] ?_ ?_;(next=>exact CY);refine Tw f ?_ ?_ ?_;(next=>exact CY);(next=>exact CY))
          rw[J,<-B];have I:=u.trans v;clear B v P ah;generalize CX (0,0) m k (k-1)=c0 at *;refine IM ?_;refine Px (ι:={c:List (Int×Int)//ED (0,0) a b l c/\R8 CF (0,0) a k c}) (λs=>⟨[(0,.sr 1000000 AU 0 l.length),(1,.p T3 (a:Int)),(2,.p T3 (b:Int)),(3,.fn 192),(9,.p (.int .i64) (k:Int)),(10,.p (.int .i64) (t:Int))],[(1000000,.arr 106 AU s.1)]⟩) ?_ (λs=>?_)
          ·repeat'(first|exact trivial|refine eS rfl ?_|refine AB ?_|refine rX f ?_ ?_)
           ·exact CY
           ·refine rC (λG=>?_) (λG=>?_)
            ·repeat'(first|exact trivial|refine eS rfl ?_|refine AB ?_|refine rX f ?_ ?_)
             ·exact CY
             ·rw[show (k:Int)-1=((k-1:Nat):Int) by omega];refine AK (ι:={s:Nat×List (Int×Int)//(a<=s.1/\s.1<=k-1)/\ED (0,0) a b l s.2/\sX CF (0,0) a (k-1) s.1 s.2}) (λs=>⟨[(0,.sr 1000000 AU 0 l.length),(1,.p T3 (a:Int)),(2,.p T3 (b:Int)),(3,.fn 192),(9,.p (.int .i64) (k:Int)),(10,.p (.int .i64) (t:Int)),(11,.p (.int .i64) (s.1.1:Int))],[(1000000,.arr 106 AU s.1.2)]⟩) (λs=>s.1.1) ⟨(k-1,c0),by simp only;omega,I,R⟩ (AC [(1000000,.nm 1000000)] rfl rfl ?_ ?_) (λs=>?_)
              ·first|exact eN|refine eM ?_
              ·first|exact eN|refine eM ?_
              ·obtain⟨⟨j,c⟩,⟨D,A⟩,n,o⟩:=s;simp only at D A n o ⊢;have X:=L.perm CN n.perm;have Y:=n.len;have C:((j:Int)-1).toNat=j-1:=by omega
               have V:=U.pin n;repeat'(first|exact trivial|refine eS rfl ?_|refine AB ?_|refine rX f ?_ ?_)
               refine rC (λH=>?_) (λH=>?_)
               ·repeat'(first|exact trivial|refine eS rfl ?_|refine AB ?_|refine rX f ?_ ?_)
                ·exact CY
                ·refine Dm (by simp only[go_sem,Nat.reduceEqDiff,reduceCtorEq,Nat.reduceAdd,Nat.reduceSub,Nat.reduceMul,Nat.reduceLeDiff,Nat.reduceLT,Int.reduceLE,Int.reduceToNat,Int.reduceNeg,↓reduceIte];rfl) ?_ ?_
                 ·intro g;simp only[SZ,Of]at g;rw[C]at g;have g:=X.lt CN (i:=j) (j:=j-1) (by omega) (by omega) (by omega) g;have E:=Wm CN o D A (.inr g);rw[show k-1+1=k by omega]at E;repeat'(first|exact trivial|refine eS rfl ?_|refine AB ?_|refine rX f ?_ ?_)
                  refine⟨⟨c,n,E⟩,AC [(1000000,.nm 1000000)] rfl rfl ?_ ?_⟩
                  ·first|exact eN|refine eM ?_
                  ·first|exact eN|refine eM ?_
                 ·intro g;simp only[ADf,Fj]at g;rw[C]at g;have g:CF (c.getD j (0,0)) (c.getD (j-1) (0,0))<0:=g;have W:a<j:=by
                   refine DO λhn=>?_;have e:j=a:=by omega
                   subst e;rcases V with h|h
                   ·omega
                   ·have:=h j (NO _) (by omega);rw[CN.anti]at this;omega
                  have v:ED (0,0) a b c (CX (0,0) c j (j-1)):=ED.swap c (by omega) (by omega) (by omega) (by omega) (by omega);have B:CX (0,0) c j (j-1)=(c.set j (c.getD (j-1) (0,0))).set (j-1) (c.getD j (0,0)):=rfl;repeat'(first|exact trivial|refine eS rfl ?_|refine AB ?_|refine rP f ?_ ?_|fail)
                  (refine Cc drawsAny f 16 [([0,1,5,6,7,8,9,10,11,12,13,14],15)] [2,3,4] (by kernel_rfl) (Nk ?_ ?_);(next=>exact CY);refine PY f [] ?_ ?_;(next=>exact CY);refine Tw f ?_ ?_ ?_;(next=>exact CY);(next=>exact CY))
                  rw[C,<-B];repeat'(first|exact trivial|refine eS rfl ?_|refine AB ?_|refine rX f ?_ ?_)
                  ·exact CY
                  ·refine⟨⟨(j-1,CX (0,0) c j (j-1)),by simp only;omega,n.trans v,ZT o W A (by omega) g⟩,by simp only;omega,AC [(1000000,.nm 1000000)] rfl rfl ?_ ?_⟩
                   ·first|exact eN|refine eM ?_
                   ·simp only;rw[show ((j-1:Nat):Int)=(j:Int)-1 by omega];first|exact eN|refine eM ?_
               ·have ad:j=a:=by omega
                have E:=Wm CN o D A (.inl ad);rw[show k-1+1=k by omega]at E;repeat'(first|exact trivial|refine eS rfl ?_|refine AB ?_|refine rX f ?_ ?_)
                refine⟨⟨c,n,E⟩,AC [(1000000,.nm 1000000)] rfl rfl ?_ ?_⟩
                ·first|exact eN|refine eM ?_
                ·first|exact eN|refine eM ?_
            ·have ag:k=a+1:=by omega
             repeat'(first|exact trivial|refine eS rfl ?_|refine AB ?_|refine rX f ?_ ?_)
             refine⟨⟨c0,I,by rw[ag];exact cK a c0⟩,AC [(1000000,.nm 1000000)] rfl rfl ?_ ?_⟩
             ·first|exact eN|refine eM ?_
             ·first|exact eN|refine eM ?_
          ·obtain⟨c,n,o⟩:=s;simp only;clear I R;repeat'(first|exact trivial|refine eS rfl ?_|refine AB ?_|refine rX f ?_ ?_)
           ·exact CY
           ·refine rC (λG=>?_) (λG=>?_)
            ·repeat'(first|exact trivial|refine eS rfl ?_|refine AB ?_|refine rX f ?_ ?_)
             ·exact CY
             ·rw[show (k:Int)+1=((k+1:Nat):Int) by omega];refine AK (ι:={s:Nat×List (Int×Int)//(k+1<=s.1/\s.1<=b)/\ED (0,0) a b l s.2/\R8 CF (0,0) a k s.2}) (λs=>⟨[(0,.sr 1000000 AU 0 l.length),(1,.p T3 (a:Int)),(2,.p T3 (b:Int)),(3,.fn 192),(9,.p (.int .i64) (k:Int)),(10,.p (.int .i64) (t:Int)),(12,.p (.int .i64) (s.1.1:Int))],[(1000000,.arr 106 AU s.1.2)]⟩) (λs=>b-s.1.1) ⟨(k+1,c),by simp only;omega,n,o⟩ (AC [(1000000,.nm 1000000)] rfl rfl ?_ ?_) (λs=>?_)
              ·first|exact eN|refine eM ?_
              ·first|exact eN|refine eM ?_
              ·clear n o;obtain⟨⟨j,c⟩,⟨D,A⟩,n,o⟩:=s;simp only at D A n o ⊢;have Y:=n.len;have C:((j:Int)-1).toNat=j-1:=by omega
               repeat'(first|exact trivial|refine eS rfl ?_|refine AB ?_|refine rX f ?_ ?_)
               refine rC (λH=>?_) (λH=>?_)
               ·repeat'(first|exact trivial|refine eS rfl ?_|refine AB ?_|refine rX f ?_ ?_)
                ·exact CY
                ·refine Dm (by simp only[go_sem,Nat.reduceEqDiff,reduceCtorEq,Nat.reduceAdd,Nat.reduceSub,Nat.reduceMul,Nat.reduceLeDiff,Nat.reduceLT,Int.reduceLE,Int.reduceToNat,Int.reduceNeg,↓reduceIte];rfl) ?_ ?_
                 ·intro g;clear g;repeat'(first|exact trivial|refine eS rfl ?_|refine AB ?_|refine rX f ?_ ?_)
                  ·exact CY
                  ·refine⟨⟨(k,t+1,c),by simp only;omega,by simp only;omega,n,o⟩,by simp only;omega,AC [(1000000,.nm 1000000)] rfl rfl ?_ ?_⟩
                   ·first|exact eN|refine eM ?_
                   ·first|exact eN|refine eM ?_
                 ·intro g;clear g;have v:ED (0,0) k b c (CX (0,0) c j (j-1)):=ED.swap c (by omega) (by omega) (by omega) (by omega) (by omega);have B:CX (0,0) c j (j-1)=(c.set j (c.getD (j-1) (0,0))).set (j-1) (c.getD j (0,0)):=rfl;repeat'(first|exact trivial|refine eS rfl ?_|refine AB ?_|refine rP f ?_ ?_|fail)
                  (refine Cc drawsAny f 16 [([0,1,5,6,7,8,9,10,11,12,13,14],15)] [2,3,4] (by kernel_rfl) (Nk ?_ ?_);(next=>exact CY);refine PY f [] ?_ ?_;(next=>exact CY);refine Tw f ?_ ?_ ?_;(next=>exact CY);(next=>exact CY))
                  rw[C,<-B];repeat'(first|exact trivial|refine eS rfl ?_|refine AB ?_|refine rX f ?_ ?_)
                  ·exact CY
                  ·refine⟨⟨(j+1,CX (0,0) c j (j-1)),by simp only;omega,n.trans (v.mono (by omega) (NO _)),NV o λx ap aq=>v.out x (by omega)⟩,by simp only;omega,AC [(1000000,.nm 1000000)] rfl rfl ?_ ?_⟩
                   ·first|exact eN|refine eM ?_
                   ·first|exact eN|refine eM ?_
               ·repeat'(first|exact trivial|refine eS rfl ?_|refine AB ?_|refine rX f ?_ ?_)
                ·exact CY
                ·refine⟨⟨(k,t+1,c),by simp only;omega,by simp only;omega,n,o⟩,by simp only;omega,AC [(1000000,.nm 1000000)] rfl rfl ?_ ?_⟩
                 ·first|exact eN|refine eM ?_
                 ·first|exact eN|refine eM ?_
            ·repeat'(first|exact trivial|refine eS rfl ?_|refine AB ?_|refine rX f ?_ ?_)
             ·exact CY
             ·refine⟨⟨(k,t+1,c),by simp only;omega,by simp only;omega,n,o⟩,by simp only;omega,AC [(1000000,.nm 1000000)] rfl rfl ?_ ?_⟩
              ·first|exact eN|refine eM ?_
              ·first|exact eN|refine eM ?_
   ·repeat'(first|exact trivial|refine eS rfl ?_|refine AB ?_|refine rX f ?_ ?_|refine rC ?_ ?_<;>intro q<;>try(cases q;done))
    exact fM f [.tmp 8] (.p .bool false) eT ⟨false,m,rfl,rfl,u,λh=>by cases h⟩
end
section
attribute [local go_sem] Cy
def Gj (l:List (Int×Int)) (s:Nat):List (Nat×Obj):=[(1000000,.arr 106 AU l),(70,.box 3 false [.p T3 (s:Int)])]
theorem Wn (l:List (Int×Int)) (a b s:Nat) (f:a<l.length) (g:b<l.length) (hs:s<=1000):BI Tryz.prog 251 [.sr 1000000 AU 0 l.length,.p T3 (a:Int),.p T3 (b:Int),.bp 70 [] 0,.fn 192] (Gj l s) [1000000,70] (λres e=>∃x y t:Nat,res=.tup [.p T3 (x:Int),.p T3 (y:Int)]/\e=Gj l t/\((x=a/\y=b)\/(x=b/\y=a))/\t<=s+1):=by
 refine K0 [0,1,2,3,4,10,11,22] [] [] Tryz.func251 Tryz.ntmps251 (AF FD AG) ?_;intro w0 K O0 ρ0 c h i;simp only[Am,Gj];repeat'(first|exact trivial|refine eS rfl ?_|refine AB ?_|refine rX c ?_ ?_|refine rC ?_ ?_<;>intro d<;>try(cases d;done))
 ·exact CY
 ·exact CY
 ·refine fM c [.tmp 10,.tmp 11] (.tup [.p T3 (b:Int),.p T3 (a:Int)]) eT ⟨b,a,s+1,rfl,?_,.inr ⟨rfl,rfl⟩,NO _⟩;rw[show ((s+1:Nat):Int)=(s:Int)+1 by omega]
 ·exact fM c [.tmp 10,.tmp 11] (.tup [.p T3 (a:Int),.p T3 (b:Int)]) eT ⟨a,b,s,rfl,rfl,.inl ⟨rfl,rfl⟩,by omega⟩
theorem cL (l:List (Int×Int)) (a b c s:Nat) (j:a<l.length) (k:b<l.length) (cl:c<l.length) (hs:s<=900):BI Tryz.prog 248 [.sr 1000000 AU 0 l.length,.p T3 (a:Int),.p T3 (b:Int),.p T3 (c:Int),.bp 70 [] 0,.fn 192] (Gj l s) [1000000,70] (λres m=>∃x t:Nat,res=.p T3 (x:Int)/\m=Gj l t/\(x=a\/x=b\/x=c)/\t<=s+3):=by
 refine K0 [0,1,2,3,4,5,12] [] [] Tryz.func248 Tryz.ntmps248 AG ?_;intro w0 K O0 ρ0 d q r;simp only[Am,Gj];repeat'(first|exact trivial|refine eS rfl ?_|refine AB ?_|refine rX d ?_ ?_|refine rC ?_ ?_<;>intro e<;>try(cases e;done))
 refine cP 5 d ?_ ?_
 ·trivial
 ·refine rM d (Wn l a b s j k (by omega)) [(1000000,.nm 1000000),(70,.nm 70)] [] ?_ ?_ ?_
  ·first|exact eN|refine eM ?_
  ·simp only[Gj];first|exact eN|refine eM ?_
  ·rintro _ _ ⟨g,b1,s1,rfl,rfl,h1,u⟩;refine⟨[(1000000,.nm 1000000),(70,.nm 70)],.tup [.p T3 (g:Int),.p T3 (b1:Int)],[(1000000,.arr 106 AU l),(70,.box 3 false [.p T3 (s1:Int)])],rfl,rfl,?_,?_,rfl,rfl,?_⟩
   ·simp only[Gj];first|exact eN|refine eM ?_
   ·first|exact eN|refine eM ?_
   ·refine rL d ?_ ?_
    ·trivial
    ·repeat'(first|exact trivial|refine eS rfl ?_|refine AB ?_|refine rX d ?_ ?_|refine rC ?_ ?_<;>intro e<;>try(cases e;done))
     refine cP 5 d ?_ ?_
     ·trivial
     ·refine rM d (Wn l b1 c s1 (by omega) cl (by omega)) [(1000000,.nm 1000000),(70,.nm 70)] [] ?_ ?_ ?_
      ·first|exact eN|refine eM ?_
      ·simp only[Gj];first|exact eN|refine eM ?_
      ·rintro _ _ ⟨b2,c2,s2,rfl,rfl,n,v⟩;refine⟨[(1000000,.nm 1000000),(70,.nm 70)],.tup [.p T3 (b2:Int),.p T3 (c2:Int)],[(1000000,.arr 106 AU l),(70,.box 3 false [.p T3 (s2:Int)])],rfl,rfl,?_,?_,rfl,rfl,?_⟩
       ·simp only[Gj];first|exact eN|refine eM ?_
       ·first|exact eN|refine eM ?_
       ·refine rL d ?_ ?_
        ·trivial
        ·repeat'(first|exact trivial|refine eS rfl ?_|refine AB ?_|refine rX d ?_ ?_|refine rC ?_ ?_<;>intro e<;>try(cases e;done))
         refine cP 5 d ?_ ?_
         ·trivial
         ·refine rM d (Wn l g b2 s2 (by omega) (by omega) (by omega)) [(1000000,.nm 1000000),(70,.nm 70)] [] ?_ ?_ ?_
          ·first|exact eN|refine eM ?_
          ·simp only[Gj];first|exact eN|refine eM ?_
          ·rintro _ _ ⟨i,f,h,rfl,rfl,o,w⟩;refine⟨[(1000000,.nm 1000000),(70,.nm 70)],.tup [.p T3 (i:Int),.p T3 (f:Int)],[(1000000,.arr 106 AU l),(70,.box 3 false [.p T3 (h:Int)])],rfl,rfl,?_,?_,rfl,rfl,?_⟩
           ·simp only[Gj];first|exact eN|refine eM ?_
           ·first|exact eN|refine eM ?_
           ·refine rL d ?_ ?_
            ·trivial
            ·repeat'(first|exact trivial|refine eS rfl ?_|refine AB ?_|refine rX d ?_ ?_|refine rC ?_ ?_<;>intro e<;>try(cases e;done))
             exact fM d [.tmp 12] (.p T3 (f:Int)) eT ⟨f,h,rfl,rfl,by omega,by omega⟩
theorem cM (l:List (Int×Int)) (b s:Nat) (g:1<=b) (d:b+1<l.length) (h:l.length<=100000) (hs:s<=900):BI Tryz.prog 247 [.sr 1000000 AU 0 l.length,.p T3 (b:Int),.bp 70 [] 0,.fn 192] (Gj l s) [1000000,70] (λres f=>∃x t:Nat,res=.p T3 (x:Int)/\f=Gj l t/\(b-1<=x/\x<=b+1)/\t<=s+3):=by
 refine K0 [0,1,2,3,8] [] [] Tryz.func247 Tryz.ntmps247 AG ?_;intro w0 K O0 ρ0 a i j;simp only[Am,Gj];have key:=cL l (b-1) b (b+1) s (by omega) (by omega) d hs;rw[show ((b-1:Nat):Int)=(b:Int)-1 by omega,show ((b+1:Nat):Int)=(b:Int)+1 by omega]at key;repeat'(first|exact trivial|refine eS rfl ?_|refine AB ?_|refine rX a ?_ ?_|refine rC ?_ ?_<;>intro c<;>try(cases c;done))
 refine cP 8 a ?_ ?_
 ·exact CY
 ·refine rM a (key) [(1000000,.nm 1000000),(70,.nm 70)] [] ?_ ?_ ?_
  ·first|exact eN|refine eM ?_
  ·simp only[Gj];first|exact eN|refine eM ?_
  ·rintro _ _ ⟨x,t,rfl,rfl,k,e⟩;refine⟨[(1000000,.nm 1000000),(70,.nm 70)],.p T3 (x:Int),[(1000000,.arr 106 AU l),(70,.box 3 false [.p T3 (t:Int)])],rfl,rfl,?_,?_,rfl,rfl,?_⟩
   ·simp only[Gj];first|exact eN|refine eM ?_
   ·first|exact eN|refine eM ?_
   ·refine rL a ?_ ?_
    ·trivial
    ·repeat'(first|exact trivial|refine eS rfl ?_|refine AB ?_|refine rX a ?_ ?_|refine rC ?_ ?_<;>intro c<;>try(cases c;done))
     exact fM a [.tmp 8] (.p T3 (x:Int)) eT ⟨x,t,rfl,rfl,by omega,e⟩
theorem A6K (l:List (Int×Int)) (i:l.length<=100000) (a b:Nat) (z:a+13<=b) (A:b<=l.length):BI Tryz.prog 235 [.sr 1000000 AU 0 l.length,.p T3 (a:Int),.p T3 (b:Int),.fn 192] [(1000000,.arr 106 AU l)] [1000000] (λres y=>∃(j:Nat) (h:Int),res=.tup [.p T3 (j:Int),.p T3 h]/\y=[(1000000,.arr 106 AU l)]/\a<=j/\j<b):=by
 refine K0 [0,1,2,3,8,9,10,11,12,13,14,34,36,55,57,60] [] [] Tryz.func235 Tryz.ntmps235 AG ?_;intro w0 K O0 ρ0 c B C;simp only[Am];obtain⟨t,v⟩:∃t,t=(b-a) / 4:=⟨_,rfl⟩;have et:((b:Int)-(a:Int)).tdiv 4=(t:Int):=by
  rw[oR (by omega)];omega
 have G:4*t<=b-a:=by omega
 have H:3<=t:=by omega
 clear v
 (refine eS rfl ?_;refine rX c ?_ ?_;(next=>first|exact trivial|exact CY))
 (refine eS rfl ?_;refine rX c ?_ ?_;(next=>first|exact trivial|exact CY))
 (refine eS rfl ?_;refine rX c ?_ ?_;(next=>first|exact trivial|exact CY))
 (refine eS rfl ?_;refine rX c ?_ ?_;(next=>first|exact trivial|exact CY|(rw[et];refine⟨⟨by decide,?_⟩,?_,?_⟩<;>omega)))
 (refine eS rfl ?_;refine rX c ?_ ?_;(next=>first|exact trivial|exact CY|(rw[et];refine⟨⟨by decide,?_⟩,?_,?_⟩<;>omega)))
 (refine eS rfl ?_;refine rX c ?_ ?_;(next=>first|exact trivial|exact CY|(rw[et];refine⟨⟨by decide,?_⟩,?_,?_⟩<;>omega)))
 rw[et,show (a:Int)+(t:Int)*1=((a+t:Nat):Int) by omega,show (a:Int)+(t:Int)*2=((a+t*2:Nat):Int) by omega,show (a:Int)+(t:Int)*3=((a+t*3:Nat):Int) by omega];refine IM ?_;refine Px (ι:={x:Nat×Nat//a<=x.1/\x.1<b}) (λx=>⟨[(11,.bp 11 [] 0),(13,.p T3 (x.1.1:Int))],[(1000000,.arr 106 AU l),(11,.box 3 false [.p T3 (x.1.2:Int)])]⟩) ?_ (λx=>?_)
 ·repeat'(first|exact trivial|refine eS rfl ?_|refine AB ?_|refine rX c ?_ ?_)
  refine rC ?_ ?_<;>intro k
  ·repeat'(first|exact trivial|refine eS rfl ?_|refine AB ?_|refine rX c ?_ ?_)
   refine rC (λr=>?_) (λr=>?_)
   ·repeat'(first|exact trivial|refine eS rfl ?_|refine AB ?_|refine rP c ?_ ?_|fail)
    refine cP 3 c ?_ ?_
    ·trivial
    ·refine rM c (cM l (a+t) 0 (by omega) (by omega) i (by omega)) [(1000000,.nm 1000000),(70,.nm 11)] [] ?_ ?_ ?_
     ·first|exact eN|refine eM ?_
     ·simp only[Gj];first|exact eN|refine eM ?_
     ·rintro _ _ ⟨n,s1,rfl,rfl,I,D⟩;refine⟨[(1000000,.nm 1000000),(11,.nm 70)],.p T3 (n:Int),[(1000000,.arr 106 AU l),(11,.box 3 false [.p T3 (s1:Int)])],rfl,rfl,?_,?_,rfl,rfl,?_⟩
      ·simp only[Gj];first|exact eN|refine eM ?_
      ·first|exact eN|refine eM ?_
      ·refine rL c ?_ ?_
       ·trivial
       ·repeat'(first|exact trivial|refine eS rfl ?_|refine AB ?_|refine rX c ?_ ?_)
        refine cP 3 c ?_ ?_
        ·trivial
        ·refine rM c (cM l (a+t*2) s1 (by omega) (by omega) i (by omega)) [(1000000,.nm 1000000),(70,.nm 11)] [] ?_ ?_ ?_
         ·first|exact eN|refine eM ?_
         ·simp only[Gj];first|exact eN|refine eM ?_
         ·rintro _ _ ⟨o,s2,rfl,rfl,J,E⟩;refine⟨[(1000000,.nm 1000000),(11,.nm 70)],.p T3 (o:Int),[(1000000,.arr 106 AU l),(11,.box 3 false [.p T3 (s2:Int)])],rfl,rfl,?_,?_,rfl,rfl,?_⟩
          ·simp only[Gj];first|exact eN|refine eM ?_
          ·first|exact eN|refine eM ?_
          ·refine rL c ?_ ?_
           ·trivial
           ·repeat'(first|exact trivial|refine eS rfl ?_|refine AB ?_|refine rX c ?_ ?_)
            refine cP 3 c ?_ ?_
            ·trivial
            ·refine rM c (cM l (a+t*3) s2 (by omega) (by omega) i (by omega)) [(1000000,.nm 1000000),(70,.nm 11)] [] ?_ ?_ ?_
             ·first|exact eN|refine eM ?_
             ·simp only[Gj];first|exact eN|refine eM ?_
             ·rintro _ _ ⟨q,m,rfl,rfl,L,F⟩;refine⟨[(1000000,.nm 1000000),(11,.nm 70)],.p T3 (q:Int),[(1000000,.arr 106 AU l),(11,.box 3 false [.p T3 (m:Int)])],rfl,rfl,?_,?_,rfl,rfl,?_⟩
              ·simp only[Gj];first|exact eN|refine eM ?_
              ·first|exact eN|refine eM ?_
              ·refine rL c ?_ ?_
               ·trivial
               ·repeat'(first|exact trivial|refine eS rfl ?_|refine AB ?_|refine rX c ?_ ?_)
                refine cP 5 c ?_ ?_
                ·trivial
                ·refine rM c (cL l (n) (o) (q) m (by omega) (by omega) (by omega) (by omega)) [(1000000,.nm 1000000),(70,.nm 11)] [] ?_ ?_ ?_
                 ·first|exact eN|refine eM ?_
                 ·simp only[Gj];first|exact eN|refine eM ?_
                 ·rintro _ _ ⟨e,d,rfl,rfl,w,u⟩;refine⟨[(1000000,.nm 1000000),(11,.nm 70)],.p T3 (e:Int),[(1000000,.arr 106 AU l),(11,.box 3 false [.p T3 (d:Int)])],rfl,rfl,?_,?_,rfl,rfl,?_⟩
                  ·simp only[Gj];first|exact eN|refine eM ?_
                  ·first|exact eN|refine eM ?_
                  ·refine rL c ?_ ?_
                   ·trivial
                   ·repeat'(first|exact trivial|refine eS rfl ?_|refine AB ?_|refine rX c ?_ ?_)
                    refine⟨⟨(e,d),by simp only;omega,by simp only;omega⟩,AC [(1000000,.nm 1000000),(11,.nm 11)] rfl rfl ?_ ?_⟩
                    ·first|exact eN|refine eM ?_
                    ·first|exact eN|refine eM ?_
   ·repeat'(first|exact trivial|refine eS rfl ?_|refine AB ?_|refine rP c ?_ ?_|fail)
    refine cP 5 c ?_ ?_
    ·trivial
    ·refine rM c (cL l (a+t) (a+t*2) (a+t*3) 0 (by omega) (by omega) (by omega) (by omega)) [(1000000,.nm 1000000),(70,.nm 11)] [] ?_ ?_ ?_
     ·first|exact eN|refine eM ?_
     ·simp only[Gj];first|exact eN|refine eM ?_
     ·rintro _ _ ⟨e,d,rfl,rfl,w,u⟩;refine⟨[(1000000,.nm 1000000),(11,.nm 70)],.p T3 (e:Int),[(1000000,.arr 106 AU l),(11,.box 3 false [.p T3 (d:Int)])],rfl,rfl,?_,?_,rfl,rfl,?_⟩
      ·simp only[Gj];first|exact eN|refine eM ?_
      ·first|exact eN|refine eM ?_
      ·refine rL c ?_ ?_
       ·trivial
       ·repeat'(first|exact trivial|refine eS rfl ?_|refine AB ?_|refine rX c ?_ ?_)
        refine⟨⟨(e,d),by simp only;omega,by simp only;omega⟩,AC [(1000000,.nm 1000000),(11,.nm 11)] rfl rfl ?_ ?_⟩
        ·first|exact eN|refine eM ?_
        ·first|exact eN|refine eM ?_
  ·exfalso;omega
 ·obtain⟨⟨j,s⟩,f,g⟩:=x;simp only at f g ⊢;repeat'(first|exact trivial|refine eS rfl ?_|refine AB ?_|refine rX c ?_ ?_|refine rC ?_ ?_<;>intro k<;>try(cases k;done))
  ·refine Ev.ent (σ':=⟨[(8,.p T3 (j:Int)),(9,.p T3 (1:Int))],[(1000000,.arr 106 AU l)]⟩) ?_ (AC [(1000000,.nm 1000000)] rfl rfl ?_ ?_)
   ·exact fM c [.tmp 8,.tmp 9] (.tup [.p T3 (j:Int),.p T3 (1:Int)]) eT ⟨j,1,rfl,rfl,f,g⟩
   ·first|exact eN|refine eM ?_
   ·first|exact eN|refine eM ?_
  ·refine Ev.ent (σ':=⟨[(8,.p T3 (j:Int)),(9,.p T3 (2:Int))],[(1000000,.arr 106 AU l)]⟩) ?_ (AC [(1000000,.nm 1000000)] rfl rfl ?_ ?_)
   ·exact fM c [.tmp 8,.tmp 9] (.tup [.p T3 (j:Int),.p T3 (2:Int)]) eT ⟨j,2,rfl,rfl,f,g⟩
   ·first|exact eN|refine eM ?_
   ·first|exact eN|refine eM ?_
  ·refine Ev.ent (σ':=⟨[(8,.p T3 (j:Int)),(9,.p T3 (0:Int))],[(1000000,.arr 106 AU l)]⟩) ?_ (AC [(1000000,.nm 1000000)] rfl rfl ?_ ?_)
   ·exact fM c [.tmp 8,.tmp 9] (.tup [.p T3 (j:Int),.p T3 (0:Int)]) eT ⟨j,0,rfl,rfl,f,g⟩
   ·first|exact eN|refine eM ?_
   ·first|exact eN|refine eM ?_
end
theorem A6L (x y:Int) (h0:0<=y) (h1:y<4611686018427387904):0<=CA .and .u64 x y/\CA .and .u64 x y<=y:=by
 have e:(IntKind.u64).bits=64:=rfl;have a:(BitVec.ofInt 64 y).toNat=y.toNat:=by
  rw[BitVec.toNat_ofInt];omega
 have d:(BitVec.ofInt 64 x &&& BitVec.ofInt 64 y).toNat<=y.toNat:=by
  rw[BitVec.toNat_and,a];exact Nat.and_le_right
 have b:CA .and .u64 x y=IntKind.u64.wrap (((BitVec.ofInt 64 x &&& BitVec.ofInt 64 y).toNat:Nat):Int):=rfl;rw[b];generalize (BitVec.ofInt 64 x &&& BitVec.ofInt 64 y).toNat=z at *;have c:IntKind.u64.wrap (z:Int)=(z:Int):=by
  have f:(z:Int)<18446744073709551616:=by omega
  have:IntKind.u64.wrap (z:Int)=(z:Int) % 18446744073709551616:=by
   first|rfl|(simp[IntKind.wrap];done)
  rw[this];omega
 rw[c];omega
theorem ACs (z:Int):0<=IntKind.u64.wrap z/\IntKind.u64.wrap z<=18446744073709551615:=by
 have:IntKind.u64.wrap z=z % 18446744073709551616:=by
  first|rfl|(simp[IntKind.wrap];done)
 omega
theorem oD (x y:Int):0<=CA .xor .u64 x y/\CA .xor .u64 x y<=18446744073709551615:=ACs _
theorem A4d {x:Int} (h0:0<=x) (h1:x<=18446744073709551615):0<=X4 .u64 x 7/\X4 .u64 x 7<=18446744073709551615:=by
 show 0<=x.fdiv 128/\x.fdiv 128<=18446744073709551615;rw[Int.fdiv_eq_ediv_of_nonneg _ (by decide)];omega
theorem z7 (x:Int) (h0:0<=x) (h1:x<256):BI Tryz.prog 241 [.p (.int .u64) x] [] [] (λres f=>(∃n:Nat,res=.p T3 (n:Int)/\n<=8/\(1<=x.toNat->x.toNat<2 ^ n/\2 ^ n<=2*x.toNat))/\f=[]):=by
 refine K0 [0,2,4,8,14] [] [] Tryz.func241 Tryz.ntmps241 AG ?_;intro w0 K O0 ρ0 a g h;simp only[Am];repeat'(first|exact trivial|refine eS rfl ?_|refine rX a ?_ ?_|refine rC ?_ ?_<;>intro b<;>try(cases b;done))
 all_goals first|(exfalso;omega)|skip
 refine MJ [0,2] a rfl (by simp only[go_sem,Nat.reduceEqDiff,reduceCtorEq,Nat.reduceAdd,Nat.reduceSub,Nat.reduceMul,Nat.reduceLeDiff,Nat.reduceLT,Int.reduceLE,Int.reduceToNat,Int.reduceNeg,↓reduceIte,ByteArray.size,List.size_toArray,AP];rfl) ?_ ?_
 ·have hu:∀u:UInt8,((u.toNat:Nat):Int)<=255:=λu=>by have:=u.toNat_lt;omega
  have c:0<=x:=by omega
  refine⟨⟨c,by omega⟩,⟨c,?_⟩,⟨?_,?_⟩,?_,?_⟩
  ·have d:x<((256:Nat):Int):=h1;exact d
  ·exact ADy (by decide) (oF _)
  ·exact ADy (hu _) (by decide)
  ·rw[Int.zero_add];exact ADy (by decide) (oF _)
  ·rw[Int.zero_add];exact ADy (hu _) (by decide)
 ·repeat' refine eS rfl ?_
  refine fM a [.tmp 2] (.p T3 _) (by simp only[TD,yM,Rg,Yi,Jn,Kq,Jo,go_sem,Nat.reduceEqDiff,reduceCtorEq,Nat.reduceAdd,Nat.reduceSub,Nat.reduceMul,Nat.reduceLeDiff,Nat.reduceLT,Int.reduceLE,Int.reduceToNat,Int.reduceNeg,↓reduceIte];rfl) ⟨⟨_,by rw[Int.zero_add],?_⟩,rfl⟩;have e:x.toNat<256:=by omega
  generalize x.toNat=k at *;clear b;revert e;revert k;decide
theorem wN (x:Int) (h0:0<=x) (h1:x<256):BI Tryz.prog 230 [.p (.int .u64) x] [] [] (λres d=>(∃n:Nat,res=.p T3 (n:Int)/\n<=8/\(1<=x.toNat->x.toNat<2 ^ n/\2 ^ n<=2*x.toNat))/\d=[]):=by
 refine K0 [0,2] [] [] Tryz.func230 Tryz.ntmps230 AG ?_;intro w0 K O0 ρ0 a e f;simp only[Am];repeat'(first|exact trivial|refine eS rfl ?_|refine rX a ?_ ?_|refine rC ?_ ?_<;>intro b<;>try(cases b;done))
 refine cP 1 a ?_ ?_
 ·trivial
 ·refine rM a (z7 x h0 h1) [] [] ?_ ?_ ?_
  ·exact eN
  ·exact eN
  ·rintro _ _ ⟨⟨n,rfl,c⟩,rfl⟩;refine⟨[],.p T3 (n:Int),[],rfl,rfl,?_,?_,rfl,rfl,?_⟩
   ·exact eN
   ·exact eN
   ·refine rL a ?_ ?_
    ·trivial
    ·repeat' refine eS rfl ?_
     exact fM a [.tmp 2] (.p T3 (n:Int)) eT ⟨⟨n,rfl,c⟩,rfl⟩
theorem A6M (x:Int) (h0:1<=x) (h1:x<256):BI Tryz.prog 245 [.p T3 x] [] [] (λres f=>(∃m:Nat,res=.p (.int .u64) (m:Int)/\x.toNat<m/\m<=2*x.toNat)/\f=[]):=by
 refine K0 [0,2] [] [] Tryz.func245 Tryz.ntmps245 AG ?_;intro w0 K O0 ρ0 a h i;simp only[Am];repeat'(first|exact trivial|refine eS rfl ?_|refine rX a ?_ ?_)
 refine cP 2 a ?_ ?_
 ·exact CY
 ·refine rM a (wN x (by omega) h1) [] [] ?_ ?_ ?_
  ·exact eN
  ·exact eN
  ·rintro _ _ ⟨⟨n,rfl,g,d⟩,rfl⟩;obtain⟨b,c⟩:=d (by omega);refine⟨[],.p T3 (n:Int),[],rfl,rfl,?_,?_,rfl,rfl,?_⟩
   ·exact eN
   ·exact eN
   ·refine rL a ?_ ?_
    ·trivial
    ·have e:Tq .u64 1 (n:Int)=((2 ^ n:Nat):Int):=by
      clear b c;have:∀n:Fin 9,Tq .u64 1 ((n.val:Nat):Int)=((2 ^ n.val:Nat):Int):=by decide
      exact this ⟨n,by omega⟩
     rw[e];repeat' refine eS rfl ?_
     exact fM a [.tmp 2] (.p (.int .u64) ((2 ^ n:Nat):Int)) eT ⟨⟨_,rfl,b,c⟩,rfl⟩
theorem A6N (s:Int) (hs:0<=s/\s<=18446744073709551615):BI Tryz.prog 246 [.bp 70 [] 0] [(70,.box 263 false [.p (.int .u64) s])] [70] (λres b=>∃v:Int,(0<=v/\v<=18446744073709551615)/\res=.p (.int .u64) v/\b=[(70,.box 263 false [.p (.int .u64) v])]):=by
 refine K0 [0,2] [] [] Tryz.func246 Tryz.ntmps246 AG ?_;intro w0 K O0 ρ0 a c d;simp only[Am];repeat'(first|exact trivial|refine eS rfl ?_|refine rX a ?_ ?_)
 ·have:=oD s (Tq .u64 s 13);exact A4d this.1 this.2
 ·exact fM a [.tmp 2] (.p (.int .u64) _) eT ⟨_,oD _ _,rfl,rfl⟩
section
attribute [local go_sem] Cy
theorem A6O (l:List (Int×Int)) (J:l.length<256) (a b:Nat) (F:a+8<=b) (H:b<=l.length):BI Tryz.prog 234 [.sr 1000000 AU 0 l.length,.p T3 (a:Int),.p T3 (b:Int),.fn 192] [(1000000,.arr 106 AU l)] [1000000] (λres E=>res=.raw (.tuple #[])/\∃r,E=[(1000000,.arr 106 AU r)]/\ED (0,0) a b l r):=by
 refine K0 [0,1,2,8,9,10,11,12,17,35,45] [] [] Tryz.func234 Tryz.ntmps234 AG ?_;intro w0 K O0 ρ0 d L M;simp only[Am];obtain⟨n,hn⟩:∃n,b=a+n:=⟨b-a,by omega⟩;subst hn;have en:((a+n:Nat):Int)-(a:Int)=(n:Int):=by omega
 obtain⟨t,D⟩:∃t,t=n / 4:=⟨_,rfl⟩;have et:(n:Int).tdiv 4=(t:Int):=by
  rw[oR (by omega)];omega
 have N:4*t<=n:=by omega
 have O:2<=t:=by omega
 clear D
 (refine eS rfl ?_;refine rX d ?_ ?_;(next=>first|exact trivial|exact CY))
 rw[en];repeat'(first|exact trivial|refine eS rfl ?_|refine AB ?_|refine rX d ?_ ?_)
 refine rC ?_ ?_<;>intro j
 ·repeat'(first|exact trivial|refine eS rfl ?_|refine AB ?_|refine rX d ?_ ?_)
  ·exact CY
  ·refine cP 1 d ?_ ?_
   ·trivial
   ·refine rM d (A6M (n:Int) (by omega) (by omega)) [] [] ?_ ?_ ?_
    ·first|exact eN|refine eM ?_
    ·first|exact eN|refine eM ?_
    ·rintro _ _ ⟨⟨m,rfl,A,B⟩,rfl⟩;rw[Se]at A B;refine⟨[],.p (.int .u64) (m:Int),[],rfl,rfl,?_,?_,rfl,rfl,?_⟩
     ·first|exact eN|refine eM ?_
     ·first|exact eN|refine eM ?_
     ·refine rL d ?_ ?_
      ·trivial
      ·repeat'(first|exact trivial|refine eS rfl ?_|refine AB ?_|refine rX d ?_ ?_)
       ·rw[et];refine⟨⟨by decide,?_⟩,?_,?_,?_⟩<;>omega
       ·rw[et,show (a:Int)+(t:Int)*2-1=((a+t*2-1:Nat):Int) by omega];refine AK (ι:={s:Nat×Int×List (Int×Int)//(a<=s.1/\s.1<=a+t*2+2)/\(0<=s.2.1/\s.2.1<=18446744073709551615)/\ED (0,0) a (a+n) l s.2.2}) (λs=>⟨[(0,.sr 1000000 AU 0 l.length),(1,.p T3 (a:Int)),(8,.p (.int .i64) (n:Int)),(9,.bp 9 [] 0),(10,.p (.int .u64) (m:Int)),(11,.p (.int .i64) (s.1.1:Int))],[(1000000,.arr 106 AU s.1.2.2),(9,.box 263 false [.p (.int .u64) s.1.2.1])]⟩) (λs=>a+t*2+2-s.1.1) ⟨(a+t*2-1,(n:Int),l),by simp only;omega,by simp only;omega,ED.refl _ _ l⟩ (AC [(1000000,.nm 1000000),(9,.nm 9)] rfl rfl ?_ ?_) (λs=>?_)
        ·first|exact eN|refine eM ?_
        ·first|exact eN|refine eM ?_
        ·obtain⟨⟨i,x,c⟩,⟨y,z⟩,q,hp⟩:=s;simp only at y z q hp ⊢;have I:=hp.len;repeat'(first|exact trivial|refine eS rfl ?_|refine AB ?_|refine rX d ?_ ?_)
         ·rw[et];refine⟨⟨by decide,?_⟩,?_,?_,?_⟩<;>omega
         ·rw[et];refine rC (λu=>?_) (λu=>?_)
          ·refine eS rfl ?_;refine cP 0 d ?_ ?_
           ·trivial
           ·refine rM d (A6N x q) [(70,.nm 9)] [] ?_ ?_ ?_
            ·first|exact eN|refine eM ?_
            ·first|exact eN|refine eM ?_
            ·rintro _ _ ⟨v,k,rfl,rfl⟩;refine⟨[(9,.nm 70)],.p (.int .u64) v,[(9,.box 263 false [.p (.int .u64) v])],rfl,rfl,?_,?_,rfl,rfl,?_⟩
             ·first|exact eN|refine eM ?_
             ·first|exact eN|refine eM ?_
             ·have G:=A6L v ((m:Int)-1) (by omega) (by omega);refine rL d ?_ ?_
              ·exact⟨by omega,by omega⟩
              ·generalize CA .and .u64 v ((m:Int)-1)=r at *;repeat'(first|exact trivial|refine eS rfl ?_|refine AB ?_|refine rX d ?_ ?_)
               refine rC (λw=>?_) (λw=>?_)
               ·obtain⟨o,f⟩:∃o:Nat,r-(n:Int)=(o:Int):=⟨(r-(n:Int)).toNat,by omega⟩;have C:o<n:=by omega
                refine rX d ?_ ?_
                ·exact CY
                ·rw[f];have g:ED (0,0) a (a+n) c (CX (0,0) c i (a+o)):=ED.swap c (by omega) (by omega) (by omega) (by omega) (by omega);have h:CX (0,0) c i (a+o)=(c.set i (c.getD (a+o) (0,0))).set (a+o) (c.getD i (0,0)):=rfl;have e:((a:Int)+(o:Int)).toNat=a+o:=by omega
                 repeat'(first|exact trivial|refine eS rfl ?_|refine AB ?_|refine rP d ?_ ?_|fail)
                 (refine Cc drawsAny d 18 [([0,1,6,7,8,9,10,11,12,13,14,15,16],17)] [2,3,4,5] (by kernel_rfl) (Nk ?_ ?_);(next=>exact CY);refine PY d [] ?_ ?_;(next=>exact CY);refine Tw d ?_ ?_ ?_;(next=>exact CY);(next=>exact CY))
                 rw[e,<-h];repeat'(first|exact trivial|refine eS rfl ?_|refine AB ?_|refine rX d ?_ ?_)
                 ·exact CY
                 ·refine⟨⟨(i+1,v,CX (0,0) c i (a+o)),by simp only;omega,k,hp.trans g⟩,by simp only;omega,AC [(1000000,.nm 1000000),(9,.nm 9)] rfl rfl ?_ ?_⟩
                  ·first|exact eN|refine eM ?_
                  ·first|exact eN|refine eM ?_
               ·obtain⟨o,f⟩:∃o:Nat,r=(o:Int):=⟨r.toNat,by omega⟩;subst f;have C:o<n:=by omega
                have g:ED (0,0) a (a+n) c (CX (0,0) c i (a+o)):=ED.swap c (by omega) (by omega) (by omega) (by omega) (by omega);have h:CX (0,0) c i (a+o)=(c.set i (c.getD (a+o) (0,0))).set (a+o) (c.getD i (0,0)):=rfl;have e:((a:Int)+(o:Int)).toNat=a+o:=by omega
                repeat'(first|exact trivial|refine eS rfl ?_|refine AB ?_|refine rP d ?_ ?_|fail)
                (refine Cc drawsAny d 18 [([0,1,6,7,8,9,10,11,12,13,14,15,16],17)] [2,3,4,5] (by kernel_rfl) (Nk ?_ ?_);(next=>exact CY);refine PY d [] ?_ ?_;(next=>exact CY);refine Tw d ?_ ?_ ?_;(next=>exact CY);(next=>exact CY))
                rw[e,<-h];repeat'(first|exact trivial|refine eS rfl ?_|refine AB ?_|refine rX d ?_ ?_)
                ·exact CY
                ·refine⟨⟨(i+1,v,CX (0,0) c i (a+o)),by simp only;omega,k,hp.trans g⟩,by simp only;omega,AC [(1000000,.nm 1000000),(9,.nm 9)] rfl rfl ?_ ?_⟩
                 ·first|exact eN|refine eM ?_
                 ·first|exact eN|refine eM ?_
          ·repeat'(first|exact trivial|refine eS rfl ?_|refine AB ?_|refine rX d ?_ ?_|refine rC ?_ ?_<;>intro j<;>try(cases j;done))
           refine Ev.ent (σ':=⟨[],[(1000000,.arr 106 AU c)]⟩) ?_ (AC [(1000000,.nm 1000000)] rfl rfl ?_ ?_)
           ·exact fM d [] (.raw (.tuple #[])) rfl ⟨rfl,c,rfl,hp⟩
           ·first|exact eN|refine eM ?_
           ·first|exact eN|refine eM ?_
 ·exfalso;omega
end
section
attribute [local go_sem] Cy
def oE (l:List (Int×Int)) (a b c:Nat):Prop:=BI Tryz.prog 229 [.sr 1000000 AU 0 l.length,.p T3 (a:Int),.p T3 (b:Int),.p T3 (c:Int),.fn 192] [(1000000,.arr 106 AU l)] [1000000] (λres d=>res=.raw (.tuple #[])/\∃r,d=[(1000000,.arr 106 AU r)]/\ED (0,0) a b l r/\R8 CF (0,0) a b r)
theorem z8 (l:List (Int×Int)) (az:l.length<256) (aa:pY CF (0,0) l) (a b S:Nat) (ar:a<=b) (ay:b<=l.length) (av:S<=1000) (aq:Bf CF (0,0) a b l)
  (V:∀(l':List (Int×Int)),l'.length<256->pY CF (0,0) l'->∀J b' an:Nat,b'-J<b-a->J<=b'->b'<=l'.length->an<=1000->Bf CF (0,0) J b' l'->oE l' J b' an):oE l a b S:=by
 unfold oE;refine K0 [0,1,2,3,4,10,11,12,13,14,15,16,17,18,19,20,25,32,39,56,75,80,97,125] [] [] Tryz.func229 Tryz.ntmps229 (AF FD AG) ?_;intro w0 K O0 ρ0 c bb bc;simp only[Am];repeat'(first|exact trivial|refine eS rfl ?_|refine AB ?_|refine rX c ?_ ?_)
 refine AK (ι:={s:(Nat×Nat×Nat)×(Bool×Bool)×List (Int×Int)//z5 CF (0,0) a b s.1.1 s.1.2.1 s.2.2/\ED (0,0) a b l s.2.2/\Bf CF (0,0) s.1.1 s.1.2.1 s.2.2/\s.1.2.2<=1000}) (λs=>⟨[(0,.sr 1000000 AU 0 l.length),(1,.p T3 (s.1.1.1:Int)),(2,.p T3 (s.1.1.2.1:Int)),(3,.p T3 (s.1.1.2.2:Int)),(4,.fn 192),(10,.p .bool s.1.2.1.1),(11,.p .bool s.1.2.1.2)],[(1000000,.arr 106 AU s.1.2.2)]⟩) (λs=>s.1.1.2.1-s.1.1.1) ⟨((a,b,S),(true,true),l),z6 ar l,ED.refl a b l,aq,av⟩ (AC [(1000000,.nm 1000000)] rfl rfl ?_ ?_) (λs=>?_)
 ·first|exact eN|refine eM ?_
 ·first|exact eN|refine eM ?_
 ·obtain⟨⟨⟨d,b1,H⟩,⟨T,U⟩,m⟩,t,n,Q,ag⟩:=s;simp only at t n Q ag ⊢;obtain⟨D,ax,E⟩:=t.ab;have N:=aa.perm CN n.perm;have u:=n.len;repeat'(first|exact trivial|refine eS rfl ?_|refine AB ?_|refine rX c ?_ ?_)
  ·exact CY
  ·refine rC ?_ ?_<;>intro o
   ·have key:=A6G m (by omega) N d b1 (by omega) (by omega);rw[u]at key;repeat'(first|exact trivial|refine eS rfl ?_|refine AB ?_|refine rX c ?_ ?_)
    refine cP 4 c ?_ ?_
    ·trivial
    ·refine rM c (key) [(1000000,.nm 1000000)] [] ?_ ?_ ?_
     ·first|exact eN|refine eM ?_
     ·first|exact eN|refine eM ?_
     ·rintro _ _ ⟨rfl,r,rfl,e,g⟩;refine⟨[(1000000,.nm 1000000)],.raw (.tuple #[]),[(1000000,.arr 106 AU r)],rfl,rfl,?_,?_,rfl,rfl,CQ ?_⟩
      ·first|exact eN|refine eM ?_
      ·first|exact eN|refine eM ?_
      ·repeat'(first|exact trivial|refine eS rfl ?_|refine AB ?_|refine rX c ?_ ?_|refine rC ?_ ?_<;>intro o<;>try(cases o;done))
       exact fM c [] (.raw (.tuple #[])) rfl ⟨rfl,r,rfl,n.trans (e.mono D E),(t.pin e).done g⟩
   ·have ap:d+13<=b1:=by omega
    have el:(b1:Int)-(d:Int)=((b1-d:Nat):Int):=by omega
    rw[el];repeat'(first|exact trivial|refine eS rfl ?_|refine AB ?_|refine rX c ?_ ?_)
    refine rC (λau=>?_) (λau=>?_)
    ·have key:=A4c m (by omega) N d b1 ax (by omega);rw[u]at key;repeat'(first|exact trivial|refine eS rfl ?_|refine AB ?_|refine rX c ?_ ?_)
     refine cP 4 c ?_ ?_
     ·trivial
     ·refine rM c (key) [(1000000,.nm 1000000)] [] ?_ ?_ ?_
      ·first|exact eN|refine eM ?_
      ·first|exact eN|refine eM ?_
      ·rintro _ _ ⟨rfl,r,rfl,e,g⟩;refine⟨[(1000000,.nm 1000000)],.raw (.tuple #[]),[(1000000,.arr 106 AU r)],rfl,rfl,?_,?_,rfl,rfl,CQ ?_⟩
       ·first|exact eN|refine eM ?_
       ·first|exact eN|refine eM ?_
       ·repeat'(first|exact trivial|refine eS rfl ?_|refine AB ?_|refine rX c ?_ ?_|refine rC ?_ ?_<;>intro o<;>try(cases o;done))
        exact fM c [] (.raw (.tuple #[])) rfl ⟨rfl,r,rfl,n.trans (e.mono D E),(t.pin e).done g⟩
    ·have ba:0<H:=by omega
     refine u6 ?_;refine IM ?_;refine Px (ι:={x:Nat×List (Int×Int)//x.1<=1000/\ED (0,0) d b1 m x.2}) (λx=>⟨[(0,.sr 1000000 AU 0 l.length),(1,.p T3 (d:Int)),(2,.p T3 (b1:Int)),(3,.p T3 (x.1.1:Int)),(4,.fn 192),(10,.p .bool T),(11,.p .bool U),(12,.p (.int .i64) ((b1-d:Nat):Int))],[(1000000,.arr 106 AU x.1.2)]⟩) ?_ (λx=>?_)
     ·repeat'(first|exact trivial|refine eS rfl ?_|refine AB ?_|refine rX c ?_ ?_)
      refine rC (λk=>?_) (λk=>?_)
      ·have key:=A6O m (by omega) d b1 (by omega) (by omega);rw[u]at key;refine eS rfl ?_;refine cP 4 c ?_ ?_
       ·trivial
       ·refine rM c (key) [(1000000,.nm 1000000)] [] ?_ ?_ ?_
        ·first|exact eN|refine eM ?_
        ·first|exact eN|refine eM ?_
        ·rintro _ _ ⟨rfl,r,rfl,e⟩;refine⟨[(1000000,.nm 1000000)],.raw (.tuple #[]),[(1000000,.arr 106 AU r)],rfl,rfl,?_,?_,rfl,rfl,CQ ?_⟩
         ·first|exact eN|refine eM ?_
         ·first|exact eN|refine eM ?_
         ·repeat'(first|exact trivial|refine eS rfl ?_|refine AB ?_|refine rX c ?_ ?_)
          ·exact CY
          ·refine⟨⟨(H-1,r),by simp only;omega,e⟩,AC [(1000000,.nm 1000000)] rfl rfl ?_ ?_⟩
           ·first|exact eN|refine eM ?_
           ·simp only;rw[show ((H-1:Nat):Int)=(H:Int)-1 by omega];first|exact eN|refine eM ?_
      ·repeat'(first|exact trivial|refine eS rfl ?_|refine AB ?_|refine rX c ?_ ?_)
       refine⟨⟨(H,m),ag,ED.refl _ _ m⟩,AC [(1000000,.nm 1000000)] rfl rfl ?_ ?_⟩
       ·first|exact eN|refine eM ?_
       ·first|exact eN|refine eM ?_
     ·obtain⟨⟨C,i⟩,G,f⟩:=x;simp only at G f ⊢;have v:i.length=l.length:=f.len.trans u;have key:=A6K i (by omega) d b1 ap (by omega);rw[v]at key;refine eS rfl ?_;refine cP 4 c ?_ ?_
      ·trivial
      ·refine rM c (key) [(1000000,.nm 1000000)] [] ?_ ?_ ?_
       ·first|exact eN|refine eM ?_
       ·first|exact eN|refine eM ?_
       ·rintro _ _ ⟨j,hint,rfl,rfl,z,A⟩;refine⟨[(1000000,.nm 1000000)],.tup [.p T3 (j:Int),.p T3 hint],[(1000000,.arr 106 AU i)],rfl,rfl,?_,?_,rfl,rfl,?_⟩
        ·first|exact eN|refine eM ?_
        ·first|exact eN|refine eM ?_
        ·refine rL c ?_ ?_
         ·trivial
         ·refine IM ?_;refine Px (ι:={x:Nat×Int×List (Int×Int)//(d<=x.1/\x.1<b1)/\ED (0,0) d b1 m x.2.2}) (λx=>⟨[(0,.sr 1000000 AU 0 l.length),(1,.p T3 (d:Int)),(2,.p T3 (b1:Int)),(3,.p T3 (C:Int)),(4,.fn 192),(10,.p .bool T),(11,.p .bool U),(12,.p (.int .i64) ((b1-d:Nat):Int)),(13,.p T3 (x.1.1:Int)),(14,.p T3 x.1.2.1)],[(1000000,.arr 106 AU x.1.2.2)]⟩) ?_ (λx=>?_)
          ·repeat'(first|exact trivial|refine eS rfl ?_|refine AB ?_|refine rX c ?_ ?_)
           refine rC (λk=>?_) (λk=>?_)
           ·have key:=A6H i (by omega) d b1 (by omega) (by omega);rw[v]at key;refine eS rfl ?_;refine cP 4 c ?_ ?_
            ·trivial
            ·refine rM c (key) [(1000000,.nm 1000000)] [] ?_ ?_ ?_
             ·first|exact eN|refine eM ?_
             ·first|exact eN|refine eM ?_
             ·rintro _ _ ⟨rfl,r,rfl,e⟩;refine⟨[(1000000,.nm 1000000)],.raw (.tuple #[]),[(1000000,.arr 106 AU r)],rfl,rfl,?_,?_,rfl,rfl,CQ ?_⟩
              ·first|exact eN|refine eM ?_
              ·first|exact eN|refine eM ?_
              ·repeat'(first|exact trivial|refine eS rfl ?_|refine AB ?_|refine rX c ?_ ?_)
               ·exact CY
               ·refine⟨⟨(b1-1-(j-d),1,r),by simp only;omega,f.trans e⟩,AC [(1000000,.nm 1000000)] rfl rfl ?_ ?_⟩
                ·first|exact eN|refine eM ?_
                ·simp only;rw[show ((b1-1-(j-d):Nat):Int)=(b1:Int)-1-((j:Int)-(d:Int)) by omega];first|exact eN|refine eM ?_
           ·repeat'(first|exact trivial|refine eS rfl ?_|refine AB ?_|refine rX c ?_ ?_)
            refine⟨⟨(j,hint,i),⟨z,A⟩,f⟩,AC [(1000000,.nm 1000000)] rfl rfl ?_ ?_⟩
            ·first|exact eN|refine eM ?_
            ·first|exact eN|refine eM ?_
          ·clear z A f v key;obtain⟨⟨j,hint,i⟩,⟨z,A⟩,f⟩:=x;simp only at z A f ⊢;have v:i.length=l.length:=f.len.trans u;have ah:=N.perm CN f.perm;have Y:=Q.pin f;refine Px (ι:={x:List (Int×Int)//ED (0,0) d b1 m x}) (λx=>⟨[(0,.sr 1000000 AU 0 l.length),(1,.p T3 (d:Int)),(2,.p T3 (b1:Int)),(3,.p T3 (C:Int)),(4,.fn 192),(10,.p .bool T),(11,.p .bool U),(12,.p (.int .i64) ((b1-d:Nat):Int)),(13,.p T3 (j:Int))],[(1000000,.arr 106 AU x.1)]⟩) ?_ (λx=>?_)
           ·repeat'(first|exact trivial|refine eS rfl ?_|refine AB ?_|refine rX c ?_ ?_)
            refine rC (λk=>?_) (λk=>?_)
            ·have key:=A6J i (by omega) ah d b1 (by omega) (by omega) Y;rw[v]at key;refine eS rfl ?_;refine cP 4 c ?_ ?_
             ·trivial
             ·refine rM c (key) [(1000000,.nm 1000000)] [] ?_ ?_ ?_
              ·first|exact eN|refine eM ?_
              ·first|exact eN|refine eM ?_
              ·rintro _ _ ⟨w,r,rfl,rfl,e,g⟩;refine⟨[(1000000,.nm 1000000)],.p .bool w,[(1000000,.arr 106 AU r)],rfl,rfl,?_,?_,rfl,rfl,CQ ?_⟩
               ·first|exact eN|refine eM ?_
               ·first|exact eN|refine eM ?_
               ·refine eS rfl ?_;refine rC (λaf=>?_) (λaf=>?_)
                ·repeat'(first|exact trivial|refine eS rfl ?_|refine AB ?_|refine rX c ?_ ?_|refine rC ?_ ?_<;>intro o<;>try(cases o;done))
                 have am:=f.trans e;exact fM c [] (.raw (.tuple #[])) rfl ⟨rfl,r,rfl,n.trans (am.mono D E),(t.pin am).done (g af)⟩
                ·repeat'(first|exact trivial|refine eS rfl ?_|refine AB ?_|refine rX c ?_ ?_)
                 refine⟨⟨r,f.trans e⟩,AC [(1000000,.nm 1000000)] rfl rfl ?_ ?_⟩
                 ·first|exact eN|refine eM ?_
                 ·first|exact eN|refine eM ?_
            ·repeat'(first|exact trivial|refine eS rfl ?_|refine AB ?_|refine rX c ?_ ?_)
             refine⟨⟨i,f⟩,AC [(1000000,.nm 1000000)] rfl rfl ?_ ?_⟩
             ·first|exact eN|refine eM ?_
             ·first|exact eN|refine eM ?_
           ·clear v ah Y f;obtain⟨ao,y⟩:=x;simp only;have ak:ao.length=l.length:=y.len.trans u;have ai:=N.perm CN y.perm;have R:=Q.pin y;have ad:=t.pin y;repeat'(first|exact trivial|refine eS rfl ?_|refine AB ?_|refine rX c ?_ ?_)
            ·dsimp only[Ty.den];exact⟨λ_=>by omega,λ_=>by omega,λ_=>by omega⟩
            ·refine Dm (by simp only[go_sem,Nat.reduceEqDiff,reduceCtorEq,Nat.reduceAdd,Nat.reduceSub,Nat.reduceMul,Nat.reduceLeDiff,Nat.reduceLT,Int.reduceLE,Int.reduceToNat,Int.reduceNeg,↓reduceIte];rfl) ?_ ?_
             ·intro L;exfalso;simp only[AT,Fj,SZ,Of]at L;obtain⟨h1,X⟩:=L;rw[show ((d:Int)-1).toNat=d-1 by omega]at X;rcases R with h|h
              ·omega
              ·exact X (h j z A)
             ·intro L;clear L;have key:=A6I ao (by omega) ai d b1 j z A (by omega);rw[ak]at key;repeat'(first|exact trivial|refine eS rfl ?_|refine AB ?_|refine rX c ?_ ?_)
              refine cP 5 c ?_ ?_
              ·trivial
              ·refine rM c (key) [(1000000,.nm 1000000)] [] ?_ ?_ ?_
               ·first|exact eN|refine eM ?_
               ·first|exact eN|refine eM ?_
               ·rintro _ _ ⟨q,w,I,rfl,rfl,P,F⟩;refine⟨[(1000000,.nm 1000000)],.tup [.p T3 (q:Int),.p .bool w],[(1000000,.arr 106 AU I)],rfl,rfl,?_,?_,rfl,rfl,?_⟩
                ·first|exact eN|refine eM ?_
                ·first|exact eN|refine eM ?_
                ·have aw:=F.l;have bd:=F.r;have O:=n.trans ((y.trans P).mono D E);have al:=O.len;have aj:=aa.perm CN O.perm;have Z:=R.pin P;have ae:=ad.pin P;clear y ak ai R ad P key;have W:(((b1-d:Nat):Int)).tdiv 8=(((b1-d) / 8:Nat):Int):=by
                  rw[oR (by omega)];omega
                 refine rL c ?_ ?_
                 ·trivial
                 ·repeat'(first|exact trivial|refine eS rfl ?_|refine AB ?_|refine rX c ?_ ?_)
                  ·exact CY
                  ·rw[W];exact⟨by decide,by omega,by omega⟩
                  ·rw[W];refine rC (λk=>?_) (λk=>?_)
                   ·have key:=V I (by omega) aj d q C (by omega) aw (by omega) G (Z.sub (by omega));unfold oE at key;rw[al]at key;repeat'(first|exact trivial|refine eS rfl ?_|refine AB ?_|refine rX c ?_ ?_)
                    refine cP 5 c ?_ ?_
                    ·trivial
                    ·refine rM c (key) [(1000000,.nm 1000000)] [] ?_ ?_ ?_
                     ·first|exact eN|refine eM ?_
                     ·first|exact eN|refine eM ?_
                     ·rintro _ _ ⟨rfl,r,rfl,e,g⟩;refine⟨[(1000000,.nm 1000000)],.raw (.tuple #[]),[(1000000,.arr 106 AU r)],rfl,rfl,?_,?_,rfl,rfl,CQ ?_⟩
                      ·first|exact eN|refine eM ?_
                      ·first|exact eN|refine eM ?_
                      ·have M:=F.pinL e;have B:ED (0,0) d b1 I r:=e.mono (NO _) (by omega);repeat'(first|exact trivial|refine eS rfl ?_|refine AB ?_|refine rX c ?_ ?_)
                       ·exact CY
                       ·refine⟨⟨((q+1,b1,C),(decide ((((b1-d) / 8:Nat):Int)<=(q:Int)-(d:Int)),w),r),(ae.pin B).left CN M g,O.trans (B.mono D E),M.bf,G⟩,by simp only;omega,AC [(1000000,.nm 1000000)] rfl rfl ?_ ?_⟩
                        ·first|exact eN|refine eM ?_
                        ·first|exact eN|refine eM ?_
                   ·have key:=V I (by omega) aj (q+1) b1 C (by omega) (by omega) (by omega) G F.bf;unfold oE at key;rw[al,show ((q+1:Nat):Int)=(q:Int)+1 by omega]at key;repeat'(first|exact trivial|refine eS rfl ?_|refine AB ?_|refine rX c ?_ ?_)
                    refine cP 6 c ?_ ?_
                    ·exact CY
                    ·refine rM c (key) [(1000000,.nm 1000000)] [] ?_ ?_ ?_
                     ·first|exact eN|refine eM ?_
                     ·first|exact eN|refine eM ?_
                     ·rintro _ _ ⟨rfl,r,rfl,e,g⟩;refine⟨[(1000000,.nm 1000000)],.raw (.tuple #[]),[(1000000,.arr 106 AU r)],rfl,rfl,?_,?_,rfl,rfl,CQ ?_⟩
                      ·first|exact eN|refine eM ?_
                      ·first|exact eN|refine eM ?_
                      ·have M:=F.pinR e;have B:ED (0,0) d b1 I r:=e.mono (by omega) (NO _);repeat'(first|exact trivial|refine eS rfl ?_|refine AB ?_|refine rX c ?_ ?_)
                       refine⟨⟨((d,q,C),(decide ((((b1-d) / 8:Nat):Int)<=(b1:Int)-(q:Int)),w),r),(ae.pin B).right CN M g,O.trans (B.mono D E),(Z.pin B).sub (b':=q) (by omega),G⟩,by simp only;omega,AC [(1000000,.nm 1000000)] rfl rfl ?_ ?_⟩
                       ·first|exact eN|refine eM ?_
                       ·first|exact eN|refine eM ?_
theorem A6P (l:List (Int×Int)) (i:l.length<256) (e:pY CF (0,0) l) (a b c:Nat) (f:a<=b) (g:b<=l.length) (j:c<=1000) (d:Bf CF (0,0) a b l):oE l a b c:=by
 have key:∀(n:Nat) (l:List (Int×Int)),l.length<256->pY CF (0,0) l->∀a b c:Nat,b-a<n->a<=b->b<=l.length->c<=1000->Bf CF (0,0) a b l->oE l a b c:=by
  intro n;induction n with
  | zero=>intro l _ _ a b c h;omega
  | succ n s =>
   intro l i e a b c hn f g j d;exact z8 l i e a b c f g j d λl' h1 m k b' t u o p q r=>s l' h1 m k b' t (by omega) o p q r
 exact key (b-a+1) l i e a b c (by omega) f g j d
end
end Go.Proofs.YtapkhdkbkodbjaaGreat.Fw
