/- Contracts of the program's and the reference's functions, and the plain laws of what they compute: T3 C1 C2 C9 C10 C11 C12 C13 C3 C4 C5 C6 C7 C8 C14 C15 C16 C17 C18 C19 C20 C21 C22 C23 N1 N2 C24 C25 N3 C26 C27 C28 C29 N4 C30 C31. -/
import Derived.Test.YtdapahgnpbehbaaGreatKYA
import Derived.Test.YtdapahgnpbehbaaGreatKZJ
set_option linter.unusedVariables false
set_option linter.unusedSimpArgs false
namespace Go.Proofs.YtdapahgnpbehbaaGreat.Fw
open Go
attribute [local irreducible] Ev
attribute [local go_sem] WF AM List.toList_toArray Bt evG evK Sw ER JR FT Ek Fk NI Jk CB Cl KP B1 Ca frz Y9 GE C0 A4 FC BT AV.frz AV.frzs AV.drp AV.drps AV.names AV.namess aq GF Jj JI QE Hq BQ BU Im EJ HS EK HV HT HW R8 NB GG Io FE Dl R9 OQ tQ Ip Ht KK Ex DZ Hu JK Dw QF CS Dx EY OT Hv OU LB Hw JL Ck CZ E2 Da G9 DF EZ DG Dy E1 B1 CY OK OM Lg Fi Hs Hr JJ Lh NE LC KO KM JO OV KN JP Va NH NF AV.trn AV.trns Dk CR Obj.trn I2 X9 Cv DH Cu Dz CM Ea Ae lk Ga F6 G7 tZ Y8 Su ZB OP mI mJ pfs AV.cells B9 Ik NW JN ND CL Le Ty.cell1 HR EX DY Fh KJ EI Ji LA OL EW Gh Ld QD R6 LX Jh VX Xl OO Lf Cj Il RV.flat Ty.flat Ty.size St.add upd del BZ Value.oneCell' KH Ty.dflt HQ Mb Gk Mh List.take_succ_cons List.take_zero List.length_cons WM WN Mg H9 Ju GM Hk pY El KY KZ Ka Kb Nh Ni Iw Hb QP Option.map_some Option.map_none Option.bind_some Option.getD_some Option.getD_none Option.isNone_none Option.isNone_some Bool.and_true Bool.true_and Bool.and_false Bool.false_and Bool.not_true Bool.not_false if_true if_false List.length_cons List.length_nil and_true true_and and_self List.all_cons List.all_nil List.append_nil List.nil_append List.cons_append List.getElem?_cons_zero List.getElem?_cons_succ List.getElem?_nil List.map_cons List.map_nil List.set_cons_zero List.set_cons_succ List.isEmpty_nil List.isEmpty_cons decide_true decide_false beq_self_eq_true bne_self_eq_false Nat.zero_add Nat.add_zero Nat.sub_zero Int.toNat_natCast Int.toNat_zero Int.toNat_one List.take_length List.length_append List.length_singleton true_or or_true or_self false_or or_false Ty.agg.injEq Ty.slice.injEq Ty.prod.injEq Ty.int.injEq Option.some.injEq beq_iff_eq Kd evMG evMQ tR HC LH B0 Iy GL NM Ix HB Hc Iz Jt Lr Lt Ls QQ Js Md Me Hj AX Af Op.operands Call.operands List.filterMap_cons List.filterMap_nil List.append_eq Bool.cond_false_right Bool.cond_true_left cond_true cond_false implies_true decide_eq_true_eq beq_true beq_false Bool.or_true Bool.or_false Bool.true_or Bool.false_or Option.isSome_some Array.empty_append List.append_toArray FD KQ Eb HK VZ NC E0 FM FL Hx G8 JM KL Sv ZA JH inB JQ E9 Fj Hy Ao WO List.drop_zero DS HO Ve Cn Ki Bi AV.fgt AV.fgts Obj.fgt Ad Au AX Dg LY Bh IA List.any_cons List.any_nil iJ X5 Vf X6 LZ Ox qs List.flatMap_cons List.flatMap_nil List.cons_append tn Vg I3 List.take_succ_cons List.drop_succ_cons Vh HE Bn Zo Jw CT Cm Ak E4 JV Bx Ed Db HA Ha GK H8
attribute [local go_sem] JY jQ ty3 ty4 ty5 ty9 v9 wA wB wC wD wE wF wG wH wI wJ wK wL wM wN wO wP wQ wR wS wT wU wV wW wX wY wZ w3 w4 w5 w7 w8 w9 xA xB xC xD xE xF xG xH xI xJ xK xL xM xN xO xP xQ xR xS xT xU xV xW xX xY xZ x5 x6 x7 x8 x9 yA yB yC yD yE yF yG yH yI yJ Zv Zw Zx Zy Zz Z0 Z1 Z2 Z3 Z4 Z5 Z6 Z7 Z8 Z9 aA aB aC aD aE aF aG aH aI aJ aK aL aM aN aO aP aQ aR aU aV aW aX aY aZ a9 bA bB bC bD bE bF bG bH bI bJ bK bL bM bN bO bP bQ bR bS bT bU bV bW bX bZ b4 b5 b6 b7 b8 b9 cA cB cC cE cF cG cH cI cJ cK cL cM cN cO cQ cR cS cU cV cW cX cZ c6 c7 c8 c9 dA dB dC dD dE dF dG dH dI dJ dK dL dM dN dP dQ dR dS dT dU dV dW
set_option maxRecDepth 100000
set_option maxHeartbeats 4000000
section
attribute [local go_sem] Gl eI PI Sd
theorem kA (p q:List (AF)) (hp:p.length≤100000) (g:∀x∈p,x.2.length≤100000):BL Tryz.prog 139 [.p Et p,.p Et q,.fn 140] [] [] (fun res j=>res=.p T3 (HF Dd p q)∧j=[]):=by
 refine La [0,1,2,6,7,8,9,10,11,12,13,14,21,31,38] [] [] Tryz.func139 Tryz.ntmps139 (AE j9 AG) ?_;intro w0 K O0 ρ0 c n o;simp only[Ao];repeat'(first|exact trivial|refine eS rfl ?_|refine AB ?_|refine rX c ?_ ?_|refine rC ?_ ?_<;>intro a<;>try(cases a;done))
 refine AI (ι:={k:Nat//k≤p.length∧k≤q.length∧HF Dd p q=HF Dd (p.drop k) (q.drop k)}) (fun k=>⟨[(0,.p Et p),(1,.p Et q),(2,.fn 140),(11,.p Et p),(12,.p (.int .i64) (p.length:Int)),(13,.p (.int .i64) (k.1:Int))],[]⟩) (fun k=>p.length-k.1) ⟨0,IN _,IN _,rfl⟩ (AC [] rfl rfl ?_ ?_) (fun k=>?_)
 ·first|exact eN|refine eM ?_
 ·first|exact eN|refine eM ?_
 ·obtain⟨k,l,m,b⟩:=k;simp only;repeat'(first|exact trivial|refine eS rfl ?_|refine AB ?_|refine rX c ?_ ?_|refine rC ?_ ?_<;>intro a<;>try(cases a;done))
  ·exact a
  ·have d:k<p.length:=by exact eV
   have h:q.drop k=[]:=IF (by exact eV);have h1:HF Dd p q=1:=by
    rw[b,h,LQ (0,[]) d];rfl
   refine Ev.ent (σ':=⟨[(6,.p T3 1)],[]⟩) (fM c [.tmp 6] (.p T3 1) eT ⟨by rw[h1],rfl⟩) (AC [] rfl rfl ?_ ?_)
   ·first|exact eN|refine eM ?_
   ·first|exact eN|refine eM ?_
  ·exact a
  ·exact g _ (AD p (0,[]) (by exact eV))
  ·have d:k<p.length:=by exact eV
   have e:k<q.length:=by exact eV
   rw[Mk (0,[]) d e,At a]at b;refine Ev.ent (σ':=⟨[(6,.p T3 (Dd (p.getD k (0,[])) (q.getD k (0,[]))))],[]⟩) (fM c [.tmp 6] (.p T3 (Dd (p.getD k (0,[])) (q.getD k (0,[])))) eT ⟨by rw[b],rfl⟩) (AC [] rfl rfl ?_ ?_)
   ·first|exact eN|refine eM ?_
   ·first|exact eN|refine eM ?_
  ·exact eV
  ·have d:k<p.length:=by exact eV
   have e:k<q.length:=by exact eV
   rw[Mk (0,[]) d e,BY (by simpa using a)]at b;refine⟨⟨k+1,d,e,b⟩,by simp only;omega,AC [] rfl rfl ?_ ?_⟩
   ·first|exact eN|refine eM ?_
   ·first|exact eN|refine eM ?_
  ·have f:p.drop k=[]:=IF (by exact eV);have h1:HF Dd p q=-1:=by
    rw[b,f,LQ (0,[]) (show k<q.length by exact eV)];rfl
   exact fM c [.tmp 6] (.p T3 (-1)) eT ⟨by rw[h1],rfl⟩
  ·have f:p.drop k=[]:=IF (by exact eV);have i:q.drop k=[]:=IF (by exact eV);have h1:HF Dd p q=0:=by
    rw[b,f,i];rfl
   exact fM c [.tmp 6] (.p T3 0) eT ⟨by rw[h1],rfl⟩
def Rj (a b:List AF):Int:=if Fg (a.length:Int) (b.length:Int)=0 then HF Dd a b else Fg (a.length:Int) (b.length:Int)
theorem kB (a b:List AF):Rj a b=0↔a=b:=by
 unfold Rj;constructor
 ·intro h;split at h
  ·exact(Jy O9).1 h
  ·rename_i h1;exact absurd h h1
 ·rintro rfl;rw[BY (eK.2 rfl)];exact(Jy O9).2 rfl
def kC:Ac:={ ins:=[FZ,FZ],pre:=fun(a,_,_)=>CW a,out:=fun(a,b,_)=>[.p T3 (Rj a b)] }
attribute [local go_sem] kC
theorem y9:Ah Tryz.prog 106 kC:=by
 refine fK [0,1,2,3,4,5,14] Tryz.func106 Tryz.ntmps106 (AE Gd AG) ?_;rintro w0 O0 ⟨a,b,u⟩ c-⟨e,f⟩;simp only[kC,AM];repeat'(first|exact trivial|refine eS rfl ?_|refine AB ?_|refine rX c ?_ ?_|refine rC ?_ ?_<;>intro d<;>try(cases d;done))
 ·have h1:Rj a b=Fg (List.length a:Int) (List.length b:Int):=At d;exact fI c [.tmp 4] (by rw[h1];exact eR)
 ·have h1:Rj a b=HF Dd a b:=BY (by simpa using d);refine cP 4 c ?_ ?_
  ·trivial
  ·refine rM c (kA a b e f) [] [] ?_ ?_ ?_
   ·first|exact eN|refine eM ?_
   ·first|exact eN|refine eM ?_
   ·rintro _ _ ⟨rfl,rfl⟩;refine⟨[],.p T3 (HF Dd a b),[],rfl,rfl,?_,?_,rfl,rfl,?_⟩
    ·first|exact eN|refine eM ?_
    ·first|exact eN|refine eM ?_
    ·refine rL c ?_ ?_
     ·trivial
     ·repeat'(first|exact trivial|refine eS rfl ?_|refine AB ?_|refine rX c ?_ ?_|refine rC ?_ ?_<;>intro d<;>try(cases d;done))
      exact fI c [.tmp 4] (by rw[h1];exact eR)
def Se:Ac:={ ins:=[FZ,FZ],pre:=fun(a,_,_)=>CW a,out:=fun(a,b,_)=>[.p .bool (Rj a b==0)] }
attribute [local go_sem] Se
theorem rR:Ah Tryz.prog 68 Se:=by
 refine fK [0,1,2,3,4] Tryz.func68 Tryz.ntmps68 (AE y9 AG) ?_;rintro w0 O0 ⟨a,b,u⟩ c-ha;simp only[Se,AM];repeat'(first|exact trivial|refine eS rfl ?_|refine AB ?_|refine rX c ?_ ?_|refine rC ?_ ?_<;>intro d<;>try(cases d;done))
 ·exact ha
 ·exact fI c [.tmp 4]
def eP (l:List (Int×Int)):List (Int×Bool):=l.foldl (fun m a=>Ho T3 .bool a.1 true m) []
theorem Tw {b:Ty} (x k:Int) (v:b.den) (m:List (Int×b.den)):A5 T3 b x (Ho T3 b k v m)=if x=k then some v else A5 T3 b x m:=by
 induction m with
 | nil=>simp[Ho,A5,JH]
 | cons y m g =>
  simp only[Ho];by_cases c:JH T3 k y.1=true
  ·rw[BY c];have d:k=y.1:=by simpa[JH] using c
   simp only[A5,JH,AA1];by_cases a:x=k
   ·rw[BY a,BY a]
   ·rw[At a,At a,At (by rw[←d];exact a)]
  ·rw[At c];have d:¬k=y.1:=by simpa[JH] using c
   simp only[A5];by_cases a:JH T3 x y.1=true
   ·have f:x=y.1:=by simpa[JH] using a
    rw[BY a,BY a,At (by rw[f];exact fun e=>d e.symm)]
   ·rw[At a,At a,g]
theorem rS (x:Int) (l:List (Int×Int)):(A5 T3 .bool x (eP l)).getD false=l.any fun y=>y.1==x:=by
 induction l using Ge with
 | h0=>rfl
 | h1 l a c =>
  have e:eP (l++[a])=Ho T3 .bool a.1 true (eP l):=by unfold eP;rw[ABw];rfl
  rw[e,Tw,ABx,←c];by_cases h:x=a.1
  ·rw[BY h,h];simp
  ·rw[At h];have b:¬a.1=x:=fun e=>h e.symm;simp[b]
def Fx (x:AF) (n:Int):Int:=if x.1<0 then 2 else F7 x.2 n
def Tx:Ac:={ ins:=[LJ,T3],pre:=fun _=>True,out:=fun(x,n,_)=>[.p Th (Fx x n)] }
attribute [local go_sem] Tx
theorem kD:Ah Tryz.prog 76 Tx:=by
 refine fK [0,1,2,4,5,7,10,13,14,15,16,32,36] Tryz.func76 Tryz.ntmps76 AG ?_;rintro w0 O0 ⟨⟨t,l⟩,n,u⟩ d ⟨⟨-,⟨o,-⟩⟩,-⟩ -;simp only[AO]at o;simp only[Tx,AM];repeat'(first|exact trivial|refine eS rfl ?_|refine AB ?_|refine rX d ?_ ?_|refine rC ?_ ?_<;>intro b<;>try(cases b;done))
 ·have h1:Fx (t,l) n=2:=BY b;exact fI d [.tmp 4] (by rw[h1];exact eR)
 ·have h0:Fx (t,l) n=Fu n [] l:=At (AAO.2 b);rw[h0];refine AI (ι:={k:Nat//k≤List.length l∧Fu n [] l=Fu n ((l:List (Int×Int)).take k) ((l:List (Int×Int)).drop k)}) (fun k=>⟨[(1,.p T3 n),(5,.mp 11),(13,.p Ii l),(14,.p (.int .i64) (List.length l:Int)),(15,.p (.int .i64) (k.1:Int))],[(11,.mapo T3 .bool (eP ((l:List (Int×Int)).take k.1)))]⟩) (fun k=>List.length l-k.1) ⟨0,IN _,rfl⟩ (AC [(11,.nm 11)] rfl rfl ?_ ?_) (fun k=>?_)
  ·first|exact eN|refine eM ?_
   rfl
  ·first|exact eN|refine eM ?_
  ·obtain⟨k,hk,f⟩:=k;have g:=fun h:k<l.length=>Nt n l h;have q:=fun h:k<l.length=>Qb (fun(m:List (Int×Bool)) (a:Int×Int)=>Ho T3 .bool a.1 true m) l (0,0) [] h;have i:=fun x=>rS x (List.take k (l:List (Int×Int)));simp only;repeat'(first|exact trivial|refine eS rfl ?_|refine AB ?_|refine rX d ?_ ?_|refine rC ?_ ?_<;>intro b<;>try(cases b;done))
   ·exact b
   ·have c:k<List.length l:=by exact eV
    have e:Fu n [] l=2:=by rw[f,g c,BY (by omega)]
    exact fI d [.tmp 4] (by rw[e];exact eR)
   ·have c:k<List.length l:=by exact eV
    rw[i]at b;have e:Fu n [] l=4:=by rw[f,g c,At (by omega),BY b]
    exact fI d [.tmp 4] (by rw[e];exact eR)
   ·exact eV
   ·have c:k<List.length l:=by exact eV
    rw[i]at b;refine⟨⟨k+1,c,by rw[f,g c,At (by omega),At (by rw[b];simp)]⟩,by simp only;omega,AC [(11,.nm 11)] rfl rfl ?_ ?_⟩
    ·first|exact eN|refine eM ?_
     exact(q c).symm
    ·first|exact eN|refine eM ?_
   ·have j:List.drop k (l:List (Int×Int))=[]:=IF (by exact eV);have e:Fu n [] l=0:=by rw[f,j];rfl
    exact fI d [.tmp 4] (by rw[e];exact eR)
theorem eQ {n:Int}:∀ {l seen:List (Int×Int)},Fu n seen l=0→(∀a∈l,∀b∈seen,b.1≠a.1)∧yY l
 | [],_,_=>⟨fun a ha=>(by cases ha),List.Pairwise.nil⟩
 | x :: l,seen,h=>by
  simp only[Fu]at h;split at h
  ·cases h
  ·split at h
   ·cases h
   ·rename_i h1 g;obtain⟨c,f⟩:=eQ h;refine⟨fun a ha b d=>?_,AB9.2 ⟨fun a ha e=>c a ha x (by simp) e,f⟩⟩;rcases GO.1 ha with rfl|ha
    ·intro e;exact g (Of.2 ⟨b,d,by simp[e]⟩)
    ·exact c a ha b (by simp[d])
theorem eU {m:Int}:∀ {f:List AF},Fv m f=0→∀x∈f,yY x.2
 | [],_,x,b=>by cases b
 | y :: f,h,x,b=>by
  simp only[Fv]at h;split at h
  ·cases h
  ·split at h
   ·rename_i h1 a;exact absurd h a
   ·rename_i h1 a;have a:F7 y.2 m=0:=DO a;rcases GO.1 b with rfl|b
    ·exact(eQ a).2
    ·exact eU h x b
def NQ (f:List AF):Prop:=∀x∈f,x.2.length≤200
theorem eW {f:List AF} (h:Bv f=0) (hs:NQ f):NdF f:=by
 unfold Bv at h;split at h
 ·cases h
 ·split at h
  ·cases h
  ·exact fun x a=>⟨eU h x a,hs x a⟩
def PJ:Ac:={ ins:=[FZ],pre:=fun(f,_)=>NQ f,out:=fun(f,_)=>[.p FZ (Ax f).1,.p Th (Ax f).2] }
attribute [local go_sem] PJ
theorem Wo:Ah Tryz.prog 51 PJ:=by
 refine fK [0,1,2,3,5,6,10,15,18,19,20,21,30] Tryz.func51 Tryz.ntmps51 (AE kD (AE rK AG)) ?_;rintro w0 O0 ⟨f,u⟩ c ⟨⟨n,-⟩,-⟩ hs;simp only[AO]at n;have hs:NQ f:=hs;have l:Tv f:=fun x o=>To (hs x o) (by omega);simp only[PJ,AM];repeat'(first|exact trivial|refine eS rfl ?_|refine AB ?_|refine rX c ?_ ?_|refine rC ?_ ?_<;>intro a<;>try(cases a;done))
 ·have h1:Bv f=1:=by
   have h:f.length=0:=by exact eV
   unfold Bv;rw[BY h]
  have e:Ax f=([],1):=by unfold Ax;rw[h1];rfl
  exact fI c [.cell 2 25,.tmp 3] (by rw[e];exact eR)
 ·have h1:Bv f=7:=by
   have h:¬f.length=0:=by exact eV
   have i:4096<f.length:=by exact eV
   unfold Bv;rw[At h,BY i]
  have e:Ax f=([],7):=by unfold Ax;rw[h1];rfl
  exact fI c [.cell 2 25,.tmp 3] (by rw[e];exact eR)
 ·have h1:Bv f=Fv f.length f:=by
   have h:¬f.length=0:=by exact eV
   have i:¬4096<f.length:=by exact eV
   unfold Bv;rw[At h,At i]
  have j:0<f.length:=by exact eV
  refine AI (ι:={k:Nat//k≤f.length∧Fv f.length (f.drop k)=Bv f}) (fun k=>⟨[(1,.bp 1 [] 0),(2,.bp 2 [] 0),(18,.p Et f),(19,.p (.int .i64) (f.length:Int)),(20,.p (.int .i64) (k.1:Int))],[(1,.box 25 true [.p Et f]),(2,.box 25 true [.raw (.slice none 0 0)])]⟩) (fun k=>f.length-k.1) ⟨0,by simp[h1]⟩ (AC [(1,.nm 1),(2,.nm 2)] rfl rfl ?_ ?_) (fun k=>?_)
  ·first|exact eN|refine eM ?_
  ·first|exact eN|refine eM ?_
  ·obtain⟨k,hk,hf⟩:=k;simp only;repeat'(first|exact trivial|refine eS rfl ?_|refine AB ?_|refine rX c ?_ ?_|refine rC ?_ ?_<;>intro a<;>try(cases a;done))
   ·exact a
   ·have g:k<f.length:=by exact eV
    have a:¬Fx (f.getD k (0,[])) f.length=0:=a;have m:Bv f=Fx (f.getD k (0,[])) f.length:=by
     rw[←hf,IJ _ _ g];unfold Fx at a ⊢;by_cases b:(f.getD k (0,[])).1<0
     ·rw[BY b,BY b]
     ·rw[At b]at a;rw[At b,At b,BY a]
    have e:Ax f=([],Fx (f.getD k (0,[])) f.length):=by unfold Ax;rw[m,At a]
    exact fI c [.cell 2 25,.tmp 3] (by rw[e];exact eR)
   ·exact eV
   ·have g:k<f.length:=by exact eV
    have a:Fx (f.getD k (0,[])) f.length=0:=by simpa using a
    refine⟨⟨k+1,g,?_⟩,by simp only;omega,AC [(1,.nm 1),(2,.nm 2)] rfl rfl ?_ ?_⟩
    ·rw[←hf,IJ _ _ g];unfold Fx at a;by_cases b:(f.getD k (0,[])).1<0
     ·rw[BY b]at a;cases a
     ·rw[At b]at a;rw[At b,At (by rw[a];simp)]
    ·first|exact eN|refine eM ?_
    ·first|exact eN|refine eM ?_
   ·have d:Bv f=0:=by rw[←hf,IF (by exact eV)];rfl
    exact⟨(IL d l).1,eW d hs,IS.2 j⟩
   ·have d:Bv f=0:=by rw[←hf,IF (by exact eV)];rfl
    have e:Ax f=(AU (EA f) 0,0):=by unfold Ax;rw[BY d,eG (IL d l).1 (eW d hs) (ACd 0) (IS.2 j)]
    exact fI c [.cell 2 25,.tmp 3] (by rw[e];exact eR)
end
section
def JZ (a b c:Int):Bool:=decide (a≤c)&&decide (c≤b)
def kE:Ac:={ ins:=[.int .u8],pre:=fun _=>True,out:=fun(c,_)=>[.p .bool (JZ 48 57 c)] }
attribute [local go_sem] kE
def kF:Ac:={ ins:=[.int .u8],pre:=fun _=>True,out:=fun(c,_)=>[.p .bool (JZ 65 90 c)] }
attribute [local go_sem] kF
def kG:Ac:={ ins:=[.int .u8],pre:=fun _=>True,out:=fun(c,_)=>[.p .bool (JZ 97 122 c)] }
attribute [local go_sem] kG
theorem eX:Ah Tryz.prog 176 kE:=by
 refine fK [0,2] Tryz.func176 Tryz.ntmps176 AG ?_;rintro w0 O0 ⟨c,u⟩ a - -;simp only[kE,AM];repeat'(first|exact trivial|refine eS rfl ?_|refine AB ?_|refine rX a ?_ ?_|refine rC ?_ ?_<;>intro b<;>try(cases b;done))
 exact fI a [.tmp 2] (by unfold JZ;exact eR)
theorem zA:Ah Tryz.prog 183 kF:=by
 refine fK [0,2] Tryz.func183 Tryz.ntmps183 AG ?_;rintro w0 O0 ⟨c,u⟩ a - -;simp only[kF,AM];repeat'(first|exact trivial|refine eS rfl ?_|refine AB ?_|refine rX a ?_ ?_|refine rC ?_ ?_<;>intro b<;>try(cases b;done))
 exact fI a [.tmp 2] (by unfold JZ;exact eR)
theorem zB:Ah Tryz.prog 184 kG:=by
 refine fK [0,2] Tryz.func184 Tryz.ntmps184 AG ?_;rintro w0 O0 ⟨c,u⟩ a - -;simp only[kG,AM];repeat'(first|exact trivial|refine eS rfl ?_|refine AB ?_|refine rX a ?_ ?_|refine rC ?_ ?_<;>intro b<;>try(cases b;done))
 exact fI a [.tmp 2] (by unfold JZ;exact eR)
def Tz (c:Int) (big:Bool):Bool:=JZ 48 57 c||c==45||big&&JZ 65 90 c||!big&&JZ 97 122 c
def zC:Ac:={ ins:=[.int .u8,.bool],pre:=fun _=>True,out:=fun(c,b,_)=>[.p .bool (Tz c b)] }
attribute [local go_sem] zC
theorem A22:Ah Tryz.prog 177 zC:=by
 refine fK [0,1,4] Tryz.func177 Tryz.ntmps177 (AE eX (AE zA (AE zB AG))) ?_;rintro w0 O0 ⟨c,b,u⟩ a - -;simp only[zC,AM];repeat'(first|exact trivial|refine eS rfl ?_|refine AB ?_|refine rX a ?_ ?_|refine rC ?_ ?_<;>intro d<;>try(cases d;done))
 exact fI a [.tmp 4] (by unfold Tz;exact eR)
abbrev chr (s:ByteArray) (i:Nat):Int:=((s.data.getD i 0).toNat:Int)
def Qi (s:ByteArray):Bool:=decide ((s.size:Int)<1)||decide (32<(s.size:Int))||JZ 48 57 (chr s 0)||chr s 0==45
def Eg (s:ByteArray) (big:Bool):Bool:=!Qi s&&(List.range s.size).all fun i=>Tz (chr s i) big
def kH:Ac:={ ins:=[T9,.bool],pre:=fun _=>True,out:=fun(s,b,_)=>[.p .bool (Eg s b)] }
attribute [local go_sem] kH
theorem eY:Ah Tryz.prog 165 kH:=by
 refine fK [0,1,4,5,23,27,35] Tryz.func165 Tryz.ntmps165 (AE eX (AE A22 AG)) ?_;rintro w0 O0 ⟨s,b,u⟩ d - -;simp only[kH,AM];repeat'(first|exact trivial|refine eS rfl ?_|refine AB ?_|refine rX d ?_ ?_|refine rC ?_ ?_<;>intro a<;>try(cases a;done))
 ·constructor
  ·intro h;simp only[OF,AAl,On]at h;have:1≤(s.size:Int):=by omega
   exact this
  ·intro h;simp only[OF,AAl,On]at h;have:1≤(s.size:Int):=by omega
   exact this
 ·have h1:Qi s=true:=by
   unfold Qi chr;simp only[iN,By,AA1];exact a
  have c:Eg s b=false:=by unfold Eg;rw[h1];rfl
  exact fI d [.tmp 4] (by rw[c];exact eR)
 ·have h1:Qi s=false:=by
   unfold Qi chr;simp only[AAl,On,AAK];exact⟨⟨⟨by omega,by omega⟩,a.1.2⟩,a.2⟩
  have g:s.size≤32:=by omega
  refine AI (ι:={k:Nat//k≤s.size∧((List.range k).all fun i=>Tz (chr s i) b)=true}) (fun k=>⟨[(0,.p T9 s),(1,.p .bool b),(5,.p (.int .i64) (k.1:Int))],[]⟩) (fun k=>s.size-k.1) ⟨0,by simp⟩ (AC [] rfl rfl ?_ ?_) (fun k=>?_)
  ·first|exact eN|refine eM ?_
  ·first|exact eN|refine eM ?_
  ·obtain⟨k,hk,f⟩:=k;repeat'(first|exact trivial|refine eS rfl ?_|refine AB ?_|refine rX d ?_ ?_|refine rC ?_ ?_<;>intro a<;>try(cases a;done))
   ·exact a
   ·have e:k<s.size:=by omega
    have c:Eg s b=false:=by
     unfold Eg;rw[AAz];refine .inr (ABV.2 fun h=>?_);have:=Do.1 h k (iS.2 e);rw[show Tz (chr s k) b=false from a]at this;cases this
    exact fI d [.tmp 4] (by rw[c];exact eR)
   ·omega
   ·have e:k<s.size:=by omega
    refine⟨⟨k+1,by omega,?_⟩,by simp only;omega,AC [] rfl rfl ?_ ?_⟩
    ·rw[AAc,ABy,f];rw[ABP,AB0,List.all_nil,Bool.and_true];exact a
    ·first|exact eN|refine eM ?_
    ·first|exact eN|refine eM ?_
   ·have e:k=s.size:=by omega
    subst e;have c:Eg s b=true:=by unfold Eg;rw[h1,f];rfl
    exact fI d [.tmp 4] (by rw[c];exact eR)
def zD:Ac:={ ins:=[T9],pre:=fun _=>True,out:=fun(s,_)=>[.p .bool (Eg s false)] }
def UA:Ac:={ ins:=[T9],pre:=fun _=>True,out:=fun(s,_)=>[.p .bool (Eg s true)] }
theorem A23:Ah Tryz.prog 151 zD:=by
 refine fK [0,2] Tryz.func151 Tryz.ntmps151 (AE eY AG) ?_;rintro w0 O0 ⟨s,u⟩ a - -;simp only[zD,AM];repeat'(first|exact trivial|refine eS rfl ?_|refine AB ?_|refine rX a ?_ ?_|refine rC ?_ ?_<;>intro b<;>try(cases b;done))
 exact fI a [.tmp 2]
theorem kI:Ah Tryz.prog 150 UA:=by
 refine fK [0,2] Tryz.func150 Tryz.ntmps150 (AE eY AG) ?_;rintro w0 O0 ⟨s,u⟩ a - -;simp only[UA,AM];repeat'(first|exact trivial|refine eS rfl ?_|refine AB ?_|refine rX a ?_ ?_|refine rC ?_ ?_<;>intro b<;>try(cases b;done))
 exact fI a [.tmp 2]
end
section
theorem Ml {α:Type} (l:List α) (d:α) (p:α→Bool) {k:Nat} (h:k<l.length):(l.take (k+1)).any p=((l.take k).any p||p (l.getD k d)):=by
 rw[Ab l d h,ABx];simp
theorem Gn {α:Type} (l:List α) (d:α) (p:α→Bool) {k:Nat} (h:k<l.length) (hp:p (l.getD k d)=true):l.any p=true :=
 Of.2 ⟨_,AD l d h,hp⟩
def AW (l:List ByteArray) (s:ByteArray):Bool:=l.any fun x=>Aa x s
def Ja:Ac:={ ins:=[B5,T9],pre:=fun _=>True,out:=fun(l,n,_)=>[.p .bool (AW l n)],lend:=true }
attribute [local go_sem] Ja
theorem Gp:Ah Tryz.prog 131 Ja:=by
 refine fK [0,1,4,5,9,17] Tryz.func131 Tryz.ntmps131 AG ?_;rintro w0 O0 ⟨l,n,u⟩ b ⟨⟨e,-⟩,-⟩ -;simp only[AO]at e;simp only[Ja,AM];repeat'(first|exact trivial|refine eS rfl ?_|refine AB ?_|refine rX b ?_ ?_|refine rC ?_ ?_<;>intro a<;>try(cases a;done))
 refine AI (ι:={k:Nat//k≤l.length∧(l.take k).any (fun x=>Aa x n)=false}) (fun k=>⟨[(0,.p B5 l),(1,.p T9 n),(5,.p (.int .i64) (k.1:Int))],[]⟩) (fun k=>l.length-k.1) ⟨0,by simp⟩ (AC [] rfl rfl ?_ ?_) (fun k=>?_)
 ·first|exact eN|refine eM ?_
 ·first|exact eN|refine eM ?_
 ·obtain⟨k,hk,c⟩:=k;repeat'(first|exact trivial|refine eS rfl ?_|refine AB ?_|refine rX b ?_ ?_|refine rC ?_ ?_<;>intro a<;>try(cases a;done))
  ·exact eV
  ·have d:k<l.length:=by exact eV
   have h1:AW l n=true:=Gn l ByteArray.empty _ d a;exact fI b [.tmp 4] (by rw[h1];exact eR)
  ·exact eV
  ·have d:k<l.length:=by exact eV
   refine⟨⟨k+1,by exact eV,?_⟩,by simp only;exact eV,AC [] rfl rfl ?_ ?_⟩
   ·rw[Ml l ByteArray.empty _ d,c];exact a
   ·first|exact eN|refine eM ?_
   ·first|exact eN|refine eM ?_
  ·have hk:l.take k=l:=As (by exact eV);rw[hk]at c;have h1:AW l n=false:=c;exact fI b [.tmp 4] (by rw[h1];exact eR)
def tU (l:List ByteArray) (s:ByteArray):Nat:=(l.takeWhile fun x=>HJ x s).length
theorem zE {α:Type} (p:α→Bool) (d:α):∀(l:List α) (k:Nat),k≤(l.takeWhile p).length→((k<l.length∧p (l.getD k d)=true)↔k+1≤(l.takeWhile p).length)
 | [],k,h=>by simp
 | x :: l,k,h=>by
  by_cases a:p x=true
  ·rw[List.takeWhile_cons,BY a]at h ⊢;cases k with
   | zero=>simp[a]
   | succ k =>
    have:=zE p d l k (by simpa using h);simpa using this
  ·rw[List.takeWhile_cons,At a]at h ⊢;have hk:k=0:=by simpa using h
   subst hk;simp[a]
theorem A2Z {α:Type} (p:α→Bool) (l:List α):(l.takeWhile p).length≤l.length:=(List.takeWhile_sublist p).length_le
def EO (l:List ByteArray) (s:ByteArray):List ByteArray :=
 if (decide (tU l s<l.length)&&Aa (l.getD (tU l s) ByteArray.empty) s)=true then l else l.take (tU l s)++[s]++l.drop (tU l s)
def YJ:Ac:={ ins:=[B5,T9],pre:=fun(l,_,_)=>List.length l≤100000,out:=fun(l,n,_)=>[.p B5 (EO l n)] }
attribute [local go_sem] YJ
theorem Qj:Ah Tryz.prog 122 YJ:=by
 refine fK [0,1,4,5,6,18,32] Tryz.func122 Tryz.ntmps122 AG ?_;rintro w0 O0 ⟨l,n,u⟩ c-m;have m:l.length≤100000:=m;simp only[YJ,AM];repeat'(first|exact trivial|refine eS rfl ?_|refine AB ?_|refine rX c ?_ ?_|refine rC ?_ ?_<;>intro a<;>try(cases a;done))
 refine AI (ι:={k:Nat//k≤tU l n}) (fun k=>⟨[(0,.p B5 l),(1,.p T9 n),(5,.raw (.slice none 0 0)),(6,.p (.int .i64) (k.1:Int))],[]⟩) (fun k=>l.length-k.1) ⟨0,by simp⟩ (AC [] rfl rfl ?_ ?_) (fun k=>?_)
 ·first|exact eN|refine eM ?_
 ·first|exact eN|refine eM ?_
 ·obtain⟨k,hk⟩:=k;have d:=A2Z (fun x=>HJ x n) l;have i:=zE (fun x=>HJ x n) ByteArray.empty l k hk;simp only;repeat'(first|exact trivial|refine eS rfl ?_|refine AB ?_|refine rX c ?_ ?_|refine rC ?_ ?_<;>intro a<;>try(cases a;done))
  ·exact fun h=>h
  ·have h1:k<l.length∧HJ (l.getD k ByteArray.empty) n=true:=⟨by exact eV,a.2⟩;exact eV
  ·have h1:k<l.length∧HJ (l.getD k ByteArray.empty) n=true:=⟨by exact eV,a.2⟩;refine⟨⟨k+1,i.1 h1⟩,by simp only;omega,AC [] rfl rfl ?_ ?_⟩
   ·first|exact eN|refine eM ?_
   ·first|exact eN|refine eM ?_
  ·exact fun h=>h
  ·rename_i f;have g:k=tU l n:=by
    refine ABM hk (ACA fun h=>?_);have:=i.2 h;rw[f (IS.2 this.1)]at this;cases this.2
   have e:EO l n=l:=by
    unfold EO;rw[←g,BY];rw[An,By];exact⟨IS.1 a.1,a.2⟩
   exact fI c [.tmp 4] (by rw[e];exact eR)
  ·have j:=AAo k l;have b:k≤l.length:=To hk d;simp only[AO];exact⟨oF.2 b,by dsimp only[Ty.den]at *;omega⟩
  ·have j:=AAo k l;have b:k≤l.length:=To hk d;simp only[AO];dsimp only[Ty.den]at *;omega
  ·have j:=AAo k l;have b:k≤l.length:=To hk d;have q:(l.drop k).length≤l.length:=by rw[AAV];omega
   simp only[AO];exact⟨oF.2 b,by dsimp only[Ty.den]at *;omega⟩
  ·rename_i f;have g:k=tU l n:=by
    refine ABM hk (ACA fun h=>?_);have:=i.2 h;rw[f (IS.2 this.1)]at this;cases this.2
   have e:EO l n=l.take k++[n]++l.drop k:=by
    unfold EO;rw[←g,At];rw[An,By];intro h;rw[a (IS.2 h.1)]at h;cases h.2
   have b:k≤l.length:=To hk d;have o:(l.take k).length+1+(l.drop k).length=(l.take k++[n]++l.drop k).length:=by simp only[OR,iF]
   rw[o,←e];refine GP [38] ?_;exact fI c [.tmp 4]
end
section
def F8 (b:List Int) (i:Int):Int:=if i<b.length then b.getD i.toNat 0 else 0
def eZ:Ac:={ ins:=[D7,T3],pre:=fun(_,i,_)=>(0:Int)≤i,out:=fun(b,i,_)=>[.p O4 (F8 b i)],lend:=true }
attribute [local go_sem] eZ
theorem nU:Ah Tryz.prog 142 eZ:=by
 refine fK [0,1,4,8] Tryz.func142 Tryz.ntmps142 AG ?_;rintro w0 O0 ⟨b,i,u⟩ c-hi;simp only[eZ,AM];repeat'(first|exact trivial|refine eS rfl ?_|refine AB ?_|refine rX c ?_ ?_|refine rC ?_ ?_<;>intro a<;>try(cases a;done))
 ·exact⟨hi,a⟩
 ·have h1:F8 b i=b.getD i.toNat 0:=by unfold F8;rw[BY a]
  exact fI c [.tmp 4] (by rw[h1];exact eR)
 ·have h1:F8 b i=0:=by unfold F8;rw[At (AAO.2 a)]
  exact fI c [.tmp 4] (by rw[h1];exact eR)
def CX (b:List Int):Nat→Nat
 | 0=>0
 | n+1=>if b.getD n 0=0 then CX b n else n+1
def BI (b:List Int):List Int:=b.take (CX b b.length)
theorem UB (b:List Int):∀n,CX b n≤n
 | 0=>NO _
 | n+1=>by
  unfold CX;split
  ·exact Nat.le_succ_of_le (UB b n)
  ·exact NO _
def Kp:Ac:={ ins:=[D7],pre:=fun(b,_)=>List.length b≤100000,out:=fun(b,_)=>[.p D7 (BI b)] }
attribute [local go_sem] Kp
theorem Mm:Ah Tryz.prog 124 Kp:=by
 refine fK [0,2,3,15] Tryz.func124 Tryz.ntmps124 AG ?_;rintro w0 O0 ⟨b,u⟩ d-f;have f:b.length≤100000:=f;simp only[Kp,AM];repeat'(first|exact trivial|refine eS rfl ?_|refine AB ?_|refine rX d ?_ ?_|refine rC ?_ ?_<;>intro c<;>try(cases c;done))
 refine AI (ι:={n:Nat//n≤b.length∧CX b n=CX b b.length}) (fun n=>⟨[(0,.p D7 b),(3,.p (.int .i64) (n.1:Int))],[]⟩) (fun n=>n.1) ⟨b.length,NO _,rfl⟩ (AC [] rfl rfl ?_ ?_) (fun n=>?_)
 ·first|exact eN|refine eM ?_
 ·first|exact eN|refine eM ?_
 ·obtain⟨n,hn,g⟩:=n;simp only;repeat'(first|exact trivial|refine eS rfl ?_|refine AB ?_|refine rX d ?_ ?_|refine rC ?_ ?_<;>intro c<;>try(cases c;done))
  ·constructor
   ·exact eV
   ·intro h;refine⟨?_,?_⟩<;>exact eV
  ·exact eV
  ·obtain⟨h1,a⟩:=c;obtain⟨m,rfl⟩:∃m,n=m+1:=⟨n-1,by omega⟩;have e:(((m+1:Nat):Int)-1)=(m:Int):=by omega
   rw[e]at a;have a:b.getD m 0=0:=a;have j:CX b m=CX b b.length:=by
    rw[←g];show _=if b.getD m 0=0 then CX b m else m+1
    rw[BY a]
   refine⟨⟨m,by omega,j⟩,by simp,AC [] rfl rfl ?_ ?_⟩
   ·first|exact eN|refine eM ?_
   ·simp only[e];first|exact eN|refine eM ?_
  ·have k:=AAo n b;simp only[AO];exact⟨oF.2 hn,by dsimp only[Ty.den]at *;omega⟩
  ·have i:CX b n=n:=by
    cases n with
    | zero=>rfl
    | succ m =>
     have e:(((m+1:Nat):Int)-1)=(m:Int):=by omega
     rw[e]at c;have a:=c (by omega);have a:¬b.getD m 0=0:=a;show (if b.getD m 0=0 then CX b m else m+1)=m+1;rw[At a]
   have h1:BI b=b.take n:=by unfold BI;rw[←g,i]
   rw[←h1];refine GP [18] ?_;exact fI d [.tmp 2]
end
section
attribute [local go_sem] eZ Kp
def zF (w:Int) (r:Int):Bool:=B6 .and .u64 (VY .u64 w r) 1==1
def Qk (b:List Int) (i:Int):Bool:=if (decide (i<0)||decide ((b.length:Int)≤i.tdiv 64))=true then false else zF (b.getD (i.tdiv 64).toNat 0) (i.tmod 64)
def zG:Ac:={ ins:=[D7,T3],pre:=fun _=>True,out:=fun(b,i,_)=>[.p .bool (Qk b i)],lend:=true }
theorem A3D {w:Int} (h0:0≤w) (r:Int):0≤VY .u64 w r∧VY .u64 w r≤w:=by
 unfold VY;have hp:(0:Int)<2 ^ (min r.toNat IntKind.u64.bits):=Int.pow_pos (by decide);rw[ABH _ (Int.le_of_lt hp)];exact⟨Int.ediv_nonneg h0 (Int.le_of_lt hp),Int.ediv_le_self _ h0⟩
theorem zH:Ah Tryz.prog 135 zG:=by
 refine fK [0,1,4,13] Tryz.func135 Tryz.ntmps135 AG ?_;rintro w0 O0 ⟨b,i,u⟩ d ⟨⟨m,k⟩,e,-⟩ -;have e:K9 .i64 i:=e;rw[Iw]at e;have j:0≤i→Int.tdiv i 64=i / 64∧Int.tmod i 64=i % 64:=fun h=>⟨AAp h,ABj h⟩;simp only[zG,AM];repeat'(first|exact trivial|refine eS rfl ?_|refine AB ?_|refine rX d ?_ ?_|refine rC ?_ ?_<;>intro c<;>try(cases c;done))
 ·intro h;have h0:0≤i:=by simpa using h
  obtain⟨a,g⟩:=j h0;rw[a];refine⟨by decide,?_,?_⟩<;>exact eV
 ·have h1:Qk b i=false:=by
   unfold Qk;rw[BY];rw[iN,By,By];exact c
  exact fI d [.tmp 4] (by rw[h1];exact eR)
 ·obtain⟨h0,l⟩:=c;obtain⟨a,g⟩:=j h0;rw[a]at l;have f:K9 .u64 (b.getD (i / 64).toNat 0):=k _ (AD b 0 (by exact eV));rw[Hb]at f;have hs:=A3D f.1 (i % 64);rw[a,g];refine⟨⟨by decide,by exact eV,by exact eV⟩,⟨by exact eV,by exact eV⟩,⟨by decide,by exact eV,by exact eV⟩,⟨by exact eV,by exact eV⟩,by exact eV,hs.1,AB5 hs.2 f.2⟩
 ·have h1:Qk b i=zF (b.getD (i.tdiv 64).toNat 0) (i.tmod 64):=by
   unfold Qk;rw[At];rw[iN,By,By];rintro (h|h)<;>omega
  exact fI d [.tmp 4] (by rw[h1];unfold zF;exact eR)
end
section
attribute [local go_sem] eZ Kp
def GR (op:BinOp) (a b:List Int) (n:Nat):List Int:=(List.range n).map fun i=>B6 op .u64 (a.getD i 0) (F8 b (i:Int))
theorem Eh (op:BinOp) (a b:List Int) (n:Nat):(GR op a b n).length=n:=by simp[GR]
theorem Wp (op:BinOp) (a b:List Int) (n:Nat):GR op a b (n+1)=GR op a b n++[B6 op .u64 (a.getD n 0) (F8 b (n:Int))]:=by simp[GR,AAc]
def EP (a b:List Int):List Int:=BI (GR .and a b a.length)
def zI:Ac:={ ins:=[D7,D7],pre:=fun(a,_,_)=>List.length a≤100000,out:=fun(a,b,_)=>[.p D7 (EP a b)] }
theorem kJ:Ah Tryz.prog 112 zI:=by
 refine fK [0,1,4,5,6,10] Tryz.func112 Tryz.ntmps112 (AE nU (AE Mm AG)) ?_;rintro w0 O0 ⟨a,b,u⟩ d-ha;have ha:a.length≤100000:=ha;simp only[zI,AM];repeat'(first|exact trivial|refine eS rfl ?_|refine AB ?_|refine rX d ?_ ?_|refine rC ?_ ?_<;>intro c<;>try(cases c;done))
 refine AI (ι:={n:Nat//n≤a.length}) (fun n=>⟨[(0,.p D7 a),(1,.p D7 b),(5,.sr 23 O4 0 n.1),(6,.p (.int .i64) (n.1:Int))],[(23,.arr 155 O4 (GR .and a b n.1))]⟩) (fun n=>a.length-n.1) ⟨0,IN _⟩ (AC [(23,.nil)] rfl rfl ?_ ?_) (fun n=>?_)
 ·first|exact eN|refine eM ?_
  rfl
 ·first|exact eN|refine eM ?_
 ·obtain⟨n,hn⟩:=n;have g:=Eh .and a b n;have hs:=Wp .and a b n;simp only;repeat'(first|exact trivial|refine eS rfl ?_|refine AB ?_|refine rX d ?_ ?_|refine rC ?_ ?_<;>intro c<;>try(cases c;done))
  ·refine⟨c,?_⟩;simp only[AO];dsimp only[Ty.den]at *;omega
  ·exact eV
  ·have e:n<a.length:=by exact eV
   refine⟨⟨n+1,by omega⟩,by simp only;omega,AC [(23,.nm 23)] rfl rfl ?_ ?_⟩
   ·simp only[hs];first|exact eN|refine eM ?_
    rw[As (by rw[g];exact NO _)]
   ·first|exact eN|refine eM ?_
  ·have e:n=a.length:=by exact eV
   subst e;refine GP [23] ?_;have f:(GR .and a b a.length).take a.length=GR .and a b a.length:=As (by rw[Eh];exact NO _);repeat'(first|exact trivial|refine eS rfl ?_|refine AB ?_|refine rX d ?_ ?_|refine rC ?_ ?_<;>intro c<;>try(cases c;done))
   ·rw[f,Eh];exact ha
   ·rw[f];exact fI d [.tmp 4] (by unfold EP;exact eR)
def Ql (a b:List Int):List Int:=BI (GR .andNot a b a.length)
def kK:Ac:={ ins:=[D7,D7],pre:=fun(a,_,_)=>List.length a≤100000,out:=fun(a,b,_)=>[.p D7 (Ql a b)] }
attribute [local go_sem] kK
theorem zJ:Ah Tryz.prog 109 kK:=by
 refine fK [0,1,4,5,6,10] Tryz.func109 Tryz.ntmps109 (AE nU (AE Mm AG)) ?_;rintro w0 O0 ⟨a,b,u⟩ d-ha;have ha:a.length≤100000:=ha;simp only[kK,AM];repeat'(first|exact trivial|refine eS rfl ?_|refine AB ?_|refine rX d ?_ ?_|refine rC ?_ ?_<;>intro c<;>try(cases c;done))
 refine AI (ι:={n:Nat//n≤a.length}) (fun n=>⟨[(0,.p D7 a),(1,.p D7 b),(5,.sr 23 O4 0 n.1),(6,.p (.int .i64) (n.1:Int))],[(23,.arr 155 O4 (GR .andNot a b n.1))]⟩) (fun n=>a.length-n.1) ⟨0,IN _⟩ (AC [(23,.nil)] rfl rfl ?_ ?_) (fun n=>?_)
 ·first|exact eN|refine eM ?_
  rfl
 ·first|exact eN|refine eM ?_
 ·obtain⟨n,hn⟩:=n;have g:=Eh .andNot a b n;have hs:=Wp .andNot a b n;simp only;repeat'(first|exact trivial|refine eS rfl ?_|refine AB ?_|refine rX d ?_ ?_|refine rC ?_ ?_<;>intro c<;>try(cases c;done))
  ·refine⟨c,?_⟩;simp only[AO];dsimp only[Ty.den]at *;omega
  ·exact eV
  ·have e:n<a.length:=by exact eV
   refine⟨⟨n+1,by omega⟩,by simp only;omega,AC [(23,.nm 23)] rfl rfl ?_ ?_⟩
   ·simp only[hs];first|exact eN|refine eM ?_
    rw[As (by rw[g];exact NO _)]
   ·first|exact eN|refine eM ?_
  ·have e:n=a.length:=by exact eV
   subst e;refine GP [23] ?_;have f:(GR .andNot a b a.length).take a.length=GR .andNot a b a.length:=As (by rw[Eh];exact NO _);repeat'(first|exact trivial|refine eS rfl ?_|refine AB ?_|refine rX d ?_ ?_|refine rC ?_ ?_<;>intro c<;>try(cases c;done))
   ·rw[f,Eh];exact ha
   ·rw[f];exact fI d [.tmp 4] (by unfold Ql;exact eR)
def FB (a b:List Int):Bool:=((Ql a b).length:Int)==0
def PK:Ac:={ ins:=[D7,D7],pre:=fun(a,_,_)=>List.length a≤100000,out:=fun(a,b,_)=>[.p .bool (FB a b)],lend:=true }
attribute [local go_sem] PK
theorem Wq:Ah Tryz.prog 71 PK:=by
 refine fK [0,1,4] Tryz.func71 Tryz.ntmps71 (AE zJ AG) ?_;rintro w0 O0 ⟨a,b,u⟩ c-ha;have ha:a.length≤100000:=ha;simp only[PK,AM];repeat'(first|exact trivial|refine eS rfl ?_|refine AB ?_|refine rX c ?_ ?_|refine rC ?_ ?_<;>intro d<;>try(cases d;done))
 ·exact ha
 ·exact fI c [.tmp 4] (by unfold FB;exact eR)
def DK (a b:List Int):Bool:=FB a b&&FB b a
def YK:Ac:={ ins:=[D7,D7],pre:=fun(a,b,_)=>List.length a≤100000∧List.length b≤100000,out:=fun(a,b,_)=>[.p .bool (DK a b)],lend:=true }
theorem rT:Ah Tryz.prog 134 YK:=by
 refine fK [0,1,4] Tryz.func134 Tryz.ntmps134 (AE Wq AG) ?_;rintro w0 O0 ⟨a,b,u⟩ c-⟨ha,e⟩;simp only[YK,AM];repeat'(first|exact trivial|refine eS rfl ?_|refine AB ?_|refine rX c ?_ ?_|refine rC ?_ ?_<;>intro d<;>try(cases d;done))
 ·exact⟨ha,fun _=>e⟩
 ·exact fI c [.tmp 4] (by unfold DK;exact eR)
end
section
attribute [local go_sem] zG
def F9 (a b:List Int):Bool:=decide (a=b)
def UC:Ac:={ ins:=[D7,D7],pre:=fun _=>True,out:=fun(a,b,_)=>[.p .bool (F9 a b)],lend:=true }
theorem YL:Ah Tryz.prog 125 UC:=by
 refine fK [0,1,4,5,10,14,25] Tryz.func125 Tryz.ntmps125 AG ?_;rintro w0 O0 ⟨a,b,u⟩ d ⟨⟨ha,-⟩,-⟩ -;simp only[AO]at ha;simp only[UC,AM];repeat'(first|exact trivial|refine eS rfl ?_|refine AB ?_|refine rX d ?_ ?_|refine rC ?_ ?_<;>intro c<;>try(cases c;done))
 ·have h1:F9 a b=false:=by
   unfold F9;rw[On];rintro rfl;exact c rfl
  exact fI d [.tmp 4] (by rw[h1];exact eR)
 ·have f:a.length=b.length:=by
   have:(a.length:Int)=(b.length:Int):=by simpa using c
   exact Int.ofNat_inj.1 this
  refine AI (ι:={k:Nat//k≤a.length∧a.take k=b.take k}) (fun k=>⟨[(0,.p D7 a),(1,.p D7 b),(5,.p (.int .i64) (k.1:Int))],[]⟩) (fun k=>a.length-k.1) ⟨0,IN _,rfl⟩ (AC [] rfl rfl ?_ ?_) (fun k=>?_)
  ·first|exact eN|refine eM ?_
  ·first|exact eN|refine eM ?_
  ·obtain⟨k,hk,hf⟩:=k;simp only;repeat'(first|exact trivial|refine eS rfl ?_|refine AB ?_|refine rX d ?_ ?_|refine rC ?_ ?_<;>intro c<;>try(cases c;done))
   ·exact⟨c,by rw[←f];exact c⟩
   ·have e:k<a.length:=by exact eV
    have h1:F9 a b=false:=by
     unfold F9;rw[On];rintro rfl;exact c rfl
    exact fI d [.tmp 4] (by rw[h1];exact eR)
   ·exact eV
   ·have e:k<a.length:=by exact eV
    have g:a.getD k 0=b.getD k 0:=by simpa using c
    refine⟨⟨k+1,by omega,?_⟩,by simp only;omega,AC [] rfl rfl ?_ ?_⟩
    ·rw[Ab a 0 e,Ab b 0 (by omega),hf];rw[show a.getD k 0=b.getD k 0 from g]
    ·first|exact eN|refine eM ?_
    ·first|exact eN|refine eM ?_
   ·have e:k=a.length:=by exact eV
    subst e;rw[f5,f,f5]at hf;have h1:F9 a b=true:=by unfold F9;rw[hf];simp
    exact fI d [.tmp 4] (by rw[h1];exact eR)
end
section
attribute [local go_sem] zG
def NR (b:List Int) (n:Nat):List Int:=((List.range n).filter fun(i:Nat)=>Qk b (i:Int)).map fun(i:Nat)=>(i:Int)
def IM (b:List Int):List Int:=NR b (64*b.length)
theorem kL (b:List Int) (n:Nat):NR b (n+1)=NR b n++if Qk b (n:Int)=true then [(n:Int)] else []:=by
 unfold NR;rw[AAc,AAZ,AAx]
 congr 1
 rw[AAn,ABE];split<;>rfl
theorem rU (b:List Int) (n:Nat):(NR b n).length≤n:=by
 unfold NR;rw[nO];exact To (AAv _ _) (by simp)
def zK:Ac:={ ins:=[D7],pre:=fun(b,_)=>List.length b≤100000,out:=fun(b,_)=>[.p I4 (IM b)] }
attribute [local go_sem] zK
theorem A24:Ah Tryz.prog 156 zK:=by
 refine fK [0,2,3,4,9,14] Tryz.func156 Tryz.ntmps156 (AE zH AG) ?_;rintro w0 O0 ⟨b,u⟩ c-e;have e:b.length≤100000:=e;simp only[zK,AM];repeat'(first|exact trivial|refine eS rfl ?_|refine AB ?_|refine rX c ?_ ?_|refine rC ?_ ?_<;>intro a<;>try(cases a;done))
 refine AI (ι:={n:Nat//n≤64*b.length}) (fun n=>⟨[(0,.p D7 b),(3,.sr 18 T3 0 (NR b n.1).length),(4,.p (.int .i64) (n.1:Int))],[(18,.arr 3 T3 (NR b n.1))]⟩) (fun n=>64*b.length-n.1) ⟨0,IN _⟩ (AC [(18,.nil)] rfl rfl ?_ ?_) (fun n=>?_)
 ·first|exact eN|refine eM ?_
  rfl
 ·first|exact eN|refine eM ?_
  rfl
 ·obtain⟨n,hn⟩:=n;have f:=rU b n;have hs:=kL b n;simp only;repeat'(first|exact trivial|refine eS rfl ?_|refine AB ?_|refine rX c ?_ ?_|refine rC ?_ ?_<;>intro a<;>try(cases a;done))
  ·exact eV
  ·rw[a,BY rfl]at hs;simp only[AO];dsimp only[Ty.den]at *;omega
  ·exact eV
  ·have d:n<64*b.length:=by exact eV
   rw[a,BY rfl]at hs;refine⟨⟨n+1,by omega⟩,by simp only;omega,AC [(18,.nm 18)] rfl rfl ?_ ?_⟩
   ·simp only[hs];first|exact eN|refine eM ?_
   ·simp only[hs];first|exact eN|refine eM ?_
  ·exact eV
  ·have d:n<64*b.length:=by exact eV
   rw[a,At (by simp),AAa]at hs;refine⟨⟨n+1,by omega⟩,by simp only;omega,AC [(18,.nm 18)] rfl rfl ?_ ?_⟩
   ·simp only[hs];first|exact eN|refine eM ?_
   ·simp only[hs];first|exact eN|refine eM ?_
  ·have d:n=64*b.length:=by exact eV
   subst d;refine GP [18] ?_;exact fI c [.tmp 2] (by unfold IM;exact eR)
def kM:Ac:={ ins:=[D7],pre:=fun(b,_)=>List.length b≤100000,out:=fun(b,_)=>[.p T3 ((IM b).length:Int)],lend:=true }
theorem zL:Ah Tryz.prog 137 kM:=by
 refine fK [0,2] Tryz.func137 Tryz.ntmps137 (AE A24 AG) ?_;rintro w0 O0 ⟨b,u⟩ a-d;simp only[kM,AM];repeat'(first|exact trivial|refine eS rfl ?_|refine AB ?_|refine rX a ?_ ?_|refine rC ?_ ?_<;>intro c<;>try(cases c;done))
 ·exact d
 ·exact fI a [.tmp 2]
end
section
attribute [local go_sem] Ja zD
abbrev AH:=ByteArray×List ByteArray×List (ByteArray×ByteArray)
abbrev d0:AH:=(ByteArray.empty,[],[])
def Cq (s:ByteArray):Nat→List AH→Int
 | _,[]=>-1
 | k,x :: l=>if Aa x.1 s=true then (k:Int) else Cq s (k+1) l
def Aj (l:List AH) (s:ByteArray):Int:=Cq s 0 l
theorem Rk (s:ByteArray) (l:List AH) {k:Nat} (h:k<l.length):Cq s k (l.drop k)=if Aa (l.getD k d0).1 s=true then (k:Int) else Cq s (k+1) (l.drop (k+1)):=by
 rw[OS h];have e:l.getD k d0=l[k]:=by simp[AS,h]
 rw[e];rfl
def Nu:Ac:={ ins:=[E5,T9],pre:=fun _=>True,out:=fun(l,s,_)=>[.p T3 (Aj l s)] }
attribute [local go_sem] Nu
theorem L4:Ah Tryz.prog 152 Nu:=by
 refine fK [0,1,4,5,9,18] Tryz.func152 Tryz.ntmps152 AG ?_;rintro w0 O0 ⟨l,s,u⟩ c ⟨⟨d,-⟩,-⟩ -;simp only[AO]at d;simp only[Nu,AM];repeat'(first|exact trivial|refine eS rfl ?_|refine AB ?_|refine rX c ?_ ?_|refine rC ?_ ?_<;>intro a<;>try(cases a;done))
 refine AI (ι:={k:Nat//k≤l.length∧Cq s k (l.drop k)=Aj l s}) (fun k=>⟨[(0,.p E5 l),(1,.p T9 s),(5,.p (.int .i64) (k.1:Int))],[]⟩) (fun k=>l.length-k.1) ⟨0,IN _,rfl⟩ (AC [] rfl rfl ?_ ?_) (fun k=>?_)
 ·first|exact eN|refine eM ?_
 ·first|exact eN|refine eM ?_
 ·obtain⟨k,hk,hf⟩:=k;simp only;repeat'(first|exact trivial|refine eS rfl ?_|refine AB ?_|refine rX c ?_ ?_|refine rC ?_ ?_<;>intro a<;>try(cases a;done))
  ·exact a
  ·have b:k<l.length:=by exact eV
   rw[Rk s l b,BY a]at hf;exact fI c [.tmp 4] (by rw[←hf];exact eR)
  ·exact eV
  ·have b:k<l.length:=by exact eV
   rw[Rk s l b,At (by rw[a];simp)]at hf;refine⟨⟨k+1,by omega,hf⟩,by simp only;omega,AC [] rfl rfl ?_ ?_⟩
   ·first|exact eN|refine eM ?_
   ·first|exact eN|refine eM ?_
  ·have b:l.drop k=[]:=IF (by exact eV);rw[b]at hf;exact fI c [.tmp 4] (by rw[←hf];first|exact eR|refine Zr ?_;rfl)
def L5:List AH→Int
 | []=>0
 | x :: l=>if 256<x.2.1.length∨256<x.2.2.length then 7 else L5 l
def Ey (l:List AH):Int:=if 256<l.length then 7 else L5 l
theorem Rl (l:List AH) {k:Nat} (h:k<l.length):L5 (l.drop k)=if 256<(l.getD k d0).2.1.length∨256<(l.getD k d0).2.2.length then 7 else L5 (l.drop (k+1)):=by
 rw[OS h];have e:l.getD k d0=l[k]:=by simp[AS,h]
 rw[e];rfl
def YM:Ac:={ ins:=[E5],pre:=fun _=>True,out:=fun(l,_)=>[.p Th (Ey l)] }
attribute [local go_sem] YM
theorem zM:Ah Tryz.prog 126 YM:=by
 refine fK [0,2,3,6,10,28] Tryz.func126 Tryz.ntmps126 AG ?_;rintro w0 O0 ⟨l,u⟩ b ⟨⟨d,-⟩,-⟩ -;simp only[AO]at d;simp only[YM,AM];repeat'(first|exact trivial|refine eS rfl ?_|refine AB ?_|refine rX b ?_ ?_|refine rC ?_ ?_<;>intro a<;>try(cases a;done))
 ·have h1:Ey l=7:=by unfold Ey;rw[BY (by exact eV)]
  exact fI b [.tmp 2] (by rw[h1];exact eR)
 ·have h1:Ey l=L5 l:=by unfold Ey;rw[At (by exact eV)]
  refine AI (ι:={k:Nat//k≤l.length∧L5 (l.drop k)=Ey l}) (fun k=>⟨[(0,.p E5 l),(3,.p (.int .i64) (k.1:Int))],[]⟩) (fun k=>l.length-k.1) ⟨0,IN _,h1.symm⟩ (AC [] rfl rfl ?_ ?_) (fun k=>?_)
  ·first|exact eN|refine eM ?_
  ·first|exact eN|refine eM ?_
  ·obtain⟨k,hk,hf⟩:=k;simp only;repeat'(first|exact trivial|refine eS rfl ?_|refine AB ?_|refine rX b ?_ ?_|refine rC ?_ ?_<;>intro a<;>try(cases a;done))
   ·exact⟨a,fun _=>a⟩
   ·have c:k<l.length:=by exact eV
    rw[Rl l c,BY (by
     rcases a with h|h
     ·exact .inl (IS.1 h)
     ·exact .inr (IS.1 h))]at hf
    exact fI b [.tmp 2] (by rw[←hf];exact eR)
   ·exact eV
   ·have c:k<l.length:=by exact eV
    rw[Rl l c,At (by
     rintro (h|h)
     ·have:=oF.1 a.1;exact absurd h (Nat.not_lt.2 this)
     ·have:=oF.1 a.2;exact absurd h (Nat.not_lt.2 this))]at hf
    refine⟨⟨k+1,by omega,hf⟩,by simp only;omega,AC [] rfl rfl ?_ ?_⟩
    ·first|exact eN|refine eM ?_
    ·first|exact eN|refine eM ?_
   ·have c:l.drop k=[]:=IF (by exact eV);rw[c]at hf;exact fI b [.tmp 2] (by rw[←hf];first|exact eR|refine Zr ?_;rfl)
theorem GS {α:Type} (l:List α) (d:α) (p:α→Bool) {k:Nat} (h:k<l.length):(l.take (k+1)).all p=((l.take k).all p&&p (l.getD k d)):=by
 rw[Ab l d h,ABy];simp
def Xk (x:AH) (done:List ByteArray):Bool:=x.2.1.all fun s=>AW done s
def YN:Ac:={ ins:=[qN,B5],pre:=fun _=>True,out:=fun(x,l,_)=>[.p .bool (Xk x l)],lend:=true }
attribute [local go_sem] YN
theorem zN:Ah Tryz.prog 153 YN:=by
 refine fK [0,1,2,4,5,10,20] Tryz.func153 Tryz.ntmps153 (AE Gp AG) ?_;rintro w0 O0 ⟨⟨nm,sup,d⟩,l,u⟩ c ⟨⟨-,⟨e,-⟩,-⟩,-⟩ -;simp only[AO]at e;simp only[YN,AM];repeat'(first|exact trivial|refine eS rfl ?_|refine AB ?_|refine rX c ?_ ?_|refine rC ?_ ?_<;>intro a<;>try(cases a;done))
 refine AI (ι:={k:Nat//k≤sup.length∧(sup.take k).all (fun s=>AW l s)=true}) (fun k=>⟨[(1,.p B5 l),(2,.bp 2 [] 0),(5,.p (.int .i64) (k.1:Int))],[(2,.box 111 true [.p T9 nm,.p B5 sup,.p Zu d])]⟩) (fun k=>sup.length-k.1) ⟨0,by simp⟩ (AC [(2,.nm 2)] rfl rfl ?_ ?_) (fun k=>?_)
 ·first|exact eN|refine eM ?_
 ·first|exact eN|refine eM ?_
 ·obtain⟨k,hk,hf⟩:=k;simp only;repeat'(first|exact trivial|refine eS rfl ?_|refine AB ?_|refine rX c ?_ ?_|refine rC ?_ ?_<;>intro a<;>try(cases a;done))
  ·exact a
  ·have b:k<sup.length:=by exact eV
   have h1:Xk (nm,sup,d) l=false:=by
    unfold Xk;refine ABV.2 fun h=>?_;have:=Do.1 h _ (AD sup ByteArray.empty b);rw[a]at this;cases this
   exact fI c [.tmp 4] (by rw[h1];exact eR)
  ·have:=e;exact eV
  ·have b:k<sup.length:=by exact eV
   refine⟨⟨k+1,by omega,?_⟩,by simp only;omega,AC [(2,.nm 2)] rfl rfl ?_ ?_⟩
   ·rw[GS sup ByteArray.empty _ b,hf];exact a
   ·first|exact eN|refine eM ?_
   ·first|exact eN|refine eM ?_
  ·have b:sup.take k=sup:=As (by exact eV);rw[b]at hf;have h1:Xk (nm,sup,d) l=true:=hf;exact fI c [.tmp 4] (by rw[h1];exact eR)
def Nv (d:List AH):Nat→List AH→Int
 | _,[]=>0
 | k,x :: l=>if Eg x.1 false=false then 1 else if Aj d x.1<(k:Int) then 4 else Nv d (k+1) l
def Cb (d:List AH):Int:=Nv d 0 d
theorem L6 (d l:List AH) {k:Nat} (h:k<l.length):Nv d k (l.drop k)=if Eg (l.getD k d0).1 false=false then 1 else if Aj d (l.getD k d0).1<(k:Int) then 4 else Nv d (k+1) (l.drop (k+1)):=by
 rw[OS h];have e:l.getD k d0=l[k]:=by simp[AS,h]
 rw[e];rfl
def YO:Ac:={ ins:=[E5],pre:=fun _=>True,out:=fun(l,_)=>[.p Th (Cb l)] }
attribute [local go_sem] YO
theorem zO:Ah Tryz.prog 127 YO:=by
 refine fK [0,2,3,7,16,25] Tryz.func127 Tryz.ntmps127 (AE A23 (AE L4 AG)) ?_;rintro w0 O0 ⟨l,u⟩ c ⟨⟨e,-⟩,-⟩ -;simp only[AO]at e;simp only[YO,AM];repeat'(first|exact trivial|refine eS rfl ?_|refine AB ?_|refine rX c ?_ ?_|refine rC ?_ ?_<;>intro a<;>try(cases a;done))
 refine AI (ι:={k:Nat//k≤l.length∧Nv l k (l.drop k)=Cb l}) (fun k=>⟨[(0,.p E5 l),(3,.p (.int .i64) (k.1:Int))],[]⟩) (fun k=>l.length-k.1) ⟨0,IN _,rfl⟩ (AC [] rfl rfl ?_ ?_) (fun k=>?_)
 ·first|exact eN|refine eM ?_
 ·first|exact eN|refine eM ?_
 ·obtain⟨k,hk,hf⟩:=k;simp only;repeat'(first|exact trivial|refine eS rfl ?_|refine AB ?_|refine rX c ?_ ?_|refine rC ?_ ?_<;>intro a<;>try(cases a;done))
  ·exact a
  ·have b:k<l.length:=by exact eV
   rw[L6 l l b,BY a]at hf;exact fI c [.tmp 2] (by rw[←hf];exact eR)
  ·assumption
  ·rename_i d;have b:k<l.length:=by exact eV
   rw[L6 l l b,At (by rw[d];simp),BY a]at hf;exact fI c [.tmp 2] (by rw[←hf];exact eR)
  ·exact eV
  ·rename_i d;have b:k<l.length:=by exact eV
   rw[L6 l l b,At (by rw[d];simp),At (AAO.2 a)]at hf;refine⟨⟨k+1,by omega,hf⟩,by simp only;omega,AC [] rfl rfl ?_ ?_⟩
   ·first|exact eN|refine eM ?_
   ·first|exact eN|refine eM ?_
  ·have b:l.drop k=[]:=IF (by exact eV);rw[b]at hf;exact fI c [.tmp 2] (by rw[←hf];first|exact eR|refine Zr ?_;rfl)
def SF (d:List AH) (l:List ByteArray):Nat→List ByteArray→Int
 | _,[]=>0
 | k,x :: r=>if Aj d x<0 then 5 else if AW (l.take k) x=true then 4 else SF d l (k+1) r
def Kq (d:List AH):List AH→Int
 | []=>0
 | x :: l=>if SF d x.2.1 0 x.2.1≠0 then SF d x.2.1 0 x.2.1 else Kq d l
def Kr (d:List AH):Int:=Kq d d
theorem Qm (d:List AH) (l:List ByteArray) {k:Nat} (h:k<l.length):SF d l k (l.drop k)=if Aj d (l.getD k ByteArray.empty)<0 then 5 else if AW (l.take k) (l.getD k ByteArray.empty)=true then 4 else SF d l (k+1) (l.drop (k+1)):=by
 rw[OS h];have e:l.getD k ByteArray.empty=l[k]:=by simp[AS,h]
 rw[e];rfl
theorem YP (d l:List AH) {k:Nat} (h:k<l.length):Kq d (l.drop k)=if SF d (l.getD k d0).2.1 0 (l.getD k d0).2.1≠0 then SF d (l.getD k d0).2.1 0 (l.getD k d0).2.1 else Kq d (l.drop (k+1)):=by
 rw[OS h];have e:l.getD k d0=l[k]:=by simp[AS,h]
 rw[e];rfl
def Sf:Ac:={ ins:=[E5],pre:=fun _=>True,out:=fun(l,_)=>[.p Th (Kr l)] }
attribute [local go_sem] Sf
theorem rV:Ah Tryz.prog 128 Sf:=by
 refine fK [0,2,3,4,5,9,20,29,37] Tryz.func128 Tryz.ntmps128 (AE Gp (AE L4 AG)) ?_;rintro w0 O0 ⟨l,u⟩ d ⟨⟨h,g⟩,-⟩ -;simp only[AO]at h;simp only[Sf,AM];repeat'(first|exact trivial|refine eS rfl ?_|refine AB ?_|refine rX d ?_ ?_|refine rC ?_ ?_<;>intro a<;>try(cases a;done))
 refine AI (ι:={i:Nat//i≤l.length∧Kq l (l.drop i)=Kr l}) (fun i=>⟨[(0,.p E5 l),(3,.p (.int .i64) (i.1:Int))],[]⟩) (fun i=>l.length-i.1) ⟨0,IN _,rfl⟩ (AC [] rfl rfl ?_ ?_) (fun i=>?_)
 ·first|exact eN|refine eM ?_
 ·first|exact eN|refine eM ?_
 ·obtain⟨i,hi,hf⟩:=i;simp only;repeat'(first|exact trivial|refine eS rfl ?_|refine AB ?_|refine rX d ?_ ?_|refine rC ?_ ?_<;>intro a<;>try(cases a;done))
  ·exact a
  ·have f:i<l.length:=by exact eV
   have j:=g _ (AD l d0 f);have m:(l.getD i d0).2.1.length≤AO:=j.2.1.1;simp only[AO]at m;rw[YP l l f]at hf;generalize (l.getD i d0).2.1=sup at *;refine AI (ι:={k:Nat//k≤sup.length∧SF l sup k (sup.drop k)=SF l sup 0 sup}) (fun k=>⟨[(0,.p E5 l),(3,.p (.int .i64) (i:Int)),(4,.p B5 sup),(5,.p (.int .i64) (k.1:Int))],[]⟩) (fun k=>sup.length-k.1) ⟨0,IN _,rfl⟩ (AC [] rfl rfl ?_ ?_) (fun k=>?_)
   ·first|exact eN|refine eM ?_
   ·first|exact eN|refine eM ?_
   ·obtain⟨k,hk,c⟩:=k;simp only;repeat'(first|exact trivial|refine eS rfl ?_|refine AB ?_|refine rX d ?_ ?_|refine rC ?_ ?_<;>intro a<;>try(cases a;done))
    ·exact a
    ·have b:k<sup.length:=by exact eV
     rw[Qm l sup b,BY a]at c;rw[←c,BY (by decide)]at hf;exact fI d [.tmp 2] (by rw[←hf];exact eR)
    ·exact eV
    ·rename_i e;have b:k<sup.length:=by exact eV
     rw[Qm l sup b,At (AAO.2 e),BY a]at c;rw[←c,BY (by decide)]at hf;exact fI d [.tmp 2] (by rw[←hf];exact eR)
    ·exact eV
    ·rename_i e;have b:k<sup.length:=by exact eV
     rw[Qm l sup b,At (AAO.2 e),At (by rw[a];simp)]at c;refine⟨⟨k+1,by omega,c⟩,by simp only;omega,AC [] rfl rfl ?_ ?_⟩
     ·first|exact eN|refine eM ?_
     ·first|exact eN|refine eM ?_
    ·exact eV
    ·have b:sup.drop k=[]:=IF (by exact eV);rw[b]at c;rw[←c,At (by simp[SF])]at hf;refine⟨⟨i+1,by omega,hf⟩,by simp only;omega,AC [] rfl rfl ?_ ?_⟩
     ·first|exact eN|refine eM ?_
     ·first|exact eN|refine eM ?_
  ·have b:l.drop i=[]:=IF (by exact eV);rw[b]at hf;exact fI d [.tmp 2] (by rw[←hf];first|exact eR|refine Zr ?_;rfl)
end
section
attribute [local go_sem] Nu YN Ja YJ
theorem Eq {α β:Type} (g:β→α→β) (l:List α) (d:α) (t:β) {i:Nat} (hi:i<l.length):(l.take (i+1)).foldl g t=g ((l.take i).foldl g t) (l.getD i d):=by
 rw[Ab l d hi,ABw];rfl
theorem L7 (l:List ByteArray) (s:ByteArray):(EO l s).length≤l.length+1:=by
 unfold EO;split
 ·omega
 ·have:=A2Z (fun x=>HJ x s) l;have a:tU l s≤l.length:=this;simp only[OR,SH,AAV,iF];omega
def AN (l:List AH):List ByteArray:=l.foldl (fun o x=>EO o x.1) []
theorem Dp (l:List AH) (k:Nat):(AN (l.take k)).length≤k:=by
 have key:∀(l:List AH) (o:List ByteArray),(l.foldl (fun o x=>EO o x.1) o).length≤o.length+l.length:=by
  intro l;induction l with
  | nil=>intro o;simp
  | cons x l b =>
   intro o;have h1:=b (EO o x.1);have a:=L7 o x.1;simp only[TO,No];omega
 have h1:=key (l.take k) [];have a:=AAo k l;unfold AN;simp only[AAM]at h1;omega
def PM:Ac:={ ins:=[E5],pre:=fun(l,_)=>List.length l≤100000,out:=fun(l,_)=>[.p B5 (AN l)] }
attribute [local go_sem] PM
theorem Wr:Ah Tryz.prog 98 PM:=by
 refine fK [0,2,3,4,8] Tryz.func98 Tryz.ntmps98 (AE Qj AG) ?_;rintro w0 O0 ⟨l,u⟩ b-d;have d:l.length≤100000:=d;simp only[PM,AM];repeat'(first|exact trivial|refine eS rfl ?_|refine AB ?_|refine rX b ?_ ?_|refine rC ?_ ?_<;>intro a<;>try(cases a;done))
 refine AI (ι:={k:Nat//k≤l.length}) (fun k=>⟨[(0,.p E5 l),(3,.p B5 (AN (l.take k.1))),(4,.p (.int .i64) (k.1:Int))],[]⟩) (fun k=>l.length-k.1) ⟨0,IN _⟩ (AC [] rfl rfl ?_ ?_) (fun k=>?_)
 ·first|exact eN|refine eM ?_
 ·first|exact eN|refine eM ?_
  rfl
 ·obtain⟨k,hk⟩:=k;have hn:=Dp l k;have hs:=fun h:k<l.length=>Eq (fun(o:List ByteArray) (x:AH)=>EO o x.1) l d0 [] h;simp only;repeat'(first|exact trivial|refine eS rfl ?_|refine AB ?_|refine rX b ?_ ?_|refine rC ?_ ?_<;>intro a<;>try(cases a;done))
  ·exact⟨a,by omega⟩
  ·exact eV
  ·have c:k<l.length:=by exact eV
   have e:=hs c;refine⟨⟨k+1,by omega⟩,by simp only;omega,AC [] rfl rfl ?_ ?_⟩
   ·first|exact eN|refine eM ?_
   ·simp only;have e:AN (l.take (k+1))=EO (AN (l.take k)) (l.getD k d0).1:=e;rw[e];first|exact eN|refine eM ?_
  ·have c:l.take k=l:=As (by exact eV);rw[c];exact fI b [.tmp 2]
def I6 (out:List ByteArray) (s:Bool×ByteArray) (x:AH):Bool×ByteArray :=
 if (AW out x.1||!Xk x out)=true then s else (true,if (!s.1||HJ x.1 s.2)=true then x.1 else s.2)
def IP (d:List AH) (out:List ByteArray):Bool×ByteArray:=d.foldl (I6 out) (false,ByteArray.empty)
def I7 (d:List AH):Nat→List ByteArray→List ByteArray
 | 0,out=>out
 | n+1,out=>if (IP d out).1=true then I7 d n (out++[(IP d out).2]) else out
def Bc (d:List AH):List ByteArray:=I7 d d.length []
def IQ (d:List AH) (out:List ByteArray):Nat:=d.countP fun x=>!AW out x.1
theorem Cr (s:ByteArray):Aa s s=true:=by unfold Aa;simp
theorem Nw (out:List ByteArray) (s x:ByteArray):AW (out++[s]) x=(AW out x||Aa s x):=by
 unfold AW;simp[ABx]
theorem rW (d:List AH) (out:List ByteArray) (h:(IP d out).1=true):∃x∈d,x.1=(IP d out).2∧AW out x.1=false:=by
 have key:∀(l:List AH) (s:Bool×ByteArray),(∀x∈l,x∈d)→(s.1=true→∃x∈d,x.1=s.2∧AW out x.1=false)→(l.foldl (I6 out) s).1=true →
   ∃x∈d,x.1=(l.foldl (I6 out) s).2∧AW out x.1=false:=by
  intro l;induction l with
  | nil=>intro s _ hs h;exact hs h
  | cons y l g =>
   intro s c hs h;rw[TO]at h ⊢;refine g _ (fun x e=>c x (by simp[e])) (fun hp=>?_) h;unfold I6 at hp ⊢;split
   ·rename_i a;rw[BY a]at hp;exact hs hp
   ·rename_i a;simp only;have f:AW out y.1=false:=by
     cases hh:AW out y.1 with
     | false=>rfl
     | true=>rw[hh]at a;simp at a
    split
    ·exact⟨y,c y (by simp),rfl,f⟩
    ·rename_i b;have:s.1=true:=by
      cases hh:s.1 with
      | true=>rfl
      | false=>rw[hh]at b;simp at b
     exact hs this
 exact key d _ (fun _ h=>h) (fun h=>by cases h) h
theorem e7 {d:List AH} {out:List ByteArray} (h:(IP d out).1=true):IQ d (out++[(IP d out).2])<IQ d out:=by
 obtain⟨x,e,h1,c⟩:=rW d out h;generalize (IP d out).2=s at *;unfold IQ;have key:∀l:List AH,(l.countP fun y=>!AW (out++[s]) y.1)≤l.countP fun y=>!AW out y.1:=by
  intro l;refine List.countP_mono_left fun y _ a=>?_;rw[Nw]at a;cases hh:AW out y.1 with
  | false=>rfl
  | true=>rw[hh]at a;simp at a
 obtain⟨f,g,rfl⟩:=List.append_of_mem e;rw[ACn,ACn,AB2,AB2];have i:=key f;have j:=key g;have b:AW (out++[s]) x.1=true:=by rw[Nw,h1,Cr,Bool.or_true]
 rw[b,c];simp only[ACa,ACr,AAC];simp only[AAJ,AAU];omega
def YQ:Ac:={ ins:=[E5],pre:=fun(l,_)=>List.length l≤100000,out:=fun(l,_)=>[.p B5 (Bc l)] }
theorem rZ:Ah Tryz.prog 129 YQ:=by
 refine fK [0,2,3,4,5,6,7,11,29,40,46] Tryz.func129 Tryz.ntmps129 (AE Gp (AE zN AG)) ?_;rintro w0 O0 ⟨d,u⟩ j-r;have r:d.length≤100000:=r;simp only[YQ,AM];repeat'(first|exact trivial|refine eS rfl ?_|refine AB ?_|refine rX j ?_ ?_|refine rC ?_ ?_<;>intro a<;>try(cases a;done))
 refine AI (ι:={x:Nat×List ByteArray×Bool//x.1+x.2.1.length≤d.length∧(x.2.2=true→IQ d x.2.1≤x.1∧I7 d x.1 x.2.1=Bc d)∧(x.2.2=false→x.2.1=Bc d)}) (fun x=>⟨[(0,.p E5 d),(3,.sr 50 T9 0 x.1.2.1.length),(4,.p .bool x.1.2.2)],[(50,.arr 9 T9 x.1.2.1)]⟩) (fun x=>(if x.1.2.2=true then x.1.1+1 else 0)) ⟨(d.length,[],true),by simp,fun _=>⟨AC2,rfl⟩,fun h=>by cases h⟩ (AC [(50,.nil)] rfl rfl ?_ ?_) (fun x=>?_)
 ·first|exact eN|refine eM ?_
 ·first|exact eN|refine eM ?_
 ·obtain⟨⟨n,out,C⟩,s,t,v⟩:=x;simp only at s t v;simp only;repeat'(first|exact trivial|refine eS rfl ?_|refine AB ?_|refine rX j ?_ ?_|refine rC ?_ ?_<;>intro a<;>try(cases a;done))
  ·subst a;obtain⟨hu,hp⟩:=t rfl;have B:({ data:=#[] }:ByteArray).size≤AO:=by decide
   rw[BY B];refine AI (ι:={y:Nat×Bool×ByteArray//y.1≤d.length∧(d.take y.1).foldl (I6 out) (false,ByteArray.empty)=y.2}) (fun y=>⟨[(0,.p E5 d),(3,.sr 50 T9 0 out.length),(4,.p .bool y.1.2.1),(5,.p T9 y.1.2.2),(6,.p (.int .i64) (y.1.1:Int))],[(50,.arr 9 T9 out)]⟩) (fun y=>d.length-y.1.1) ⟨(0,false,ByteArray.empty),by simp,rfl⟩ (AC [(50,.nm 50)] rfl rfl ?_ ?_) (fun y=>?_)
   ·first|exact eN|refine eM ?_
   ·first|exact eN|refine eM ?_
    rfl
   ·obtain⟨⟨k,w,b⟩,hk,c⟩:=y;simp only at hk c;have q:∀h:k<d.length,(d.take (k+1)).foldl (I6 out) (false,ByteArray.empty)=I6 out (w,b) (d.getD k d0):=fun h=>by
     rw[Eq (I6 out) d d0 _ h,c]
    simp only;repeat'(first|exact trivial|refine eS rfl ?_|refine AB ?_|refine rX j ?_ ?_|refine rC ?_ ?_<;>intro a<;>try(cases a;done))
    ·exact⟨a,fun _=>a⟩
    ·exact eV
    ·have g:k<d.length:=by exact eV
     refine⟨⟨(k+1,w,b),by simp only;omega,?_⟩,by simp only;omega,AC [(50,.nm 50)] rfl rfl ?_ ?_⟩
     ·simp only;rw[q g];unfold I6;rw[BY];rw[iN,OF];exact a
     ·first|exact eN|refine eM ?_
     ·first|exact eN|refine eM ?_
    ·exact fun _=>by assumption
    ·assumption
    ·exact eV
    ·rename_i f;have g:k<d.length:=by exact eV
     refine⟨⟨(k+1,true,(d.getD k d0).1),by simp only;omega,?_⟩,by simp only;omega,AC [(50,.nm 50)] rfl rfl ?_ ?_⟩
     ·simp only;rw[q g];unfold I6;rw[At (by rw[f.1,f.2];simp),BY (by rw[iN,OF];exact a)]
     ·first|exact eN|refine eM ?_
     ·first|exact eN|refine eM ?_
    ·exact eV
    ·rename_i f;have g:k<d.length:=by exact eV
     refine⟨⟨(k+1,true,b),by simp only;omega,?_⟩,by simp only;omega,AC [(50,.nm 50)] rfl rfl ?_ ?_⟩
     ·simp only;rw[q g];unfold I6;rw[At (by rw[f.1,f.2];simp),At (by rw[iN,OF];rintro (h|h)<;>simp_all)]
     ·first|exact eN|refine eM ?_
     ·first|exact eN|refine eM ?_
    ·simp only[AO];dsimp only[Ty.den]at *;omega
    ·subst a;have l:d.take k=d:=As (by exact eV);rw[l]at c;have i:IP d out=(true,b):=c;have m:=e7 (d:=d) (out:=out) (by rw[i]);rw[i]at m;obtain⟨e,rfl⟩:∃e,n=e+1:=⟨n-1,by omega⟩;have o:I7 d e (out++[b])=Bc d:=by
      rw[←hp];show _=if (IP d out).1=true then I7 d e (out++[(IP d out).2]) else out
      rw[i,BY rfl]
     have m:IQ d (out++[b])<IQ d out:=m;have A:IQ d (out++[b])≤e:=by omega
     refine⟨⟨(e,out++[b],true),by simp only[OR,iF];omega,fun _=>⟨A,o⟩,fun h=>by cases h⟩,by simp,AC [(50,.nm 50)] rfl rfl ?_ ?_⟩
     ·first|exact eN|refine eM ?_
     ·first|exact eN|refine eM ?_
    ·subst a;have l:d.take k=d:=As (by exact eV);rw[l]at c;have i:IP d out=(false,b):=c;have o:out=Bc d:=by
      rw[←hp];cases n with
      | zero=>rfl
      | succ n =>
       show _=if (IP d out).1=true then I7 d n (out++[(IP d out).2]) else out
       rw[i,At (by simp)]
     refine⟨⟨(n,out,false),s,(fun h=>by cases h),fun _=>o⟩,by simp,AC [(50,.nm 50)] rfl rfl ?_ ?_⟩
     ·first|exact eN|refine eM ?_
     ·first|exact eN|refine eM ?_
  ·subst a;have z:=v rfl;rw[z];refine GP [50] ?_;exact fI j [.tmp 2]
end
section
attribute [local go_sem] YM YO Sf YQ
def IR (d:List AH):Nat:=d.countP fun x=>x.2.1.length==0
theorem e9 (d:List AH) {k:Nat} (h:k<d.length):IR (d.take (k+1))=IR (d.take k)+if ((d.getD k d0).2.1.length==0)=true then 1 else 0:=by
 unfold IR;rw[Ab d d0 h,ACn,AB2,List.countP_nil];omega
theorem r8 (d:List AH):IR d≤d.length:=AC2
def A3 (d:List AH):Int :=
 if Ey d≠0 then Ey d else if Cb d≠0 then Cb d else if Kr d≠0 then Kr d else if IR d≠1 then 1 else if (Bc d).length<d.length then 6 else 0
theorem Rm {d:List AH} (h:Ey d=0):d.length≤256:=by
 unfold Ey at h;split at h
 ·cases h
 ·omega
def Sg:Ac:={ ins:=[E5],pre:=fun _=>True,out:=fun(l,_)=>[.p Th (A3 l)] }
attribute [local go_sem] Sg
theorem r9:Ah Tryz.prog 97 Sg:=by
 refine fK [0,2,3,4,5,6,7,11,16,21,26,35,39,45] Tryz.func97 Tryz.ntmps97 (AE zM (AE zO (AE rV (AE rZ AG)))) ?_;rintro w0 O0 ⟨d,u⟩ c - -;simp only[Sg,AM];repeat'(first|exact trivial|refine eS rfl ?_|refine AB ?_|refine rX c ?_ ?_|refine rC ?_ ?_<;>intro a<;>try(cases a;done))
 ·have h1:A3 d=Ey d:=by unfold A3;rw[BY a]
  exact fI c [.tmp 2] (by rw[h1];exact eR)
 ·rename_i hs;have hs:Ey d=0:=by simpa using hs
  have h1:A3 d=Cb d:=by unfold A3;rw[At (by rw[hs];simp),BY a]
  exact fI c [.tmp 2] (by rw[h1];exact eR)
 ·rename_i hs hn;have hs:Ey d=0:=by simpa using hs
  have hn:Cb d=0:=by simpa using hn
  have h1:A3 d=Kr d:=by unfold A3;rw[At (by rw[hs];simp),At (by rw[hn];simp),BY a]
  exact fI c [.tmp 2] (by rw[h1];exact eR)
 ·rename_i hs hn;have hs:Ey d=0:=by simpa using hs
  have hn:Cb d=0:=by simpa using hn
  have hu:Kr d=0:=by simpa using a
  have i:=Rm hs;have h1:A3 d=if IR d≠1 then 1 else if (Bc d).length<d.length then 6 else 0:=by
   unfold A3;rw[At (by rw[hs];simp),At (by rw[hn];simp),At (by rw[hu];simp)]
  refine AI (ι:={k:Nat//k≤d.length}) (fun k=>⟨[(0,.p E5 d),(6,.p (.int .i64) (IR (d.take k.1):Int)),(7,.p (.int .i64) (k.1:Int))],[]⟩) (fun k=>d.length-k.1) ⟨0,IN _⟩ (AC [] rfl rfl ?_ ?_) (fun k=>?_)
  ·first|exact eN|refine eM ?_
  ·first|exact eN|refine eM ?_
   rfl
  ·obtain⟨k,hk⟩:=k;have hr:=r8 (d.take k);have j:=AAo k d;have g:=fun h:k<d.length=>e9 d h;simp only;repeat'(first|exact trivial|refine eS rfl ?_|refine AB ?_|refine rX c ?_ ?_|refine rC ?_ ?_<;>intro a<;>try(cases a;done))
   ·exact a
   ·exact eV
   ·exact eV
   ·have b:k<d.length:=by exact eV
    have e:=g b;rw[BY (by rw[AA1];exact Int.ofNat_eq_zero.1 a)]at e;refine⟨⟨k+1,by omega⟩,by simp only;omega,AC [] rfl rfl ?_ ?_⟩
    ·first|exact eN|refine eM ?_
    ·simp only[e];first|exact eN|refine eM ?_
   ·exact eV
   ·have b:k<d.length:=by exact eV
    have e:=g b;rw[At (by rw[AA1];exact fun h=>a (Int.ofNat_eq_zero.2 h))]at e;refine⟨⟨k+1,by omega⟩,by simp only;omega,AC [] rfl rfl ?_ ?_⟩
    ·first|exact eN|refine eM ?_
    ·simp only[e];first|exact eN|refine eM ?_
   ·have b:d.take k=d:=As (by exact eV);rw[b]at a;rw[BY (fun h=>a (by rw[h];rfl))]at h1;exact fI c [.tmp 2] (by rw[h1];exact eR)
   ·show d.length≤100000;omega
   ·rename_i f;have b:d.take k=d:=As (by exact eV);rw[b]at f;have f:(IR d:Int)=1:=by simpa using f
    rw[At (by omega),BY (IS.1 a)]at h1;exact fI c [.tmp 2] (by rw[h1];exact eR)
   ·rename_i f;have b:d.take k=d:=As (by exact eV);rw[b]at f;have f:(IR d:Int)=1:=by simpa using f
    rw[At (by omega),At (fun h=>absurd (oF.1 a) (Nat.not_le.2 h))]at h1;exact fI c [.tmp 2] (by rw[h1];exact eR)
end
section
attribute [local go_sem] Nu Ja YJ
def Jz (o:List ByteArray) (s:ByteArray):List ByteArray:=if AW o s=true then o else o++[s]
def L8 (d:List AH) (s:ByteArray):List ByteArray:=(d.getD (Aj d s).toNat d0).2.1
def IT (d:List AH):Nat→Nat→List ByteArray→List ByteArray
 | 0,_,o=>o
 | n+1,i,o=>if i<o.length then IT d n (i+1) ((L8 d (o.getD i ByteArray.empty)).foldl Jz o) else o
def J0 (l:List ByteArray):List ByteArray:=l.foldl EO []
theorem Ws (l:List ByteArray):(J0 l).length≤l.length:=by
 have key:∀(l o:List ByteArray),(l.foldl EO o).length≤o.length+l.length:=by
  intro l;induction l with
  | nil=>intro o;simp
  | cons x l a =>
   intro o;have h1:=a (EO o x);have b:=L7 o x;simp only[TO,No];omega
 have:=key l [];simpa[J0] using this
def Ks (d:List AH) (s:ByteArray):List ByteArray:=if Aj d s<0 then [] else J0 (IT d d.length 0 [s])
def PN (d:List AH):Prop:=∀x∈d,∀s∈x.2.1,0≤Aj d s
theorem Wu (s:ByteArray):∀(l:List AH) (k:Nat),Cq s k l=-1∨((k:Int)≤Cq s k l∧Cq s k l<(k:Int)+l.length∧Aa (l.getD ((Cq s k l).toNat-k) d0).1 s=true)
 | [],_=>.inl rfl
 | x :: l,k=>by
  simp only[Cq];split
  ·rename_i h;right;refine⟨by omega,by simp only[No];omega,?_⟩;have:((k:Int).toNat-k)=0:=by omega
   rw[this];exact h
  ·rcases Wu s l (k+1) with h|⟨h1,b,a⟩
   ·exact .inl h
   ·right;refine⟨by omega,by simp only[No];omega,?_⟩;have:((Cq s (k+1) l).toNat-k)=((Cq s (k+1) l).toNat-(k+1))+1:=by omega
    rw[this];exact a
theorem DL (d:List AH) (s:ByteArray):Aj d s<0∨(0≤Aj d s∧Aj d s<(d.length:Int)∧Aa (d.getD (Aj d s).toNat d0).1 s=true):=by
 rcases Wu s d 0 with h|⟨h1,a,b⟩
 ·left;show Cq s 0 d<0;omega
 ·have a:Aj d s<((0:Nat):Int)+d.length:=a;exact .inr ⟨h1,by omega,b⟩
theorem Hl {a b:ByteArray}:Aa a b=true↔a.toList=b.toList:=by unfold Aa;simp
theorem Dq {a b:ByteArray} (h:Aa a b=true):Aa b a=true:=Hl.2 (Hl.1 h).symm
theorem BF {a b c:ByteArray} (h:Aa a b=true) (g:Aa b c=true):Aa a c=true:=Hl.2 ((Hl.1 h).trans (Hl.1 g))
structure YR (d:List AH) (o:List ByteArray):Prop where
 decl:∀s∈o,0≤Aj d s
 nd:o.Pairwise fun a b=>Aa a b=false
theorem Kt (d:List AH):∀ {o:List ByteArray},YR d o→(o.map fun s=>(Aj d s).toNat).Nodup
 | [],_=>by simp
 | s :: o,h=>by
  rw[tO,AA5];have c:=AB9.1 h.nd;refine⟨fun i=>?_,Kt d ⟨fun x a=>h.decl x (by simp[a]),c.2⟩⟩;obtain⟨x,a,e⟩:=If.1 i;have h1:=h.decl s (by simp);have j:=h.decl x (by simp[a]);rcases DL d s with g|⟨_,_,f⟩
  ·omega
  ·rcases DL d x with g|⟨_,_,b⟩
   ·omega
   ·rw[e]at b;have:=c.1 x a;rw[BF (Dq f) b]at this;cases this
theorem YR.len {d:List AH} {o:List ByteArray} (h:YR d o):o.length≤d.length:=by
 have:=EE d.length (o.map fun s=>(Aj d s).toNat) (Kt d h) (fun j a=>by
  obtain⟨s,hs,rfl⟩:=If.1 a;have h1:=h.decl s hs;rcases DL d s with g|⟨_,g,_⟩<;>omega)
 simpa using this
theorem PO {o:List ByteArray} {s:ByteArray} (h:AW o s=false):∀x∈o,Aa x s=false:=fun x a=>by
 cases hh:Aa x s with
 | false=>rfl
 | true=>exact absurd h (by rw[show AW o s=true from Of.2 ⟨x,a,hh⟩];simp)
theorem nV {d:List AH} {o:List ByteArray} (h:YR d o) {s:ByteArray} (hs:0≤Aj d s):YR d (Jz o s):=by
 unfold Jz;split
 ·exact h
 ·rename_i e;have e:AW o s=false:=by simpa using e
  refine⟨fun x c=>?_,?_⟩
  ·rcases ON.1 c with c|c
   ·exact h.decl x c
   ·have:x=s:=by simpa using c
    rw[this];exact hs
  ·rw[AB1];refine⟨h.nd,by simp,fun a ha b f=>?_⟩;have:b=s:=by simpa using f
   rw[this];exact PO e a ha
theorem fA {d:List AH}:∀ {l o:List ByteArray},(∀s∈l,0≤Aj d s)→YR d o→YR d (l.foldl Jz o)∧o.length≤(l.foldl Jz o).length
 | [],o,_,h=>⟨h,NO _⟩
 | s :: l,o,a,h=>by
  obtain⟨b,c⟩:=fA (l:=l) (fun x e=>a x (by simp[e])) (nV h (a s (by simp)));refine⟨b,To ?_ c⟩;unfold Jz;split<;>simp
theorem fB {d:List AH} (b:PN d) (s:ByteArray):∀x∈L8 d s,0≤Aj d x:=by
 intro x a;unfold L8 at a;by_cases h:(Aj d s).toNat<d.length
 ·exact b _ (AD d d0 h) x a
 ·rw[AS,gO (by omega)]at a;cases a
def kN:Ac:={ ins:=[E5,T9],pre:=fun(d,_,_)=>PN d∧List.length d≤256,out:=fun(d,s,_)=>[.p B5 (Ks d s)] }
theorem zP:Ah Tryz.prog 155 kN:=by
 refine fK [0,1,4,5,6,7,8,9,10,14,20,36,45,56] Tryz.func155 Tryz.ntmps155 (AE L4 (AE Gp (AE Qj AG))) ?_;rintro w0 O0 ⟨d,s,u⟩ b ⟨⟨Q,G⟩,-⟩ ⟨O,z⟩;have z:d.length≤256:=z;simp only[kN,AM];repeat'(first|exact trivial|refine eS rfl ?_|refine AB ?_|refine rX b ?_ ?_|refine rC ?_ ?_<;>intro a<;>try(cases a;done))
 ·have h1:Ks d s=[]:=by unfold Ks;rw[BY a]
  exact fI b [.tmp 4] (by rw[h1];exact eR)
 ·have h1:Ks d s=J0 (IT d d.length 0 [s]):=by unfold Ks;rw[At (AAO.2 a)]
  have F:YR d [s]:=⟨fun x y=>by
   have:x=s:=by simpa using y
   rw[this];exact a,by simp⟩
  refine AI (ι:={x:Nat×List ByteArray//x.1≤x.2.length∧YR d x.2∧IT d (d.length-x.1) x.1 x.2=IT d d.length 0 [s]}) (fun x=>⟨[(0,.p E5 d),(1,.p T9 s),(5,.sr 16 T9 0 x.1.2.length),(6,.p (.int .i64) (x.1.1:Int))],[(16,.arr 9 T9 x.1.2)]⟩) (fun x=>d.length-x.1.1) ⟨(0,[s]),by simp,F,rfl⟩ (AC [(16,.nm 16)] rfl rfl ?_ ?_) (fun x=>?_)
  ·first|exact eN|refine eM ?_
  ·first|exact eN|refine eM ?_
  ·obtain⟨⟨i,o⟩,hi,c,t⟩:=x;simp only at hi c t;have U:=c.len;simp only;repeat'(first|exact trivial|refine eS rfl ?_|refine AB ?_|refine rX b ?_ ?_|refine rC ?_ ?_<;>intro a<;>try(cases a;done))
   ·have q:i<o.length:=by exact eV
    have A:=c.decl _ (AD o ByteArray.empty q);refine⟨a,A,?_⟩;rcases DL d (o.getD i ByteArray.empty) with g|⟨_,g,_⟩
    ·omega
    ·exact g
   ·have q:i<o.length:=by exact eV
    have A:=c.decl _ (AD o ByteArray.empty q);have K:=fB O (o.getD i ByteArray.empty);have C:IT d (d.length-(i+1)) (i+1) ((L8 d (o.getD i ByteArray.empty)).foldl Jz o)=IT d d.length 0 [s]:=by
     rw[←t];obtain⟨m,B⟩:∃m,d.length-i=m+1:=⟨d.length-i-1,by omega⟩;have H:d.length-(i+1)=m:=by omega
     rw[B,H];show _=if i<o.length then IT d m (i+1) ((L8 d (o.getD i ByteArray.empty)).foldl Jz o) else o
     rw[BY q]
    have M:(L8 d (o.getD i ByteArray.empty)).length≤AO:=by
     rcases DL d (o.getD i ByteArray.empty) with g|⟨_,g,_⟩
     ·omega
     ·exact(G _ (AD d d0 (k:=(Aj d (o.getD i ByteArray.empty)).toNat) (by omega))).2.1.1
    have N:(List.getD d (Aj d (o.getD i ByteArray.empty)).toNat (ByteArray.empty,[],[])).2.1=L8 d (o.getD i ByteArray.empty):=rfl;rw[N];generalize L8 d (o.getD i ByteArray.empty)=sup at *;simp only[AO]at M;refine AI (ι:={k:Nat//k≤sup.length}) (fun k=>⟨[(0,.p E5 d),(1,.p T9 s),(5,.sr 16 T9 0 ((sup.take k.1).foldl Jz o).length),(6,.p (.int .i64) (i:Int)),(7,.p B5 sup),(8,.p (.int .i64) (k.1:Int))],[(16,.arr 9 T9 ((sup.take k.1).foldl Jz o))]⟩) (fun k=>sup.length-k.1) ⟨0,IN _⟩ (AC [(16,.nm 16)] rfl rfl ?_ ?_) (fun k=>?_)
    ·first|exact eN|refine eM ?_
     rfl
    ·first|exact eN|refine eM ?_
     rfl
    ·obtain⟨k,hk⟩:=k;have w:=fA (l:=sup.take k) (o:=o) (fun x y=>K x (AAb y)) c;have S:=w.1.len;have E:=fun h:k<sup.length=>Eq Jz sup ByteArray.empty o h;simp only;generalize D:(sup.take k).foldl Jz o=n at *;repeat'(first|exact trivial|refine eS rfl ?_|refine AB ?_|refine rX b ?_ ?_|refine rC ?_ ?_<;>intro a<;>try(cases a;done))
     ·exact a
     ·refine⟨by exact eV,?_⟩;simp only[AO];dsimp only[Ty.den]at *;omega
     ·exact eV
     ·have f:k<sup.length:=by exact eV
      have e:=E f;have r:Jz n (sup.getD k ByteArray.empty)=n++[sup.getD k ByteArray.empty]:=by unfold Jz;rw[At (by rw[a];simp)]
      rw[r]at e;refine⟨⟨k+1,by omega⟩,by simp only;omega,AC [(16,.nm 16)] rfl rfl ?_ ?_⟩
      ·simp only[e];first|exact eN|refine eM ?_
      ·simp only[e];first|exact eN|refine eM ?_
     ·exact eV
     ·have f:k<sup.length:=by exact eV
      have e:=E f;have r:Jz n (sup.getD k ByteArray.empty)=n:=by unfold Jz;rw[BY a]
      rw[r]at e;refine⟨⟨k+1,by omega⟩,by simp only;omega,AC [(16,.nm 16)] rfl rfl ?_ ?_⟩
      ·simp only[e];first|exact eN|refine eM ?_
      ·simp only[e];first|exact eN|refine eM ?_
     ·exact eV
     ·have f:sup.take k=sup:=As (by exact eV);rw[f]at D;rw[D]at C;have J:=w.1;have T:=w.2;refine⟨⟨(i+1,n),by simp only;omega,J,C⟩,by simp only;omega,AC [(16,.nm 16)] rfl rfl ?_ ?_⟩
      ·first|exact eN|refine eM ?_
      ·first|exact eN|refine eM ?_
   ·have I:o=IT d d.length 0 [s]:=by
     rw[←t];cases B:d.length-i with
     | zero=>rfl
     | succ m =>
      show _=if i<o.length then _ else o
      rw[At (by exact eV)]
    rw[←I]at h1;refine AI (ι:={j:Nat//j≤o.length}) (fun j=>⟨[(0,.p E5 d),(5,.sr 16 T9 0 o.length),(9,.p B5 ((o.take j.1).foldl EO [])),(10,.p (.int .i64) (j.1:Int))],[(16,.arr 9 T9 o)]⟩) (fun j=>o.length-j.1) ⟨0,IN _⟩ (AC [(16,.nm 16)] rfl rfl ?_ ?_) (fun j=>?_)
    ·first|exact eN|refine eM ?_
    ·first|exact eN|refine eM ?_
     rfl
    ·obtain⟨j,R⟩:=j;have L:=fun h:j<o.length=>Eq EO o ByteArray.empty [] h;simp only;repeat'(first|exact trivial|refine eS rfl ?_|refine AB ?_|refine rX b ?_ ?_|refine rC ?_ ?_<;>intro a<;>try(cases a;done))
     ·refine⟨a,?_⟩;have:=Ws (o.take j);have P:=AAo j o;unfold J0 at this;dsimp only[Ty.den]at *;omega
     ·exact eV
     ·have v:j<o.length:=by exact eV
      have e:=L v;refine⟨⟨j+1,by omega⟩,by simp only;omega,AC [(16,.nm 16)] rfl rfl ?_ ?_⟩
      ·first|exact eN|refine eM ?_
      ·simp only[e];first|exact eN|refine eM ?_
     ·have v:o.take j=o:=As (by exact eV);rw[v];exact fI b [.tmp 4] (by rw[h1];unfold J0;exact eR)
end
section
attribute [local go_sem] Nu Ja YJ
def E6 (s:ByteArray) (o:List ByteArray) (x:AH):List ByteArray:=if (AW x.2.1 s&&!AW o x.1)=true then o++[x.1] else o
def Cc (d:List AH):Nat→Nat→List ByteArray→List ByteArray
 | 0,_,o=>o
 | n+1,i,o=>if i<o.length then Cc d n (i+1) (d.foldl (E6 (o.getD i ByteArray.empty)) o) else o
def Ce (d:List AH) (s:ByteArray):List ByteArray:=if Aj d s<0 then [] else J0 (Cc d d.length 0 [s])
theorem UD (s:ByteArray):∀(l:List AH) (k:Nat) (x:AH),x∈l→Aa x.1 s=true→0≤Cq s k l
 | y :: l,k,x,a,h=>by
  simp only[Cq];split
  ·omega
  ·rename_i b;rcases GO.1 a with rfl|a
   ·exact absurd h b
   ·exact UD s l (k+1) x a h
theorem DU {d:List AH} {x:AH} (a:x∈d):0≤Aj d x.1:=UD x.1 d 0 x a (Cr _)
theorem A25 {d:List AH} {o:List ByteArray} (h:YR d o) (s:ByteArray) {x:AH} (b:x∈d):YR d (E6 s o x):=by
 unfold E6;split
 ·rename_i a;rw[An,OF]at a;have:=nV h (DU b);unfold Jz at this
  rwa [At (by rw[a.2];simp)]at this
 ·exact h
theorem UE {d:List AH} (s:ByteArray):∀ {l:List AH} {o:List ByteArray},(∀x∈l,x∈d)→YR d o→YR d (l.foldl (E6 s) o)∧o.length≤(l.foldl (E6 s) o).length
 | [],o,_,h=>⟨h,NO _⟩
 | x :: l,o,a,h=>by
  obtain⟨b,c⟩:=UE s (l:=l) (fun y e=>a y (by simp[e])) (A25 h s (a x (by simp)));refine⟨b,To ?_ c⟩;unfold E6;split<;>simp
theorem Qn (s:ByteArray) {i:Nat}:∀ {l:List AH} {o:List ByteArray},i<o.length→(l.foldl (E6 s) o).getD i ByteArray.empty=o.getD i ByteArray.empty
 | [],_,_=>rfl
 | x :: l,o,h=>by
  have a:i<(E6 s o x).length∧(E6 s o x).getD i ByteArray.empty=o.getD i ByteArray.empty:=by
   unfold E6;split
   ·refine⟨by rw[OR];omega,?_⟩;simp only[AS];rw[oS h]
   ·exact⟨h,rfl⟩
  rw[TO,Qn s a.1,a.2]
def YS:Ac:={ ins:=[E5,T9],pre:=fun(d,_,_)=>List.length d≤256,out:=fun(d,s,_)=>[.p B5 (Ce d s)] }
attribute [local go_sem] YS
theorem zQ:Ah Tryz.prog 130 YS:=by
 refine fK [0,1,4,5,6,7,8,9,13,19,25,47,59] Tryz.func130 Tryz.ntmps130 (AE L4 (AE Gp (AE Qj AG))) ?_;rintro w0 O0 ⟨d,s,u⟩ b-y;have y:d.length≤256:=y;simp only[YS,AM];repeat'(first|exact trivial|refine eS rfl ?_|refine AB ?_|refine rX b ?_ ?_|refine rC ?_ ?_<;>intro a<;>try(cases a;done))
 ·have h1:Ce d s=[]:=by unfold Ce;rw[BY a]
  exact fI b [.tmp 4] (by rw[h1];exact eR)
 ·have h1:Ce d s=J0 (Cc d d.length 0 [s]):=by unfold Ce;rw[At (AAO.2 a)]
  have F:YR d [s]:=⟨fun x v=>by
   have:x=s:=by simpa using v
   rw[this];exact a,by simp⟩
  refine AI (ι:={x:Nat×List ByteArray//x.1≤x.2.length∧YR d x.2∧Cc d (d.length-x.1) x.1 x.2=Cc d d.length 0 [s]}) (fun x=>⟨[(0,.p E5 d),(5,.sr 15 T9 0 x.1.2.length),(6,.p (.int .i64) (x.1.1:Int))],[(15,.arr 9 T9 x.1.2)]⟩) (fun x=>d.length-x.1.1) ⟨(0,[s]),by simp,F,rfl⟩ (AC [(15,.nm 15)] rfl rfl ?_ ?_) (fun x=>?_)
  ·first|exact eN|refine eM ?_
  ·first|exact eN|refine eM ?_
  ·obtain⟨⟨i,o⟩,hi,q,r⟩:=x;simp only at hi q r;have P:=q.len;simp only;repeat'(first|exact trivial|refine eS rfl ?_|refine AB ?_|refine rX b ?_ ?_|refine rC ?_ ?_<;>intro a<;>try(cases a;done))
   ·have z:i<o.length:=by exact eV
    have B:Cc d (d.length-(i+1)) (i+1) (d.foldl (E6 (o.getD i ByteArray.empty)) o)=Cc d d.length 0 [s]:=by
     rw[←r];obtain⟨m,A⟩:∃m,d.length-i=m+1:=⟨d.length-i-1,by omega⟩;have G:d.length-(i+1)=m:=by omega
     rw[A,G];show _=if i<o.length then Cc d m (i+1) (d.foldl (E6 (o.getD i ByteArray.empty)) o) else o
     rw[BY z]
    refine AI (ι:={k:Nat//k≤d.length}) (fun k=>⟨[(0,.p E5 d),(5,.sr 15 T9 0 ((d.take k.1).foldl (E6 (o.getD i ByteArray.empty)) o).length),(6,.p (.int .i64) (i:Int)),(7,.p (.int .i64) (k.1:Int))],[(15,.arr 9 T9 ((d.take k.1).foldl (E6 (o.getD i ByteArray.empty)) o))]⟩) (fun k=>d.length-k.1) ⟨0,IN _⟩ (AC [(15,.nm 15)] rfl rfl ?_ ?_) (fun k=>?_)
    ·first|exact eN|refine eM ?_
     rfl
    ·first|exact eN|refine eM ?_
     rfl
    ·obtain⟨k,hk⟩:=k;have g:=UE (o.getD i ByteArray.empty) (l:=d.take k) (o:=o) (fun x v=>AAb v) q;have N:=g.1.len;have E:=fun h:k<d.length=>Eq (E6 (o.getD i ByteArray.empty)) d d0 o h;have D:((d.take k).foldl (E6 (o.getD i ByteArray.empty)) o).getD i ByteArray.empty=o.getD i ByteArray.empty:=Qn _ z;simp only;generalize C:(d.take k).foldl (E6 (o.getD i ByteArray.empty)) o=f at *;repeat'(first|exact trivial|refine eS rfl ?_|refine AB ?_|refine rX b ?_ ?_|refine rC ?_ ?_<;>intro a<;>try(cases a;done))
     ·have M:=g.2;refine⟨a,?_,fun _=>a⟩;dsimp only[Ty.den]at *;omega
     ·refine⟨by assumption,?_⟩;simp only[AO];dsimp only[Ty.den]at *;omega
     ·exact eV
     ·have c:k<d.length:=by exact eV
      have e:=E c;rw[D]at a;have n:E6 (o.getD i ByteArray.empty) f (d.getD k d0)=f++[(d.getD k d0).1]:=by
       unfold E6;rw[BY (by rw[An,OF];exact a)]
      rw[n]at e;refine⟨⟨k+1,by omega⟩,by simp only;omega,AC [(15,.nm 15)] rfl rfl ?_ ?_⟩
      ·simp only[e];first|exact eN|refine eM ?_
      ·simp only[e];first|exact eN|refine eM ?_
     ·exact eV
     ·have c:k<d.length:=by exact eV
      have e:=E c;rw[D]at a;have n:E6 (o.getD i ByteArray.empty) f (d.getD k d0)=f:=by
       unfold E6;rw[At];rw[An,OF];rintro⟨h1,w⟩;rw[a h1]at w;cases w
      rw[n]at e;refine⟨⟨k+1,by omega⟩,by simp only;omega,AC [(15,.nm 15)] rfl rfl ?_ ?_⟩
      ·simp only[e];first|exact eN|refine eM ?_
      ·simp only[e];first|exact eN|refine eM ?_
     ·exact eV
     ·have c:d.take k=d:=As (by exact eV);rw[c]at C;rw[C]at B;have I:=g.1;have O:=g.2;refine⟨⟨(i+1,f),by simp only;omega,I,B⟩,by simp only;omega,AC [(15,.nm 15)] rfl rfl ?_ ?_⟩
      ·first|exact eN|refine eM ?_
      ·first|exact eN|refine eM ?_
   ·have H:o=Cc d d.length 0 [s]:=by
     rw[←r];cases A:d.length-i with
     | zero=>rfl
     | succ m =>
      show _=if i<o.length then _ else o
      rw[At (by exact eV)]
    rw[←H]at h1;refine AI (ι:={j:Nat//j≤o.length}) (fun j=>⟨[(0,.p E5 d),(5,.sr 15 T9 0 o.length),(8,.p B5 ((o.take j.1).foldl EO [])),(9,.p (.int .i64) (j.1:Int))],[(15,.arr 9 T9 o)]⟩) (fun j=>o.length-j.1) ⟨0,IN _⟩ (AC [(15,.nm 15)] rfl rfl ?_ ?_) (fun j=>?_)
    ·first|exact eN|refine eM ?_
    ·first|exact eN|refine eM ?_
     rfl
    ·obtain⟨j,L⟩:=j;have J:=fun h:j<o.length=>Eq EO o ByteArray.empty [] h;simp only;repeat'(first|exact trivial|refine eS rfl ?_|refine AB ?_|refine rX b ?_ ?_|refine rC ?_ ?_<;>intro a<;>try(cases a;done))
     ·refine⟨a,?_⟩;have:=Ws (o.take j);have K:=AAo j o;unfold J0 at this;dsimp only[Ty.den]at *;omega
     ·exact eV
     ·have t:j<o.length:=by exact eV
      have e:=J t;refine⟨⟨j+1,by omega⟩,by simp only;omega,AC [(15,.nm 15)] rfl rfl ?_ ?_⟩
      ·first|exact eN|refine eM ?_
      ·simp only[e];first|exact eN|refine eM ?_
     ·have t:o.take j=o:=As (by exact eV);rw[t];exact fI b [.tmp 4] (by rw[h1];unfold J0;exact eR)
end
section
attribute [local go_sem] Nu YJ kN Ja
def E7 (d:List AH) (o:List ByteArray) (x:ByteArray):List ByteArray:=if 0≤Aj d x then EO o x else o
def BV (d:List AH) (l:List ByteArray):List ByteArray:=l.foldl (E7 d) []
theorem Jb (d:List AH) (l:List ByteArray):(BV d l).length≤l.length:=by
 have key:∀(l o:List ByteArray),(l.foldl (E7 d) o).length≤o.length+l.length:=by
  intro l;induction l with
  | nil=>intro o;simp
  | cons x l a =>
   intro o;have h1:=a (E7 d o x);have b:(E7 d o x).length≤o.length+1:=by
    unfold E7;split
    ·exact L7 o x
    ·omega
   simp only[TO,No];omega
 have:=key l [];simpa[BV] using this
def Qo:Ac:={ ins:=[E5,B5],pre:=fun(_,l,_)=>List.length l≤100000,out:=fun(d,l,_)=>[.p B5 (BV d l)] }
attribute [local go_sem] Qo
theorem fC:Ah Tryz.prog 154 Qo:=by
 refine fK [0,1,4,5,6,10,19] Tryz.func154 Tryz.ntmps154 (AE L4 (AE Qj AG)) ?_;rintro w0 O0 ⟨d,l,u⟩ c-f;have f:l.length≤100000:=f;simp only[Qo,AM];repeat'(first|exact trivial|refine eS rfl ?_|refine AB ?_|refine rX c ?_ ?_|refine rC ?_ ?_<;>intro a<;>try(cases a;done))
 refine AI (ι:={k:Nat//k≤l.length}) (fun k=>⟨[(0,.p E5 d),(1,.p B5 l),(5,.p B5 (BV d (l.take k.1))),(6,.p (.int .i64) (k.1:Int))],[]⟩) (fun k=>l.length-k.1) ⟨0,IN _⟩ (AC [] rfl rfl ?_ ?_) (fun k=>?_)
 ·first|exact eN|refine eM ?_
 ·first|exact eN|refine eM ?_
  rfl
 ·obtain⟨k,hk⟩:=k;have hn:=Jb d (l.take k);have g:=AAo k l;have hs:=fun h:k<l.length=>Eq (E7 d) l ByteArray.empty [] h;simp only;repeat'(first|exact trivial|refine eS rfl ?_|refine AB ?_|refine rX c ?_ ?_|refine rC ?_ ?_<;>intro a<;>try(cases a;done))
  ·exact a
  ·exact⟨by assumption,by omega⟩
  ·exact eV
  ·have b:k<l.length:=by exact eV
   have e:BV d (l.take (k+1))=E7 d (BV d (l.take k)) (l.getD k ByteArray.empty):=hs b;unfold E7 at e;rw[BY a]at e;refine⟨⟨k+1,by omega⟩,by simp only;omega,AC [] rfl rfl ?_ ?_⟩
   ·first|exact eN|refine eM ?_
   ·simp only[e];first|exact eN|refine eM ?_
  ·exact eV
  ·have b:k<l.length:=by exact eV
   have e:BV d (l.take (k+1))=E7 d (BV d (l.take k)) (l.getD k ByteArray.empty):=hs b;unfold E7 at e;rw[At (Int.not_le.2 a)]at e;refine⟨⟨k+1,by omega⟩,by simp only;omega,AC [] rfl rfl ?_ ?_⟩
   ·first|exact eN|refine eM ?_
   ·simp only[e];first|exact eN|refine eM ?_
  ·have b:l.take k=l:=As (by exact eV);rw[b];exact fI c [.tmp 4]
def nW (d:List AH) (all:List ByteArray) (i:Nat) (k:Nat):Bool:=(k:Int)==(i:Int)||!AW (Ks d (all.getD i ByteArray.empty)) (all.getD k ByteArray.empty)
def PP (d:List AH) (all:List ByteArray) (i n:Nat):Bool:=(List.range n).all (nW d all i)
def PQ (d:List AH) (all:List ByteArray) (n:Nat):List ByteArray:=((List.range n).filter fun i=>PP d all i all.length).map fun i=>all.getD i ByteArray.empty
def Ay (d:List AH) (l:List ByteArray):List ByteArray:=PQ d (BV d l) (BV d l).length
theorem sA (d:List AH) (all:List ByteArray) (n:Nat):PQ d all (n+1)=PQ d all n++if PP d all n all.length=true then [all.getD n ByteArray.empty] else []:=by
 unfold PQ;rw[AAc,AAZ,AAx]
 congr 1
 rw[AAn,ABE];split<;>rfl
theorem fD (d:List AH) (all:List ByteArray) (n:Nat):(PQ d all n).length≤n:=by
 unfold PQ;rw[nO];exact To (AAv _ _) (by simp)
theorem kO (d:List AH) (all:List ByteArray) (i n:Nat):PP d all i (n+1)=(PP d all i n&&nW d all i n):=by
 unfold PP;rw[AAc,ABy];simp
def L9:Ac:={ ins:=[E5,B5],pre:=fun(d,l,_)=>PN d∧List.length d≤256∧List.length l≤100000,out:=fun(d,l,_)=>[.p B5 (Ay d l)] }
attribute [local go_sem] L9
theorem UF:Ah Tryz.prog 136 L9:=by
 refine fK [0,1,4,5,6,7,8,9,10,17,29,47] Tryz.func136 Tryz.ntmps136 (AE fC (AE zP (AE Gp AG))) ?_;rintro w0 O0 ⟨d,l,u⟩ c-⟨n,f,g⟩;have f:d.length≤256:=f;have g:l.length≤100000:=g;have m:Ay d l=PQ d (BV d l) (BV d l).length:=rfl;have o:=Jb d l;simp only[L9,AM];repeat'(first|exact trivial|refine eS rfl ?_|refine AB ?_|refine rX c ?_ ?_|refine rC ?_ ?_<;>intro a<;>try(cases a;done))
 ·exact g
 ·rw[m];generalize BV d l=all at *;refine AI (ι:={i:Nat//i≤all.length}) (fun i=>⟨[(0,.p E5 d),(5,.sr 54 T9 0 (PQ d all i.1).length),(6,.p B5 all),(7,.p (.int .i64) (i.1:Int))],[(54,.arr 9 T9 (PQ d all i.1))]⟩) (fun i=>all.length-i.1) ⟨0,IN _⟩ (AC [(54,.nil)] rfl rfl ?_ ?_) (fun i=>?_)
  ·first|exact eN|refine eM ?_
   rfl
  ·first|exact eN|refine eM ?_
   rfl
  ·obtain⟨i,hi⟩:=i;have q:=fD d all i;have b:=sA d all i;simp only;repeat'(first|exact trivial|refine eS rfl ?_|refine AB ?_|refine rX c ?_ ?_|refine rC ?_ ?_<;>intro a<;>try(cases a;done))
   ·exact⟨a,n,f⟩
   ·have h:i<all.length:=by exact eV
    refine AI (ι:={k:Nat//k≤all.length}) (fun k=>⟨[(0,.p E5 d),(5,.sr 54 T9 0 (PQ d all i).length),(6,.p B5 all),(7,.p (.int .i64) (i:Int)),(8,.p B5 (Ks d (all.getD i ByteArray.empty))),(9,.p .bool (PP d all i k.1)),(10,.p (.int .i64) (k.1:Int))],[(54,.arr 9 T9 (PQ d all i))]⟩) (fun k=>all.length-k.1) ⟨0,IN _⟩ (AC [(54,.nm 54)] rfl rfl ?_ ?_) (fun k=>?_)
    ·first|exact eN|refine eM ?_
    ·first|exact eN|refine eM ?_
     rfl
    ·obtain⟨k,hk⟩:=k;have j:=kO d all i k;simp only;repeat'(first|exact trivial|refine eS rfl ?_|refine AB ?_|refine rX c ?_ ?_|refine rC ?_ ?_<;>intro a<;>try(cases a;done))
     ·exact fun _=>a
     ·exact eV
     ·have e:k<all.length:=by exact eV
      refine⟨⟨k+1,by omega⟩,by simp only;omega,AC [(54,.nm 54)] rfl rfl ?_ ?_⟩
      ·first|exact eN|refine eM ?_
      ·simp only[j];unfold nW;first|exact eN|refine eM ?_
     ·refine⟨by assumption,?_⟩;simp only[AO];omega
     ·exact eV
     ·have e:k=all.length:=by exact eV
      subst e;rw[a,BY rfl]at b;refine⟨⟨i+1,by omega⟩,by simp only;omega,AC [(54,.nm 54)] rfl rfl ?_ ?_⟩
      ·simp only[b];first|exact eN|refine eM ?_
      ·simp only[b];first|exact eN|refine eM ?_
     ·exact eV
     ·have e:k=all.length:=by exact eV
      subst e;rw[a,At (by simp),AAa]at b;refine⟨⟨i+1,by omega⟩,by simp only;omega,AC [(54,.nm 54)] rfl rfl ?_ ?_⟩
      ·simp only[b];first|exact eN|refine eM ?_
      ·simp only[b];first|exact eN|refine eM ?_
   ·have h:i=all.length:=by exact eV
    subst h;refine GP [54] ?_;exact fI c [.tmp 4]
end
section
attribute [local go_sem] Kp
def sB (b:List Int) (x:Int):List Int:=b.set (x.tdiv 64).toNat (B6 .or .u64 (b.getD (x.tdiv 64).toNat 0) (R7 .u64 1 (x.tmod 64)))
def tV (l:List Int):List Int:=l.foldl sB (List.replicate 64 0)
def okB (x:Int):Bool:=!(decide (x<0)||decide (4095<x))
def ofF (l:List Int):List Int×Int:=if l.all okB=true then (BI (tV l),0) else ([],2)
theorem PR (l:List Int):(tV l).length=64:=by
 have key:∀(l b:List Int),(l.foldl sB b).length=b.length:=by
  intro l;induction l with
  | nil=>intro b;rfl
  | cons x l a =>
   intro b;rw[TO,a];simp[sB]
 unfold tV;rw[key];simp
def ofS:Ac:={ ins:=[I4],pre:=fun _=>True,out:=fun(l,_)=>[.p D7 (ofF l).1,.p Th (ofF l).2] }
theorem A6v:Ah Tryz.prog 132 ofS:=by
 refine fK [0,2,3,4,5,10,24] Tryz.func132 Tryz.ntmps132 (AE Mm AG) ?_;rintro w0 O0 ⟨l,u⟩ c ⟨⟨g,-⟩,-⟩ -;simp only[AO]at g;simp only[ofS,AM];repeat'(first|exact trivial|refine eS rfl ?_|refine AB ?_|refine rX c ?_ ?_|refine rC ?_ ?_<;>intro a<;>try(cases a;done))
 ·simp only[AO];omega
 ·refine AI (ι:={k:Nat//k≤l.length∧(l.take k).all okB=true}) (fun k=>⟨[(0,.p I4 l),(4,.sr 6 O4 0 (tV (l.take k.1)).length),(5,.p (.int .i64) (k.1:Int))],[(6,.arr 155 O4 (tV (l.take k.1)))]⟩) (fun k=>l.length-k.1) ⟨0,IN _,rfl⟩ (AC [(6,.nm 6)] rfl rfl ?_ ?_) (fun k=>?_)
  ·first|exact eN|refine eM ?_
   rfl
  ·first|exact eN|refine eM ?_
   rfl
  ·obtain⟨k,hk,hf⟩:=k;have i:=PR (l.take k);have hs:∀h:k<l.length,tV (l.take (k+1))=sB (tV (l.take k)) (l.getD k 0):=fun h=>Eq sB l 0 _ h;simp only;repeat'(first|exact trivial|refine eS rfl ?_|refine AB ?_|refine rX c ?_ ?_|refine rC ?_ ?_<;>intro a<;>try(cases a;done))
   ·exact⟨a,fun _=>a⟩
   ·have b:k<l.length:=by exact eV
    have h1:ofF l=([],2):=by
     unfold ofF;rw[At];intro h;have:=Do.1 h _ (AD l 0 b);unfold okB at this;rw[OF,AAl,On,On]at this;rcases a with h|h
     ·exact this.1 h
     ·exact this.2 h
    exact fI c [.tmp 2,.tmp 3] (by rw[h1];exact eR)
   ·obtain⟨h0,h1⟩:=a;have d:Int.tdiv (l.getD k 0) 64=l.getD k 0 / 64:=AAp h0;have f:Int.tmod (l.getD k 0) 64=l.getD k 0 % 64:=ABj h0;rw[d,f,i];refine⟨?_,⟨by decide,?_,?_⟩,?_,⟨by decide,?_,?_⟩,⟨?_,?_⟩,?_,⟨by decide,?_,?_⟩,⟨?_,?_⟩,?_,?_,?_⟩<;>exact eV
   ·exact eV
   ·have b:k<l.length:=by exact eV
    have e:=hs b;refine⟨⟨k+1,by omega,?_⟩,by simp only;omega,AC [(6,.nm 6)] rfl rfl ?_ ?_⟩
    ·rw[GS l 0 _ b,hf,ABP];unfold okB;rw[OF,AAl,On,On];exact⟨AAO.2 a.1,AAO.2 a.2⟩
    ·simp only[e];first|exact eN|refine eM ?_
     rfl
    ·simp only[e];first|exact eN|refine eM ?_
     rw[←e,PR,PR]
   ·have b:l.take k=l:=As (by exact eV);rw[b]at hf ⊢;have h1:ofF l=(BI (tV l),0):=by unfold ofF;rw[BY hf]
    have j:=PR l;refine GP [6] ?_;repeat'(first|exact trivial|refine eS rfl ?_|refine AB ?_|refine rX c ?_ ?_|refine rC ?_ ?_<;>intro a<;>try(cases a;done))
    ·rw[j];decide
    ·exact fI c [.tmp 2,.tmp 3] (by rw[h1];exact eR)
end
section
attribute [local go_sem] UC PK
def kP (l:List (List Int)) (b:List Int):Bool:=l.any fun x=>F9 x b
def A3E:Ac:={ ins:=[SD,D7],pre:=fun _=>True,out:=fun(l,b,_)=>[.p .bool (kP l b)],lend:=true }
theorem A3F:Ah Tryz.prog 133 A3E:=by
 refine fK [0,1,4,5,9,17] Tryz.func133 Tryz.ntmps133 (AE YL AG) ?_;rintro w0 O0 ⟨l,n,u⟩ b ⟨⟨e,-⟩,-⟩ -;simp only[AO]at e;simp only[A3E,AM];repeat'(first|exact trivial|refine eS rfl ?_|refine AB ?_|refine rX b ?_ ?_|refine rC ?_ ?_<;>intro a<;>try(cases a;done))
 refine AI (ι:={k:Nat//k≤l.length∧(l.take k).any (fun x=>F9 x n)=false}) (fun k=>⟨[(0,.p SD l),(1,.p D7 n),(5,.p (.int .i64) (k.1:Int))],[]⟩) (fun k=>l.length-k.1) ⟨0,by simp⟩ (AC [] rfl rfl ?_ ?_) (fun k=>?_)
 ·first|exact eN|refine eM ?_
 ·first|exact eN|refine eM ?_
 ·obtain⟨k,hk,c⟩:=k;repeat'(first|exact trivial|refine eS rfl ?_|refine AB ?_|refine rX b ?_ ?_|refine rC ?_ ?_<;>intro a<;>try(cases a;done))
  ·exact eV
  ·have d:k<l.length:=by exact eV
   have h1:kP l n=true:=Gn l [] _ d a;exact fI b [.tmp 4] (by rw[h1];exact eR)
  ·exact eV
  ·have d:k<l.length:=by exact eV
   refine⟨⟨k+1,by exact eV,?_⟩,by simp only;exact eV,AC [] rfl rfl ?_ ?_⟩
   ·rw[Ml l [] _ d,c];exact a
   ·first|exact eN|refine eM ?_
   ·first|exact eN|refine eM ?_
  ·have hk:l.take k=l:=As (by exact eV);rw[hk]at c;have h1:kP l n=false:=c;exact fI b [.tmp 4] (by rw[h1];exact eR)
abbrev AP:=ByteArray×List Int
abbrev c0:AP:=(ByteArray.empty,[])
def LR (l:List AP) (i j:Int):Bool:=FB (l.getD j.toNat c0).2 (l.getD i.toNat c0).2
def nX:Ac:={ ins:=[Jx,T3,T3],pre:=fun(l,i,j,_)=>((0:Int)≤i∧i<(List.length l:Int))∧((0:Int)≤j∧j<(List.length l:Int))∧(∀x∈(l:List AP),x.2.length≤100000),out:=fun(l,i,j,_)=>[.p .bool (LR l i j)],lend:=true }
theorem nY:Ah Tryz.prog 103 nX:=by
 refine fK [0,1,2,6] Tryz.func103 Tryz.ntmps103 (AE Wq AG) ?_;rintro w0 O0 ⟨l,i,j,u⟩ a-⟨hi,c,d⟩;simp only[nX,AM];repeat'(first|exact trivial|refine eS rfl ?_|refine AB ?_|refine rX a ?_ ?_|refine rC ?_ ?_<;>intro b<;>try(cases b;done))
 ·exact⟨c,hi,d _ (AD (l:List AP) c0 (by exact eV))⟩
 ·exact fI a [.tmp 6] (by unfold LR;exact eR)
end
section
attribute [local go_sem] UC
def MA (s:ByteArray):Nat→List AP→Int
 | _,[]=>-1
 | k,x :: l=>if Aa x.1 s=true then (k:Int) else MA s (k+1) l
def BJ (l:List AP) (s:ByteArray):Int:=MA s 0 l
theorem Wv (s:ByteArray) (l:List AP) {k:Nat} (h:k<l.length):MA s k (l.drop k)=if Aa (l.getD k c0).1 s=true then (k:Int) else MA s (k+1) (l.drop (k+1)):=by
 rw[OS h];have e:l.getD k c0=l[k]:=by simp[AS,h]
 rw[e];rfl
def Sh:Ac:={ ins:=[Jx,T9],pre:=fun _=>True,out:=fun(l,s,_)=>[.p T3 (BJ l s)],lend:=true }
theorem Ww:Ah Tryz.prog 105 Sh:=by
 refine fK [0,1,4,5,9,18] Tryz.func105 Tryz.ntmps105 AG ?_;rintro w0 O0 ⟨l,s,u⟩ c ⟨⟨d,-⟩,-⟩ -;simp only[AO]at d;simp only[Sh,AM];repeat'(first|exact trivial|refine eS rfl ?_|refine AB ?_|refine rX c ?_ ?_|refine rC ?_ ?_<;>intro a<;>try(cases a;done))
 refine AI (ι:={k:Nat//k≤l.length∧MA s k (l.drop k)=BJ l s}) (fun k=>⟨[(0,.p Jx l),(1,.p T9 s),(5,.p (.int .i64) (k.1:Int))],[]⟩) (fun k=>l.length-k.1) ⟨0,IN _,rfl⟩ (AC [] rfl rfl ?_ ?_) (fun k=>?_)
 ·first|exact eN|refine eM ?_
 ·first|exact eN|refine eM ?_
 ·obtain⟨k,hk,hf⟩:=k;simp only;repeat'(first|exact trivial|refine eS rfl ?_|refine AB ?_|refine rX c ?_ ?_|refine rC ?_ ?_<;>intro a<;>try(cases a;done))
  ·exact a
  ·have b:k<l.length:=by exact eV
   rw[Wv s l b,BY a]at hf;exact fI c [.tmp 4] (by rw[←hf];exact eR)
  ·exact eV
  ·have b:k<l.length:=by exact eV
   rw[Wv s l b,At (by rw[a];simp)]at hf;refine⟨⟨k+1,by omega,hf⟩,by simp only;omega,AC [] rfl rfl ?_ ?_⟩
   ·first|exact eN|refine eM ?_
   ·first|exact eN|refine eM ?_
  ·have b:l.drop k=[]:=IF (by exact eV);rw[b]at hf;exact fI c [.tmp 4] (by rw[←hf];first|exact eR|refine Zr ?_;rfl)
end
section
attribute [local go_sem] UC Kp
def PT (s:List Int):Nat→List AP→Int
 | _,[]=>-1
 | k,x :: l=>if F9 x.2 s=true then (k:Int) else PT s (k+1) l
def HG (l:List AP) (b:List Int):Int:=PT (BI b) 0 l
theorem UG (s:List Int) (l:List AP) {k:Nat} (h:k<l.length):PT s k (l.drop k)=if F9 (l.getD k c0).2 s=true then (k:Int) else PT s (k+1) (l.drop (k+1)):=by
 rw[OS h];have e:l.getD k c0=l[k]:=by simp[AS,h]
 rw[e];rfl
def kQ:Ac:={ ins:=[Jx,D7],pre:=fun(_,b,_)=>List.length b≤100000,out:=fun(l,b,_)=>[.p T3 (HG l b)],lend:=true }
theorem zR:Ah Tryz.prog 96 kQ:=by
 refine fK [0,1,4,5,6,12,21] Tryz.func96 Tryz.ntmps96 (AE Mm (AE YL AG)) ?_;rintro w0 O0 ⟨l,b,u⟩ d ⟨⟨g,-⟩,-⟩ e;simp only[AO]at g;simp only[kQ,AM];repeat'(first|exact trivial|refine eS rfl ?_|refine AB ?_|refine rX d ?_ ?_|refine rC ?_ ?_<;>intro a<;>try(cases a;done))
 ·exact e
 ·have f:HG l b=PT (BI b) 0 l:=rfl;rw[f];generalize BI b=s at *;refine AI (ι:={k:Nat//k≤l.length∧PT s k (l.drop k)=PT s 0 l}) (fun k=>⟨[(0,.p Jx l),(5,.p D7 s),(6,.p (.int .i64) (k.1:Int))],[]⟩) (fun k=>l.length-k.1) ⟨0,IN _,rfl⟩ (AC [] rfl rfl ?_ ?_) (fun k=>?_)
  ·first|exact eN|refine eM ?_
  ·first|exact eN|refine eM ?_
  ·obtain⟨k,hk,hf⟩:=k;simp only;repeat'(first|exact trivial|refine eS rfl ?_|refine AB ?_|refine rX d ?_ ?_|refine rC ?_ ?_<;>intro a<;>try(cases a;done))
   ·exact a
   ·have c:k<l.length:=by exact eV
    rw[UG s l c,BY a]at hf;exact fI d [.tmp 4] (by rw[←hf];exact eR)
   ·exact eV
   ·have c:k<l.length:=by exact eV
    rw[UG s l c,At (by rw[a];simp)]at hf;refine⟨⟨k+1,by omega,hf⟩,by simp only;omega,AC [] rfl rfl ?_ ?_⟩
    ·first|exact eN|refine eM ?_
    ·first|exact eN|refine eM ?_
   ·have c:l.drop k=[]:=IF (by exact eV);rw[c]at hf;exact fI d [.tmp 4] (by rw[←hf];first|exact eR|refine Zr ?_;rfl)
end
section
attribute [local go_sem] UC
def fE (s:ByteArray):List (ByteArray×ByteArray)→ByteArray×Bool
 | []=>(ByteArray.empty,false)
 | x :: l=>if Aa x.1 s=true then (x.2,true) else fE s l
def DD (x:AH) (s:ByteArray):ByteArray×Bool:=fE s x.2.2
theorem Wx (s:ByteArray) (l:List (ByteArray×ByteArray)) {k:Nat} (h:k<l.length):fE s (l.drop k)=if Aa (l.getD k (ByteArray.empty,ByteArray.empty)).1 s=true then ((l.getD k (ByteArray.empty,ByteArray.empty)).2,true) else fE s (l.drop (k+1)):=by
 rw[OS h];have e:l.getD k (ByteArray.empty,ByteArray.empty)=l[k]:=by simp[AS,h]
 rw[e];rfl
def YT:Ac:={ ins:=[qN,T9],pre:=fun _=>True,out:=fun(x,s,_)=>[.p T9 (DD x s).1,.p .bool (DD x s).2],lend:=true }
theorem fF:Ah Tryz.prog 123 YT:=by
 refine fK [0,1,2,4,5,6,11,21] Tryz.func123 Tryz.ntmps123 AG ?_;rintro w0 O0 ⟨⟨nm,sup,a⟩,s,u⟩ d ⟨⟨-,-,f,-⟩,-⟩ -;simp only[AO]at f;simp only[YT,AM];repeat'(first|exact trivial|refine eS rfl ?_|refine AB ?_|refine rX d ?_ ?_|refine rC ?_ ?_<;>intro b<;>try(cases b;done))
 have e:({ data:=#[] }:ByteArray).size≤AO:=by decide
 rw[BY e];refine AI (ι:={k:Nat//k≤a.length∧fE s (a.drop k)=DD (nm,sup,a) s}) (fun k=>⟨[(1,.p T9 s),(2,.bp 2 [] 0),(6,.p (.int .i64) (k.1:Int))],[(2,.box 111 true [.p T9 nm,.p B5 sup,.p Zu a])]⟩) (fun k=>a.length-k.1) ⟨0,IN _,rfl⟩ (AC [(2,.nm 2)] rfl rfl ?_ ?_) (fun k=>?_)
 ·first|exact eN|refine eM ?_
 ·first|exact eN|refine eM ?_
 ·obtain⟨k,hk,hf⟩:=k;simp only;repeat'(first|exact trivial|refine eS rfl ?_|refine AB ?_|refine rX d ?_ ?_|refine rC ?_ ?_<;>intro b<;>try(cases b;done))
  ·exact b
  ·assumption
  ·have c:k<a.length:=by exact eV
   rw[Wx s a c,BY b]at hf;exact fI d [.tmp 4,.tmp 5] (by rw[←hf];exact eR)
  ·exact eV
  ·have c:k<a.length:=by exact eV
   rw[Wx s a c,At (by rw[b];simp)]at hf;refine⟨⟨k+1,by omega,hf⟩,by simp only;omega,AC [(2,.nm 2)] rfl rfl ?_ ?_⟩
   ·first|exact eN|refine eM ?_
   ·first|exact eN|refine eM ?_
  ·have c:a.drop k=[]:=IF (by exact eV);rw[c]at hf;rw[BY e];exact fI d [.tmp 4,.tmp 5] (by rw[←hf];first|exact eR|refine Zr ?_;exact⟨rfl,rfl⟩)
end
section
attribute [local go_sem] kM
def Fy (a b:AP):Bool:=decide (((IM b.2).length:Int)<((IM a.2).length:Int))||((IM a.2).length:Int)==((IM b.2).length:Int)&&HJ a.1 b.1
def YU:Ac:={ ins:=[YC,YC],pre:=fun(a,b,_)=>List.length (a:AP).2≤100000∧List.length (b:AP).2≤100000,out:=fun(a,b,_)=>[.p .bool (Fy a b)],lend:=true }
theorem sC:Ah Tryz.prog 102 YU:=by
 refine fK [0,1,2,3,4,5,6] Tryz.func102 Tryz.ntmps102 (AE zL AG) ?_;rintro w0 O0 ⟨⟨d,ac⟩,⟨f,e⟩,u⟩ a-⟨ha,c⟩;simp only[YU,AM];repeat'(first|exact trivial|refine eS rfl ?_|refine AB ?_|refine rX a ?_ ?_|refine rC ?_ ?_<;>intro b<;>try(cases b;done))
 ·exact ha
 ·exact c
 ·exact fI a [.tmp 4] (by unfold Fy;exact eR)
end
section
attribute [local go_sem] YS Ja ofS
def Nx (low all:List ByteArray) (n:Nat):List Int:=((List.range n).filter fun(i:Nat)=>AW low (all.getD i ByteArray.empty)).map fun(i:Nat)=>(i:Int)
theorem sD (low all:List ByteArray) (n:Nat):Nx low all (n+1)=Nx low all n++if AW low (all.getD n ByteArray.empty)=true then [(n:Int)] else []:=by
 unfold Nx;rw[AAc,AAZ,AAx]
 congr 1
 rw[AAn,ABE];split<;>rfl
theorem zS (low all:List ByteArray) (n:Nat):(Nx low all n).length≤n:=by
 unfold Nx;rw[nO];exact To (AAv _ _) (by simp)
def Ei (d:List AH) (all:List ByteArray) (s:ByteArray):List Int:=(ofF (Nx (Ce d s) all all.length)).1
def zT:Ac:={ ins:=[E5,B5,T9],pre:=fun(d,l,_,_)=>List.length d≤256∧List.length l≤100000,out:=fun(d,l,s,_)=>[.p D7 (Ei d l s)] }
theorem A27:Ah Tryz.prog 99 zT:=by
 refine fK [0,1,2,6,7,8,9,10,18,26] Tryz.func99 Tryz.ntmps99 (AE zQ (AE Gp (AE A6v AG))) ?_;rintro w0 O0 ⟨d,l,s,u⟩ b-⟨g,e⟩;have e:l.length≤100000:=e;have f:Ei d l s=(ofF (Nx (Ce d s) l l.length)).1:=rfl;simp only[zT,AM];repeat'(first|exact trivial|refine eS rfl ?_|refine AB ?_|refine rX b ?_ ?_|refine rC ?_ ?_<;>intro a<;>try(cases a;done))
 ·exact g
 ·rw[f];generalize Ce d s=low at *;refine AI (ι:={n:Nat//n≤l.length}) (fun n=>⟨[(0,.p E5 d),(1,.p B5 l),(2,.p T9 s),(7,.p B5 low),(8,.sr 30 T3 0 (Nx low l n.1).length),(9,.p (.int .i64) (n.1:Int))],[(30,.arr 3 T3 (Nx low l n.1))]⟩) (fun n=>l.length-n.1) ⟨0,IN _⟩ (AC [(30,.nil)] rfl rfl ?_ ?_) (fun n=>?_)
  ·first|exact eN|refine eM ?_
   rfl
  ·first|exact eN|refine eM ?_
   rfl
  ·obtain⟨n,hn⟩:=n;have h:=zS low l n;have hs:=sD low l n;simp only;repeat'(first|exact trivial|refine eS rfl ?_|refine AB ?_|refine rX b ?_ ?_|refine rC ?_ ?_<;>intro a<;>try(cases a;done))
   ·exact a
   ·rw[a,BY rfl]at hs;simp only[AO];dsimp only[Ty.den]at *;omega
   ·exact eV
   ·have c:n<l.length:=by exact eV
    rw[a,BY rfl]at hs;refine⟨⟨n+1,by omega⟩,by simp only;omega,AC [(30,.nm 30)] rfl rfl ?_ ?_⟩
    ·simp only[hs];first|exact eN|refine eM ?_
    ·simp only[hs];first|exact eN|refine eM ?_
   ·exact eV
   ·have c:n<l.length:=by exact eV
    rw[a,At (by simp),AAa]at hs;refine⟨⟨n+1,by omega⟩,by simp only;omega,AC [(30,.nm 30)] rfl rfl ?_ ?_⟩
    ·simp only[hs];first|exact eN|refine eM ?_
    ·simp only[hs];first|exact eN|refine eM ?_
   ·have c:n=l.length:=by exact eV
    subst c;refine GP [30] ?_;repeat'(first|exact trivial|refine eS rfl ?_|refine AB ?_|refine rX b ?_ ?_|refine rC ?_ ?_<;>intro a<;>try(cases a;done))
    exact fI b [.tmp 6]
end
section
attribute [local go_sem] YJ
def PU (o:List ByteArray) (f:ByteArray×ByteArray):List ByteArray:=EO o f.1
def Qp (o:List ByteArray) (x:AH):List ByteArray:=x.2.2.foldl PU o
def A9 (d:List AH):List ByteArray:=d.foldl Qp []
theorem Wy (l:List (ByteArray×ByteArray)):∀o:List ByteArray,(l.foldl PU o).length≤o.length+l.length:=by
 induction l with
 | nil=>intro o;simp
 | cons x l a =>
  intro o;have h1:=a (PU o x);have b:(PU o x).length≤o.length+1:=L7 o x.1;simp only[TO,No];omega
theorem kR {d:List AH} (h:∀x∈d,x.2.2.length≤256):∀(l:List AH),(∀x∈l,x∈d)→∀o:List ByteArray,(l.foldl Qp o).length≤o.length+256*l.length:=by
 intro l;induction l with
 | nil=>intro _ o;simp
 | cons x l c =>
  intro a o;have h1:=c (fun y b=>a y (by simp[b])) (Qp o x);have e:=Wy x.2.2 o;have f:=h x (a x (by simp));have g:(Qp o x).length=(x.2.2.foldl PU o).length:=rfl;simp only[TO,No];omega
def UH:Ac:={ ins:=[E5],pre:=fun(d,_)=>List.length d≤256∧(∀x∈(d:List AH),x.2.2.length≤256),out:=fun(d,_)=>[.p B5 (A9 d)] }
theorem UI:Ah Tryz.prog 94 UH:=by
 refine fK [0,2,3,4,5,9,19] Tryz.func94 Tryz.ntmps94 (AE Qj AG) ?_;rintro w0 O0 ⟨d,u⟩ c-⟨f,m⟩;have f:d.length≤256:=f;simp only[UH,AM];repeat'(first|exact trivial|refine eS rfl ?_|refine AB ?_|refine rX c ?_ ?_|refine rC ?_ ?_<;>intro a<;>try(cases a;done))
 refine AI (ι:={i:Nat//i≤d.length}) (fun i=>⟨[(0,.p E5 d),(3,.p B5 (A9 (d.take i.1))),(4,.p (.int .i64) (i.1:Int))],[]⟩) (fun i=>d.length-i.1) ⟨0,IN _⟩ (AC [] rfl rfl ?_ ?_) (fun i=>?_)
 ·first|exact eN|refine eM ?_
 ·first|exact eN|refine eM ?_
  rfl
 ·obtain⟨i,hi⟩:=i;have l:=kR m (d.take i) (fun x h=>AAb h) [];have t:=AAo i d;have hs:=fun h:i<d.length=>Eq Qp d d0 [] h;have g:∀e,A9 e=e.foldl Qp []:=fun _=>rfl;simp only;repeat'(first|exact trivial|refine eS rfl ?_|refine AB ?_|refine rX c ?_ ?_|refine rC ?_ ?_<;>intro a<;>try(cases a;done))
  ·have j:i<d.length:=by exact eV
   have v:=m _ (AD d d0 j);have hs:=hs j;rw[←g,←g]at hs;rw[←g]at l;generalize A9 (d.take i)=o at *;refine AI (ι:={k:Nat//k≤(d.getD i d0).2.2.length}) (fun k=>⟨[(0,.p E5 d),(3,.p B5 (((d.getD i d0).2.2.take k.1).foldl PU o)),(4,.p (.int .i64) (i:Int)),(5,.p (.int .i64) (k.1:Int))],[]⟩) (fun k=>(d.getD i d0).2.2.length-k.1) ⟨0,IN _⟩ (AC [] rfl rfl ?_ ?_) (fun k=>?_)
   ·first|exact eN|refine eM ?_
   ·first|exact eN|refine eM ?_
    rfl
   ·obtain⟨k,hk⟩:=k;have r:k≤(d.getD i d0).2.2.length:=hk;have q:=Wy ((d.getD i d0).2.2.take k) o;have s:=AAo k (d.getD i d0).2.2;have n:=fun h:k<(d.getD i d0).2.2.length=>Eq PU (d.getD i d0).2.2 (ByteArray.empty,ByteArray.empty) o h;simp only;repeat'(first|exact trivial|refine eS rfl ?_|refine AB ?_|refine rX c ?_ ?_|refine rC ?_ ?_<;>intro a<;>try(cases a;done))
    ·assumption
    ·refine⟨by assumption,a,?_⟩;simp only[AAM]at l;dsimp only[Ty.den]at *;omega
    ·have h1:(k:Int)<((d.getD i d0).2.2.length:Int):=a;exact eV
    ·have b:k<(d.getD i d0).2.2.length:=IS.1 a;have e:=n b;refine⟨⟨k+1,b⟩,by simp only;omega,AC [] rfl rfl ?_ ?_⟩
     ·first|exact eN|refine eM ?_
     ·simp only[e];unfold PU;first|exact eN|refine eM ?_
    ·have:=f;exact eV
    ·have b:(d.getD i d0).2.2.take k=(d.getD i d0).2.2:=As (oF.1 a);have e:A9 (d.take (i+1))=((d.getD i d0).2.2.take k).foldl PU o:=by rw[b];exact hs
     refine⟨⟨i+1,j⟩,by simp only;omega,AC [] rfl rfl ?_ ?_⟩
     ·first|exact eN|refine eM ?_
     ·simp only[e];first|exact eN|refine eM ?_
  ·have b:d.take i=d:=As (by exact eV);rw[b];exact fI c [.tmp 2]
end
theorem Wz {d:List AH} {l:List ByteArray}:∀ {r:List ByteArray} {k:Nat},SF d l k r=0→∀s∈r,0≤Aj d s
 | [],_,_,s,hs=>by cases hs
 | x :: r,k,h,s,hs=>by
  simp only[SF]at h;split at h
  ·cases h
  ·rename_i h1;split at h
   ·cases h
   ·rcases GO.1 hs with rfl|hs
    ·omega
    ·exact Wz h s hs
theorem PW {d:List AH}:∀ {l:List AH},Kq d l=0→∀x∈l,∀s∈x.2.1,0≤Aj d s
 | [],_,x,a=>by cases a
 | y :: l,h,x,a=>by
  simp only[Kq]at h;split at h
  ·rename_i h1;exact absurd h h1
  ·rename_i h1;rcases GO.1 a with rfl|a
   ·exact Wz (DO h1)
   ·exact PW h x a
theorem zU {d:List AH} (h:Kr d=0):PN d:=PW h
theorem Av {d:List AH} (h:A3 d=0):PN d∧d.length≤256∧IR d=1∧Cb d=0∧d.length≤(Bc d).length:=by
 unfold A3 at h;split at h
 ·rename_i h1;exact absurd h h1
 ·rename_i h1;split at h
  ·rename_i a;exact absurd h a
  ·rename_i a;split at h
   ·rename_i b;exact absurd h b
   ·rename_i b;split at h
    ·cases h
    ·rename_i c;split at h
     ·cases h
     ·rename_i e;exact⟨zU (DO b),Rm (DO h1),DO c,DO a,by omega⟩
section
attribute [local go_sem] A3E zI
def GT (l:List (List Int)) (i k:Nat):List (List Int) :=
 if (decide (0<((EP (l.getD i []) (l.getD k [])).length:Int))&&!kP l (EP (l.getD i []) (l.getD k [])))=true then l++[EP (l.getD i []) (l.getD k [])] else l
def GU (i:Nat):Nat→Nat→List (List Int)→List (List Int)
 | 0,_,l=>l
 | n+1,k,l=>if l.length≤256 then GU i n (k+1) (GT l i k) else l
def IU:Nat→Nat→List (List Int)→List (List Int)
 | 0,_,l=>l
 | n+1,i,l=>if i<l.length∧l.length≤256 then IU n (i+1) (GU i i 0 l) else l
def Aq (c:List (List Int)):List (List Int):=IU 257 0 c
theorem fG (a b:List Int):(EP a b).length≤a.length:=by
 unfold EP BI;have:=Eh .and a b a.length;rw[SH];omega
structure A30 (l:List (List Int)):Prop where
 len:l.length≤257
 wid:∀c∈l,c.length≤64
theorem MB {l:List (List Int)} (h:∀c∈l,c.length≤64) (k:Nat):(l.getD k []).length≤64:=by
 rw[AS];cases hh:l[k]? with
 | none=>simp
 | some x=>exact h x (AAe hh)
theorem fH {l:List (List Int)} (h:∀c∈l,c.length≤64) (i k:Nat):∀c∈GT l i k,c.length≤64:=by
 unfold GT;split
 ·intro c a;rcases ON.1 a with a|a
  ·exact h c a
  ·have:c=EP (l.getD i []) (l.getD k []):=by simpa using a
   rw[this];exact To (fG _ _) (MB h i)
 ·exact h
theorem zV (l:List (List Int)) (i k:Nat):l.length≤(GT l i k).length∧(GT l i k).length≤l.length+1:=by
 unfold GT;split
 ·simp
 ·exact⟨NO _,Nat.le_succ _⟩
def YV:Ac:={ ins:=[SD],pre:=fun(c,_)=>List.length c≤256∧∀x∈(c:List (List Int)),x.length≤64,out:=fun(c,_)=>[.p SD (Aq c)] }
theorem sE:Ah Tryz.prog 100 YV:=by
 refine fK [0,2,3,4,5,6,18,28,48] Tryz.func100 Tryz.ntmps100 (AE kJ (AE A3F AG)) ?_;rintro w0 O0 ⟨c,u⟩ d-⟨n,t⟩;have n:c.length≤256:=n;simp only[YV,AM];repeat'(first|exact trivial|refine eS rfl ?_|refine AB ?_|refine rX d ?_ ?_|refine rC ?_ ?_<;>intro a<;>try(cases a;done))
 ·simp only[AO];dsimp only[Ty.den]at *;omega
 ·refine AI (ι:={x:Nat×List (List Int)//x.1≤256∧A30 x.2∧IU (257-x.1) x.1 x.2=Aq c}) (fun x=>⟨[(3,.sr 7 D7 0 x.1.2.length),(4,.p (.int .i64) (x.1.1:Int))],[(7,.arr 81 D7 x.1.2)]⟩) (fun x=>257-x.1.1) ⟨(0,c),by simp,⟨by simp only;omega,t⟩,rfl⟩ (AC [(7,.nm 7)] rfl rfl ?_ ?_) (fun x=>?_)
  ·first|exact eN|refine eM ?_
  ·first|exact eN|refine eM ?_
  ·obtain⟨⟨i,l⟩,hi,⟨q,s⟩,f⟩:=x;simp only at hi q s f;simp only;repeat'(first|exact trivial|refine eS rfl ?_|refine AB ?_|refine rX d ?_ ?_|refine rC ?_ ?_<;>intro a<;>try(cases a;done))
   ·have w:i<l.length:=by omega
    have z:l.length≤256:=by omega
    have o:IU (256-i) (i+1) (GU i i 0 l)=Aq c:=by
     have e:257-i=(256-i)+1:=by omega
     rw[←f,e];show _=if i<l.length∧l.length≤256 then IU (256-i) (i+1) (GU i i 0 l) else l
     rw[BY ⟨w,z⟩]
    refine AI (ι:={y:Nat×List (List Int)//y.1≤i∧A30 y.2∧l.length≤y.2.length∧GU i (i-y.1) y.1 y.2=GU i i 0 l}) (fun y=>⟨[(3,.sr 7 D7 0 y.1.2.length),(4,.p (.int .i64) (i:Int)),(5,.p (.int .i64) (y.1.1:Int))],[(7,.arr 81 D7 y.1.2)]⟩) (fun y=>i-y.1.1) ⟨(0,l),by simp,⟨q,s⟩,NO _,rfl⟩ (AC [(7,.nm 7)] rfl rfl ?_ ?_) (fun y=>?_)
    ·first|exact eN|refine eM ?_
    ·first|exact eN|refine eM ?_
    ·obtain⟨⟨k,m⟩,hk,⟨g,b⟩,r,hf⟩:=y;simp only at hk g b r hf;simp only;repeat'(first|exact trivial|refine eS rfl ?_|refine AB ?_|refine rX d ?_ ?_|refine rC ?_ ?_<;>intro a<;>try(cases a;done))
     ·exact⟨by exact eV,by exact eV,To (MB b i) (by decide)⟩
     ·simp only[AO];omega
     ·omega
     ·have e:GT m i k=m++[EP (m.getD i []) (m.getD k [])]:=by
       unfold GT;rw[BY];rw[An,By,OF];exact a
      have C:=fH b i k;have D:=zV m i k;refine⟨⟨(k+1,GT m i k),by simp only;omega,⟨by simp only;omega,C⟩,by simp only;omega,?_⟩,by simp only;omega,AC [(7,.nm 7)] rfl rfl ?_ ?_⟩
      ·simp only;rw[←hf,show i-k=(i-(k+1))+1 by omega];show _=if m.length≤256 then GU i (i-(k+1)) (k+1) (GT m i k) else m
       rw[BY (by omega)]
      ·simp only[e];first|exact eN|refine eM ?_
      ·simp only[e];first|exact eN|refine eM ?_
     ·omega
     ·have e:GT m i k=m:=by
       unfold GT;rw[At];rw[An,By,OF];intro h;rw[a h.1]at h;exact absurd h.2 (by simp)
      refine⟨⟨(k+1,m),by simp only;omega,⟨g,b⟩,r,?_⟩,by simp only;omega,AC [(7,.nm 7)] rfl rfl ?_ ?_⟩
      ·simp only;rw[←hf,show i-k=(i-(k+1))+1 by omega];show _=if m.length≤256 then GU i (i-(k+1)) (k+1) (GT m i k) else m
       rw[BY (by omega),e]
      ·first|exact eN|refine eM ?_
      ·first|exact eN|refine eM ?_
     ·omega
     ·have B:m=GU i i 0 l:=by
       rw[←hf];cases A:i-k with
       | zero=>rfl
       | succ j =>
        show _=if m.length≤256 then _ else m
        rw[At (by omega)]
      rw[←B]at o;refine⟨⟨(i+1,m),by simp only;omega,⟨g,b⟩,?_⟩,by simp only;omega,AC [(7,.nm 7)] rfl rfl ?_ ?_⟩
      ·simp only;rw[show 257-(i+1)=256-i by omega];exact o
      ·first|exact eN|refine eM ?_
      ·first|exact eN|refine eM ?_
   ·have v:l=Aq c:=by
     rw[←f];cases A:257-i with
     | zero=>rfl
     | succ m =>
      show _=if i<l.length∧l.length≤256 then _ else l
      rw[At (by omega)]
    rw[←v];refine GP [7] ?_;exact fI d [.tmp 2]
theorem cs0 {α:Type} (x y:α):(if ({ data:=#[] }:ByteArray).size≤AO then x else y)=x:=BY (by show 0≤AO;decide)
theorem cs1 {α:Type} (a:UInt8) (x y:α):(if ({ data:=#[a] }:ByteArray).size≤AO then x else y)=x:=BY (by show 1≤AO;decide)
theorem cs2 {α:Type} (a b:UInt8) (x y:α):(if ({ data:=#[a,b] }:ByteArray).size≤AO then x else y)=x:=BY (by show 2≤AO;decide)
theorem cs3 {α:Type} (a b c:UInt8) (x y:α):(if ({ data:=#[a,b,c] }:ByteArray).size≤AO then x else y)=x:=BY (by show 3≤AO;decide)
theorem cs4 {α:Type} (a b c d:UInt8) (x y:α):(if ({ data:=#[a,b,c,d] }:ByteArray).size≤AO then x else y)=x:=BY (by show 4≤AO;decide)
theorem cs5 {α:Type} (a b c d e:UInt8) (x y:α):(if ({ data:=#[a,b,c,d,e] }:ByteArray).size≤AO then x else y)=x:=BY (by show 5≤AO;decide)
theorem cs6 {α:Type} (a b c d e f:UInt8) (x y:α):(if ({ data:=#[a,b,c,d,e,f] }:ByteArray).size≤AO then x else y)=x:=BY (by show 6≤AO;decide)
theorem cs7 {α:Type} (a b c d e f g:UInt8) (x y:α):(if ({ data:=#[a,b,c,d,e,f,g] }:ByteArray).size≤AO then x else y)=x:=BY (by show 7≤AO;decide)
theorem cs8 {α:Type} (a b c d e f g h:UInt8) (x y:α):(if ({ data:=#[a,b,c,d,e,f,g,h] }:ByteArray).size≤AO then x else y)=x:=BY (by show 8≤AO;decide)
end
def BA (b:List Int) (i:Nat):Bool:=(b.getD (i / 64) 0).toNat.testBit (i % 64)
def zW (x:Int):Prop:=0≤x∧x<18446744073709551616
theorem Fa {x:Int} (h:zW x):(BitVec.ofInt 64 x).toNat=x.toNat:=by
 rw[BitVec.toNat_ofInt];have h1:=h.1;have a:=h.2;rw[Int.emod_eq_of_lt h1 (by simpa using a)]
theorem PX {n:Nat} (h:n<18446744073709551616):IntKind.u64.wrap (n:Int)=n:=KT (by rw[Hb];omega)
theorem A28 {x y:Int} (a:zW x) (b:zW y):B6 .or .u64 x y=((x.toNat ||| y.toNat:Nat):Int):=by
 have h1:(BitVec.ofInt IntKind.u64.bits x ||| BitVec.ofInt IntKind.u64.bits y).toNat=x.toNat ||| y.toNat:=by
  rw[BitVec.toNat_or];show (BitVec.ofInt 64 x).toNat ||| (BitVec.ofInt 64 y).toNat=_
  rw[Fa a,Fa b]
 unfold B6;simp only;rw[h1];have e:(18446744073709551616:Nat)=2 ^ 64:=by decide
 refine PX ?_;rw[e];refine Nat.or_lt_two_pow ?_ ?_
 ·have:=a.2;have:=a.1;omega
 ·have:=b.2;have:=b.1;omega
theorem IV {x y:Int} (a:zW x) (b:zW y):B6 .and .u64 x y=((x.toNat &&& y.toNat:Nat):Int):=by
 have h1:(BitVec.ofInt IntKind.u64.bits x &&& BitVec.ofInt IntKind.u64.bits y).toNat=x.toNat &&& y.toNat:=by
  rw[BitVec.toNat_and];show (BitVec.ofInt 64 x).toNat &&& (BitVec.ofInt 64 y).toNat=_;rw[Fa a,Fa b]
 unfold B6;simp only;rw[h1];refine PX (ACh ACb ?_);have:=a.2;have:=a.1;omega
theorem Qq {x y:Int}:B6 .andNot .u64 x y=((BitVec.ofInt 64 x &&& ~~~BitVec.ofInt 64 y).toNat:Int):=by
 show IntKind.u64.wrap ((BitVec.ofInt 64 x &&& ~~~BitVec.ofInt 64 y).toNat:Int)=_;exact PX (BitVec.isLt _)
theorem Rn {x y:Int} (c:zW x) (d:zW y) (h:B6 .andNot .u64 x y=0) {r:Nat} (hr:r<64) (b:x.toNat.testBit r=true):y.toNat.testBit r=true:=by
 rw[Qq]at h;have h1:(BitVec.ofInt 64 x &&& ~~~BitVec.ofInt 64 y).toNat=0:=by omega
 have a:(BitVec.ofInt 64 x &&& ~~~BitVec.ofInt 64 y).toNat.testBit r=false:=by rw[h1];exact Nat.zero_testBit r
 rw[ABt,BitVec.getLsbD_and,BitVec.getLsbD_not,←ABt,←ABt,Fa c,Fa d,b]at a;simpa[hr] using a
theorem fJ {x:Int}:B6 .andNot .u64 x x=0:=by
 rw[Qq];simp
theorem Ny {b:List Int}:∀ {n:Nat},∀k,CX b n≤k→k<n→b.getD k 0=0
 | 0,k,_,h=>by omega
 | n+1,k,h1,c=>by
  unfold CX at h1;split at h1
  ·rename_i a;by_cases hk:k=n
   ·rw[hk];exact a
   ·exact Ny k h1 (by omega)
  ·omega
theorem PY (b:List Int) (k:Nat):(BI b).getD k 0=b.getD k 0:=by
 unfold BI;by_cases h:k<CX b b.length
 ·simp[AS,AA0,h]
 ·have h1:(List.take (CX b b.length) b).getD k 0=0:=by
   rw[AS,AA0,At h];rfl
  rw[h1];by_cases a:k<b.length
  ·exact(Ny k (by omega) a).symm
  ·rw[AS,gO (by omega)];rfl
theorem Nz (b:List Int) (i:Nat):BA (BI b) i=BA b i:=by unfold BA;rw[PY]
def IW (b:List Int):Prop:=∀x∈b,zW x
theorem BG {b:List Int} (h:IW b) (k:Nat):zW (b.getD k 0):=by
 rw[AS];cases hh:b[k]? with
 | none=>exact⟨by simp,by simp⟩
 | some x=>exact h x (AAe hh)
theorem N0 {b:List Int} (h:IW b):IW (BI b):=fun x a=>h x (AAb a)
theorem J1 (b:List Int) (k:Nat):F8 b (k:Int)=b.getD k 0:=by
 unfold F8;split
 ·simp
 ·rename_i h;rw[AS,gO (by omega)];rfl
theorem Mn (op:BinOp) (a b:List Int) {n k:Nat} (h:k<n):(GR op a b n).getD k 0=B6 op .u64 (a.getD k 0) (b.getD k 0):=by
 unfold GR;rw[AS,AAy,ABA h];show B6 op .u64 (a.getD k 0) (F8 b (k:Int))=_;rw[J1]
theorem YW {a b:List Int} (h:FB a b=true) {k:Nat} (hk:k<a.length):B6 .andNot .u64 (a.getD k 0) (b.getD k 0)=0:=by
 unfold FB Ql BI at h;have h1:(List.take (CX (GR .andNot a b a.length) (GR .andNot a b a.length).length) (GR .andNot a b a.length)).length=0:=by
  have:=AA1.1 h;omega
 rw[SH,Eh]at h1;have d:=UB (GR .andNot a b a.length) a.length;have c:=Ny (b:=GR .andNot a b a.length) (n:=a.length) k (by omega) hk;rw[Mn _ _ _ hk]at c;exact c
theorem MC {a b:List Int} (ha:IW a) (c:IW b) (h:FB a b=true) {i:Nat} (hi:BA a i=true):BA b i=true:=by
 by_cases hk:i / 64<a.length
 ·exact Rn (BG ha _) (BG c _) (YW h hk) (ACH _ (by decide)) hi
 ·exfalso;unfold BA at hi;rw[AS,gO (by omega)]at hi;simp at hi
theorem Qr {b:List Int}:∀ {n:Nat},(∀k,k<n→b.getD k 0=0)→CX b n=0
 | 0,_=>rfl
 | n+1,h=>by
  unfold CX;rw[BY (h n (by omega))];exact Qr fun k hk=>h k (by omega)
theorem fL (a:List Int):FB a a=true:=by
 unfold FB Ql BI;have h1:CX (GR .andNot a a a.length) (GR .andNot a a a.length).length=0:=by
  rw[Eh];exact Qr fun k hk=>by rw[Mn _ _ _ hk];exact fJ
 rw[h1];rfl
theorem fN (a:List Int):DK a a=true:=by unfold DK;rw[fL];rfl
theorem A29 {b:List Int} (j:IW b) (l:b.length=64) {x:Int} (h0:0≤x) (h1:x≤4095) (i:Nat):BA (sB b x) i=(BA b i||decide (x=(i:Int))):=by
 have d:Int.tdiv x 64=x / 64:=AAp h0;have e:Int.tmod x 64=x % 64:=ABj h0;obtain⟨n,rfl⟩:∃n:Nat,x=(n:Int):=⟨x.toNat,by omega⟩;have hs:R7 .u64 1 ((n:Int) % 64)=((2 ^ (n % 64):Nat):Int):=by
  unfold R7;have f:min ((n:Int) % 64).toNat IntKind.u64.bits=n % 64:=by
   have:((n:Int) % 64).toNat=n % 64:=by omega
   rw[this];have:IntKind.u64.bits=64:=rfl;omega
  rw[f,Int.one_mul];have:(2:Int) ^ (n % 64)=((2 ^ (n % 64):Nat):Int):=by simp
  rw[this];refine PX ?_;have a:(2:Nat) ^ (n % 64)<2 ^ 64:=Nat.pow_lt_pow_right (by decide) (ACH _ (by decide));exact a
 have hu:zW (R7 .u64 1 ((n:Int) % 64)):=by
  rw[hs];have a:(2:Nat) ^ (n % 64)<2 ^ 64:=Nat.pow_lt_pow_right (by decide) (ACH _ (by decide));have g:(2:Nat) ^ 64=18446744073709551616:=by decide
  refine⟨oN _,?_⟩;rw[g]at a;exact IS.2 a
 have hn:((n:Int) / 64).toNat=n / 64:=by omega
 unfold sB BA;rw[d,e,hn];by_cases c:i / 64=n / 64
 ·have k:n / 64<b.length:=by omega
  rw[c];have:(b.set (n / 64) (B6 .or .u64 (b.getD (n / 64) 0) (R7 .u64 1 ((n:Int) % 64)))).getD (n / 64) 0=B6 .or .u64 (b.getD (n / 64) 0) (R7 .u64 1 ((n:Int) % 64)):=by
   simp[AS,k]
  rw[this,A28 (BG j _) hu,hs];simp only[f7,Nat.testBit_or,Nat.testBit_two_pow]
  congr 1
  rw[decide_eq_decide];omega
 ·have:(b.set (n / 64) (B6 .or .u64 (b.getD (n / 64) 0) (R7 .u64 1 ((n:Int) % 64)))).getD (i / 64) 0=b.getD (i / 64) 0:=by
   simp[AS,AAs,ACJ c]
  rw[this];have:decide ((n:Int)=(i:Int))=false:=by
   rw[On];intro h;exact c (by omega)
  rw[this,Bool.or_false]
theorem A2a {b:List Int} (c:IW b) (x:Int):IW (sB b x):=by
 intro y a;unfold sB at a;rcases AAT a with h|h
 ·exact c y h
 ·rw[h];have:=MV .u64 ((BitVec.ofInt IntKind.u64.bits (b.getD (x.tdiv 64).toNat 0) ||| BitVec.ofInt IntKind.u64.bits (R7 .u64 1 (x.tmod 64))).toNat:Int);rw[Hb]at this;exact⟨this.1,by have:=this.2;show _<_;exact ACo this (by decide)⟩
theorem A2b {l:List Int} (h:l.all okB=true) (i:Nat):BA (tV l) i=decide ((i:Int)∈l)∧IW (tV l):=by
 have key:∀(l b:List Int),l.all okB=true→IW b→b.length=64→BA (l.foldl sB b) i=(BA b i||decide ((i:Int)∈l))∧IW (l.foldl sB b):=by
  intro l;induction l with
  | nil=>intro b _ a _;simp[a]
  | cons x l m =>
   intro b c a d;rw[AB0,An]at c;have e:=c.1;unfold okB at e;rw[OF,AAl,On,On]at e;obtain⟨f,g⟩:=m (sB b x) c.2 (A2a a x) (by simp[sB,d]);rw[TO];refine⟨?_,g⟩;rw[f,A29 a d (by omega) (by omega),Bool.or_assoc]
   congr 1
   rw[←Bool.decide_or,decide_eq_decide,GO,eq_comm]
 have j:IW (List.replicate 64 (0:Int)):=by
  intro y k;rw[(List.mem_replicate.1 k).2];exact⟨by decide,by decide⟩
 have h1:=key l (List.replicate 64 0) h j (by simp);refine⟨?_,h1.2⟩;unfold tV;rw[h1.1];have:BA (List.replicate 64 (0:Int)) i=false:=by
  unfold BA;have:(List.replicate 64 (0:Int)).getD (i / 64) 0=0:=by
   rw[AS,AAB];split<;>rfl
  rw[this];simp
 rw[this,ACy]
theorem zX {low all:List ByteArray} {n i:Nat}:((i:Int)∈Nx low all n)↔i<n∧AW low (all.getD i ByteArray.empty)=true:=by
 unfold Nx;rw[If];constructor
 ·rintro⟨j,a,e⟩;have:j=i:=by omega
  subst this;rw[AA4,iS]at a;exact a
 ·rintro⟨h1,b⟩;exact⟨i,by rw[AA4,iS];exact⟨h1,b⟩,rfl⟩
theorem A2c {low all:List ByteArray} {n:Nat} (hn:n≤4096):(Nx low all n).all okB=true:=by
 rw[Do];intro x a;unfold Nx at a;obtain⟨j,b,rfl⟩:=If.1 a;rw[AA4,iS]at b;unfold okB;rw[OF,AAl,On,On];exact⟨by omega,by omega⟩
theorem Bw {d:List AH} {all:List ByteArray} (c:all.length≤4096) (s:ByteArray) (i:Nat):(BA (Ei d all s) i=true↔i<all.length∧AW (Ce d s) (all.getD i ByteArray.empty)=true)∧IW (Ei d all s)∧(Ei d all s).length≤64:=by
 have h1:=A2c (low:=Ce d s) (all:=all) c;have b:=A2b h1 i;have a:Ei d all s=BI (tV (Nx (Ce d s) all all.length)):=by
  unfold Ei ofF;rw[BY h1]
 refine⟨?_,?_,?_⟩
 ·rw[a,Nz,b.1,By,zX]
 ·rw[a];exact N0 b.2
 ·rw[a];unfold BI;have:=PR (Nx (Ce d s) all all.length);rw[SH];omega
theorem I8 (d:List AH) {s t:ByteArray} (h:Aa s t=true):Aj d s=Aj d t:=by
 have key:∀(l:List AH) (k:Nat),Cq s k l=Cq t k l:=by
  intro l;induction l with
  | nil=>intro k;rfl
  | cons x l b =>
   intro k;simp only[Cq];have:Aa x.1 s=Aa x.1 t:=by
    cases h1:Aa x.1 s with
    | true=>exact(BF h1 h).symm
    | false =>
     cases a:Aa x.1 t with
     | false=>rfl
     | true=>rw[BF a (Dq h)]at h1;cases h1
   rw[this,b]
 exact key d 0
theorem BC {α:Type} {l:List α} {d:α} {k:Nat} (h:k<l.length):l.getD k d∈l:=by
 rw[AS,AT h];exact AA7 h
theorem CC {α:Type} {l:List α} (d:α) {x:α} (h:x∈l):∃k,k<l.length∧l.getD k d=x:=by
 obtain⟨k,hk,e⟩:=AAf.1 h;exact⟨k,hk,by rw[AS,AT hk];exact e⟩
theorem I9 {d:List AH}:∀ {r:List AH} {k:Nat},Nv d k r=0→∀j,j<r.length→¬Aj d (r.getD j d0).1<((k+j:Nat):Int)∧Eg (r.getD j d0).1 false=true
 | [],_,_,j,a=>by simp at a
 | x :: r,k,h,j,a=>by
  simp only[Nv]at h;split at h
  ·cases h
  ·rename_i h1;split at h
   ·cases h
   ·rename_i b;cases j with
    | zero=>exact⟨b,by simpa using h1⟩
    | succ j =>
     have:=I9 h j (by simpa using a);have e:k+(j+1)=k+1+j:=by omega
     rw[e];exact this
theorem PZ (s:ByteArray):∀(l:List AH) (k j:Nat),j<l.length→Aa (l.getD j d0).1 s=true→Cq s k l≤((k+j:Nat):Int)
 | [],_,j,h,_=>by simp at h
 | x :: l,k,j,h,e=>by
  simp only[Cq];split
  ·omega
  ·rename_i h1;cases j with
   | zero=>exact absurd e h1
   | succ j =>
    have:=PZ s l (k+1) j (by simpa using h) e;omega
theorem J2 {d:List AH} (h:Cb d=0) {j:Nat} (b:j<d.length):Aj d (d.getD j d0).1=(j:Int):=by
 have h1:=(I9 h j b).1;have a:=PZ (d.getD j d0).1 d 0 j b (Cr _);rw[AAL]at h1 a;have a:Aj d (d.getD j d0).1≤(j:Int):=a;omega
theorem Pa {d:List AH} (h:Cb d=0) {x y:AH} (c:x∈d) (f:y∈d) (e:Aa x.1 y.1=true):x=y:=by
 obtain⟨i,hi,rfl⟩:=CC d0 c;obtain⟨j,b,rfl⟩:=CC d0 f;have h1:=J2 h hi;have a:=J2 h b;rw[I8 d e,a]at h1;have:i=j:=by omega
 rw[this]
theorem kS (d:List AH) (out:List ByteArray) (h:(IP d out).1=true):∃x∈d,x.1=(IP d out).2∧AW out x.1=false∧Xk x out=true:=by
 have key:∀(l:List AH) (s:Bool×ByteArray),(∀x∈l,x∈d)→(s.1=true→∃x∈d,x.1=s.2∧AW out x.1=false∧Xk x out=true)→(l.foldl (I6 out) s).1=true →
   ∃x∈d,x.1=(l.foldl (I6 out) s).2∧AW out x.1=false∧Xk x out=true:=by
  intro l;induction l with
  | nil=>intro s _ hs h;exact hs h
  | cons y l f =>
   intro s c hs h;rw[TO]at h ⊢;refine f _ (fun x e=>c x (by simp[e])) (fun hp=>?_) h;unfold I6 at hp ⊢;split
   ·rename_i a;rw[BY a]at hp;exact hs hp
   ·rename_i a;simp only;have a:AW out y.1=false∧Xk y out=true:=by simpa using a
    split
    ·exact⟨y,c y (by simp),rfl,a⟩
    ·rename_i b;have:s.1=true:=by
      cases hh:s.1 with
      | true=>rfl
      | false=>rw[hh]at b;simp at b
     exact hs this
 exact key d _ (fun _ h=>h) (fun h=>by cases h) h
def PL (d:List AH) (o:List ByteArray):Prop:=∀j,j<o.length→∃x∈d,x.1=o.getD j ByteArray.empty∧AW (o.take j) x.1=false∧Xk x (o.take j)=true
theorem PL.snoc {d:List AH} {o:List ByteArray} (h:PL d o) {x:AH} (k:x∈d) (h1:AW o x.1=false) (f:Xk x o=true):PL d (o++[x.1]):=by
 intro j g;by_cases a:j<o.length
 ·obtain⟨y,l,b,c,e⟩:=h j a;refine⟨y,l,?_,?_,?_⟩
  ·rw[b];simp[AS,AAk,a]
  ·rw[ABa (by omega)];exact c
  ·rw[ABa (by omega)];exact e
 ·have i:j=o.length:=by simp at g;omega
  subst i;refine⟨x,k,?_,?_,?_⟩
  ·simp[AS]
  ·rw[ABa (by omega),f5];exact h1
  ·rw[ABa (by omega),f5];exact f
theorem UJ {d:List AH}:∀ {n:Nat} {o:List ByteArray},PL d o→PL d (I7 d n o)
 | 0,_,h=>h
 | n+1,o,h=>by
  unfold I7;split
  ·rename_i hp;obtain⟨x,b,e,h1,a⟩:=kS d o hp;rw[←e];exact UJ (h.snoc b h1 a)
  ·exact h
theorem W8 (d:List AH):PL d (Bc d):=UJ fun j a=>by simp at a
theorem PL.ok {d:List AH} {o:List ByteArray} (h:PL d o):YR d o:=by
 refine⟨fun s hs=>?_,?_⟩
 ·obtain⟨j,a,rfl⟩:=CC ByteArray.empty hs;obtain⟨x,c,e,-⟩:=h j a;rw[←e];exact DU c
 ·rw[oR];intro i j hi a f;obtain⟨x,c,e,h1,-⟩:=h j a;have b:=PO h1 o[i] (by rw[ABr];exact⟨i,by omega,rfl⟩);rw[e]at b;rw[AS,AT a]at b;exact b
theorem kT {n:Nat} {l:List Nat} (h:l.Nodup) (c:∀j∈l,j<n) (hn:n≤l.length) {k:Nat} (hk:k<n):k∈l:=by
 refine DO fun b=>?_;have:=EE n (k :: l) (AA5.2 ⟨b,h⟩) (fun j a=>by
  rcases GO.1 a with rfl|a
  ·exact hk
  ·exact c j a)
 simp at this;omega
theorem kU {d:List AH} (l:d.length≤(Bc d).length) {x:AH} (m:x∈d):∃s∈Bc d,Aa s x.1=true:=by
 have a:=(W8 d).ok;have h1:=Kt d a;have h0:=DU m;have h:=DL d x.1;have f:=kT (n:=d.length) h1 (fun j i=>by
  obtain⟨s,hs,rfl⟩:=If.1 i;have h1:=a.decl s hs;rcases DL d s with g|⟨_,g,_⟩<;>omega) (by simpa using l) (k:=(Aj d x.1).toNat) (by omega)
 obtain⟨s,hs,e⟩:=If.1 f;refine⟨s,hs,?_⟩;rcases DL d s with g|⟨_,_,b⟩
 ·have:=a.decl s hs;omega
 ·rcases h with g|⟨_,_,c⟩
  ·omega
  ·rw[e]at b;exact BF (Dq b) c
def GA (d:List AH) (s:ByteArray):Nat:=(Bc d).findIdx fun x=>Aa x s
theorem IX (d:List AH) {s t:ByteArray} (h:Aa s t=true):GA d s=GA d t:=by
 unfold GA
 congr 1
 funext x;cases h1:Aa x s with
 | true=>exact(BF h1 h).symm
 | false =>
  cases a:Aa x t with
  | false=>rfl
  | true=>rw[BF a (Dq h)]at h1;cases h1
theorem Ku {d:List AH} (hn:Cb d=0) (o:d.length≤(Bc d).length) {x:AH} (g:x∈d) {s:ByteArray} (hs:AW x.2.1 s=true):GA d s<GA d x.1:=by
 obtain⟨t,q,e⟩:=kU o g;have c:GA d x.1<(Bc d).length:=List.findIdx_lt_length_of_exists ⟨t,q,e⟩;have heq:Aa ((Bc d)[GA d x.1]) x.1=true:=List.findIdx_getElem (w:=c);obtain⟨y,r,a,-,j⟩:=W8 d (GA d x.1) c;rw[AS,AT c]at a;have a:y.1=(Bc d)[GA d x.1]:=a;rw[←a]at heq;have z:=Pa hn r g heq;subst z;obtain⟨u,hu,h⟩:=Of.1 hs;have k:AW ((Bc d).take (GA d y.1)) u=true:=Do.1 j u hu;obtain⟨v,f,ev⟩:=Of.1 k;rw[ABr]at f;obtain⟨i,hi,rfl⟩:=f;have n:i<GA d y.1:=by omega
 refine ACh ?_ n;refine DO fun m=>?_;have b:=List.not_of_lt_findIdx (p:=fun x=>Aa x s) (xs:=Bc d) (i:=i) (by unfold GA at m;omega);have l:Aa ((Bc d)[i]) s=true:=BF ev h;try simp only at b
 rw[l]at b;exact absurd b (by simp)
def Vo (d:List AH) (s x:ByteArray):Prop:=Aa s x=true∨GA d s<GA d x
theorem sF {d:List AH} (hn:Cb d=0) (f:d.length≤(Bc d).length) {s c:ByteArray} (b:Vo d s c) {o:List ByteArray} (e:∀x∈o,Vo d s x) {x:AH} (g:x∈d):∀y∈E6 c o x,Vo d s y:=by
 intro y a;unfold E6 at a;split at a
 ·rename_i h;rw[An]at h;rcases ON.1 a with a|a
  ·exact e y a
  ·have:y=x.1:=by simpa using a
   subst this;have h1:=Ku hn f g h.1;right;rcases b with b|b
   ·rw[IX d b];exact h1
   ·omega
 ·exact e y a
theorem UK {d:List AH} (hn:Cb d=0) (e:d.length≤(Bc d).length) {s c:ByteArray} (b:Vo d s c):∀ {l:List AH} {o:List ByteArray},(∀x∈l,x∈d)→(∀x∈o,Vo d s x)→∀y∈l.foldl (E6 c) o,Vo d s y
 | [],_,_,a=>a
 | x :: l,o,f,a=>by
  rw[TO];exact UK hn e b (fun y g=>f y (by simp[g])) (sF hn e b a (f x (by simp)))
theorem Ro {d:List AH} (hn:Cb d=0) (b:d.length≤(Bc d).length) {s:ByteArray}:∀ {n i:Nat} {o:List ByteArray},(∀x∈o,Vo d s x)→∀y∈Cc d n i o,Vo d s y
 | 0,_,_,a=>a
 | n+1,i,o,a=>by
  unfold Cc;split
  ·rename_i hi;exact Ro hn b (UK hn b (a _ (BC hi)) (fun _ h=>h) a)
  ·exact a
theorem zY {c:ByteArray} {o:List ByteArray} {x:AH} {y:ByteArray} (h:y∈o):y∈E6 c o x:=by
 unfold E6;split
 ·exact ON.2 (.inl h)
 ·exact h
theorem Mo {c:ByteArray} {y:ByteArray}:∀ {l:List AH} {o:List ByteArray},y∈o→y∈l.foldl (E6 c) o
 | [],_,h=>h
 | x :: l,o,h=>by rw[TO];exact Mo (zY h)
theorem Kv {d:List AH} {y:ByteArray}:∀ {n i:Nat} {o:List ByteArray},y∈o→y∈Cc d n i o
 | 0,_,_,h=>h
 | n+1,i,o,h=>by
  unfold Cc;split
  ·exact Kv (Mo h)
  ·exact h
theorem Gq {l:List ByteArray} {s x:ByteArray} (h:x∈EO l s):x∈l∨x=s:=by
  unfold EO at h;split at h
  · exact .inl h
  · simp only[ON,GO,AAh]at h
    rcases h with h|h
    · first
        | exact .inl (AAb h)
        | (rcases h with h | h
           · exact .inl (AAb h)
           · exact .inr (by simpa using h))
    · first
        | exact .inl (AAG h)
        | (rcases h with h | h
           · exact .inr h
           · exact .inl (AAG h))
theorem Mp {l:List ByteArray} {s x:ByteArray} (h:x∈l):x∈EO l s:=by
 unfold EO;split
 ·exact h
 ·have a:x∈l.take (tU l s)∨x∈l.drop (tU l s):=ON.1 (by rw[ABm];exact h);simp only[ON,GO,AAh];rcases a with a|a<;>simp[a]
theorem Pb {l:List ByteArray} {s:ByteArray}:AW (EO l s) s=true:=by
  unfold EO;split
  · rename_i h
    first
      | exact Gn l ByteArray.empty _ h.1 h.2
      | (have h : tU l s < l.length ∧ Aa (l.getD (tU l s) ByteArray.empty) s = true := by simpa using h
         exact Gn l ByteArray.empty _ h.1 h.2)
  · unfold AW
    rw[Of];exact⟨s,by simp,Cr s⟩
theorem Fb {l:List ByteArray} {s:ByteArray} (h:s∈l):AW l s=true:=Of.2 ⟨s,h,Cr s⟩
theorem J3 {l m:List ByteArray} {s:ByteArray} (hs:∀x∈l,x∈m) (h:AW l s=true):AW m s=true:=by
 obtain⟨x,a,e⟩:=Of.1 h;exact Of.2 ⟨x,hs x a,e⟩
theorem UL:∀ {l o:List ByteArray} {x:ByteArray},x∈l.foldl EO o→x∈o∨x∈l
 | [],_,_,h=>.inl h
 | y :: l,o,x,h=>by
  rw[TO]at h;rcases UL h with h|h
  ·rcases Gq h with h|h
   ·exact .inl h
   ·exact .inr (by simp[h])
  ·exact .inr (by simp[h])
theorem W9:∀ {l o:List ByteArray} {x:ByteArray},x∈o→x∈l.foldl EO o
 | [],_,_,h=>h
 | y :: l,o,x,h=>by rw[TO];exact W9 (Mp h)
theorem Pc:∀ {l o:List ByteArray} {x:ByteArray},x∈l→AW (l.foldl EO o) x=true
 | [],_,_,h=>by cases h
 | y :: l,o,x,h=>by
  rw[TO];rcases GO.1 h with rfl|h
  ·exact J3 (fun z a=>W9 a) (Pb (l:=o) (s:=x))
  ·exact Pc h
theorem OA {d:List AH} {s:ByteArray} (h:0≤Aj d s):AW (Ce d s) s=true:=by
 unfold Ce;rw[At (by omega)];exact Pc (Kv (by simp))
theorem UM {d:List AH} (hn:Cb d=0) (c:d.length≤(Bc d).length) {s x:ByteArray} (h:AW (Ce d s) x=true):Vo d s x:=by
 obtain⟨y,a,e⟩:=Of.1 h;have b:Vo d s y:=by
  unfold Ce at a;split at a
  ·cases a
  ·rcases UL a with a|a
   ·cases a
   ·refine Ro hn c (fun z f=>?_) y a;have:z=s:=by simpa using f
    rw[this];exact .inl (Cr s)
 rcases b with b|b
 ·exact .inl (BF b e)
 ·rw[IX d e]at b;exact .inr b
theorem Cs {d:List AH} {s:ByteArray} (h:s∈AN d):∃x∈d,x.1=s:=by
 have key:∀(l:List AH) (o:List ByteArray),s∈l.foldl (fun o x=>EO o x.1) o→s∈o∨∃x∈l,x.1=s:=by
  intro l;induction l with
  | nil=>intro o h;exact .inl h
  | cons x l b =>
   intro o h;rw[TO]at h;rcases b _ h with h|⟨y,a,e⟩
   ·rcases Gq h with h|h
    ·exact .inl h
    ·exact .inr ⟨x,by simp,h.symm⟩
   ·exact .inr ⟨y,by simp[a],e⟩
 rcases key d [] h with h|h
 ·cases h
 ·exact h
theorem OB {d:List AH} {x:AH} (h:x∈d):AW (AN d) x.1=true:=by
 have b:∀(l:List AH) (o:List ByteArray),∀y∈o,y∈l.foldl (fun o x=>EO o x.1) o:=by
  intro l;induction l with
  | nil=>intro o y h;exact h
  | cons x l a=>intro o y h;rw[TO];exact a _ y (Mp h)
 have key:∀(l:List AH) (o:List ByteArray),x∈l→AW (l.foldl (fun o x=>EO o x.1) o) x.1=true:=by
  intro l;induction l with
  | nil=>intro o h;cases h
  | cons y l a =>
   intro o h;rw[TO];rcases GO.1 h with rfl|h
   ·exact J3 (b l _) (Pb (l:=o) (s:=x.1))
   ·exact a _ h
 exact key d [] h
theorem fO {d:List AH} (hn:Cb d=0) (g:d.length≤(Bc d).length) (r:d.length≤256) {i j:Nat} (hi:i<(AN d).length) (f:j<(AN d).length)
  (h:DK (Ei d (AN d) ((AN d).getD i ByteArray.empty)) (Ei d (AN d) ((AN d).getD j ByteArray.empty))=true):Aa ((AN d).getD i ByteArray.empty) ((AN d).getD j ByteArray.empty)=true:=by
 have o:=Dp d d.length;rw[f5]at o;have a:(AN d).length≤4096:=by omega
 generalize hs:(AN d).getD i ByteArray.empty=s at *;generalize b:(AN d).getD j ByteArray.empty=t at *;have p:0≤Aj d s:=by
  obtain⟨x,c,e⟩:=Cs (s:=s) (by rw[←hs];exact BC hi);rw[←e];exact DU c
 have q:0≤Aj d t:=by
  obtain⟨x,c,e⟩:=Cs (s:=t) (by rw[←b];exact BC f);rw[←e];exact DU c
 obtain⟨c1,k,-⟩:=Bw (d:=d) a s i;obtain⟨c2,l,-⟩:=Bw (d:=d) a t i;obtain⟨m,-,-⟩:=Bw (d:=d) a s j;obtain⟨n,-,-⟩:=Bw (d:=d) a t j;unfold DK at h;rw[An]at h;have b1:=UM hn g (c2.1 (MC k l h.1 (c1.2 ⟨hi,by rw[hs];exact OA p⟩))).2;have b2:=UM hn g (m.1 (MC l k h.2 (n.2 ⟨f,by rw[b];exact OA q⟩))).2;rw[hs]at b1;rw[b]at b2;rcases b1 with b1|b1
 ·exact Dq b1
 ·rcases b2 with b2|b2
  ·exact b2
  ·omega
section
attribute [local go_sem] YK zG L9 cs0 cs1
def nZ (d:List AH) (all:List ByteArray) (codes:List (List Int)) (b:List Int):Nat→Nat→List ByteArray→ByteArray ⊕ List ByteArray
 | 0,_,l=>.inr l
 | n+1,i,l=>if DK (codes.getD i []) b=true then .inl (all.getD i ByteArray.empty) else nZ d all codes b n (i+1) (if Qk b (i:Int)=true then l++[all.getD i ByteArray.empty] else l)
def XA (l:List ByteArray) (s:ByteArray) (i:Nat):ByteArray:=(if 0<(i:Int) then s++ByteArray.mk #[38] else s)++l.getD i ByteArray.empty
def fP (l:List ByteArray):ByteArray:=(List.range l.length).foldl (XA l) ByteArray.empty
def Gr (d:List AH) (all:List ByteArray) (codes:List (List Int)) (b:List Int):ByteArray :=
 match nZ d all codes b all.length 0 [] with
 | .inl s=>s
 | .inr l=>fP (Ay d l)
theorem NS {d:List AH} {x:ByteArray}:∀ {l o:List ByteArray},x∈l.foldl (E7 d) o→x∈o∨x∈l
 | [],_,h=>.inl h
 | y :: l,o,h=>by
  rw[TO]at h;rcases NS h with h|h
  ·unfold E7 at h;split at h
   ·rcases Gq h with h|h
    ·exact .inl h
    ·exact .inr (by simp[h])
   ·exact .inl h
  ·exact .inr (by simp[h])
theorem He {d:List AH} {l:List ByteArray} {x:ByteArray} (h:x∈Ay d l):x∈l:=by
 unfold Ay PQ at h;obtain⟨i,hi,rfl⟩:=If.1 h;rw[AA4,iS]at hi;rcases NS (BC (d:=ByteArray.empty) hi.1) with h|h
 ·cases h
 ·exact h
theorem YX (d:List AH) (l:List ByteArray):(Ay d l).length≤l.length:=To (fD _ _ _) (Jb d l)
theorem kV {l:List ByteArray} (h:∀s∈l,s.size≤32) (k:Nat):(l.getD k ByteArray.empty).size≤32:=by
 rw[AS];cases hh:l[k]? with
 | none=>simp
 | some x=>exact h x (AAe hh)
def Pd (l:List ByteArray) (n:Nat):ByteArray:=(List.range n).foldl (XA l) ByteArray.empty
theorem OC (l:List ByteArray) (n:Nat):Pd l (n+1)=XA l (Pd l n) n:=by
 unfold Pd;rw[AAc,ABw];rfl
theorem UN {l:List ByteArray} (h:∀s∈l,s.size≤32):∀n,(Pd l n).size≤33*n
 | 0=>by simp[Pd]
 | n+1=>by
  have h1:=UN h n;have a:=kV h n;rw[OC];unfold XA;split
  ·rw[ABp,ABp];have:(ByteArray.mk #[38]).size=1:=rfl;omega
  ·rw[ABp];omega
def YY:Ac:={ ins:=[E5,B5,SD,D7],pre:=fun(d,all,codes,b,_)=>PN d∧List.length d≤256∧List.length all≤256∧List.length codes=List.length all∧(∀s∈(all:List ByteArray),s.size≤32)∧(∀x∈(codes:List (List Int)),x.length≤64)∧List.length b≤64,out:=fun(d,all,codes,b,_)=>[.p T9 (Gr d all codes b)] }
theorem sG:Ah Tryz.prog 101 YY:=by
 refine fK [0,1,2,3,8,9,10,11,12,16,24,31,45,49] Tryz.func101 Tryz.ntmps101 (AE rT (AE zH (AE UF AG))) ?_;rintro w0 O0 ⟨d,all,codes,b,u⟩ e-⟨hs,y,r,o,B,w,v⟩;have r:all.length≤256:=r;have o:codes.length=all.length:=o;simp only[YY,AM];repeat'(first|exact trivial|refine eS rfl ?_|refine AB ?_|refine rX e ?_ ?_|refine rC ?_ ?_<;>intro a<;>try(cases a;done))
 refine AI (ι:={x:Nat×List ByteArray//x.1≤all.length∧x.2.length≤x.1∧(∀s∈x.2,s.size≤32)∧nZ d all codes b (all.length-x.1) x.1 x.2=nZ d all codes b all.length 0 []}) (fun x=>⟨[(0,.p E5 d),(1,.p B5 all),(2,.p SD codes),(3,.p D7 b),(9,.sr 38 T9 0 x.1.2.length),(10,.p (.int .i64) (x.1.1:Int))],[(38,.arr 9 T9 x.1.2)]⟩) (fun x=>all.length-x.1.1) ⟨(0,[]),by simp,by simp,by simp,rfl⟩ (AC [(38,.nil)] rfl rfl ?_ ?_) (fun x=>?_)
 ·first|exact eN|refine eM ?_
 ·first|exact eN|refine eM ?_
 ·obtain⟨⟨i,l⟩,hi,A,n,f⟩:=x;simp only at hi A n f;have q:i<all.length→nZ d all codes b (all.length-i) i l=if DK (codes.getD i []) b=true then .inl (all.getD i ByteArray.empty) else nZ d all codes b (all.length-(i+1)) (i+1) (if Qk b (i:Int)=true then l++[all.getD i ByteArray.empty] else l):=by
   intro h;rw[show all.length-i=(all.length-(i+1))+1 by omega];rfl
  simp only;repeat'(first|exact trivial|refine eS rfl ?_|refine AB ?_|refine rX e ?_ ?_|refine rC ?_ ?_<;>intro a<;>try(cases a;done))
  ·exact⟨by rw[o];exact a,To (MB w i) (by decide),To v (by decide)⟩
  ·assumption
  ·have c:i<all.length:=by exact eV
   have hr:Gr d all codes b=all.getD i ByteArray.empty:=by
    unfold Gr;rw[←f,q c,BY a]
   exact fI e [.tmp 8] (by rw[hr];exact eR)
  ·have c:i<all.length:=by exact eV
   exact⟨IS.2 c,by simp only[AO];omega⟩
  ·exact eV
  ·have c:i<all.length:=by exact eV
   have hn:=q c;rw[At (by rw[‹DK _ _=false›];simp),BY a]at hn;refine⟨⟨(i+1,l++[all.getD i ByteArray.empty]),by simp only;omega,by simp only[OR,iF];omega,?_,hn.symm.trans f⟩,by simp only;omega,AC [(38,.nm 38)] rfl rfl ?_ ?_⟩
   ·intro s hs;rcases ON.1 hs with hs|hs
    ·exact n s hs
    ·have:s=all.getD i ByteArray.empty:=by simpa using hs
     rw[this];exact kV B i
   ·first|exact eN|refine eM ?_
   ·first|exact eN|refine eM ?_
  ·exact eV
  ·have c:i<all.length:=by exact eV
   have hn:=q c;rw[At (by rw[‹DK _ _=false›];simp),At (by rw[a];simp)]at hn;refine⟨⟨(i+1,l),by simp only;omega,by simp only;omega,n,hn.symm.trans f⟩,by simp only;omega,AC [(38,.nm 38)] rfl rfl ?_ ?_⟩
   ·first|exact eN|refine eM ?_
   ·first|exact eN|refine eM ?_
  ·have hr:Gr d all codes b=fP (Ay d l):=by
    unfold Gr;rw[←f];have:all.length-i=0:=by exact eV
    rw[this];rfl
   refine GP [38] ?_;repeat'(first|exact trivial|refine eS rfl ?_|refine AB ?_|refine rX e ?_ ?_|refine rC ?_ ?_<;>intro a<;>try(cases a;done))
   ·exact⟨hs,y,by omega⟩
   ·have t:∀s∈Ay d l,s.size≤32:=fun s h=>n s (He h);have D:=YX d l;have z:fP (Ay d l)=Pd (Ay d l) (Ay d l).length:=rfl;rw[z]at hr;generalize Ay d l=m at *;refine AI (ι:={k:Nat//k≤m.length}) (fun k=>⟨[(9,.p B5 m),(11,.p T9 (Pd m k.1)),(12,.p (.int .i64) (k.1:Int))],[]⟩) (fun k=>m.length-k.1) ⟨0,IN _⟩ (AC [] rfl rfl ?_ ?_) (fun k=>?_)
    ·first|exact eN|refine eM ?_
    ·first|exact eN|refine eM ?_
     rfl
    ·obtain⟨k,hk⟩:=k;have hk:k≤m.length:=hk;have C:=UN t k;have j:=OC m k;have E:=kV t k;unfold XA at j;simp only;repeat'(first|exact trivial|refine eS rfl ?_|refine AB ?_|refine rX e ?_ ?_|refine rC ?_ ?_<;>intro a<;>try(cases a;done))
     ·have h1:(ByteArray.mk #[38]).size=1:=rfl;rw[h1];simp only[AO];exact eV
     ·refine⟨by assumption,?_⟩;have h1:(ByteArray.mk #[38]).size=1:=rfl;rw[ABp,h1];simp only[AO];exact eV
     ·exact eV
     ·have g:k<m.length:=by exact eV
      rw[BY a]at j;refine⟨⟨k+1,g⟩,by simp only;omega,AC [] rfl rfl ?_ ?_⟩
      ·first|exact eN|refine eM ?_
      ·simp only[j];first|exact eN|refine eM ?_
     ·refine⟨by assumption,?_⟩;simp only[AO];exact eV
     ·exact eV
     ·have g:k<m.length:=by exact eV
      rw[At (AAO.2 a)]at j;refine⟨⟨k+1,g⟩,by simp only;omega,AC [] rfl rfl ?_ ?_⟩
      ·first|exact eN|refine eM ?_
      ·simp only[j];first|exact eN|refine eM ?_
     ·have g:k=m.length:=by exact eV
      rw[←g]at hr;exact fI e [.tmp 8] (by rw[hr];exact eR)
end
section
attribute [local go_sem] Sg PM zT YV YY YU
def Fc (x:AP) (out:List AP):Nat→Nat
 | 0=>0
 | n+1=>if Fy x (out.getD n c0)=true then Fc x out n else n+1
def YZ (out:List AP) (x:AP):List AP:=out.take (Fc x out out.length)++[x]++out.drop (Fc x out out.length)
def AQ (d:List AH):List (List Int):=(AN d).map fun s=>Ei d (AN d) s
def GV (d:List AH) (all:List ByteArray) (codes:List (List Int)) (out:List AP) (b:List Int):List AP:=YZ out (Gr d all codes b,b)
def Qs (d:List AH):List AP→List Int→List AP:=GV d (AN d) (AQ d)
theorem OD (d:List AH) (all:List ByteArray) (codes:List (List Int)):∀(l:List (List Int)) (o:List AP),(l.foldl (GV d all codes) o).length=o.length+l.length
 | [],o=>by simp
 | b :: l,o=>by
  rw[TO,OD d all codes l];unfold GV YZ;simp only[OR,SH,AAV,No,AAM];omega
theorem UO {d:List AH} {all:List ByteArray} {codes:List (List Int)}:∀ {l:List (List Int)} {o:List AP},(∀c∈l,c.length≤64)→(∀y∈o,y.2.length≤64)→∀y∈l.foldl (GV d all codes) o,y.2.length≤64
 | [],_,_,e=>e
 | b :: l,o,f,e=>by
  rw[TO];refine UO (fun c g=>f c (by simp[g])) (fun y a=>?_);unfold GV YZ at a;simp only[ON,AAh]at a;rcases a with (a|a)|a
  ·exact e y (AAb a)
  ·rw[a];exact f b (by simp)
  ·exact e y (AAG a)
theorem fQ (x:AP) (out:List AP):∀n,Fc x out n≤n
 | 0=>NO _
 | n+1=>by
  unfold Fc;split
  ·exact Nat.le_succ_of_le (fQ x out n)
  ·exact NO _
def AL (d:List AH):List AP:=(Aq (AQ d)).foldl (Qs d) []
def B3 (d:List AH):List AP×Int :=
 if A3 d≠0 then ([],A3 d) else if 256<(Aq (AQ d)).length then ([],7) else (AL d,0)
theorem kW {s:ByteArray} {b:Bool} (h:Eg s b=true):s.size≤32:=by
 unfold Eg at h;rw[An]at h;have h1:=h.1;unfold Qi at h1;simp only[OF,AAl,On]at h1;have:=h1.1.1.2;omega
theorem fR {d:List AH} (hn:Cb d=0):∀s∈AN d,s.size≤32:=by
 intro s hs;obtain⟨x,b,rfl⟩:=Cs hs;obtain⟨j,a,rfl⟩:=CC d0 b;exact kW (I9 hn j a).2
def Kw (d:List AH) (n:Nat):List (List Int):=((AN d).take n).map fun s=>Ei d (AN d) s
theorem kX {d:List AH} {n:Nat} (h:n≤(AN d).length):(Kw d n).length=n:=by simp[Kw,h]
theorem fS {d:List AH} {n:Nat} (h:n<(AN d).length):Kw d (n+1)=Kw d n++[Ei d (AN d) ((AN d).getD n ByteArray.empty)]:=by
 unfold Kw;rw[Ab _ ByteArray.empty h,AAx];rfl
theorem kY (d:List AH):Kw d (AN d).length=AQ d:=by simp[Kw,AQ]
theorem kZ (d:List AH):(AQ d).length=(AN d).length:=by simp[AQ]
theorem OE {d:List AH} (h:d.length≤256):∀c∈AQ d,c.length≤64:=by
 intro c a;unfold AQ at a;obtain⟨s,-,rfl⟩:=If.1 a;have b:=Dp d d.length;rw[f5]at b;exact(Bw (d:=d) (all:=AN d) (by omega) s 0).2.2
theorem fT {i:Nat}:∀ {n k:Nat} {l:List (List Int)},(∀c∈l,c.length≤64)→∀c∈GU i n k l,c.length≤64
 | 0,_,_,h=>h
 | n+1,k,l,h=>by
  unfold GU;split
  ·exact fT (fH h i k)
  ·exact h
theorem Pe:∀ {n i:Nat} {l:List (List Int)},(∀c∈l,c.length≤64)→∀c∈IU n i l,c.length≤64
 | 0,_,_,h=>h
 | n+1,i,l,h=>by
  unfold IU;split
  ·exact Pe (fT h)
  ·exact h
theorem fU {out:List AP} {x y:AP}:y∈YZ out x↔y=x∨y∈out:=by
 unfold YZ;rw[ON,ON,AAh];have h:=ON (a:=y) (s:=out.take (Fc x out out.length)) (t:=out.drop (Fc x out out.length));rw[ABm]at h;rw[h];constructor
 ·rintro ((h|h)|h)
  ·exact .inr (.inl h)
  ·exact .inl h
  ·exact .inr (.inr h)
 ·rintro (h|h|h)
  ·exact .inl (.inr h)
  ·exact .inl (.inl h)
  ·exact .inr h
def Qt:Ac:={ ins:=[E5],pre:=fun _=>True,out:=fun(d,_)=>[.p Jx (B3 d).1,.p Th (B3 d).2] }
theorem Pf:Ah Tryz.prog 64 Qt:=by
 refine fK [0,2,3,4,5,6,7,8,9,10,11,12,13,17,24,41,45,73] Tryz.func64 Tryz.ntmps64 (AE r9 (AE Wr (AE A27 (AE sE (AE sG (AE sC AG)))))) ?_;rintro w0 O0 ⟨d,u⟩ g - -;simp only[Qt,AM];repeat'(first|exact trivial|refine eS rfl ?_|refine AB ?_|refine rX g ?_ ?_|refine rC ?_ ?_<;>intro a<;>try(cases a;done))
 ·have h1:B3 d=([],A3 d):=by unfold B3;rw[BY a]
  exact fI g [.tmp 2,.tmp 3] (by rw[h1];exact eR)
 ·have i:A3 d=0:=by simpa using a
  obtain⟨-,D,-⟩:=Av i;exact To D (by decide)
 ·have i:A3 d=0:=by simpa using a
  obtain⟨L,s,-,hn,-⟩:=Av i;have E:=Dp d d.length;rw[f5]at E;have M:=fR hn;refine AI (ι:={n:Nat//n≤(AN d).length}) (fun n=>⟨[(0,.p E5 d),(5,.p B5 (AN d)),(6,.sr 36 D7 0 (Kw d n.1).length),(7,.p (.int .i64) (n.1:Int))],[(36,.arr 81 D7 (Kw d n.1))]⟩) (fun n=>(AN d).length-n.1) ⟨0,IN _⟩ (AC [(36,.nil)] rfl rfl ?_ ?_) (fun n=>?_)
  ·first|exact eN|refine eM ?_
   rfl
  ·first|exact eN|refine eM ?_
   rfl
  ·obtain⟨n,H⟩:=n;have P:=kX H;have hs:=fun h=>fS (d:=d) (n:=n) h;simp only;repeat'(first|exact trivial|refine eS rfl ?_|refine AB ?_|refine rX g ?_ ?_|refine rC ?_ ?_<;>intro a<;>try(cases a;done))
   ·refine⟨a,⟨s,by dsimp only[Ty.den]at *;omega⟩,?_⟩;simp only[AO];dsimp only[Ty.den]at *;omega
   ·exact eV
   ·have w:n<(AN d).length:=by exact eV
    have e:=hs w;refine⟨⟨n+1,by omega⟩,by simp only;omega,AC [(36,.nm 36)] rfl rfl ?_ ?_⟩
    ·simp only[e];first|exact eN|refine eM ?_
    ·simp only[e];first|exact eN|refine eM ?_
   ·have w:n=(AN d).length:=by exact eV
    subst w;rw[kY];have G:=kZ d;have x:=OE s;have t:∀c∈Aq (AQ d),c.length≤64:=Pe x;refine GP [36] ?_;repeat'(first|exact trivial|refine eS rfl ?_|refine AB ?_|refine rX g ?_ ?_|refine rC ?_ ?_<;>intro a<;>try(cases a;done))
    ·exact⟨by omega,x⟩
    ·have h1:B3 d=([],7):=by
      unfold B3;rw[At (by rw[i];simp),BY (by omega)]
     exact fI g [.tmp 2,.tmp 3] (by rw[h1];exact eR)
    ·have hr:B3 d=((Aq (AQ d)).foldl (GV d (AN d) (AQ d)) [],0):=by
      unfold B3;rw[At (by rw[i];simp),At (by omega)];rfl
     generalize Aq (AQ d)=f at *;generalize AQ d=codes at *;generalize AN d=all at *;refine AI (ι:={k:Nat//k≤f.length}) (fun k=>⟨[(0,.p E5 d),(5,.p B5 all),(6,.p SD codes),(8,.p SD f),(9,.sr 9 YC 0 ((f.take k.1).foldl (GV d all codes) []).length),(10,.p (.int .i64) (k.1:Int))],[(9,.arr 104 YC ((f.take k.1).foldl (GV d all codes) []))]⟩) (fun k=>f.length-k.1) ⟨0,IN _⟩ (AC [(9,.nil)] rfl rfl ?_ ?_) (fun k=>?_)
     ·first|exact eN|refine eM ?_
      rfl
     ·first|exact eN|refine eM ?_
      rfl
     ·obtain⟨k,hk⟩:=k;have C:=OD d all codes (f.take k) [];have N:(f.take k).length=k:=by rw[SH];exact ABe hk
      have I:=UO (d:=d) (all:=all) (codes:=codes) (l:=f.take k) (o:=[]) (fun c g=>t c (AAb g)) (by simp);have K:=fun h:k<f.length=>Eq (GV d all codes) f [] [] h;rw[N]at C;simp only[AAM,AAL]at C;generalize B:(f.take k).foldl (GV d all codes) []=out at *;simp only;repeat'(first|exact trivial|refine eS rfl ?_|refine AB ?_|refine rX g ?_ ?_|refine rC ?_ ?_<;>intro a<;>try(cases a;done))
      ·exact⟨a,⟨L,s,by omega,G,M,x,MB t k⟩,a⟩
      ·have v:k<f.length:=by exact eV
       have e:=K v;have F:=MB t k;generalize f.getD k []=b at *;unfold GV at e;generalize Gr d all codes b=nm at *;refine AI (ι:={q:Nat//q≤out.length∧Fc (nm,b) out q=Fc (nm,b) out out.length}) (fun q=>⟨[(0,.p E5 d),(5,.p B5 all),(6,.p SD codes),(8,.p SD f),(9,.sr 9 YC 0 out.length),(10,.p (.int .i64) (k:Int)),(11,.bp 11 [] 0),(12,.p (.int .i64) (q.1:Int))],[(9,.arr 104 YC out),(11,.box 104 true [.p T9 nm,.p D7 b])]⟩) (fun q=>q.1) ⟨out.length,NO _,rfl⟩ (AC [(9,.nm 9),(11,.nm 11)] rfl rfl ?_ ?_) (fun q=>?_)
       ·first|exact eN|refine eM ?_
       ·first|exact eN|refine eM ?_
       ·obtain⟨q,j,A⟩:=q;have j:q≤out.length:=j;simp only;repeat'(first|exact trivial|refine eS rfl ?_|refine AB ?_|refine rX g ?_ ?_|refine rC ?_ ?_<;>intro a<;>try(cases a;done))
        ·refine⟨fun h=>by omega,fun h=>by exact eV,fun h=>⟨To F (by decide),To (I _ (AD out c0 (k:=((q:Int)-1).toNat) (by omega))) (by decide)⟩⟩
        ·omega
        ·obtain⟨O,z⟩:=a;obtain⟨q,rfl⟩:∃r,q=r+1:=⟨q-1,by omega⟩;have m:((q+1:Nat):Int)-1=(q:Int):=by omega
         refine⟨⟨q,by omega,?_⟩,ACz q,AC [(9,.nm 9),(11,.nm 11)] rfl rfl ?_ ?_⟩
         ·rw[←A];rw[m,f7]at z;show _=if Fy (nm,b) (out.getD q c0)=true then Fc (nm,b) out q else q+1
          rw[BY z]
         ·first|exact eN|refine eM ?_
         ·first|exact eN|refine eM ?_
          show (q:Int)+1-1=q;omega
        ·refine⟨oF.2 j,?_⟩;rw[SH];simp only[AO];omega
        ·rw[SH];simp only[AO];omega
        ·refine⟨oF.2 j,?_⟩;rw[SH,AAV];simp only[AO];omega
        ·omega
        ·have J:Fc (nm,b) out q=q:=by
          cases q with
          | zero=>rfl
          | succ q =>
           have m:((q+1:Nat):Int)-1=(q:Int):=by omega
           have:=a (by omega);rw[m,f7]at this;show (if Fy (nm,b) (out.getD q c0)=true then Fc (nm,b) out q else q+1)=q+1;rw[At (by rw[this];simp)]
         unfold YZ at e;rw[←A,J]at e;refine⟨⟨k+1,by omega⟩,by simp only;omega,AC [(9,.nm 80)] rfl rfl ?_ ?_⟩
         ·first|exact eN|refine eM ?_
          exact e.symm
         ·first|exact eN|refine eM ?_
          have y:=AAX List.length e;rw[OR,OR]at y;exact y.symm
      ·have v:k=f.length:=by exact eV
       rw[v,f5]at B;rw[B]at hr;refine GP [9] ?_;exact fI g [.tmp 2,.tmp 3] (by rw[hr];exact eR)
end
theorem XB {d:List AH}:∀ {l:List (List Int)} {o:List AP} {y:AP},y∈l.foldl (Qs d) o↔y∈o∨∃b∈l,y=(Gr d (AN d) (AQ d) b,b)
 | [],o,y=>by simp
 | b :: l,o,y=>by
  rw[TO,XB];unfold Qs GV;rw[fU];simp only[GO];constructor
  ·rintro ((h|h)|⟨c,a,e⟩)
   ·exact .inr ⟨b,.inl rfl,h⟩
   ·exact .inl h
   ·exact .inr ⟨c,.inr a,e⟩
  ·rintro (h|⟨c,rfl|a,e⟩)
   ·exact .inl (.inr h)
   ·exact .inl (.inl e)
   ·exact .inr ⟨c,a,e⟩
theorem DV {d:List AH} {y:AP}:y∈AL d↔∃b∈Aq (AQ d),y=(Gr d (AN d) (AQ d) b,b):=by
 unfold AL;rw[XB];simp
theorem IY (d:List AH):(AL d).length=(Aq (AQ d)).length:=by
 have h:=OD d (AN d) (AQ d) (Aq (AQ d)) [];rw[AAM,AAL]at h;exact h
theorem zZ {l:List (List Int)} {i k:Nat} {c:List Int} (h:c∈l):c∈GT l i k:=by
 unfold GT;split
 ·exact ON.2 (.inl h)
 ·exact h
theorem fV {i:Nat} {c:List Int}:∀ {n k:Nat} {l:List (List Int)},c∈l→c∈GU i n k l
 | 0,_,_,h=>h
 | n+1,k,l,h=>by
  unfold GU;split
  ·exact fV (zZ h)
  ·exact h
theorem fW {c:List Int}:∀ {n i:Nat} {l:List (List Int)},c∈l→c∈IU n i l
 | 0,_,_,h=>h
 | n+1,i,l,h=>by
  unfold IU;split
  ·exact fW (fV h)
  ·exact h
theorem JA (d:List AH) {i:Nat} (h:i<(AN d).length):(AQ d).getD i []=Ei d (AN d) ((AN d).getD i ByteArray.empty):=by
 unfold AQ;simp[AS,h]
theorem n4 {d:List AH} (hn:Cb d=0) (f:d.length≤(Bc d).length) (c:d.length≤256) {j:Nat} (b:j<(AN d).length):∀(m i:Nat) (l:List ByteArray),i+m=(AN d).length→i≤j →
  ∃s,nZ d (AN d) (AQ d) ((AQ d).getD j []) m i l=.inl s∧Aa s ((AN d).getD j ByteArray.empty)=true
 | 0,i,l,h,g=>by omega
 | m+1,i,l,h,g=>by
  unfold nZ;split
  ·rename_i a;refine⟨_,rfl,?_⟩;rw[JA d (by omega),JA d b]at a;exact fO hn f c (by omega) b a
  ·rename_i a;have k:i≠j:=by
    intro e;subst e;exact a (fN _)
   exact n4 hn f c b m (i+1) _ (by omega) (by omega)
theorem n5 (s:ByteArray):∀(l:List AP) (k:Nat),MA s k l<((k+l.length:Nat):Int)
 | [],k=>by simp only[MA];omega
 | x :: l,k=>by
  simp only[MA];split
  ·simp only[No];omega
  ·have:=n5 s l (k+1);simp only[No];omega
theorem n6 (s:ByteArray):∀(l:List AP) (k:Nat) (x:AP),x∈l→Aa x.1 s=true→0≤MA s k l
 | [],_,_,h,_=>by cases h
 | y :: l,k,x,h,e=>by
  simp only[MA];split
  ·omega
  ·rename_i a;rcases GO.1 h with rfl|h
   ·exact absurd e a
   ·exact n6 s l (k+1) x h e
theorem IZ (l:List AP) (s:ByteArray):BJ l s<(l.length:Int):=by
 have:=n5 s l 0;rw[AAL]at this;exact this
theorem Gt {d:List AH} (h:A3 d=0) {s:ByteArray} (hs:AW (AN d) s=true):0≤BJ (AL d) s:=by
 obtain⟨-,b,-,hn,f⟩:=Av h;obtain⟨t,g,e⟩:=Of.1 hs;obtain⟨j,c,rfl⟩:=CC ByteArray.empty g;obtain⟨u,hu,a⟩:=n4 hn f b c (AN d).length 0 [] (by omega) (by omega);have i:(AQ d).length=(AN d).length:=by simp[AQ]
 refine n6 s (AL d) 0 (u,(AQ d).getD j []) ?_ (BF a e);rw[DV];refine⟨(AQ d).getD j [],fW (BC (by omega)),?_⟩;unfold Gr;rw[hu]
theorem Rp {d:List AH} (h:A3 d=0) {x:AH} (a:x∈d):0≤BJ (AL d) x.1:=Gt h (OB a)
theorem BS {d:List AH} (h:(B3 d).2=0):A3 d=0∧(Aq (AQ d)).length≤256∧(B3 d).1=AL d:=by
 unfold B3 at h ⊢;split at h
 ·rename_i h1;exact absurd h h1
 ·rename_i h1;split at h
  ·cases h
  ·rename_i a;exact⟨DO h1,by omega,by rw[At h1,At a]⟩
theorem n7 {d:List AH} (h:A3 d=0):0<(AL d).length:=by
 obtain⟨-,-,hr,-,-⟩:=Av h;cases d with
 | nil=>cases hr
 | cons x d =>
  have:=Rp h (x:=x) (by simp);have a:=IZ (AL (x :: d)) x.1;omega
section
attribute [local go_sem] nX
def A3G (l:List AP) (i k:Int) (m:Nat):Bool:=(m:Int)==i||(m:Int)==k||!LR l k (m:Int)||!LR l (m:Int) i
def sH (l:List AP) (i k:Int) (n:Nat):Bool:=(List.range n).all (A3G l i k)
def sI (l:List AP) (i:Int) (k:Nat):Bool:=!((k:Int)==i||!LR l (k:Int) i)&&sH l i (k:Int) l.length
def NT (l:List AP) (i:Int) (n:Nat):List Int:=((List.range n).filter fun(k:Nat)=>sI l i k).map fun(k:Nat)=>(k:Int)
def XC (l:List AP) (i:Int):List Int:=NT l i l.length
theorem k4 (l:List AP) (i:Int) (n:Nat):NT l i (n+1)=NT l i n++if sI l i n=true then [(n:Int)] else []:=by
 unfold NT;rw[AAc,AAZ,AAx]
 congr 1
 rw[AAn,ABE];split<;>rfl
theorem sJ (l:List AP) (i:Int) (n:Nat):(NT l i n).length≤n:=by
 unfold NT;rw[nO];exact To (AAv _ _) (by simp)
theorem sK (l:List AP) (i k:Int) (n:Nat):sH l i k (n+1)=(sH l i k n&&A3G l i k n):=by
 unfold sH;rw[AAc,ABy];simp
def z0:Ac:={ ins:=[Jx,T3],pre:=fun(l,i,_)=>((0:Int)≤i∧i<(List.length l:Int))∧List.length l≤256∧(∀x∈(l:List AP),x.2.length≤64),out:=fun(l,i,_)=>[.p I4 (XC l i)] }
theorem A2d:Ah Tryz.prog 65 z0:=by
 refine fK [0,1,4,5,6,7,8,12,24,28,56] Tryz.func65 Tryz.ntmps65 (AE nY AG) ?_;rintro w0 O0 ⟨l,i,u⟩ c-⟨hi,g,o⟩;have g:l.length≤256:=g;have f:∀x∈(l:List AP),x.2.length≤100000:=fun x h=>To (o x h) (by decide);simp only[z0,AM];repeat'(first|exact trivial|refine eS rfl ?_|refine AB ?_|refine rX c ?_ ?_|refine rC ?_ ?_<;>intro a<;>try(cases a;done))
 refine AI (ι:={k:Nat//k≤l.length}) (fun k=>⟨[(0,.p Jx l),(1,.p T3 i),(5,.sr 60 T3 0 (NT l i k.1).length),(6,.p (.int .i64) (k.1:Int))],[(60,.arr 3 T3 (NT l i k.1))]⟩) (fun k=>l.length-k.1) ⟨0,IN _⟩ (AC [(60,.nil)] rfl rfl ?_ ?_) (fun k=>?_)
 ·first|exact eN|refine eM ?_
  rfl
 ·first|exact eN|refine eM ?_
  rfl
 ·obtain⟨k,hk⟩:=k;have hk:k≤l.length:=hk;have q:=sJ l i k;have hs:=k4 l i k;simp only;repeat'(first|exact trivial|refine eS rfl ?_|refine AB ?_|refine rX c ?_ ?_|refine rC ?_ ?_<;>intro a<;>try(cases a;done))
  ·intro h;exact⟨by assumption,hi,f⟩
  ·exact eV
  ·have e:k<l.length:=by exact eV
   have b:sI l i k=false:=by
    unfold sI;rw[AAz];left;rw[AAI,iN,AA1,OF];exact a
   rw[b,At (by simp),AAa]at hs;refine⟨⟨k+1,by omega⟩,by simp only;omega,AC [(60,.nm 60)] rfl rfl ?_ ?_⟩
   ·simp only[hs];first|exact eN|refine eM ?_
   ·simp only[hs];first|exact eN|refine eM ?_
  ·have e:k<l.length:=by exact eV
   have b:sI l i k=sH l i (k:Int) l.length:=by
    unfold sI;rw[show ((k:Int)==i||!LR l (k:Int) i)=false by
     rw[AAl,AAK,AAI];exact a]
    rfl
   refine AI (ι:={m:Nat//m≤l.length}) (fun m=>⟨[(0,.p Jx l),(1,.p T3 i),(5,.sr 60 T3 0 (NT l i k).length),(6,.p (.int .i64) (k:Int)),(7,.p .bool (sH l i (k:Int) m.1)),(8,.p (.int .i64) (m.1:Int))],[(60,.arr 3 T3 (NT l i k))]⟩) (fun m=>l.length-m.1) ⟨0,IN _⟩ (AC [(60,.nm 60)] rfl rfl ?_ ?_) (fun m=>?_)
   ·first|exact eN|refine eM ?_
   ·first|exact eN|refine eM ?_
    rfl
   ·obtain⟨m,j⟩:=m;have j:m≤l.length:=j;have n:=sK l i (k:Int) m;simp only;repeat'(first|exact trivial|refine eS rfl ?_|refine AB ?_|refine rX c ?_ ?_|refine rC ?_ ?_<;>intro a<;>try(cases a;done))
    ·exact⟨fun h=>⟨by assumption,a,f⟩,fun h=>⟨a,hi,f⟩⟩
    ·exact eV
    ·have d:m<l.length:=by exact eV
     refine⟨⟨m+1,by omega⟩,by simp only;omega,AC [(60,.nm 60)] rfl rfl ?_ ?_⟩
     ·first|exact eN|refine eM ?_
     ·simp only[n];unfold A3G;first|exact eN|refine eM ?_
    ·simp only[AO];dsimp only[Ty.den]at *;omega
    ·exact eV
    ·have d:m=l.length:=by exact eV
     subst d;rw[b,BY a]at hs;refine⟨⟨k+1,by omega⟩,by simp only;omega,AC [(60,.nm 60)] rfl rfl ?_ ?_⟩
     ·simp only[hs];first|exact eN|refine eM ?_
     ·simp only[hs];first|exact eN|refine eM ?_
    ·exact eV
    ·have d:m=l.length:=by exact eV
     subst d;rw[b,At (by rw[a];simp),AAa]at hs;refine⟨⟨k+1,by omega⟩,by simp only;omega,AC [(60,.nm 60)] rfl rfl ?_ ?_⟩
     ·simp only[hs];first|exact eN|refine eM ?_
     ·simp only[hs];first|exact eN|refine eM ?_
  ·have e:k=l.length:=by exact eV
   subst e;refine GP [60] ?_;exact fI c [.tmp 4] (by unfold XC;exact eR)
end
section
attribute [local go_sem] PM UA Ja
abbrev FV:=ByteArray×ByteArray
abbrev f0V:FV:=(ByteArray.empty,ByteArray.empty)
def tW (all:List ByteArray) (l:List FV):Nat→List FV→Int
 | _,[]=>0
 | k,x :: r=>if Eg x.1 true=false then 1 else if ((l.take k).any fun y=>Aa y.1 x.1)=true then 4 else if AW all x.2=false then 5 else tW all l (k+1) r
def Ya (all:List ByteArray):List AH→Int
 | []=>0
 | x :: l=>if tW all x.2.2 0 x.2.2≠0 then tW all x.2.2 0 x.2.2 else Ya all l
def Kx (d:List AH):Int:=Ya (AN d) d
theorem z1 (all:List ByteArray) (l:List FV) {k:Nat} (h:k<l.length):tW all l k (l.drop k)=if Eg (l.getD k f0V).1 true=false then 1 else if ((l.take k).any fun y=>Aa y.1 (l.getD k f0V).1)=true then 4 else if AW all (l.getD k f0V).2=false then 5 else tW all l (k+1) (l.drop (k+1)):=by
 rw[OS h];have e:l.getD k f0V=l[k]:=by simp[AS,h]
 rw[e];rfl
theorem sL (all:List ByteArray) (l:List AH) {k:Nat} (h:k<l.length):Ya all (l.drop k)=if tW all (l.getD k d0).2.2 0 (l.getD k d0).2.2≠0 then tW all (l.getD k d0).2.2 0 (l.getD k d0).2.2 else Ya all (l.drop (k+1)):=by
 rw[OS h];have e:l.getD k d0=l[k]:=by simp[AS,h]
 rw[e];rfl
def k5:Ac:={ ins:=[E5],pre:=fun(d,_)=>List.length d≤256,out:=fun(d,_)=>[.p Th (Kx d)] }
theorem z2:Ah Tryz.prog 121 k5:=by
 refine fK [0,2,3,4,5,6,7,13,24,33,36,49,57] Tryz.func121 Tryz.ntmps121 (AE Wr (AE kI (AE Gp AG))) ?_;rintro w0 O0 ⟨d,u⟩ c ⟨⟨x,v⟩,-⟩ j;have j:d.length≤256:=j;simp only[k5,AM];repeat'(first|exact trivial|refine eS rfl ?_|refine AB ?_|refine rX c ?_ ?_|refine rC ?_ ?_<;>intro a<;>try(cases a;done))
 ·exact To j (by decide)
 ·have w:Kx d=Ya (AN d) d:=rfl;rw[w];generalize AN d=all at *;refine AI (ι:={i:Nat//i≤d.length∧Ya all (d.drop i)=Ya all d}) (fun i=>⟨[(0,.p E5 d),(3,.p B5 all),(4,.p (.int .i64) (i.1:Int))],[]⟩) (fun i=>d.length-i.1) ⟨0,IN _,rfl⟩ (AC [] rfl rfl ?_ ?_) (fun i=>?_)
  ·first|exact eN|refine eM ?_
  ·first|exact eN|refine eM ?_
  ·obtain⟨i,hi,hf⟩:=i;simp only;repeat'(first|exact trivial|refine eS rfl ?_|refine AB ?_|refine rX c ?_ ?_|refine rC ?_ ?_<;>intro a<;>try(cases a;done))
   ·exact a
   ·have o:i<d.length:=by exact eV
    rw[sL all d o]at hf;have A:(d.getD i d0).2.2.length≤AO:=(v _ (AD d d0 o)).2.2.1;have z:(List.getD d i (ByteArray.empty,[],[])).2.2=(d.getD i d0).2.2:=rfl;rw[z];generalize (d.getD i d0).2.2=l at *;simp only[AO]at A;refine AI (ι:={k:Nat//k≤l.length∧tW all l k (l.drop k)=tW all l 0 l}) (fun k=>⟨[(0,.p E5 d),(3,.p B5 all),(4,.p (.int .i64) (i:Int)),(5,.p Zu l),(6,.p (.int .i64) (k.1:Int))],[]⟩) (fun k=>l.length-k.1) ⟨0,IN _,rfl⟩ (AC [] rfl rfl ?_ ?_) (fun k=>?_)
    ·first|exact eN|refine eM ?_
    ·first|exact eN|refine eM ?_
    ·obtain⟨k,hk,b⟩:=k;have r:=fun h:k<l.length=>z1 all l h;simp only;repeat'(first|exact trivial|refine eS rfl ?_|refine AB ?_|refine rX c ?_ ?_|refine rC ?_ ?_<;>intro a<;>try(cases a;done))
     ·exact a
     ·have e:k<l.length:=by exact eV
      rw[r e,BY a]at b;rw[←b,BY (by decide)]at hf;exact fI c [.tmp 2] (by rw[←hf];exact eR)
     ·have e:k<l.length:=by exact eV
      have q:(k:Int)<(l.length:Int):=IS.2 e;rw[r e,At (by rw[a];simp)]at b;refine AI (ι:={m:Nat//m≤k∧((l.take m).any fun y=>Aa y.1 (l.getD k f0V).1)=false}) (fun m=>⟨[(0,.p E5 d),(3,.p B5 all),(4,.p (.int .i64) (i:Int)),(5,.p Zu l),(6,.p (.int .i64) (k:Int)),(7,.p (.int .i64) (m.1:Int))],[]⟩) (fun m=>k-m.1) ⟨0,IN _,rfl⟩ (AC [] rfl rfl ?_ ?_) (fun m=>?_)
      ·first|exact eN|refine eM ?_
      ·first|exact eN|refine eM ?_
      ·obtain⟨m,B,g⟩:=m;have s:=fun h:m<l.length=>Ml l f0V (fun y=>Aa y.1 (l.getD k f0V).1) h;simp only;repeat'(first|exact trivial|refine eS rfl ?_|refine AB ?_|refine rX c ?_ ?_|refine rC ?_ ?_<;>intro a<;>try(cases a;done))
       ·have h1:(m:Int)<(k:Int):=a;exact⟨by exact eV,q⟩
       ·have f:m<k:=IS.1 (by assumption);have n:=s (by omega);have t:((l.take k).any fun y=>Aa y.1 (l.getD k f0V).1)=true:=by
         rw[Of];exact⟨l.getD m f0V,by
          rw[ABr];refine⟨m,by omega,?_⟩;simp[AS,show m<l.length by omega],a⟩
        rw[BY t]at b;rw[←b,BY (by decide)]at hf;exact fI c [.tmp 2] (by rw[←hf];exact eR)
       ·omega
       ·have f:m<k:=IS.1 (by assumption);have n:=s (by omega);refine⟨⟨m+1,by omega,?_⟩,by simp only;omega,AC [] rfl rfl ?_ ?_⟩
        ·rw[n,g];exact a
        ·first|exact eN|refine eM ?_
        ·first|exact eN|refine eM ?_
       ·exact q
       ·have f:m=k:=by omega
        subst f;rw[At (by rw[g];simp),BY a]at b;rw[←b,BY (by decide)]at hf;exact fI c [.tmp 2] (by rw[←hf];exact eR)
       ·have:=x;simp only[AO]at this;omega
       ·have f:m=k:=by omega
        subst f;rw[At (by rw[g];simp),At (by rw[a];simp)]at b;refine⟨⟨m+1,by omega,b⟩,by simp only;omega,AC [] rfl rfl ?_ ?_⟩
        ·first|exact eN|refine eM ?_
        ·first|exact eN|refine eM ?_
     ·omega
     ·have e:l.drop k=[]:=IF (oF.1 a);rw[e]at b;rw[←b,At (by simp[tW])]at hf;refine⟨⟨i+1,by omega,hf⟩,by simp only;omega,AC [] rfl rfl ?_ ?_⟩
      ·first|exact eN|refine eM ?_
      ·first|exact eN|refine eM ?_
   ·have e:d.drop i=[]:=IF (by exact eV);rw[e]at hf;exact fI c [.tmp 2] (by rw[←hf];first|exact eR|refine Zr ?_;rfl)
end
section
attribute [local go_sem] YT YJ L9 cs0
def HP (s:ByteArray) (o:List ByteArray) (x:AH):List ByteArray:=if (DD x s).2=true then EO o x.1 else o
def FH (d:List AH) (s:ByteArray):List ByteArray:=d.foldl (HP s) []
theorem k6 (s:ByteArray) (d:List AH) (k:Nat):(FH (d.take k) s).length≤k:=by
 have key:∀(l:List AH) (o:List ByteArray),(l.foldl (HP s) o).length≤o.length+l.length:=by
  intro l;induction l with
  | nil=>intro o;simp
  | cons x l b =>
   intro o;have h1:=b (HP s o x);have a:(HP s o x).length≤o.length+1:=by
    unfold HP;split
    ·exact L7 o x.1
    ·omega
   simp only[TO,No];omega
 have h1:=key (d.take k) [];have a:=AAo k d;unfold FH;simp only[AAM]at h1;omega
def DW (d:List AH) (s:ByteArray):ByteArray×Bool:=if (Ay d (FH d s)).length=1 then ((Ay d (FH d s)).getD 0 ByteArray.empty,true) else (ByteArray.empty,false)
def Yb:Ac:={ ins:=[E5,T9],pre:=fun(d,_,_)=>PN d∧List.length d≤256,out:=fun(d,s,_)=>[.p T9 (DW d s).1,.p .bool (DW d s).2] }
theorem fX:Ah Tryz.prog 104 Yb:=by
 refine fK [0,1,4,5,6,7,9,10,14,26,39] Tryz.func104 Tryz.ntmps104 (AE fF (AE Qj (AE UF AG))) ?_;rintro w0 O0 ⟨d,s,u⟩ c-⟨l,f⟩;have f:d.length≤256:=f;simp only[Yb,AM];repeat'(first|exact trivial|refine eS rfl ?_|refine AB ?_|refine rX c ?_ ?_|refine rC ?_ ?_<;>intro a<;>try(cases a;done))
 refine AI (ι:={i:Nat//i≤d.length}) (fun i=>⟨[(0,.p E5 d),(1,.p T9 s),(6,.p B5 (FH (d.take i.1) s)),(7,.p (.int .i64) (i.1:Int))],[]⟩) (fun i=>d.length-i.1) ⟨0,IN _⟩ (AC [] rfl rfl ?_ ?_) (fun i=>?_)
 ·first|exact eN|refine eM ?_
 ·first|exact eN|refine eM ?_
  rfl
 ·obtain⟨i,hi⟩:=i;have hi:i≤d.length:=hi;have hn:=k6 s d i;have hs:=fun h:i<d.length=>Eq (HP s) d d0 [] h;have j:∀e,FH e s=e.foldl (HP s) []:=fun _=>rfl;rw[←j,←j]at hs;unfold HP at hs;simp only;repeat'(first|exact trivial|refine eS rfl ?_|refine AB ?_|refine rX c ?_ ?_|refine rC ?_ ?_<;>intro a<;>try(cases a;done))
  ·exact a
  ·exact⟨by assumption,by omega⟩
  ·exact eV
  ·have b:i<d.length:=by exact eV
   have e:=hs b;rw[BY a]at e;refine⟨⟨i+1,by omega⟩,by simp only;omega,AC [] rfl rfl ?_ ?_⟩
   ·first|exact eN|refine eM ?_
   ·simp only[e];first|exact eN|refine eM ?_
  ·exact eV
  ·have b:i<d.length:=by exact eV
   have e:=hs b;rw[At (by rw[a];simp)]at e;refine⟨⟨i+1,by omega⟩,by simp only;omega,AC [] rfl rfl ?_ ?_⟩
   ·first|exact eN|refine eM ?_
   ·simp only[e];first|exact eN|refine eM ?_
  ·exact⟨l,f,by omega⟩
  ·have b:d.take i=d:=As (by exact eV);rw[b]at a ⊢;have h1:DW d s=(ByteArray.empty,false):=by
    unfold DW;rw[At (by omega)]
   exact fI c [.tmp 4,.tmp 5] (by rw[h1];first|exact eR|refine Zr ?_;first|rfl|exact⟨rfl,rfl⟩)
  ·have g:((Ay d (FH (d.take i) s)).length:Int)=1:=by simpa using a
   have k:(0:Int)<((Ay d (FH (d.take i) s)).length:Int):=by rw[g];decide
   exact k
  ·have b:d.take i=d:=As (by exact eV);rw[b]at a ⊢;have g:((Ay d (FH d s)).length:Int)=1:=by simpa using a
   have h1:DW d s=((Ay d (FH d s)).getD 0 ByteArray.empty,true):=by
    unfold DW;rw[BY (by omega)]
   exact fI c [.tmp 4,.tmp 5] (by rw[h1];exact eR)
end
section
attribute [local go_sem] YT Sh nX zI
def J4 (l:List AP) (t:Int) (s:ByteArray) (o:List Int×Bool) (x:AH):List Int×Bool :=
 if (!(DD x s).2||!LR l (BJ l x.1) t)=true then o else (EP o.1 (l.getD (BJ l (DD x s).1).toNat c0).2,true)
def Ez (d:List AH) (l:List AP) (t:Int) (s:ByteArray):List Int×Bool:=d.foldl (J4 l t s) ((l.getD 0 c0).2,false)
def k7 (d:List AH) (l:List AP):Prop:=(∀x∈d,0≤BJ l x.1)∧∀x∈d,∀y∈x.2.2,0≤BJ l y.2
theorem fY (s:ByteArray):∀(l:List (ByteArray×ByteArray)),(fE s l).2=true→∃y∈l,y.2=(fE s l).1
 | [],h=>by cases h
 | x :: l,h=>by
  simp only[fE]at h ⊢;split at h
  ·rename_i h1;rw[BY h1];exact⟨x,by simp,rfl⟩
  ·rename_i h1;rw[At h1];obtain⟨y,a,e⟩:=fY s l h;exact⟨y,by simp[a],e⟩
theorem k7.value {d:List AH} {l:List AP} (h:k7 d l) {x:AH} (b:x∈d) {s:ByteArray} (a:(DD x s).2=true):0≤BJ l (DD x s).1:=by
 obtain⟨y,c,e⟩:=fY s x.2.2 a;have:=h.2 x b y c;rw[e]at this;exact this
theorem z3 {l:List AP} (t:Int) (s:ByteArray) (x:AH) {o:List Int×Bool} (h:o.1.length≤64):(J4 l t s o x).1.length≤64:=by
 unfold J4;split
 ·exact h
 ·exact To (fG _ _) h
theorem UP {l:List AP} (t:Int) (s:ByteArray):∀(d:List AH) {o:List Int×Bool},o.1.length≤64→(d.foldl (J4 l t s) o).1.length≤64
 | [],_,h=>h
 | x :: d,_,h=>by rw[TO];exact UP t s d (z3 t s x h)
theorem fZ (s:ByteArray):∀(l:List AP) (k:Nat),MA s k l<((k+l.length:Nat):Int)
 | [],k=>by simp only[MA];omega
 | x :: l,k=>by
  simp only[MA];split
  ·simp only[No];omega
  ·have:=fZ s l (k+1);simp only[No];omega
theorem Rq (l:List AP) (s:ByteArray):BJ l s<(l.length:Int):=by
 have:=fZ s l 0;rw[AAL]at this;exact this
def A2f:Ac:={ ins:=[E5,Jx,T3,T9],pre:=fun(d,l,t,_,_)=>k7 d l∧((0:Int)≤t∧t<(List.length l:Int))∧List.length l≤256∧(∀x∈(l:List AP),x.2.length≤64),out:=fun(d,l,t,s,_)=>[.p D7 (Ez d l t s).1,.p .bool (Ez d l t s).2] }
theorem z4:Ah Tryz.prog 95 A2f:=by
 refine fK [0,1,2,3,8,9,10,11,12,13,14,22,48] Tryz.func95 Tryz.ntmps95 (AE fF (AE Ww (AE nY (AE kJ AG)))) ?_;rintro w0 O0 ⟨d,l,t,s,u⟩ f ⟨⟨A,G⟩,-⟩ ⟨r,j,n,w⟩;have n:l.length≤256:=n;have F:∀x∈(l:List AP),x.2.length≤100000:=fun x h=>To (w x h) (by decide);have q:0<List.length l:=IS.1 (ACo j.1 j.2);simp only[AO]at A;simp only[A2f,AM];repeat'(first|exact trivial|refine eS rfl ?_|refine AB ?_|refine rX f ?_ ?_|refine rC ?_ ?_<;>intro a<;>try(cases a;done))
 ·exact IS.2 q
 ·have m:Ez d l t s=d.foldl (J4 l t s) ((l.getD 0 c0).2,false):=rfl;have y:(l.getD 0 c0).2.length≤64:=w _ (AD l c0 q);have z:(List.getD l 0 (ByteArray.empty,[])).2=(l.getD 0 c0).2:=rfl;rw[z];generalize (l.getD 0 c0).2=c at *;refine AI (ι:={i:Nat//i≤d.length}) (fun i=>⟨[(0,.p E5 d),(1,.p Jx l),(2,.p T3 t),(3,.p T9 s),(10,.p .bool ((d.take i.1).foldl (J4 l t s) (c,false)).2),(11,.p D7 ((d.take i.1).foldl (J4 l t s) (c,false)).1),(12,.p (.int .i64) (i.1:Int))],[]⟩) (fun i=>d.length-i.1) ⟨0,IN _⟩ (AC [] rfl rfl ?_ ?_) (fun i=>?_)
  ·first|exact eN|refine eM ?_
  ·first|exact eN|refine eM ?_
   exact⟨rfl,rfl⟩
  ·obtain⟨i,hi⟩:=i;have hi:i≤d.length:=hi;have B:=UP (l:=l) t s (d.take i) (o:=(c,false)) y;have hs:=fun h:i<d.length=>Eq (J4 l t s) d d0 (c,false) h;have E:=fun h:i<d.length=>r.1 _ (AD d d0 h);have D:=fun(h:i<d.length) (g:(DD (d.getD i d0) s).2=true)=>r.value (AD d d0 h) g;have k:∀o x,J4 l t s o x=(if (!(DD x s).2||!LR l (BJ l x.1) t)=true then o else (EP o.1 (l.getD (BJ l (DD x s).1).toNat c0).2,true)):=fun _ _=>rfl;generalize v:(d.take i).foldl (J4 l t s) (c,false)=o at *;simp only;repeat'(first|exact trivial|refine eS rfl ?_|refine AB ?_|refine rX f ?_ ?_|refine rC ?_ ?_<;>intro a<;>try(cases a;done))
   ·exact a
   ·have b:i<d.length:=IS.1 a;exact⟨fun _=>a,fun _=>⟨⟨E b,Rq _ _⟩,j,F⟩⟩
   ·exact eV
   ·have b:i<d.length:=IS.1 (by assumption);have e:=hs b;rw[k,BY (by rw[iN,OF,OF];exact a)]at e;refine⟨⟨i+1,by omega⟩,by simp only;omega,AC [] rfl rfl ?_ ?_⟩
    ·first|exact eN|refine eM ?_
    ·first|exact eN|refine eM ?_
     rw[e];exact⟨rfl,rfl⟩
   ·have b:i<d.length:=IS.1 (by assumption);exact⟨⟨D b a.1,Rq _ _⟩,To B (by decide)⟩
   ·exact eV
   ·have b:i<d.length:=IS.1 (by assumption);have e:=hs b;have C:¬(!(DD (d.getD i d0) s).2||!LR l (BJ l (d.getD i d0).1) t)=true:=by
     rw[iN,OF,OF];rintro (h|h)
     ·rw[show (DD (d.getD i d0) s).2=true from a.1]at h;cases h
     ·rw[show LR l (BJ l (d.getD i d0).1) t=true from a.2]at h;cases h
    rw[k,At C]at e;refine⟨⟨i+1,by omega⟩,by simp only;omega,AC [] rfl rfl ?_ ?_⟩
    ·first|exact eN|refine eM ?_
    ·first|exact eN|refine eM ?_
     rw[e];exact⟨rfl,rfl⟩
   ·have b:d.take i=d:=As (oF.1 a);rw[b]at v;rw[v]at m;exact fI f [.tmp 8,.tmp 9] (by rw[m];exact eR)
end
theorem Rr:∀ {l:List AH},L5 l=0→∀x∈l,x.2.1.length≤256∧x.2.2.length≤256
 | [],_,x,a=>by cases a
 | y :: l,h,x,a=>by
  simp only[L5]at h;split at h
  ·cases h
  ·rename_i h1;rcases GO.1 a with rfl|a
   ·exact⟨by omega,by omega⟩
   ·exact Rr h x a
theorem Ky {d:List AH} (h:A3 d=0):∀x∈d,x.2.1.length≤256∧x.2.2.length≤256:=by
 have h1:Ey d=0:=by
  unfold A3 at h;split at h
  ·rename_i h1;exact absurd h h1
  ·rename_i h1;exact DO h1
 unfold Ey at h1;split at h1
 ·cases h1
 ·exact Rr h1
theorem OG {d:List AH} (h:A3 d=0):∀x∈AL d,x.2.length≤64:=by
 intro x e;obtain⟨-,a,-⟩:=Av h;obtain⟨b,c,rfl⟩:=DV.1 e;exact Pe (OE a) b c
theorem f2 {all:List ByteArray} {l:List FV}:∀ {r:List FV} {k:Nat},tW all l k r=0→∀y∈r,AW all y.2=true
 | [],_,_,y,a=>by cases a
 | x :: r,k,h,y,a=>by
  simp only[tW]at h;split at h
  ·cases h
  ·split at h
   ·cases h
   ·split at h
    ·cases h
    ·rename_i b;rcases GO.1 a with rfl|a
     ·simpa using b
     ·exact f2 h y a
theorem XD {all:List ByteArray}:∀ {l:List AH},Ya all l=0→∀x∈l,∀y∈x.2.2,AW all y.2=true
 | [],_,x,a=>by cases a
 | z :: l,h,x,a=>by
  simp only[Ya]at h;split at h
  ·rename_i h1;exact absurd h h1
  ·rename_i h1;rcases GO.1 a with rfl|a
   ·exact f2 (DO h1)
   ·exact XD h x a
theorem Pg {d:List AH} (h:A3 d=0) (b:Kx d=0):k7 d (AL d) :=
 ⟨fun x a=>Rp h a,fun x a y c=>Gt h (XD b x a y c)⟩
section
attribute [local go_sem] Qt UH k5 Yb A2f
def Kz (d:List AH) (l:List AP) (t:Nat) (s:ByteArray):Bool:=(Ez d l (t:Int) s).2&&((Ez d l (t:Int) s).1.length:Int)==0
def Yc (d:List AH) (l:List AP) (f:List ByteArray) (t:Nat):Bool:=f.any (Kz d l t)
def Ia (d:List AH) (l:List AP) (f:List ByteArray) (n:Nat):Bool:=(List.range n).any (Yc d l f)
theorem f3 (d:List AH) (l:List AP) (f:List ByteArray) (n:Nat):Ia d l f (n+1)=(Ia d l f n||Yc d l f n):=by
 unfold Ia;rw[AAc,ABx];simp
def Ar (d:List AH):Int :=
 if (B3 d).2≠0 then (B3 d).2 else if 64<(A9 d).length then 7 else if Kx d≠0 then Kx d else
 if ((A9 d).all fun s=>(DW d s).2)=false then 10 else if Ia d (B3 d).1 (A9 d) (B3 d).1.length=true then 11 else 0
def Si:Ac:={ ins:=[E5],pre:=fun _=>True,out:=fun(d,_)=>[.p Th (Ar d)] }
theorem XE:Ah Tryz.prog 93 Si:=by
 refine fK [0,2,3,4,5,6,7,9,10,11,12,13,20,26,30,35,48,52,58,77] Tryz.func93 Tryz.ntmps93 (AE Pf (AE UI (AE z2 (AE fX (AE z4 AG))))) ?_;rintro w0 O0 ⟨d,u⟩ b - -;simp only[Si,AM];repeat'(first|exact trivial|refine eS rfl ?_|refine AB ?_|refine rX b ?_ ?_|refine rC ?_ ?_<;>intro a<;>try(cases a;done))
 ·have h1:Ar d=(B3 d).2:=by unfold Ar;rw[BY a]
  exact fI b [.tmp 2] (by rw[h1];exact eR)
 ·have c:(B3 d).2=0:=by simpa using a
  obtain⟨e,-,-⟩:=BS c;obtain⟨-,r,-⟩:=Av e;exact⟨r,fun x L=>(Ky e x L).2⟩
 ·have c:(B3 d).2=0:=by simpa using ‹((B3 d).2 != 0)=false›
  have h1:Ar d=7:=by
   unfold Ar;rw[At (by rw[c];simp),BY (by omega)]
  exact fI b [.tmp 2] (by rw[h1];exact eR)
 ·have c:(B3 d).2=0:=by simpa using ‹((B3 d).2 != 0)=false›
  obtain⟨e,-,-⟩:=BS c;exact(Av e).2.1
 ·have c:(B3 d).2=0:=by simpa using ‹((B3 d).2 != 0)=false›
  have h1:Ar d=Kx d:=by
   unfold Ar;rw[At (by rw[c];simp),At (by omega),BY a]
  exact fI b [.tmp 2] (by rw[h1];exact eR)
 ·have c:(B3 d).2=0:=by simpa using ‹((B3 d).2 != 0)=false›
  have v:Kx d=0:=by simpa using a
  obtain⟨e,C,B⟩:=BS c;obtain⟨H,r,-⟩:=Av e;have E:=Pg e v;have K:=OG e;have M:=n7 e;have D:(AL d).length≤256:=by rw[IY];exact C
  have g:Ar d=if ((A9 d).all fun s=>(DW d s).2)=false then 10 else if Ia d (B3 d).1 (A9 d) (B3 d).1.length=true then 11 else 0:=by
   unfold Ar;rw[At (by rw[c];simp),At (by omega),At (by rw[v];simp)]
  rw[B]at g ⊢;generalize AL d=l at *;generalize A9 d=f at *;refine AI (ι:={i:Nat//i≤f.length∧((f.take i).all fun s=>(DW d s).2)=true}) (fun i=>⟨[(0,.p E5 d),(3,.p Jx l),(5,.p B5 f),(7,.p (.int .i64) (i.1:Int))],[]⟩) (fun i=>f.length-i.1) ⟨0,IN _,rfl⟩ (AC [] rfl rfl ?_ ?_) (fun i=>?_)
  ·first|exact eN|refine eM ?_
  ·first|exact eN|refine eM ?_
  ·obtain⟨i,hi,n⟩:=i;have G:=fun h:i<f.length=>GS f ByteArray.empty (fun s=>(DW d s).2) h;simp only;repeat'(first|exact trivial|refine eS rfl ?_|refine AB ?_|refine rX b ?_ ?_|refine rC ?_ ?_<;>intro a<;>try(cases a;done))
   ·exact⟨a,H,r⟩
   ·have j:i<f.length:=IS.1 (by assumption);have z:(f.all fun s=>(DW d s).2)=false:=by
     rw[ABV];intro h;have:=Do.1 h _ (AD f ByteArray.empty j);rw[show (DW d (f.getD i ByteArray.empty)).2=false from a]at this;cases this
    rw[BY z]at g;exact fI b [.tmp 2] (by rw[g];exact eR)
   ·omega
   ·have j:i<f.length:=IS.1 (by assumption);refine⟨⟨i+1,j,?_⟩,by simp only;omega,AC [] rfl rfl ?_ ?_⟩
    ·rw[G j,n];exact a
    ·first|exact eN|refine eM ?_
    ·first|exact eN|refine eM ?_
   ·have j:f.take i=f:=As (oF.1 a);rw[j]at n;rw[At (by rw[n];simp)]at g;refine AI (ι:={t:Nat//t≤l.length∧Ia d l f t=false}) (fun t=>⟨[(0,.p E5 d),(3,.p Jx l),(5,.p B5 f),(10,.p (.int .i64) (t.1:Int))],[]⟩) (fun t=>l.length-t.1) ⟨0,IN _,rfl⟩ (AC [] rfl rfl ?_ ?_) (fun t=>?_)
    ·first|exact eN|refine eM ?_
    ·first|exact eN|refine eM ?_
    ·obtain⟨t,N,y⟩:=t;have J:=f3 d l f t;simp only;repeat'(first|exact trivial|refine eS rfl ?_|refine AB ?_|refine rX b ?_ ?_|refine rC ?_ ?_<;>intro a<;>try(cases a;done))
     ·have w:t<l.length:=IS.1 a;refine AI (ι:={k:Nat//k≤f.length∧(f.take k).any (Kz d l t)=false}) (fun k=>⟨[(0,.p E5 d),(3,.p Jx l),(5,.p B5 f),(10,.p (.int .i64) (t:Int)),(11,.p (.int .i64) (k.1:Int))],[]⟩) (fun k=>f.length-k.1) ⟨0,IN _,rfl⟩ (AC [] rfl rfl ?_ ?_) (fun k=>?_)
      ·first|exact eN|refine eM ?_
      ·first|exact eN|refine eM ?_
      ·obtain⟨k,hk,o⟩:=k;have F:=fun h:k<f.length=>Ml f ByteArray.empty (Kz d l t) h;simp only;repeat'(first|exact trivial|refine eS rfl ?_|refine AB ?_|refine rX b ?_ ?_|refine rC ?_ ?_<;>intro a<;>try(cases a;done))
       ·exact⟨a,E,by assumption,D,K⟩
       ·have m:k<f.length:=IS.1 (by assumption);have q:Kz d l t (f.getD k ByteArray.empty)=true:=by
         unfold Kz;rw[An,AA1];exact a
        have A:Ia d l f l.length=true:=by
         unfold Ia;rw[Of];exact⟨t,iS.2 w,Gn f ByteArray.empty _ m q⟩
        rw[BY A]at g;exact fI b [.tmp 2] (by rw[g];exact eR)
       ·omega
       ·have m:k<f.length:=IS.1 (by assumption);have q:Kz d l t (f.getD k ByteArray.empty)=false:=by
         rw[ABV];unfold Kz;intro h;rw[An,AA1]at h;exact a h.1 h.2
        refine⟨⟨k+1,m,?_⟩,by simp only;omega,AC [] rfl rfl ?_ ?_⟩
        ·rw[F m,o,q];rfl
        ·first|exact eN|refine eM ?_
        ·first|exact eN|refine eM ?_
       ·omega
       ·have m:f.take k=f:=As (oF.1 a);rw[m]at o;refine⟨⟨t+1,w,?_⟩,by simp only;omega,AC [] rfl rfl ?_ ?_⟩
        ·rw[J,y];exact o
        ·first|exact eN|refine eM ?_
        ·first|exact eN|refine eM ?_
     ·have I:t=l.length:=by exact eV
      subst I;rw[At (by rw[y];simp)]at g;exact fI b [.tmp 2] (by rw[g];exact eR)
end
section
attribute [local go_sem] Si Qt UH Yb Sh
abbrev z5:=ByteArray×Int
theorem B7 {d:List AH} (h:Ar d=0):(B3 d).2=0∧(A9 d).length≤64∧Kx d=0:=by
 unfold Ar at h;split at h
 ·rename_i h1;exact absurd h h1
 ·rename_i h1;split at h
  ·cases h
  ·rename_i b;split at h
   ·rename_i a;exact absurd h a
   ·rename_i a;exact⟨DO h1,by omega,DO a⟩
def Ph (d:List AH) (s:ByteArray):z5:=(s,BJ (AL d) (DW d s).1)
def EF (d:List AH):List z5×Int:=if Ar d≠0 then ([],Ar d) else ((A9 d).map (Ph d),0)
theorem Vp {α β:Type} (f:α→β) (l:List α) (d:α) {k:Nat} (h:k<l.length):(l.take (k+1)).map f=(l.take k).map f++[f (l.getD k d)]:=by
 rw[Ab l d h,AAx];rfl
theorem Yd {α β:Type} (f:α→β) (l:List α) {k:Nat} (h:k≤l.length):((l.take k).map f).length=k:=by simp[h]
def Qu:Ac:={ ins:=[E5],pre:=fun _=>True,out:=fun(d,_)=>[.p Nq (EF d).1,.p Th (EF d).2] }
theorem f4:Ah Tryz.prog 66 Qu:=by
 refine fK [0,2,3,4,5,7,8,9,10,15,27] Tryz.func66 Tryz.ntmps66 (AE XE (AE Pf (AE UI (AE fX (AE Ww AG))))) ?_;rintro w0 O0 ⟨d,u⟩ g - -;simp only[Qu,AM];repeat'(first|exact trivial|refine eS rfl ?_|refine AB ?_|refine rX g ?_ ?_|refine rC ?_ ?_<;>intro a<;>try(cases a;done))
 ·have h1:EF d=([],Ar d):=by unfold EF;rw[BY a]
  exact fI g [.tmp 2,.tmp 3] (by rw[h1];exact eR)
 ·have c:Ar d=0:=by simpa using a
  obtain⟨k,-,-⟩:=B7 c;obtain⟨b,-,-⟩:=BS k;exact⟨(Av b).2.1,fun x q=>(Ky b x q).2⟩
 ·have c:Ar d=0:=by simpa using a
  obtain⟨k,r,-⟩:=B7 c;obtain⟨b,-,m⟩:=BS k;obtain⟨o,l,-⟩:=Av b;have hr:EF d=((A9 d).map (Ph d),0):=by unfold EF;rw[At (by rw[c];simp)]
  rw[m];generalize A9 d=f at *;refine AI (ι:={i:Nat//i≤f.length}) (fun i=>⟨[(0,.p E5 d),(5,.p Jx (AL d)),(7,.p B5 f),(8,.sr 49 v8 0 ((f.take i.1).map (Ph d)).length),(9,.p (.int .i64) (i.1:Int))],[(49,.arr 116 v8 ((f.take i.1).map (Ph d)))]⟩) (fun i=>f.length-i.1) ⟨0,IN _⟩ (AC [(49,.nil)] rfl rfl ?_ ?_) (fun i=>?_)
  ·first|exact eN|refine eM ?_
  ·first|exact eN|refine eM ?_
  ·obtain⟨i,hi⟩:=i;have n:=Yd (Ph d) f hi;have hs:=fun h:i<f.length=>Vp (Ph d) f ByteArray.empty h;simp only;repeat'(first|exact trivial|refine eS rfl ?_|refine AB ?_|refine rX g ?_ ?_|refine rC ?_ ?_<;>intro a<;>try(cases a;done))
   ·exact⟨a,o,l⟩
   ·refine⟨a,?_⟩;rw[n];simp only[AO];omega
   ·omega
   ·have j:i<f.length:=IS.1 a;have e:=hs j;refine⟨⟨i+1,j⟩,by simp only;omega,AC [(49,.nm 49)] rfl rfl ?_ ?_⟩
    ·simp only[e];first|exact eN|refine eM ?_
     rfl
    ·simp only[e];first|exact eN|refine eM ?_
   ·have j:f.take i=f:=As (oF.1 a);rw[j];refine GP [49] ?_;exact fI g [.tmp 2,.tmp 3] (by rw[hr];exact eR)
end
end Go.Proofs.YtdapahgnpbehbaaGreat.Fw
