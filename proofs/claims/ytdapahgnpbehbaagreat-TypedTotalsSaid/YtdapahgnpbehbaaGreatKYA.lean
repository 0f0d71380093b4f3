/- Contracts of the program's and the reference's functions, and the plain laws of what they compute: Sorted R07f R07g G1 G3 PS PA PB PC PD PE PF PL PG PH T1 G4 G5 G6 R07b R07c R07d R07e R07h T2. -/
import Derived.Test.YtdapahgnpbehbaaGreatKZJ
import Derived.Test.YtdapahgnpbehbaaGreatKZI
set_option linter.unusedVariables false
set_option linter.unusedSimpArgs false
namespace Go.Proofs.YtdapahgnpbehbaaGreat.Fw
open Go
attribute [local irreducible] Ev
attribute [local go_sem] WF AM List.toList_toArray Bt evG evK Sw ER JR FT Ek Fk NI Jk CB Cl KP B1 Ca frz Y9 GE C0 A4 FC BT AV.frz AV.frzs AV.drp AV.drps AV.names AV.namess aq GF Jj JI QE Hq BQ BU Im EJ HS EK HV HT HW R8 NB GG Io FE Dl R9 OQ tQ Ip Ht KK Ex DZ Hu JK Dw QF CS Dx EY OT Hv OU LB Hw JL Ck CZ E2 Da G9 DF EZ DG Dy E1 B1 CY OK OM Lg Fi Hs Hr JJ Lh NE LC KO KM JO OV KN JP Va NH NF AV.trn AV.trns Dk CR Obj.trn I2 X9 Cv DH Cu Dz CM Ea Ae lk Ga F6 G7 tZ Y8 Su ZB OP mI mJ pfs AV.cells B9 Ik NW JN ND CL Le Ty.cell1 HR EX DY Fh KJ EI Ji LA OL EW Gh Ld QD R6 LX Jh VX Xl OO Lf Cj Il RV.flat Ty.flat Ty.size St.add upd del BZ Value.oneCell' KH Ty.dflt HQ Mb Gk Mh List.take_succ_cons List.take_zero List.length_cons WM WN Mg H9 Ju GM Hk pY El KY KZ Ka Kb Nh Ni Iw Hb QP Option.map_some Option.map_none Option.bind_some Option.getD_some Option.getD_none Option.isNone_none Option.isNone_some Bool.and_true Bool.true_and Bool.and_false Bool.false_and Bool.not_true Bool.not_false if_true if_false List.length_cons List.length_nil and_true true_and and_self List.all_cons List.all_nil List.append_nil List.nil_append List.cons_append List.getElem?_cons_zero List.getElem?_cons_succ List.getElem?_nil List.map_cons List.map_nil List.set_cons_zero List.set_cons_succ List.isEmpty_nil List.isEmpty_cons decide_true decide_false beq_self_eq_true bne_self_eq_false Nat.zero_add Nat.add_zero Nat.sub_zero Int.toNat_natCast Int.toNat_zero Int.toNat_one List.take_length List.length_append List.length_singleton true_or or_true or_self false_or or_false Ty.agg.injEq Ty.slice.injEq Ty.prod.injEq Ty.int.injEq Option.some.injEq beq_iff_eq Kd evMG evMQ tR HC LH B0 Iy GL NM Ix HB Hc Iz Jt Lr Lt Ls QQ Js Md Me Hj AX Af Op.operands Call.operands List.filterMap_cons List.filterMap_nil List.append_eq Bool.cond_false_right Bool.cond_true_left cond_true cond_false implies_true decide_eq_true_eq beq_true beq_false Bool.or_true Bool.or_false Bool.true_or Bool.false_or Option.isSome_some Array.empty_append List.append_toArray FD KQ Eb HK VZ NC E0 FM FL Hx G8 JM KL Sv ZA JH inB JQ E9 Fj Hy Ao WO List.drop_zero DS HO Ve Cn Ki Bi AV.fgt AV.fgts Obj.fgt Ad Au AX Dg LY Bh IA List.any_cons List.any_nil iJ X5 Vf X6 LZ Ox qs List.flatMap_cons List.flatMap_nil List.cons_append tn Vg I3 List.take_succ_cons List.drop_succ_cons Vh HE Bn Zo Jw CT Cm Ak E4 JV Bx Ed Db HA Ha GK H8
attribute [local go_sem] JY jQ ty3 ty4 ty5 ty9 v9 wA wB wC wD wE wF wG wH wI wJ wK wL wM wN wO wP wQ wR wS wT wU wV wW wX wY wZ w3 w4 w5 w7 w8 w9 xA xB xC xD xE xF xG xH xI xJ xK xL xM xN xO xP xQ xR xS xT xU xV xW xX xY xZ x5 x6 x7 x8 x9 yA yB yC yD yE yF yG yH yI yJ Zv Zw Zx Zy Zz Z0 Z1 Z2 Z3 Z4 Z5 Z6 Z7 Z8 Z9 aA aB aC aD aE aF aG aH aI aJ aK aL aM aN aO aP aQ aR aU aV aW aX aY aZ a9 bA bB bC bD bE bF bG bH bI bJ bK bL bM bN bO bP bQ bR bS bT bU bV bW bX bZ b4 b5 b6 b7 b8 b9 cA cB cC cE cF cG cH cI cJ cK cL cM cN cO cQ cR cS cU cV cW cX cZ c6 c7 c8 c9 dA dB dC dD dE dF dG dH dI dJ dK dL dM dN dP dQ dR dS dT dU dV dW
set_option maxRecDepth 100000
set_option maxHeartbeats 4000000
def IE (x:Int×Int) (s:List (Int×Int)):Nat→Nat
 | 0=>0
 | n+1=>if x.1<(s.getD n (0,0)).1 then IE x s n else n+1
def Nr (s:List (Int×Int)) (x:Int×Int):List (Int×Int):=s.take (IE x s s.length)++[x]++s.drop (IE x s s.length)
def AR (l:List (Int×Int)):List (Int×Int):=l.foldl Nr []
theorem Sa (x:Int×Int) (s:List (Int×Int)):∀n,IE x s n≤n
 | 0=>NO _
 | n+1=>by
  unfold IE;have:=Sa x s n;split<;>omega
theorem yO (s:List (Int×Int)) (x:Int×Int):(Nr s x).length=s.length+1:=by
 have:=Sa x s s.length;simp[Nr];omega
theorem Hd (l:List (Int×Int)) (x:Int×Int):AR (l++[x])=Nr (AR l) x:=by simp[AR]
theorem Lz:∀(l s:List (Int×Int)),(l.foldl Nr s).length=s.length+l.length
 | [],s=>by simp
 | x :: l,s=>by simp[Lz l,yO];omega
theorem Ci (l:List (Int×Int)):(AR l).length=l.length:=by simp[AR,Lz]
def O5:Ac:={ ins:=[Ii],pre:=fun(l,_)=>l.length≤1000000,out:=fun(l,_)=>[.own 53 BK (AR l)] }
theorem Wg:Ah Tryz.prog 79 O5:=by
 refine fK [0,2,3,4,5,6,10,30] Tryz.func79 Tryz.ntmps79 AG ?_;rintro w0 O0 ⟨l,u⟩ c s j;simp only[O5]at j;simp only[O5,AM];repeat'(first|exact trivial|refine eS rfl ?_|refine AB ?_|refine rX c ?_ ?_|refine rC ?_ ?_<;>intro a<;>try(cases a;done))
 refine AI (ι:={p:Nat//p≤l.length}) (fun k=>⟨[(0,.p Ii l),(3,.sr 10 BK 0 (AR (l.take k.1)).length),(4,.p (.int .i64) (k.1:Int))],[(10,.arr 53 BK (AR (l.take k.1)))]⟩) (fun k=>l.length-k.1) ⟨0,by omega⟩ (AC [(10,.nil)] rfl rfl ?_ ?_) (fun k=>?_)
 ·first|exact eN|refine eM ?_
  rfl
 ·first|exact eN|refine eM ?_
  rfl
 ·obtain⟨k,g⟩:=k;have o:(AR (l.take k)).length=k:=by rw[Ci,SH];exact ABe g
  repeat'(first|exact trivial|refine eS rfl ?_|refine AB ?_|refine rX c ?_ ?_|refine rC ?_ ?_<;>intro a<;>try(cases a;done))
  ·refine AI (ι:={q:Nat//q≤(AR (l.take k)).length∧IE (l.getD k (0,0)) (AR (l.take k)) q=IE (l.getD k (0,0)) (AR (l.take k)) (AR (l.take k)).length}) (fun q=>⟨[(0,.p Ii l),(3,.sr 10 BK 0 (AR (l.take k)).length),(4,.p (.int .i64) (k:Int)),(5,.p (.int .i64) (q.1:Int))],[(10,.arr 53 BK (AR (l.take k)))]⟩) (fun q=>q.1) ⟨(AR (l.take k)).length,by simp⟩ (AC [(10,.nm 10)] rfl rfl ?_ ?_) (fun q=>?_)
   ·first|exact eN|refine eM ?_
   ·first|exact eN|refine eM ?_
   ·obtain⟨q,m,hp⟩:=q;have h:k<l.length:=by omega
    have n:=l.length_take_le k;have d:(List.take q (AR (List.take k l))).length=q:=by rw[SH];exact ABe m
    repeat'(first|exact trivial|refine eS rfl ?_|refine AB ?_|refine rX c ?_ ?_|refine rC ?_ ?_<;>intro a<;>try(cases a;done))
    ·exact eV
    ·exact eV
    ·obtain⟨h1,b⟩:=a;obtain⟨q,rfl⟩:∃r,q=r+1:=⟨q-1,by omega⟩;have e:((q+1:Nat):Int)-1=(q:Int):=by omega
     refine⟨⟨q,by omega,?_⟩,ACz q,AC [(10,.nm 10)] rfl rfl ?_ ?_⟩
     ·rw[←hp];simp only[IE];rw[e,f7]at b;rw[BY b]
     ·first|exact eN|refine eM ?_
     ·first|exact eN|refine eM ?_
      show (q:Int)+1-1=q;omega
    ·refine⟨by exact eV,?_⟩;rw[d];unfold AO;omega
    ·refine⟨by exact eV,?_⟩;rw[d];simp only[AO];omega
    ·refine⟨by exact eV,?_⟩;rw[d];simp only[AO,AAV];omega
    ·exact eV
    ·have i:IE (l.getD k (0,0)) (AR (l.take k)) q=q:=by
      cases q with
      | zero=>rfl
      | succ q =>
       have e:((q+1:Nat):Int)-1=(q:Int):=by omega
       have:=a (by omega);rw[e,f7]at this;simp only[IE];rw[At (by omega)]
     have h1:=Ab l (0,0) h;have b:AR (l.take (k+1))=_:=(AAX AR h1).trans (Hd _ _);unfold Nr at b;rw[←hp,i]at b;refine⟨⟨k+1,by exact eV⟩,by simp only;exact eV,AC [(10,.nm 37)] rfl rfl ?_ ?_⟩
     ·first|exact eN|refine eM ?_
      exact b.symm
     ·first|exact eN|refine eM ?_
      have f:=AAX List.length b;rw[OR,OR]at f;exact f.symm
  ·have hk:l.take k=l:=As (by exact eV);refine H7 c (.inl rfl) (rv:=.tmp 2) rfl ?_;simp only[Iv,H5,Gj,go_sem,Nat.reduceEqDiff,reduceCtorEq,Nat.reduceAdd,Nat.reduceSub,Nat.reduceMul,Nat.reduceLeDiff,Nat.reduceLT,Int.reduceLE,Int.reduceToNat,Int.reduceNeg,↓reduceIte];rw[hk];first|rfl|exact⟨rfl,rfl⟩|exact⟨rfl,rfl,rfl⟩
section
attribute [local go_sem] O5
abbrev AF:=Int×List (Int×Int)
def DT (f:List AF):Nat→List Int×List Int→Int→List Int×List Int
 | 0,s,_=>s
 | k+1,s,n=>(AR (f.getD n.toNat (0,[])).2).foldl (fun s a=>if s.1.getD a.2.toNat 0<0 then DT f k s a.2 else s) (s.1.set n.toNat (s.2.length:Int),s.2++[n])
def Lc (l:List Int):Nat:=l.countP (fun x=>decide (x<0))
def A2 (f:List AF):Prop:=f.length≤100000∧∀x∈f,x.2.length≤100000∧∀a∈x.2,0≤a.2∧a.2<(f.length:Int)
def SE (f:List AF) (s:List Int×List Int):Prop:=s.1.length=f.length∧s.2.length+Lc s.1≤f.length
theorem yP {l:List Int} {n:Nat} {v:Int} (hn:n<l.length) (a:l.getD n 0<0) (d:0≤v):Lc (l.set n v)+1=Lc l:=by
 induction l generalizing n with
 | nil=>simp at hn
 | cons x r c =>
  cases n with
  | zero =>
   have b:x<0:=by simpa using a
   have:¬v<0:=by omega
   simp[Lc,AB2,b,this]
  | succ n =>
   have h1:=c (n:=n) (by simpa using hn) (by simpa using a);simp only[Lc,ABN,AB2]at h1 ⊢;omega
theorem jR {f:List AF} {s:List Int×List Int} {n:Int} (h:SE f s) (d:0≤n) (hn:n<f.length) (b:s.1.getD n.toNat 0<0) :
  SE f (s.1.set n.toNat (s.2.length:Int),s.2++[n])∧Lc (s.1.set n.toNat (s.2.length:Int))+1=Lc s.1:=by
 obtain⟨h1,c⟩:=h;have a:=yP (l:=s.1) (n:=n.toNat) (v:=(s.2.length:Int)) (by omega) b (by omega);refine⟨⟨by simpa using h1,?_⟩,a⟩;simp only[OR,iF];omega
theorem qS (s:List (Int×Int)) (x:Int×Int):(Nr s x).Perm (x :: s):=by
 unfold Nr;refine(List.perm_append_comm.append_right _).trans ?_;simp
theorem LK:∀(l s:List (Int×Int)),(l.foldl Nr s).Perm (l++s)
 | [],s=>List.Perm.refl _
 | x :: l,s=>by
  refine(LK l (Nr s x)).trans ?_;refine(List.Perm.append_left l (qS s x)).trans ?_;exact ACC
theorem BN (l:List (Int×Int)):(AR l).Perm l:=by
 have:=LK l [];simpa[AR] using this
theorem L1 {f:List AF} (hf:A2 f) (n:Int):List.length (f.getD n.toNat (0,[])).2≤100000:=by
 by_cases h:n.toNat<f.length
 ·have a:f.getD n.toNat (0,[])∈f:=by
   rw[AS,AT h];exact AA7 h
  exact(hf.2 _ a).1
 ·rw[AS,gO (by omega)];simp
theorem Sb {f:List AF} (hf:A2 f) {n:Int} {a:Int×Int} (ha:a∈AR (f.getD n.toNat (0,[])).2):0≤a.2∧a.2<f.length:=by
 have ha:=(BN _).mem_iff.1 ha;by_cases h:n.toNat<f.length
 ·have b:f.getD n.toNat (0,[])∈f:=by
   rw[AS,AT h];exact AA7 h
  exact(hf.2 _ b).2 a ha
 ·rw[AS,gO (by omega)]at ha;simp at ha
def D8 (f:List AF) (k:Nat) (s:List Int×List Int) (a:Int×Int):List Int×List Int:=if s.1.getD a.2.toNat 0<0 then DT f k s a.2 else s
theorem Di (f:List AF) (k:Nat) (s:List Int×List Int) (n:Int):DT f (k+1) s n=(AR (f.getD n.toNat (0,[])).2).foldl (D8 f k) (s.1.set n.toNat (s.2.length:Int),s.2++[n]):=rfl
theorem Sc {f:List AF} {k:Nat} (i:∀(s:List Int×List Int) (n:Int),SE f s→0≤n→n<f.length→s.1.getD n.toNat 0<0→SE f (DT f k s n)∧Lc (DT f k s n).1≤Lc s.1) :
  ∀(l:List (Int×Int)) (t:List Int×List Int),(∀a∈l,0≤a.2∧a.2<(f.length:Int))→SE f t→SE f (l.foldl (D8 f k) t)∧Lc (l.foldl (D8 f k) t).1≤Lc t.1
 | [],t,_,d=>⟨d,NO _⟩
 | a :: l,t,c,d=>by
  simp only[TO];by_cases h:t.1.getD a.2.toNat 0<0
  ·obtain⟨j,m⟩:=i t a.2 d (c a (by simp)).1 (c a (by simp)).2 h;have e:D8 f k t a=DT f k t a.2:=BY h;rw[e];obtain⟨o,p⟩:=Sc i l _ (fun b g=>c b (by simp[g])) j;exact⟨o,To p m⟩
  ·have e:D8 f k t a=t:=At h;rw[e];exact Sc i l t (fun b g=>c b (by simp[g])) d
theorem Qa {f:List AF} (hf:A2 f):∀(k:Nat) (s:List Int×List Int) (n:Int),SE f s→0≤n→n<f.length→s.1.getD n.toNat 0<0→SE f (DT f k s n)∧Lc (DT f k s n).1≤Lc s.1
 | 0,s,n,h,_,_,_=>⟨h,NO _⟩
 | k+1,s,n,h,h0,h1,d=>by
  obtain⟨e,g⟩:=jR h h0 h1 d;obtain⟨b,c⟩:=Sc (Qa hf k) _ _ (fun a ha=>Sb hf ha) e;rw[Di];exact⟨b,by simp only at c g;omega⟩
theorem Qb {α β:Type} (g:β→α→β) (l:List α) (d:α) (t:β) {i:Nat} (hi:i<l.length):(l.take (i+1)).foldl g t=g ((l.take i).foldl g t) (l.getD i d):=by
 rw[Ab l d hi,ABw];rfl
def LL (f:List AF) (s:List Int×List Int):List (Nat×Obj):=[(1,.box 123 true [.p FZ f,.sr 2 T3 0 s.1.length,.sr 3 T3 0 s.2.length]),(2,.arr 3 T3 s.1),(3,.arr 3 T3 s.2)]
theorem yQ (f:List AF) (hf:A2 f):∀(k:Nat) (s:List Int×List Int) (n:Int),SE f s→0≤n→n<f.length→s.1.getD n.toNat 0<0→Lc s.1≤k →
  BL Tryz.prog 78 [.bp 1 [] 0,.p T3 n] (LL f s) [1] (fun res J=>res=.raw (.tuple #[])∧J=LL f (DT f k s n)):=by
 intro k;induction k with
 | zero =>
  intro s n h0 h1 u A M;obtain⟨_,N⟩:=jR h0 h1 u A;omega
 | succ k I =>
  intro s n z w m x hk;obtain⟨num,j⟩:=s;obtain⟨t,v⟩:=jR z w m x;obtain⟨F,G⟩:=z;simp only at F G x t v hk;refine La [0,1,4,5,40,54] [] [] Tryz.func78 Tryz.ntmps78 (AE Wg AG) ?_;intro w0 K O0 ρ0 d P Q;simp only[LL,Ao];repeat'(first|exact trivial|refine eS rfl ?_|refine AB ?_|refine rX d ?_ ?_|refine rC ?_ ?_<;>intro b<;>try(cases b;done))
  ·exact eV
  ·have:=hf.1;simp only[AO];omega
  ·have H:=L1 hf n;exact⟨⟨w,m⟩,To H (by omega)⟩
  ·have l:=fun a (ha:a∈AR (f.getD n.toNat (0,[])).2)=>Sb hf ha;have C:(AR (f.getD n.toNat (0,[])).2).length≤100000:=by rw[Ci];exact L1 hf n
   generalize B:AR (f.getD n.toNat (0,[])).2=L at l C;generalize o:(num.set n.toNat (j.length:Int),j++[n])=s1 at t;have E:∀i,SE f ((L.take i).foldl (D8 f k) s1)∧Lc ((L.take i).foldl (D8 f k) s1).1≤Lc s1.1:=fun i=>Sc (Qa hf k) _ _ (fun a ha=>l a (AAb ha)) t;have m:num.set n.toNat (j.length:Int)=s1.1:=by rw[←o]
   have O:j++[n]=s1.2:=by rw[←o]
   rw[m]at v;refine AI (ι:={i:Nat//i≤L.length}) (fun i=>⟨[(0,.bp 1 [] 0),(1,.p T3 n),(4,.p Ii L),(5,.p (.int .i64) (i.1:Int))],LL f ((L.take i.1).foldl (D8 f k) s1)⟩) (fun i=>L.length-i.1) ⟨0,by omega⟩ (A4E [36] (AC [(1,.nm 1),(2,.nm 2),(3,.nm 3)] rfl rfl ?_ ?_)) (fun i=>?_)
   ·simp only[LL];first|exact eN|refine eM ?_
    simp only[List.foldl_nil];rw[←o];simp
   ·first|exact eN|refine eM ?_
   ·obtain⟨i,hi⟩:=i;obtain⟨r,D⟩:=E i;have q:=fun(h:i<L.length)=>Qb (D8 f k) L (0,0) s1 h;generalize y:(L.take i).foldl (D8 f k) s1=c at r D q;simp only[LL];repeat'(first|exact trivial|refine eS rfl ?_|refine AB ?_|refine rX d ?_ ?_|refine rC ?_ ?_<;>intro b<;>try(cases b;done))
    ·have g:i<L.length:=by exact eV
     have:=l _ (AD L (0,0) g);obtain⟨h1,u⟩:=r;refine⟨by exact eV,this.1,?_⟩;rw[h1];exact this.2
    ·have g:i<L.length:=by exact eV
     have hr:=l _ (AD L (0,0) g);refine cP 6 d ?_ ?_
     ·exact eV
     ·refine rM d (I c (L.getD i (0,0)).2 r hr.1 hr.2 (by simpa using b) (by omega)) [(1,.nm 1),(2,.nm 2),(3,.nm 3)] [2,3] ?_ ?_ ?_
      ·first|exact eN|refine eM ?_
      ·simp only[LL];first|exact eN|refine eM ?_
      ·rintro _ _ ⟨rfl,rfl⟩;refine⟨[(1,.nm 1),(2,.nm 2),(3,.nm 3)],.raw (.tuple #[]),LL f (DT f k c (L.getD i (0,0)).2),rfl,rfl,?_,?_,rfl,rfl,Cy ?_⟩
       ·simp only[LL];first|exact eN|refine eM ?_
       ·first|exact eN|refine eM ?_
       ·repeat'(first|exact trivial|refine eS rfl ?_|refine AB ?_|refine rX d ?_ ?_|refine rC ?_ ?_<;>intro b<;>try(cases b;done))
        ·exact eV
        ·have e:D8 f k c (L.getD i (0,0))=DT f k c (L.getD i (0,0)).2:=BY (by simpa using b);refine⟨⟨i+1,by omega⟩,by simp only;omega,AC [(1,.nm 1),(2,.nm 2),(3,.nm 3)] rfl rfl ?_ ?_⟩
         ·simp only[LL,q g,e];first|exact eN|refine eM ?_
         ·first|exact eN|refine eM ?_
    ·exact eV
    ·have g:i<L.length:=by exact eV
     have e:D8 f k c (L.getD i (0,0))=c:=At (by simpa using b);refine⟨⟨i+1,by omega⟩,by simp only;omega,AC [(1,.nm 1),(2,.nm 2),(3,.nm 3)] rfl rfl ?_ ?_⟩
     ·simp only[q g,e];first|exact eN|refine eM ?_
     ·first|exact eN|refine eM ?_
    ·have hk:L.take i=L:=As (by exact eV);rw[hk]at y;have h1:DT f (k+1) (num,j) n=c:=by rw[Di,B,←y,←o]
     rw[h1];exact fM d [] (.raw (.tuple #[])) rfl ⟨rfl,rfl⟩
end
section
attribute [local go_sem] O5
def d5 (f:List AF) (s:List Int×List Int):Prop:=∀n∈s.2,0≤n∧n<(f.length:Int)
theorem Ti {f:List AF} (hf:A2 f):∀(k:Nat) (s:List Int×List Int) (n:Int),d5 f s→0≤n→n<f.length→d5 f (DT f k s n)
 | 0,s,n,h,_,_=>h
 | k+1,s,n,h,h0,h1=>by
  rw[Di];have key:∀(l:List (Int×Int)) (t:List Int×List Int),(∀a∈l,0≤a.2∧a.2<(f.length:Int))→d5 f t→d5 f (l.foldl (D8 f k) t):=by
   intro l;induction l with
   | nil=>intro t _ d;exact d
   | cons a l i =>
    intro t e d;simp only[TO];refine i _ (fun b g=>e b (by simp[g])) ?_;unfold D8;split
    ·exact Ti hf k t a.2 d (e a (by simp)).1 (e a (by simp)).2
    ·exact d
  refine key _ _ (fun a ha=>Sb hf ha) ?_;intro m c;simp only[ON,AAh]at c;rcases c with c|rfl
  ·exact h m c
  ·exact⟨h0,h1⟩
def Fs (f:List AF) (root:Int):List Int×List Int:=DT f f.length (List.replicate f.length (-1),[]) root
def Vk (num:List Int) (a:Int×Int):Int×Int:=(a.1,num.getD a.2.toNat 0)
def LM (f:List AF) (num:List Int) (n:Int):AF:=((f.getD n.toNat (0,[])).1,(AR (f.getD n.toNat (0,[])).2).map (Vk num))
def ET (f:List AF) (root:Int):List AF:=(Fs f root).2.map (LM f (Fs f root).1)
theorem d6 (m:Nat):Lc (List.replicate m (-1))=m:=by
 induction m with
 | zero=>rfl
 | succ m a=>simp only[Lc,List.replicate_succ,AB2]at a ⊢;simp[a]
theorem tr0 (f:List AF):SE f (List.replicate f.length (-1),[]):=⟨by simp,by simp[d6]⟩
theorem nL {f:List AF} {n:Int} (h0:0≤n) (h1:n<f.length):(List.replicate f.length (-1:Int)).getD n.toNat 0<0:=by
 have:n.toNat<f.length:=by omega
 simp[AS,AAB,this]
theorem nM {f:List AF} (hf:A2 f) {n:Int} (h0:0≤n) (h1:n<f.length):SE f (Fs f n)∧d5 f (Fs f n) :=
 ⟨(Qa hf _ _ n (tr0 f) h0 h1 (nL h0 h1)).1,Ti hf _ _ n (fun m a=>by simp at a) h0 h1⟩
theorem Tj {α b:Type} (g:α→b) (h:b→α) (L:List α) (d:α) {k:Nat} (hk:k<L.length) (u:α→α):((L.take k).map u++L.drop k).set k (u (L.getD k d))=(L.take (k+1)).map u++L.drop (k+1)∧((L.take k).map u++L.drop k).getD k d=L.getD k d:=by
 have h1:((L.take k).map u).length=k:=by simp;omega
 have a:L.drop k=L.getD k d :: L.drop (k+1):=by
  rw[OS hk,AS,AT hk];rfl
 constructor
 ·rw[Ab L d hk,ABY _ _ (by omega),h1,AB4,a];simp
 ·rw[AS,AA3 (by omega),h1,AB4,a];rfl
def d7:Ac:={ ins:=[FZ,T3],pre:=fun(f,n,_)=>A2 f∧0≤n∧n<(List.length f:Int),out:=fun(f,n,_)=>[.p FZ (ET f n)] }
theorem nN:Ah Tryz.prog 54 d7:=by
 refine fK [0,1,2,4,5,6,7,8,9,10,11,19,40,60] Tryz.func54 Tryz.ntmps54 (AE Wg AG) ?_;rintro w0 O0 ⟨f,root,u⟩ g-⟨hf,l,m⟩;simp only[d7,AM];have G:=hf.1;repeat'(first|exact trivial|refine eS rfl ?_|refine AB ?_|refine rX g ?_ ?_|refine rC ?_ ?_<;>intro d<;>try(cases d;done))
 refine AI (ι:={i:Nat//i≤f.length}) (fun i=>⟨[(1,.p T3 root),(2,.bp 2 [] 0),(4,.bp 4 [] 0),(5,.bp 14 [] 0),(6,.p (.int .i64) (i.1:Int))],[(2,.box 25 true [.p Et f]),(4,.box 25 true [.raw (.slice none 0 0)]),(14,.box 123 true [.p FZ f,.sr 10 T3 0 i.1,.raw (.slice none 0 0)]),(10,.arr 3 T3 (List.replicate i.1 (-1)))]⟩) (fun i=>f.length-i.1) ⟨0,by omega⟩ (AC [(2,.nm 2),(4,.nm 4),(14,.nm 14),(10,.nil)] rfl rfl ?_ ?_) (fun i=>?_)
 ·first|exact eN|refine eM ?_
  rfl
 ·first|exact eN|refine eM ?_
 ·obtain⟨i,hi⟩:=i;repeat'(first|exact trivial|refine eS rfl ?_|refine AB ?_|refine rX g ?_ ?_|refine rC ?_ ?_<;>intro d<;>try(cases d;done))
  ·simp only[AO];omega
  ·exact eV
  ·have hi:i<List.length f:=by exact eV
   refine⟨⟨i+1,by omega⟩,by simp only;omega,AC [(2,.nm 2),(4,.nm 4),(14,.nm 14),(10,.nm 10)] rfl rfl ?_ ?_⟩
   ·first|exact eN|refine eM ?_
    rw[List.replicate_succ'];simp
   ·first|exact eN|refine eM ?_
  ·have A:i=List.length f:=by exact eV
   subst A;have w:=nM hf l m;refine cP 2 g ?_ ?_
   ·trivial
   ·refine rM g (yQ f hf (List.length f) (List.replicate (List.length f) (-1),[]) root (tr0 f) l m (nL l m) (by rw[d6];exact NO _)) [(1,.nm 14),(2,.nm 10),(3,.nil)] [10] ?_ ?_ ?_
    ·first|exact eN|refine eM ?_
    ·simp only[LL];first|exact eN|refine eM ?_
     simp
    ·rintro _ _ ⟨rfl,rfl⟩;refine⟨[(14,.nm 1),(101,.nm 2),(102,.nm 3)],.raw (.tuple #[]),[(14,.box 123 true [.p FZ f,.sr 101 T3 0 (Fs f root).1.length,.sr 102 T3 0 (Fs f root).2.length]),(101,.arr 3 T3 (Fs f root).1),(102,.arr 3 T3 (Fs f root).2)],rfl,rfl,?_,?_,rfl,rfl,Cy ?_⟩
     ·simp only[LL,Fs];first|exact eN|refine eM ?_
     ·first|exact eN|refine eM ?_
     ·have z:ET f root=(Fs f root).2.map (LM f (Fs f root).1):=rfl;rw[z];generalize Fs f root=s at w;obtain⟨num,c⟩:=s;obtain⟨⟨r,t⟩,j⟩:=w;simp only at r t;have j:∀n∈c,0≤n∧n<(List.length f:Int):=j;repeat'(first|exact trivial|refine eS rfl ?_|refine AB ?_|refine rX g ?_ ?_|refine rC ?_ ?_<;>intro d<;>try(cases d;done))
      refine AI (ι:={i:Nat//i≤c.length}) (fun i=>⟨[(2,.bp 2 [] 0),(4,.bp 4 [] 0),(5,.bp 14 [] 0),(7,.bp 7 [] 0),(8,.p (.int .i64) (i.1:Int))],[(2,.box 25 true [.p Et f]),(4,.box 25 true [.raw (.slice none 0 0)]),(14,.box 123 true [.p FZ f,.sr 101 T3 0 num.length,.sr 102 T3 0 c.length]),(101,.arr 3 T3 num),(102,.arr 3 T3 c),(7,.box 25 true [.sr 200 LJ 0 i.1]),(200,.arr 49 LJ ((c.take i.1).map (LM f num)))]⟩) (fun i=>c.length-i.1) ⟨0,by omega⟩ (AC [(2,.nm 2),(4,.nm 4),(14,.nm 14),(101,.nm 101),(102,.nm 102),(7,.nm 7),(200,.nil)] rfl rfl ?_ ?_) (fun i=>?_)
      ·first|exact eN|refine eM ?_
      ·first|exact eN|refine eM ?_
      ·obtain⟨i,hi⟩:=i;repeat'(first|exact trivial|refine eS rfl ?_|refine AB ?_|refine rX g ?_ ?_|refine rC ?_ ?_<;>intro d<;>try(cases d;done))
       ·have hi:i<c.length:=by exact eV
        exact⟨by exact eV,j _ (AD c 0 hi)⟩
       ·exact To (L1 hf _) (by omega)
       ·have hi:i<c.length:=by exact eV
        have q:=fun a (ha:a∈AR (f.getD (Int.toNat (c.getD i 0)) (0,[])).2)=>Sb hf ha;have v:LM f num (c.getD i 0)=((f.getD (Int.toNat (c.getD i 0)) (0,[])).1,(AR (f.getD (Int.toNat (c.getD i 0)) (0,[])).2).map (Vk num)):=rfl;have B:=L1 hf (c.getD i 0);generalize List.getD f (Int.toNat (c.getD i 0)) (0,[])=x at *;obtain⟨E,o⟩:=x;simp only at q v B;have F:=Ci o;generalize AR o=L at *;refine AI (ι:={k:Nat//k≤L.length}) (fun k=>⟨[(2,.bp 2 [] 0),(4,.bp 4 [] 0),(5,.bp 14 [] 0),(7,.bp 7 [] 0),(8,.p (.int .i64) (i:Int)),(9,.bp 9 [] 0),(10,.sr 56 BK 0 L.length),(11,.p (.int .i64) (k.1:Int))],[(56,.arr 53 BK ((L.take k.1).map (Vk num)++L.drop k.1)),(9,.box 49 true [.p T3 E,.p Ii o]),(2,.box 25 true [.p Et f]),(4,.box 25 true [.raw (.slice none 0 0)]),(14,.box 123 true [.p FZ f,.sr 101 T3 0 num.length,.sr 102 T3 0 c.length]),(101,.arr 3 T3 num),(102,.arr 3 T3 c),(7,.box 25 true [.sr 200 LJ 0 i]),(200,.arr 49 LJ ((c.take i).map (LM f num)))]⟩) (fun k=>L.length-k.1) ⟨0,by omega⟩ (AC [(2,.nm 2),(4,.nm 4),(14,.nm 14),(101,.nm 101),(102,.nm 102),(7,.nm 7),(200,.nm 200),(9,.nm 9),(56,.nm 56)] rfl rfl ?_ ?_) (fun k=>?_)
        ·first|exact eN|refine eM ?_
        ·first|exact eN|refine eM ?_
        ·obtain⟨k,hk⟩:=k;repeat'(first|exact trivial|refine eS rfl ?_|refine AB ?_|refine rX g ?_ ?_|refine rC ?_ ?_<;>intro d<;>try(cases d;done))
         ·have h:k<L.length:=by exact eV
          have e:=(Tj (Vk num) (fun b=>b) L (0,0) h (Vk num)).2;rw[e];have:=q _ (AD L (0,0) h);rw[r];exact⟨by exact eV,this,by exact eV⟩
         ·exact eV
         ·have h:k<L.length:=by exact eV
          have e:=Tj (Vk num) (fun b=>b) L (0,0) h (Vk num);refine⟨⟨k+1,by omega⟩,by simp only;omega,AC [(2,.nm 2),(4,.nm 4),(14,.nm 14),(101,.nm 101),(102,.nm 102),(7,.nm 7),(200,.nm 200),(9,.nm 9),(56,.nm 56)] rfl rfl ?_ ?_⟩
          ·first|exact eN|refine eM ?_
           rw[e.2];exact e.1
          ·first|exact eN|refine eM ?_
         ·simp only[AO];have:=t;omega
         ·exact eV
         ·have h:L.take k=L:=As (by exact eV);have y:L.drop k=[]:=IF (by exact eV);refine⟨⟨i+1,by omega⟩,by simp only;omega,AC [(2,.nm 2),(4,.nm 4),(14,.nm 14),(101,.nm 101),(102,.nm 102),(7,.nm 7),(200,.nm 200)] rfl rfl ?_ ?_⟩
          ·first|exact eN|refine eM ?_
           rw[h,y,AAa,Ab c 0 hi,AAx,tO,AC0,v];have C:List.take i ((c.take i).map (LM f num))=(c.take i).map (LM f num):=As (by rw[nO,SH];omega);have D:List.take L.length (L.map (Vk num))=L.map (Vk num):=As (by rw[nO];omega);rw[C,D]
          ·first|exact eN|refine eM ?_
       ·have hk:c.take i=c:=As (by exact eV);rw[hk];refine fI g [.cell 4 25] (by first|exact eR|refine Zr ?_;exact As (by rw[nO];exact eV))
end
section
def jS:Ac:={ ins:=[T3],pre:=fun _=>True,out:=fun _=>[.p .bool false] }
attribute [local go_sem] jS
def Fg (a b:Int):Int:=if a<b then -1 else if b<a then 1 else 0
def Gl:Ac:={ ins:=[T3,T3],pre:=fun _=>True,out:=fun(a,b,_)=>[.p T3 (Fg a b)] }
attribute [local go_sem] Gl
def Co:Ac:={ ins:=[BK,BK],pre:=fun _=>True,out:=fun(a,b,_)=>[.p T3 (Fg (Prod.fst a) (Prod.fst b))] }
attribute [local go_sem] Co
theorem yR:Ah Tryz.prog 157 jS:=by
 refine fK [0,2] Tryz.func157 Tryz.ntmps157 AG ?_;rintro w0 O0 ⟨x,u⟩ a - -;simp only[jS,AM];repeat'(first|exact trivial|refine eS rfl ?_|refine AB ?_|refine rX a ?_ ?_|refine rC ?_ ?_<;>intro b<;>try(cases b;done))
 exact fI a [.tmp 2]
theorem Gd:Ah Tryz.prog 138 Gl:=by
 refine fK [0,1,4,5,6,11,12,13,16,19] Tryz.func138 Tryz.ntmps138 (AE yR AG) ?_;rintro w0 O0 ⟨a,b,u⟩ c - -;simp only[Gl,AM];repeat'(first|exact trivial|refine eS rfl ?_|refine AB ?_|refine rX c ?_ ?_|refine rC ?_ ?_<;>intro d<;>try(cases d;done))
 ·have e:Fg a b=-1:=BY d;exact fI c [.tmp 4] (by rw[e];exact eR)
 ·have e:Fg a b=1:=by unfold Fg;rw[At (by omega),BY d]
  exact fI c [.tmp 4] (by rw[e];exact eR)
 ·have e:Fg a b=0:=by unfold Fg;rw[At (by omega),At (by omega)]
  exact fI c [.tmp 4] (by rw[e];exact eR)
theorem Eo:Ah Tryz.prog 116 Co:=by
 refine fK [0,1,2,3,4] Tryz.func116 Tryz.ntmps116 (AE Gd AG) ?_;rintro w0 O0 ⟨a,b,u⟩ c - -;simp only[Co,AM];repeat'(first|exact trivial|refine eS rfl ?_|refine AB ?_|refine rX c ?_ ?_|refine rC ?_ ?_<;>intro d<;>try(cases d;done))
 exact fI c [.tmp 4]
def jT (l:List (Int×Int)):Prop:=∀i,i+1<l.length→(l.getD i (0,0)).1<(l.getD (i+1) (0,0)).1
end
def Ep (f:List AF):Nat→List Int→Int→List Int
 | 0,o,_=>o
 | k+1,o,n=>(f.getD n.toNat (0,[])).2.foldl (fun o a=>if a.2∈o then o else Ep f k o a.2) (o++[n])
def BE (f:List AF) (k:Nat) (o:List Int) (a:Int×Int):List Int:=if a.2∈o then o else Ep f k o a.2
theorem DJ (f:List AF) (k:Nat) (o:List Int) (n:Int):Ep f (k+1) o n=(f.getD n.toNat (0,[])).2.foldl (BE f k) (o++[n]):=rfl
structure Mi (f:List AF) (o:List Int):Prop where
 nd:o.Nodup
 rng:∀x∈o,0≤x∧x<(f.length:Int)
theorem Mi.len {f:List AF} {o:List Int} (h:Mi f o):o.length≤f.length:=by
 have h1:(o.map Int.toNat).Nodup:=by
  rw[List.Nodup,AAr];refine h.nd.imp_of_mem fun {a b} ha c g e=>g ?_;have:=h.rng a ha;have:=h.rng b c;omega
 have:=EE f.length (o.map Int.toNat) h1 (fun j d=>by
  obtain⟨x,i,rfl⟩:=If.1 d;have:=h.rng x i;omega)
 simpa using this
theorem Mi.snoc {f:List AF} {o:List Int} (h:Mi f o) {n:Int} (h0:0≤n) (h1:n<f.length) (hn:n∉o):Mi f (o++[n]):=by
 refine⟨?_,fun x c=>?_⟩
 ·rw[AAF];refine⟨h.nd,by simp,fun a ha b d=>?_⟩;have:b=n:=by simpa using d
  subst this;intro e;subst e;exact hn ha
 ·rcases ON.1 c with c|c
  ·exact h.rng x c
  ·have:x=n:=by simpa using c
   subst this;exact⟨h0,h1⟩
theorem Gm {f:List AF} {k:Nat} (e:∀(o:List Int) (n:Int),Mi f o→0≤n→n<f.length→n∉o→Mi f (Ep f k o n)∧o <+: Ep f k o n) :
  ∀(l:List (Int×Int)) (o:List Int),(∀a∈l,0≤a.2∧a.2<(f.length:Int))→Mi f o→Mi f (l.foldl (BE f k) o)∧o <+: l.foldl (BE f k) o
 | [],o,_,h=>⟨h,AAD _⟩
 | a :: l,o,c,h=>by
  simp only[TO];have d:Mi f (BE f k o a)∧o <+: BE f k o a:=by
   unfold BE;split
   ·exact⟨h,AAD _⟩
   ·rename_i hn;exact e o a.2 h (c a (by simp)).1 (c a (by simp)).2 hn
  obtain⟨g,i⟩:=Gm e l _ (fun b j=>c b (by simp[j])) d.1;exact⟨g,d.2.trans i⟩
theorem D9 {f:List AF} (hf:A2 f) {n:Int} {a:Int×Int} (ha:a∈(f.getD n.toNat (0,[])).2):0≤a.2∧a.2<f.length:=by
 by_cases h:n.toNat<f.length
 ·have b:f.getD n.toNat (0,[])∈f:=by
   rw[AS,AT h];exact AA7 h
  exact(hf.2 _ b).2 a ha
 ·rw[AS,gO (by omega)]at ha;simp at ha
theorem FF {f:List AF} (hf:A2 f):∀(k:Nat) (o:List Int) (n:Int),Mi f o→0≤n→n<f.length→n∉o→Mi f (Ep f k o n)∧o <+: Ep f k o n
 | 0,o,n,h,_,_,_=>⟨h,AAD _⟩
 | k+1,o,n,h,h0,h1,d=>by
  obtain⟨b,c⟩:=Gm (FF hf k) _ _ (fun a ha=>D9 hf ha) (h.snoc h0 h1 d);rw[DJ];exact⟨b,(ACl o [n]).trans c⟩
theorem Km {f:List AF} (hf:A2 f):∀(k:Nat) (o:List Int) (n:Int),Mi f o→0≤n→n<f.length→n∉o→f.length-o.length≤k →
  n∈Ep f k o n∧∀x∈Ep f k o n,x∈o∨∀a∈(f.getD x.toNat (0,[])).2,a.2∈Ep f k o n
 | 0,o,n,h,h0,h1,m,hk=>by
  have:=(h.snoc h0 h1 m).len;simp only[OR,iF]at this;omega
 | k+1,o,n,h,h0,h1,m,hk=>by
  have key:∀(l:List (Int×Int)) (t:List Int),(∀a∈l,0≤a.2∧a.2<(f.length:Int))→Mi f t→f.length-t.length≤k →
    (∀a∈l,a.2∈l.foldl (BE f k) t)∧∀x∈l.foldl (BE f k) t,x∈t∨∀a∈(f.getD x.toNat (0,[])).2,a.2∈l.foldl (BE f k) t:=by
   intro l;induction l with
   | nil=>exact fun t _ _ _=>⟨fun a ha=>(by cases ha),fun x c=>.inl c⟩
   | cons a l z =>
    intro t p r u;simp only[TO];have v:Mi f (BE f k t a)∧t <+: BE f k t a∧a.2∈BE f k t a∧∀x∈BE f k t a,x∈t∨∀b∈(f.getD x.toNat (0,[])).2,b.2∈BE f k t a:=by
     unfold BE;split
     ·rename_i hn;exact⟨r,AAD _,hn,fun x c=>.inl c⟩
     ·rename_i hn;have q:=p a (by simp);obtain⟨e,g⟩:=FF hf k t a.2 r q.1 q.2 hn;obtain⟨i,j⟩:=Km hf k t a.2 r q.1 q.2 hn u;exact⟨e,g,i,j⟩
    obtain⟨e,g,i,j⟩:=v;have A:=g.length_le;obtain⟨w,y⟩:=z (BE f k t a) (fun b d=>p b (by simp[d])) e (by omega);obtain⟨_,s⟩:=Gm (FF hf k) l (BE f k t a) (fun b d=>p b (by simp[d])) e;refine⟨fun b d=>?_,fun x c=>?_⟩
    ·rcases GO.1 d with rfl|d
     ·exact s.subset i
     ·exact w b d
    ·rcases y x c with c|c
     ·rcases j x c with c|c
      ·exact .inl c
      ·exact .inr fun b d=>s.subset (c b d)
     ·exact .inr c
  have hs:=h.snoc h0 h1 m;obtain⟨e,g⟩:=key (f.getD n.toNat (0,[])).2 (o++[n]) (fun a ha=>D9 hf ha) hs (by simp only[OR,iF];omega);obtain⟨_,i⟩:=Gm (FF hf k) (f.getD n.toNat (0,[])).2 (o++[n]) (fun a ha=>D9 hf ha) hs;rw[DJ];refine⟨i.subset (by simp),fun x c=>?_⟩;rcases g x c with c|c
  ·rcases ON.1 c with c|c
   ·exact .inl c
   ·have:x=n:=by simpa using c
    subst this;exact .inr e
  ·exact .inr c
def IG (o:List Int) (x:Int):Int:=if x∈o then (o.idxOf x:Int) else 0
def L2 (o:List Int) (a:Int×Int):Int×Int:=(a.1,IG o a.2)
def LN (f:List AF) (o:List Int) (n:Int):AF:=((f.getD n.toNat (0,[])).1,(f.getD n.toNat (0,[])).2.map (L2 o))
def AU (f:List AF) (root:Int):List AF:=(Ep f f.length [] root).map (LN f (Ep f f.length [] root))
def M7 (f:List AF):Prop:=∀x∈f,jT x.2∧x.2.length≤200
theorem jU {f:List AF} (hf:M7 f) (n:Int):jT (f.getD n.toNat (0,[])).2∧(f.getD n.toNat (0,[])).2.length≤200:=by
 by_cases h:n.toNat<f.length
 ·have a:f.getD n.toNat (0,[])∈f:=by
   rw[AS,AT h];exact AA7 h
  exact hf _ a
 ·rw[AS,gO (by omega)];exact⟨fun i hi=>by simp at hi,by simp⟩
theorem I5 {l:List (Int×Int)} (h:jT l):AR l=l:=by
 have key:∀i,i≤l.length→AR (l.take i)=l.take i:=by
  intro i;induction i with
  | zero=>intro _;rfl
  | succ i d =>
   intro hi;rw[Ab l (0,0) (by omega),Hd,d (by omega)];have b:(l.take i).length=i:=by rw[SH];omega
   have c:IE (l.getD i (0,0)) (l.take i) (l.take i).length=(l.take i).length:=by
    rw[b];cases i with
    | zero=>rfl
    | succ i =>
     have h1:=h i (by omega);have a:(l.take (i+1)).getD i (0,0)=l.getD i (0,0):=by
      simp only[AS];rw[AA0];simp
     simp only[IE];rw[a,At (by omega)]
   unfold Nr;rw[c,f5,ABl,AAa]
 have:=key l.length (NO _)
 rwa [f5]at this
structure LO (f:List AF) (num o:List Int):Prop where
 len:num.length=f.length
 get:∀j,j<f.length→num.getD j 0=if (j:Int)∈o then (o.idxOf (j:Int):Int) else -1
theorem LO.neg {f:List AF} {num o:List Int} (h:LO f num o) {n:Int} (h0:0≤n) (h1:n<f.length):num.getD n.toNat 0<0↔n∉o:=by
 have:=h.get n.toNat (by omega);rw[show ((n.toNat:Nat):Int)=n by omega]at this;rw[this];split
 ·rename_i a;constructor
  ·intro e;omega
  ·intro e;exact absurd a e
 ·rename_i a;exact⟨fun _=>a,fun _=>by omega⟩
theorem Wh {o:List Int} {x n:Int} (h:x∈o):(o++[n]).idxOf x=o.idxOf x:=by rw[List.idxOf_append,BY h]
theorem Wi {o:List Int} {n:Int} (h:n∉o):(o++[n]).idxOf n=o.length:=by rw[List.idxOf_append,At h];simp
theorem LO.snoc {f:List AF} {num o:List Int} (h:LO f num o) {n:Int} (h0:0≤n) (h1:n<f.length) (hn:n∉o):LO f (num.set n.toNat (o.length:Int)) (o++[n]):=by
 refine⟨by simpa using h.len,fun j b=>?_⟩;have d:j<num.length:=by rw[h.len];exact b
 by_cases e:j=n.toNat
 ·subst e;have en:((n.toNat:Nat):Int)=n:=by omega
  rw[en];simp only[AS];rw[ABQ d,BY (by simp),Wi hn];simp
 ·have en:¬(j:Int)=n:=by omega
  simp only[AS];rw[List.getElem?_set_ne (fun c=>e c.symm)];have:=h.get j b;simp only[AS]at this;rw[this];by_cases a:(j:Int)∈o
  ·rw[BY a,BY (by simp[a]),Wh a]
  ·rw[At a,At (by simp[a,en])]
theorem Tk {f:List AF} (hf:A2 f) (hs:M7 f):∀(k:Nat) (s:List Int×List Int) (n:Int),LO f s.1 s.2→Mi f s.2→0≤n→n<f.length→n∉s.2→(DT f k s n).2=Ep f k s.2 n∧LO f (DT f k s n).1 (DT f k s n).2
 | 0,s,n,h,_,_,_,_=>⟨rfl,h⟩
 | k+1,s,n,h,w,h0,h1,m=>by
  have key:∀(l:List (Int×Int)) (t:List Int×List Int),(∀a∈l,0≤a.2∧a.2<(f.length:Int))→LO f t.1 t.2→Mi f t.2→(l.foldl (D8 f k) t).2=l.foldl (BE f k) t.2∧LO f (l.foldl (D8 f k) t).1 (l.foldl (D8 f k) t).2:=by
   intro l;induction l with
   | nil=>exact fun t _ d _=>⟨rfl,d⟩
   | cons a l z =>
    intro t o d j;simp only[TO];have q:=o a (by simp);have p:=d.neg q.1 q.2;have x:(D8 f k t a).2=BE f k t.2 a∧LO f (D8 f k t a).1 (D8 f k t a).2∧Mi f (D8 f k t a).2:=by
     unfold D8 BE;by_cases c:a.2∈t.2
     ·rw[BY c,At (by rw[p];exact fun e=>e c)];exact⟨rfl,d,j⟩
     ·rw[At c,BY (by rw[p];exact c)];obtain⟨g,i⟩:=Tk hf hs k t a.2 d j q.1 q.2 c;exact⟨g,i,by rw[g];exact(FF hf k t.2 a.2 j q.1 q.2 c).1⟩
    obtain⟨g,i,u⟩:=x;obtain⟨r,y⟩:=z (D8 f k t a) (fun b v=>o b (by simp[v])) i u;rw[g]at r;exact⟨r,y⟩
  rw[Di,DJ,I5 (jU hs n).1];exact key _ (s.1.set n.toNat (s.2.length:Int),s.2++[n]) (fun a ha=>D9 hf ha) (h.snoc h0 h1 m) (w.snoc h0 h1 m)
theorem Ef {f:List AF} (hf:A2 f) (hs:M7 f) {root:Int} (h0:0≤root) (h1:root<f.length):ET f root=AU f root:=by
 have l:LO f (List.replicate f.length (-1)) []:=⟨by simp,fun j k=>by simp[AS,AAB,k]⟩;have d:Mi f []:=⟨by simp,fun x e=>by cases e⟩;obtain⟨c,b⟩:=Tk hf hs f.length (List.replicate f.length (-1),[]) root l d h0 h1 (by simp);have c:(Fs f root).2=Ep f f.length [] root:=c;have b:LO f (Fs f root).1 (Fs f root).2:=b;have i:=(Km hf f.length [] root d h0 h1 (by simp) (by simp)).2;have m:=(FF hf f.length [] root d h0 h1 (by simp)).1;unfold ET AU;rw[c]at b ⊢;generalize Ep f f.length [] root=o at *;refine AAw fun x e=>?_;unfold LM LN;rw[I5 (jU hs x).1];refine AAX _ (AAw fun a ha=>?_);unfold Vk L2 IG;have h:a.2∈o:=by
  rcases i x e with g|g
  ·cases g
  ·exact g a ha
 have hr:=D9 hf ha;have:=b.get a.2.toNat (by omega);rw[show ((a.2.toNat:Nat):Int)=a.2 by omega]at this;rw[this,BY h,BY h]
def tS (o:List Int):List (Int×Int):=(List.range o.length).map fun i=>(o.getD i 0,(i:Int))
theorem d8 (o:List Int) (n:Int):tS (o++[n])=tS o++[(n,(o.length:Int))]:=by
 unfold tS;rw[OR,iF,AAc,AAx]
 congr 1
 ·refine AAw fun i hi=>?_;have:i<o.length:=iS.1 hi;simp only[AS];rw[oS this]
 ·simp[AS]
theorem qT (k:Int) (a b:List (Int×Int)):A5 T3 T3 k (a++b)=(A5 T3 T3 k a).or (A5 T3 T3 k b):=by
 induction a with
 | nil=>rfl
 | cons x a c =>
  simp only[AB3,A5];split
  ·rfl
  ·exact c
theorem Ge {α:Type} {p:List α→Prop} (h0:p []) (h1:∀l a,p l→p (l++[a])) (l:List α):p l:=by
 have:∀n (l:List α),l.length=n→p l:=by
  intro n;induction n with
  | zero=>intro l b;rw[List.length_eq_zero_iff.1 b];exact h0
  | succ n d =>
   intro l b;have c:l≠[]:=by intro e;subst e;simp at b
   rw[←List.dropLast_concat_getLast c];exact h1 _ _ (d _ (by simp[b]))
 exact this _ l rfl
theorem Qc (o:List Int) (x:Int):A5 T3 T3 x (tS o)=if x∈o then some (o.idxOf x:Int) else none:=by
 induction o using Ge with
 | h0=>rfl
 | h1 o n b =>
  rw[d8,qT,b];by_cases a:x∈o
  ·rw[BY a,BY (by simp[a]),Wh a];rfl
  ·rw[At a];by_cases hn:x=n
   ·subst hn;rw[BY (by simp),Wi a];simp[A5,JH]
   ·rw[At (by simp[a,hn])];have:((x==n)=true)↔False:=by simp[hn]
    simp[A5,JH,hn]
theorem qU (k v:Int) (l:List (Int×Int)) (h:A5 T3 T3 k l=none):Ho T3 T3 k v l=l++[(k,v)]:=by
 induction l with
 | nil=>rfl
 | cons x l b =>
  simp only[A5]at h;simp only[Ho,AB3];split at h
  ·cases h
  ·rename_i a;rw[At a,b h]
theorem yS {o:List Int} {n:Int} (hn:n∉o):Ho T3 T3 n (o.length:Int) (tS o)=tS (o++[n]):=by
 rw[qU _ _ _ (by rw[Qc,At hn]),d8]
theorem A1O (o:List Int) (x:Int):(A5 T3 T3 x (tS o)).getD 0=IG o x:=by
 rw[Qc];unfold IG;split<;>rfl
theorem Tl (o:List Int) (x:Int):(A5 T3 T3 x (tS o)).isSome=decide (x∈o):=by
 rw[Qc];split<;>simp[*]
section
variable {α:Type}
structure SO (o:α→α→Int):Prop where
 anti:∀a b,o b a=- o a b
 trans:∀ {a b c},o a b<0→o b c<0→o a c<0
variable {o:α→α→Int} {d:α}
def CP (d:α) (l:List α) (i j:Nat):List α:=(l.set i (l.getD j d)).set j (l.getD i d)
theorem II {l:List α} {i j:Nat} (hi:i<l.length) (c:j<l.length) (k:Nat):(CP d l i j).getD k d=if k=j then l.getD i d else if k=i then l.getD j d else l.getD k d:=by
 unfold CP;simp only[AS,AAs,AAd];by_cases a:j=k
 ·rw[BY a,BY (by omega),BY a.symm];rfl
 ·rw[At a,At (show ¬k=j by omega)];by_cases b:i=k
  ·rw[BY b,BY (by omega),BY b.symm];rfl
  ·rw[At b,At (show ¬k=i by omega)]
theorem qV {l:List α} {i j:Nat} (hi:i<l.length) (a:j<l.length):(CP d l i j).Perm l:=by
 have b:l.getD i d=l[i]:=by rw[AS,AT hi];rfl
 have c:l.getD j d=l[j]:=by rw[AS,AT a];rfl
 unfold CP;rw[b,c];exact List.set_set_perm hi a
structure Dv (d:α) (a b:Nat) (l r:List α):Prop where
 perm:r.Perm l
 out:∀k,k<a∨b≤k→r.getD k d=l.getD k d
 inn:∀i,a≤i→i<b→∃j,a≤j∧j<b∧r.getD i d=l.getD j d
theorem Dv.len {a b:Nat} {l r:List α} (h:Dv d a b l r):r.length=l.length:=h.perm.length_eq
theorem Dv.refl (a b:Nat) (l:List α):Dv d a b l l:=⟨List.Perm.refl _,fun _ _=>rfl,fun i h1 c=>⟨i,h1,c,rfl⟩⟩
theorem Dv.trans {a b:Nat} {l r s:List α} (h:Dv d a b l r) (c:Dv d a b r s):Dv d a b l s:=⟨c.perm.trans h.perm,fun k hk=>(c.out k hk).trans (h.out k hk),fun i h1 g=>by
 obtain⟨j,m,n,e⟩:=c.inn i h1 g;obtain⟨k,o,p,f⟩:=h.inn j m n;exact⟨k,o,p,e.trans f⟩⟩
theorem Dv.mono {a b c b':Nat} {l r:List α} (h:Dv d a b l r) (ha:c≤a) (g:b≤b'):Dv d c b' l r:=⟨h.perm,fun k hk=>h.out k (by omega),fun i h1 f=>by
 by_cases hi:a≤i∧i<b
 ·obtain⟨j,m,n,e⟩:=h.inn i hi.1 hi.2;exact⟨j,by omega,by omega,e⟩
 ·exact⟨i,h1,f,h.out i (by omega)⟩⟩
theorem Dv.swap {a b:Nat} (l:List α) {i j:Nat} (g:a≤i) (h:i<b) (m:a≤j) (n:j<b) (q:b≤l.length):Dv d a b l (CP d l i j):=by
 have f:=II (d:=d) (l:=l) (i:=i) (j:=j) (by omega) (by omega);refine⟨qV (by omega) (by omega),fun k hk=>?_,fun k o p=>?_⟩
 ·rw[f k,At (by omega),At (by omega)]
 ·rw[f k];by_cases c:k=j
  ·rw[BY c];exact⟨i,g,h,rfl⟩
  ·rw[At c];by_cases e:k=i
   ·rw[BY e];exact⟨j,m,n,rfl⟩
   ·rw[At e];exact⟨k,o,p,rfl⟩
def iK (o:α→α→Int) (d:α) (l:List α):Prop:=∀i j,i<l.length→j<l.length→i≠j→o (l.getD i d) (l.getD j d)≠0
theorem nP (g:SO o) (l:List α):iK o d l↔l.Pairwise fun a b=>o a b≠0:=by
 have e:∀i (h:i<l.length),l.getD i d=l[i]:=fun i h=>by rw[AS,AT h];rfl
 rw[oR];constructor
 ·intro h i j hi c f;have:=h i j hi c (by omega)
  rwa [e i hi,e j c]at this
 ·intro h i j hi c f;rw[e i hi,e j c];rcases Nat.lt_or_gt_of_ne f with h1|h1
  ·exact h i j hi c h1
  ·have k:=h j i c hi h1;rw[g.anti];omega
theorem iK.perm (c:SO o) {l r:List α} (h:iK o d l) (hp:r.Perm l):iK o d r:=by
 rw[nP c]at h ⊢;refine(hp.symm.pairwise_iff ?_).1 h;intro a b e;rw[c.anti];omega
theorem iK.lt (c:SO o) {l:List α} (h:iK o d l) {i j:Nat} (hi:i<l.length) (b:j<l.length) (a:i≠j) (hn:¬o (l.getD i d) (l.getD j d)<0):o (l.getD j d) (l.getD i d)<0:=by
 have h1:=h i j hi b a;rw[c.anti];omega
def Qd (o:α→α→Int) (d:α) (a b:Nat) (l:List α):Prop:=∀i j,a≤i→i<j→j<b→o (l.getD i d) (l.getD j d)<0
theorem YD (a:Nat) (l:List α):Qd o d a (a+1) l:=fun i j h1 b c=>by omega
theorem yT (g:SO o) {a b:Nat} {l:List α} (h:Qd o d a b l) (m:a<b) (c:o (l.getD (b-1) d) (l.getD b d)<0):Qd o d a (b+1) l:=by
 intro i j h1 e k;by_cases f:j=b
 ·subst f;by_cases hi:i=j-1
  ·rw[hi];exact c
  ·exact g.trans (h i (j-1) h1 (by omega) (by omega)) c
 ·exact h i j h1 e (by omega)
theorem Mj {a b:Nat} {l r:List α} (h:Qd o d a b l) (e:∀k,a≤k→k<b→r.getD k d=l.getD k d):Qd o d a b r:=fun i j h1 f c=>by
 rw[e i h1 (by omega),e j (by omega) c];exact h i j h1 f c
def jV (o:α→α→Int) (d:α) (a i j:Nat) (m:List α):Prop:=(∀x y,a≤x→x<y→y≤i→x≠j→y≠j→o (m.getD x d) (m.getD y d)<0)∧∀y,j<y→y≤i→o (m.getD j d) (m.getD y d)<0
theorem jW {a i:Nat} {m:List α} (h:Qd o d a i m):jV o d a i i m:=⟨fun x y h0 h1 b c e=>h x y h0 h1 (by omega),fun y h1 b=>by omega⟩
theorem Tm (g:SO o) {a i j:Nat} {m:List α} (h:jV o d a i j m) (l:a≤j) (n:j≤i) (b:j=a∨o (m.getD (j-1) d) (m.getD j d)<0):Qd o d a (i+1) m:=by
 intro x y h0 h1 k;by_cases c:x=j
 ·subst c;exact h.2 y h1 (by omega)
 ·by_cases e:y=j
  ·subst e;rcases b with b|b
   ·omega
   ·by_cases f:x=y-1
    ·subst f;exact b
    ·exact g.trans (h.1 x (y-1) h0 (by omega) (by omega) c (by omega)) b
  ·exact h.1 x y h0 h1 (by omega) c e
theorem Wj {a i j:Nat} {m:List α} (h:jV o d a i j m) (h0:a<j) (q:j≤i) (hi:i<m.length) (p:o (m.getD j d) (m.getD (j-1) d)<0):jV o d a i (j-1) (CP d m j (j-1)):=by
 have f:=II (d:=d) (l:=m) (i:=j) (j:=j-1) (by omega) (by omega);refine⟨fun x y g h1 e k n=>?_,fun y h1 e=>?_⟩
 ·rw[f x,f y,At k,At n];by_cases c:x=j
  ·subst c;rw[BY rfl,At (by omega)];exact h.1 (x-1) y (by omega) (by omega) e (by omega) (by omega)
  ·rw[At c];by_cases b:y=j
   ·rw[BY b];exact h.1 x (j-1) g (by omega) (by omega) c (by omega)
   ·rw[At b];exact h.1 x y g h1 e c b
 ·rw[f (j-1),f y,BY rfl,At (by omega)];by_cases b:y=j
  ·rw[BY b];exact p
  ·rw[At b];exact h.2 y (by omega) e
def Hp (o:α→α→Int) (d:α) (f hi lo:Nat) (m:List α):Prop:=∀k c,lo≤k→(c=2*k+1∨c=2*k+2)→c<hi→o (m.getD (f+c) d) (m.getD (f+k) d)<0
structure HpX (o:α→α→Int) (d:α) (f hi lo root:Nat) (m:List α):Prop where
 le:lo≤root
 hp:∀k c,lo≤k→k≠root→(c=2*k+1∨c=2*k+2)→c<hi→o (m.getD (f+c) d) (m.getD (f+k) d)<0
 up:∀p c,lo≤p→(root=2*p+1∨root=2*p+2)→(c=2*root+1∨c=2*root+2)→c<hi→o (m.getD (f+c) d) (m.getD (f+p) d)<0
theorem qW {f hi lo:Nat} {m:List α} (h:Hp o d f hi (lo+1) m):HpX o d f hi lo lo m:=⟨NO _,fun k c h1 a b e=>h k c (by omega) b e,fun p c h1 a=>by omega⟩
theorem yU {f hi lo root:Nat} {m:List α} (h:HpX o d f hi lo root m) (e:hi≤2*root+1):Hp o d f hi lo m:=fun k c h1 a b=>h.hp k c h1 (by omega) a b
theorem d9 (i:SO o) {f hi lo root ch:Nat} {m:List α} (h:HpX o d f hi lo root m) (j:ch=2*root+1∨ch=2*root+2) (g:o (m.getD (f+ch) d) (m.getD (f+root) d)<0)
  (hs:∀c,(c=2*root+1∨c=2*root+2)→c<hi→c≠ch→o (m.getD (f+c) d) (m.getD (f+ch) d)<0):Hp o d f hi lo m:=fun k c h1 a b=>by
 by_cases hk:k=root
 ·subst hk;by_cases e:c=ch
  ·rw[e];exact g
  ·exact i.trans (hs c a b e) g
 ·exact h.hp k c h1 hk a b
theorem eA {f hi lo root ch:Nat} {m:List α} (h:HpX o d f hi lo root m) (r:ch<hi) (hf:f+hi≤m.length) (n:ch=2*root+1∨ch=2*root+2) (t:o (m.getD (f+root) d) (m.getD (f+ch) d)<0)
  (hs:∀c,(c=2*root+1∨c=2*root+2)→c<hi→c≠ch→o (m.getD (f+c) d) (m.getD (f+ch) d)<0):HpX o d f hi lo ch (CP d m (f+root) (f+ch)):=by
 have e:=II (d:=d) (l:=m) (i:=f+root) (j:=f+ch) (by omega) (by omega);have u:=h.le;refine⟨by omega,fun k c h1 g a b=>?_,fun p c h1 g a b=>?_⟩
 ·rw[e,e];by_cases hk:k=root
  ·subst hk;rw[At (show ¬f+k=f+ch by omega),BY rfl];by_cases q:c=ch
   ·rw[BY (by omega)];exact t
   ·rw[At (by omega),At (by omega)];exact hs c a b q
  ·rw[At (show ¬f+k=f+ch by omega),At (show ¬f+k=f+root by omega)];by_cases s:c=root
   ·subst s;rw[At (by omega),BY rfl];exact h.up k ch h1 a n r
   ·rw[At (by omega),At (by omega)];exact h.hp k c h1 hk a b
 ·have hp:p=root:=by omega
  subst hp;rw[e,e,At (by omega),At (by omega),At (by omega),BY rfl];exact h.hp ch c (by omega) (by omega) a b
theorem eB (b:SO o) {f hi:Nat} {m:List α} (h:Hp o d f hi 0 m):∀(n k:Nat),k≤n→0<k→k<hi→o (m.getD (f+k) d) (m.getD f d)<0
 | 0,k,h1,c,_=>by omega
 | n+1,k,h1,c,e=>by
  have a:=h ((k-1) / 2) k (by omega) (by omega) e;by_cases g:(k-1) / 2=0
  ·rw[g]at a;exact a
  ·exact b.trans a (eB b h n ((k-1) / 2) (by omega) (by omega) (by omega))
structure qX (o:α→α→Int) (d:α) (f n i:Nat) (m:List α):Prop where
 heap:Hp o d f i 0 m
 srt:Qd o d (f+i) (f+n) m
 big:∀x y,x<i→i≤y→y<n→o (m.getD (f+x) d) (m.getD (f+y) d)<0
theorem jX {f n:Nat} {m:List α} (h:Hp o d f n 0 m):qX o d f n n m:=⟨h,fun i j h1 a b=>by omega,fun x y h1 a b=>by omega⟩
theorem qY (t:SO o) {f n i:Nat} {m:List α} (h:qX o d f n (i+1) m) (hi:i<n) (v:f+n≤m.length) :
  HpX o d f i 0 0 (CP d m f (f+i))∧Qd o d (f+i) (f+n) (CP d m f (f+i))∧∀x y,x<i→i≤y→y<n→o ((CP d m f (f+i)).getD (f+x) d) ((CP d m f (f+i)).getD (f+y) d)<0:=by
 have a:=II (d:=d) (l:=m) (i:=f) (j:=f+i) (by omega) (by omega);have q:=eB t h.heap i;refine⟨⟨NO _,fun k c h1 e b u=>?_,fun p c h1 e=>by omega⟩,fun x y h1 e b=>?_,fun x y h1 e b=>?_⟩
 ·rw[a,a,At (by omega),At (by omega),At (by omega),At (by omega)];exact h.heap k c h1 b (by omega)
 ·rw[a,a,At (show ¬y=f+i by omega),At (show ¬y=f by omega)];by_cases g:x=f+i
  ·rw[BY g];have:=h.big 0 (y-f) (by omega) (by omega) (by omega)
   rwa [show f+0=f by omega,show f+(y-f)=y by omega]at this
  ·rw[At g,At (by omega)];exact h.srt x y (by omega) e b
 ·have key:∀z,z<i+1→i+1≤y→o (m.getD (f+z) d) (m.getD (f+y) d)<0:=fun z s r=>h.big z y s r b;rw[a,a,At (show ¬f+x=f+i by omega)];by_cases r:y=i
  ·rw[BY (show f+y=f+i by omega)];by_cases g:x=0
   ·rw[BY (show f+x=f by omega)];exact q i (by omega) (by omega) (by omega)
   ·rw[At (show ¬f+x=f by omega)];exact q x (by omega) (by omega) (by omega)
  ·rw[At (show ¬f+y=f+i by omega),At (show ¬f+y=f by omega)];by_cases g:x=0
   ·rw[BY (show f+x=f by omega)];exact key i (by omega) (by omega)
   ·rw[At (show ¬f+x=f by omega)];exact key x (by omega) (by omega)
theorem qZ {f n i:Nat} {m r:List α} (hp:Dv d f (f+i) m r) (hh:Hp o d f i 0 r) (hs:Qd o d (f+i) (f+n) m) (c:∀x y,x<i→i≤y→y<n→o (m.getD (f+x) d) (m.getD (f+y) d)<0):qX o d f n i r :=
 ⟨hh,Mj hs fun k h1 a=>hp.out k (by omega),fun x y h1 a b=>by
  rw[hp.out (f+y) (by omega)];obtain⟨j,g,h,e⟩:=hp.inn (f+x) (by omega) (by omega);rw[e];have:=c (j-f) y (by omega) a b
  rwa [show f+(j-f)=j by omega]at this⟩
theorem yV {f n:Nat} {m:List α} (h:qX o d f n 0 m):Qd o d f (f+n) m:=h.srt
structure PtI (o:α→α→Int) (d:α) (a b i j:Nat) (m:List α):Prop where
 lo:∀x,a<x→x<i→o (m.getD x d) (m.getD a d)<0
 hi:∀x,j<x→x<b→o (m.getD a d) (m.getD x d)<0
theorem eC {a b i j:Nat} {m:List α} (h:PtI o d a b i j m) (n:a<i) (q:i<j) (r:j<b) (p:b≤m.length) (h1:o (m.getD a d) (m.getD i d)<0) (k:o (m.getD j d) (m.getD a d)<0):PtI o d a b (i+1) (j-1) (CP d m i j):=by
 have c:=II (d:=d) (l:=m) (i:=i) (j:=j) (by omega) (by omega);refine⟨fun x f g=>?_,fun x f g=>?_⟩
 ·rw[c x,c a,At (show ¬x=j by omega),At (show ¬a=j by omega),At (show ¬a=i by omega)];by_cases e:x=i
  ·rw[BY e];exact k
  ·rw[At e];exact h.lo x f (by omega)
 ·rw[c x,c a,At (show ¬a=j by omega),At (show ¬a=i by omega)];by_cases e:x=j
  ·rw[BY e];exact h1
  ·rw[At e,At (by omega)];exact h.hi x (by omega) g
structure tT (o:α→α→Int) (d:α) (a b p:Nat) (m:List α):Prop where
 l:a≤p
 r:p<b
 lo:∀x,a≤x→x<p→o (m.getD x d) (m.getD p d)<0
 hi:∀x,p<x→x<b→o (m.getD p d) (m.getD x d)<0
theorem nQ {a b j:Nat} {m:List α} (h:PtI o d a b (j+1) j m) (g:a≤j) (k:j<b) (p:b≤m.length):tT o d a b j (CP d m j a):=by
 have c:=II (d:=d) (l:=m) (i:=j) (j:=a) (by omega) (by omega);refine⟨g,k,fun x n f=>?_,fun x n f=>?_⟩
 ·rw[c x,c j,At (show ¬j=a by omega),BY rfl];by_cases e:x=a
  ·rw[BY e];exact h.lo j (by omega) (by omega)
  ·rw[At e,At (by omega)];exact h.lo x (by omega) (by omega)
 ·rw[c x,c j,At (show ¬x=a by omega),At (show ¬x=j by omega)];by_cases e:j=a
  ·rw[BY e];rw[e];exact h.hi x (by omega) f
  ·rw[At e,BY rfl];exact h.hi x (by omega) f
structure q9 (o:α→α→Int) (d:α) (a0 b0 a b:Nat) (m:List α):Prop where
 s1:Qd o d a0 a m
 s2:Qd o d b b0 m
 c1:∀x y,a0≤x→x<a→a≤y→y<b0→o (m.getD x d) (m.getD y d)<0
 c2:∀x y,a0≤x→x<b→b≤y→y<b0→o (m.getD x d) (m.getD y d)<0
 ab:a0≤a∧a≤b∧b≤b0
theorem rA {a b:Nat} (g:a≤b) (m:List α):q9 o d a b a b m:=⟨fun i j h1 c e=>by omega,fun i j h1 c e=>by omega,fun x y h1 c=>by omega,fun x y h1 c e f=>by omega,by omega⟩
theorem q9.pin {a0 l a b:Nat} {m r:List α} (h:q9 o d a0 l a b m) (hp:Dv d a b m r):q9 o d a0 l a b r:=by
 obtain⟨v,A,w⟩:=h.ab;have key:∀(P:α→Prop) (lo hi:Nat),lo≤a→b≤hi→(∀y,lo≤y→y<hi→P (m.getD y d))→∀y,lo≤y→y<hi→P (r.getD y d):=fun P lo hi h1 n p y c f=>by
  obtain⟨j,q,s,e⟩:=(hp.mono h1 n).inn y c f;rw[e];exact p j q s
 refine⟨Mj h.s1 fun k t u=>hp.out k (by omega),Mj h.s2 fun k t u=>hp.out k (by omega),fun x y g i c f=>?_,fun x y g i c f=>?_,h.ab⟩
 ·rw[hp.out x (by omega)];exact key (fun z=>o (m.getD x d) z<0) a l (NO _) w (fun y c f=>h.c1 x y g i c f) y c f
 ·rw[hp.out y (by omega)];exact key (fun z=>o z (m.getD y d)<0) a0 b v (NO _) (fun x g i=>h.c2 x y g i c f) x g i
theorem q9.done {a0 g a b:Nat} {m:List α} (h:q9 o d a0 g a b m) (hs:Qd o d a b m):Qd o d a0 g m:=by
 obtain⟨l,n,p⟩:=h.ab;intro i j h1 c e;by_cases hi:i<a
 ·by_cases f:j<a
  ·exact h.s1 i j h1 c f
  ·exact h.c1 i j h1 hi (by omega) e
 ·by_cases f:j<b
  ·exact hs i j (by omega) c f
  ·by_cases k:i<b
   ·exact h.c2 i j h1 k (by omega) e
   ·exact h.s2 i j (by omega) c e
theorem q9.left (t:SO o) {a0 e a b p:Nat} {m:List α} (h:q9 o d a0 e a b m) (hp:tT o d a b p m) (hs:Qd o d a p m):q9 o d a0 e (p+1) b m:=by
 obtain⟨w,z,A⟩:=h.ab;have v:=hp.l;have hr:=hp.r;refine⟨fun i j h1 f u=>?_,h.s2,fun x y k B C n=>?_,h.c2,by omega⟩
 ·by_cases hi:i<a
  ·by_cases c:j<a
   ·exact h.s1 i j h1 f c
   ·exact h.c1 i j h1 hi (by omega) (by omega)
  ·by_cases c:j=p
   ·rw[c];exact hp.lo i (by omega) (by omega)
   ·exact hs i j (by omega) f (by omega)
 ·by_cases q:x<a
  ·exact h.c1 x y k q (by omega) n
  ·by_cases g:y<b
   ·by_cases s:x=p
    ·rw[s];exact hp.hi y (by omega) g
    ·exact t.trans (hp.lo x (by omega) (by omega)) (hp.hi y (by omega) g)
   ·exact h.c2 x y k (by omega) (by omega) n
theorem q9.right (w:SO o) {a0 g a b p:Nat} {m:List α} (h:q9 o d a0 g a b m) (hp:tT o d a b p m) (hs:Qd o d (p+1) b m):q9 o d a0 g a p m:=by
 obtain⟨A,B,C⟩:=h.ab;have z:=hp.l;have hr:=hp.r;refine⟨h.s1,fun i j h1 k n=>?_,fun x y c e s f=>h.c1 x y c e s f,fun x y c e s f=>?_,by omega⟩
 ·by_cases q:j<b
  ·by_cases hi:i=p
   ·rw[hi];exact hp.hi j (by omega) q
   ·exact hs i j (by omega) k q
  ·by_cases t:i<b
   ·exact h.c2 i j (by omega) t (by omega) n
   ·exact h.s2 i j (by omega) k n
 ·by_cases v:y<b
  ·by_cases u:x<a
   ·exact h.c1 x y c u (by omega) f
   ·by_cases hyp:y=p
    ·rw[hyp];exact hp.lo x (by omega) e
    ·exact w.trans (hp.lo x (by omega) e) (hp.hi y (by omega) v)
  ·exact h.c2 x y c (by omega) (by omega) f
theorem tT.pinL {a b p:Nat} {m r:List α} (h:tT o d a b p m) (hp:Dv d a p m r):tT o d a b p r:=by
 have g:=h.l;have hr:=h.r;refine⟨g,hr,fun x c f=>?_,fun x c f=>?_⟩
 ·rw[hp.out p (by omega)];obtain⟨j,i,k,e⟩:=hp.inn x c f;rw[e];exact h.lo j i k
 ·rw[hp.out p (by omega),hp.out x (by omega)];exact h.hi x c f
theorem tT.pinR {a b p:Nat} {m r:List α} (h:tT o d a b p m) (hp:Dv d (p+1) b m r):tT o d a b p r:=by
 have g:=h.l;have hr:=h.r;refine⟨g,hr,fun x f c=>?_,fun x f c=>?_⟩
 ·rw[hp.out p (by omega),hp.out x (by omega)];exact h.lo x f c
 ·rw[hp.out p (by omega)];obtain⟨j,k,i,e⟩:=hp.inn x (by omega) c;rw[e];exact h.hi j (by omega) i
def Bf (o:α→α→Int) (d:α) (a b:Nat) (m:List α):Prop:=a=0∨∀y,a≤y→y<b→o (m.getD (a-1) d) (m.getD y d)<0
theorem Bf.pin {a b:Nat} {m r:List α} (h:Bf o d a b m) (hp:Dv d a b m r):Bf o d a b r:=by
 rcases h with h|h
 ·exact .inl h
 ·by_cases h0:a=0
  ·exact .inl h0
  ·right;intro y g i;rw[hp.out (a-1) (by omega)];obtain⟨j,c,f,e⟩:=hp.inn y g i;rw[e];exact h j c f
theorem Bf.sub {a b b':Nat} {m:List α} (h:Bf o d a b m) (e:b'≤b):Bf o d a b' m:=h.imp id fun h y c f=>h y c (by omega)
theorem tT.bf {a b p:Nat} {m:List α} (h:tT o d a b p m):Bf o d (p+1) b m:=.inr fun y e c=>by
 rw[show p+1-1=p by omega];exact h.hi y (by omega) c
end
section
attribute [local go_sem] Co
def CA (a b:Int×Int):Int:=Fg a.1 b.1
theorem CF:SO CA:=⟨fun a b=>by unfold CA Fg;(repeat' split)<;>omega,fun {a b c} h1 d=>by
 unfold CA Fg at *
 (repeat' split at h1)<;>(repeat' split at d)<;>(repeat' split)<;>omega⟩
theorem A1P (l:List (Int×Int)) (M:l.length≤100000) (w:iK CA (0,0) l) (a b:Nat) (H:a≤100000) (I:b≤l.length):BL Tryz.prog 166 [.sr 1000000 BK 0 l.length,.p T3 (a:Int),.p T3 (b:Int),.fn 116] [(1000000,.arr 53 BK l)] [1000000] (fun res F=>res=.raw (.tuple #[])∧∃r,F=[(1000000,.arr 53 BK r)]∧Dv (0,0) a b l r∧Qd CA (0,0) a b r):=by
 refine La [0,1,2,3,8,9,14,34] [] [] Tryz.func166 Tryz.ntmps166 (AE Eo AG) ?_;intro w0 K O0 ρ0 d O P;simp only[Ao];repeat'(first|exact trivial|refine eS rfl ?_|refine AB ?_|refine rX d ?_ ?_|refine rC ?_ ?_<;>intro e<;>try(cases e;done))
 ·omega
 ·refine AI (ι:={s:Nat×List (Int×Int)//a+1≤s.1∧(s.1=a+1∨s.1≤b)∧Dv (0,0) a b l s.2∧Qd CA (0,0) a s.1 s.2}) (fun s=>⟨[(0,.sr 1000000 BK 0 l.length),(1,.p T3 (a:Int)),(2,.p T3 (b:Int)),(3,.fn 116),(8,.p (.int .i64) (s.1.1:Int))],[(1000000,.arr 53 BK s.1.2)]⟩) (fun s=>b-s.1.1) ⟨(a+1,l),NO _,.inl rfl,Dv.refl a b l,YD a l⟩ (AC [(1000000,.nm 1000000)] rfl rfl ?_ ?_) (fun s=>?_)
  ·first|exact eN|refine eM ?_
  ·first|exact eN|refine eM ?_
  ·obtain⟨⟨i,m⟩,B,C,hp,hs⟩:=s;simp only at B C hp hs ⊢;have N:=hp.len;repeat'(first|exact trivial|refine eS rfl ?_|refine AB ?_|refine rX d ?_ ?_|refine rC ?_ ?_<;>intro e<;>try(cases e;done))
   ·have D:i<b:=by exact eV
    refine AI (ι:={t:Nat×List (Int×Int)//a≤t.1∧t.1≤i∧Dv (0,0) a b l t.2∧jV CA (0,0) a i t.1 t.2}) (fun t=>⟨[(0,.sr 1000000 BK 0 l.length),(1,.p T3 (a:Int)),(2,.p T3 (b:Int)),(3,.fn 116),(8,.p (.int .i64) (i:Int)),(9,.p (.int .i64) (t.1.1:Int))],[(1000000,.arr 53 BK t.1.2)]⟩) (fun t=>t.1.1) ⟨(i,m),by omega,NO i,hp,jW hs⟩ (AC [(1000000,.nm 1000000)] rfl rfl ?_ ?_) (fun t=>?_)
    ·first|exact eN|refine eM ?_
    ·first|exact eN|refine eM ?_
    ·obtain⟨⟨j,c⟩,ha,q,g,o⟩:=t;simp only at ha q g o ⊢;have J:=g.len;have z:=w.perm CF g.perm;repeat'(first|exact trivial|refine eS rfl ?_|refine AB ?_|refine rX d ?_ ?_)
     ·dsimp only[Ty.den]at *;exact⟨fun _=>by omega,fun _=>⟨by omega,by omega⟩,fun _=>⟨by omega,by omega⟩⟩
     ·have n:a<j→((j:Int)-1).toNat=j-1:=fun _=>by omega
      refine De (by simp only[go_sem,Nat.reduceEqDiff,reduceCtorEq,Nat.reduceAdd,Nat.reduceSub,Nat.reduceMul,Nat.reduceLeDiff,Nat.reduceLT,Int.reduceLE,Int.reduceToNat,Int.reduceNeg,↓reduceIte];rfl) ?_ ?_
      ·intro f;simp only[An,By]at f;have k:a<j:=by omega
       have u:CA (c.getD j (0,0)) (c.getD ((j:Int)-1).toNat (0,0))<0:=f.2;rw[n k]at u;have E:CP (0,0) c j (j-1)=(c.set j (c.getD (j-1) (0,0))).set (j-1) (c.getD j (0,0)):=rfl;repeat'(first|exact trivial|refine eS rfl ?_|refine AB ?_|refine rP d ?_ ?_|fail)
       (refine DC drawsAny d 16 [([0,1,5,6,7,8,9,10,11,12,13,14],15)] [2,3,4] (by kernel_rfl) (Td ?_ ?_);(next=>exact CQ);refine Vj d [] ?_ ?_;(next=>exact CQ);refine VW d ?_ ?_ ?_;(next=>exact CQ);(next=>exact CQ))
       rw[n k];repeat'(first|exact trivial|refine eS rfl ?_|refine AB ?_|refine rX d ?_ ?_|refine rC ?_ ?_<;>intro e<;>try(cases e;done))
       ·dsimp only[Ty.den]at *;omega
       ·refine⟨⟨(j-1,CP (0,0) c j (j-1)),by simp only;omega,by simp only;omega,g.trans (Dv.swap c (by omega) (by omega) (by omega) (by omega) (by omega)),Wj o k q (by omega) u⟩,by simp only;omega,AC [(1000000,.nm 1000000)] rfl rfl ?_ ?_⟩
        ·simp only;rw[E];first|exact eN|refine eM ?_
        ·simp only;rw[show ((j-1:Nat):Int)=(j:Int)-1 by omega];first|exact eN|refine eM ?_
      ·intro f;have A:j=a∨CA (c.getD (j-1) (0,0)) (c.getD j (0,0))<0:=by
        by_cases k:j=a
        ·exact .inl k
        ·right;simp only[AAz,On]at f;rw[n (by omega)]at f;rcases f with h|h
         ·omega
         ·exact z.lt CF (by omega) (by omega) (by omega) h
       repeat'(first|exact trivial|refine eS rfl ?_|refine AB ?_|refine rX d ?_ ?_|refine rC ?_ ?_<;>intro e<;>try(cases e;done))
       ·exact eV
       ·refine⟨⟨(i+1,c),by simp only;omega,.inr D,g,Tm CF o ha q A⟩,by simp only;omega,AC [(1000000,.nm 1000000)] rfl rfl ?_ ?_⟩
        ·first|exact eN|refine eM ?_
        ·first|exact eN|refine eM ?_
   ·have L:b≤i:=by exact eV
    exact fM d [] (.raw (.tuple #[])) rfl ⟨rfl,m,rfl,hp,fun x y h1 v G=>hs x y h1 v (by omega)⟩
end
section
attribute [local go_sem] Co
theorem A1Q (l:List (Int×Int)) (o:l.length≤100000) (a b:Nat) (h:a<b) (k:b≤l.length):BL Tryz.prog 170 [.sr 1000000 BK 0 l.length,.p T3 (a:Int),.p T3 (b:Int),.fn 116] [(1000000,.arr 53 BK l)] [1000000] (fun res g=>res=.raw (.tuple #[])∧∃r,g=[(1000000,.arr 53 BK r)]∧Dv (0,0) a b l r):=by
 refine La [0,1,2,8,9,15] [] [] Tryz.func170 Tryz.ntmps170 AG ?_;intro w0 K O0 ρ0 c t u;simp only[Ao];repeat'(first|exact trivial|refine eS rfl ?_|refine AB ?_|refine rX c ?_ ?_|refine rC ?_ ?_<;>intro d<;>try(cases d;done))
 ·omega
 ·rw[show (b:Int)-1=((b-1:Nat):Int) by omega];refine AI (ι:={s:Nat×Nat×List (Int×Int)//a≤s.1∧s.2.1<b∧Dv (0,0) a b l s.2.2}) (fun s=>⟨[(0,.sr 1000000 BK 0 l.length),(8,.p (.int .i64) (s.1.1:Int)),(9,.p (.int .i64) (s.1.2.1:Int))],[(1000000,.arr 53 BK s.1.2.2)]⟩) (fun s=>s.1.2.1-s.1.1) ⟨(a,b-1,l),NO _,by simp only;omega,Dv.refl a b l⟩ (AC [(1000000,.nm 1000000)] rfl rfl ?_ ?_) (fun s=>?_)
  ·first|exact eN|refine eM ?_
  ·first|exact eN|refine eM ?_
  ·obtain⟨⟨i,j,m⟩,hi,e,hp⟩:=s;simp only at hi e hp ⊢;have q:=hp.len;repeat'(first|exact trivial|refine eS rfl ?_|refine AB ?_|refine rX c ?_ ?_)
   refine rC (fun d=>?_) (fun d=>?_)
   ·repeat'(first|exact trivial|refine eS rfl ?_|refine AB ?_|refine rP c ?_ ?_|fail)
    have n:i<j:=by omega
    have f:CP (0,0) m i j=(m.set i (m.getD j (0,0))).set j (m.getD i (0,0)):=rfl
    (refine DC drawsAny c 14 [([0,1,4,5,6,7,8,9,10,11,12],13)] [2,3] (by kernel_rfl) (Td ?_ ?_);(next=>exact CQ);refine Vj c [] ?_ ?_;(next=>exact CQ);refine VW c ?_ ?_ ?_;(next=>exact CQ);(next=>exact CQ))
    repeat'(first|exact trivial|refine eS rfl ?_|refine AB ?_|refine rX c ?_ ?_|refine rC ?_ ?_<;>intro d<;>try(cases d;done))
    ·omega
    ·omega
    ·refine⟨⟨(i+1,j-1,CP (0,0) m i j),by simp only;omega,by simp only;omega,hp.trans (Dv.swap m (by omega) (by omega) (by omega) (by omega) (by omega))⟩,by simp only;omega,AC [(1000000,.nm 1000000)] rfl rfl ?_ ?_⟩
     ·simp only;rw[f];first|exact eN|refine eM ?_
     ·simp only;rw[show ((j-1:Nat):Int)=(j:Int)-1 by omega];first|exact eN|refine eM ?_
   ·repeat'(first|exact trivial|refine eS rfl ?_|refine AB ?_|refine rX c ?_ ?_|refine rC ?_ ?_<;>intro d<;>try(cases d;done))
    exact fM c [] (.raw (.tuple #[])) rfl ⟨rfl,m,rfl,hp⟩
theorem eD (l:List (Int×Int)) (o:l.length≤100000) (z:iK CA (0,0) l) (lo hi f:Nat) (E:lo≤100000) (hf:f+hi≤l.length) (A:HpX CA (0,0) f hi lo lo l):BL Tryz.prog 178 [.sr 1000000 BK 0 l.length,.p T3 (lo:Int),.p T3 (hi:Int),.p T3 (f:Int),.fn 116] [(1000000,.arr 53 BK l)] [1000000] (fun res D=>res=.raw (.tuple #[])∧∃r,D=[(1000000,.arr 53 BK r)]∧Dv (0,0) f (f+hi) l r∧Hp CA (0,0) f hi lo r):=by
 refine La [0,1,2,3,4,10,11,18,40,58] [] [] Tryz.func178 Tryz.ntmps178 (AE Eo AG) ?_;intro w0 K O0 ρ0 a G H;simp only[Ao];repeat'(first|exact trivial|refine eS rfl ?_|refine AB ?_|refine rX a ?_ ?_|refine rC ?_ ?_<;>intro d<;>try(cases d;done))
 refine AI (ι:={s:Nat×List (Int×Int)//s.1≤lo+hi∧Dv (0,0) f (f+hi) l s.2∧HpX CA (0,0) f hi lo s.1 s.2}) (fun s=>⟨[(0,.sr 1000000 BK 0 l.length),(2,.p T3 (hi:Int)),(3,.p T3 (f:Int)),(4,.fn 116),(10,.p (.int .i64) (s.1.1:Int))],[(1000000,.arr 53 BK s.1.2)]⟩) (fun s=>lo+hi-s.1.1) ⟨(lo,l),by omega,Dv.refl _ _ l,A⟩ (AC [(1000000,.nm 1000000)] rfl rfl ?_ ?_) (fun s=>?_)
 ·first|exact eN|refine eM ?_
 ·first|exact eN|refine eM ?_
 ·obtain⟨⟨root,m⟩,hr,hp,k⟩:=s;simp only at hr hp k ⊢;have F:=hp.len;have t:=z.perm CF hp.perm;repeat'(first|exact trivial|refine eS rfl ?_|refine AB ?_|refine rX a ?_ ?_)
  ·omega
  ·refine rC (fun d=>?_) (fun d=>?_)
   ·have o:hi≤2*root+1:=by omega
    repeat'(first|exact trivial|refine eS rfl ?_|refine AB ?_|refine rX a ?_ ?_|refine rC ?_ ?_<;>intro d<;>try(cases d;done))
    exact fM a [] (.raw (.tuple #[])) rfl ⟨rfl,m,rfl,hp,yU k o⟩
   ·have o:2*root+1<hi:=by omega
    have n:((f:Int)+(2*(root:Int)+1)).toNat=f+(2*root+1):=by omega
    have q:((f:Int)+(2*(root:Int)+1+1)).toNat=f+(2*root+2):=by omega
    have w:((f:Int)+(2*(root:Int)+1)+1).toNat=f+(2*root+2):=by omega
    have g:((f:Int)+(root:Int)).toNat=f+root:=by omega
    repeat'(first|exact trivial|refine eS rfl ?_|refine AB ?_|refine rX a ?_ ?_)
    ·dsimp only[Ty.den];exact⟨by omega,fun _=>by omega,fun _=>by omega,fun _=>by omega,fun _=>by omega,fun _=>by omega⟩
    ·refine De (by simp only[go_sem,Nat.reduceEqDiff,reduceCtorEq,Nat.reduceAdd,Nat.reduceSub,Nat.reduceMul,Nat.reduceLeDiff,Nat.reduceLT,Int.reduceLE,Int.reduceToNat,Int.reduceNeg,↓reduceIte];rfl) ?_ ?_
     ·intro e;simp only[An,By]at e;obtain⟨hh,e⟩:=e;have C:CA (m.getD (f+(2*root+1)) (0,0)) (m.getD (f+(2*root+2)) (0,0))<0:=by rw[←n,←w];exact e
      have B:2*root+2<hi:=by omega
      have hs:∀c,(c=2*root+1∨c=2*root+2)→c<hi→c≠2*root+2→CA (m.getD (f+c) (0,0)) (m.getD (f+(2*root+2)) (0,0))<0:=fun c h1 x y=>by
       rw[show c=2*root+1 by omega];exact C
      repeat'(first|exact trivial|refine eS rfl ?_|refine AB ?_|refine rX a ?_ ?_)
      ·omega
      ·exact CQ
      ·refine De (by simp only[go_sem,Nat.reduceEqDiff,reduceCtorEq,Nat.reduceAdd,Nat.reduceSub,Nat.reduceMul,Nat.reduceLeDiff,Nat.reduceLT,Int.reduceLE,Int.reduceToNat,Int.reduceNeg,↓reduceIte];rfl) ?_ ?_
       ·intro b;simp only[OF,On]at b;rw[g,q]at b;have u:=t.lt CF (i:=f+root) (j:=f+(2*root+2)) (by omega) (by omega) (by omega) b;repeat'(first|exact trivial|refine eS rfl ?_|refine AB ?_|refine rX a ?_ ?_|refine rC ?_ ?_<;>intro d<;>try(cases d;done))
        exact fM a [] (.raw (.tuple #[])) rfl ⟨rfl,m,rfl,hp,d9 CF k (.inr rfl) u hs⟩
       ·intro b;simp only[AAI,By]at b;rw[g,q]at b;have v:CP (0,0) m (f+root) (f+(2*root+2))=(m.set (f+root) (m.getD (f+(2*root+2)) (0,0))).set (f+(2*root+2)) (m.getD (f+root) (0,0)):=rfl;repeat'(first|exact trivial|refine eS rfl ?_|refine AB ?_|refine rP a ?_ ?_|fail)
        (refine DC drawsAny a 22 [([0,1,2,3,8,9,10,11,12,13,14,15,16,17,18,19,20],21)] [4,5,6,7] (by kernel_rfl) (Td ?_ ?_);(next=>exact CQ);refine Vj a [] ?_ ?_;(next=>exact CQ);refine VW a ?_ ?_ ?_;(next=>exact CQ);(next=>exact CQ))
        rw[g,q];repeat'(first|exact trivial|refine eS rfl ?_|refine AB ?_|refine rX a ?_ ?_|refine rC ?_ ?_<;>intro d<;>try(cases d;done))
        refine⟨⟨(2*root+2,CP (0,0) m (f+root) (f+(2*root+2))),by simp only;omega,hp.trans (Dv.swap m (by omega) (by omega) (by omega) (by omega) (by omega)),eA k B (by omega) (.inr rfl) b hs⟩,by simp only;omega,AC [(1000000,.nm 1000000)] rfl rfl ?_ ?_⟩
        ·simp only;rw[v];first|exact eN|refine eM ?_
        ·simp only;rw[show ((2*root+2:Nat):Int)=2*(root:Int)+1+1 by omega];first|exact eN|refine eM ?_
     ·intro e;have hs:∀c,(c=2*root+1∨c=2*root+2)→c<hi→c≠2*root+1→CA (m.getD (f+c) (0,0)) (m.getD (f+(2*root+1)) (0,0))<0:=fun c h1 x y=>by
       simp only[AAz,On]at e;have a:c=2*root+2:=by omega
       subst a;rcases e with h|h
       ·omega
       ·rw[n,w]at h;exact t.lt CF (by omega) (by omega) (by omega) h
      repeat'(first|exact trivial|refine eS rfl ?_|refine AB ?_|refine rX a ?_ ?_)
      ·exact CQ
      ·refine De (by simp only[go_sem,Nat.reduceEqDiff,reduceCtorEq,Nat.reduceAdd,Nat.reduceSub,Nat.reduceMul,Nat.reduceLeDiff,Nat.reduceLT,Int.reduceLE,Int.reduceToNat,Int.reduceNeg,↓reduceIte];rfl) ?_ ?_
       ·intro b;simp only[OF,On]at b;rw[g,n]at b;have u:=t.lt CF (i:=f+root) (j:=f+(2*root+1)) (by omega) (by omega) (by omega) b;repeat'(first|exact trivial|refine eS rfl ?_|refine AB ?_|refine rX a ?_ ?_|refine rC ?_ ?_<;>intro d<;>try(cases d;done))
        exact fM a [] (.raw (.tuple #[])) rfl ⟨rfl,m,rfl,hp,d9 CF k (.inl rfl) u hs⟩
       ·intro b;simp only[AAI,By]at b;rw[g,n]at b;have v:CP (0,0) m (f+root) (f+(2*root+1))=(m.set (f+root) (m.getD (f+(2*root+1)) (0,0))).set (f+(2*root+1)) (m.getD (f+root) (0,0)):=rfl;repeat'(first|exact trivial|refine eS rfl ?_|refine AB ?_|refine rP a ?_ ?_|fail)
        (refine DC drawsAny a 22 [([0,1,2,3,8,9,10,11,12,13,14,15,16,17,18,19,20],21)] [4,5,6,7] (by kernel_rfl) (Td ?_ ?_);(next=>exact CQ);refine Vj a [] ?_ ?_;(next=>exact CQ);refine VW a ?_ ?_ ?_;(next=>exact CQ);(next=>exact CQ))
        rw[g,n];repeat'(first|exact trivial|refine eS rfl ?_|refine AB ?_|refine rX a ?_ ?_|refine rC ?_ ?_<;>intro d<;>try(cases d;done))
        refine⟨⟨(2*root+1,CP (0,0) m (f+root) (f+(2*root+1))),by simp only;omega,hp.trans (Dv.swap m (by omega) (by omega) (by omega) (by omega) (by omega)),eA k o (by omega) (.inl rfl) b hs⟩,by simp only;omega,AC [(1000000,.nm 1000000)] rfl rfl ?_ ?_⟩
        ·simp only;rw[v];first|exact eN|refine eM ?_
        ·simp only;rw[show ((2*root+1:Nat):Int)=2*(root:Int)+1 by omega];first|exact eN|refine eM ?_
end
section
attribute [local go_sem] Co
theorem yW (l:List (Int×Int)) (L:l.length≤100000) (u:iK CA (0,0) l) (a b:Nat) (I:a≤b) (J:b≤l.length):BL Tryz.prog 167 [.sr 1000000 BK 0 l.length,.p T3 (a:Int),.p T3 (b:Int),.fn 116] [(1000000,.arr 53 BK l)] [1000000] (fun res C=>res=.raw (.tuple #[])∧∃r,C=[(1000000,.arr 53 BK r)]∧Dv (0,0) a b l r∧Qd CA (0,0) a b r):=by
 refine La [0,1,2,3,8,9,10,11,12,21,33] [] [] Tryz.func167 Tryz.ntmps167 AG ?_;intro w0 K O0 ρ0 d M N;simp only[Ao];obtain⟨n,hn⟩:∃n,b=a+n:=⟨b-a,by omega⟩;subst hn;have t:(((a+n:Nat):Int)-(a:Int)-1).tdiv 2=(((n-1) / 2+1:Nat):Int)-1:=by
  by_cases h0:n=0
  ·subst h0;rw[show ((a+0:Nat):Int)-(a:Int)-1=-1 by omega];decide
  ·rw[AAp (by omega)];omega
 have en:((a+n:Nat):Int)-(a:Int)=(n:Int):=by omega
 repeat'(first|exact trivial|refine eS rfl ?_|refine AB ?_|refine rX d ?_ ?_|refine rC ?_ ?_<;>intro e<;>try(cases e;done))
 ·omega
 ·rw[t];exact⟨by omega,by decide,by omega⟩
 ·rw[t,en];refine AI (ι:={s:Nat×List (Int×Int)//s.1≤n+1∧Dv (0,0) a (a+n) l s.2∧Hp CA (0,0) a n s.1 s.2}) (fun s=>⟨[(0,.sr 1000000 BK 0 l.length),(3,.fn 116),(8,.p T3 (a:Int)),(9,.p (.int .i64) (0:Int)),(10,.p (.int .i64) (n:Int)),(11,.p (.int .i64) ((s.1.1:Int)-1))],[(1000000,.arr 53 BK s.1.2)]⟩) (fun s=>s.1.1) ⟨((n-1) / 2+1,l),by simp only;omega,Dv.refl _ _ l,fun k c h1 G H=>by simp only at h1;omega⟩ (AC [(1000000,.nm 1000000)] rfl rfl ?_ ?_) (fun s=>?_)
  ·first|exact eN|refine eM ?_
  ·first|exact eN|refine eM ?_
  ·obtain⟨⟨k,m⟩,hk,hp,q⟩:=s;simp only at hk hp q ⊢;have y:=hp.len;have x:=u.perm CF hp.perm;repeat'(first|exact trivial|refine eS rfl ?_|refine AB ?_|refine rX d ?_ ?_)
   refine rC (fun e=>?_) (fun e=>?_)
   ·have f:0<k:=by omega
    have key:=eD m (by omega) x (k-1) n a (by omega) (by omega) (qW (by rw[show k-1+1=k by omega];exact q));rw[y,show ((k-1:Nat):Int)=(k:Int)-1 by omega]at key;repeat'(first|exact trivial|refine eS rfl ?_|refine AB ?_|refine rX d ?_ ?_)
    refine cP 5 d ?_ ?_
    ·trivial
    ·refine rM d (key) [(1000000,.nm 1000000)] [] ?_ ?_ ?_
     ·first|exact eN|refine eM ?_
     ·first|exact eN|refine eM ?_
     ·rintro _ _ ⟨rfl,r,rfl,i,j⟩;refine⟨[(1000000,.nm 1000000)],.raw (.tuple #[]),[(1000000,.arr 53 BK r)],rfl,rfl,?_,?_,rfl,rfl,Cy ?_⟩
      ·first|exact eN|refine eM ?_
      ·first|exact eN|refine eM ?_
      ·repeat'(first|exact trivial|refine eS rfl ?_|refine AB ?_|refine rX d ?_ ?_|refine rC ?_ ?_<;>intro e<;>try(cases e;done))
       ·omega
       ·refine⟨⟨(k-1,r),by simp only;omega,hp.trans i,j⟩,by simp only;omega,AC [(1000000,.nm 1000000)] rfl rfl ?_ ?_⟩
        ·simp only;first|exact eN|refine eM ?_
        ·simp only;rw[show ((k-1:Nat):Int)=(k:Int)-1 by omega];first|exact eN|refine eM ?_
   ·have f:k=0:=by omega
    subst f;repeat'(first|exact trivial|refine eS rfl ?_|refine AB ?_|refine rX d ?_ ?_)
    ·omega
    ·refine AI (ι:={s:Nat×List (Int×Int)//s.1≤n∧Dv (0,0) a (a+n) l s.2∧qX CA (0,0) a n s.1 s.2}) (fun s=>⟨[(0,.sr 1000000 BK 0 l.length),(3,.fn 116),(8,.p T3 (a:Int)),(9,.p (.int .i64) (0:Int)),(12,.p (.int .i64) ((s.1.1:Int)-1))],[(1000000,.arr 53 BK s.1.2)]⟩) (fun s=>s.1.1) ⟨(n,m),NO _,hp,jX q⟩ (AC [(1000000,.nm 1000000)] rfl rfl ?_ ?_) (fun s=>?_)
     ·first|exact eN|refine eM ?_
     ·first|exact eN|refine eM ?_
     ·obtain⟨⟨k,c⟩,hk,g,h⟩:=s;simp only at hk g h ⊢;have w:=g.len;repeat'(first|exact trivial|refine eS rfl ?_|refine AB ?_|refine rX d ?_ ?_)
      refine rC (fun e=>?_) (fun e=>?_)
      ·have f:0<k:=by omega
       have h:qX CA (0,0) a n (k-1+1) c:=by rw[show k-1+1=k by omega];exact h
       obtain⟨D,E,F⟩:=qY CF h (by omega) (by omega);have o:Dv (0,0) a (a+n) c (CP (0,0) c a (a+(k-1))):=Dv.swap c (by omega) (by omega) (by omega) (by omega) (by omega);have A:=o.len;have z:=u.perm CF (g.trans o).perm;have v:((a:Int)+((k:Int)-1)).toNat=a+(k-1):=by omega
       have B:CP (0,0) c a (a+(k-1))=(c.set a (c.getD (a+(k-1)) (0,0))).set (a+(k-1)) (c.getD a (0,0)):=rfl;have key:=eD (CP (0,0) c a (a+(k-1))) (by omega) z 0 (k-1) a (by omega) (by omega) D;rw[A,w,show ((k-1:Nat):Int)=(k:Int)-1 by omega]at key;repeat'(first|exact trivial|refine eS rfl ?_|refine AB ?_|refine rP d ?_ ?_|fail)
       (refine DC drawsAny d 18 [([0,1,6,7,8,9,10,11,12,13,14,15,16],17)] [2,3,4,5] (by kernel_rfl) (Td ?_ ?_);(next=>exact CQ);refine Vj d [] ?_ ?_;(next=>exact CQ);refine VW d ?_ ?_ ?_;(next=>exact CQ);(next=>exact CQ))
       rw[v,←B];repeat'(first|exact trivial|refine eS rfl ?_|refine AB ?_|refine rP d ?_ ?_|fail)
       refine cP 5 d ?_ ?_
       ·trivial
       ·refine rM d (key) [(1000000,.nm 1000000)] [] ?_ ?_ ?_
        ·first|exact eN|refine eM ?_
        ·first|exact eN|refine eM ?_
        ·rintro _ _ ⟨rfl,r,rfl,i,j⟩;refine⟨[(1000000,.nm 1000000)],.raw (.tuple #[]),[(1000000,.arr 53 BK r)],rfl,rfl,?_,?_,rfl,rfl,Cy ?_⟩
         ·first|exact eN|refine eM ?_
         ·first|exact eN|refine eM ?_
         ·repeat'(first|exact trivial|refine eS rfl ?_|refine AB ?_|refine rX d ?_ ?_|refine rC ?_ ?_<;>intro e<;>try(cases e;done))
          ·omega
          ·refine⟨⟨(k-1,r),by simp only;omega,(g.trans o).trans (i.mono (NO _) (by omega)),qZ i j E F⟩,by simp only;omega,AC [(1000000,.nm 1000000)] rfl rfl ?_ ?_⟩
           ·simp only;first|exact eN|refine eM ?_
           ·simp only;rw[show ((k-1:Nat):Int)=(k:Int)-1 by omega];first|exact eN|refine eM ?_
      ·have f:k=0:=by omega
       subst f;repeat'(first|exact trivial|refine eS rfl ?_|refine AB ?_|refine rX d ?_ ?_|refine rC ?_ ?_<;>intro e<;>try(cases e;done))
       exact fM d [] (.raw (.tuple #[])) rfl ⟨rfl,c,rfl,g,yV h⟩
end
section
attribute [local go_sem] Co
theorem A1R (l:List (Int×Int)) (ah:l.length≤100000) (O:iK CA (0,0) l) (a b p:Nat) (hap:a≤p) (aa:p<b) (V:b≤l.length):BL Tryz.prog 173 [.sr 1000000 BK 0 l.length,.p T3 (a:Int),.p T3 (b:Int),.p T3 (p:Int),.fn 116] [(1000000,.arr 53 BK l)] [1000000] (fun res ae=>∃(q:Nat) (w:Bool) (r:List (Int×Int)),res=.tup [.p T3 (q:Int),.p .bool w]∧ae=[(1000000,.arr 53 BK r)]∧Dv (0,0) a b l r∧tT CA (0,0) a b q r):=by
 refine La [0,1,2,3,4,10,11,12,13,47,66,71,120,139,144] [] [] Tryz.func173 Tryz.ntmps173 (AE Eo AG) ?_;intro w0 K O0 ρ0 c ai aj;simp only[Ao];have g:Dv (0,0) a b l (CP (0,0) l a p):=Dv.swap l (NO _) (by omega) hap aa V;have n:CP (0,0) l a p=(l.set a (l.getD p (0,0))).set p (l.getD a (0,0)):=rfl;repeat'(first|exact trivial|refine eS rfl ?_|refine AB ?_|refine rP c ?_ ?_|fail)
 (refine DC drawsAny c 14 [([0,1,4,5,6,7,8,9,10,11,12],13)] [2,3] (by kernel_rfl) (Td ?_ ?_);(next=>exact CQ);refine Vj c [] ?_ ?_;(next=>exact CQ);refine VW c ?_ ?_ ?_;(next=>exact CQ);(next=>exact CQ))
 rw[←n];have A:=O.perm CF g.perm;have R:=g.len;clear n;generalize CP (0,0) l a p=m at *;repeat'(first|exact trivial|refine eS rfl ?_|refine AB ?_|refine rP c ?_ ?_|fail)
 ·exact CQ
 ·rw[show (a:Int)+1=((a+1:Nat):Int) by omega,show (b:Int)-1=((b-1:Nat):Int) by omega];refine AI (ι:={i:Nat//a<i∧i≤b∧PtI CA (0,0) a b i (b-1) m}) (fun s=>⟨[(0,.sr 1000000 BK 0 l.length),(1,.p T3 (a:Int)),(4,.fn 116),(12,.p (.int .i64) (s.1:Int)),(13,.p (.int .i64) ((b-1:Nat):Int))],[(1000000,.arr 53 BK m)]⟩) (fun s=>b-s.1) ⟨a+1,by omega,by omega,⟨fun x h1 f=>by omega,fun x h1 f=>by omega⟩⟩ (AC [(1000000,.nm 1000000)] rfl rfl ?_ ?_) (fun s=>?_)
  ·first|exact eN|refine eM ?_
  ·first|exact eN|refine eM ?_
  ·obtain⟨i,E,I,t⟩:=s;simp only at E I t ⊢;repeat'(first|exact trivial|refine eS rfl ?_|refine AB ?_|refine rX c ?_ ?_)
   ·dsimp only[Ty.den];exact⟨fun _=>by omega,fun _=>by omega⟩
   ·refine De (by simp only[go_sem,Nat.reduceEqDiff,reduceCtorEq,Nat.reduceAdd,Nat.reduceSub,Nat.reduceMul,Nat.reduceLeDiff,Nat.reduceLT,Int.reduceLE,Int.reduceToNat,Int.reduceNeg,↓reduceIte];rfl) ?_ ?_
    ·intro d;simp only[An,By]at d;obtain⟨h1,f⟩:=d;repeat'(first|exact trivial|refine eS rfl ?_|refine AB ?_|refine rX c ?_ ?_)
     ·exact CQ
     ·refine⟨⟨i+1,by omega,by omega,⟨fun x G H=>?_,t.hi⟩⟩,by simp only;omega,AC [(1000000,.nm 1000000)] rfl rfl ?_ ?_⟩
      ·by_cases e:x=i
       ·rw[e];exact f
       ·exact t.lo x G (by omega)
      ·first|exact eN|refine eM ?_
      ·first|exact eN|refine eM ?_
    ·intro d;have B:i≤b-1→CA (m.getD a (0,0)) (m.getD i (0,0))<0:=fun h1=>A.lt CF (by omega) (by omega) (by omega) fun f=>by
      simp only[AAz,On]at d;rcases d with h|h
      ·omega
      ·exact h f
     have ag:i≤b-1+1:=by omega
     repeat'(first|exact trivial|refine eS rfl ?_|refine AB ?_|refine rX c ?_ ?_)
     refine AI (ι:={j:Nat//a≤j∧j<b∧i≤j+1∧PtI CA (0,0) a b i j m}) (fun s=>⟨[(0,.sr 1000000 BK 0 l.length),(1,.p T3 (a:Int)),(4,.fn 116),(12,.p (.int .i64) (i:Int)),(13,.p (.int .i64) (s.1:Int))],[(1000000,.arr 53 BK m)]⟩) (fun s=>s.1) ⟨b-1,by omega,by omega,by omega,t⟩ (AC [(1000000,.nm 1000000)] rfl rfl ?_ ?_) (fun s=>?_)
     ·first|exact eN|refine eM ?_
     ·first|exact eN|refine eM ?_
     ·obtain⟨j,v,y,W,D⟩:=s;simp only at v y W D ⊢;clear d;repeat'(first|exact trivial|refine eS rfl ?_|refine AB ?_|refine rX c ?_ ?_)
      ·dsimp only[Ty.den];exact⟨fun _=>by omega,fun _=>by omega⟩
      ·refine De (by simp only[go_sem,Nat.reduceEqDiff,reduceCtorEq,Nat.reduceAdd,Nat.reduceSub,Nat.reduceMul,Nat.reduceLeDiff,Nat.reduceLT,Int.reduceLE,Int.reduceToNat,Int.reduceNeg,↓reduceIte];rfl) ?_ ?_
       ·intro d;simp only[An,By,OF,On]at d;obtain⟨h1,f⟩:=d;have f:=A.lt CF (i:=j) (j:=a) (by omega) (by omega) (by omega) f;repeat'(first|exact trivial|refine eS rfl ?_|refine AB ?_|refine rX c ?_ ?_)
        ·exact CQ
        ·refine⟨⟨j-1,by omega,by omega,by omega,⟨D.lo,fun x G H=>?_⟩⟩,by simp only;omega,AC [(1000000,.nm 1000000)] rfl rfl ?_ ?_⟩
         ·by_cases e:x=j
          ·rw[e];exact f
          ·exact D.hi x (by omega) H
         ·first|exact eN|refine eM ?_
         ·simp only;rw[show ((j-1:Nat):Int)=(j:Int)-1 by omega];first|exact eN|refine eM ?_
       ·intro d;have C:i≤j→CA (m.getD j (0,0)) (m.getD a (0,0))<0:=fun h1=>by
         simp only[AAz,On,AAI,By]at d;rcases d with h|h
         ·omega
         ·exact h
        repeat'(first|exact trivial|refine eS rfl ?_|refine AB ?_|refine rX c ?_ ?_)
        refine rC (fun u=>?_) (fun u=>?_)
        ·have Q:i=j+1:=by omega
         subst Q;have o:Dv (0,0) a b m (CP (0,0) m j a):=Dv.swap m v y (NO _) (by omega) (by omega);have n:CP (0,0) m j a=(m.set j (m.getD a (0,0))).set a (m.getD j (0,0)):=rfl;repeat'(first|exact trivial|refine eS rfl ?_|refine AB ?_|refine rP c ?_ ?_|fail)
         (refine DC drawsAny c 14 [([0,1,4,5,6,7,8,9,10,11,12],13)] [2,3] (by kernel_rfl) (Td ?_ ?_);(next=>exact CQ);refine Vj c [] ?_ ?_;(next=>exact CQ);refine VW c ?_ ?_ ?_;(next=>exact CQ);(next=>exact CQ))
         rw[←n];repeat'(first|exact trivial|refine eS rfl ?_|refine AB ?_|refine rX c ?_ ?_|refine rC ?_ ?_<;>intro u<;>try(cases u;done))
         exact fM c [.tmp 10,.tmp 11] (.tup [.p T3 (j:Int),.p .bool true]) eT ⟨j,true,_,rfl,rfl,g.trans o,nQ D v y (by omega)⟩
        ·have Z:i≠j:=fun e=>by
          have S:=B (by omega);have af:=C (by omega);rw[e,CF.anti]at S;omega
         have P:i<j:=by omega
         have o:Dv (0,0) a b m (CP (0,0) m i j):=Dv.swap m (by omega) (by omega) v y (by omega);have n:CP (0,0) m i j=(m.set i (m.getD j (0,0))).set j (m.getD i (0,0)):=rfl;have M:=eC D E P y (by omega) (B (by omega)) (C (by omega));repeat'(first|exact trivial|refine eS rfl ?_|refine AB ?_|refine rP c ?_ ?_|fail)
         (refine DC drawsAny c 14 [([0,1,4,5,6,7,8,9,10,11,12],13)] [2,3] (by kernel_rfl) (Td ?_ ?_);(next=>exact CQ);refine Vj c [] ?_ ?_;(next=>exact CQ);refine VW c ?_ ?_ ?_;(next=>exact CQ);(next=>exact CQ))
         rw[←n];have J:=g.trans o;have A:=O.perm CF J.perm;have R:=J.len;clear n o D t B C d g;generalize CP (0,0) m i j=ad at *;repeat'(first|exact trivial|refine eS rfl ?_|refine AB ?_|refine rX c ?_ ?_)
         ·exact CQ
         ·exact CQ
         ·rw[show (i:Int)+1=((i+1:Nat):Int) by omega,show (j:Int)-1=((j-1:Nat):Int) by omega];refine AI (ι:={s:Nat×Nat×List (Int×Int)//(a<s.1∧s.1≤s.2.1+1)∧(a≤s.2.1∧s.2.1<b)∧Dv (0,0) a b l s.2.2∧PtI CA (0,0) a b s.1 s.2.1 s.2.2}) (fun s=>⟨[(0,.sr 1000000 BK 0 l.length),(1,.p T3 (a:Int)),(4,.fn 116),(12,.p (.int .i64) (s.1.1:Int)),(13,.p (.int .i64) (s.1.2.1:Int))],[(1000000,.arr 53 BK s.1.2.2)]⟩) (fun s=>s.1.2.1+1-s.1.1) ⟨(i+1,j-1,ad),by simp only;omega,by simp only;omega,J,M⟩ (AC [(1000000,.nm 1000000)] rfl rfl ?_ ?_) (fun s=>?_)
          ·first|exact eN|refine eM ?_
          ·first|exact eN|refine eM ?_
          ·clear M A R J;obtain⟨⟨i,j,m⟩,⟨E,I⟩,⟨v,y⟩,g,t⟩:=s;simp only at E I v y g t ⊢;have A:=O.perm CF g.perm;have R:=g.len;repeat'(first|exact trivial|refine eS rfl ?_|refine AB ?_|refine rX c ?_ ?_)
           refine AI (ι:={k:Nat//a<k∧i≤k∧k≤j+1∧PtI CA (0,0) a b k j m}) (fun s=>⟨[(0,.sr 1000000 BK 0 l.length),(1,.p T3 (a:Int)),(4,.fn 116),(12,.p (.int .i64) (s.1:Int)),(13,.p (.int .i64) (j:Int))],[(1000000,.arr 53 BK m)]⟩) (fun s=>j+1-s.1) ⟨i,E,NO _,I,t⟩ (AC [(1000000,.nm 1000000)] rfl rfl ?_ ?_) (fun s=>?_)
           ·first|exact eN|refine eM ?_
           ·first|exact eN|refine eM ?_
           ·obtain⟨k,T,X,U,L⟩:=s;simp only at T U X L ⊢;repeat'(first|exact trivial|refine eS rfl ?_|refine AB ?_|refine rX c ?_ ?_)
            ·dsimp only[Ty.den];exact⟨fun _=>by omega,fun _=>by omega⟩
            ·refine De (by simp only[go_sem,Nat.reduceEqDiff,reduceCtorEq,Nat.reduceAdd,Nat.reduceSub,Nat.reduceMul,Nat.reduceLeDiff,Nat.reduceLT,Int.reduceLE,Int.reduceToNat,Int.reduceNeg,↓reduceIte];rfl) ?_ ?_
             ·intro d;simp only[An,By]at d;obtain⟨h1,f⟩:=d;repeat'(first|exact trivial|refine eS rfl ?_|refine AB ?_|refine rX c ?_ ?_)
              ·exact CQ
              ·refine⟨⟨k+1,by omega,by omega,by omega,⟨fun x G H=>?_,L.hi⟩⟩,by simp only;omega,AC [(1000000,.nm 1000000)] rfl rfl ?_ ?_⟩
               ·by_cases e:x=k
                ·rw[e];exact f
                ·exact L.lo x G (by omega)
               ·first|exact eN|refine eM ?_
               ·first|exact eN|refine eM ?_
             ·intro d;have B:k≤j→CA (m.getD a (0,0)) (m.getD k (0,0))<0:=fun h1=>A.lt CF (by omega) (by omega) (by omega) fun f=>by
               simp only[AAz,On]at d;rcases d with h|h
               ·omega
               ·exact h f
              repeat'(first|exact trivial|refine eS rfl ?_|refine AB ?_|refine rX c ?_ ?_)
              refine AI (ι:={z:Nat//a≤z∧z≤j∧k≤z+1∧PtI CA (0,0) a b k z m}) (fun s=>⟨[(0,.sr 1000000 BK 0 l.length),(1,.p T3 (a:Int)),(4,.fn 116),(12,.p (.int .i64) (k:Int)),(13,.p (.int .i64) (s.1:Int))],[(1000000,.arr 53 BK m)]⟩) (fun s=>s.1) ⟨j,v,NO _,U,L⟩ (AC [(1000000,.nm 1000000)] rfl rfl ?_ ?_) (fun s=>?_)
              ·first|exact eN|refine eM ?_
              ·first|exact eN|refine eM ?_
              ·obtain⟨z,N,ab,Y,F⟩:=s;simp only at N ab Y F ⊢;clear d;repeat'(first|exact trivial|refine eS rfl ?_|refine AB ?_|refine rX c ?_ ?_)
               ·dsimp only[Ty.den];exact⟨fun _=>by omega,fun _=>by omega⟩
               ·refine De (by simp only[go_sem,Nat.reduceEqDiff,reduceCtorEq,Nat.reduceAdd,Nat.reduceSub,Nat.reduceMul,Nat.reduceLeDiff,Nat.reduceLT,Int.reduceLE,Int.reduceToNat,Int.reduceNeg,↓reduceIte];rfl) ?_ ?_
                ·intro d;simp only[An,By,OF,On]at d;obtain⟨h1,f⟩:=d;have f:=A.lt CF (i:=z) (j:=a) (by omega) (by omega) (by omega) f;repeat'(first|exact trivial|refine eS rfl ?_|refine AB ?_|refine rX c ?_ ?_)
                 ·exact CQ
                 ·refine⟨⟨z-1,by omega,by omega,by omega,⟨F.lo,fun x G H=>?_⟩⟩,by simp only;omega,AC [(1000000,.nm 1000000)] rfl rfl ?_ ?_⟩
                  ·by_cases e:x=z
                   ·rw[e];exact f
                   ·exact F.hi x (by omega) H
                  ·first|exact eN|refine eM ?_
                  ·simp only;rw[show ((z-1:Nat):Int)=(z:Int)-1 by omega];first|exact eN|refine eM ?_
                ·intro d;have C:k≤z→CA (m.getD z (0,0)) (m.getD a (0,0))<0:=fun h1=>by
                  simp only[AAz,On,AAI,By]at d;rcases d with h|h
                  ·omega
                  ·exact h
                 repeat'(first|exact trivial|refine eS rfl ?_|refine AB ?_|refine rX c ?_ ?_)
                 refine rC (fun u=>?_) (fun u=>?_)
                 ·have Q:k=z+1:=by omega
                  subst Q;have o:Dv (0,0) a b m (CP (0,0) m z a):=Dv.swap m N (by omega) (NO _) (by omega) (by omega);have n:CP (0,0) m z a=(m.set z (m.getD a (0,0))).set a (m.getD z (0,0)):=rfl;repeat'(first|exact trivial|refine eS rfl ?_|refine AB ?_|refine rP c ?_ ?_|fail)
                  (refine DC drawsAny c 14 [([0,1,4,5,6,7,8,9,10,11,12],13)] [2,3] (by kernel_rfl) (Td ?_ ?_);(next=>exact CQ);refine Vj c [] ?_ ?_;(next=>exact CQ);refine VW c ?_ ?_ ?_;(next=>exact CQ);(next=>exact CQ))
                  rw[←n];repeat'(first|exact trivial|refine eS rfl ?_|refine AB ?_|refine rX c ?_ ?_|refine rC ?_ ?_<;>intro u<;>try(cases u;done))
                  exact fM c [.tmp 10,.tmp 11] (.tup [.p T3 (z:Int),.p .bool false]) eT ⟨z,false,_,rfl,rfl,g.trans o,nQ F N (by omega) (by omega)⟩
                 ·have Z:k≠z:=fun e=>by
                   have S:=B (by omega);have af:=C (by omega);rw[e,CF.anti]at S;omega
                  have P:k<z:=by omega
                  have o:Dv (0,0) a b m (CP (0,0) m k z):=Dv.swap m (by omega) (by omega) N (by omega) (by omega);have n:CP (0,0) m k z=(m.set k (m.getD z (0,0))).set z (m.getD k (0,0)):=rfl;have M:=eC F T P (by omega) (by omega) (B (by omega)) (C (by omega));repeat'(first|exact trivial|refine eS rfl ?_|refine AB ?_|refine rP c ?_ ?_|fail)
                  (refine DC drawsAny c 14 [([0,1,4,5,6,7,8,9,10,11,12],13)] [2,3] (by kernel_rfl) (Td ?_ ?_);(next=>exact CQ);refine Vj c [] ?_ ?_;(next=>exact CQ);refine VW c ?_ ?_ ?_;(next=>exact CQ);(next=>exact CQ))
                  rw[←n];repeat'(first|exact trivial|refine eS rfl ?_|refine AB ?_|refine rX c ?_ ?_)
                  ·exact CQ
                  ·exact CQ
                  ·refine⟨⟨(k+1,z-1,CP (0,0) m k z),by simp only;omega,by simp only;omega,g.trans o,M⟩,by simp only;omega,AC [(1000000,.nm 1000000)] rfl rfl ?_ ?_⟩
                   ·first|exact eN|refine eM ?_
                   ·simp only;rw[show ((z-1:Nat):Int)=(z:Int)-1 by omega];first|exact eN|refine eM ?_
end
section
attribute [local go_sem] Co
theorem A1S (l:List (Int×Int)) (am:l.length≤100000) (L:iK CA (0,0) l) (a b:Nat) (ak:a<b) (al:b≤l.length) (U:Bf CA (0,0) a b l):BL Tryz.prog 171 [.sr 1000000 BK 0 l.length,.p T3 (a:Int),.p T3 (b:Int),.fn 116] [(1000000,.arr 53 BK l)] [1000000] (fun res aj=>∃(w:Bool) (r:List (Int×Int)),res=.p .bool w∧aj=[(1000000,.arr 53 BK r)]∧Dv (0,0) a b l r∧(w=true→Qd CA (0,0) a b r)):=by
 refine La [0,1,2,3,8,9,10,11,12,16,36,41,45,65,69,84,104,109,124] [] [] Tryz.func171 Tryz.ntmps171 (AE Eo AG) ?_;intro w0 K O0 ρ0 f an ao;simp only[Ao];repeat'(first|exact trivial|refine eS rfl ?_|refine AB ?_|refine rX f ?_ ?_|refine rC ?_ ?_<;>intro q<;>try(cases q;done))
 ·exact CQ
 ·refine AI (ι:={s:Nat×Nat×List (Int×Int)//(a+1≤s.1∧s.1≤b)∧s.2.1≤5∧Dv (0,0) a b l s.2.2∧Qd CA (0,0) a s.1 s.2.2}) (fun s=>⟨[(0,.sr 1000000 BK 0 l.length),(1,.p T3 (a:Int)),(2,.p T3 (b:Int)),(3,.fn 116),(9,.p (.int .i64) (s.1.1:Int)),(10,.p (.int .i64) (s.1.2.1:Int))],[(1000000,.arr 53 BK s.1.2.2)]⟩) (fun s=>5-s.1.2.1) ⟨(a+1,0,l),by simp only;omega,IN _,Dv.refl a b l,YD a l⟩ (AC [(1000000,.nm 1000000)] rfl rfl ?_ ?_) (fun s=>?_)
  ·first|exact eN|refine eM ?_
  ·first|exact eN|refine eM ?_
  ·obtain⟨⟨i,t,m⟩,⟨ab,N⟩,ai,u,Q⟩:=s;simp only at ab N ai u Q ⊢;have P:=L.perm CF u.perm;have ah:=u.len;repeat'(first|exact trivial|refine eS rfl ?_|refine AB ?_|refine rX f ?_ ?_)
   refine rC (fun q=>?_) (fun q=>?_)
   ·repeat'(first|exact trivial|refine eS rfl ?_|refine AB ?_|refine rX f ?_ ?_)
    refine AI (ι:={k:Nat//i≤k∧k≤b∧Qd CA (0,0) a k m}) (fun s=>⟨[(0,.sr 1000000 BK 0 l.length),(1,.p T3 (a:Int)),(2,.p T3 (b:Int)),(3,.fn 116),(9,.p (.int .i64) (s.1:Int)),(10,.p (.int .i64) (t:Int))],[(1000000,.arr 53 BK m)]⟩) (fun s=>b-s.1) ⟨i,NO _,N,Q⟩ (AC [(1000000,.nm 1000000)] rfl rfl ?_ ?_) (fun s=>?_)
    ·first|exact eN|refine eM ?_
    ·first|exact eN|refine eM ?_
    ·obtain⟨k,ae,af,F⟩:=s;simp only at ae af F ⊢;have J:((k:Int)-1).toNat=k-1:=by omega
     repeat'(first|exact trivial|refine eS rfl ?_|refine AB ?_|refine rX f ?_ ?_)
     ·dsimp only[Ty.den];exact⟨fun _=>by omega,fun _=>by omega,fun _=>by omega⟩
     ·refine De (by simp only[go_sem,Nat.reduceEqDiff,reduceCtorEq,Nat.reduceAdd,Nat.reduceSub,Nat.reduceMul,Nat.reduceLeDiff,Nat.reduceLT,Int.reduceLE,Int.reduceToNat,Int.reduceNeg,↓reduceIte];rfl) ?_ ?_
      ·intro g;simp only[An,By,OF,On]at g;obtain⟨h1,z⟩:=g;rw[J]at z;have z:=P.lt CF (i:=k) (j:=k-1) (by omega) (by omega) (by omega) z;repeat'(first|exact trivial|refine eS rfl ?_|refine AB ?_|refine rX f ?_ ?_)
       ·exact CQ
       ·refine⟨⟨k+1,by omega,by omega,yT CF F (by omega) z⟩,by simp only;omega,AC [(1000000,.nm 1000000)] rfl rfl ?_ ?_⟩
        ·first|exact eN|refine eM ?_
        ·first|exact eN|refine eM ?_
      ·intro g;clear g;repeat'(first|exact trivial|refine eS rfl ?_|refine AB ?_|refine rX f ?_ ?_)
       refine rC (fun Z=>?_) (fun Z=>?_)
       ·have O:k=b:=by omega
        subst O;repeat'(first|exact trivial|refine eS rfl ?_|refine AB ?_|refine rX f ?_ ?_|refine rC ?_ ?_<;>intro q<;>try(cases q;done))
        exact fM f [.tmp 8] (.p .bool true) eT ⟨true,m,rfl,rfl,u,fun _=>F⟩
       ·have O:k<b:=by omega
        repeat'(first|exact trivial|refine eS rfl ?_|refine AB ?_|refine rX f ?_ ?_)
        ·exact CQ
        ·refine rC (fun aa=>?_) (fun aa=>?_)
         ·repeat'(first|exact trivial|refine eS rfl ?_|refine AB ?_|refine rX f ?_ ?_|refine rC ?_ ?_<;>intro q<;>try(cases q;done))
          exact fM f [.tmp 8] (.p .bool false) eT ⟨false,m,rfl,rfl,u,fun h=>by cases h⟩
         ·have v:Dv (0,0) a b m (CP (0,0) m k (k-1)):=Dv.swap m (by omega) (by omega) (by omega) (by omega) (by omega);have B:CP (0,0) m k (k-1)=(m.set k (m.getD (k-1) (0,0))).set (k-1) (m.getD k (0,0)):=rfl;have R:jV CA (0,0) a (k-1) (k-1) (CP (0,0) m k (k-1)):=⟨fun x y h0 h1 z S T=>by
           have M:=II (d:=(0,0)) (l:=m) (i:=k) (j:=k-1) (by omega) (by omega);rw[M x,M y,At S,At (show ¬x=k by omega),At T,At (show ¬y=k by omega)];exact F x y h0 h1 (by omega),fun y h1 z=>by omega⟩
          repeat'(first|exact trivial|refine eS rfl ?_|refine AB ?_|refine rP f ?_ ?_|fail)
          (refine DC drawsAny f 16 [([0,1,5,6,7,8,9,10,11,12,13,14],15)] [2,3,4] (by kernel_rfl) (Td ?_ ?_);(next=>exact CQ);refine Vj f [] ?_ ?_;(next=>exact CQ);refine VW f ?_ ?_ ?_;(next=>exact CQ);(next=>exact CQ))
          rw[J,←B];have I:=u.trans v;clear B v P ah;generalize CP (0,0) m k (k-1)=c0 at *;refine H3 ?_;refine Oo (ι:={c:List (Int×Int)//Dv (0,0) a b l c∧Qd CA (0,0) a k c}) (fun s=>⟨[(0,.sr 1000000 BK 0 l.length),(1,.p T3 (a:Int)),(2,.p T3 (b:Int)),(3,.fn 116),(9,.p (.int .i64) (k:Int)),(10,.p (.int .i64) (t:Int))],[(1000000,.arr 53 BK s.1)]⟩) ?_ (fun s=>?_)
          ·repeat'(first|exact trivial|refine eS rfl ?_|refine AB ?_|refine rX f ?_ ?_)
           ·exact CQ
           ·refine rC (fun G=>?_) (fun G=>?_)
            ·repeat'(first|exact trivial|refine eS rfl ?_|refine AB ?_|refine rX f ?_ ?_)
             ·exact CQ
             ·rw[show (k:Int)-1=((k-1:Nat):Int) by omega];refine AI (ι:={s:Nat×List (Int×Int)//(a≤s.1∧s.1≤k-1)∧Dv (0,0) a b l s.2∧jV CA (0,0) a (k-1) s.1 s.2}) (fun s=>⟨[(0,.sr 1000000 BK 0 l.length),(1,.p T3 (a:Int)),(2,.p T3 (b:Int)),(3,.fn 116),(9,.p (.int .i64) (k:Int)),(10,.p (.int .i64) (t:Int)),(11,.p (.int .i64) (s.1.1:Int))],[(1000000,.arr 53 BK s.1.2)]⟩) (fun s=>s.1.1) ⟨(k-1,c0),by simp only;omega,I,R⟩ (AC [(1000000,.nm 1000000)] rfl rfl ?_ ?_) (fun s=>?_)
              ·first|exact eN|refine eM ?_
              ·first|exact eN|refine eM ?_
              ·obtain⟨⟨j,c⟩,⟨D,A⟩,n,o⟩:=s;simp only at D A n o ⊢;have X:=L.perm CF n.perm;have Y:=n.len;have C:((j:Int)-1).toNat=j-1:=by omega
               have V:=U.pin n;repeat'(first|exact trivial|refine eS rfl ?_|refine AB ?_|refine rX f ?_ ?_)
               refine rC (fun H=>?_) (fun H=>?_)
               ·repeat'(first|exact trivial|refine eS rfl ?_|refine AB ?_|refine rX f ?_ ?_)
                ·exact CQ
                ·refine De (by simp only[go_sem,Nat.reduceEqDiff,reduceCtorEq,Nat.reduceAdd,Nat.reduceSub,Nat.reduceMul,Nat.reduceLeDiff,Nat.reduceLT,Int.reduceLE,Int.reduceToNat,Int.reduceNeg,↓reduceIte];rfl) ?_ ?_
                 ·intro g;simp only[OF,On]at g;rw[C]at g;have g:=X.lt CF (i:=j) (j:=j-1) (by omega) (by omega) (by omega) g;have E:=Tm CF o D A (.inr g);rw[show k-1+1=k by omega]at E;repeat'(first|exact trivial|refine eS rfl ?_|refine AB ?_|refine rX f ?_ ?_)
                  refine⟨⟨c,n,E⟩,AC [(1000000,.nm 1000000)] rfl rfl ?_ ?_⟩
                  ·first|exact eN|refine eM ?_
                  ·first|exact eN|refine eM ?_
                 ·intro g;simp only[AAI,By]at g;rw[C]at g;have g:CA (c.getD j (0,0)) (c.getD (j-1) (0,0))<0:=g;have W:a<j:=by
                   refine DO fun hn=>?_;have e:j=a:=by omega
                   subst e;rcases V with h|h
                   ·omega
                   ·have:=h j (NO _) (by omega);rw[CF.anti]at this;omega
                  have v:Dv (0,0) a b c (CP (0,0) c j (j-1)):=Dv.swap c (by omega) (by omega) (by omega) (by omega) (by omega);have B:CP (0,0) c j (j-1)=(c.set j (c.getD (j-1) (0,0))).set (j-1) (c.getD j (0,0)):=rfl;repeat'(first|exact trivial|refine eS rfl ?_|refine AB ?_|refine rP f ?_ ?_|fail)
                  (refine DC drawsAny f 16 [([0,1,5,6,7,8,9,10,11,12,13,14],15)] [2,3,4] (by kernel_rfl) (Td ?_ ?_);(next=>exact CQ);refine Vj f [] ?_ ?_;(next=>exact CQ);refine VW f ?_ ?_ ?_;(next=>exact CQ);(next=>exact CQ))
                  rw[C,←B];repeat'(first|exact trivial|refine eS rfl ?_|refine AB ?_|refine rX f ?_ ?_)
                  ·exact CQ
                  ·refine⟨⟨(j-1,CP (0,0) c j (j-1)),by simp only;omega,n.trans v,Wj o W A (by omega) g⟩,by simp only;omega,AC [(1000000,.nm 1000000)] rfl rfl ?_ ?_⟩
                   ·first|exact eN|refine eM ?_
                   ·simp only;rw[show ((j-1:Nat):Int)=(j:Int)-1 by omega];first|exact eN|refine eM ?_
               ·have ad:j=a:=by omega
                have E:=Tm CF o D A (.inl ad);rw[show k-1+1=k by omega]at E;repeat'(first|exact trivial|refine eS rfl ?_|refine AB ?_|refine rX f ?_ ?_)
                refine⟨⟨c,n,E⟩,AC [(1000000,.nm 1000000)] rfl rfl ?_ ?_⟩
                ·first|exact eN|refine eM ?_
                ·first|exact eN|refine eM ?_
            ·have ag:k=a+1:=by omega
             repeat'(first|exact trivial|refine eS rfl ?_|refine AB ?_|refine rX f ?_ ?_)
             refine⟨⟨c0,I,by rw[ag];exact YD a c0⟩,AC [(1000000,.nm 1000000)] rfl rfl ?_ ?_⟩
             ·first|exact eN|refine eM ?_
             ·first|exact eN|refine eM ?_
          ·obtain⟨c,n,o⟩:=s;simp only;clear I R;repeat'(first|exact trivial|refine eS rfl ?_|refine AB ?_|refine rX f ?_ ?_)
           ·exact CQ
           ·refine rC (fun G=>?_) (fun G=>?_)
            ·repeat'(first|exact trivial|refine eS rfl ?_|refine AB ?_|refine rX f ?_ ?_)
             ·exact CQ
             ·rw[show (k:Int)+1=((k+1:Nat):Int) by omega];refine AI (ι:={s:Nat×List (Int×Int)//(k+1≤s.1∧s.1≤b)∧Dv (0,0) a b l s.2∧Qd CA (0,0) a k s.2}) (fun s=>⟨[(0,.sr 1000000 BK 0 l.length),(1,.p T3 (a:Int)),(2,.p T3 (b:Int)),(3,.fn 116),(9,.p (.int .i64) (k:Int)),(10,.p (.int .i64) (t:Int)),(12,.p (.int .i64) (s.1.1:Int))],[(1000000,.arr 53 BK s.1.2)]⟩) (fun s=>b-s.1.1) ⟨(k+1,c),by simp only;omega,n,o⟩ (AC [(1000000,.nm 1000000)] rfl rfl ?_ ?_) (fun s=>?_)
              ·first|exact eN|refine eM ?_
              ·first|exact eN|refine eM ?_
              ·clear n o;obtain⟨⟨j,c⟩,⟨D,A⟩,n,o⟩:=s;simp only at D A n o ⊢;have Y:=n.len;have C:((j:Int)-1).toNat=j-1:=by omega
               repeat'(first|exact trivial|refine eS rfl ?_|refine AB ?_|refine rX f ?_ ?_)
               refine rC (fun H=>?_) (fun H=>?_)
               ·repeat'(first|exact trivial|refine eS rfl ?_|refine AB ?_|refine rX f ?_ ?_)
                ·exact CQ
                ·refine De (by simp only[go_sem,Nat.reduceEqDiff,reduceCtorEq,Nat.reduceAdd,Nat.reduceSub,Nat.reduceMul,Nat.reduceLeDiff,Nat.reduceLT,Int.reduceLE,Int.reduceToNat,Int.reduceNeg,↓reduceIte];rfl) ?_ ?_
                 ·intro g;clear g;repeat'(first|exact trivial|refine eS rfl ?_|refine AB ?_|refine rX f ?_ ?_)
                  ·exact CQ
                  ·refine⟨⟨(k,t+1,c),by simp only;omega,by simp only;omega,n,o⟩,by simp only;omega,AC [(1000000,.nm 1000000)] rfl rfl ?_ ?_⟩
                   ·first|exact eN|refine eM ?_
                   ·first|exact eN|refine eM ?_
                 ·intro g;clear g;have v:Dv (0,0) k b c (CP (0,0) c j (j-1)):=Dv.swap c (by omega) (by omega) (by omega) (by omega) (by omega);have B:CP (0,0) c j (j-1)=(c.set j (c.getD (j-1) (0,0))).set (j-1) (c.getD j (0,0)):=rfl;repeat'(first|exact trivial|refine eS rfl ?_|refine AB ?_|refine rP f ?_ ?_|fail)
                  (refine DC drawsAny f 16 [([0,1,5,6,7,8,9,10,11,12,13,14],15)] [2,3,4] (by kernel_rfl) (Td ?_ ?_);(next=>exact CQ);refine Vj f [] ?_ ?_;(next=>exact CQ);refine VW f ?_ ?_ ?_;(next=>exact CQ);(next=>exact CQ))
                  rw[C,←B];repeat'(first|exact trivial|refine eS rfl ?_|refine AB ?_|refine rX f ?_ ?_)
                  ·exact CQ
                  ·refine⟨⟨(j+1,CP (0,0) c j (j-1)),by simp only;omega,n.trans (v.mono (by omega) (NO _)),Mj o fun x ap aq=>v.out x (by omega)⟩,by simp only;omega,AC [(1000000,.nm 1000000)] rfl rfl ?_ ?_⟩
                   ·first|exact eN|refine eM ?_
                   ·first|exact eN|refine eM ?_
               ·repeat'(first|exact trivial|refine eS rfl ?_|refine AB ?_|refine rX f ?_ ?_)
                ·exact CQ
                ·refine⟨⟨(k,t+1,c),by simp only;omega,by simp only;omega,n,o⟩,by simp only;omega,AC [(1000000,.nm 1000000)] rfl rfl ?_ ?_⟩
                 ·first|exact eN|refine eM ?_
                 ·first|exact eN|refine eM ?_
            ·repeat'(first|exact trivial|refine eS rfl ?_|refine AB ?_|refine rX f ?_ ?_)
             ·exact CQ
             ·refine⟨⟨(k,t+1,c),by simp only;omega,by simp only;omega,n,o⟩,by simp only;omega,AC [(1000000,.nm 1000000)] rfl rfl ?_ ?_⟩
              ·first|exact eN|refine eM ?_
              ·first|exact eN|refine eM ?_
   ·repeat'(first|exact trivial|refine eS rfl ?_|refine AB ?_|refine rX f ?_ ?_|refine rC ?_ ?_<;>intro q<;>try(cases q;done))
    exact fM f [.tmp 8] (.p .bool false) eT ⟨false,m,rfl,rfl,u,fun h=>by cases h⟩
end
section
attribute [local go_sem] Co
def GQ (l:List (Int×Int)) (s:Nat):List (Nat×Obj):=[(1000000,.arr 53 BK l),(70,.box 3 false [.p T3 (s:Int)])]
theorem Tn (l:List (Int×Int)) (a b s:Nat) (f:a<l.length) (bl:b<l.length) (hs:s≤1000):BL Tryz.prog 185 [.sr 1000000 BK 0 l.length,.p T3 (a:Int),.p T3 (b:Int),.bp 70 [] 0,.fn 116] (GQ l s) [1000000,70] (fun res e=>∃x y t:Nat,res=.tup [.p T3 (x:Int),.p T3 (y:Int)]∧e=GQ l t∧((x=a∧y=b)∨(x=b∧y=a))∧t≤s+1):=by
 refine La [0,1,2,3,4,10,11,22] [] [] Tryz.func185 Tryz.ntmps185 (AE Eo AG) ?_;intro w0 K O0 ρ0 c g h;simp only[Ao,GQ];repeat'(first|exact trivial|refine eS rfl ?_|refine AB ?_|refine rX c ?_ ?_|refine rC ?_ ?_<;>intro d<;>try(cases d;done))
 ·exact CQ
 ·exact CQ
 ·refine fM c [.tmp 10,.tmp 11] (.tup [.p T3 (b:Int),.p T3 (a:Int)]) eT ⟨b,a,s+1,rfl,?_,.inr ⟨rfl,rfl⟩,NO _⟩;rw[show ((s+1:Nat):Int)=(s:Int)+1 by omega]
 ·exact fM c [.tmp 10,.tmp 11] (.tup [.p T3 (a:Int),.p T3 (b:Int)]) eT ⟨a,b,s,rfl,rfl,.inl ⟨rfl,rfl⟩,by omega⟩
theorem YE (l:List (Int×Int)) (a b c s:Nat) (j:a<l.length) (bl:b<l.length) (cl:c<l.length) (hs:s≤900):BL Tryz.prog 182 [.sr 1000000 BK 0 l.length,.p T3 (a:Int),.p T3 (b:Int),.p T3 (c:Int),.bp 70 [] 0,.fn 116] (GQ l s) [1000000,70] (fun res k=>∃x t:Nat,res=.p T3 (x:Int)∧k=GQ l t∧(x=a∨x=b∨x=c)∧t≤s+3):=by
 refine La [0,1,2,3,4,5,12] [] [] Tryz.func182 Tryz.ntmps182 AG ?_;intro w0 K O0 ρ0 d o q;simp only[Ao,GQ];repeat'(first|exact trivial|refine eS rfl ?_|refine AB ?_|refine rX d ?_ ?_|refine rC ?_ ?_<;>intro e<;>try(cases e;done))
 refine cP 5 d ?_ ?_
 ·trivial
 ·refine rM d (Tn l a b s j bl (by omega)) [(1000000,.nm 1000000),(70,.nm 70)] [] ?_ ?_ ?_
  ·first|exact eN|refine eM ?_
  ·simp only[GQ];first|exact eN|refine eM ?_
  ·rintro _ _ ⟨g,b1,s1,rfl,rfl,h1,r⟩;refine⟨[(1000000,.nm 1000000),(70,.nm 70)],.tup [.p T3 (g:Int),.p T3 (b1:Int)],[(1000000,.arr 53 BK l),(70,.box 3 false [.p T3 (s1:Int)])],rfl,rfl,?_,?_,rfl,rfl,?_⟩
   ·simp only[GQ];first|exact eN|refine eM ?_
   ·first|exact eN|refine eM ?_
   ·refine rL d ?_ ?_
    ·trivial
    ·repeat'(first|exact trivial|refine eS rfl ?_|refine AB ?_|refine rX d ?_ ?_|refine rC ?_ ?_<;>intro e<;>try(cases e;done))
     refine cP 5 d ?_ ?_
     ·trivial
     ·refine rM d (Tn l b1 c s1 (by omega) cl (by omega)) [(1000000,.nm 1000000),(70,.nm 70)] [] ?_ ?_ ?_
      ·first|exact eN|refine eM ?_
      ·simp only[GQ];first|exact eN|refine eM ?_
      ·rintro _ _ ⟨b2,c2,s2,rfl,rfl,m,u⟩;refine⟨[(1000000,.nm 1000000),(70,.nm 70)],.tup [.p T3 (b2:Int),.p T3 (c2:Int)],[(1000000,.arr 53 BK l),(70,.box 3 false [.p T3 (s2:Int)])],rfl,rfl,?_,?_,rfl,rfl,?_⟩
       ·simp only[GQ];first|exact eN|refine eM ?_
       ·first|exact eN|refine eM ?_
       ·refine rL d ?_ ?_
        ·trivial
        ·repeat'(first|exact trivial|refine eS rfl ?_|refine AB ?_|refine rX d ?_ ?_|refine rC ?_ ?_<;>intro e<;>try(cases e;done))
         refine cP 5 d ?_ ?_
         ·trivial
         ·refine rM d (Tn l g b2 s2 (by omega) (by omega) (by omega)) [(1000000,.nm 1000000),(70,.nm 70)] [] ?_ ?_ ?_
          ·first|exact eN|refine eM ?_
          ·simp only[GQ];first|exact eN|refine eM ?_
          ·rintro _ _ ⟨i,f,h,rfl,rfl,n,v⟩;refine⟨[(1000000,.nm 1000000),(70,.nm 70)],.tup [.p T3 (i:Int),.p T3 (f:Int)],[(1000000,.arr 53 BK l),(70,.box 3 false [.p T3 (h:Int)])],rfl,rfl,?_,?_,rfl,rfl,?_⟩
           ·simp only[GQ];first|exact eN|refine eM ?_
           ·first|exact eN|refine eM ?_
           ·refine rL d ?_ ?_
            ·trivial
            ·repeat'(first|exact trivial|refine eS rfl ?_|refine AB ?_|refine rX d ?_ ?_|refine rC ?_ ?_<;>intro e<;>try(cases e;done))
             exact fM d [.tmp 12] (.p T3 (f:Int)) eT ⟨f,h,rfl,rfl,by omega,by omega⟩
theorem YF (l:List (Int×Int)) (b s:Nat) (f:1≤b) (bl:b+1<l.length) (g:l.length≤100000) (hs:s≤900):BL Tryz.prog 181 [.sr 1000000 BK 0 l.length,.p T3 (b:Int),.bp 70 [] 0,.fn 116] (GQ l s) [1000000,70] (fun res e=>∃x t:Nat,res=.p T3 (x:Int)∧e=GQ l t∧(b-1≤x∧x≤b+1)∧t≤s+3):=by
 refine La [0,1,2,3,8] [] [] Tryz.func181 Tryz.ntmps181 AG ?_;intro w0 K O0 ρ0 a h i;simp only[Ao,GQ];have key:=YE l (b-1) b (b+1) s (by omega) (by omega) bl hs;rw[show ((b-1:Nat):Int)=(b:Int)-1 by omega,show ((b+1:Nat):Int)=(b:Int)+1 by omega]at key;repeat'(first|exact trivial|refine eS rfl ?_|refine AB ?_|refine rX a ?_ ?_|refine rC ?_ ?_<;>intro c<;>try(cases c;done))
 refine cP 8 a ?_ ?_
 ·exact CQ
 ·refine rM a (key) [(1000000,.nm 1000000),(70,.nm 70)] [] ?_ ?_ ?_
  ·first|exact eN|refine eM ?_
  ·simp only[GQ];first|exact eN|refine eM ?_
  ·rintro _ _ ⟨x,t,rfl,rfl,j,d⟩;refine⟨[(1000000,.nm 1000000),(70,.nm 70)],.p T3 (x:Int),[(1000000,.arr 53 BK l),(70,.box 3 false [.p T3 (t:Int)])],rfl,rfl,?_,?_,rfl,rfl,?_⟩
   ·simp only[GQ];first|exact eN|refine eM ?_
   ·first|exact eN|refine eM ?_
   ·refine rL a ?_ ?_
    ·trivial
    ·repeat'(first|exact trivial|refine eS rfl ?_|refine AB ?_|refine rX a ?_ ?_|refine rC ?_ ?_<;>intro c<;>try(cases c;done))
     exact fM a [.tmp 8] (.p T3 (x:Int)) eT ⟨x,t,rfl,rfl,by omega,d⟩
theorem A1T (l:List (Int×Int)) (k:l.length≤100000) (a b:Nat) (z:a+13≤b) (A:b≤l.length):BL Tryz.prog 169 [.sr 1000000 BK 0 l.length,.p T3 (a:Int),.p T3 (b:Int),.fn 116] [(1000000,.arr 53 BK l)] [1000000] (fun res y=>∃(j:Nat) (h:Int),res=.tup [.p T3 (j:Int),.p T3 h]∧y=[(1000000,.arr 53 BK l)]∧a≤j∧j<b):=by
 refine La [0,1,2,3,8,9,10,11,12,13,14,34,36,55,57,60] [] [] Tryz.func169 Tryz.ntmps169 AG ?_;intro w0 K O0 ρ0 c B C;simp only[Ao];obtain⟨t,v⟩:∃t,t=(b-a) / 4:=⟨_,rfl⟩;have et:((b:Int)-(a:Int)).tdiv 4=(t:Int):=by
  rw[AAp (by omega)];omega
 have G:4*t≤b-a:=by omega
 have H:3≤t:=by omega
 clear v
 (refine eS rfl ?_;refine rX c ?_ ?_;(next=>first|exact trivial|exact CQ))
 (refine eS rfl ?_;refine rX c ?_ ?_;(next=>first|exact trivial|exact CQ))
 (refine eS rfl ?_;refine rX c ?_ ?_;(next=>first|exact trivial|exact CQ))
 (refine eS rfl ?_;refine rX c ?_ ?_;(next=>first|exact trivial|exact CQ|(rw[et];refine⟨⟨by decide,?_⟩,?_,?_⟩<;>omega)))
 (refine eS rfl ?_;refine rX c ?_ ?_;(next=>first|exact trivial|exact CQ|(rw[et];refine⟨⟨by decide,?_⟩,?_,?_⟩<;>omega)))
 (refine eS rfl ?_;refine rX c ?_ ?_;(next=>first|exact trivial|exact CQ|(rw[et];refine⟨⟨by decide,?_⟩,?_,?_⟩<;>omega)))
 rw[et,show (a:Int)+(t:Int)*1=((a+t:Nat):Int) by omega,show (a:Int)+(t:Int)*2=((a+t*2:Nat):Int) by omega,show (a:Int)+(t:Int)*3=((a+t*3:Nat):Int) by omega];refine H3 ?_;refine Oo (ι:={x:Nat×Nat//a≤x.1∧x.1<b}) (fun x=>⟨[(11,.bp 11 [] 0),(13,.p T3 (x.1.1:Int))],[(1000000,.arr 53 BK l),(11,.box 3 false [.p T3 (x.1.2:Int)])]⟩) ?_ (fun x=>?_)
 ·repeat'(first|exact trivial|refine eS rfl ?_|refine AB ?_|refine rX c ?_ ?_)
  refine rC (fun i=>?_) (fun i=>?_)
  ·repeat'(first|exact trivial|refine eS rfl ?_|refine AB ?_|refine rX c ?_ ?_)
   refine rC (fun r=>?_) (fun r=>?_)
   ·repeat'(first|exact trivial|refine eS rfl ?_|refine AB ?_|refine rP c ?_ ?_|fail)
    refine cP 3 c ?_ ?_
    ·trivial
    ·refine rM c (YF l (a+t) 0 (by omega) (by omega) k (by omega)) [(1000000,.nm 1000000),(70,.nm 11)] [] ?_ ?_ ?_
     ·first|exact eN|refine eM ?_
     ·simp only[GQ];first|exact eN|refine eM ?_
     ·rintro _ _ ⟨n,s1,rfl,rfl,I,D⟩;refine⟨[(1000000,.nm 1000000),(11,.nm 70)],.p T3 (n:Int),[(1000000,.arr 53 BK l),(11,.box 3 false [.p T3 (s1:Int)])],rfl,rfl,?_,?_,rfl,rfl,?_⟩
      ·simp only[GQ];first|exact eN|refine eM ?_
      ·first|exact eN|refine eM ?_
      ·refine rL c ?_ ?_
       ·trivial
       ·repeat'(first|exact trivial|refine eS rfl ?_|refine AB ?_|refine rX c ?_ ?_)
        refine cP 3 c ?_ ?_
        ·trivial
        ·refine rM c (YF l (a+t*2) s1 (by omega) (by omega) k (by omega)) [(1000000,.nm 1000000),(70,.nm 11)] [] ?_ ?_ ?_
         ·first|exact eN|refine eM ?_
         ·simp only[GQ];first|exact eN|refine eM ?_
         ·rintro _ _ ⟨o,s2,rfl,rfl,J,E⟩;refine⟨[(1000000,.nm 1000000),(11,.nm 70)],.p T3 (o:Int),[(1000000,.arr 53 BK l),(11,.box 3 false [.p T3 (s2:Int)])],rfl,rfl,?_,?_,rfl,rfl,?_⟩
          ·simp only[GQ];first|exact eN|refine eM ?_
          ·first|exact eN|refine eM ?_
          ·refine rL c ?_ ?_
           ·trivial
           ·repeat'(first|exact trivial|refine eS rfl ?_|refine AB ?_|refine rX c ?_ ?_)
            refine cP 3 c ?_ ?_
            ·trivial
            ·refine rM c (YF l (a+t*3) s2 (by omega) (by omega) k (by omega)) [(1000000,.nm 1000000),(70,.nm 11)] [] ?_ ?_ ?_
             ·first|exact eN|refine eM ?_
             ·simp only[GQ];first|exact eN|refine eM ?_
             ·rintro _ _ ⟨q,m,rfl,rfl,L,F⟩;refine⟨[(1000000,.nm 1000000),(11,.nm 70)],.p T3 (q:Int),[(1000000,.arr 53 BK l),(11,.box 3 false [.p T3 (m:Int)])],rfl,rfl,?_,?_,rfl,rfl,?_⟩
              ·simp only[GQ];first|exact eN|refine eM ?_
              ·first|exact eN|refine eM ?_
              ·refine rL c ?_ ?_
               ·trivial
               ·repeat'(first|exact trivial|refine eS rfl ?_|refine AB ?_|refine rX c ?_ ?_)
                refine cP 5 c ?_ ?_
                ·trivial
                ·refine rM c (YE l (n) (o) (q) m (by omega) (by omega) (by omega) (by omega)) [(1000000,.nm 1000000),(70,.nm 11)] [] ?_ ?_ ?_
                 ·first|exact eN|refine eM ?_
                 ·simp only[GQ];first|exact eN|refine eM ?_
                 ·rintro _ _ ⟨e,d,rfl,rfl,w,u⟩;refine⟨[(1000000,.nm 1000000),(11,.nm 70)],.p T3 (e:Int),[(1000000,.arr 53 BK l),(11,.box 3 false [.p T3 (d:Int)])],rfl,rfl,?_,?_,rfl,rfl,?_⟩
                  ·simp only[GQ];first|exact eN|refine eM ?_
                  ·first|exact eN|refine eM ?_
                  ·refine rL c ?_ ?_
                   ·trivial
                   ·repeat'(first|exact trivial|refine eS rfl ?_|refine AB ?_|refine rX c ?_ ?_)
                    refine⟨⟨(e,d),by simp only;omega,by simp only;omega⟩,AC [(1000000,.nm 1000000),(11,.nm 11)] rfl rfl ?_ ?_⟩
                    ·first|exact eN|refine eM ?_
                    ·first|exact eN|refine eM ?_
   ·repeat'(first|exact trivial|refine eS rfl ?_|refine AB ?_|refine rP c ?_ ?_|fail)
    refine cP 5 c ?_ ?_
    ·trivial
    ·refine rM c (YE l (a+t) (a+t*2) (a+t*3) 0 (by omega) (by omega) (by omega) (by omega)) [(1000000,.nm 1000000),(70,.nm 11)] [] ?_ ?_ ?_
     ·first|exact eN|refine eM ?_
     ·simp only[GQ];first|exact eN|refine eM ?_
     ·rintro _ _ ⟨e,d,rfl,rfl,w,u⟩;refine⟨[(1000000,.nm 1000000),(11,.nm 70)],.p T3 (e:Int),[(1000000,.arr 53 BK l),(11,.box 3 false [.p T3 (d:Int)])],rfl,rfl,?_,?_,rfl,rfl,?_⟩
      ·simp only[GQ];first|exact eN|refine eM ?_
      ·first|exact eN|refine eM ?_
      ·refine rL c ?_ ?_
       ·trivial
       ·repeat'(first|exact trivial|refine eS rfl ?_|refine AB ?_|refine rX c ?_ ?_)
        refine⟨⟨(e,d),by simp only;omega,by simp only;omega⟩,AC [(1000000,.nm 1000000),(11,.nm 11)] rfl rfl ?_ ?_⟩
        ·first|exact eN|refine eM ?_
        ·first|exact eN|refine eM ?_
  ·exfalso;omega
 ·obtain⟨⟨j,s⟩,f,g⟩:=x;simp only at f g ⊢;repeat'(first|exact trivial|refine eS rfl ?_|refine AB ?_|refine rX c ?_ ?_|refine rC ?_ ?_<;>intro i<;>try(cases i;done))
  ·refine Ev.ent (σ':=⟨[(8,.p T3 (j:Int)),(9,.p T3 (1:Int))],[(1000000,.arr 53 BK l)]⟩) ?_ (AC [(1000000,.nm 1000000)] rfl rfl ?_ ?_)
   ·exact fM c [.tmp 8,.tmp 9] (.tup [.p T3 (j:Int),.p T3 (1:Int)]) eT ⟨j,1,rfl,rfl,f,g⟩
   ·first|exact eN|refine eM ?_
   ·first|exact eN|refine eM ?_
  ·refine Ev.ent (σ':=⟨[(8,.p T3 (j:Int)),(9,.p T3 (2:Int))],[(1000000,.arr 53 BK l)]⟩) ?_ (AC [(1000000,.nm 1000000)] rfl rfl ?_ ?_)
   ·exact fM c [.tmp 8,.tmp 9] (.tup [.p T3 (j:Int),.p T3 (2:Int)]) eT ⟨j,2,rfl,rfl,f,g⟩
   ·first|exact eN|refine eM ?_
   ·first|exact eN|refine eM ?_
  ·refine Ev.ent (σ':=⟨[(8,.p T3 (j:Int)),(9,.p T3 (0:Int))],[(1000000,.arr 53 BK l)]⟩) ?_ (AC [(1000000,.nm 1000000)] rfl rfl ?_ ?_)
   ·exact fM c [.tmp 8,.tmp 9] (.tup [.p T3 (j:Int),.p T3 (0:Int)]) eT ⟨j,0,rfl,rfl,f,g⟩
   ·first|exact eN|refine eM ?_
   ·first|exact eN|refine eM ?_
end
theorem A1U (x y:Int) (h0:0≤y) (h1:y<4611686018427387904):0≤B6 .and .u64 x y∧B6 .and .u64 x y≤y:=by
 have e:(IntKind.u64).bits=64:=rfl;have a:(BitVec.ofInt 64 y).toNat=y.toNat:=by
  rw[BitVec.toNat_ofInt];omega
 have d:(BitVec.ofInt 64 x &&& BitVec.ofInt 64 y).toNat≤y.toNat:=by
  rw[BitVec.toNat_and,a];exact Nat.and_le_right
 have b:B6 .and .u64 x y=IntKind.u64.wrap (((BitVec.ofInt 64 x &&& BitVec.ofInt 64 y).toNat:Nat):Int):=rfl;rw[b];generalize (BitVec.ofInt 64 x &&& BitVec.ofInt 64 y).toNat=z at *;have c:IntKind.u64.wrap (z:Int)=(z:Int):=by
  have f:(z:Int)<18446744073709551616:=by omega
  have:IntKind.u64.wrap (z:Int)=(z:Int) % 18446744073709551616:=by
   first|rfl|(simp[IntKind.wrap];done)
  rw[this];omega
 rw[c];omega
theorem A6t (z:Int):0≤IntKind.u64.wrap z∧IntKind.u64.wrap z≤18446744073709551615:=by
 have:IntKind.u64.wrap z=z % 18446744073709551616:=by
  first|rfl|(simp[IntKind.wrap];done)
 omega
theorem eE (x y:Int):0≤B6 .xor .u64 x y∧B6 .xor .u64 x y≤18446744073709551615:=A6t _
theorem yX {x:Int} (h0:0≤x) (h1:x≤18446744073709551615):0≤VY .u64 x 7∧VY .u64 x 7≤18446744073709551615:=by
 show 0≤x.fdiv 128∧x.fdiv 128≤18446744073709551615;rw[ABH _ (by decide)];omega
theorem rE (x:Int) (h0:0≤x) (h1:x<256):BL Tryz.prog 175 [.p (.int .u64) x] [] [] (fun res f=>(∃n:Nat,res=.p T3 (n:Int)∧n≤8∧(1≤x.toNat→x.toNat<2 ^ n∧2 ^ n≤2*x.toNat))∧f=[]):=by
 refine La [0,2,4,8,14] [] [] Tryz.func175 Tryz.ntmps175 AG ?_;intro w0 K O0 ρ0 b g h;simp only[Ao];repeat'(first|exact trivial|refine eS rfl ?_|refine AB ?_|refine rX b ?_ ?_|refine rC ?_ ?_<;>intro a<;>try(cases a;done))
 all_goals first|(exfalso;omega)|skip
 refine Lv [0,2] b rfl (by simp only[go_sem,Nat.reduceEqDiff,reduceCtorEq,Nat.reduceAdd,Nat.reduceSub,Nat.reduceMul,Nat.reduceLeDiff,Nat.reduceLT,Int.reduceLE,Int.reduceToNat,Int.reduceNeg,↓reduceIte,ByteArray.size,List.size_toArray,AO];rfl) ?_ ?_
 ·have hu:∀u:UInt8,((u.toNat:Nat):Int)≤255:=fun u=>by have:=u.toNat_lt;omega
  have c:0≤x:=by omega
  refine⟨⟨c,by omega⟩,⟨c,?_⟩,⟨?_,?_⟩,?_,?_⟩
  ·have d:x<((256:Nat):Int):=h1;exact d
  ·exact AB5 (by decide) (oN _)
  ·exact AB5 (hu _) (by decide)
  ·rw[Int.zero_add];exact AB5 (by decide) (oN _)
  ·rw[Int.zero_add];exact AB5 (hu _) (by decide)
 ·repeat'(first|exact trivial|refine eS rfl ?_|refine AB ?_|refine rX b ?_ ?_|refine rC ?_ ?_<;>intro a<;>try(cases a;done))
  refine fM b [.tmp 2] (.p T3 _) (by simp only[TJ,p8,QU,WP,H5,KX,JU,go_sem,Nat.reduceEqDiff,reduceCtorEq,Nat.reduceAdd,Nat.reduceSub,Nat.reduceMul,Nat.reduceLeDiff,Nat.reduceLT,Int.reduceLE,Int.reduceToNat,Int.reduceNeg,↓reduceIte];rfl) ⟨⟨_,by rw[Int.zero_add],?_⟩,rfl⟩;have e:x.toNat<256:=by omega
  generalize x.toNat=k at *;clear a;revert e;revert k;decide
theorem nR (x:Int) (h0:0≤x) (h1:x<256):BL Tryz.prog 164 [.p (.int .u64) x] [] [] (fun res d=>(∃n:Nat,res=.p T3 (n:Int)∧n≤8∧(1≤x.toNat→x.toNat<2 ^ n∧2 ^ n≤2*x.toNat))∧d=[]):=by
 refine La [0,2] [] [] Tryz.func164 Tryz.ntmps164 AG ?_;intro w0 K O0 ρ0 a e f;simp only[Ao];repeat'(first|exact trivial|refine eS rfl ?_|refine AB ?_|refine rX a ?_ ?_|refine rC ?_ ?_<;>intro b<;>try(cases b;done))
 refine cP 1 a ?_ ?_
 ·trivial
 ·refine rM a (rE x h0 h1) [] [] ?_ ?_ ?_
  ·first|exact eN|refine eM ?_
  ·first|exact eN|refine eM ?_
  ·rintro _ _ ⟨⟨n,rfl,c⟩,rfl⟩;refine⟨[],.p T3 (n:Int),[],rfl,rfl,?_,?_,rfl,rfl,?_⟩
   ·first|exact eN|refine eM ?_
   ·first|exact eN|refine eM ?_
   ·refine rL a ?_ ?_
    ·trivial
    ·repeat'(first|exact trivial|refine eS rfl ?_|refine AB ?_|refine rX a ?_ ?_|refine rC ?_ ?_<;>intro b<;>try(cases b;done))
     exact fM a [.tmp 2] (.p T3 (n:Int)) eT ⟨⟨n,rfl,c⟩,rfl⟩
theorem A1V (x:Int) (h0:1≤x) (h1:x<256):BL Tryz.prog 179 [.p T3 x] [] [] (fun res g=>(∃m:Nat,res=.p (.int .u64) (m:Int)∧x.toNat<m∧m≤2*x.toNat)∧g=[]):=by
 refine La [0,2] [] [] Tryz.func179 Tryz.ntmps179 AG ?_;intro w0 K O0 ρ0 a i j;simp only[Ao];repeat'(first|exact trivial|refine eS rfl ?_|refine AB ?_|refine rX a ?_ ?_|refine rC ?_ ?_<;>intro b<;>try(cases b;done))
 refine cP 2 a ?_ ?_
 ·exact CQ
 ·refine rM a (nR x (by omega) h1) [] [] ?_ ?_ ?_
  ·first|exact eN|refine eM ?_
  ·first|exact eN|refine eM ?_
  ·rintro _ _ ⟨⟨n,rfl,h,f⟩,rfl⟩;obtain⟨c,d⟩:=f (by omega);refine⟨[],.p T3 (n:Int),[],rfl,rfl,?_,?_,rfl,rfl,?_⟩
   ·first|exact eN|refine eM ?_
   ·first|exact eN|refine eM ?_
   ·refine rL a ?_ ?_
    ·trivial
    ·have e:R7 .u64 1 (n:Int)=((2 ^ n:Nat):Int):=by
      clear c d;have:∀n:Fin 9,R7 .u64 1 ((n.val:Nat):Int)=((2 ^ n.val:Nat):Int):=by decide
      exact this ⟨n,by omega⟩
     rw[e];repeat'(first|exact trivial|refine eS rfl ?_|refine AB ?_|refine rX a ?_ ?_|refine rC ?_ ?_<;>intro b<;>try(cases b;done))
     exact fM a [.tmp 2] (.p (.int .u64) ((2 ^ n:Nat):Int)) eT ⟨⟨_,rfl,c,d⟩,rfl⟩
theorem A1W (s:Int) (hs:0≤s∧s≤18446744073709551615):BL Tryz.prog 180 [.bp 70 [] 0] [(70,.box 213 false [.p (.int .u64) s])] [70] (fun res c=>∃v:Int,(0≤v∧v≤18446744073709551615)∧res=.p (.int .u64) v∧c=[(70,.box 213 false [.p (.int .u64) v])]):=by
 refine La [0,2] [] [] Tryz.func180 Tryz.ntmps180 AG ?_;intro w0 K O0 ρ0 a d e;simp only[Ao];repeat'(first|exact trivial|refine eS rfl ?_|refine AB ?_|refine rX a ?_ ?_|refine rC ?_ ?_<;>intro b<;>try(cases b;done))
 ·have:=eE s (R7 .u64 s 13);exact yX this.1 this.2
 ·exact fM a [.tmp 2] (.p (.int .u64) _) eT ⟨_,eE _ _,rfl,rfl⟩
section
attribute [local go_sem] Co
theorem A1X (l:List (Int×Int)) (J:l.length<256) (a b:Nat) (F:a+8≤b) (H:b≤l.length):BL Tryz.prog 168 [.sr 1000000 BK 0 l.length,.p T3 (a:Int),.p T3 (b:Int),.fn 116] [(1000000,.arr 53 BK l)] [1000000] (fun res E=>res=.raw (.tuple #[])∧∃r,E=[(1000000,.arr 53 BK r)]∧Dv (0,0) a b l r):=by
 refine La [0,1,2,8,9,10,11,12,17,35,45] [] [] Tryz.func168 Tryz.ntmps168 AG ?_;intro w0 K O0 ρ0 d L M;simp only[Ao];obtain⟨n,hn⟩:∃n,b=a+n:=⟨b-a,by omega⟩;subst hn;have en:((a+n:Nat):Int)-(a:Int)=(n:Int):=by omega
 obtain⟨t,D⟩:∃t,t=n / 4:=⟨_,rfl⟩;have et:(n:Int).tdiv 4=(t:Int):=by
  rw[AAp (by omega)];omega
 have N:4*t≤n:=by omega
 have O:2≤t:=by omega
 clear D
 (refine eS rfl ?_;refine rX d ?_ ?_;(next=>first|exact trivial|exact CQ))
 rw[en];repeat'(first|exact trivial|refine eS rfl ?_|refine AB ?_|refine rX d ?_ ?_)
 refine rC (fun e=>?_) (fun e=>?_)
 ·repeat'(first|exact trivial|refine eS rfl ?_|refine AB ?_|refine rX d ?_ ?_)
  ·exact CQ
  ·refine cP 1 d ?_ ?_
   ·trivial
   ·refine rM d (A1V (n:Int) (by omega) (by omega)) [] [] ?_ ?_ ?_
    ·first|exact eN|refine eM ?_
    ·first|exact eN|refine eM ?_
    ·rintro _ _ ⟨⟨m,rfl,A,B⟩,rfl⟩;rw[f7]at A B;refine⟨[],.p (.int .u64) (m:Int),[],rfl,rfl,?_,?_,rfl,rfl,?_⟩
     ·first|exact eN|refine eM ?_
     ·first|exact eN|refine eM ?_
     ·refine rL d ?_ ?_
      ·trivial
      ·repeat'(first|exact trivial|refine eS rfl ?_|refine AB ?_|refine rX d ?_ ?_)
       ·rw[et];refine⟨⟨by decide,?_⟩,?_,?_,?_⟩<;>omega
       ·rw[et,show (a:Int)+(t:Int)*2-1=((a+t*2-1:Nat):Int) by omega];refine AI (ι:={s:Nat×Int×List (Int×Int)//(a≤s.1∧s.1≤a+t*2+2)∧(0≤s.2.1∧s.2.1≤18446744073709551615)∧Dv (0,0) a (a+n) l s.2.2}) (fun s=>⟨[(0,.sr 1000000 BK 0 l.length),(1,.p T3 (a:Int)),(8,.p (.int .i64) (n:Int)),(9,.bp 9 [] 0),(10,.p (.int .u64) (m:Int)),(11,.p (.int .i64) (s.1.1:Int))],[(1000000,.arr 53 BK s.1.2.2),(9,.box 213 false [.p (.int .u64) s.1.2.1])]⟩) (fun s=>a+t*2+2-s.1.1) ⟨(a+t*2-1,(n:Int),l),by simp only;omega,by simp only;omega,Dv.refl _ _ l⟩ (AC [(1000000,.nm 1000000),(9,.nm 9)] rfl rfl ?_ ?_) (fun s=>?_)
        ·first|exact eN|refine eM ?_
        ·first|exact eN|refine eM ?_
        ·obtain⟨⟨i,x,c⟩,⟨y,z⟩,q,hp⟩:=s;simp only at y z q hp ⊢;have I:=hp.len;repeat'(first|exact trivial|refine eS rfl ?_|refine AB ?_|refine rX d ?_ ?_)
         ·rw[et];refine⟨⟨by decide,?_⟩,?_,?_,?_⟩<;>omega
         ·rw[et];refine rC (fun u=>?_) (fun u=>?_)
          ·refine eS rfl ?_;refine cP 0 d ?_ ?_
           ·trivial
           ·refine rM d (A1W x q) [(70,.nm 9)] [] ?_ ?_ ?_
            ·first|exact eN|refine eM ?_
            ·first|exact eN|refine eM ?_
            ·rintro _ _ ⟨v,k,rfl,rfl⟩;refine⟨[(9,.nm 70)],.p (.int .u64) v,[(9,.box 213 false [.p (.int .u64) v])],rfl,rfl,?_,?_,rfl,rfl,?_⟩
             ·first|exact eN|refine eM ?_
             ·first|exact eN|refine eM ?_
             ·have G:=A1U v ((m:Int)-1) (by omega) (by omega);refine rL d ?_ ?_
              ·exact⟨by omega,by omega⟩
              ·generalize B6 .and .u64 v ((m:Int)-1)=r at *;repeat'(first|exact trivial|refine eS rfl ?_|refine AB ?_|refine rX d ?_ ?_)
               refine rC (fun w=>?_) (fun w=>?_)
               ·obtain⟨o,g⟩:∃o:Nat,r-(n:Int)=(o:Int):=⟨(r-(n:Int)).toNat,by omega⟩;have C:o<n:=by omega
                refine rX d ?_ ?_
                ·exact CQ
                ·rw[g];have h:Dv (0,0) a (a+n) c (CP (0,0) c i (a+o)):=Dv.swap c (by omega) (by omega) (by omega) (by omega) (by omega);have j:CP (0,0) c i (a+o)=(c.set i (c.getD (a+o) (0,0))).set (a+o) (c.getD i (0,0)):=rfl;have f:((a:Int)+(o:Int)).toNat=a+o:=by omega
                 repeat'(first|exact trivial|refine eS rfl ?_|refine AB ?_|refine rP d ?_ ?_|fail)
                 (refine DC drawsAny d 18 [([0,1,6,7,8,9,10,11,12,13,14,15,16],17)] [2,3,4,5] (by kernel_rfl) (Td ?_ ?_);(next=>exact CQ);refine Vj d [] ?_ ?_;(next=>exact CQ);refine VW d ?_ ?_ ?_;(next=>exact CQ);(next=>exact CQ))
                 rw[f,←j];repeat'(first|exact trivial|refine eS rfl ?_|refine AB ?_|refine rX d ?_ ?_)
                 ·exact CQ
                 ·refine⟨⟨(i+1,v,CP (0,0) c i (a+o)),by simp only;omega,k,hp.trans h⟩,by simp only;omega,AC [(1000000,.nm 1000000),(9,.nm 9)] rfl rfl ?_ ?_⟩
                  ·first|exact eN|refine eM ?_
                  ·first|exact eN|refine eM ?_
               ·obtain⟨o,g⟩:∃o:Nat,r=(o:Int):=⟨r.toNat,by omega⟩;subst g;have C:o<n:=by omega
                have h:Dv (0,0) a (a+n) c (CP (0,0) c i (a+o)):=Dv.swap c (by omega) (by omega) (by omega) (by omega) (by omega);have j:CP (0,0) c i (a+o)=(c.set i (c.getD (a+o) (0,0))).set (a+o) (c.getD i (0,0)):=rfl;have f:((a:Int)+(o:Int)).toNat=a+o:=by omega
                repeat'(first|exact trivial|refine eS rfl ?_|refine AB ?_|refine rP d ?_ ?_|fail)
                (refine DC drawsAny d 18 [([0,1,6,7,8,9,10,11,12,13,14,15,16],17)] [2,3,4,5] (by kernel_rfl) (Td ?_ ?_);(next=>exact CQ);refine Vj d [] ?_ ?_;(next=>exact CQ);refine VW d ?_ ?_ ?_;(next=>exact CQ);(next=>exact CQ))
                rw[f,←j];repeat'(first|exact trivial|refine eS rfl ?_|refine AB ?_|refine rX d ?_ ?_)
                ·exact CQ
                ·refine⟨⟨(i+1,v,CP (0,0) c i (a+o)),by simp only;omega,k,hp.trans h⟩,by simp only;omega,AC [(1000000,.nm 1000000),(9,.nm 9)] rfl rfl ?_ ?_⟩
                 ·first|exact eN|refine eM ?_
                 ·first|exact eN|refine eM ?_
          ·repeat'(first|exact trivial|refine eS rfl ?_|refine AB ?_|refine rX d ?_ ?_|refine rC ?_ ?_<;>intro e<;>try(cases e;done))
           refine Ev.ent (σ':=⟨[],[(1000000,.arr 53 BK c)]⟩) ?_ (AC [(1000000,.nm 1000000)] rfl rfl ?_ ?_)
           ·exact fM d [] (.raw (.tuple #[])) rfl ⟨rfl,c,rfl,hp⟩
           ·first|exact eN|refine eM ?_
           ·first|exact eN|refine eM ?_
 ·exfalso;omega
end
section
attribute [local go_sem] Co
def eF (l:List (Int×Int)) (a b c:Nat):Prop:=BL Tryz.prog 163 [.sr 1000000 BK 0 l.length,.p T3 (a:Int),.p T3 (b:Int),.p T3 (c:Int),.fn 116] [(1000000,.arr 53 BK l)] [1000000] (fun res d=>res=.raw (.tuple #[])∧∃r,d=[(1000000,.arr 53 BK r)]∧Dv (0,0) a b l r∧Qd CA (0,0) a b r)
theorem rF (l:List (Int×Int)) (az:l.length<256) (aa:iK CA (0,0) l) (a b S:Nat) (ar:a≤b) (ay:b≤l.length) (av:S≤1000) (aq:Bf CA (0,0) a b l)
  (V:∀(l':List (Int×Int)),l'.length<256→iK CA (0,0) l'→∀J b' an:Nat,b'-J<b-a→J≤b'→b'≤l'.length→an≤1000→Bf CA (0,0) J b' l'→eF l' J b' an):eF l a b S:=by
 unfold eF;refine La [0,1,2,3,4,10,11,12,13,14,15,16,17,18,19,20,25,32,39,56,75,80,97,125] [] [] Tryz.func163 Tryz.ntmps163 (AE Eo AG) ?_;intro w0 K O0 ρ0 c bb bc;simp only[Ao];repeat'(first|exact trivial|refine eS rfl ?_|refine AB ?_|refine rX c ?_ ?_)
 refine AI (ι:={s:(Nat×Nat×Nat)×(Bool×Bool)×List (Int×Int)//q9 CA (0,0) a b s.1.1 s.1.2.1 s.2.2∧Dv (0,0) a b l s.2.2∧Bf CA (0,0) s.1.1 s.1.2.1 s.2.2∧s.1.2.2≤1000}) (fun s=>⟨[(0,.sr 1000000 BK 0 l.length),(1,.p T3 (s.1.1.1:Int)),(2,.p T3 (s.1.1.2.1:Int)),(3,.p T3 (s.1.1.2.2:Int)),(4,.fn 116),(10,.p .bool s.1.2.1.1),(11,.p .bool s.1.2.1.2)],[(1000000,.arr 53 BK s.1.2.2)]⟩) (fun s=>s.1.1.2.1-s.1.1.1) ⟨((a,b,S),(true,true),l),rA ar l,Dv.refl a b l,aq,av⟩ (AC [(1000000,.nm 1000000)] rfl rfl ?_ ?_) (fun s=>?_)
 ·first|exact eN|refine eM ?_
 ·first|exact eN|refine eM ?_
 ·obtain⟨⟨⟨d,b1,H⟩,⟨T,U⟩,m⟩,t,o,Q,ag⟩:=s;simp only at t o Q ag ⊢;obtain⟨D,ax,E⟩:=t.ab;have N:=aa.perm CF o.perm;have u:=o.len;repeat'(first|exact trivial|refine eS rfl ?_|refine AB ?_|refine rX c ?_ ?_)
  ·exact CQ
  ·refine rC (fun k=>?_) (fun k=>?_)
   ·have key:=A1P m (by omega) N d b1 (by omega) (by omega);rw[u]at key;repeat'(first|exact trivial|refine eS rfl ?_|refine AB ?_|refine rX c ?_ ?_)
    refine cP 4 c ?_ ?_
    ·trivial
    ·refine rM c (key) [(1000000,.nm 1000000)] [] ?_ ?_ ?_
     ·first|exact eN|refine eM ?_
     ·first|exact eN|refine eM ?_
     ·rintro _ _ ⟨rfl,r,rfl,e,g⟩;refine⟨[(1000000,.nm 1000000)],.raw (.tuple #[]),[(1000000,.arr 53 BK r)],rfl,rfl,?_,?_,rfl,rfl,Cy ?_⟩
      ·first|exact eN|refine eM ?_
      ·first|exact eN|refine eM ?_
      ·repeat'(first|exact trivial|refine eS rfl ?_|refine AB ?_|refine rX c ?_ ?_|refine rC ?_ ?_<;>intro k<;>try(cases k;done))
       exact fM c [] (.raw (.tuple #[])) rfl ⟨rfl,r,rfl,o.trans (e.mono D E),(t.pin e).done g⟩
   ·have ap:d+13≤b1:=by omega
    have el:(b1:Int)-(d:Int)=((b1-d:Nat):Int):=by omega
    rw[el];repeat'(first|exact trivial|refine eS rfl ?_|refine AB ?_|refine rX c ?_ ?_)
    refine rC (fun au=>?_) (fun au=>?_)
    ·have key:=yW m (by omega) N d b1 ax (by omega);rw[u]at key;repeat'(first|exact trivial|refine eS rfl ?_|refine AB ?_|refine rX c ?_ ?_)
     refine cP 4 c ?_ ?_
     ·trivial
     ·refine rM c (key) [(1000000,.nm 1000000)] [] ?_ ?_ ?_
      ·first|exact eN|refine eM ?_
      ·first|exact eN|refine eM ?_
      ·rintro _ _ ⟨rfl,r,rfl,e,g⟩;refine⟨[(1000000,.nm 1000000)],.raw (.tuple #[]),[(1000000,.arr 53 BK r)],rfl,rfl,?_,?_,rfl,rfl,Cy ?_⟩
       ·first|exact eN|refine eM ?_
       ·first|exact eN|refine eM ?_
       ·repeat'(first|exact trivial|refine eS rfl ?_|refine AB ?_|refine rX c ?_ ?_|refine rC ?_ ?_<;>intro k<;>try(cases k;done))
        exact fM c [] (.raw (.tuple #[])) rfl ⟨rfl,r,rfl,o.trans (e.mono D E),(t.pin e).done g⟩
    ·have ba:0<H:=by omega
     refine mX ?_;refine H3 ?_;refine Oo (ι:={x:Nat×List (Int×Int)//x.1≤1000∧Dv (0,0) d b1 m x.2}) (fun x=>⟨[(0,.sr 1000000 BK 0 l.length),(1,.p T3 (d:Int)),(2,.p T3 (b1:Int)),(3,.p T3 (x.1.1:Int)),(4,.fn 116),(10,.p .bool T),(11,.p .bool U),(12,.p (.int .i64) ((b1-d:Nat):Int))],[(1000000,.arr 53 BK x.1.2)]⟩) ?_ (fun x=>?_)
     ·repeat'(first|exact trivial|refine eS rfl ?_|refine AB ?_|refine rX c ?_ ?_)
      refine rC (fun n=>?_) (fun n=>?_)
      ·have key:=A1X m (by omega) d b1 (by omega) (by omega);rw[u]at key;refine eS rfl ?_;refine cP 4 c ?_ ?_
       ·trivial
       ·refine rM c (key) [(1000000,.nm 1000000)] [] ?_ ?_ ?_
        ·first|exact eN|refine eM ?_
        ·first|exact eN|refine eM ?_
        ·rintro _ _ ⟨rfl,r,rfl,e⟩;refine⟨[(1000000,.nm 1000000)],.raw (.tuple #[]),[(1000000,.arr 53 BK r)],rfl,rfl,?_,?_,rfl,rfl,Cy ?_⟩
         ·first|exact eN|refine eM ?_
         ·first|exact eN|refine eM ?_
         ·repeat'(first|exact trivial|refine eS rfl ?_|refine AB ?_|refine rX c ?_ ?_)
          ·exact CQ
          ·refine⟨⟨(H-1,r),by simp only;omega,e⟩,AC [(1000000,.nm 1000000)] rfl rfl ?_ ?_⟩
           ·first|exact eN|refine eM ?_
           ·simp only;rw[show ((H-1:Nat):Int)=(H:Int)-1 by omega];first|exact eN|refine eM ?_
      ·repeat'(first|exact trivial|refine eS rfl ?_|refine AB ?_|refine rX c ?_ ?_)
       refine⟨⟨(H,m),ag,Dv.refl _ _ m⟩,AC [(1000000,.nm 1000000)] rfl rfl ?_ ?_⟩
       ·first|exact eN|refine eM ?_
       ·first|exact eN|refine eM ?_
     ·obtain⟨⟨C,i⟩,G,f⟩:=x;simp only at G f ⊢;have v:i.length=l.length:=f.len.trans u;have key:=A1T i (by omega) d b1 ap (by omega);rw[v]at key;refine eS rfl ?_;refine cP 4 c ?_ ?_
      ·trivial
      ·refine rM c (key) [(1000000,.nm 1000000)] [] ?_ ?_ ?_
       ·first|exact eN|refine eM ?_
       ·first|exact eN|refine eM ?_
       ·rintro _ _ ⟨j,hint,rfl,rfl,z,A⟩;refine⟨[(1000000,.nm 1000000)],.tup [.p T3 (j:Int),.p T3 hint],[(1000000,.arr 53 BK i)],rfl,rfl,?_,?_,rfl,rfl,?_⟩
        ·first|exact eN|refine eM ?_
        ·first|exact eN|refine eM ?_
        ·refine rL c ?_ ?_
         ·trivial
         ·refine H3 ?_;refine Oo (ι:={x:Nat×Int×List (Int×Int)//(d≤x.1∧x.1<b1)∧Dv (0,0) d b1 m x.2.2}) (fun x=>⟨[(0,.sr 1000000 BK 0 l.length),(1,.p T3 (d:Int)),(2,.p T3 (b1:Int)),(3,.p T3 (C:Int)),(4,.fn 116),(10,.p .bool T),(11,.p .bool U),(12,.p (.int .i64) ((b1-d:Nat):Int)),(13,.p T3 (x.1.1:Int)),(14,.p T3 x.1.2.1)],[(1000000,.arr 53 BK x.1.2.2)]⟩) ?_ (fun x=>?_)
          ·repeat'(first|exact trivial|refine eS rfl ?_|refine AB ?_|refine rX c ?_ ?_)
           refine rC (fun n=>?_) (fun n=>?_)
           ·have key:=A1Q i (by omega) d b1 (by omega) (by omega);rw[v]at key;refine eS rfl ?_;refine cP 4 c ?_ ?_
            ·trivial
            ·refine rM c (key) [(1000000,.nm 1000000)] [] ?_ ?_ ?_
             ·first|exact eN|refine eM ?_
             ·first|exact eN|refine eM ?_
             ·rintro _ _ ⟨rfl,r,rfl,e⟩;refine⟨[(1000000,.nm 1000000)],.raw (.tuple #[]),[(1000000,.arr 53 BK r)],rfl,rfl,?_,?_,rfl,rfl,Cy ?_⟩
              ·first|exact eN|refine eM ?_
              ·first|exact eN|refine eM ?_
              ·repeat'(first|exact trivial|refine eS rfl ?_|refine AB ?_|refine rX c ?_ ?_)
               ·exact CQ
               ·refine⟨⟨(b1-1-(j-d),1,r),by simp only;omega,f.trans e⟩,AC [(1000000,.nm 1000000)] rfl rfl ?_ ?_⟩
                ·first|exact eN|refine eM ?_
                ·simp only;rw[show ((b1-1-(j-d):Nat):Int)=(b1:Int)-1-((j:Int)-(d:Int)) by omega];first|exact eN|refine eM ?_
           ·repeat'(first|exact trivial|refine eS rfl ?_|refine AB ?_|refine rX c ?_ ?_)
            refine⟨⟨(j,hint,i),⟨z,A⟩,f⟩,AC [(1000000,.nm 1000000)] rfl rfl ?_ ?_⟩
            ·first|exact eN|refine eM ?_
            ·first|exact eN|refine eM ?_
          ·clear z A f v key;obtain⟨⟨j,hint,i⟩,⟨z,A⟩,f⟩:=x;simp only at z A f ⊢;have v:i.length=l.length:=f.len.trans u;have ah:=N.perm CF f.perm;have Y:=Q.pin f;refine Oo (ι:={x:List (Int×Int)//Dv (0,0) d b1 m x}) (fun x=>⟨[(0,.sr 1000000 BK 0 l.length),(1,.p T3 (d:Int)),(2,.p T3 (b1:Int)),(3,.p T3 (C:Int)),(4,.fn 116),(10,.p .bool T),(11,.p .bool U),(12,.p (.int .i64) ((b1-d:Nat):Int)),(13,.p T3 (j:Int))],[(1000000,.arr 53 BK x.1)]⟩) ?_ (fun x=>?_)
           ·repeat'(first|exact trivial|refine eS rfl ?_|refine AB ?_|refine rX c ?_ ?_)
            refine rC (fun n=>?_) (fun n=>?_)
            ·have key:=A1S i (by omega) ah d b1 (by omega) (by omega) Y;rw[v]at key;refine eS rfl ?_;refine cP 4 c ?_ ?_
             ·trivial
             ·refine rM c (key) [(1000000,.nm 1000000)] [] ?_ ?_ ?_
              ·first|exact eN|refine eM ?_
              ·first|exact eN|refine eM ?_
              ·rintro _ _ ⟨w,r,rfl,rfl,e,g⟩;refine⟨[(1000000,.nm 1000000)],.p .bool w,[(1000000,.arr 53 BK r)],rfl,rfl,?_,?_,rfl,rfl,Cy ?_⟩
               ·first|exact eN|refine eM ?_
               ·first|exact eN|refine eM ?_
               ·refine eS rfl ?_;refine rC (fun af=>?_) (fun af=>?_)
                ·repeat'(first|exact trivial|refine eS rfl ?_|refine AB ?_|refine rX c ?_ ?_|refine rC ?_ ?_<;>intro k<;>try(cases k;done))
                 have am:=f.trans e;exact fM c [] (.raw (.tuple #[])) rfl ⟨rfl,r,rfl,o.trans (am.mono D E),(t.pin am).done (g af)⟩
                ·repeat'(first|exact trivial|refine eS rfl ?_|refine AB ?_|refine rX c ?_ ?_)
                 refine⟨⟨r,f.trans e⟩,AC [(1000000,.nm 1000000)] rfl rfl ?_ ?_⟩
                 ·first|exact eN|refine eM ?_
                 ·first|exact eN|refine eM ?_
            ·repeat'(first|exact trivial|refine eS rfl ?_|refine AB ?_|refine rX c ?_ ?_)
             refine⟨⟨i,f⟩,AC [(1000000,.nm 1000000)] rfl rfl ?_ ?_⟩
             ·first|exact eN|refine eM ?_
             ·first|exact eN|refine eM ?_
           ·clear v ah Y f;obtain⟨ao,y⟩:=x;simp only;have ak:ao.length=l.length:=y.len.trans u;have ai:=N.perm CF y.perm;have R:=Q.pin y;have ad:=t.pin y;repeat'(first|exact trivial|refine eS rfl ?_|refine AB ?_|refine rX c ?_ ?_)
            ·dsimp only[Ty.den];exact⟨fun _=>by omega,fun _=>by omega,fun _=>by omega⟩
            ·refine De (by simp only[go_sem,Nat.reduceEqDiff,reduceCtorEq,Nat.reduceAdd,Nat.reduceSub,Nat.reduceMul,Nat.reduceLeDiff,Nat.reduceLT,Int.reduceLE,Int.reduceToNat,Int.reduceNeg,↓reduceIte];rfl) ?_ ?_
             ·intro L;exfalso;simp only[An,By,OF,On]at L;obtain⟨h1,X⟩:=L;rw[show ((d:Int)-1).toNat=d-1 by omega]at X;rcases R with h|h
              ·omega
              ·exact X (h j z A)
             ·intro L;clear L;have key:=A1R ao (by omega) ai d b1 j z A (by omega);rw[ak]at key;repeat'(first|exact trivial|refine eS rfl ?_|refine AB ?_|refine rX c ?_ ?_)
              refine cP 5 c ?_ ?_
              ·trivial
              ·refine rM c (key) [(1000000,.nm 1000000)] [] ?_ ?_ ?_
               ·first|exact eN|refine eM ?_
               ·first|exact eN|refine eM ?_
               ·rintro _ _ ⟨q,w,I,rfl,rfl,P,F⟩;refine⟨[(1000000,.nm 1000000)],.tup [.p T3 (q:Int),.p .bool w],[(1000000,.arr 53 BK I)],rfl,rfl,?_,?_,rfl,rfl,?_⟩
                ·first|exact eN|refine eM ?_
                ·first|exact eN|refine eM ?_
                ·have aw:=F.l;have bd:=F.r;have O:=o.trans ((y.trans P).mono D E);have al:=O.len;have aj:=aa.perm CF O.perm;have Z:=R.pin P;have ae:=ad.pin P;clear y ak ai R ad P key;have W:(((b1-d:Nat):Int)).tdiv 8=(((b1-d) / 8:Nat):Int):=by
                  rw[AAp (by omega)];omega
                 refine rL c ?_ ?_
                 ·trivial
                 ·repeat'(first|exact trivial|refine eS rfl ?_|refine AB ?_|refine rX c ?_ ?_)
                  ·exact CQ
                  ·rw[W];exact⟨by decide,by omega,by omega⟩
                  ·rw[W];refine rC (fun n=>?_) (fun n=>?_)
                   ·have key:=V I (by omega) aj d q C (by omega) aw (by omega) G (Z.sub (by omega));unfold eF at key;rw[al]at key;repeat'(first|exact trivial|refine eS rfl ?_|refine AB ?_|refine rX c ?_ ?_)
                    refine cP 5 c ?_ ?_
                    ·trivial
                    ·refine rM c (key) [(1000000,.nm 1000000)] [] ?_ ?_ ?_
                     ·first|exact eN|refine eM ?_
                     ·first|exact eN|refine eM ?_
                     ·rintro _ _ ⟨rfl,r,rfl,e,g⟩;refine⟨[(1000000,.nm 1000000)],.raw (.tuple #[]),[(1000000,.arr 53 BK r)],rfl,rfl,?_,?_,rfl,rfl,Cy ?_⟩
                      ·first|exact eN|refine eM ?_
                      ·first|exact eN|refine eM ?_
                      ·have M:=F.pinL e;have B:Dv (0,0) d b1 I r:=e.mono (NO _) (by omega);repeat'(first|exact trivial|refine eS rfl ?_|refine AB ?_|refine rX c ?_ ?_)
                       ·exact CQ
                       ·refine⟨⟨((q+1,b1,C),(decide ((((b1-d) / 8:Nat):Int)≤(q:Int)-(d:Int)),w),r),(ae.pin B).left CF M g,O.trans (B.mono D E),M.bf,G⟩,by simp only;omega,AC [(1000000,.nm 1000000)] rfl rfl ?_ ?_⟩
                        ·first|exact eN|refine eM ?_
                        ·first|exact eN|refine eM ?_
                   ·have key:=V I (by omega) aj (q+1) b1 C (by omega) (by omega) (by omega) G F.bf;unfold eF at key;rw[al,show ((q+1:Nat):Int)=(q:Int)+1 by omega]at key;repeat'(first|exact trivial|refine eS rfl ?_|refine AB ?_|refine rX c ?_ ?_)
                    refine cP 6 c ?_ ?_
                    ·exact CQ
                    ·refine rM c (key) [(1000000,.nm 1000000)] [] ?_ ?_ ?_
                     ·first|exact eN|refine eM ?_
                     ·first|exact eN|refine eM ?_
                     ·rintro _ _ ⟨rfl,r,rfl,e,g⟩;refine⟨[(1000000,.nm 1000000)],.raw (.tuple #[]),[(1000000,.arr 53 BK r)],rfl,rfl,?_,?_,rfl,rfl,Cy ?_⟩
                      ·first|exact eN|refine eM ?_
                      ·first|exact eN|refine eM ?_
                      ·have M:=F.pinR e;have B:Dv (0,0) d b1 I r:=e.mono (by omega) (NO _);repeat'(first|exact trivial|refine eS rfl ?_|refine AB ?_|refine rX c ?_ ?_)
                       refine⟨⟨((d,q,C),(decide ((((b1-d) / 8:Nat):Int)≤(b1:Int)-(q:Int)),w),r),(ae.pin B).right CF M g,O.trans (B.mono D E),(Z.pin B).sub (b':=q) (by omega),G⟩,by simp only;omega,AC [(1000000,.nm 1000000)] rfl rfl ?_ ?_⟩
                       ·first|exact eN|refine eM ?_
                       ·first|exact eN|refine eM ?_
theorem A1Y (l:List (Int×Int)) (i:l.length<256) (e:iK CA (0,0) l) (a b c:Nat) (f:a≤b) (g:b≤l.length) (j:c≤1000) (d:Bf CA (0,0) a b l):eF l a b c:=by
 have key:∀(n:Nat) (l:List (Int×Int)),l.length<256→iK CA (0,0) l→∀a b c:Nat,b-a<n→a≤b→b≤l.length→c≤1000→Bf CA (0,0) a b l→eF l a b c:=by
  intro n;induction n with
  | zero=>intro l _ _ a b c h;omega
  | succ n s =>
   intro l i e a b c hn f g j d;exact rF l i e a b c f g j d fun l' h1 m k b' t u o p q r=>s l' h1 m k b' t (by omega) o p q r
 exact key (b-a+1) l i e a b c (by omega) f g j d
end
def yY (l:List (Int×Int)):Prop:=l.Pairwise fun a b=>a.1≠b.1
def LtA (l:List (Int×Int)):Prop:=l.Pairwise fun a b=>a.1<b.1
theorem Wk (x:Int×Int) (s:List (Int×Int)):∀n,(∀j,IE x s n≤j→j<n→x.1<(s.getD j (0,0)).1)∧(IE x s n=0∨¬x.1<(s.getD (IE x s n-1) (0,0)).1)
 | 0=>⟨fun j h1 a=>by omega,.inl rfl⟩
 | n+1=>by
  obtain⟨h1,a⟩:=Wk x s n;unfold IE;split
  ·rename_i h;refine⟨fun j b c=>?_,a⟩;by_cases e:j=n
   ·rw[e];exact h
   ·exact h1 j b (by omega)
  ·rename_i h;exact⟨fun j b c=>by omega,.inr (by simpa using h)⟩
theorem A1Z {s:List (Int×Int)} (hs:LtA s) {x:Int×Int} (l:∀a∈s,a.1≠x.1):LtA (Nr s x):=by
 obtain⟨h1,c⟩:=Wk x s s.length;have m:=Sa x s s.length;unfold Nr;generalize IE x s s.length=p at *;have hp:=hs;unfold LtA at hp;rw[←ABm p s,AB1]at hp;have g:∀i (h:i<s.length),s.getD i (0,0)=s[i]:=fun i h=>by rw[AS,AT h];rfl
 have k:∀a∈s.take p,a.1<x.1:=by
  intro a ha;rcases c with c|c
  ·subst c;simp at ha
  ·obtain⟨i,hi,rfl⟩:=AAf.1 ha;rw[SH]at hi;rw[List.getElem_take];by_cases o:p=0
   ·omega
   have f:p-1<s.length:=by omega
   rw[g (p-1) f]at c;have n:=l s[p-1] (AA7 f);by_cases e:i=p-1
   ·subst e;omega
   ·have:=(oR.1 hs) i (p-1) (by omega) f (by omega);omega
 have j:∀a∈s.drop p,x.1<a.1:=by
  intro a ha;obtain⟨i,hi,rfl⟩:=AAf.1 ha;rw[AAV]at hi;rw[List.getElem_drop,←g (p+i) (by omega)];exact h1 (p+i) (by omega) (by omega)
 unfold LtA;rw[AAt,AB1];refine⟨hp.1,?_,fun a ha b d=>?_⟩
 ·rw[List.singleton_append,AB9];exact⟨j,hp.2.1⟩
 ·rcases GO.1 (by simpa using d:b∈x :: s.drop p) with rfl|d
  ·exact k a ha
  ·exact hp.2.2 a ha b d
theorem Ns {l:List (Int×Int)} (h:yY l):LtA (AR l):=by
 induction l using Ge with
 | h0=>exact List.Pairwise.nil
 | h1 l a d =>
  unfold yY at h;rw[AB1]at h;rw[Hd];exact A1Z (d h.1) fun b c=>h.2.2 b ((BN l).mem_iff.1 c) a (by simp)
theorem rG {l r:List (Int×Int)} (hp:r.Perm l) (h1:LtA r) (c:LtA l):r=l :=
 List.Perm.eq_of_pairwise (le:=fun a b:Int×Int=>a.1<b.1) (fun a b _ _ d e=>by omega) h1 c hp
theorem nS {l:List (Int×Int)} (h:LtA l):jT l:=by
 intro i hi;have a:∀i (h:i<l.length),l.getD i (0,0)=l[i]:=fun i h=>by rw[AS,AT h];rfl
 rw[a i (by omega),a (i+1) hi];exact(oR.1 h) i (i+1) (by omega) hi (by omega)
theorem A3C {l:List (Int×Int)} (h:yY l):iK CA (0,0) l:=by
 rw[nP CF];refine h.imp fun {a b} g e=>g ?_;unfold CA Fg at e;split at e
 ·omega
 ·split at e<;>omega
theorem jY {l r:List (Int×Int)} (h:yY l) (hp:r.Perm l) (hs:Qd CA (0,0) 0 l.length r):r=AR l:=by
 refine rG (hp.trans (BN l).symm) (oR.2 fun i j hi b c=>?_) (Ns h);have a:∀i (h:i<r.length),r.getD i (0,0)=r[i]:=fun i h=>by rw[AS,AT h];rfl
 have:=hs i j (IN _) c (by rw[←hp.length_eq];exact b);rw[a i hi,a j b]at this;unfold CA Fg at this;split at this
 ·assumption
 ·split at this<;>omega
theorem L3 {l:List (Int×Int)} (h:yY l):AR (AR l)=AR l:=I5 (nS (Ns h))
def NdF (f:List AF):Prop:=∀x∈f,yY x.2∧x.2.length≤200
def EA (f:List AF):List AF:=f.map fun x=>(x.1,AR x.2)
theorem Ft (f:List AF):(EA f).length=f.length:=nO _
theorem O6 (f:List AF) (n:Nat):(EA f).getD n (0,[])=((f.getD n (0,[])).1,AR (f.getD n (0,[])).2):=by
 unfold EA;simp only[AS,AAy];cases f[n]?<;>rfl
theorem Qf {f:List AF} (h:A2 f):A2 (EA f):=by
 refine⟨by rw[Ft];exact h.1,fun x d=>?_⟩;obtain⟨y,e,rfl⟩:=If.1 d;obtain⟨b,c⟩:=h.2 y e;refine⟨by simp only[Ci];exact b,fun a ha=>?_⟩;rw[Ft];exact c a ((BN _).mem_iff.1 ha)
theorem yZ {f:List AF} (h:NdF f):M7 (EA f):=by
 intro x c;obtain⟨y,d,rfl⟩:=If.1 c;obtain⟨a,b⟩:=h y d;exact⟨nS (Ns a),by simp only[Ci];exact b⟩
theorem nT {f:List AF} (hf:NdF f) (n:Int):yY (f.getD n.toNat (0,[])).2∧(f.getD n.toNat (0,[])).2.length≤200:=by
 by_cases h:n.toNat<f.length
 ·have a:f.getD n.toNat (0,[])∈f:=by
   rw[AS,AT h];exact AA7 h
  exact hf _ a
 ·rw[AS,gO (by omega)];exact⟨List.Pairwise.nil,by simp⟩
theorem Rh {f:List AF} (h:NdF f):∀(k:Nat) (s:List Int×List Int) (n:Int),DT (EA f) k s n=DT f k s n
 | 0,_,_=>rfl
 | k+1,s,n=>by
  rw[Di,Di,O6];simp only;rw[L3 (nT h n).1];refine AAX (fun g=>List.foldl g _ _) ?_;funext s a;unfold D8;rw[Rh h k s a.2]
theorem rH {f:List AF} (h:NdF f) (r:Int):ET (EA f) r=ET f r:=by
 have a:Fs (EA f) r=Fs f r:=by
  unfold Fs;rw[Ft,Rh h]
 unfold ET;rw[a];refine AAw fun n _=>?_;unfold LM;rw[O6];simp only;rw[L3 (nT h n).1]
theorem eG {f:List AF} (hf:A2 f) (hn:NdF f) {root:Int} (h0:0≤root) (h1:root<f.length):ET f root=AU (EA f) root:=by
 rw[←rH hn];exact Ef (Qf hf) (yZ hn) h0 (by rw[Ft];exact h1)
theorem y3 {L:Go.Loop} (h1:L.state=.ready) (a:L.pending=none):{ { L with state:=.busy } with state:=.ready,pending:=none }=L:=by
 cases L;simp_all
theorem Wl (l:List (Int×Int)):BL Tryz.prog 115 [.p Ii l] [] [] (fun res c=>res=.clo 149 [1]∧c=[(1,.box 47 false [.p Ii l])]):=by
 refine La [0,1,2] [] [] Tryz.func115 Tryz.ntmps115 AG ?_;intro w0 K O0 ρ0 a d e;simp only[Ao];repeat'(first|exact trivial|refine eS rfl ?_|refine AB ?_|refine rX a ?_ ?_|refine rC ?_ ?_<;>intro b<;>try(cases b;done))
 exact fM a [.tmp 2] (.clo 149 [1]) eT ⟨rfl,rfl⟩
def CJ (l:List (Int×Int)) (L:Go.Loop) (a:Array Value) (i:Nat):List (Nat×Obj):=[(1,.box 47 false [.p Ii l]),(101,.loop L),(102,.frame a [(2,.bp 2 [] 0),(6,.clo 149 [1])]),(2,.box 47 false [.sr 7 BK 0 i]),(7,.arr 53 BK (l.take i))]
theorem jZ (l:List (Int×Int)) (g:l.length≤100000) (L:Go.Loop) (b:Array Value) (f:∀i,i<l.length→Zn Tryz.prog 101 [.p BK (l.getD i (0,0))] (CJ l L b i) [1,101,102,2] (fun res e=>res=.p .bool true∧e=CJ l L b (i+1))) :
  BL Tryz.prog 149 [.yl 101,.bp 1 [] 0] (CJ l L b 0) [1,101,102,2] (fun res e=>res=.raw (.tuple #[])∧e=CJ l L b l.length):=by
 refine La [0,1,4,5,6,7,8,14] [] [] Tryz.func149 Tryz.ntmps149 AG ?_;intro w0 K O0 ρ0 a h j;simp only[Ao,CJ];repeat'(first|exact trivial|refine eS rfl ?_|refine AB ?_|refine rX a ?_ ?_|refine rC ?_ ?_<;>intro c<;>try(cases c;done))
 refine AI (ι:={i:Nat//i≤l.length}) (fun i=>⟨[(0,.yl 101),(1,.bp 1 [] 0),(5,.p Ii l),(6,.p (.int .i64) (l.length:Int)),(7,.p (.int .i64) (i.1:Int))],CJ l L b i.1⟩) (fun i=>l.length-i.1) ⟨0,by omega⟩ (AC [(1,.nm 1),(101,.nm 101),(102,.nm 102),(2,.nm 2),(7,.nm 7)] rfl rfl ?_ ?_) (fun i=>?_)
 ·simp only[CJ];first|exact eN|refine eM ?_
 ·first|exact eN|refine eM ?_
 ·obtain⟨i,hi⟩:=i;simp only[CJ];repeat'(first|exact trivial|refine eS rfl ?_|refine AB ?_|refine rX a ?_ ?_|refine rC ?_ ?_<;>intro c<;>try(cases c;done))
  ·exact eV
  ·have d:i<l.length:=by exact eV
   refine cP 2 a ?_ ?_
   ·trivial
   ·refine rY 101 101 a (f i d) [(1,.nm 1),(101,.nm 101),(102,.nm 102),(2,.nm 2),(7,.nm 7)] [7] ?_ ?_ ?_
    ·first|exact eN|refine eM ?_
    ·simp only[CJ];first|exact eN|refine eM ?_
    ·rintro _ _ ⟨rfl,rfl⟩;refine⟨[(1,.nm 1),(101,.nm 101),(102,.nm 102),(2,.nm 2),(7,.nm 7)],.p .bool true,CJ l L b (i+1),rfl,rfl,?_,?_,rfl,rfl,?_⟩
     ·simp only[CJ];first|exact eN|refine eM ?_
     ·first|exact eN|refine eM ?_
     ·simp only[CJ];refine IC [0,1,5,6,7,14] a (by simp only[go_sem,Nat.reduceEqDiff,reduceCtorEq,Nat.reduceAdd,Nat.reduceSub,Nat.reduceMul,Nat.reduceLeDiff,Nat.reduceLT,Int.reduceLE,Int.reduceToNat,Int.reduceNeg,↓reduceIte];rfl) ?_ ?_
      ·trivial
      ·repeat'(first|exact trivial|refine eS rfl ?_|refine AB ?_|refine rX a ?_ ?_|refine rC ?_ ?_<;>intro c<;>try(cases c;done))
       ·exact eV
       ·refine⟨⟨i+1,by omega⟩,by simp only;omega,AC [(1,.nm 1),(101,.nm 101),(102,.nm 102),(2,.nm 2),(7,.nm 7)] rfl rfl ?_ ?_⟩
        ·simp only[CJ];first|exact eN|refine eM ?_
        ·first|exact eN|refine eM ?_
  ·have d:i=l.length:=by exact eV
   subst d;refine fM a [] (.raw (.tuple #[])) rfl ⟨rfl,?_⟩;simp only[CJ,f5]
theorem YG (l:List (Int×Int)) (o:l.length≤100000):BL Tryz.prog 162 [.raw (.slice none 0 0),.clo 149 [1]] [(1,.box 47 false [.p Ii l])] [] (fun res r=>res=.sr 7 BK 0 l.length∧r=[(7,.arr 53 BK l)]):=by
 refine fKR [0,1,2,4,5,6,7] [] [] Tryz.func162 Tryz.ntmps162 AG ?_;intro w0 K O0 ρ0 a u v;simp only[Ao];repeat'(first|exact trivial|refine eS rfl ?_|refine AB ?_|refine rX a ?_ ?_|refine rC ?_ ?_<;>intro c<;>try(cases c;done))
 refine vT a rfl rfl (by simp only[go_sem,Nat.reduceEqDiff,reduceCtorEq,Nat.reduceAdd,Nat.reduceSub,Nat.reduceMul,Nat.reduceLeDiff,Nat.reduceLT,Int.reduceLE,Int.reduceToNat,Int.reduceNeg,↓reduceIte];rfl) 101 103 102 rfl rfl rfl rfl ?_;intro L d f g h j k m q;refine⟨_,CJ l L d 0,[1,101,102,2],_,[(1,.nm 1),(101,.nm 101),(102,.nm 102),(2,.nm 2),(7,.nil)],[],jZ l o L d ?_,rfl,rfl,?_,?_,rfl,?_⟩
 ·intro i hi;refine vS (fr:=102) rfl rfl f j k m h q rfl (by kernel_rfl) (by simp) rfl rfl (by kernel_rfl) (by kernel_rfl) (tyTab_ok [] [0,1,2,4,5,6,7]) AG ?_;intro z s t A y a w x n;simp only[CJ,HE];repeat'(first|exact trivial|refine eS rfl ?_|refine AB ?_|refine rX a ?_ ?_|refine rC ?_ ?_<;>intro c<;>try(cases c;done))
  refine⟨rfl,?_⟩;repeat'(first|exact trivial|refine eS rfl ?_|refine AB ?_|refine rX a ?_ ?_|refine rC ?_ ?_<;>intro c<;>try(cases c;done))
  ·simp only[AO];omega
  ·have e:List.take i (List.take i l)++[((l.getD i (0,0)).1,(l.getD i (0,0)).2)]=l.take (i+1):=by
    rw[Ab l (0,0) hi,As (ACi (by rw[SH];omega):(l.take i).length≤i)]
   refine Ev.ent (σ':=⟨[],[(1,.box 47 false [.p Ii l]),(101,.loop { L with state:=.busy }),(102,.frame d [(2,.bp 2 [] 0),(6,.clo 149 [1])]),(2,.box 47 false [.sr 7 BK 0 (i+1)]),(7,.arr 53 BK (l.take (i+1)))]⟩) ?_ (AC [(1,.nm 1),(101,.nm 101),(102,.nm 102),(2,.nm 2),(7,.nm 7)] rfl rfl ?_ ?_)
   ·refine qI a (yn:=101) rfl rfl (by simp) n ⟨rfl,?_⟩;simp only[CJ,go_sem,Nat.reduceEqDiff,reduceCtorEq,Nat.reduceAdd,Nat.reduceSub,Nat.reduceMul,Nat.reduceLeDiff,Nat.reduceLT,Int.reduceLE,Int.reduceToNat,Int.reduceNeg,↓reduceIte,y3 f g]
   ·first|exact eN|refine eM ?_
    exact e
   ·first|exact eN|refine eM ?_
 ·simp only[Bn];first|exact eN|refine eM ?_
 ·simp only[Bn,CJ];first|exact eN|refine eM ?_
 ·rintro _ _ ⟨rfl,rfl⟩;refine⟨[(1,.nm 1),(101,.nm 101),(102,.nm 102),(2,.nm 2),(7,.nm 7)],CJ l L d l.length,L,rfl,rfl,?_,rfl,rfl,rfl,by rw[f];rfl,?_⟩
  ·simp only[CJ];first|exact eN|refine eM ?_
  ·intro b;rw[g];simp only[EvJ,CJ,Bn,go_sem,Nat.reduceEqDiff,reduceCtorEq,Nat.reduceAdd,Nat.reduceSub,Nat.reduceMul,Nat.reduceLeDiff,Nat.reduceLT,Int.reduceLE,Int.reduceToNat,Int.reduceNeg,↓reduceIte];replace a:=qJ (dn:=103) (b:=b) a;repeat'(first|exact trivial|refine eS rfl ?_|refine AB ?_|refine rX a ?_ ?_|refine rC ?_ ?_<;>intro c<;>try(cases c;done))
   refine Ev.ent (σ':=⟨[(4,.sr 7 BK 0 l.length)],[(7,.arr 53 BK l),(103,.dfr)]⟩) ?_ (AC [(7,.nm 7),(103,.nm 103)] rfl rfl ?_ ?_)
   ·exact vW a [.tmp 4] rfl (.inl rfl) rfl rfl (.sr 7 BK 0 l.length) eT ⟨rfl,by simp only[go_sem,Nat.reduceEqDiff,reduceCtorEq,Nat.reduceAdd,Nat.reduceSub,Nat.reduceMul,Nat.reduceLeDiff,Nat.reduceLT,Int.reduceLE,Int.reduceToNat,Int.reduceNeg,↓reduceIte]⟩
   ·first|exact eN|refine eM ?_
   ·first|exact eN|refine eM ?_
theorem j5 (l:List (Int×Int)) (c:l.length≤100000):BL Tryz.prog 147 [.clo 149 [1]] [(1,.box 47 false [.p Ii l])] [] (fun res d=>res=.sr 7 BK 0 l.length∧d=[(7,.arr 53 BK l)]):=by
 refine La [0,2] [] [] Tryz.func147 Tryz.ntmps147 AG ?_;intro w0 K O0 ρ0 a e f;simp only[Ao];repeat'(first|exact trivial|refine eS rfl ?_|refine AB ?_|refine rX a ?_ ?_|refine rC ?_ ?_<;>intro b<;>try(cases b;done))
 refine cP 1 a ?_ ?_
 ·trivial
 ·refine rM a (YG l c) [(1,.nm 1)] [1] ?_ ?_ ?_
  ·first|exact eN|refine eM ?_
  ·first|exact eN|refine eM ?_
  ·rintro _ _ ⟨rfl,rfl⟩;refine⟨[(7,.nm 7)],.sr 7 BK 0 l.length,[(7,.arr 53 BK l)],rfl,rfl,?_,?_,rfl,rfl,?_⟩
   ·first|exact eN|refine eM ?_
   ·first|exact eN|refine eM ?_
   ·refine IC [2] a (by simp only[go_sem,Nat.reduceEqDiff,reduceCtorEq,Nat.reduceAdd,Nat.reduceSub,Nat.reduceMul,Nat.reduceLeDiff,Nat.reduceLT,Int.reduceLE,Int.reduceToNat,Int.reduceNeg,↓reduceIte];rfl) ?_ ?_
    ·trivial
    ·repeat'(first|exact trivial|refine eS rfl ?_|refine AB ?_|refine rX a ?_ ?_|refine rC ?_ ?_<;>intro b<;>try(cases b;done))
     exact fM a [.tmp 2] (.sr 7 BK 0 l.length) eT ⟨rfl,rfl⟩
theorem eH (l:List (Int×Int)) (g:l.length≤200) (hs:yY l):BL Tryz.prog 148 [.sr 1000000 BK 0 l.length,.fn 116] [(1000000,.arr 53 BK l)] [1000000] (fun res e=>res=.raw (.tuple #[])∧e=[(1000000,.arr 53 BK (AR l))]):=by
 have d:=A3C hs;refine La [0,1,4] [] [] Tryz.func148 Tryz.ntmps148 AG ?_;intro w0 K O0 ρ0 a h i;simp only[Ao];repeat'(first|exact trivial|refine eS rfl ?_|refine AB ?_|refine rX a ?_ ?_|refine rC ?_ ?_<;>intro b<;>try(cases b;done))
 refine cP 4 a ?_ ?_
 ·exact eV
 ·refine rM a (nR (l.length:Int) (by omega) (by omega)) [] [] ?_ ?_ ?_
  ·first|exact eN|refine eM ?_
  ·first|exact eN|refine eM ?_
  ·rintro _ _ ⟨⟨n,rfl,f,-⟩,rfl⟩;refine⟨[],.p T3 (n:Int),[],rfl,rfl,?_,?_,rfl,rfl,?_⟩
   ·first|exact eN|refine eM ?_
   ·first|exact eN|refine eM ?_
   ·have key:=A1Y l (by omega) d 0 l.length n (IN _) (NO _) (by omega) (.inl rfl);unfold eF at key;rw[show ((0:Nat):Int)=0 from rfl]at key;refine SV a 1 (by simp only[go_sem,Nat.reduceEqDiff,reduceCtorEq,Nat.reduceAdd,Nat.reduceSub,Nat.reduceMul,Nat.reduceLeDiff,Nat.reduceLT,Int.reduceLE,Int.reduceToNat,Int.reduceNeg,↓reduceIte];rfl) ?_ ?_
    ·trivial
    ·refine rM a (key) [(1000000,.nm 1000000)] [] ?_ ?_ ?_
     ·first|exact eN|refine eM ?_
     ·first|exact eN|refine eM ?_
     ·rintro _ _ ⟨rfl,r,rfl,hp,hr⟩;have c:=jY hs hp.perm hr;subst c;have j:=Ci l;refine⟨[(1000000,.nm 1000000)],.raw (.tuple #[]),[(1000000,.arr 53 BK (AR l))],rfl,rfl,?_,?_,rfl,rfl,Cy ?_⟩
      ·first|exact eN|refine eM ?_
      ·first|exact eN|refine eM ?_
      ·repeat'(first|exact trivial|refine eS rfl ?_|refine AB ?_|refine rX a ?_ ?_|refine rC ?_ ?_<;>intro b<;>try(cases b;done))
       exact fM a [] (.raw (.tuple #[])) rfl ⟨rfl,rfl⟩
theorem NP (l:List (Int×Int)) (c:l.length≤200) (hs:yY l):BL Tryz.prog 114 [.clo 149 [1],.fn 116] [(1,.box 47 false [.p Ii l])] [] (fun res d=>res=.sr 7 BK 0 l.length∧d=[(7,.arr 53 BK (AR l))]):=by
 have g:=Ci l;refine La [0,1,4,5] [] [] Tryz.func114 Tryz.ntmps114 AG ?_;intro w0 K O0 ρ0 a e f;simp only[Ao];repeat'(first|exact trivial|refine eS rfl ?_|refine AB ?_|refine rX a ?_ ?_|refine rC ?_ ?_<;>intro b<;>try(cases b;done))
 refine cP 1 a ?_ ?_
 ·trivial
 ·refine rM a (j5 l (by omega)) [(1,.nm 1)] [1] ?_ ?_ ?_
  ·first|exact eN|refine eM ?_
  ·first|exact eN|refine eM ?_
  ·rintro _ _ ⟨rfl,rfl⟩;refine⟨[(1000000,.nm 7)],.sr 1000000 BK 0 l.length,[(1000000,.arr 53 BK l)],rfl,rfl,?_,?_,rfl,rfl,?_⟩
   ·first|exact eN|refine eM ?_
   ·first|exact eN|refine eM ?_
   ·refine IC [1,5] a (by simp only[go_sem,Nat.reduceEqDiff,reduceCtorEq,Nat.reduceAdd,Nat.reduceSub,Nat.reduceMul,Nat.reduceLeDiff,Nat.reduceLT,Int.reduceLE,Int.reduceToNat,Int.reduceNeg,↓reduceIte];rfl) ?_ ?_
    ·trivial
    ·repeat'(first|exact trivial|refine eS rfl ?_|refine AB ?_|refine rX a ?_ ?_|refine rC ?_ ?_<;>intro b<;>try(cases b;done))
     refine cP 2 a ?_ ?_
     ·trivial
     ·refine rM a (eH l c hs) [(1000000,.nm 1000000)] [] ?_ ?_ ?_
      ·first|exact eN|refine eM ?_
      ·first|exact eN|refine eM ?_
      ·rintro _ _ ⟨rfl,rfl⟩;refine⟨[(1000000,.nm 1000000)],.raw (.tuple #[]),[(1000000,.arr 53 BK (AR l))],rfl,rfl,?_,?_,rfl,rfl,Cy ?_⟩
       ·first|exact eN|refine eM ?_
       ·first|exact eN|refine eM ?_
       ·repeat'(first|exact trivial|refine eS rfl ?_|refine AB ?_|refine rX a ?_ ?_|refine rC ?_ ?_<;>intro b<;>try(cases b;done))
        refine Ev.ent (σ':=⟨[(4,.sr 7 BK 0 l.length)],[(7,.arr 53 BK (AR l))]⟩) ?_ (AC [(7,.nm 1000000)] rfl rfl ?_ ?_)
        ·exact fM a [.tmp 4] (.sr 7 BK 0 l.length) eT ⟨rfl,rfl⟩
        ·first|exact eN|refine eM ?_
        ·first|exact eN|refine eM ?_
def LP (f:List AF) (o:List Int):List (Nat×Obj):=[(1,.box 60 false [.sr 5 T3 0 o.length]),(2,.box 160 false [.mp 6]),(3,.box 25 true [.p Et f]),(4,.box 124 false [.clo 113 [1,2,3,4]]),(5,.arr 3 T3 o),(6,.mapo T3 T3 (tS o))]
theorem A6u {f:List AF} {o:List Int} (h:Mi f o):Mi (EA f) o:=⟨h.nd,fun x a=>by rw[Ft];exact h.rng x a⟩
theorem A2X {f:List AF} {o:List Int} (h:Mi (EA f) o):Mi f o:=⟨h.nd,fun x a=>by have:=h.rng x a;rwa [Ft]at this⟩
theorem rI (f:List AF) (hf:A2 f) (hs:NdF f):∀(k:Nat) (o:List Int) (n:Int),Mi f o→0≤n→n<f.length→n∉o→f.length-o.length≤k →
  BL Tryz.prog 113 [.p T3 n,.bp 1 [] 0,.bp 2 [] 0,.bp 3 [] 0,.bp 4 [] 0] (LP f o) [1,2,3,4,6] (fun res P=>res=.raw (.tuple #[])∧P=LP f (Ep (EA f) k o n)):=by
 intro k;induction k with
 | zero =>
  intro o n h0 h1 z A Q;have:=(h0.snoc h1 z A).len;simp only[OR,iF]at this;omega
 | succ k O =>
  intro o n C u v w hk;have t:=C.snoc u v w;have H:=t.len;simp only[OR,iF]at H;have R:=hf.1;refine La [0,1,2,3,4,7,9,25,26,27,28,39] [] [] Tryz.func113 Tryz.ntmps113 AG ?_;intro w0 K O0 ρ0 c S T;simp only[LP,Ao];repeat'(first|exact trivial|refine eS rfl ?_|refine AB ?_|refine rX c ?_ ?_|refine rC ?_ ?_<;>intro b<;>try(cases b;done))
  ·simp only[AO];omega
  ·rw[yS w];obtain⟨N,F⟩:=nT hs n;have s:=fun a (ha:a∈AR (f.getD n.toNat (0,[])).2)=>D9 hf ((BN _).mem_iff.1 ha);have E:Ep (EA f) (k+1) o n=(AR (f.getD n.toNat (0,[])).2).foldl (BE (EA f) k) (o++[n]):=by rw[DJ,O6]
   have D:=A6u (f:=f) t;refine cP 6 c ?_ ?_
   ·exact⟨u,v⟩
   ·generalize (f.getD n.toNat (0,[])).2=g at *;refine rM c (Wl g) [] [] ?_ ?_ ?_
    ·first|exact eN|refine eM ?_
    ·first|exact eN|refine eM ?_
    ·rintro _ _ ⟨rfl,rfl⟩;refine⟨[(50,.nm 1)],.clo 149 [50],[(50,.box 47 false [.p Ii g])],rfl,rfl,?_,?_,rfl,rfl,?_⟩
     ·first|exact eN|refine eM ?_
     ·first|exact eN|refine eM ?_
     ·refine rM c (NP g F N) [(1,.nm 50)] [50] ?_ ?_ ?_
      ·first|exact eN|refine eM ?_
      ·first|exact eN|refine eM ?_
      ·rintro _ _ ⟨rfl,rfl⟩;have B:=Ci g;rw[←B];generalize AR g=L at *;refine⟨[(51,.nm 7)],.sr 51 BK 0 L.length,[(51,.arr 53 BK L)],rfl,rfl,?_,?_,rfl,rfl,?_⟩
       ·first|exact eN|refine eM ?_
       ·first|exact eN|refine eM ?_
       ·refine IC [0,1,2,3,4,25,26,27] c (by simp only[go_sem,Nat.reduceEqDiff,reduceCtorEq,Nat.reduceAdd,Nat.reduceSub,Nat.reduceMul,Nat.reduceLeDiff,Nat.reduceLT,Int.reduceLE,Int.reduceToNat,Int.reduceNeg,↓reduceIte];rfl) ?_ ?_
        ·trivial
        ·have M:∀i,Mi (EA f) ((L.take i).foldl (BE (EA f) k) (o++[n]))∧o++[n] <+: (L.take i).foldl (BE (EA f) k) (o++[n]):=fun i=>Gm (FF (Qf hf) k) _ _ (fun a ha=>by rw[Ft];exact s a (AAb ha)) D;generalize I:o++[n]=q at *;have J:q.length=o.length+1:=by rw[←I];simp
         rw[←J];repeat'(first|exact trivial|refine eS rfl ?_|refine AB ?_|refine rX c ?_ ?_|refine rC ?_ ?_<;>intro b<;>try(cases b;done))
         refine AI (ι:={i:Nat//i≤L.length}) (fun i=>⟨[(0,.p T3 n),(1,.bp 1 [] 0),(2,.bp 2 [] 0),(3,.bp 3 [] 0),(4,.bp 4 [] 0),(25,.p Ii L),(26,.p (.int .i64) (L.length:Int)),(27,.p (.int .i64) (i.1:Int))],LP f ((L.take i.1).foldl (BE (EA f) k) q)⟩) (fun i=>L.length-i.1) ⟨0,by omega⟩ (A4E [51] (AC [(1,.nm 1),(2,.nm 2),(3,.nm 3),(4,.nm 4),(5,.nm 5),(6,.nm 6)] rfl rfl ?_ ?_)) (fun i=>?_)
         ·simp only[LP,AAS,List.foldl_nil];first|exact eN|refine eM ?_
         ·first|exact eN|refine eM ?_
         ·obtain⟨i,hi⟩:=i;obtain⟨j,y⟩:=M i;replace j:=A2X j;have r:=fun(h:i<L.length)=>Qb (BE (EA f) k) L (0,0) q h;have G:=y.length_le;generalize x:(L.take i).foldl (BE (EA f) k) q=d at j y r G;simp only[LP];repeat'(first|exact trivial|refine eS rfl ?_|refine AB ?_|refine rX c ?_ ?_|refine rC ?_ ?_<;>intro b<;>try(cases b;done))
          ·exact eV
          ·have l:i<L.length:=by exact eV
           have hr:=s _ (AD L (0,0) l);have m:(L.getD i (0,0)).2∉d:=by rw[Tl]at b;simpa using b
           refine cP 3 c ?_ ?_
           ·trivial
           ·refine rM c (O d (L.getD i (0,0)).2 j hr.1 hr.2 m (by omega)) [(1,.nm 1),(2,.nm 2),(3,.nm 3),(4,.nm 4),(5,.nm 5),(6,.nm 6)] [5] ?_ ?_ ?_
            ·first|exact eN|refine eM ?_
            ·simp only[LP];first|exact eN|refine eM ?_
            ·rintro _ _ ⟨rfl,rfl⟩;refine⟨[(1,.nm 1),(2,.nm 2),(3,.nm 3),(4,.nm 4),(5,.nm 5),(6,.nm 6)],.raw (.tuple #[]),LP f (Ep (EA f) k d (L.getD i (0,0)).2),rfl,rfl,?_,?_,rfl,rfl,Cy ?_⟩
             ·simp only[LP];first|exact eN|refine eM ?_
             ·first|exact eN|refine eM ?_
             ·simp only[LP];repeat'(first|exact trivial|refine eS rfl ?_|refine AB ?_|refine rX c ?_ ?_|refine rC ?_ ?_<;>intro b<;>try(cases b;done))
              ·exact eV
              ·have e:BE (EA f) k d (L.getD i (0,0))=Ep (EA f) k d (L.getD i (0,0)).2:=At m;refine⟨⟨i+1,by omega⟩,by simp only;omega,AC [(1,.nm 1),(2,.nm 2),(3,.nm 3),(4,.nm 4),(5,.nm 5),(6,.nm 6)] rfl rfl ?_ ?_⟩
               ·simp only[r l,e];first|exact eN|refine eM ?_
               ·first|exact eN|refine eM ?_
          ·exact eV
          ·have l:i<L.length:=by exact eV
           have m:(L.getD i (0,0)).2∈d:=by rw[Tl]at b;simpa using b
           have e:BE (EA f) k d (L.getD i (0,0))=d:=BY m;refine⟨⟨i+1,by omega⟩,by simp only;omega,AC [(1,.nm 1),(2,.nm 2),(3,.nm 3),(4,.nm 4),(5,.nm 5),(6,.nm 6)] rfl rfl ?_ ?_⟩
           ·simp only[r l,e];first|exact eN|refine eM ?_
           ·first|exact eN|refine eM ?_
          ·have hk:L.take i=L:=As (by exact eV);rw[hk]at x;rw[E,x];exact fM c [] (.raw (.tuple #[])) rfl ⟨rfl,rfl⟩
section
theorem rJ {α a:Type} (g:α→a) (o:List α) (d:α) (z:a) {i:Nat} (h:i<o.length):((o.take i).map g++List.replicate (o.length-i) z).set i (g (o.getD i d))=(o.take (i+1)).map g++List.replicate (o.length-(i+1)) z:=by
 obtain⟨m,c⟩:∃m,o.length-i=m+1:=⟨o.length-i-1,by omega⟩;have e:o.length-(i+1)=m:=by omega
 have b:((o.take i).map g).length=i:=by rw[nO,SH];omega
 rw[c,e,ABY _ _ (by omega),b,AB4,List.replicate_succ,ACk,Ab o d h,AAx];simp
def Sd:Ac:={ ins:=[FZ,T3],pre:=fun(f,n,_)=>A2 f∧NdF f∧0≤n∧n<(List.length f:Int),out:=fun(f,n,_)=>[.p FZ (AU (EA f) n)] }
attribute [local go_sem] Sd
theorem rK:Ah Tryz.prog 77 Sd:=by
 refine fK [0,1,2,4,5,6,7,8,9,10,11,12,22,23,24,25,38,39,40] Tryz.func77 Tryz.ntmps77 AG ?_;rintro w0 O0 ⟨f,root,u⟩ a-⟨hf,hs,r,s⟩;simp only[Sd,AM];have z:=hf.1;have j:Mi f []:=⟨by simp,fun x C=>by cases C⟩;obtain⟨g,H⟩:=FF (Qf hf) f.length [] root (A6u j) r (by rw[Ft];exact s) (by simp);replace g:=A2X g;have w:AU (EA f) root=(Ep (EA f) f.length [] root).map (LN (EA f) (Ep (EA f) f.length [] root)):=by unfold AU;rw[Ft]
 rw[w];repeat'(first|exact trivial|refine eS rfl ?_|refine AB ?_|refine rX a ?_ ?_|refine rC ?_ ?_<;>intro c<;>try(cases c;done))
 refine cP 2 a ?_ ?_
 ·trivial
 ·refine rM a (rI f hf hs (List.length f) [] root j r s (by simp) (by simp)) [(1,.nm 6),(2,.nm 5),(3,.nm 2),(4,.nm 7),(5,.nil),(6,.nm 13)] [] ?_ ?_ ?_
  ·first|exact eN|refine eM ?_
  ·simp only[LP];first|exact eN|refine eM ?_
   rfl
  ·rintro _ _ ⟨rfl,rfl⟩;refine⟨[(6,.nm 1),(5,.nm 2),(2,.nm 3),(7,.nm 4),(101,.nm 5),(13,.nm 6)],.raw (.tuple #[]),[(6,.box 60 false [.sr 101 T3 0 (Ep (EA f) (List.length f) [] root).length]),(5,.box 160 false [.mp 13]),(2,.box 25 true [.p Et f]),(7,.box 124 false [.clo 113 [6,5,2,7]]),(101,.arr 3 T3 (Ep (EA f) (List.length f) [] root)),(13,.mapo T3 T3 (tS (Ep (EA f) (List.length f) [] root)))],rfl,rfl,?_,?_,rfl,rfl,Cy ?_⟩
   ·simp only[LP];first|exact eN|refine eM ?_
   ·first|exact eN|refine eM ?_
   ·generalize Ep (EA f) (List.length f) [] root=o at *;have G:=g.len;repeat'(first|exact trivial|refine eS rfl ?_|refine AB ?_|refine rX a ?_ ?_|refine rC ?_ ?_<;>intro c<;>try(cases c;done))
    ·simp only[AO];omega
    ·refine AI (ι:={i:Nat//i≤o.length}) (fun i=>⟨[(2,.bp 2 [] 0),(4,.bp 4 [] 0),(5,.bp 5 [] 0),(8,.bp 8 [] 0),(22,.sr 101 T3 0 o.length),(23,.p (.int .i64) (o.length:Int)),(24,.p (.int .i64) (i.1:Int))],[(8,.box 25 true [.sr 20 LJ 0 o.length]),(20,.arr 49 LJ ((o.take i.1).map (LN (EA f) o)++List.replicate (o.length-i.1) (0,[]))),(5,.box 160 false [.mp 13]),(2,.box 25 true [.p Et f]),(101,.arr 3 T3 o),(13,.mapo T3 T3 (tS o)),(4,.box 25 true [.raw (.slice none 0 0)])]⟩) (fun i=>o.length-i.1) ⟨0,by omega⟩ (AC [(8,.nm 8),(20,.nm 20),(5,.nm 5),(2,.nm 2),(101,.nm 101),(13,.nm 13),(4,.nm 4)] rfl rfl ?_ ?_) (fun i=>?_)
     ·first|exact eN|refine eM ?_
     ·first|exact eN|refine eM ?_
     ·obtain⟨i,hi⟩:=i;repeat'(first|exact trivial|refine eS rfl ?_|refine AB ?_|refine rX a ?_ ?_|refine rC ?_ ?_<;>intro c<;>try(cases c;done))
      ·exact eV
      ·have l:i<o.length:=by exact eV
       have hn:=g.rng _ (AD o 0 l);have q:LN (EA f) o (o.getD i 0)=((f.getD (o.getD i 0).toNat (0,[])).1,(AR (f.getD (o.getD i 0).toNat (0,[])).2).map (L2 o)):=by unfold LN;rw[O6]
       obtain⟨t,m⟩:=nT hs (o.getD i 0);refine cP 6 a ?_ ?_
       ·exact hn
       ·have F:List.length f≤100000:=z;generalize B:o.getD i 0=n at *;generalize A:f.getD n.toNat (0,[])=x at *;obtain⟨I,d⟩:=x;simp only at t m q;refine rM a (Wl d) [] [] ?_ ?_ ?_
        ·first|exact eN|refine eM ?_
        ·first|exact eN|refine eM ?_
        ·rintro _ _ ⟨rfl,rfl⟩;refine⟨[(50,.nm 1)],.clo 149 [50],[(50,.box 47 false [.p Ii d])],rfl,rfl,?_,?_,rfl,rfl,?_⟩
         ·first|exact eN|refine eM ?_
         ·first|exact eN|refine eM ?_
         ·refine rM a (NP d m t) [(1,.nm 50)] [50] ?_ ?_ ?_
          ·first|exact eN|refine eM ?_
          ·first|exact eN|refine eM ?_
          ·rintro _ _ ⟨rfl,rfl⟩;have v:=Ci d;rw[←v];generalize E:AR d=L at *;refine⟨[(51,.nm 7)],.sr 51 BK 0 L.length,[(51,.arr 53 BK L)],rfl,rfl,?_,?_,rfl,rfl,?_⟩
           ·first|exact eN|refine eM ?_
           ·first|exact eN|refine eM ?_
           ·refine IC [2,4,5,8,9,10,11,22,23,24] a (by simp only[go_sem,Nat.reduceEqDiff,reduceCtorEq,Nat.reduceAdd,Nat.reduceSub,Nat.reduceMul,Nat.reduceLeDiff,Nat.reduceLT,Int.reduceLE,Int.reduceToNat,Int.reduceNeg,↓reduceIte];rfl) ?_ ?_
            ·trivial
            ·repeat'(first|exact trivial|refine eS rfl ?_|refine AB ?_|refine rX a ?_ ?_|refine rC ?_ ?_<;>intro c<;>try(cases c;done))
             refine AI (ι:={k:Nat//k≤L.length}) (fun k=>⟨[(2,.bp 2 [] 0),(4,.bp 4 [] 0),(5,.bp 5 [] 0),(8,.bp 8 [] 0),(9,.p (.int .i64) (i:Int)),(10,.p T3 n),(11,.sr 51 BK 0 L.length),(22,.sr 101 T3 0 o.length),(23,.p (.int .i64) (o.length:Int)),(24,.p (.int .i64) (i:Int)),(38,.p (.int .i64) (L.length:Int)),(39,.p (.int .i64) (k.1:Int))],[(51,.arr 53 BK ((L.take k.1).map (L2 o)++L.drop k.1)),(8,.box 25 true [.sr 20 LJ 0 o.length]),(20,.arr 49 LJ ((o.take i).map (LN (EA f) o)++List.replicate (o.length-i) (0,[]))),(5,.box 160 false [.mp 13]),(2,.box 25 true [.p Et f]),(101,.arr 3 T3 o),(13,.mapo T3 T3 (tS o)),(4,.box 25 true [.raw (.slice none 0 0)])]⟩) (fun k=>L.length-k.1) ⟨0,by omega⟩ (AC [(51,.nm 51),(8,.nm 8),(20,.nm 20),(5,.nm 5),(2,.nm 2),(101,.nm 101),(13,.nm 13),(4,.nm 4)] rfl rfl ?_ ?_) (fun k=>?_)
             ·first|exact eN|refine eM ?_
             ·first|exact eN|refine eM ?_
             ·obtain⟨k,hk⟩:=k;repeat'(first|exact trivial|refine eS rfl ?_|refine AB ?_|refine rX a ?_ ?_|refine rC ?_ ?_<;>intro c<;>try(cases c;done))
              ·exact eV
              ·exact eV
              ·have h:k<L.length:=by exact eV
               have e:=Tj (L2 o) (fun b=>b) L (0,0) h (L2 o);refine⟨⟨k+1,by omega⟩,by simp only;omega,AC [(51,.nm 51),(8,.nm 8),(20,.nm 20),(5,.nm 5),(2,.nm 2),(101,.nm 101),(13,.nm 13),(4,.nm 4)] rfl rfl ?_ ?_⟩
               ·first|exact eN|refine eM ?_
                rw[e.2];rw[←e.1];unfold L2;rw[←A1O]
               ·first|exact eN|refine eM ?_
              ·exact⟨hn,by exact eV⟩
              ·exact eV
              ·have h:L.take k=L:=As (by exact eV);have y:L.drop k=[]:=IF (by exact eV);refine⟨⟨i+1,by omega⟩,by simp only;omega,AC [(8,.nm 8),(20,.nm 20),(5,.nm 5),(2,.nm 2),(101,.nm 101),(13,.nm 13),(4,.nm 4)] rfl rfl ?_ ?_⟩
               ·first|exact eN|refine eM ?_
                rw[h,y,AAa];have e:=rJ (LN (EA f) o) o 0 (0,[]) l;rw[B,q]at e;rw[←e,A,As (by simp:(L.map (L2 o)).length≤L.length)]
               ·first|exact eN|refine eM ?_
      ·have hk:o.take i=o:=As (by exact eV);have D:o.length-i=0:=by exact eV
       rw[hk,D];exact fI a [.cell 4 25] (by simp only[List.replicate_zero,AAa];first|exact eR|refine Zr ?_;exact As (by rw[nO];exact eV))
end
def Fu (n:Int) (seen:List (Int×Int)):List (Int×Int)→Int
 | []=>0
 | x :: r=>if x.1<0∨x.2<0∨n≤x.2 then 2 else if (seen.any fun y=>y.1==x.1)=true then 4 else Fu n (seen++[x]) r
def F7 (l:List (Int×Int)) (n:Int):Int:=Fu n [] l
def eI:Ac:={ ins:=[Ii,T3],pre:=fun _=>True,out:=fun(l,n,_)=>[.p Th (F7 l n)] }
theorem Nt (n:Int) (l:List (Int×Int)) {k:Nat} (h:k<l.length):Fu n (l.take k) (l.drop k)=if (l.getD k (0,0)).1<0∨(l.getD k (0,0)).2<0∨n≤(l.getD k (0,0)).2 then 2 else if ((l.take k).any fun y=>y.1==(l.getD k (0,0)).1)=true then 4 else Fu n (l.take (k+1)) (l.drop (k+1)):=by
 rw[Ab l (0,0) h,OS h,AS,AT h];rfl
theorem Vl (l:List (Int×Int)) (f:Int) {k:Nat} (h:k<l.length):((l.take (k+1)).any fun y=>y.1==f)=((l.take k).any (fun y=>y.1==f)||((l.getD k (0,0)).1==f)):=by
 rw[Ab l (0,0) h,ABx];simp
theorem A20:Ah Tryz.prog 141 eI:=by
 refine fK [0,1,4,5,6,10,35,38,51] Tryz.func141 Tryz.ntmps141 AG ?_;rintro w0 O0 ⟨l,n,u⟩ b ⟨⟨h,-⟩,-⟩ -;simp only[AO]at h;simp only[eI,AM];repeat'(first|exact trivial|refine eS rfl ?_|refine AB ?_|refine rX b ?_ ?_|refine rC ?_ ?_<;>intro a<;>try(cases a;done))
 refine AI (ι:={k:Nat//k≤l.length∧Fu n (l.take k) (l.drop k)=F7 l n}) (fun k=>⟨[(0,.p Ii l),(1,.p T3 n),(5,.p (.int .i64) (k.1:Int))],[]⟩) (fun k=>l.length-k.1) ⟨0,by simp[F7]⟩ (AC [] rfl rfl ?_ ?_) (fun k=>?_)
 ·first|exact eN|refine eM ?_
 ·first|exact eN|refine eM ?_
 ·obtain⟨k,hk,c⟩:=k;repeat'(first|exact trivial|refine eS rfl ?_|refine AB ?_|refine rX b ?_ ?_|refine rC ?_ ?_<;>intro a<;>try(cases a;done))
  ·exact eV
  ·have hk:k<l.length:=by exact eV
   have h1:F7 l n=2:=by
    rw[←c,Nt n l hk,BY (by rw[←or_assoc];exact a)]
   exact fI b [.tmp 4] (by rw[h1];exact eR)
  ·have hk:k<l.length:=by exact eV
   have hn:¬((l.getD k (0,0)).1<0∨(l.getD k (0,0)).2<0∨n≤(l.getD k (0,0)).2):=by
    have:=a;generalize l.getD k (0,0)=x at this;exact eV
   rw[Nt n l hk,At hn]at c;refine AI (ι:={j:Nat//j≤k∧((l.take j).any fun y=>y.1==(l.getD k (0,0)).1)=false}) (fun j=>⟨[(0,.p Ii l),(1,.p T3 n),(5,.p (.int .i64) (k:Int)),(6,.p (.int .i64) (j.1:Int))],[]⟩) (fun j=>k-j.1) ⟨0,by simp⟩ (AC [] rfl rfl ?_ ?_) (fun j=>?_)
   ·first|exact eN|refine eM ?_
   ·first|exact eN|refine eM ?_
   ·obtain⟨j,i,f⟩:=j;repeat'(first|exact trivial|refine eS rfl ?_|refine AB ?_|refine rX b ?_ ?_|refine rC ?_ ?_<;>intro a<;>try(cases a;done))
    ·exact eV
    ·have e:j<l.length:=by exact eV
     have h1:F7 l n=4:=by
      have d:((l.take k).any fun y=>y.1==(l.getD k (0,0)).1)=true:=by
       rw[Of];refine⟨l.getD j (0,0),?_,by simpa using a⟩;rw[AS,AT e];exact ABr.2 ⟨j,by exact eV,rfl⟩
      rw[←c,BY d]
     exact fI b [.tmp 4] (by rw[h1];exact eR)
    ·exact eV
    ·have e:j<l.length:=by exact eV
     refine⟨⟨j+1,by exact eV,?_⟩,by simp only;exact eV,AC [] rfl rfl ?_ ?_⟩
     ·have d:=Vl l (l.getD k (0,0)).1 e;refine d.trans ?_;rw[f];simpa using a
     ·first|exact eN|refine eM ?_
     ·first|exact eN|refine eM ?_
    ·exact eV
    ·have g:j=k:=by exact eV
     subst g;refine⟨⟨j+1,by exact eV,?_⟩,by simp only;exact eV,AC [] rfl rfl ?_ ?_⟩
     ·rw[←c,At (by rw[f];simp)]
     ·first|exact eN|refine eM ?_
     ·first|exact eN|refine eM ?_
  ·have h1:F7 l n=0:=by
    have hk:l.length≤k:=by exact eV
    rw[←c,IF hk];rfl
   exact fI b [.tmp 4] (by rw[h1];exact eR)
def Tp (n:Int×List (Int×Int)):List Int:=n.1 :: (n.2.length:Int) :: n.2.flatMap fun a=>[a.1,a.2]
def Bu (f:List (Int×List (Int×Int))):List Int:=(f.length:Int) :: f.flatMap Tp
def Vm (l:List (Int×List (Int×Int))) (k:Nat):List Int:=(l.length:Int) :: (l.take k).flatMap Tp
def Tq (l:List (Int×List (Int×Int))) (k j:Nat):List Int:=Vm l k++[(l.getD k (0,[])).1,((l.getD k (0,[])).2.length:Int)]++((l.getD k (0,[])).2.take j).flatMap fun a=>[a.1,a.2]
theorem Qg:∀l:List (Int×Int),(l.flatMap fun a=>[a.1,a.2]).length=2*l.length
 | []=>rfl
 | x :: l=>by simp[Qg l];omega
theorem y4 (n:Int×List (Int×Int)):(Tp n).length=2+2*n.2.length:=by
 have:=Qg n.2;simp only[Tp,No];omega
theorem Tr:∀l:List (Int×List (Int×Int)),(∀n∈l,n.2.length≤100000)→(l.flatMap Tp).length≤l.length*200002
 | [],_=>by simp
 | x :: l,h=>by
  have h1:=h x (by simp);have a:=Tr l (fun n hn=>h n (by simp[hn]));have b:=y4 x;simp only[ABG,OR,No];omega
theorem eJ {l:List (Int×List (Int×Int))} (h:∀n∈l,n.2.length≤100000) {k:Nat} (hk:k≤l.length):(Vm l k).length≤1+k*200002:=by
 have h1:=Tr (l.take k) (fun n hn=>h n (AAb hn));rw[SH,ABe hk]at h1;simp only[Vm,No];omega
theorem y5 {l:List (Int×List (Int×Int))} (h:∀n∈l,n.2.length≤100000) {k j:Nat} (hk:k<l.length) (b:j≤(l.getD k (0,[])).2.length):(Tq l k j).length≤3+k*200002+2*j:=by
 have h1:=eJ h (ACF hk);have a:=Qg ((l.getD k (0,[])).2.take j);rw[SH,ABe b]at a;simp only[Tq,OR,No,AAM];omega
theorem Wm {l:List (Int×List (Int×Int))} {k:Nat} (hk:k<l.length):Vm l (k+1)=Tq l k (l.getD k (0,[])).2.length:=by
 unfold Vm Tq;rw[Ab l (0,[]) hk,List.flatMap_append,f5];simp[Tp,Vm]
theorem Wn {l:List (Int×List (Int×Int))} {k j:Nat} (a:j<(l.getD k (0,[])).2.length):Tq l k (j+1)=Tq l k j++[((l.getD k (0,[])).2.getD j (0,0)).1,((l.getD k (0,[])).2.getD j (0,0)).2]:=by
 unfold Tq;rw[Ab _ (0,0) a,List.flatMap_append];simp
def Ts:Ac:={ ins:=[FZ],pre:=fun(f,_)=>f.length≤100000∧∀n∈f,n.2.length≤100000,out:=fun(f,_)=>[.p I4 (Bu f)] }
theorem j6:Ah Tryz.prog 74 Ts:=by
 refine fK [0,1,2,3,4,5,6,15,38] Tryz.func74 Tryz.ntmps74 AG ?_;rintro w0 O0 ⟨l,u⟩ b ⟨h,-⟩ ⟨n,d⟩;simp only[Ts,AM];repeat'(first|exact trivial|refine eS rfl ?_|refine AB ?_|refine rX b ?_ ?_|refine rC ?_ ?_<;>intro a<;>try(cases a;done))
 refine AI (ι:={k:Nat//k≤l.length}) (fun k=>⟨[(0,.p FZ l),(1,.bp 1 [] 0),(3,.sr 10 T3 0 (Vm l k.1).length),(4,.p (.int .i64) (k.1:Int))],[(1,.box 25 true [.p Et l]),(10,.arr 3 T3 (Vm l k.1))]⟩) (fun k=>l.length-k.1) ⟨0,by simp⟩ (AC [(1,.nm 1),(10,.nm 10)] rfl rfl ?_ ?_) (fun k=>?_)
 ·first|exact eN|refine eM ?_
  rfl
 ·first|exact eN|refine eM ?_
  rfl
 ·obtain⟨k,hk⟩:=k;have i:=eJ d hk;repeat'(first|exact trivial|refine eS rfl ?_|refine AB ?_|refine rX b ?_ ?_|refine rC ?_ ?_<;>intro a<;>try(cases a;done))
  ·exact eV
  ·refine⟨by exact eV,?_⟩;simp only[AO];exact eV
  ·have c:k<l.length:=by exact eV
   have o:=d _ (AD l (0,[]) c);refine AI (ι:={j:Nat//j≤(l.getD k (0,[])).2.length}) (fun j=>⟨[(0,.p FZ l),(1,.bp 1 [] 0),(3,.sr 10 T3 0 (Tq l k j.1).length),(4,.p (.int .i64) (k:Int)),(5,.p Ii (l.getD k (0,[])).2),(6,.p (.int .i64) (j.1:Int))],[(1,.box 25 true [.p Et l]),(10,.arr 3 T3 (Tq l k j.1))]⟩) (fun j=>(l.getD k (0,[])).2.length-j.1) ⟨0,by simp⟩ (AC [(1,.nm 1),(10,.nm 10)] rfl rfl ?_ ?_) (fun j=>?_)
   ·first|exact eN|refine eM ?_
    simp[Tq]
   ·first|exact eN|refine eM ?_
    simp[Tq]
   ·obtain⟨j,f⟩:=j;have m:=y5 d c f;repeat'(first|exact trivial|refine eS rfl ?_|refine AB ?_|refine rX b ?_ ?_|refine rC ?_ ?_<;>intro a<;>try(cases a;done))
    ·refine⟨by exact eV,by exact eV,?_⟩;simp only[AO];exact eV
    ·exact eV
    ·have e:j<(l.getD k (0,[])).2.length:=by exact eV
     refine⟨⟨j+1,by exact eV⟩,by simp only;exact eV,AC [(1,.nm 1),(10,.nm 10)] rfl rfl ?_ ?_⟩
     ·first|exact eN|refine eM ?_
      exact(Wn e).symm
     ·first|exact eN|refine eM ?_
      have:=AAX List.length (Wn (l:=l) e);rw[OR]at this;exact this.symm
    ·exact eV
    ·have g:j=(l.getD k (0,[])).2.length:=by exact eV
     subst g;refine⟨⟨k+1,by exact eV⟩,by simp only;exact eV,AC [(1,.nm 1),(10,.nm 10)] rfl rfl ?_ ?_⟩
     ·first|exact eN|refine eM ?_
      exact(Wm c).symm
     ·first|exact eN|refine eM ?_
      exact AAX List.length (Wm c).symm
  ·have hk:l.take k=l:=As (by exact eV);have h1:Vm l k=Bu l:=by unfold Vm Bu;rw[hk]
   exact fI b [.tmp 2] (by first|exact eR|refine Zr ?_;exact h1)
section
attribute [local go_sem] Ts
def Kn:List Int→List Int→Int
 | x :: xs,y :: ys=>if x<y then -1 else if y<x then 1 else Kn xs ys
 | _,_=>0
theorem Qh (xs ys:List Int) {k:Nat} (h1:k<xs.length) (a:k<ys.length):Kn (xs.drop k) (ys.drop k)=if xs.getD k 0<ys.getD k 0 then -1 else if ys.getD k 0<xs.getD k 0 then 1 else Kn (xs.drop (k+1)) (ys.drop (k+1)):=by
 rw[OS h1,OS a,AS,AT h1,AS,AT a];rfl
theorem y6 (xs ys:List Int) {k:Nat} (h:xs.length≤k∨ys.length≤k):Kn (xs.drop k) (ys.drop k)=0:=by
 rcases h with h|h
 ·rw[IF h];simp[Kn]
 ·rw[IF h];simp[Kn]
def Cp (a b:List (Int×List (Int×Int))):Int:=Kn (Bu a) (Bu b)
def CW (f:List (Int×List (Int×Int))):Prop:=f.length≤100000∧∀n∈f,n.2.length≤100000
def Tt:Ac:={ ins:=[FZ,FZ],pre:=fun(a,b,_)=>CW a∧CW b,out:=fun(a,b,_)=>[.p T3 (Cp a b)] }
theorem O7 {f:List (Int×List (Int×Int))} (h:CW f):(Bu f).length≤1+f.length*200002:=by
 have:=Tr f h.2;simp only[Bu,No];omega
theorem j7:Ah Tryz.prog 47 Tt:=by
 refine fK [0,1,2,3,4,5,6,7,21,32,41] Tryz.func47 Tryz.ntmps47 (AE j6 AG) ?_;rintro w0 O0 ⟨a,b,u⟩ f-⟨⟨g,i⟩,⟨j,l⟩⟩;have m:=O7 ⟨g,i⟩;have n:=O7 ⟨j,l⟩;simp only[Tt,AM];repeat'(first|exact trivial|refine eS rfl ?_|refine AB ?_|refine rX f ?_ ?_|refine rC ?_ ?_<;>intro c<;>try(cases c;done))
 ·exact⟨g,i⟩
 ·exact⟨j,l⟩
 ·refine AI (ι:={k:Nat//Kn ((Bu a).drop k) ((Bu b).drop k)=Cp a b}) (fun k=>⟨[(5,.p I4 (Bu a)),(6,.p I4 (Bu b)),(7,.p (.int .i64) (k.1:Int))],[]⟩) (fun k=>(Bu a).length-k.1) ⟨0,by simp[Cp]⟩ (AC [] rfl rfl ?_ ?_) (fun k=>?_)
  ·first|exact eN|refine eM ?_
  ·first|exact eN|refine eM ?_
  ·obtain⟨k,hk⟩:=k;repeat'(first|exact trivial|refine eS rfl ?_|refine AB ?_|refine rX f ?_ ?_|refine rC ?_ ?_<;>intro c<;>try(cases c;done))
   ·exact eV
   ·obtain⟨h1,d⟩:k<(Bu a).length∧k<(Bu b).length:=by exact eV
    have e:Cp a b=-1:=by rw[←hk,Qh _ _ h1 d,BY c]
    exact fI f [.tmp 4] (by rw[e];exact eR)
   ·exact eV
   ·obtain⟨h1,d⟩:k<(Bu a).length∧k<(Bu b).length:=by exact eV
    have e:Cp a b=1:=by rw[←hk,Qh _ _ h1 d,At (by exact eV),BY c]
    exact fI f [.tmp 4] (by rw[e];exact eR)
   ·exact eV
   ·obtain⟨h1,d⟩:k<(Bu a).length∧k<(Bu b).length:=by exact eV
    refine⟨⟨k+1,?_⟩,by simp only;exact eV,AC [] rfl rfl ?_ ?_⟩
    ·rw[←hk,Qh _ _ h1 d,At (by exact eV),At (by exact eV)]
    ·first|exact eN|refine eM ?_
    ·first|exact eN|refine eM ?_
   ·have e:Cp a b=0:=by
     rw[←hk];apply y6;by_cases h:k<(Bu a).length
     ·right;have:=c (by exact eV);exact eV
     ·left;exact eV
    exact fI f [.tmp 4] (by rw[e];exact eR)
def Ko:Ac:={ ins:=[FZ,FZ],pre:=fun(a,b,_)=>CW a∧CW b,out:=fun(a,b,_)=>[.p .bool (Cp a b==0)] }
end
section
attribute [local go_sem] Tt eI
theorem O8:Ah Tryz.prog 20 Ko:=by
 refine fK [0,1,2,3,4] Tryz.func20 Tryz.ntmps20 (AE j7 AG) ?_;rintro w0 O0 ⟨a,b,u⟩ c-e;simp only[Ko,AM];repeat'(first|exact trivial|refine eS rfl ?_|refine AB ?_|refine rX c ?_ ?_|refine rC ?_ ?_<;>intro d<;>try(cases d;done))
 ·exact e
 ·exact fI c [.tmp 4]
def Fv (m:Int):List (Int×List (Int×Int))→Int
 | []=>0
 | n :: r=>if n.1<0 then 2 else if F7 n.2 m≠0 then F7 n.2 m else Fv m r
def Bv (f:List (Int×List (Int×Int))):Int:=if f.length=0 then 1 else if 4096<f.length then 7 else Fv f.length f
def y7:Ac:={ ins:=[FZ],pre:=fun _=>True,out:=fun(f,_)=>[.p Th (Bv f)] }
theorem IJ (m:Int) (l:List (Int×List (Int×Int))) {k:Nat} (h:k<l.length):Fv m (l.drop k)=if (l.getD k (0,[])).1<0 then 2 else if F7 (l.getD k (0,[])).2 m≠0 then F7 (l.getD k (0,[])).2 m else Fv m (l.drop (k+1)):=by
 rw[OS h,AS,AT h];rfl
theorem A21:Ah Tryz.prog 108 y7:=by
 refine fK [0,1,2,3,4,8,12,17,26,38] Tryz.func108 Tryz.ntmps108 (AE A20 AG) ?_;rintro w0 O0 ⟨l,u⟩ a ⟨f,-⟩ -;simp only[y7,AM];repeat'(first|exact trivial|refine eS rfl ?_|refine AB ?_|refine rX a ?_ ?_|refine rC ?_ ?_<;>intro b<;>try(cases b;done))
 ·have h1:Bv l=1:=by
   have h:l.length=0:=by exact eV
   unfold Bv;rw[BY h]
  exact fI a [.tmp 2] (by rw[h1];exact eR)
 ·have h1:Bv l=7:=by
   have h:¬l.length=0:=by exact eV
   have e:4096<l.length:=by exact eV
   unfold Bv;rw[At h,BY e]
  exact fI a [.tmp 2] (by rw[h1];exact eR)
 ·have h1:Bv l=Fv l.length l:=by
   have h:¬l.length=0:=by exact eV
   have e:¬4096<l.length:=by exact eV
   unfold Bv;rw[At h,At e]
  refine AI (ι:={k:Nat//k≤l.length∧Fv l.length (l.drop k)=Bv l}) (fun k=>⟨[(1,.bp 1 [] 0),(3,.p (.int .i64) (k.1:Int))],[(1,.box 25 true [.p Et l])]⟩) (fun k=>l.length-k.1) ⟨0,by simp[h1]⟩ (AC [(1,.nm 1)] rfl rfl ?_ ?_) (fun k=>?_)
  ·first|exact eN|refine eM ?_
  ·first|exact eN|refine eM ?_
  ·obtain⟨k,hk,hf⟩:=k;repeat'(first|exact trivial|refine eS rfl ?_|refine AB ?_|refine rX a ?_ ?_|refine rC ?_ ?_<;>intro b<;>try(cases b;done))
   ·exact eV
   ·have d:k<l.length:=by exact eV
    have c:Bv l=2:=by rw[←hf,IJ _ _ d,BY b]
    exact fI a [.tmp 2] (by rw[c];exact eR)
   ·exact eV
   ·have d:k<l.length:=by exact eV
    have c:Bv l=F7 (l.getD k (0,[])).2 l.length:=by rw[←hf,IJ _ _ d,At (by exact eV),BY b]
    exact fI a [.tmp 2] (by rw[c];exact eR)
   ·exact eV
   ·have d:k<l.length:=by exact eV
    refine⟨⟨k+1,by exact eV,?_⟩,by simp only;exact eV,AC [(1,.nm 1)] rfl rfl ?_ ?_⟩
    ·rw[←hf,IJ _ _ d,At (by exact eV),At (by simpa using b)]
    ·first|exact eN|refine eM ?_
    ·first|exact eN|refine eM ?_
   ·have c:Bv l=0:=by
     have hk:l.length≤k:=by exact eV
     rw[←hf,IF hk];rfl
    exact fI a [.tmp 2] (by rw[c];exact eR)
end
section
attribute [local go_sem] y7 d7
theorem Tu {n:Int}:∀ {l seen:List (Int×Int)},Fu n seen l=0→∀a∈l,0≤a.1∧0≤a.2∧a.2<n
 | [],_,_,a,ha=>by cases ha
 | x :: l,seen,h,a,ha=>by
  simp only[Fu]at h;split at h
  ·cases h
  ·split at h
   ·cases h
   ·rename_i h1 _;rcases GO.1 ha with rfl|ha
    ·omega
    ·exact Tu h a ha
theorem IK {m:Int}:∀ {f:List (Int×List (Int×Int))},Fv m f=0→∀x∈f,0≤x.1∧∀a∈x.2,0≤a.1∧0≤a.2∧a.2<m
 | [],_,x,c=>by cases c
 | y :: f,h,x,c=>by
  simp only[Fv]at h;split at h
  ·cases h
  ·split at h
   ·rename_i h1 b;exact absurd h b
   ·rename_i h1 b;have b:F7 y.2 m=0:=DO b;rcases GO.1 c with rfl|c
    ·exact⟨by omega,Tu b⟩
    ·exact IK h x c
def Tv (f:List (Int×List (Int×Int))):Prop:=∀x∈f,x.2.length≤100000
theorem IL {f:List (Int×List (Int×Int))} (h:Bv f=0) (hs:Tv f):A2 f∧0<f.length:=by
 unfold Bv at h;split at h
 ·cases h
 ·split at h
  ·cases h
  ·refine⟨⟨by omega,fun x b=>⟨hs x b,fun a ha=>?_⟩⟩,by omega⟩;have:=(IK h x b).2 a ha;exact⟨this.2.1,this.2.2⟩
def Ax (f:List AF):List AF×Int:=if Bv f=0 then (ET f 0,0) else ([],Bv f)
def YH:Ac:={ ins:=[FZ],pre:=fun(f,_)=>Tv f,out:=fun(f,_)=>[.p FZ (Ax f).1,.p Th (Ax f).2] }
theorem y8:Ah Tryz.prog 70 YH:=by
 refine fK [0,1,2,3,4,8] Tryz.func70 Tryz.ntmps70 (AE A21 (AE nN AG)) ?_;rintro w0 O0 ⟨f,u⟩ b-hs;simp only[YH,AM];repeat'(first|exact trivial|refine eS rfl ?_|refine AB ?_|refine rX b ?_ ?_|refine rC ?_ ?_<;>intro a<;>try(cases a;done))
 ·have h:¬Bv f=0:=by simpa using a
  have e:Ax f=([],Bv f):=At h;exact fI b [.cell 2 25,.tmp 3] (by rw[e];exact eR)
 ·have h:Bv f=0:=by simpa using a
  have:=IL h hs;exact⟨this.1,by exact eV⟩
 ·have h:Bv f=0:=by simpa using a
  have e:Ax f=(ET f 0,0):=BY h;exact fI b [.cell 2 25,.tmp 3] (by rw[e];exact eR)
end
section
attribute [local go_sem] Gl eI
theorem eK {a b:Int}:Fg a b=0↔a=b:=by
 unfold Fg;split
 ·constructor<;>intro h<;>omega
 ·split
  ·constructor<;>intro h<;>omega
  ·exact⟨fun _=>by omega,fun _=>rfl⟩
def Vn:List Int→Int
 | []=>0
 | x :: l=>if x=0 then Vn l else x
theorem eL {l:List Int} {k:Nat} (h:k<l.length):Vn (l.drop k)=if l.getD k 0=0 then Vn (l.drop (k+1)) else l.getD k 0:=by
 rw[OS h];have e:l.getD k 0=l[k]:=by simp[AS,h]
 rw[e];rfl
def j8:Ac:={ ins:=[I4],pre:=fun _=>True,out:=fun(l,_)=>[.p T3 (Vn l)],lend:=true }
attribute [local go_sem] j8
theorem eO:Ah Tryz.prog 158 j8:=by
 refine fK [0,2,3,5,6,7,8,9,14] Tryz.func158 Tryz.ntmps158 AG ?_;rintro w0 O0 ⟨l,u⟩ c ⟨⟨f,-⟩,-⟩ -;simp only[AO]at f;simp only[j8,AM];repeat'(first|exact trivial|refine eS rfl ?_|refine AB ?_|refine rX c ?_ ?_|refine rC ?_ ?_<;>intro b<;>try(cases b;done))
 refine AI (ι:={k:Nat//k≤List.length l∧Vn l=Vn ((l:List Int).drop k)}) (fun k=>⟨[(3,.p T3 0),(6,.p I4 l),(7,.p (.int .i64) (List.length l:Int)),(8,.p (.int .i64) (k.1:Int))],[]⟩) (fun k=>List.length l-k.1) ⟨0,IN _,rfl⟩ (AC [] rfl rfl ?_ ?_) (fun k=>?_)
 ·first|exact eN|refine eM ?_
 ·first|exact eN|refine eM ?_
 ·obtain⟨k,hk,a⟩:=k;repeat'(first|exact trivial|refine eS rfl ?_|refine AB ?_|refine rX c ?_ ?_|refine rC ?_ ?_<;>intro b<;>try(cases b;done))
  ·exact b
  ·have d:k<List.length l:=by exact eV
   rw[eL d,At b]at a;exact fI c [.tmp 2] (by rw[a];exact eR)
  ·exact eV
  ·have d:k<List.length l:=by exact eV
   rw[eL d,BY (by simpa using b)]at a;refine⟨⟨k+1,d,a⟩,by simp only;omega,AC [] rfl rfl ?_ ?_⟩
   ·first|exact eN|refine eM ?_
   ·first|exact eN|refine eM ?_
  ·have e:List.drop k (l:List Int)=[]:=IF (by exact eV);rw[e]at a;have a:Vn l=0:=a;exact fI c [.tmp 2] (by rw[a];exact eR)
def HF {α:Type} (c:α→α→Int):List α→List α→Int
 | [],[]=>0
 | [],_ :: _=>-1
 | _ :: _,[]=>1
 | x :: p,y :: q=>if c x y=0 then HF c p q else c x y
theorem Jy {α:Type} {c:α→α→Int} (d:∀a b,c a b=0↔a=b):∀ {p q:List α},HF c p q=0↔p=q
 | [],[]=>⟨fun _=>rfl,fun _=>rfl⟩
 | [],_ :: _=>⟨fun h=>by simp[HF]at h,fun h=>by cases h⟩
 | _ :: _,[]=>⟨fun h=>by simp[HF]at h,fun h=>by cases h⟩
 | x :: p,y :: q=>by
  unfold HF;split
  ·rename_i h;rw[Jy d,(d x y).1 h];exact⟨fun e=>by rw[e],fun e=>(List.cons.inj e).2⟩
  ·rename_i h;exact⟨fun e=>absurd e h,fun e=>absurd ((d x y).2 (List.cons.inj e).1) h⟩
theorem LQ {α:Type} (d:α) {l:List α} {k:Nat} (h:k<l.length):l.drop k=l.getD k d :: l.drop (k+1):=by
 rw[OS h];have e:l.getD k d=l[k]:=by simp[AS,h]
 rw[e]
theorem Mk {α:Type} {c:α→α→Int} (d:α) {p q:List α} {k:Nat} (h1:k<p.length) (a:k<q.length):HF c (p.drop k) (q.drop k)=if c (p.getD k d) (q.getD k d)=0 then HF c (p.drop (k+1)) (q.drop (k+1)) else c (p.getD k d) (q.getD k d):=by
 rw[LQ d h1,LQ d a];rfl
def FG (a b:Int×Int):Int:=Vn [Fg a.1 b.1,Fg a.2 b.2]
theorem Ri (a b:Int×Int):FG a b=0↔a=b:=by
 unfold FG Vn Vn Vn;constructor
 ·intro h;by_cases h1:Fg a.1 b.1=0
  ·rw[BY h1]at h;by_cases c:Fg a.2 b.2=0
   ·exact Prod.ext (eK.1 h1) (eK.1 c)
   ·rw[At c]at h;exact absurd h c
  ·rw[At h1]at h;exact absurd h h1
 ·rintro rfl;rw[BY (eK.2 rfl),BY (eK.2 rfl)]
def YI:Ac:={ ins:=[BK,BK],pre:=fun _=>True,out:=fun(a,b,_)=>[.p T3 (FG a b)] }
attribute [local go_sem] YI
theorem rO:Ah Tryz.prog 160 YI:=by
 refine fKP [0,1,2,3,4] [15] [] Tryz.func160 Tryz.ntmps160 (AE Gd (AE eO AG)) ?_;rintro w0 O0 ⟨a,b,u⟩ c - -;simp only[YI,AM];repeat'(first|exact trivial|refine eS rfl ?_|refine AB ?_|refine rX c ?_ ?_|refine rC ?_ ?_<;>intro d<;>try(cases d;done))
 exact fI c [.tmp 4] (by unfold FG;exact eR)
theorem rQ (p q:List (Int×Int)) (hp:p.length≤100000):BL Tryz.prog 159 [.p Ii p,.p Ii q,.fn 160] [] [] (fun res i=>res=.p T3 (HF FG p q)∧i=[]):=by
 refine La [0,1,2,6,7,8,9,10,11,12,13,14,21,31,38] [] [] Tryz.func159 Tryz.ntmps159 (AE rO AG) ?_;intro w0 K O0 ρ0 c m n;simp only[Ao];repeat'(first|exact trivial|refine eS rfl ?_|refine AB ?_|refine rX c ?_ ?_|refine rC ?_ ?_<;>intro a<;>try(cases a;done))
 refine AI (ι:={k:Nat//k≤p.length∧k≤q.length∧HF FG p q=HF FG (p.drop k) (q.drop k)}) (fun k=>⟨[(0,.p Ii p),(1,.p Ii q),(2,.fn 160),(11,.p Ii p),(12,.p (.int .i64) (p.length:Int)),(13,.p (.int .i64) (k.1:Int))],[]⟩) (fun k=>p.length-k.1) ⟨0,IN _,IN _,rfl⟩ (AC [] rfl rfl ?_ ?_) (fun k=>?_)
 ·first|exact eN|refine eM ?_
 ·first|exact eN|refine eM ?_
 ·obtain⟨k,j,l,b⟩:=k;simp only;repeat'(first|exact trivial|refine eS rfl ?_|refine AB ?_|refine rX c ?_ ?_|refine rC ?_ ?_<;>intro a<;>try(cases a;done))
  ·exact a
  ·have d:k<p.length:=by exact eV
   have g:q.drop k=[]:=IF (by exact eV);have h1:HF FG p q=1:=by
    rw[b,g,LQ (0,0) d];rfl
   refine Ev.ent (σ':=⟨[(6,.p T3 1)],[]⟩) (fM c [.tmp 6] (.p T3 1) eT ⟨by rw[h1],rfl⟩) (AC [] rfl rfl ?_ ?_)
   ·first|exact eN|refine eM ?_
   ·first|exact eN|refine eM ?_
  ·exact a
  ·have d:k<p.length:=by exact eV
   have e:k<q.length:=by exact eV
   rw[Mk (0,0) d e,At a]at b;refine Ev.ent (σ':=⟨[(6,.p T3 (FG (p.getD k (0,0)) (q.getD k (0,0))))],[]⟩) (fM c [.tmp 6] (.p T3 (FG (p.getD k (0,0)) (q.getD k (0,0)))) eT ⟨by rw[b],rfl⟩) (AC [] rfl rfl ?_ ?_)
   ·first|exact eN|refine eM ?_
   ·first|exact eN|refine eM ?_
  ·exact eV
  ·have d:k<p.length:=by exact eV
   have e:k<q.length:=by exact eV
   rw[Mk (0,0) d e,BY (by simpa using a)]at b;refine⟨⟨k+1,d,e,b⟩,by simp only;omega,AC [] rfl rfl ?_ ?_⟩
   ·first|exact eN|refine eM ?_
   ·first|exact eN|refine eM ?_
  ·have f:p.drop k=[]:=IF (by exact eV);have h1:HF FG p q=-1:=by
    rw[b,f,LQ (0,0) (show k<q.length by exact eV)];rfl
   exact fM c [.tmp 6] (.p T3 (-1)) eT ⟨by rw[h1],rfl⟩
  ·have f:p.drop k=[]:=IF (by exact eV);have h:q.drop k=[]:=IF (by exact eV);have h1:HF FG p q=0:=by
    rw[b,f,h];rfl
   exact fM c [.tmp 6] (.p T3 0) eT ⟨by rw[h1],rfl⟩
def Dd (a b:AF):Int:=if Vn [Fg a.1 b.1,Fg (a.2.length:Int) (b.2.length:Int)]=0 then HF FG a.2 b.2 else Vn [Fg a.1 b.1,Fg (a.2.length:Int) (b.2.length:Int)]
theorem O9 (a b:AF):Dd a b=0↔a=b:=by
 unfold Dd;constructor
 ·intro h;split at h
  ·rename_i h1;unfold Vn Vn Vn at h1;by_cases c:Fg a.1 b.1=0
   ·exact Prod.ext (eK.1 c) ((Jy Ri).1 h)
   ·rw[At c]at h1;exact absurd h1 c
  ·rename_i h1;exact absurd h h1
 ·rintro rfl;have h1:Vn [Fg a.1 a.1,Fg (a.2.length:Int) (a.2.length:Int)]=0:=by
   unfold Vn Vn Vn;rw[BY (eK.2 rfl),BY (eK.2 rfl)]
  rw[BY h1];exact(Jy Ri).2 rfl
def PI:Ac:={ ins:=[LJ,LJ],pre:=fun(a,_,_)=>List.length (Prod.snd (a:AF))≤100000,out:=fun(a,b,_)=>[.p T3 (Dd a b)] }
attribute [local go_sem] PI
theorem j9:Ah Tryz.prog 140 PI:=by
 refine fKP [0,1,2,3,4,5,21] [18] [] Tryz.func140 Tryz.ntmps140 (AE Gd (AE eO AG)) ?_;rintro w0 O0 ⟨⟨ta,la⟩,⟨tb,b⟩,u⟩ a-ha;have ha:List.length la≤100000:=ha;simp only[PI,AM];repeat'(first|exact trivial|refine eS rfl ?_|refine AB ?_|refine rX a ?_ ?_|refine rC ?_ ?_<;>intro c<;>try(cases c;done))
 ·have h1:Dd (ta,la) (tb,b)=Vn [Fg ta tb,Fg (List.length la:Int) (List.length b:Int)]:=At c;exact fI a [.tmp 4] (by rw[h1];exact eR)
 ·have h1:Dd (ta,la) (tb,b)=HF FG la b:=BY (by simpa using c);refine cP 4 a ?_ ?_
  ·trivial
  ·refine rM a (rQ la b ha) [] [] ?_ ?_ ?_
   ·first|exact eN|refine eM ?_
   ·first|exact eN|refine eM ?_
   ·rintro _ _ ⟨rfl,rfl⟩;refine⟨[],.p T3 (HF FG la b),[],rfl,rfl,?_,?_,rfl,rfl,?_⟩
    ·first|exact eN|refine eM ?_
    ·first|exact eN|refine eM ?_
    ·refine rL a ?_ ?_
     ·trivial
     ·repeat'(first|exact trivial|refine eS rfl ?_|refine AB ?_|refine rX a ?_ ?_|refine rC ?_ ?_<;>intro c<;>try(cases c;done))
      exact fI a [.tmp 4] (by rw[h1];exact eR)
end
end Go.Proofs.YtdapahgnpbehbaaGreat.Fw
