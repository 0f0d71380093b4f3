/- Contracts of the program's and the reference's functions, and the plain laws of what they compute: T24 W6 T26 U14 W7 T27 T17 T18 L20 T21 T23 T25 U13 V3 SN V11 V7 V8 T28 U17 H4 V14 L21 T30 L23 T31 L24. -/
import Derived.Test.YtdapahgnpbehbaaGreatIYD
import Derived.Laws.Strings
import Derived.Test.YtdapahgnpbehbaaGreatIYB
import Derived.Test.YtdapahgnpbehbaaGreatIYC
set_option linter.unusedVariables false
set_option linter.unusedSimpArgs false
namespace Go.Proofs.YtdapahgnpbehbaaGreat.Fw
open Go
attribute [local irreducible] Ev
attribute [local go_sem] Wk AM List.toList_toArray Bp evG evK TW EX Jk Fg Ex F1 Ng J6 CC Co Kq Bz Ce frz Zk GS DD A5 FQ BU AV.frz AV.frzs AV.drp AV.drps AV.names AV.namess aq GT J5 Jb Qn H5 BP BV I5 EP Hg ER Hi Hh Hj Sd NY GU I6 FT Ds Se O5 v4 I7 H8 Kl E9 Dh H9 Jd D9 Qo CX EA Eh O6 IA O7 LW IB Je Cn Cc FF Di HH DL Ei DM EB FE Bz Cb Ov O2 Lt Fz H7 H6 Jc Lu Nb LX Kp Kn Jh O8 Ko Ji WG Nf Nc AV.trn AV.trns Dr CW Obj.trn JK Yi C0 DN Cz EC CQ Ej Ah lk Gm GJ HF wC Zj TT Zm O4 oJ oK pfs AV.cells CA I3 Nx Jg Na CP Lr Ty.cell1 Hf Eg Dg Fy Kk EO J4 LV Oz Ef Gu Lq Qm Sb Ln J3 WD YK O3 Ls Cm I4 RV.flat Ty.flat Ty.size St.add upd del Ba Value.oneCell' Ki Ty.dflt He Mx Gx M4 List.take_succ_cons List.take_zero List.length_cons Wr Ws M3 X1 KG GY Hz sM Ey Kz K0 K2 K3 OG OH JC Ho Qy Option.map_some Option.map_none Option.bind_some Option.getD_some Option.getD_none Option.isNone_none Option.isNone_some Bool.and_true Bool.true_and Bool.and_false Bool.false_and Bool.not_true Bool.not_false if_true if_false List.length_cons List.length_nil and_true true_and and_self List.all_cons List.all_nil List.append_nil List.nil_append List.cons_append List.getElem?_cons_zero List.getElem?_cons_succ List.getElem?_nil List.map_cons List.map_nil List.set_cons_zero List.set_cons_succ List.isEmpty_nil List.isEmpty_cons decide_true decide_false beq_self_eq_true bne_self_eq_false Nat.zero_add Nat.add_zero Nat.sub_zero Int.toNat_natCast Int.toNat_zero Int.toNat_one List.take_length List.length_append List.length_singleton true_or or_true or_self false_or or_false Ty.agg.injEq Ty.slice.injEq Ty.prod.injEq Ty.int.injEq Option.some.injEq beq_iff_eq K4 evMG evMQ v5 HL Lc Bv JE GI L5 JD HK Hq JF KF L6 L8 L7 Qz KE Mz M0 Hy AW Ai Op.operands Call.operands List.filterMap_cons List.filterMap_nil List.append_eq Bool.cond_false_right Bool.cond_true_left cond_true cond_false implies_true decide_eq_true_eq beq_true beq_false Bool.or_true Bool.or_false Bool.true_or Bool.false_or Option.isSome_some Array.empty_append List.append_toArray K1 Kr Ek HV WF NZ FD Fa FZ IC HG Jf Km TV Zl Ja inB Jj FN F0 ID Ak Wu List.drop_zero DZ HZ WK CE Jp BT AV.fgt AV.fgts Obj.fgt Af Ag AW Cp IP BH F5 List.any_cons List.any_nil jY Yf WL Yg Lo Pf qs List.flatMap_cons List.flatMap_nil List.cons_append tn WM Ha List.take_succ_cons List.drop_succ_cons WN HO Bj aQ KI B8 CS Ab FH Jo Bc Em Dj HI Hn F4 HJ
attribute [local go_sem] ty1 ty2 ty3 ty4 ty5 ty9 yG yH yI yJ yK yL yM yN yO yP yQ yR yS yT yU yV yW yX yY yZ y3 y4 y5 y6 y7 y8 y9 zA zB zC zD zE zF zG zH zI zJ zK zL zM zN zO zP zQ zR zS zT zU zV zW zX zY zZ z0 z1 z2 z3 z4 z5 z6 z7 z8 z9 A00 A01 A02 A03 A04 A05 A06 A07 A08 A09 A0a aY aZ a9 bA bB bC bD bE bF bG bH bI bJ bK bL bM bN bO bP bQ bR bS bT bU bV bW bX bZ b4 b5 b6 b7 b8 b9 cA cB cC cE cF cG cH cI cJ cK cL cM cN cO cQ cR cS cU cV cW cX cZ c6 c7 c8 c9 dA dB dC dD dE dF dG dH dI dJ dK dL dM dN dP dQ dR dS dT dU dV dW dX dY dZ d3 d4 d5 d6 d7 d8 d9 eB eC eD eE eF eG eH eI eJ eK eL eO eQ eU eW eX eY eZ e7 e9 fA fB fC fD fE fF fG
set_option maxRecDepth 100000
set_option maxHeartbeats 4000000
section
variable {d:List AH}
def Dc (d:List AH) (c:List Int):Prop:=Ie c∧∀i j,A9 c i=true→j<(AN d).length→Up d ((AN d).getD i ByteArray.empty) ((AN d).getD j ByteArray.empty)→A9 c j=true
theorem A5r:Dc d []:=⟨fun x a=>(by cases a),fun i j hi=>by unfold A9 at hi;simp at hi⟩
theorem A5s {a b:List Int} (ha:Dc d a) (c:Dc d b):Dc d (Ed a b) :=
 ⟨QN ha.1 c.1,fun i j hi e hu=>by
  rw[QM ha.1 c.1,AT]at hi ⊢;exact⟨ha.2 i j hi.1 e hu,c.2 i j hi.2 e hu⟩⟩
theorem rK {l:List (List Int)} (h:∀c∈l,Dc d c) (k:Nat):Dc d (l.getD k []):=by
 by_cases hk:k<l.length
 ·exact h _ (BC hk)
 ·rw[RR hk];exact A5r
theorem A40 {l:List (List Int)} (h:∀c∈l,Dc d c) (i k:Nat):∀c∈Gd l i k,Dc d c:=by
 intro c a;unfold Gd at a;split at a
 ·rcases OF.1 a with a|a
  ·exact h c a
  ·have:c=Ed (l.getD i []) (l.getD k []):=by simpa using a
   rw[this];exact A5s (rK h i) (rK h k)
 ·exact h c a
theorem rO {i:Nat}:∀ {n k:Nat} {l:List (List Int)},(∀c∈l,Dc d c)→∀c∈Ge i n k l,Dc d c
 | 0,_,_,h=>h
 | n+1,k,l,h=>by
  unfold Ge;split
  ·exact rO (A40 h i k)
  ·exact h
theorem rQ:∀ {n i:Nat} {l:List (List Int)},(∀c∈l,Dc d c)→∀c∈Ic n i l,Dc d c
 | 0,_,_,h=>h
 | n+1,i,l,h=>by
  unfold Ic;split
  ·exact rQ (rO h)
  ·exact h
theorem SY (a:A4 d=0):(AN d).length≤4096:=by
 obtain⟨-,c,-⟩:=Aw a;have b:=Dv d d.length;rw[f9]at b;omega
theorem A41 (b:A4 d=0) {s:ByteArray} (hs:0≤Ap d s):Dc d (Eq d (AN d) s):=by
 have a:=SY b;refine⟨(Bq (d:=d) a s 0).2.1,fun i j hi c hu=>?_⟩;have h1:=((Bq (d:=d) a s i).1.1 hi).2;exact(Bq (d:=d) a s j).1.2 ⟨c,Vu hs (Qf (Vt h1) hu)⟩
theorem A5t (a:A4 d=0):∀c∈Au (AU d),Dc d c:=rQ fun c b=>by
 obtain⟨s,hs,rfl⟩:=IS.1 b;exact A41 a (LR hs)
theorem rR {all:List ByteArray} {codes:List (List Int)} {b:List Int} {u:ByteArray}:∀ {m i:Nat} {l:List ByteArray},pS d all codes b m i l=.inl u→∃j,i≤j∧j<i+m∧DT (codes.getD j []) b=true∧u=all.getD j ByteArray.empty
 | 0,_,_,h=>by cases h
 | m+1,i,l,h=>by
  unfold pS at h;split at h
  ·rename_i a;injection h with h
   exact⟨i,No _,by omega,a,h.symm⟩
  ·obtain⟨j,f,g,c,e⟩:=rR h;exact⟨j,by omega,by omega,c,e⟩
theorem rS {all:List ByteArray} {codes:List (List Int)} {b:List Int} {r:List ByteArray}:∀ {m i:Nat} {l:List ByteArray},pS d all codes b m i l=.inr r→(∀j,i≤j→j<i+m→DT (codes.getD j []) b=false)∧r=l++((List.range' i m).filter fun j:Nat=>RB b (j:Int)).map fun j=>all.getD j ByteArray.empty
 | 0,i,l,h=>by
  unfold pS at h;injection h with h
  exact⟨fun j h1 f=>by omega,by simp[h]⟩
 | m+1,i,l,h=>by
  unfold pS at h;split at h
  ·cases h
  ·rename_i g;obtain⟨a,c⟩:=rS h;refine⟨fun j h1 f=>?_,?_⟩
   ·by_cases e:j=i
    ·rw[e];simpa using g
    ·exact a j (by omega) (by omega)
   ·rw[c,ACC,AAr];by_cases hh:RB b (i:Int)=true
    ·rw[At hh,At hh];simp
    ·rw[As hh,As hh]
theorem rT {a b:ByteArray} {x:UInt8}:x∈(a++b).toList↔x∈a.toList∨x∈b.toList:=by
 rw[ByteArray.toList_eq,ByteArray.toList_eq,ByteArray.toList_eq];simp
theorem vW {l:List ByteArray}:∀ {n:Nat},2≤n→(38:UInt8)∈(P6 l n).toList
 | n+1,hn=>by
  rw[OZ];unfold XU;rw[At (by omega)];rw[rT,rT];exact .inl (.inr (by rw[ByteArray.toList_eq];simp))
theorem n5 (hn:Cf d=0) {s:ByteArray} (hs:s∈AN d):(38:UInt8)∉s.toList:=by
 obtain⟨x,i,rfl⟩:=Cs hs;obtain⟨j,g,e⟩:=CT d0 i;have h1:=(JO (d:=d) (r:=d) (k:=0) hn j g).2;rw[e]at h1;intro b;unfold Eo at h1;rw[AT,GO]at h1;rw[ByteArray.toList_eq]at b;obtain⟨k,hk,c⟩:=AAg.1 b;have a:k<x.1.data.size:=by simpa using hk
 have:=h1.2 k (nO.2 a);unfold chr at this;have f:x.1.data.getD k 0=38:=by
  rw[←c];have h:k<x.1.size:=a;simp[Array.getD,h]
 rw[f]at this;revert this;decide
theorem vX (o:A4 d=0) {y:AQ} (ad:y∈AL d) (hf:JR (Au (AU d))) {s:ByteArray} (hs:s∈AN d) (e:Aa y.1 s=true):y.2=Eq d (AN d) s:=by
 obtain⟨an,aj,-,hn,al⟩:=Aw o;have v:=SY o;have Q:Nd (Au (AU d)):=TD (RS o);have ak:(AU d).length=(AN d).length:=by simp[AU]
 have R:AU d <+: Au (AU d):=QK 257 0 (AU d);have aa:∀ {t:ByteArray},t∈AN d→Aa t s=true→t=s:=fun {t} h e=>by
  obtain⟨x,ab,rfl⟩:=Cs h;obtain⟨z,ae,rfl⟩:=Cs hs;rw[Py hn ab ae e]
 have heq:∀j,j<(AN d).length→∀b∈Au (AU d),DT ((AU d).getD j []) b=true→b=Eq d (AN d) ((AN d).getD j ByteArray.empty):=fun j X b f w=>by
  have g:(AU d).getD j []∈Au (AU d):=R.subset (BC (by omega));unfold DT at w;rw[AT,Gg (hf.wds _ g) (hf.wds b f),Gg (hf.wds b f) (hf.wds _ g)]at w;rw[←JP d X];refine mP (hf.wds b f) (hf.wds _ g) (Q.nrm b f) (Q.nrm _ g) fun i=>?_;rw[ABi];exact⟨w.2 i,w.1 i⟩
 obtain⟨b,f,rfl⟩:=Db.1 ad;show b=_;have e:Aa (G7 d (AN d) (AU d) b) s=true:=e;unfold G7 at e;cases C:pS d (AN d) (AU d) b (AN d).length 0 [] with
 | inl u =>
  rw[C]at e;obtain⟨j,-,I,af,rfl⟩:=rR C;rw[AAM]at I;rw[←aa (BC I) e];exact heq j I b f af
 | inr l =>
  exfalso;rw[C]at e;have e:Aa (f7 (Ay d l)) s=true:=e;obtain⟨T,r⟩:=rS C;rw[AB7]at r;have D:=hf.wds b f;have B:∀i,i<(AN d).length→A9 b i=true→(AN d).getD i ByteArray.empty∈l:=fun i hi U=>by
   rw[r];exact IS.2 ⟨i,AAj.2 ⟨List.mem_range'.2 ⟨i,hi,by simp⟩,by simpa[TP D] using U⟩,rfl⟩
  have P:∀t∈l,∃i,i<(AN d).length∧t=(AN d).getD i ByteArray.empty∧A9 b i=true:=fun t h=>by
   rw[r]at h;obtain⟨i,hi,rfl⟩:=IS.1 h;obtain⟨S,H⟩:=AAj.1 hi;obtain⟨k,ao,ap⟩:=List.mem_range'.1 S;exact⟨i,by omega,rfl,by simpa[TP D] using H⟩
  have Z:(List.range' 0 (AN d).length).map (fun j=>(AN d).getD j ByteArray.empty)=AN d:=by
   apply AA8
   ·simp
   ·intro i S H;simp[AS,H]
  have J:p9 l:=by
   rw[r];have:=VE hn;rw[←Z]at this;exact this.sublist (List.filter_sublist.map _)
  obtain⟨E,A⟩:=hf.some b f;have G:∀i,A9 b i=true→i<(AN d).length:=by
   have:=ZY (q:=(AN d).length) (n:=257) (i:=0) (l:=AU d) (fun c W=>by
    obtain⟨t,h,rfl⟩:=IS.1 W;exact⟨(Bq (d:=d) v t 0).2.1,fun i hi=>((Bq (d:=d) v t i).1.1 hi).1⟩) b f
   exact this.2
  have K:∀t∈l,0≤Ap d t:=fun t h=>by
   obtain⟨i,hi,rfl,-⟩:=P t h;exact LR (BC hi)
  obtain⟨m,g,-⟩:=Rl o J (B E (G E A) A) (K _ (B E (G E A) A));have am:0<(Ay d l).length:=ABk g;have Y:f7 (Ay d l)=P6 (Ay d l) (Ay d l).length:=rfl;rw[Y]at e;by_cases h1:(Ay d l).length=1
  ·obtain⟨p,M,rfl,V⟩:=P m (Hr g);have L:DT ((AU d).getD p []) b=true:=by
    have O:(AU d).getD p []∈Au (AU d):=R.subset (BC (by omega));unfold DT;rw[AT,Gg (hf.wds _ O) D,Gg D (hf.wds _ O),JP d M];refine⟨fun i hi=>?_,fun i hi=>?_⟩
    ·obtain⟨ah,ai⟩:=(Bq (d:=d) v _ i).1.1 hi;exact(A5t o b f).2 p i V ah (Vt ai)
    ·have F:=G i hi;obtain⟨ag,N,hu⟩:=Rl o J (B i F hi) (K _ (B i F hi));have:ag=(AN d).getD p ByteArray.empty:=by
      obtain⟨a,ha⟩:=AAV.1 h1;rw[ha]at g N;rw[AAz.1 N,AAz.1 g]
     rw[this]at hu;exact(Bq (d:=d) v _ i).1.2 ⟨F,Vu (LR (BC M)) hu⟩
   rw[T p (Is _) (by omega)]at L;cases L
  ·have:=vW (l:=Ay d l) (n:=(Ay d l).length) (by omega);rw[H0.1 e]at this;exact n5 hn hs this
theorem YF (s:ByteArray):∀(l:List AQ) (k:Nat),0≤MM s k l→∃j,j<l.length∧MM s k l=((k+j:Nat):Int)∧Aa (l.getD j c0).1 s=true
 | [],k,h=>by simp only[MM]at h;omega
 | x :: l,k,h=>by
  simp only[MM]at h ⊢;split
  ·rename_i e;exact⟨0,by simp,rfl,e⟩
  ·rename_i e;rw[As e]at h;obtain⟨j,c,a,b⟩:=YF s l (k+1) h;exact⟨j+1,by simp only[Of];omega,by rw[a];congr 1;omega,by simpa using b⟩
theorem A22 (a:A4 d=0) (hf:JR (Au (AU d))) {s:ByteArray} (hs:s∈AN d):((AL d).getD (BL (AL d) s).toNat c0).2=Eq d (AN d) s:=by
 have h0:0≤BL (AL d) s:=G8 a (Fl hs);obtain⟨j,b,c,f⟩:=YF s (AL d) 0 h0;have e:BL (AL d) s=((0+j:Nat):Int):=c;rw[e,AAM,bY];exact vX a (BC b) hf hs f
theorem YG {s:ByteArray} (hn:Cf d=0):∀ {r:List AH} {o:List ByteArray} {x:AH},(∀y∈r,y∈d)→x∈d→((∃z∈o,Aa z x.1=true)∨(x∈r∧(DG x s).2=true))→∃z∈r.foldl (Hc s) o,Aa z x.1=true
 | [],o,x,_,_,h=>h.resolve_right fun g=>by cases g.1
 | y :: r,o,x,f,i,h=>by
  rw[Rp];refine YG hn (fun z a=>f z (by simp[a])) i ?_;rcases h with ⟨z,a,e⟩|⟨b,c⟩
  ·left;unfold Hc;split
   ·exact⟨z,NA a,e⟩
   ·exact⟨z,a,e⟩
  ·rcases By.1 b with rfl|b
   ·left;unfold Hc;rw[At c];exact TO.1 (Pz (l:=o) (s:=x.1))
   ·exact .inr ⟨b,c⟩
theorem YH (f:Int):∀(a b:List (Int×Int)),E8 f (a++b)=if (E8 f a).2=true then E8 f a else E8 f b
 | [],_=>rfl
 | x :: a,b=>by
  have h1:E8 f (x :: a++b)=if x.1=f then (x.2,true) else E8 f (a++b):=rfl
  have c:E8 f (x :: a)=if x.1=f then (x.2,true) else E8 f a:=rfl
  rw[h1,c];split
  ·rfl
  ·exact YH f a b
theorem rU (l:List AQ) (fs:List ByteArray) (t:Nat) (f:Int):∀n,E8 f (Sk d l fs t n)=if 0≤f∧f<(n:Int)∧(FB d l (t:Int) (fs.getD f.toNat ByteArray.empty)).2=true then (HP l (FB d l (t:Int) (fs.getD f.toNat ByteArray.empty)).1,true) else (0,false)
 | 0=>by
  rw[As (by omega)];rfl
 | n+1=>by
  rw[XZ,YH,rU l fs t f n];by_cases h:0≤f∧f<(n:Int)∧(FB d l (t:Int) (fs.getD f.toNat ByteArray.empty)).2=true
  ·rw[At h,At rfl,At ⟨h.1,by omega,h.2.2⟩]
  ·rw[As h,As (by simp)];by_cases hn:f=(n:Int)
   ·subst hn;rw[bY];by_cases hi:(FB d l (t:Int) (fs.getD n ByteArray.empty)).2=true
    ·rw[At hi,At ⟨by omega,by omega,hi⟩];unfold E8;rw[At rfl]
    ·rw[As hi,As fun g=>hi g.2.2];rfl
   ·have a:¬(0≤f∧f<((n+1:Nat):Int)∧(FB d l (t:Int) (fs.getD f.toNat ByteArray.empty)).2=true):=fun g=>h ⟨g.1,by omega,g.2.2⟩;rw[As a];split
    ·unfold E8;rw[As (fun e=>hn e.symm)];rfl
    ·rfl
theorem Vv (e:Av d=0) {t f:Int} (a:0≤t) (i:t<((AL d).length:Int)) (b:0≤f) (c:f<((BM d).length:Int)):CH (Bk d) t f=if (FB d (AL d) t ((BM d).getD f.toNat ByteArray.empty)).2=true then (HP (AL d) (FB d (AL d) t ((BM d).getD f.toNat ByteArray.empty)).1,true) else (0,false):=by
 unfold CH;rw[A1T e a i,rU,AAG a];by_cases h:(FB d (AL d) t ((BM d).getD f.toNat ByteArray.empty)).2=true
 ·rw[At ⟨b,c,h⟩,At h]
 ·rw[As fun g=>h g.2.2,As h]
theorem A42 (a:Av d=0) {f:Int} (c:0≤f) (e:f<((BM d).length:Int)):Lm (Bk d) f=BL (AL d) (Dd d ((BM d).getD f.toNat ByteArray.empty)).1:=by
 unfold Lm;rw[Vo a];have b:f.toNat<(BM d).length:=by omega
 simp[AS,b,QD]
theorem A8d (b:Av d=0):HAp (Bk d):=by
 obtain⟨c,-,S,F,-⟩:=nX b;obtain⟨u,-,-⟩:=B9 b;obtain⟨-,U,-⟩:=BS u;have T:=VA c U;obtain⟨an,ak,-,hn,al⟩:=Aw c;obtain⟨hk,am⟩:=A4t b;have I:=QC c S;have n:=ZZ d;have hF:(Bk d).2.length=(BM d).length:=by rw[Vo b,f6]
 have E:∀s∈AN d,Bl (Bk d) (BL (AL d) s)=Eq d (AN d) s:=fun s hs=>by
  rw[NP d (G8 c (Fl hs)) (Ii _ _),A22 c T hs]
 refine⟨fun t f j l k g=>?_,fun t w f j l A ai k g X q=>?_⟩
 ·rw[n]at l;rw[hF]at g;have hs:=BC (d:=ByteArray.empty) (show f.toNat<(BM d).length by omega);rw[Vv b j l k g,A42 b k g];generalize (BM d).getD f.toNat ByteArray.empty=s at *;obtain⟨v,-⟩:=Qc b j l hs;obtain⟨aj,aa,R,Y⟩:=Vq (F s hs);have hi:(if (FB d (AL d) t s).2=true then (HP (AL d) (FB d (AL d) t s).1,true) else ((0:Int),false)).2=true↔(FB d (AL d) t s).2=true:=by
   split<;>simp[*]
  rw[hi,v];constructor
  ·rintro⟨x,a,Z,W⟩;have hint:=F s hs;unfold Dd at hint ⊢;split at hint
   ·rename_i h1;rw[At h1];obtain⟨ao,V⟩:=AAV.1 h1;obtain⟨z,u,C⟩:=YG (d:=d) (s:=s) hn (r:=d) (o:=[]) (fun y ad=>ad) a (.inr ⟨a,Z⟩);have ae:0≤Ap d z:=by rw[JN d C];exact Da a
    obtain⟨m,p,hu⟩:=Rl c (vV hn s) u ae;have hu:=Vs hu C;have e:(Ay d (FW d s)).getD 0 ByteArray.empty=m:=by
     rw[V]at p ⊢;rw[AAz.1 p];rfl
    rw[show ((Ay d (FW d s)).getD 0 ByteArray.empty,true).1=m from e];obtain⟨aq,K,B,-⟩:=(Ri (Hr p)).resolve_left (by simp);have H:m∈AN d:=by rw[←B];exact Qi K hn
    have ab:=Qi a hn;obtain⟨n0,n1⟩:=TR I a;have L:0≤BL (AL d) m:=G8 c (Fl H);have ap:=Ii (AL d) m;refine Ht hk L (by omega) n0 (by omega) j (by omega) ((B5 hk L (by omega) n0 (by omega)).2 fun i hi=>?_) W;unfold Tb2 at hi ⊢;rw[E x.1 ab]at hi;rw[E m H];exact A3Z c (by rw[←B];exact Da K) hu hi
   ·cases hint
  ·intro h;rw[←R]at h;exact⟨aj,aa,Y,h⟩
 ·have M:t<((AL d).length:Int):=by omega
  have N:w<((AL d).length:Int):=by omega
  rw[hF]at g;have hs:=BC (d:=ByteArray.empty) (show f.toNat<(BM d).length by omega);rw[Vv b j M k g]at q ⊢;rw[Vv b A N k g];generalize (BM d).getD f.toNat ByteArray.empty=s at *;obtain⟨v,af⟩:=Qc b j M hs;obtain⟨ag,ah⟩:=Qc b A N hs;have hi:(FB d (AL d) t s).2=true:=by
   split at q
   ·assumption
   ·cases q
  have J:∀x∈d,UsD d t s x→UsD d w s x:=fun x a hu=>by
   obtain⟨n0,n1⟩:=TR I a;exact⟨hu.1,Ht hk n0 (by omega) j l A ai hu.2 X⟩
  have G:(FB d (AL d) w s).2=true:=by
   obtain⟨x,a,hu⟩:=v.1 hi;exact ag.2 ⟨x,a,J x a hu⟩
  rw[At hi,At G];obtain⟨⟨a0,O⟩,P⟩:=af hi;obtain⟨⟨Q,b1⟩,b2⟩:=ah G;refine(B5 hk a0 (by rw[n];exact O) Q (by rw[n];exact b1)).2 fun i D=>?_;unfold Tb2 at D ⊢;exact(P i).2 fun x a hu=>(b2 i).1 D x a (J x a hu)
theorem n6 (d:List AH):HAp (Az d).1:=by
 by_cases a:Av d=0
 ·rw[TQ a];exact A8d a
 ·have:(Az d).1=([],[]):=by
   unfold Az A8;rw[At a,At a]
  rw[this];exact⟨fun t f c b=>by simp at b;omega,fun t e f c b=>by simp at b;omega⟩
end
theorem Mm (d:List AH):(Az d).1.1.length≤256∧(Az d).1.2.length≤64:=by
 unfold Az;split
 ·exact⟨by simp,by simp⟩
 ·rename_i a;have a:(A8 d).2=0:=Do a;have b:Av d=0:=by
   unfold A8 at a;split at a
   ·rename_i h;exact absurd a h
   ·rename_i h;exact Do h
  obtain⟨f,c,-⟩:=B9 b;obtain⟨-,e,-⟩:=BS f;refine⟨?_,?_⟩
  ·show (EY _ _ _).length≤256;rw[KR,Ih];exact e
  ·show (EM d).1.length≤64;unfold EM;rw[As (by rw[b];simp)];show ((BM d).map (QD d)).length≤64;rw[f6];exact c
theorem SZ {H:AI} (q:H.1.length≤256) (r:H.2.length≤64) {f:List AE} (h:Jv H f=true):Ad f∧QO f∧0<f.length∧Fx H f∧Dy f=true∧f.length≤12∧∀x∈f,∀a∈x.2,0≤a.1∧a.1<(H.2.length:Int):=by
 unfold Jv at h;rw[AT,tO]at h;obtain⟨l,c⟩:=h;unfold CN at c;split at c
 ·rename_i h1;exact absurd c h1
 ·rename_i h1;split at c
  ·cases c
  ·rename_i e;split at c
   ·cases c
   ·rename_i i;have h1:(A2 f).2=0:=Do h1;have e:f.all (SQ H)=true:=by simpa using e
    have i:Ct f (A2 f).1=0:=by simpa using i
    have k:Dy f=true:=by
     unfold Dy;simp only[AT,tO];refine⟨⟨l,?_⟩,h1,?_⟩
     ·rw[GO]at e ⊢;intro x d;have:=e x d;unfold SQ at this;rw[AT,DO,GO]at this;unfold ndB;rw[AT,DO,GO];refine⟨by omega,fun a ha=>?_⟩;have:=this.2 a ha;unfold mG at this;rw[DO]at this;unfold ftB;rw[DO];omega
     ·rw[←JS i];exact Ck f
    obtain⟨n,o,p,-⟩:=Mg k;have g:B3 f=0:=by
     unfold A2 at h1;split at h1
     ·rename_i hh;exact hh
     ·exact h1
    have m:F9 (f.length:Int) f=0:=by
     unfold B3 at g;split at g
     ·cases g
     ·split at g
      ·cases g
      ·exact g
    refine⟨n,o,p,fun x d=>?_,k,(MU l).1,fun x d a ha=>?_⟩
    ·have b:=GO.1 e x d;unfold SQ at b;rw[AT,DO]at b;exact⟨(Io m x d).1,b.1⟩
    ·have b:=GO.1 e x d;unfold SQ at b;rw[AT,GO]at b;have j:=b.2 a ha;unfold mG at j;rw[DO]at j;exact⟨((Io m x d).2 a ha).1,j⟩
theorem n7 {f:List AE} (hf:Ad f):B2 f:=⟨hf.1,fun x a=>(hf.2 x a).1⟩
structure j6 (h:AI):Prop where
 ok:Jw h
 inj:I2 h
 ft:ZJ h
 nrm:A5m h
 ap:HAp h
 b1:h.1.length≤256
 b2:h.2.length≤64
theorem jP (d:List AH):j6 (Az d).1:=⟨HB d,SR d,nZ d,fun t a=>(Vn d).nrm _ (IS.2 ⟨t,a,rfl⟩),n6 d,(Mm d).1,(Mm d).2⟩
theorem h14 (d:List AH):j6 (AP d):=by
 unfold AP;split
 ·exact jP d
 ·exact jP Ik
structure V14 (h:AI) (f:List AE):Prop where
 inf:iQ h f
 small:B2 f
 len:f.length≤12
theorem A8f {h:AI} (hh:j6 h) {f:List AE} (i:Jv h f=true):V14 h f:=by
 obtain⟨b,j,k,d,l,e,g⟩:=SZ hh.b1 hh.b2 i;refine⟨⟨hh.ok,hh.inj,hh.ft,aT hh.b2 (by decide),b,fun x c a ha=>⟨g x c a ha,(b.2 x c).2 a ha⟩,d⟩,⟨b.1,fun x c=>(b.2 x c).1⟩,e⟩
theorem Rm {f:List AE} {ty:List Int} {x:AE} (b:x∈Ec f ty):∃i,i<f.length∧x=(ty.getD i 0,(f.getD i (0,[])).2):=by
 obtain⟨i,hi,rfl⟩:=List.getElem_of_mem b;have a:i<f.length:=by rw[CG]at hi;exact hi
 refine⟨i,a,?_⟩;rw[←Gj f ty a,AS,An hi];rfl
theorem Ke {α:Type} {f:List α} {i:Nat} (h:i<f.length) (d:α):f.getD i d∈f:=by
 rw[AS,An h];exact AAh _
theorem A5u (h:AI):(h.1,h.2)=h:=rfl
section
open Go
end
theorem A5v {f:List AE} (hf:Ad f) (hs:QO f) (h0:0<f.length) (a:Dy f=true):RO f:=by
 have h1:=A3L hf hs h0 (fun _ _=>true)
 rwa [nG a fun _ _ _ _=>rfl]at h1
theorem A23 {h:AI} (j:h.1.length≤256) (k:h.2.length≤64) {f:List AE} (l:Jv h f=true):VF h f∧f.length≤12:=by
 obtain⟨a,b,c,e,d,g,i⟩:=SZ j k l;exact⟨⟨a,c,e,fun x m=>(Mf _).1 (b x m).1,i,Nu d,A5v a b c d⟩,g⟩
theorem VF.srt {h:AI} (hu:HU h) {f:List AE} (a:VF h f):QO f:=fun x b=>by
 have:=nU (a.str x b) (a.ft64 hu x b);exact⟨(Mf _).2 (a.str x b),by omega⟩
theorem VF.small {h:AI} {f:List AE} (a:VF h f):B2 f:=n7 a.good
theorem HE {h:AI} {a b:List AE} (ha:VF h a) (c:VF h b):Hd h a b=true↔∃m,J1 h a b m :=
 ⟨fun g=>A5c ha.good ha.pos c.good c.pos g,fun⟨m,d⟩=>A3K ha.good ha.pos ha.ro d⟩
theorem Qj {h:AI} (a b:List AE):(∃c,Qb h a b c∧DJ h a b=(c,true))∨(DJ h a b=([],false)∧∀c,¬Qb h a b c):=by
 unfold DJ;by_cases H:∃c,Qb h a b c
 ·left;rw[dif_pos H];exact⟨_,H.choose_spec,rfl⟩
 ·right;rw[dif_neg H];exact⟨rfl,fun c d=>H ⟨c,d⟩⟩
theorem Qb.comm {h:AI} {a b d:List AE} (c:Qb h a b d):Qb h b a d :=
 ⟨c.vf,c.right,c.left,fun X f g h1 i e=>c.least X f i e g h1,by have:=c.len;omega⟩
theorem Gl (f:List AE) (ty:List Int) (n:Nat):((Ec f ty).getD n (0,[])).2=(f.getD n (0,[])).2:=by
 by_cases h:n<f.length
 ·rw[Gj f ty h]
 ·rw[AS,iN (by rw[CG];omega),AS,iN (by omega)]
theorem jQ {f g:List AE} (h:∀n:Nat,(f.getD n (0,[])).2=(g.getD n (0,[])).2):∀(k:Nat) (o:List Int) (n:Int),Ea f k o n=Ea g k o n
 | 0,_,_=>rfl
 | k+1,o,n=>by
  have e:Ac f k=Ac g k:=by
   funext o a;unfold Ac;rw[jQ h k o a.2]
  rw[Cv,Cv,h,e]
theorem n8 {f:List AE} (hf:Ad f) (h0:0<f.length) (a:AR f 0=f):jD f:=by
 have:=(ZU hf (r:=0) (by omega) (by omega)).2
 rwa [a]at this
theorem A24 {h:AI} {f:List AE} (b:VF h f) {ty:List Int} (k:Sn h f.length ty):VF h (Ec f ty):=by
 have c:=CG f ty;have g:Ad (Ec f ty):=by
  refine⟨by rw[c];exact b.good.1,fun x a=>?_⟩;obtain⟨i,hi,rfl⟩:=Rm a;rw[c];exact b.good.2 (f.getD i (0,[])) (Ke hi (0,[]))
 have hp:∀x∈Ec f ty,∃y∈f,x.2=y.2:=fun x a=>by
  obtain⟨i,hi,rfl⟩:=Rm a;exact⟨_,Ke hi (0,[]),rfl⟩
 refine⟨g,by rw[c];exact b.pos,fun x a=>?_,fun x a=>?_,fun x a=>?_,Vg g ?_,fun i l m=>?_⟩
 ·obtain⟨i,hi,rfl⟩:=Rm a;exact k.get hi
 ·obtain⟨y,d,e⟩:=hp x a;rw[e];exact b.str y d
 ·obtain⟨y,d,e⟩:=hp x a;rw[e];exact b.ft y d
 ·have:=n8 b.good b.pos b.can;unfold jD at this ⊢;rw[c,jQ (Gl f ty)];exact this
 ·obtain⟨j,n,o,x,a,e⟩:=b.ro i l (by rw[←c];exact m);exact⟨j,n,o,x,by show x∈((Ec f ty).getD j.toNat (0,[])).2;rw[Gl];exact a,e⟩
theorem De (f:List AE) (i:Nat):(BD f).getD i 0=(f.getD i (0,[])).1:=by
 unfold BD;rw[AS,AAl,AS];cases f[i]?<;>rfl
theorem n9 {h:AI} {f:List AE} (a:Fx h f):Sn h f.length (BD f):=⟨by simp[BD],fun t h1=>by
 obtain⟨x,b,rfl⟩:=IS.1 h1;exact a x b⟩
theorem Vx {f:List AE} {ty:List Int} (a:ty.length=f.length):BD (Ec f ty)=ty:=by
 refine AA8 (by simp[BD,CG,a]) fun i b c=>?_;have:=De (Ec f ty) i;rw[Gj f ty (by omega)]at this;simpa[AS,b,c] using this
theorem oA (f:List AE):Ec f (BD f)=f:=by
 refine AA8 (CG _ _) fun i b a=>?_;have:=Gj f (BD f) a;rw[De]at this;simpa[AS,b,a] using this
theorem Sa {h:AI} {f:List AE} {t:Int}:∀ {l:List (Int×Int)},Gi h f t l=0↔∀a∈l,(CH h t a.1).2=true∧BG h (CH h t a.1).1 (f.getD a.2.toNat (0,[])).1=true
 | []=>⟨fun _ a ha=>(by cases ha),fun _=>rfl⟩
 | a :: l=>by
  unfold Gi;rw[List.forall_mem_cons,←Sa (l:=l)];cases h1:(CH h t a.1).2
  ·simp
  ·cases b:BG h (CH h t a.1).1 (f.getD a.2.toNat (0,[])).1<;>simp
theorem Nw {h:AI} {f:List AE}:∀ {l:List AE},FM h f l=0↔∀x∈l,∀a∈x.2,(CH h x.1 a.1).2=true∧BG h (CH h x.1 a.1).1 (f.getD a.2.toNat (0,[])).1=true
 | []=>⟨fun _ a ha=>(by cases ha),fun _=>rfl⟩
 | x :: l=>by
  unfold FM;rw[List.forall_mem_cons,←Nw (l:=l),←Sa];by_cases h1:Gi h f x.1 x.2=0
  ·simp[h1]
  ·simp[h1]
theorem Zc {h:AI} {f:List AE}:FM h f f=0↔WTy h f (BD f):=by
 rw[Nw];constructor
 ·intro h1 i hi a ha;have:=h1 _ (Ke hi (0,[])) a ha
  rwa [De,De,bY]
 ·intro h1 x b a ha;obtain⟨i,hi,rfl⟩:=CT (0,[]) b;have:=h1 i hi a ha
  rwa [De,De,bY]at this
theorem jR {n:Int}:∀ {l seen:List (Int×Int)},(∀a∈l,0≤a.1∧0≤a.2∧a.2<n)→(l.map (·.1)).Nodup→(∀y∈seen,∀x∈l,y.1≠x.1)→F8 n seen l=0
 | [],_,_,_,_=>rfl
 | x :: l,seen,h,hp,hs=>by
  rw[AA1,AAd]at hp;have h1:=h x (by simp);have d:(seen.any fun y=>y.1==x.1)=false:=by
   rw[List.any_eq_false];intro y b;have:=hs y b x (by simp);simpa using this
  unfold F8;rw[As (by omega),As (by rw[d];simp)];refine jR (fun a ha=>h a (by simp[ha])) hp.2 fun y b z c=>?_;rcases OF.1 b with b|b
  ·exact hs y b z (by simp[c])
  ·rw[AAz.1 b];exact fun e=>hp.1 (IS.2 ⟨z,c,e.symm⟩)
theorem A25 {m:Int} {l:List (Int×Int)} (hs:(l.map (·.1)).Nodup) (h:∀a∈l,0≤a.1∧0≤a.2∧a.2<m):GN l m=0:=jR h hs fun y b=>by cases b
theorem oB {m:Int} {l:List (Int×Int)} (hs:WC l) (h:∀a∈l,0≤a.1∧0≤a.2∧a.2<m):GN l m=0:=A25 (by rw[List.Nodup,AAQ];exact hs.imp fun h e=>by omega) h
theorem jS {m:Int}:∀ {l:List AE},(∀x∈l,0≤x.1∧GN x.2 m=0)→F9 m l=0
 | [],_=>rfl
 | x :: l,h=>by
  have:=h x (by simp);unfold F9;rw[As (by omega),As (by rw[this.2];simp)];exact jS fun y a=>h y (by simp[a])
theorem jT {h:AI} (hu:HU h) {f:List AE} (b:VF h f) (g:f.length≤4096):CN h f=0:=by
 have e:B3 f=0:=by
  unfold B3;rw[As (by have:=b.pos;omega),As (by omega)];refine jS fun x c=>⟨(b.ty x c).1,oB (b.str x c) fun a ha=>⟨(b.ft x c a ha).1,((b.good.2 x c).2 a ha)⟩⟩
 have d:A2 f=(f,0):=by
  unfold A2;rw[At e,Ir b.good (b.srt hu) (by omega) (by have:=b.pos;omega),b.can]
 have ha:f.all (SQ h)=true:=by
  rw[GO];intro x c;unfold SQ;rw[AT,DO,GO];exact⟨(b.ty x c).2,fun a ha=>by unfold mG;exact ABr (b.ft x c a ha).2⟩
 unfold CN;rw[d,As (by simp),ha,As (by simp),Ck];rfl
section
variable {h:AI} (hh:j6 h)
include hh
theorem j6.hu:HU h:=⟨hh.ok,hh.inj,hh.b2⟩
theorem A5w {f:List AE} (a:Jv h f=true):VF h f:=(A23 hh.b1 hh.b2 a).1
omit hh in
theorem Qk {f:List AE} (b:VF h f):Md h f:=fun x c a ha=>⟨b.ft x c a ha,(b.good.2 x c).2 a ha⟩
theorem Iy {f:List AE} (a:VF h f) {ty:List Int} (e:D6 h f=some ty):VF h (Ec f ty)∧WTy h f ty∧Sn h f.length ty∧J1 h f (Ec f ty) id:=by
 obtain⟨h1,g,d⟩:=Vr hh.ok hh.inj hh.ft hh.ap (Qk a) a.ty e;refine⟨A24 a d,h1,d,rfl,fun i b c=>⟨b,by rw[CG];exact c⟩,fun i b c=>?_,fun i b c x j=>?_⟩
 ·have:=g i.toNat (by omega);rw[De]at this;show BG h _ ((Ec f ty).getD i.toNat (0,[])).1=true
  rwa [Gj f ty (by omega)]
 ·show EJ ((Ec f ty).getD i.toNat (0,[])).2 x.1=x.2;rw[Gl];exact A5b (a.srt hh.hu) j
theorem vY {f:List AE} (d:VF h f) (c:f.length≤4096) {ty:List Int} (e:D6 h f=some ty):CY h (Ec f ty)=0:=by
 obtain⟨h1,a,b,-⟩:=Iy hh d e;unfold CY;rw[At (jT hh.hu h1 (by rw[CG];exact c)),Zc,Vx b.1];intro i hi;rw[Gl];exact a i (by rw[←CG f ty];exact hi)
theorem Zd {f g:List AE} (n:VF h f) (p:VF h g) (E:WTy h g (BD g)) {m:Int→Int} (c:J1 h f g m):∃ty,D6 h f=some ty∧J1 h (Ec f ty) g m:=by
 have H:=p.pos
 let u:List Int:=(List.range f.length).map fun i:Nat=>(g.getD (m (i:Int)).toNat (0,[])).1
 have k:∀i:Nat,i<f.length→u.getD i 0=(g.getD (m (i:Int)).toNat (0,[])).1:=fun i hi=>by
  simp[u,AS,hi]
 have q:∀i:Nat,i<f.length→(m (i:Int)).toNat<g.length∧0≤m (i:Int):=fun i hi=>by
  have:=c.rng (i:Int) (by omega) (by omega);omega
 have D:Sn h f.length u:=⟨by simp[u],fun t C=>by
  obtain⟨i,hi,rfl⟩:=IS.1 C;exact p.ty _ (Ke (q i (nO.1 hi)).1 (0,[]))⟩
 have F:WTy h f u:=fun i hi a ha=>by
  have z:a∈Am f (i:Int):=by show a∈(f.getD (i:Int).toNat (0,[])).2;rwa [bY]
  have h1:=c.arc (i:Int) (by omega) (by omega) a z;obtain⟨s,G⟩:=(n.good.2 _ (Ke hi (0,[]))).2 a ha;have y:=c.rng a.2 s G;obtain⟨b,A,v,w⟩:=VW (l:=Am g (m (i:Int))) (e:=a.1) (by rw[h1];exact y.1);have o:=E _ (q i hi).1 b (by exact A);rw[De,De,v,w,h1,bY]at o;rw[bY,k i hi,k a.2.toNat (by omega),AAG s];exact o
 obtain⟨ty,e,B⟩:=SX hh.ok hh.inj hh.ft hh.ap (Qk n) n.ty D F fun i hi=>by
  rw[De,k i hi];have:=c.ty (i:Int) (by omega) (by omega)
  rwa [bY]at this
 refine⟨ty,e,c.zero,fun i j d=>c.rng i j (by rw[CG]at d;exact d),fun i j d=>?_,fun i j d x r=>?_⟩
 ·rw[CG]at d;have:=B i.toNat (by omega);rw[k _ (by omega),AAG j]at this
  rwa [Gj f ty (by omega)]
 ·rw[CG]at d;exact c.arc i j d x (by rw[Am,Gl]at r;exact r)
theorem A43 {f:List AE} (a:VF h f) (i:WTy h f (BD f)):D6 h f=some (BD f):=by
 have b:=n9 a.ty;obtain⟨ty,e,g⟩:=SX hh.ok hh.inj hh.ft hh.ap (Qk a) a.ty b i (Oy.refl hh.ok b);obtain⟨-,c,d⟩:=Vr hh.ok hh.inj hh.ft hh.ap (Qk a) a.ty e;rw[e,Oy.anti hh.inj d b g c]
omit hh in
theorem NQ {f:List AE} (e:CY h f=0):WTy h f (BD f):=by
 unfold CY at e
 split at e
 ·exact Zc.1 e
 ·rename_i hn;exact absurd e hn
end
structure A8g (h:AI) (f g:List AE):Prop where
 inf:iQ h f
 sf:B2 f∧KT f
 sg:B2 g∧KT g
 gf:Ad f∧0<f.length∧Fx h f
 gg:Ad g∧0<g.length∧Fx h g
 sx:B2 (Al h f).1∧KT (Al h f).1
 gx:(Al h f).2=true→Ad (Al h f).1∧0<(Al h f).1.length∧Fx h (Al h f).1
 l1:(Al h f).2=true→CY h (Al h f).1=0∧Hd h f (Al h f).1=true
 l2:CY h f=0→Al h f=(f,true)
 l3:CY h g=0→Hd h f g=true→(Al h f).2=true∧Hd h (Al h f).1 g=true
theorem Mn {h:AI} (hu:HU h) {f:List AE} (a:VF h f):B2 f∧KT f:=⟨a.small,fun x b=>(a.srt hu x b).2⟩
theorem Dq {h:AI} {f:List AE} {ty:List Int} (e:D6 h f=some ty):Al h f=(Ec f ty,true):=by unfold Al;rw[e]
theorem Fu {h:AI} {f:List AE} (e:D6 h f=none):Al h f=([],false):=by unfold Al;rw[e]
theorem A44 {h:AI} (hh:j6 h) {f g:List AE} (vf:V14 h f∧VF h f) (a:V14 h g∧VF h g):A8g h f g:=by
 obtain⟨v1,vf⟩:=vf;obtain⟨o,a⟩:=a;have c:(Al h f).2=true→VF h (Al h f).1∧CY h (Al h f).1=0∧Hd h f (Al h f).1=true:=fun e=>by
  cases b:D6 h f with
  | none=>rw[Fu b]at e;cases e
  | some ty =>
   rw[Dq b];obtain⟨d,-,-,i⟩:=Iy hh vf b;exact⟨d,vY hh vf (by have:=v1.len;omega) b,(HE vf d).2 ⟨_,i⟩⟩
 refine⟨v1.inf,Mn hh.hu vf,Mn hh.hu a,⟨vf.good,vf.pos,vf.ty⟩,⟨a.good,a.pos,a.ty⟩,?_,fun e=>⟨(c e).1.good,(c e).1.pos,(c e).1.ty⟩,fun e=>(c e).2,fun e=>?_,fun j k=>?_⟩
 ·cases b:(Al h f).2 with
  | true=>exact Mn hh.hu (c b).1
  | false =>
   have:D6 h f=none:=by
    cases hn:D6 h f with
    | none=>rfl
    | some ty=>rw[Dq hn]at b;cases b
   rw[Fu this];exact⟨⟨by simp,by simp⟩,fun x c=>(by cases c)⟩
 ·rw[Dq (A43 hh vf (NQ e)),oA]
 ·obtain⟨m,l⟩:=(HE vf a).1 k;obtain⟨ty,e,n⟩:=Zd hh vf a (NQ j) l;rw[Dq e];exact⟨rfl,(HE (Iy hh vf e).1 a).2 ⟨_,n⟩⟩
theorem JY {d:List AH} {l:List (List AE)} (h:Nr (AP d) l=true):∀x∈l,V14 (AP d) x∧VF (AP d) x:=fun x a=>⟨A8f (h14 d) (GO.1 h x a),A5w (h14 d) (GO.1 h x a)⟩
def Kg:AI:=([(ByteArray.mk #[116,111,112],[8191],[],[]),(ByteArray.mk #[105,110,100,101,120],[60],[0],[]),(ByteArray.mk #[108,105,115,116],[193],[0],[]),(ByteArray.mk #[99,111,110,115],[1],[2],[(2,0),(10,2)]),(ByteArray.mk #[100,108,105,115,116],[2],[0],[(6,2),(7,2)]),(ByteArray.mk #[101,110,116,105,116,121],[4],[1],[]),(ByteArray.mk #[101,118,101,110,116],[8],[1],[]),(ByteArray.mk #[104,97,110,100,108,101],[16],[1],[]),(ByteArray.mk #[110,117,108,108],[128],[2],[]),(ByteArray.mk #[113,101,113],[256],[0],[(3,7),(8,7)]),(ByteArray.mk #[114,101,108],[512],[0],[(5,7)]),(ByteArray.mk #[115,101,109],[1024],[0],[(1,4),(4,1),(9,4),(12,7)]),(ByteArray.mk #[115,105,103,110],[2048],[0],[(0,2),(11,11)])],[(ByteArray.mk #[65,82,71,83],12),(ByteArray.mk #[67,79,78,83],11),(ByteArray.mk #[70,73,82,83,84],3),(ByteArray.mk #[72,73,71,72],9),(ByteArray.mk #[73,78,68,69,88],11),(ByteArray.mk #[76,65,66,69,76],10),(ByteArray.mk #[76,65,83,84],4),(ByteArray.mk #[76,73,83,84],4),(ByteArray.mk #[76,79,87],9),(ByteArray.mk #[82,69,76,83],11),(ByteArray.mk #[82,69,83,84],3),(ByteArray.mk #[83,69,77],12),(ByteArray.mk #[84,79,80],11)])
instance baDec:DecidableEq ByteArray:=fun a b =>
 if h:a.data.toList=b.data.toList then isTrue (by
  cases a
  cases b
  exact AAP ByteArray.mk (Array.toList_inj.1 h))
 else isFalse fun e=>h (by rw[e])
theorem A26:((AP []).1:List (ByteArray×List Int×List Int×List (Int×Int)))=Kg.1:=by decide +kernel
theorem A27:((AP []).2:List (ByteArray×Int))=Kg.2:=by decide +kernel
theorem Ze:AP []=Kg:=Prod.ext A26 A27
theorem LS:Jw Kg:=by rw[←Ze];exact(show Jw (if _ then _ else _) by split<;>exact HB _)
theorem Iz:I2 Kg:=by rw[←Ze];exact(show I2 (if _ then _ else _) by split<;>exact SR _)
def A8h (h:AI):Bool:=(h.2.all fun x=>decide (0≤x.2)&&decide (x.2<(h.1.length:Int)))&&h.1.all fun t=>t.2.2.2.all fun p=>decide (0≤p.2)&&decide (p.2<(h.1.length:Int))
theorem A5x {h:AI} (e:A8h h=true):ZJ h:=by
 unfold A8h at e;rw[AT,GO,GO]at e;refine⟨fun x b=>?_,fun t a p hp=>?_⟩
 ·have:=e.1 x b;simpa using this
 ·have:=GO.1 (e.2 t a) p hp;simpa using this
theorem JZ:ZJ Kg:=A5x (by decide +kernel)
def A4v (h:AI) (f:List AE):Bool:=decide (f.length≤100)&&f.all fun x=>decide (x.2.length≤100)&&(decide (0≤x.1)&&decide (x.1<(h.1.length:Int)))&&x.2.all fun a=>(decide (0≤a.1)&&decide (a.1<(h.2.length:Int)))&&(decide (0≤a.2)&&decide (a.2<(f.length:Int)))
theorem Ou {h:AI} (hk:Jw h) (hi:I2 h) (hf:ZJ h) (d:h.2.length≤100000) {f:List AE} (e:A4v h f=true):iQ h f∧B2 f∧KT f∧∀x∈f,x.2.length≤100:=by
 unfold A4v at e;rw[AT,DO,GO]at e;have c:∀x∈f,x.2.length≤100∧(0≤x.1∧x.1<(h.1.length:Int))∧∀a∈x.2,KV h f.length a:=fun x b=>by
  have:=e.2 x b;rw[AT,AT,AT,DO,DO,DO,GO]at this;refine⟨this.1.1,this.1.2,fun a ha=>?_⟩;have:=this.2 a ha;rw[AT,AT,AT,DO,DO,DO,DO]at this;exact⟨this.1,this.2⟩
 refine⟨⟨hk,hi,hf,d,⟨by omega,fun x b=>⟨by have:=(c x b).1;omega,fun a ha=>((c x b).2.2 a ha).2⟩⟩,fun x b=>(c x b).2.2,fun x b=>(c x b).2.1⟩,⟨by omega,fun x b=>by have:=(c x b).1;omega⟩,fun x b=>by have:=(c x b).1;omega,fun x b=>(c x b).1⟩
def A8O (v:KY):Bool:=v.all fun r=>r.all fun a=>decide (0≤a.2)&&decide (a.2<(v.length:Int))
theorem A5y {v:KY} (e:A8O v=true):VOk v:=fun r b a ha=>by
 have:=GO.1 (GO.1 e r b) a ha;simpa using this
theorem jU:VOk (Iv Kg):=A5y (by decide +kernel)
theorem rV:∀t∈Kg.1,t.2.2.2.length≤100:=by
 have:(Kg.1.all fun t=>decide (t.2.2.2.length≤100))=true:=by decide +kernel
 exact fun t a=>by simpa using GO.1 this t a
def jV:List AE:=[(12,[(0,1),(11,2)]),(2,[]),(11,[(1,3),(4,6),(9,7),(12,10)]),(4,[(6,4),(7,5)]),(2,[]),(2,[]),(1,[]),(4,[(6,8),(7,9)]),(2,[]),(2,[]),(7,[])]
theorem A8i:Al Kg [(0,[(10,1)]),(0,[(2,2)]),(0,[])]=([(3,[(10,1)]),(3,[(2,2)]),(0,[])],true):=by decide +kernel
theorem A8j:Al Kg [(8,[(2,1)]),(0,[])]=([],false):=by decide +kernel
theorem A8k:Iw Kg [(9,[])]=([(9,[(3,1),(8,2)]),(7,[]),(7,[])],0):=by decide +kernel
theorem A8l:Iw Kg [(12,[])]=(jV,0):=by decide +kernel
theorem A8m:CY Kg [(3,[(10,1)]),(0,[])]=11:=by decide +kernel
theorem A8n:CY Kg [(2,[(10,1)]),(2,[])]=10:=by decide +kernel
theorem A8o:CY Kg [(3,[(10,1)]),(3,[(2,2)]),(0,[])]=0:=by decide +kernel
section
attribute [local go_sem] JT TK qO Oj ZM NF gS LN
def Vy:Ae:={ ins:=[],pre:=fun _=>True,out:=fun _=>[.p .bool true] }
attribute [local go_sem] Vy
theorem Zf:Ao Tryz.prog 13 Vy:=by
 refine fKP [0,1,2,3,5,6,7,8,9,10,11,82,89,91,92,93,105] [15,17,20,27,30,62,64,67,74,78,83,108,111,117,120] [] Tryz.func13 Tryz.ntmps13 (AF NI (AF u9 (AF A3J (AF Mh (AF A3l (AF A1v (AF QG (AF RY AG)))))))) ?_;rintro w0 O0 u a - -;simp only[Vy,AM];have B:=Ze;have d:Kg.2.length≤100000:=by decide
 have y:=Ou LS Iz JZ d (f:=[(0,[(10,1)]),(0,[(2,2)]),(0,[])]) (by decide +kernel);have z:=Ou LS Iz JZ d (f:=[(8,[(2,1)]),(0,[])]) (by decide +kernel);have o:=Ou LS Iz JZ d (f:=[(9,[])]) (by decide +kernel);have q:=Ou LS Iz JZ d (f:=[(12,[])]) (by decide +kernel);have r:=Ou LS Iz JZ d (f:=[(3,[(10,1)]),(0,[])]) (by decide +kernel);have s:=Ou LS Iz JZ d (f:=[(2,[(10,1)]),(2,[])]) (by decide +kernel);have t:=Ou LS Iz JZ d (f:=[(3,[(10,1)]),(3,[(2,2)]),(0,[])]) (by decide +kernel);have K:A1t Kg [(9,[])]:=⟨o.1,rV,jU,o.2.2.2⟩;have L:A1t Kg [(12,[])]:=⟨q.1,rV,jU,q.2.2.2⟩;have m:=JZ;have D:=A8i;have E:=A8j;have F:=A8k;have G:=A8l;have H:=A8m;have I:=A8n;have J:=A8o;have s1:B2 jV:=⟨by decide,by decide⟩;have C:∀i,i<11→(jV.getD i (0,[])).1=[12,2,11,4,2,2,1,4,2,2,(7:Int)].getD i 0:=by decide
 have v:jV.length=11:=rfl;have e:Gk [] (0 / 2)=[]:=rfl;have g:Gk [10,1] (2 / 2)=[(10,1)]:=rfl;have j:Gk [2,2] (2 / 2)=[(2,2)]:=rfl;have n:Gk [2,1] (2 / 2)=[(2,1)]:=rfl;have l:Gk [3,1,8,2] (4 / 2)=[(3,1),(8,2)]:=rfl;have w:B2 [(3,[(10,1)]),(3,[(2,2)]),(0,[])]:=⟨by decide,by decide⟩;have x:B2 [(9,[(3,1),(8,2)]),(7,[]),(7,[])]:=⟨by decide,by decide⟩;generalize jV=S at *;generalize Kg=h at *;have c:(h.1,h.2)=h:=rfl;have M:(0:Int) / 2=0:=rfl;repeat'(first|exact trivial|refine eS rfl ?_|refine AB ?_|refine rP a ?_ ?_|fail)
 simp only[B];refine Bu drawsAny a 14 [([0,1,2,3,4,5,6,7,8,9,10,12],13)] [11] (by kernel_rfl) (Jr ?_ ?_)
 ·exact y.1
 ·refine Ld a [] ?_ ?_
  ·trivial
  ·refine Ow a ?_ ?_ ?_
   ·trivial
   ·trivial
   ·simp only[c,e,g,j,n,l,D];repeat'(first|exact trivial|refine eS rfl ?_|refine AB ?_|refine rP a ?_ ?_|fail)
    refine Bu drawsAny a 12 [([0,1,2,3,4,5,6,7,8,10],11)] [9] (by kernel_rfl) (Jr ?_ ?_)
    ·exact z.1
    ·refine Ld a [] ?_ ?_
     ·trivial
     ·refine Ow a ?_ ?_ ?_
      ·trivial
      ·trivial
      ·simp only[c,e,g,j,n,l,E];repeat'(first|exact trivial|refine eS rfl ?_|refine AB ?_|refine rP a ?_ ?_|fail)
       refine Bu drawsAny a 8 [([0,1,2,3,4,6],7)] [5] (by kernel_rfl) (Jr ?_ ?_)
       ·exact K
       ·refine Ld a [] ?_ ?_
        ·trivial
        ·refine Ow a ?_ ?_ ?_
         ·trivial
         ·trivial
         ·simp only[c,F];repeat'(first|exact trivial|refine eS rfl ?_|refine AB ?_|refine rP a ?_ ?_|fail)
          refine Bu drawsAny a 8 [([0,1,2,3,4,6],7)] [5] (by kernel_rfl) (Jr ?_ ?_)
          ·exact L
          ·refine Ld a [] ?_ ?_
           ·trivial
           ·refine Ow a ?_ ?_ ?_
            ·trivial
            ·trivial
            ·simp only[c,G];repeat'(first|exact trivial|refine eS rfl ?_|refine AB ?_|refine rP a ?_ ?_|fail)
             refine rD a ?_ ?_
             ·simp only[e,g,j,l];exact⟨fun _=>⟨w,w⟩,fun _=>⟨x,x⟩⟩
             ·simp only[c,e,g,j,n,l,Ck,show ((0:Int)==0)=true from rfl,ACe,Bool.or_false];repeat'(first|exact trivial|refine eS rfl ?_|refine AB ?_|refine rX a ?_ ?_|refine rC ?_ ?_<;>intro b<;>try(cases b;done))
              ·rw[v]at b;exact absurd rfl b
              ·have N:(0:Int)+1+1+1+1+1+1+1+1+1+1+1=11:=rfl;refine AJ (ι:={k:Nat//k≤11}) (fun k=>⟨[(1,.bp 1 [] 0),(2,.bp 2 [] 0),(8,.bp 8 [] 0),(10,.p Kh [12,2,11,4,2,2,1,4,2,2,7]),(91,.p (.int .i64) (11:Int)),(92,.p (.int .i64) (k.1:Int))],[(8,.box 25 true [.p F6 S]),(2,.box 25 true [.p F6 [(3,[(10,1)]),(3,[(2,2)]),(0,[])]]),(1,.box 31 true [.p S5 h.1,.p WB h.2])]⟩) (fun k=>11-k.1) ⟨0,Is _⟩ (AC [(8,.nm 8),(2,.nm 2),(1,.nm 1)] rfl rfl ?_ ?_) (fun k=>?_)
               ·first|exact eN|refine eM ?_
               ·first|exact eN|refine eM ?_
                rfl
               ·obtain⟨k,hk⟩:=k;have A:=C k;simp only;repeat'(first|exact trivial|refine eS rfl ?_|refine AB ?_|refine rX a ?_ ?_|refine rC ?_ ?_<;>intro b<;>try(cases b;done))
                ·rw[v];exact⟨b,b⟩
                ·exact absurd (A (by omega)) b
                ·omega
                ·refine⟨⟨k+1,by omega⟩,by simp only;omega,AC [(8,.nm 8),(2,.nm 2),(1,.nm 1)] rfl rfl ?_ ?_⟩
                 ·first|exact eN|refine eM ?_
                 ·first|exact eN|refine eM ?_
                ·simp only[c,e,g];exact⟨⟨m,r.2.1,r.2.2.1⟩,fun _=>⟨m,s.2.1,s.2.2.1⟩,fun _=>⟨m,t.2.1,t.2.2.1⟩⟩
                ·simp only[c,e,g,H,I,J];exact fI a [.tmp 0]
end
section
attribute [local go_sem] JT LP Vy LN Oj NF qP
def oC:Ae:={ ins:=[FC,E0,E0],pre:=fun _=>True,out:=fun _=>[.p .bool true] }
attribute [local go_sem] oC
theorem A28:Ao Tryz.prog 6 oC:=by
 refine fKP [0,1,2,4,5,6,7,8,9,17,38,52,73] [14] [] Tryz.func6 Tryz.ntmps6 (AF NI (AF Ra (AF Zf (AF Mh (AF RY (AF qQ (AF QG AG))))))) ?_;rintro w0 O0 ⟨d,f,g,u⟩ h - -;simp only[oC,AM];have hh:=h14 d;have i:=A5u (AP d);have c:Nr (AP d) [f,g]=true→A8g (AP d) f g:=fun e=>A44 hh (JY e f (by simp)) (JY e g (by simp));repeat'(first|exact trivial|refine eS rfl ?_|refine AB ?_|refine rX h ?_ ?_|refine rC ?_ ?_<;>intro a<;>try(cases a;done))
 ·exact fI h [.tmp 6]
 ·exact(c a).inf
 ·have q:=c a;exact⟨fun _=>⟨hh.ft,q.sx⟩,fun e=>⟨q.gf.1,q.gf.2.1,(q.gx (AT _ _▸e).1).1,(q.gx (AT _ _▸e).1).2.1,q.gf.2.2,(q.gx (AT _ _▸e).1).2.2⟩⟩
 ·obtain⟨c1,c2⟩:=(c (by assumption)).l1 a.1;rcases a.2 with b|b
  ·exact absurd c1 b
  ·exact absurd (c2.symm.trans b) (by simp)
 ·have q:=c (by assumption);exact⟨⟨hh.ft,q.sf⟩,fun _=>⟨q.sx.1,q.sf.1⟩⟩
 ·have q:=(c (by assumption)).l2 a.1;rw[i,q]at a;rcases a.2 with b|b
  ·cases b
  ·exact absurd (Ck f) b
 ·have q:=c (by assumption);have k:∀b:Bool,(b&&!!(Al (AP d) f).2)=true→(Al (AP d) f).2=true:=fun b e=>by
   rw[AT,Bool.not_not]at e;exact e.2
  exact⟨⟨hh.ft,q.sg⟩,fun _=>⟨q.gf.1,q.gf.2.1,q.gg.1,q.gg.2.1,q.gf.2.2,q.gg.2.2⟩,fun e=>⟨(q.gx (k _ e)).1,(q.gx (k _ e)).2.1,q.gg.1,q.gg.2.1,(q.gx (k _ e)).2.2,q.gg.2.2⟩⟩
 ·have q:=(c (by assumption)).l3 a.1.1 a.1.2;rcases a.2 with b|b
  ·exact absurd (q.1.symm.trans b) (by simp)
  ·exact absurd (q.2.symm.trans b) (by simp)
 ·exact fI h [.tmp 6]
end
theorem Sn.set {h:AI} {m:Nat} {u:List Int} (hu:Sn h m u) {t:Int} (b:0≤t) (c:t<(h.1.length:Int)) (i:Nat):Sn h m (u.set i t):=⟨by rw[AA5];exact hu.1,fun x a=>by
 rcases AB6 a with a|rfl
 ·exact hu.2 x a
 ·exact⟨b,c⟩⟩
theorem Oy.set {h:AI} (hk:Jw h) {m:Nat} {u:List Int} (hu:Sn h m u) {t:Int} {i:Nat} (hi:i<m) (hs:BG h (u.getD i 0) t=true):Oy h m u (u.set i t):=fun k a=>by
 rw[NH _ _ _ (by rw[hu.1];exact hi) k];split
 ·rename_i e;rw[e];exact hs
 ·exact TG hk (hu.get a).1 (hu.get a).2
section
variable {h:AI} (hk:Jw h) (hn:A5m h) (hi:I2 h) (hf:ZJ h) (hap:HAp h) {m:Nat}
include hk hn hi hf hap
end
section
variable {h:AI} (hk:Jw h) (hn:A5m h) (hi:I2 h) (hf:ZJ h) (hap:HAp h) {f:List AE} (ha:Md h f)
include hk hn hi hf hap ha
end
section
attribute [local go_sem] SS
end
section
open Go
end
section
noncomputable def Vz:Ae:={ ins:=[Ga,E0,E0],pre:=fun(h,a,b,_)=>HU h∧VF h a∧VF h b∧List.length a+List.length b≤10000,out:=fun(h,a,b,_)=>[.p E0 (DJ h a b).1,.p .bool (DJ h a b).2] }
attribute [local go_sem] Vz
theorem jW:Ao Tryz.prog 58 Vz:=by
 refine fK [0,1,2,3,4,5,6,7,8,25] Tryz.func58 Tryz.ntmps58 AG ?_;rintro w0 O0 ⟨h,a,b,u⟩ c-⟨hu,f,g,H⟩;simp only[Vz,AM];repeat'(first|exact trivial|refine eS rfl ?_|refine AB ?_|refine rX c ?_ ?_|refine rC ?_ ?_<;>intro d<;>try(cases d;done))
 refine cP 3 c ?_ ?_
 ·trivial
 ·refine rM c (A1B h [] [] [] a f.good (by simp) rfl rfl) [(1,.nm 11),(2,.nil),(3,.nil),(4,.nil)] [] ?_ ?_ ?_
  ·first|exact eN|refine eM ?_
  ·simp only[X0];first|exact eN|refine eM ?_
  ·rintro _ _ ⟨rfl,rfl⟩;refine⟨[(11,.nm 1),(102,.nm 2),(103,.nm 3),(104,.nm 4)],.raw (.tuple #[]),[(11,.box 130 true [.p Ga h,.sr 102 T3 0 (Cw 0 a.length).length,.sr 103 T3 0 (DI a a.length).length,.sr 104 DS 0 (Fs 0 a a.length).length]),(102,.arr 3 T3 (Cw 0 a.length)),(103,.arr 3 T3 (DI a a.length)),(104,.arr 47 DS (Fs 0 a a.length))],rfl,rfl,?_,?_,rfl,rfl,CM ?_⟩
   ·simp only[X0];first|exact eN|refine eM ?_
   ·first|exact eN|refine eM ?_
   ·have la:(Cw 0 a.length).length=a.length:=Kb 0 a.length;have lt:(DI a a.length).length=a.length:=by unfold DI;rw[f6,f9]
    have K:(Fs 0 a a.length).length=a.length:=by unfold Fs;rw[f6,f9]
    repeat'(first|exact trivial|refine eS rfl ?_|refine AB ?_|refine rX c ?_ ?_|refine rC ?_ ?_<;>intro d<;>try(cases d;done))
    refine cP 3 c ?_ ?_
    ·trivial
    ·refine rM c (A1B h (Cw 0 a.length) (DI a a.length) (Fs 0 a a.length) b g.good (by omega) (by omega) (by omega)) [(1,.nm 11),(2,.nm 102),(3,.nm 103),(4,.nm 104)] [102,103,104] ?_ ?_ ?_
     ·first|exact eN|refine eM ?_
     ·simp only[X0];first|exact eN|refine eM ?_
     ·rintro _ _ ⟨rfl,rfl⟩;rw[la,vN,nT,vP];rw[show a.length+b.length=(Cl a b).length from (Ft a b).symm];have G:=Ft a b;have y:=Vj f.good g.good (by omega);have A:=qZ y (jI f.ty g.ty) (Rg f.str g.str);have q:=jJ (f.ft64 hu) (g.ft64 hu);have J:=nV (N:=Cl a b) fun x n=>nU (Rg f.str g.str x n) (q x n);have hap:=f.pos;have I:=g.pos;have D:=fun p ty ar z m=>qY f g (p:=p) (ty:=ty) (ar:=ar) z m;have B:=vM f g;generalize Cw 0 (Cl a b).length=p0 at *;generalize Oq (Cl a b)=t at *;generalize Vi (Cl a b)=s at *;refine⟨[(11,.nm 1),(102,.nm 2),(103,.nm 3),(104,.nm 4)],.raw (.tuple #[]),[(11,.box 130 true [.p Ga h,.sr 102 T3 0 p0.length,.sr 103 T3 0 t.length,.sr 104 DS 0 s.length]),(102,.arr 3 T3 p0),(103,.arr 3 T3 t),(104,.arr 47 DS s)],rfl,rfl,?_,?_,rfl,rfl,CM ?_⟩
      ·simp only[X0];first|exact eN|refine eM ?_
      ·first|exact eN|refine eM ?_
      ·repeat'(first|exact trivial|refine eS rfl ?_|refine AB ?_|refine rX c ?_ ?_|refine rC ?_ ?_<;>intro d<;>try(cases d;done))
       refine cP 4 c ?_ ?_
       ·trivial
       ·refine rM c (A3Q h hu.ok A (a:=0) (b:=(a.length:Int)) (by omega) (by omega) (by omega) (by omega)) [(101,.nm 11),(102,.nm 102),(103,.nm 103),(104,.nm 104)] [102,103,104] ?_ ?_ ?_
        ·first|exact eN|refine eM ?_
        ·simp only[qU];first|exact eN|refine eM ?_
        ·rintro res F (⟨rfl,i,l,j,rfl,e⟩|⟨rfl,⟨i,l,j,rfl⟩,C⟩)
         ·have m:=jK e (by omega) q;have o:=jF hu (D i l j e m);refine⟨[(11,.nm 101),(102,.nm 102),(103,.nm 103),(104,.nm 104)],.p .bool true,[(11,.box 130 true [.p Ga h,.sr 102 T3 0 i.length,.sr 103 T3 0 l.length,.sr 104 DS 0 j.length]),(102,.arr 3 T3 i),(103,.arr 3 T3 l),(104,.arr 47 DS j)],rfl,rfl,?_,?_,rfl,rfl,?_⟩
          ·simp only[qU];first|exact eN|refine eM ?_
          ·first|exact eN|refine eM ?_
          ·refine rL c ?_ ?_
           ·trivial
           ·repeat'(first|exact trivial|refine eS rfl ?_|refine AB ?_|refine rX c ?_ ?_|refine rC ?_ ?_<;>intro d<;>try(cases d;done))
            refine cP 1 c ?_ ?_
            ·trivial
            ·refine rM c (A1J h e.fo m (by rw[e.lt,e.lp]) (by rw[e.la,e.lp]) (fun k x n=>by rw[e.lp];exact(e.arr k x n).1) (r:=0) (by omega) (by rw[e.lp];omega)) [(101,.nm 11),(102,.nm 102),(103,.nm 103),(104,.nm 104)] [11,102,103,104] ?_ ?_ ?_
             ·first|exact eN|refine eM ?_
             ·simp only[qU];first|exact eN|refine eM ?_
             ·rintro _ F rfl;refine⟨[],.p E0 (AR (quo i l j) (Eu i 0)),[],rfl,rfl,?_,?_,rfl,rfl,?_⟩
              ·first|exact eN|refine eM ?_
              ·first|exact eN|refine eM ?_
              ·refine rL c ?_ ?_
               ·trivial
               ·repeat'(first|exact trivial|refine eS rfl ?_|refine AB ?_|refine rX c ?_ ?_|refine rC ?_ ?_<;>intro d<;>try(cases d;done))
                exact fI c [.cell 6 25,.tmp 7] (by rw[o];exact eR)
         ·have o:=B (fun X v w E=>C X v w E);refine⟨[(11,.nm 101),(102,.nm 102),(103,.nm 103),(104,.nm 104)],.p .bool false,[(11,.box 130 true [.p Ga h,.sr 102 T3 0 i.length,.sr 103 T3 0 l.length,.sr 104 DS 0 j.length]),(102,.arr 3 T3 i),(103,.arr 3 T3 l),(104,.arr 47 DS j)],rfl,rfl,?_,?_,rfl,rfl,?_⟩
          ·simp only[qU];first|exact eN|refine eM ?_
          ·first|exact eN|refine eM ?_
          ·refine rL c ?_ ?_
           ·trivial
           ·repeat'(first|exact trivial|refine eS rfl ?_|refine AB ?_|refine rX c ?_ ?_|refine rC ?_ ?_<;>intro d<;>try(cases d;done))
            exact fI c [.cell 6 25,.tmp 7] (by rw[o];exact eR)
end
section
open Go
end
section
open Go
end
section
variable {h:AI} {N:List AE} {P:List (Int×Int)} {c p:List Int} {g:List AE}
end
section
variable {h:AI} {a b:List AE}
end
section
open Go
end
section
attribute [local go_sem] A1R
end
section
attribute [local go_sem] Vz Oj
theorem A29 {h:AI} (hh:j6 h) {f:List AE} (a:VF h f):iQ h f:=⟨hh.ok,hh.inj,hh.ft,aT hh.b2 (by decide),a.good,Qk a,a.ty⟩
noncomputable def Dn (h:AI) (a b:List AE):List AE×Bool:=if (DJ h a b).2=true then Al h (DJ h a b).1 else ([],false)
noncomputable def oD:Ae:={ ins:=[Ga,E0,E0],pre:=fun(h,a,b,_)=>(j6 h∧vS h)∧VF h a∧VF h b∧List.length a+List.length b≤100,out:=fun(h,a,b,_)=>[.p E0 (Dn h a b).1,.p .bool (Dn h a b).2] }
attribute [local go_sem] oD
theorem oE:Ao Tryz.prog 27 oD:=by
 refine fK [0,1,2,3,4,5,6,7,8,9,18] Tryz.func27 Tryz.ntmps27 (AF jW (AF Mh AG)) ?_;rintro w0 O0 ⟨h,a,b,u⟩ d-⟨⟨hh,j⟩,f,g,i⟩;have hh:j6 h:=hh;have j:vS h:=j;have f:VF h a:=f;have g:VF h b:=g;have i:a.length+b.length≤100:=i;simp only[oD,AM];have e:(h.1,h.2)=h:=rfl;repeat'(first|exact trivial|refine eS rfl ?_|refine AB ?_|refine rX d ?_ ?_|refine rC ?_ ?_<;>intro c<;>try(cases c;done))
 ·exact⟨hh.hu,f,g,by omega⟩
 ·exact fI d [.cell 6 25,.tmp 7] (by unfold Dn;rw[e]at c;rw[c,As (by simp)];exact eR)
 ·exact A29 hh (JW c).vf
 ·exact fI d [.cell 6 25,.tmp 7] (by unfold Dn;rw[e]at c;rw[c,At rfl,e];exact eR)
end
theorem A2a {h:AI} (hk:Jw h) {N:List AE} {P:List (Int×Int)}:∀(k:Nat) (p ty:List Int) (ar:List (List (Int×Int))) (W:List (Int×Int)),JI h N P p ty ar W→nR p*((Cy N).length+1)+W.length≤k →
  (∃E G o,JI h N P E G o [])∨(∀X v,Fx h X→¬nM h N P X v):=by
 intro k;induction k with
 | zero =>
  intro p ty ar W c g;have:W=[]:=So (by omega);subst this;exact .inl ⟨p,ty,ar,c⟩
 | succ k l =>
  intro p ty ar W c g;cases j:W.getLast? with
  | none =>
   have:W=[]:=List.getLast?_eq_none_iff.1 j;subst this;exact .inl ⟨p,ty,ar,c⟩
  | some w =>
   have r:W=W.dropLast++[w]:=by
    obtain⟨J,e⟩:=List.getLast?_eq_some_iff.1 j;rw[e];simp
   obtain⟨s,t⟩:=w;rw[r]at c g;rw[IN,To]at g;generalize W.dropLast=V at *;obtain⟨⟨m,s1⟩,n,F⟩:=c.wr (s,t) (by simp);simp only at m s1 n F;obtain⟨L,fo⟩:=c.fo;have lp:=c.lp;obtain⟨a,ha,a0,H⟩:=fo.root m (by omega);obtain⟨b,d,q,b1⟩:=fo.root n (by omega);by_cases f:a=b
   ·subst f;exact l p ty ar V (qR c ha d) (by omega)
   ·cases i:(B4 h (ty.getD a.toNat 0) (ty.getD b.toNat 0)).2 with
    | false =>
     right;intro X v u C;have:=(ZS hk c ha d u C).2.1;rw[i]at this;cases this
    | true =>
     have z:=i6 hk c ha d f i;refine l _ _ _ _ z ?_;have B:=qT (a:=a) q b1 d.root f;have A:=ZT (c.srt a.toNat) (fun x D=>(c.arr a.toNat x D).2);have K:=aT (QZ (x:=ar.getD a.toNat []) (y:=ar.getD b.toNat [])) A;have I:nR p*((Cy N).length+1)=nR (p.set b.toNat a)*((Cy N).length+1)+((Cy N).length+1):=by rw[←B,ABA,Nat.one_mul]
     rw[IN];omega
theorem YI {h:AI} (hk:Jw h) {N:List AE}:∀(R P:List (Int×Int)) (p ty:List Int) (ar:List (List (Int×Int))),(∀q∈R,(0≤q.1∧q.1<(N.length:Int))∧(0≤q.2∧q.2<(N.length:Int)))→JI h N P p ty ar [] →
  (∃l r g,JI h N (P++R) l r g [])∨(∀X v,Fx h X→¬nM h N (P++R) X v)
 | [],P,p,ty,ar,f,e=>.inl ⟨p,ty,ar,by rw[AAa];exact e⟩
 | q :: R,P,p,ty,ar,f,e=>by
  obtain⟨a,b⟩:=q;have c:=f (a,b) (by simp);have i:P++(a,b) :: R=P++[(a,b)]++R:=by simp
  rw[i];rcases A2a hk _ _ _ _ _ (i8 e c.1 c.2) (No _) with ⟨m,o,n,h1⟩|k
  ·exact YI hk R (P++[(a,b)]) m o n (fun q c=>f q (by simp[c])) h1
  ·exact .inr fun X v j d=>k X v j ⟨d.rng,d.ty,d.arc,fun q c=>d.eq q (AAn _ c)⟩
theorem rW {h:AI} (hu:HU h) {a b X:List AE} (c:VF h a) (d:VF h b) (m:a.length+b.length≤100000) (k:Fx h X) {o r:Int→Int} (h1:J1 h a X o) (g:J1 h b X r):∃j,Qb h a b j:=by
 have s:=Ft a b;have hap:=c.pos;have t:=d.pos;have l:=Vj c.good d.good m;rcases YI hu.ok (N:=Cl a b) [(0,(a.length:Int))] [] _ _ _ (fun q f=>by
  have e:q=(0,(a.length:Int)):=by simpa using f
  subst e;simp only;omega) (qZ l (jI c.ty d.ty) (Rg c.str d.str)) with ⟨p,ty,ar,i⟩|n
 ·exact⟨_,qY c d i (jK i (by omega) (jJ (c.ft64 hu) (d.ft64 hu)))⟩
 ·exfalso;refine n X _ k (nQ (Ve c.good d.good (NL h1) (NL g)) fun q f=>?_);have e:q=(0,(a.length:Int)):=by simpa using f
  subst e;try simp only
  rw[At (by omega),As (by omega),Int.sub_self,h1.zero,g.zero]
section
attribute [local go_sem] Vz mH MQ cs1 cs3
noncomputable def FY (h:AI):List AE→List (List AE)→List AE×Bool
 | f,[]=>(f,true)
 | f,x :: l=>if (DJ h f x).2=true then FY h (DJ h f x).1 l else ([],false)
noncomputable def Rn (h:AI):List (List AE)→List AE×Bool
 | []=>([((0:Int),[])],true)
 | f :: l=>FY h f l
noncomputable def A5z:Ae:={ ins:=[Ga,T58],pre:=fun(h,l,_)=>HU h∧List.length l≤50∧∀x∈(l:List (List AE)),VF h x∧x.length≤100,out:=fun(h,l,_)=>[.p E0 (Rn h l).1,.p .bool (Rn h l).2] }
theorem A5A:Ao Tryz.prog 30 A5z:=by
 refine fK [0,1,2,4,5,6,8,9,10,13,19,20,21,22,33] Tryz.func30 Tryz.ntmps30 (AF A0Y (AF jW AG)) ?_;rintro w0 O0 ⟨h,l,u⟩ d-⟨hu,y,n⟩;simp only[A5z,AM];repeat'(first|exact trivial|refine eS rfl ?_|refine AB ?_|refine rX d ?_ ?_|refine rC ?_ ?_<;>intro a<;>try(cases a;done))
 ·have z:l=[]:=So (by omega);subst z;exact fI d [.cell 4 25,.tmp 5] (by first|exact eR|refine Ym ?_;exact⟨rfl,rfl⟩)
 ·have h1:(List.length l:Int)≠0:=a;have q:0≤(List.length l:Int):=AA3 _;dsimp only[Ty.den]at *;omega
 ·have h1:(List.length l:Int)≠0:=a;have q:0≤(List.length l:Int):=AA3 _;dsimp only[Ty.den]at *;omega
 ·obtain⟨b,r,rfl⟩:∃g r,l=g :: r:=by
   cases l with
   | nil=>exact absurd rfl a
   | cons g r=>exact⟨g,r,rfl⟩
  have o:(b :: r).getD 0 []=b:=rfl;have v:=n b (by simp);have A:∀x∈r,VF h x∧x.length≤100:=fun x B=>n x (by simp[B]);have C:r.length≤49:=by
   have h:(b :: r).length≤50:=y;rw[Of]at h;omega
  have t:Rn h (b :: r)=FY h b r:=rfl;rw[t,o];simp only[AB0,AA6];refine AJ (ι:={s:Nat×List AE//s.1≤r.length∧(VF h s.2∧s.2.length≤100*(s.1+1))∧FY h b r=FY h s.2 (r.drop s.1)}) (fun s=>⟨[(2,.bp 2 [] 0),(4,.bp 4 [] 0),(6,.bp 6 [] 0),(19,.p T58 r),(20,.p (.int .i64) (r.length:Int)),(21,.p (.int .i64) (s.1.1:Int))],[(2,.box 31 true [.p S5 h.1,.p WB h.2]),(4,.box 25 true [.raw (.slice none 0 0)]),(6,.box 25 true [.p F6 s.1.2])]⟩) (fun s=>r.length-s.1.1) ⟨(0,b),Is _,⟨v.1,by simp only;omega⟩,rfl⟩ (AC [(2,.nm 2),(4,.nm 4),(6,.nm 6)] rfl rfl ?_ ?_) (fun s=>?_)
  ·first|exact eN|refine eM ?_
  ·first|exact eN|refine eM ?_
  ·obtain⟨⟨k,g⟩,hk,⟨j,w⟩,f⟩:=s;simp only at hk j w f ⊢;have m:=fun h:k<r.length=>A _ (AD r [] h);repeat'(first|exact trivial|refine eS rfl ?_|refine AB ?_|refine rX d ?_ ?_|refine rC ?_ ?_<;>intro a<;>try(cases a;done))
   ·exact a
   ·have h1:=m (If.1 (by assumption));exact⟨hu,j,h1.1,by omega⟩
   ·have c:k<r.length:=If.1 (by assumption);have h1:FY h b r=([],false):=by
     rw[f,aS c];simp only[FY];have e:r.getD k []=r[k]:=by simp[AS,c]
     rw[←e];have a:(DJ h g (r.getD k [])).2=false:=a;rw[As (by rw[a];simp)]
    exact fI d [.cell 4 25,.tmp 5] (by rw[h1];exact eR)
   ·omega
   ·have c:k<r.length:=If.1 (by assumption);have a:(DJ h g (r.getD k [])).2=true:=a;have i:=JW a;have h1:=m c;have D:=i.len;refine⟨⟨(k+1,(DJ h g (r.getD k [])).1),c,⟨i.vf,by simp only;omega⟩,?_⟩,by simp only;omega,AC [(2,.nm 2),(4,.nm 4),(6,.nm 6)] rfl rfl ?_ ?_⟩
    ·rw[f,aS c];simp only[FY];have e:r.getD k []=r[k]:=by simp[AS,c]
     rw[←e,At a]
    ·first|exact eN|refine eM ?_
    ·first|exact eN|refine eM ?_
   ·have c:r.drop k=[]:=IF (gO.1 a);rw[c]at f;rw[f];exact fI d [.cell 4 25,.tmp 5] (by first|exact eR|refine Ym ?_;exact⟨rfl,rfl⟩)
end
section
attribute [local go_sem] gS
structure A8p (h:AI) (l:List (List AE)) (U:List AE):Prop where
 vf:VF h U
 hom:∀x∈l,∃m,J1 h x U m
 least:∀X,VF h X→(∀x∈l,∃m,J1 h x X m)→∃m,J1 h U X m
theorem YJ {h:AI} (hu:HU h):∀(l:List (List AE)) (f:List AE),VF h f→(∀x∈l,VF h x∧x.length≤100)→f.length+100*l.length≤10000→((FY h f l).2=true∧A8p h (f :: l) (FY h f l).1)∨(FY h f l=([],false)∧∀X,VF h X→¬ ∀x∈f :: l,∃m,J1 h x X m)
 | [],f,hf,_,_=>by
  refine .inl ⟨rfl,hf,fun x j=>?_,fun X i hh=>hh f (by simp)⟩;have:x=f:=by simpa using j
  subst this;exact⟨_,nS hf.str⟩
 | x :: l,f,hf,p,hs=>by
  have j:=p x (by simp);simp only[Of]at hs;rcases Qj (h:=h) f x with ⟨g,b,e⟩|⟨e,v⟩
  ·have s:FY h f (x :: l)=FY h g l:=by
    simp only[FY];rw[e,At rfl]
   rw[s];obtain⟨z,t⟩:=b.left;obtain⟨A,u⟩:=b.right;have w:=b.len;have i:∀X,VF h X→(∀y∈f :: x :: l,∃m,J1 h y X m)→∀y∈g :: l,∃m,J1 h y X m:=fun X i hh y a=>by
    rcases By.1 a with rfl|a
    ·obtain⟨q,k⟩:=hh f (by simp);obtain⟨r,n⟩:=hh x (by simp);exact b.least X i.ty q k r n
    ·exact hh y (by simp[a])
   rcases YJ hu l g b.vf (fun y a=>p y (by simp[a])) (by omega) with ⟨h1,c⟩|⟨h1,c⟩
   ·refine .inl ⟨h1,c.vf,fun y a=>?_,fun X d hh=>c.least X d (i X d hh)⟩;obtain⟨B,o⟩:=c.hom g (by simp);rcases By.1 a with rfl|a
    ·exact⟨_,Ix hu.ok hf.good hf.ty b.vf.ty c.vf.ty t o⟩
    ·rcases By.1 a with rfl|a
     ·exact⟨_,Ix hu.ok j.1.good j.1.ty b.vf.ty c.vf.ty u o⟩
     ·exact c.hom y (by simp[a])
   ·exact .inr ⟨h1,fun X d hh=>c X d (i X d hh)⟩
  ·refine .inr ⟨?_,fun X d hh=>?_⟩
   ·simp only[FY];rw[e,As (by simp)]
   ·obtain⟨q,k⟩:=hh f (by simp);obtain⟨r,n⟩:=hh x (by simp);obtain⟨g,b⟩:=rW hu hf j.1 (by omega) d.ty k n;exact v g b
theorem rZ {h:AI} (hu:HU h) {l:List (List AE)} (h0:l≠[]) (a:∀x∈l,VF h x∧x.length≤100) (hn:l.length≤50):((Rn h l).2=true∧A8p h l (Rn h l).1)∨(Rn h l=([],false)∧∀X,VF h X→¬ ∀x∈l,∃m,J1 h x X m):=by
 cases l with
 | nil=>exact absurd rfl h0
 | cons f l =>
  have hf:=a f (by simp);simp only[Of]at hn;exact YJ hu l f hf.1 (fun x b=>a x (by simp[b])) (by omega)
end
section
attribute [local go_sem] JT LP Vy LN oD
theorem r8 (d:List AH):vS (AP d):=by
 unfold AP;split
 ·exact Ml d
 ·exact Ml Ik
theorem NR {h:AI} (hh:j6 h) (a b:List AE):B2 (Dn h a b).1:=by
 unfold Dn;split
 ·rename_i e;have d:=(JW e).vf;cases c:D6 h (DJ h a b).1 with
  | none=>rw[Fu c];exact⟨by simp,by simp⟩
  | some ty=>rw[Dq c];exact(Iy hh d c).1.small
 ·exact⟨by simp,by simp⟩
end
abbrev Wt (h:AI) (f:List AE):Prop:=VF h f∧WTy h f (BD f)
def oG (h:AI) (l:List (List AE)) (X:List AE):Prop:=∀x∈l,∃m,J1 h x X m
structure TU (h:AI) (l:List (List AE)) (U:List AE):Prop where
 wt:Wt h U
 hom:oG h l U
 least:∀X,Wt h X→oG h l X→∃m,J1 h U X m
def NX (h:AI) (l:List (List AE)) (r:List AE×Bool):Prop:=(r.2=true∧TU h l r.1)∨(r=([],false)∧∀X,Wt h X→¬oG h l X)
theorem NX.congr {h:AI} {l l':List (List AE)} {r:List AE×Bool} (H:NX h l r) (d:∀X,Wt h X→(oG h l X↔oG h l' X)):NX h l' r:=by
 rcases H with ⟨h1,a⟩|⟨h1,a⟩
 ·exact .inl ⟨h1,a.wt,(d _ a.wt).1 a.hom,fun X b c=>a.least X b ((d X b).2 c)⟩
 ·exact .inr ⟨h1,fun X b c=>a X b ((d X b).2 c)⟩
theorem NX.uniq {h:AI} (hu:HU h) {l:List (List AE)} {r d:List AE×Bool} (H:NX h l r) (e:NX h l d):r=d:=by
 rcases H with ⟨h1,b⟩|⟨h1,b⟩<;>rcases e with ⟨c,a⟩|⟨c,a⟩
 ·obtain⟨i,f⟩:=b.least _ a.wt a.hom;obtain⟨j,g⟩:=a.least _ b.wt b.hom;exact Prod.ext (A4r hu b.wt.1 a.wt.1 f g) (h1.trans c.symm)
 ·exact(a _ b.wt b.hom).elim
 ·exact(b _ a.wt a.hom).elim
 ·rw[h1,c]
theorem jX {h:AI} (hk:Jw h) {l:List (List AE)} (c:∀x∈l,VF h x) {a X:List AE} (d:VF h a) (e:VF h X) (f:oG h l a) {m:Int→Int} (g:J1 h a X m):oG h l X:=fun x b=>by
 obtain⟨k,q⟩:=f x b;exact⟨_,Ix hk (c x b).good (c x b).ty d.ty e.ty q g⟩
theorem Gt {h:AI} {x X:List AE}:oG h [x] X↔∃m,J1 h x X m:=by simp[oG]
theorem I0 {h:AI} {x X:List AE} {l:List (List AE)}:oG h (x :: l) X↔(∃m,J1 h x X m)∧oG h l X:=by simp[oG]
section
variable {h:AI} (hh:j6 h)
include hh
theorem A5B {f:List AE} (c:VF h f) {ty:List Int} (e:D6 h f=some ty):Wt h (Ec f ty):=by
 obtain⟨h1,a,b,-⟩:=Iy hh c e;refine⟨h1,?_⟩;rw[Vx b.1];intro i hi;rw[Gl];exact a i (by rw[←CG f ty];exact hi)
theorem TS {f:List AE} (c:VF h f):NX h [f] (Al h f):=by
 cases e:D6 h f with
 | some ty =>
  rw[Dq e];refine .inl ⟨rfl,A5B hh c e,Gt.2 ⟨_,(Iy hh c e).2.2.2⟩,fun X b d=>?_⟩;obtain⟨m,g⟩:=Gt.1 d;obtain⟨i,a,q⟩:=Zd hh c b.1 b.2 g;rw[e]at a;cases a;exact⟨m,q⟩
 | none =>
  rw[Fu e];refine .inr ⟨rfl,fun X b d=>?_⟩;obtain⟨m,g⟩:=Gt.1 d;obtain⟨i,a,q⟩:=Zd hh c b.1 b.2 g;rw[e]at a;cases a
theorem LT {a b:List AE} (k:VF h a) (l:VF h b) (r:a.length+b.length≤10000):NX h [a,b] (Dn h a b):=by
 unfold Dn;rcases Qj (h:=h) a b with ⟨n,c,e⟩|⟨e,q⟩
 ·rw[e,At rfl];refine(TS hh c.vf).congr fun X g=>?_;rw[Gt,I0,Gt];constructor
  ·rintro⟨m,p⟩;obtain⟨i,d⟩:=c.left;obtain⟨j,f⟩:=c.right;exact⟨⟨_,Ix hh.ok k.good k.ty c.vf.ty g.1.ty d p⟩,_,Ix hh.ok l.good l.ty c.vf.ty g.1.ty f p⟩
  ·rintro⟨⟨i,d⟩,j,f⟩;exact c.least X g.1.ty i d j f
 ·rw[e,As ABF];refine .inr ⟨rfl,fun X g o=>?_⟩;rw[I0,Gt]at o;obtain⟨⟨i,d⟩,j,f⟩:=o;obtain⟨n,c⟩:=rW hh.hu k l (by omega) g.1.ty d f;exact q n c
noncomputable def GR (h:AI) (a:List AE) (r:List AE×Bool):List AE×Bool:=if r.2=true then Dn h a r.1 else ([],false)
theorem V0 {a:List AE} {l:List (List AE)} {r:List AE×Bool} (k:VF h a) (f:∀x∈l,VF h x) (j:NX h l r) (hn:a.length+r.1.length≤10000):NX h (a :: l) (GR h a r):=by
 unfold GR;rcases j with ⟨e,b⟩|⟨e,i⟩
 ·rw[e,At rfl];refine(LT hh k b.wt.1 hn).congr fun X c=>?_;rw[I0,Gt,I0];refine and_congr_right fun _=>⟨fun⟨m,g⟩=>jX hh.ok f b.wt.1 c.1 b.hom g,fun d=>b.least X c d⟩
 ·rw[e,As ABF];exact .inr ⟨rfl,fun X c d=>i X c (I0.1 d).2⟩
noncomputable def vZ (h:AI) (l:List (List AE)):List AE×Bool:=if (Rn h l).2=true then Al h (Rn h l).1 else ([],false)
theorem A2b {l:List (List AE)} (h0:l≠[]) (d:∀x∈l,VF h x∧x.length≤100) (hn:l.length≤50):NX h l (vZ h l):=by
 unfold vZ;rcases rZ hh.hu h0 d hn with ⟨e,a⟩|⟨e,g⟩
 ·rw[At e];refine(TS hh a.vf).congr fun X b=>?_;rw[Gt];exact⟨fun⟨m,f⟩=>jX hh.ok (fun x i=>(d x i).1) a.vf b.1 a.hom f,fun c=>a.least X b.1 c⟩
 ·rw[e,As ABF];exact .inr ⟨rfl,fun X b c=>g X b.1 c⟩
omit hh in
theorem A2c {l l':List (List AE)} (hp:∀x,x∈l↔x∈l') (X:List AE):oG h l X↔oG h l' X:=⟨fun a x b=>a x ((hp x).2 b),fun a x b=>a x ((hp x).1 b)⟩
omit hh in
theorem NX.perm {l l':List (List AE)} {r:List AE×Bool} (H:NX h l r) (hp:∀x,x∈l↔x∈l'):NX h l' r:=H.congr fun X _=>A2c hp X
omit hh in
theorem Ql {a b:List AE}:(Dn h a b).1.length≤a.length+b.length:=by
 unfold Dn
 split
 ·rename_i e
  have:=(JW e).len
  cases c:D6 h (DJ h a b).1 with
  | none=>rw[Fu c];simp
  | some ty=>rw[Dq c,CG];exact this
 ·simp
omit hh in
theorem NX.vf {l:List (List AE)} {r:List AE×Bool} (H:NX h l r) (e:r.2=true):TU h l r.1:=by
 rcases H with ⟨-,b⟩|⟨a,-⟩
 ·exact b
 ·rw[a]at e;cases e
structure A4w (h:AI) (a b c:List AE):Prop where
 comm:Dn h b a=Dn h a b
 inf:GR h b (Al h a)=Dn h a b
 left:GR h c (Dn h a b)=GR h a (Dn h b c)
 all:vZ h [a,b,c]=GR h a (Dn h b c)
theorem A5C {a b c:List AE} (d:VF h a) (e:VF h b) (vc:VF h c) (la:a.length≤12) (m:b.length≤12) (n:c.length≤12):A4w h a b c:=by
 have hu:=hh.hu;have f:=LT hh d e (by omega);have i:=LT hh e vc (by omega);have h1:=Ql (h:=h) (a:=a) (b:=b);have j:=Ql (h:=h) (a:=b) (b:=c);have k:(Al h a).1.length≤a.length:=RZ h a;have g:=V0 hh d (l:=[b,c]) (by simp[e,vc]) i (by omega);refine⟨(LT hh e d (by omega)).perm (by simp;grind) |>.uniq hu f,(V0 hh e (l:=[a]) (by simp[d]) (TS hh d) (by omega)).perm (by simp;grind) |>.uniq hu f,(V0 hh vc (l:=[a,b]) (by simp[d,e]) f (by omega)).perm (by simp;grind) |>.uniq hu g,(A2b hh (by simp) (by simp[d,e,vc];omega) (by simp)).uniq hu g⟩
structure A4x (h:AI) (a b c:List AE):Prop where
 vf:(Dn h a b).2=true→VF h (Dn h a b).1
 l1:(Dn h a b).2=true→CY h (Dn h a b).1=0∧Hd h a (Dn h a b).1=true∧Hd h b (Dn h a b).1=true
 l2:CY h c=0→Hd h a c=true→Hd h b c=true→(Dn h a b).2=true∧Hd h (Dn h a b).1 c=true
theorem A5D {a b c:List AE} (g:VF h a) (i:VF h b) (vc:VF h c) (la:a.length≤12) (r:b.length≤12):A4x h a b c:=by
 have f:=LT hh g i (by omega);have q:=Ql (h:=h) (a:=a) (b:=b);refine⟨fun e=>(f.vf e).wt.1,fun e=>?_,fun j l m=>?_⟩
 ·have d:=f.vf e;obtain⟨n,o⟩:=I0.1 d.hom;refine⟨?_,(HE g d.wt.1).2 n,(HE i d.wt.1).2 (Gt.1 o)⟩;unfold CY;rw[At (jT hh.hu d.wt.1 (by omega))];exact Zc.2 d.wt.2
 ·have k:oG h [a,b] c:=I0.2 ⟨(HE g vc).1 l,Gt.2 ((HE i vc).1 m)⟩;rcases f with ⟨e,d⟩|⟨-,p⟩
  ·exact⟨e,(HE d.wt.1 vc).2 (d.least c ⟨vc,NQ j⟩ k)⟩
  ·exact(p c ⟨vc,NQ j⟩ k).elim
end
section
attribute [local go_sem] JT LP Vy NF qP oD
def oH:Ae:={ ins:=[FC,T55],pre:=fun _=>True,out:=fun _=>[.p .bool true] }
attribute [local go_sem] oH
theorem A2d:Ao Tryz.prog 11 oH:=by
 refine fKP [0,1,3,4,5,6,7,8,9,10,25,54,81] [14,25] [] Tryz.func11 Tryz.ntmps11 (AF NI (AF Ra (AF Zf (AF oE (AF RY (AF qQ AG)))))) ?_;rintro w0 O0 ⟨d,⟨a,b,c⟩,u⟩ h - -;simp only[oH,AM];have hh:=h14 d;have s:=r8 d;have t:=A5u (AP d);have f:Nr (AP d) [a,b,c]=true→(V14 (AP d) a∧VF (AP d) a)∧(V14 (AP d) b∧VF (AP d) b)∧(V14 (AP d) c∧VF (AP d) c):=fun e=>⟨JY e a (by simp),JY e b (by simp),JY e c (by simp)⟩;have l:Nr (AP d) [a,b,c]=true→A4x (AP d) a b c:=fun e=>A5D hh (f e).1.2 (f e).2.1.2 (f e).2.2.2 (f e).1.1.len (f e).2.1.1.len;repeat'(first|exact trivial|refine eS rfl ?_|refine AB ?_|refine rP h ?_ ?_|fail)
 refine Bu drawsAny h 12 [([0,1,6,7,8],9),([2,3],10),([4,5],11)] [] (by kernel_rfl) (Jr ?_ ?_)
 ·trivial
 ·refine Ld h [] ?_ ?_
  ·trivial
  ·refine Jr ?_ ?_
   ·trivial
   ·refine Ld h [] ?_ ?_
    ·trivial
    ·refine Jr ?_ ?_
     ·trivial
     ·refine Ld h [] ?_ ?_
      ·trivial
      ·refine Ow h ?_ ?_ ?_
       ·trivial
       ·trivial
       ·repeat'(first|exact trivial|refine eS rfl ?_|refine AB ?_|refine rX h ?_ ?_|refine rC ?_ ?_<;>intro g<;>try(cases g;done))
        ·exact fI h [.tmp 4]
        ·exact⟨⟨hh,s⟩,(f g).1.2,(f g).2.1.2,by have:=(f g).1.1.len;have:=(f g).2.1.1.len;omega⟩
        ·have q:=l g;obtain⟨⟨-,i⟩,⟨-,j⟩,-⟩:=f g;have k:∀ {x:Bool},((Dn (AP d) a b).2&&x)=true→VF (AP d) (Dn (AP d) a b).1:=fun e=>q.vf (AT _ _▸e).1;exact⟨fun e=>⟨hh.ft,Mn hh.hu (q.vf e)⟩,fun e=>⟨i.good,i.pos,(k e).good,(k e).pos,i.ty,(k e).ty⟩,fun e=>⟨j.good,j.pos,(k e).good,(k e).pos,j.ty,(k e).ty⟩⟩
        ·obtain⟨c1,c2,m⟩:=(l (by assumption)).l1 g.1;rcases g.2 with (e|e)|e
         ·exact absurd c1 e
         ·exact absurd (c2.symm.trans e) (by simp)
         ·exact absurd (m.symm.trans e) (by simp)
        ·have q:=l (by assumption);obtain⟨⟨-,i⟩,⟨-,j⟩,-,vc⟩:=f (by assumption);have k:∀ {x:Bool},(x&&!!(Dn (AP d) a b).2)=true→VF (AP d) (Dn (AP d) a b).1:=fun e=>q.vf (by rw[AT,Bool.not_not]at e;exact e.2);exact⟨⟨hh.ft,Mn hh.hu vc⟩,fun _=>⟨i.good,i.pos,vc.good,vc.pos,i.ty,vc.ty⟩,fun _=>⟨j.good,j.pos,vc.good,vc.pos,j.ty,vc.ty⟩,fun e=>⟨(k e).good,(k e).pos,vc.good,vc.pos,(k e).ty,vc.ty⟩⟩
        ·obtain⟨⟨⟨n,o⟩,p⟩,r⟩:=g;obtain⟨c1,c2⟩:=(l (by assumption)).l2 n o p;rcases r with e|e
         ·exact absurd (c1.symm.trans e) (by simp)
         ·exact absurd (c2.symm.trans e) (by simp)
        ·exact fI h [.tmp 4]
end
section
attribute [local go_sem] oD
theorem Ew {h:AI} (hh:j6 h) (a:List AE) (r:List AE×Bool):B2 (GR h a r).1:=by
 unfold GR;split
 ·exact NR hh _ _
 ·exact⟨by simp,by simp⟩
theorem Zg {h:AI} (hh:j6 h) {f:List AE} (b:VF h f):B2 (Al h f).1:=by
 cases a:D6 h f with
 | none=>rw[Fu a];exact⟨by simp,by simp⟩
 | some ty=>rw[Dq a];exact(Iy hh b a).1.small
theorem A45 {h:AI} (hh:j6 h) {a b c:List AE} (g:VF h a) (i:VF h b) (vc:VF h c) (la:a.length≤12) (j:b.length≤12) (k:c.length≤12):((Rn h [a,b,c]).2=true→VF h (Rn h [a,b,c]).1)∧((Rn h [a,b,c]).2=false→(Rn h [a,b,c]).1=[]):=by
 rcases rZ hh.hu (l:=[a,b,c]) (by simp) (by simp[g,i,vc];omega) (by simp) with ⟨e,f⟩|⟨e,-⟩
 ·exact⟨fun _=>f.vf,fun d=>by rw[e]at d;cases d⟩
 ·rw[e];exact⟨fun d=>(by cases d),fun _=>rfl⟩
noncomputable def Zh:Ae:={ ins:=[Ga,E0,E0,.bool],pre:=fun(h,a,b,o,_)=>(j6 h∧vS h)∧VF h a∧((o:Bool)=true→VF h b)∧List.length a+List.length b≤100,out:=fun(h,a,b,o,_)=>[.p E0 (GR h a (b,o)).1,.p .bool (GR h a (b,o)).2] }
attribute [local go_sem] Zh
theorem A2e:Ao Tryz.prog 29 Zh:=by
 refine fK [0,1,2,3,4,5,6,8,9,11] Tryz.func29 Tryz.ntmps29 (AF oE AG) ?_;rintro w0 O0 ⟨h,a,b,o,u⟩ d-⟨⟨hh,f⟩,g,i,e⟩;have hh:j6 h:=hh;have f:vS h:=f;have g:VF h a:=g;have i:o=true→VF h b:=i;have e:a.length+b.length≤100:=e;simp only[Zh,AM];repeat'(first|exact trivial|refine eS rfl ?_|refine AB ?_|refine rX d ?_ ?_|refine rC ?_ ?_<;>intro c<;>try(cases c;done))
 ·exact fI d [.cell 8 25,.tmp 9] (by unfold GR;rw[c,As ABF];exact eR)
 ·exact⟨⟨hh,f⟩,g,i c,e⟩
 ·exact fI d [.cell 8 25,.tmp 9] (by unfold GR;rw[c,At rfl];exact eR)
end
section
attribute [local go_sem] JT LP Vy Oj oD Zh A5z LN
def oI:Ae:={ ins:=[FC,T55],pre:=fun _=>True,out:=fun _=>[.p .bool true] }
attribute [local go_sem] oI
theorem A2f:Ao Tryz.prog 9 oI:=by
 refine fKP [0,1,3,4,5,6,7,8,9,10,11,12,13,14,15,16,17,18,19,20,21,22,23,24,39,88,121] [14,37,117] [] Tryz.func9 Tryz.ntmps9 (AF NI (AF Ra (AF Zf (AF oE (AF Mh (AF A2e (AF A5A (AF QG AG)))))))) ?_;rintro w0 O0 ⟨d,⟨a,b,c⟩,u⟩ g - -;simp only[oI,AM];have hh:=h14 d;have l:=r8 d;have r:=A5u (AP d);have j:Nr (AP d) [a,b,c]=true→(V14 (AP d) a∧VF (AP d) a)∧(V14 (AP d) b∧VF (AP d) b)∧(V14 (AP d) c∧VF (AP d) c):=fun e=>⟨JY e a (by simp),JY e b (by simp),JY e c (by simp)⟩;have s:Nr (AP d) [a,b,c]=true→A4w (AP d) a b c:=fun e=>A5C hh (j e).1.2 (j e).2.1.2 (j e).2.2.2 (j e).1.1.len (j e).2.1.1.len (j e).2.2.1.len;repeat'(first|exact trivial|refine eS rfl ?_|refine AB ?_|refine rP g ?_ ?_|fail)
 refine Bu drawsAny g 12 [([0,1,6,7,8],9),([2,3],10),([4,5],11)] [] (by kernel_rfl) (Jr ?_ ?_)
 ·trivial
 ·refine Ld g [] ?_ ?_
  ·trivial
  ·refine Jr ?_ ?_
   ·trivial
   ·refine Ld g [] ?_ ?_
    ·trivial
    ·refine Jr ?_ ?_
     ·trivial
     ·refine Ld g [] ?_ ?_
      ·trivial
      ·refine Ow g ?_ ?_ ?_
       ·trivial
       ·trivial
       ·repeat'(first|exact trivial|refine eS rfl ?_|refine AB ?_|refine rX g ?_ ?_|refine rC ?_ ?_<;>intro f<;>try(cases f;done))
        ·exact fI g [.tmp 4]
        all_goals
         obtain⟨⟨v1,k⟩,⟨x,i⟩,y,vc⟩:=j (by assumption);have q:=s (by assumption);have l1:=v1.len;have l2:=x.len;have l3:=y.len;have z:=Ql (h:=AP d) (a:=a) (b:=b);have A:=Ql (h:=AP d) (a:=b) (b:=c);have B:=RZ (AP d) a;have m:=A45 hh k i vc l1 l2 l3;have t:=q.comm;have v:GR (AP d) b ((Al (AP d) a).1,(Al (AP d) a).2)=Dn (AP d) a b:=q.inf;have o:GR (AP d) c ((Dn (AP d) a b).1,(Dn (AP d) a b).2)=GR (AP d) a ((Dn (AP d) b c).1,(Dn (AP d) b c).2):=q.left;have p:vZ (AP d) [a,b,c]=GR (AP d) a ((Dn (AP d) b c).1,(Dn (AP d) b c).2):=q.all;have s1:=fun e=>(LT hh k i (by omega)).vf e;have s2:=fun e=>(LT hh i vc (by omega)).vf e;have w:=fun e=>(TS hh k).vf e;simp only[r]at *
        ·exact⟨⟨hh,l⟩,k,i,by omega⟩
        ·exact⟨⟨hh,l⟩,i,k,by omega⟩
        ·exact v1.inf
        ·exact⟨⟨hh,l⟩,i,fun e=>(w e).wt.1,by omega⟩
        ·exact⟨fun _=>⟨NR hh _ _,NR hh _ _⟩,fun _=>⟨NR hh _ _,Ew hh _ _⟩⟩
        ·simp only[t,v,Ck]at f;simp at f
        ·exact⟨⟨hh,l⟩,i,vc,by omega⟩
        ·exact⟨⟨hh,l⟩,vc,fun e=>(s1 e).wt.1,by omega⟩
        ·exact⟨⟨hh,l⟩,k,fun e=>(s2 e).wt.1,by omega⟩
        ·exact⟨hh.hu,by simp[k,i,vc];omega⟩
        ·exact A29 hh (m.1 f)
        ·exact⟨fun _=>⟨Ew hh _ _,Ew hh _ _⟩,fun _=>⟨Ew hh _ _,Zg hh (m.1 f)⟩⟩
        ·have n:Al (AP d) (Rn (AP d) [a,b,c]).1=GR (AP d) a ((Dn (AP d) b c).1,(Dn (AP d) b c).2):=by rw[←p];unfold vZ;rw[f,At rfl]
         exact fI g [.tmp 4] (by rw[o,n,Ck];exact eR)
        ·exact⟨fun _=>⟨Ew hh _ _,Ew hh _ _⟩,fun _=>⟨Ew hh _ _,by rw[m.2 f];exact⟨by simp,by simp⟩⟩⟩
        ·have n:GR (AP d) a ((Dn (AP d) b c).1,(Dn (AP d) b c).2)=([],false):=by rw[←p];unfold vZ;rw[f,As ABF]
         exact fI g [.tmp 4] (by rw[o,n,f,m.2 f,Ck];exact eR)
end
end Go.Proofs.YtdapahgnpbehbaaGreat.Fw
