/- Contracts of the program's and the reference's functions, and the plain laws of what they compute: D3 W5 U1 U2 U3 U4 U5 U6 U7 U8 U9 U10 U11 U12 N8 N9 V1 V2 V4 V5 V6 V9 V10 T19 T20 T22 T24 W6 T26 U14 W7 T27 SN T32 T21 T23 T25 U13 V3 V11 V7 V8 T28 T34 T17 T18 L25 U17 H4 V14 L21 T30 W10. -/
import Derived.Test.YtdapahgnpbehbaaGreatKYC
import Derived.Test.YtdapahgnpbehbaaGreatKZI
import Derived.Test.YtdapahgnpbehbaaGreatKYA
import Derived.Test.YtdapahgnpbehbaaGreatKYB
import Derived.Laws.Strings
set_option linter.unusedVariables false
set_option linter.unusedSimpArgs false
namespace Go.Proofs.YtdapahgnpbehbaaGreat.Fw
open Go
attribute [local irreducible] Ev
attribute [local go_sem] WF AM List.toList_toArray Bt evG evK Sw ER JR FT Ek Fk NI Jk CB Cl KP B1 Ca frz Y9 GE C0 A4 FC BT AV.frz AV.frzs AV.drp AV.drps AV.names AV.namess aq GF Jj JI QE Hq BQ BU Im EJ HS EK HV HT HW R8 NB GG Io FE Dl R9 OQ tQ Ip Ht KK Ex DZ Hu JK Dw QF CS Dx EY OT Hv OU LB Hw JL Ck CZ E2 Da G9 DF EZ DG Dy E1 B1 CY OK OM Lg Fi Hs Hr JJ Lh NE LC KO KM JO OV KN JP Va NH NF AV.trn AV.trns Dk CR Obj.trn I2 X9 Cv DH Cu Dz CM Ea Ae lk Ga F6 G7 tZ Y8 Su ZB OP mI mJ pfs AV.cells B9 Ik NW JN ND CL Le Ty.cell1 HR EX DY Fh KJ EI Ji LA OL EW Gh Ld QD R6 LX Jh VX Xl OO Lf Cj Il RV.flat Ty.flat Ty.size St.add upd del BZ Value.oneCell' KH Ty.dflt HQ Mb Gk Mh List.take_succ_cons List.take_zero List.length_cons WM WN Mg H9 Ju GM Hk pY El KY KZ Ka Kb Nh Ni Iw Hb QP Option.map_some Option.map_none Option.bind_some Option.getD_some Option.getD_none Option.isNone_none Option.isNone_some Bool.and_true Bool.true_and Bool.and_false Bool.false_and Bool.not_true Bool.not_false if_true if_false List.length_cons List.length_nil and_true true_and and_self List.all_cons List.all_nil List.append_nil List.nil_append List.cons_append List.getElem?_cons_zero List.getElem?_cons_succ List.getElem?_nil List.map_cons List.map_nil List.set_cons_zero List.set_cons_succ List.isEmpty_nil List.isEmpty_cons decide_true decide_false beq_self_eq_true bne_self_eq_false Nat.zero_add Nat.add_zero Nat.sub_zero Int.toNat_natCast Int.toNat_zero Int.toNat_one List.take_length List.length_append List.length_singleton true_or or_true or_self false_or or_false Ty.agg.injEq Ty.slice.injEq Ty.prod.injEq Ty.int.injEq Option.some.injEq beq_iff_eq Kd evMG evMQ tR HC LH B0 Iy GL NM Ix HB Hc Iz Jt Lr Lt Ls QQ Js Md Me Hj AX Af Op.operands Call.operands List.filterMap_cons List.filterMap_nil List.append_eq Bool.cond_false_right Bool.cond_true_left cond_true cond_false implies_true decide_eq_true_eq beq_true beq_false Bool.or_true Bool.or_false Bool.true_or Bool.false_or Option.isSome_some Array.empty_append List.append_toArray FD KQ Eb HK VZ NC E0 FM FL Hx G8 JM KL Sv ZA JH inB JQ E9 Fj Hy Ao WO List.drop_zero DS HO Ve Cn Ki Bi AV.fgt AV.fgts Obj.fgt Ad Au AX Dg LY Bh IA List.any_cons List.any_nil iJ X5 Vf X6 LZ Ox qs List.flatMap_cons List.flatMap_nil List.cons_append tn Vg I3 List.take_succ_cons List.drop_succ_cons Vh HE Bn Zo Jw CT Cm Ak E4 JV Bx Ed Db HA Ha GK H8
attribute [local go_sem] JY jQ ty3 ty4 ty5 ty9 v9 wA wB wC wD wE wF wG wH wI wJ wK wL wM wN wO wP wQ wR wS wT wU wV wW wX wY wZ w3 w4 w5 w7 w8 w9 xA xB xC xD xE xF xG xH xI xJ xK xL xM xN xO xP xQ xR xS xT xU xV xW xX xY xZ x5 x6 x7 x8 x9 yA yB yC yD yE yF yG yH yI yJ Zv Zw Zx Zy Zz Z0 Z1 Z2 Z3 Z4 Z5 Z6 Z7 Z8 Z9 aA aB aC aD aE aF aG aH aI aJ aK aL aM aN aO aP aQ aR aU aV aW aX aY aZ a9 bA bB bC bD bE bF bG bH bI bJ bK bL bM bN bO bP bQ bR bS bT bU bV bW bX bZ b4 b5 b6 b7 b8 b9 cA cB cC cE cF cG cH cI cJ cK cL cM cN cO cQ cR cS cU cV cW cX cZ c6 c7 c8 c9 dA dB dC dD dE dF dG dH dI dJ dK dL dM dN dP dQ dR dS dT dU dV dW
set_option maxRecDepth 100000
set_option maxHeartbeats 4000000
section
attribute [local go_sem] XH So
def JE (n i:Nat):List Int:=(List.range n).map fun j=>if j<i then -1 else 0
theorem tA (n i:Nat):(JE n i).length=n:=by simp[JE]
theorem lR (n:Nat):JE n 0=List.replicate n 0:=by
 apply AA8
 ·simp[JE]
 ·intro j h1 a;simp[JE]
theorem tB (n i:Nat):(JE n i).set i (-1)=JE n (i+1):=by
 apply AA8
 ·simp[JE]
 ·intro j h1 b;simp only[JE,ACD,ABk,ABo];split
  ·rename_i e;rw[BY (by omega)]
  ·rename_i e;by_cases a:j<i
   ·rw[BY a,BY (by omega)]
   ·rw[At a,At (by omega)]
theorem tC (n:Nat):JE n n=List.replicate n (-1):=by
 apply AA8
 ·simp[JE]
 ·intro j h1 a;simp only[JE,ABk,ABo,List.getElem_replicate];rw[BY (by simpa[JE] using h1)]
def MO (bl:List (Int×Int)) (m:List Int) (x:Int×Int):Bool:=decide (FK bl x.1<0)||decide (0≤m.getD x.2.toNat 0)&&!(m.getD x.2.toNat 0==FK bl x.1)
def Es (bl:List (Int×Int)):List (Int×Int)→List Int→Option (List Int)
 | [],m=>some m
 | x :: l,m=>if MO bl m x=true then none else Es bl l (m.set x.2.toNat (FK bl x.1))
def Hf (h:AJ) (b:List AF) (n:AF) (k:Int):Bool:=decide (k<0)||!A8 h n.1 (b.getD k.toNat (0,[])).1
def F2 (h:AJ) (b:List AF):List AF→Nat→List Int→Option (List Int)
 | [],_,m=>some m
 | n :: r,i,m=>if Hf h b n (m.getD i 0)=true then none else match Es (b.getD (m.getD i 0).toNat (0,[])).2 n.2 m with
  | none=>none
  | some a=>F2 h b r (i+1) a
def Yp (h:AJ) (a b:List AF):Option (List Int):=F2 h b a 0 ((List.replicate a.length (-1)).set 0 0)
theorem Yq (bl l:List (Int×Int)) (m:List Int) {k:Nat} (h:k<l.length):Es bl (l.drop k) m=if MO bl m (l.getD k (0,0))=true then none else Es bl (l.drop (k+1)) (m.set (l.getD k (0,0)).2.toNat (FK bl (l.getD k (0,0)).1)):=by
 rw[OS h];have e:l.getD k (0,0)=l[k]:=by simp[AS,h]
 rw[e];rfl
theorem Je (h:AJ) (b a:List AF) (m:List Int) {i:Nat} (hi:i<a.length):F2 h b (a.drop i) i m=if Hf h b (a.getD i (0,[])) (m.getD i 0)=true then none else match Es (b.getD (m.getD i 0).toNat (0,[])).2 (a.getD i (0,[])).2 m with
  | none=>none
  | some c=>F2 h b (a.drop (i+1)) (i+1) c:=by
 rw[OS hi];have e:a.getD i (0,[])=a[i]:=by simp[AS,hi]
 rw[e];rfl
structure Yr (a b:List AF) (m:List Int):Prop where
 len:m.length=a.length
 rng:∀x∈m,x<(b.length:Int)
theorem Ys {n:Int} (hn:0≤n):∀ {l:List (Int×Int)} (e:Int),(∀x∈l,x.2<n)→FK l e<n
 | [],_,_=>by simp only[FK];omega
 | x :: l,e,h=>by
  simp only[FK];split
  ·exact h x (by simp)
  ·exact Ys hn e (fun y a=>h y (by simp[a]))
theorem Yr.set {a b:List AF} {m:List Int} (h:Yr a b m) (k:Nat) {v:Int} (d:v<(b.length:Int)):Yr a b (m.set k v):=by
 refine⟨by simp[h.len],fun x c=>?_⟩;rcases AAT c with c|c
 ·exact h.rng x c
 ·rw[c];exact d
theorem Yr.get {a b:List AF} {m:List Int} (h:Yr a b m) (c:0<b.length) (k:Nat):m.getD k 0<(b.length:Int):=by
 rw[AS];cases hh:m[k]? with
 | none=>show (0:Int)<_;omega
 | some x=>exact h.rng x (AAe hh)
def Uw (h:AJ) (f:List AF):Prop:=∀x∈f,0≤x.1∧x.1<(h.1.length:Int)
theorem Pr {f:List AF} (hf:A2 f) (k:Nat):∀x∈(f.getD k (0,[])).2,0≤x.2∧x.2<(f.length:Int):=by
 intro x a;by_cases h:k<f.length
 ·exact(hf.2 _ (AD f (0,[]) h)).2 x a
 ·rw[AS,gO (by omega)]at a;cases a
def A3L:Ac:={ ins:=[Lb,FZ,FZ],pre:=fun(h,a,b,_)=>A2 a∧0<List.length a∧A2 b∧0<List.length b∧Uw h a∧Uw h b,out:=fun(h,a,b,_)=>[.p I4 ((Yp h a b).getD []),.p .bool (Yp h a b).isSome] }
attribute [local go_sem] A3L
theorem A3M:Ah Tryz.prog 55 A3L:=by
 refine fK [0,1,2,3,4,5,6,7,8,9,10,11,12,13,15,16,22,23,24,33,34,35,36,58,60,61,62,63,92,101] Tryz.func55 Tryz.ntmps55 (AE n8 (AE s9 AG)) ?_;rintro w0 O0 ⟨⟨e,hf⟩,a,b,u⟩ n-⟨A,J,L,D,S,T⟩;have W:=A.1;simp only[A3L,AM];repeat'(first|exact trivial|refine eS rfl ?_|refine AB ?_|refine rX n ?_ ?_|refine rC ?_ ?_<;>intro c<;>try(cases c;done))
 refine Ev.ent (σ':=⟨[(3,.bp 3 [] 0),(4,.bp 4 [] 0),(5,.bp 5 [] 0)],[(3,.box 31 true [.p M6 e,.p Nq hf]),(4,.box 25 true [.p Et a]),(5,.box 25 true [.p Et b])]⟩) ?_ (AC [(3,.nm 3),(4,.nm 4),(5,.nm 5)] rfl rfl ?_ ?_)
 ·refine vX vZ ?_;repeat'(first|exact trivial|refine eS rfl ?_|refine AB ?_|refine rX n ?_ ?_|refine rC ?_ ?_<;>intro c<;>try(cases c;done))
  ·simp only[AO];omega
  ·refine AI (ι:={i:Nat//i≤a.length}) (fun i=>⟨[(3,.bp 3 [] 0),(4,.bp 4 [] 0),(5,.bp 5 [] 0),(8,.sr 20 T3 0 a.length),(22,.p (.int .i64) (a.length:Int)),(23,.p (.int .i64) (i.1:Int))],[(3,.box 31 true [.p M6 e,.p Nq hf]),(4,.box 25 true [.p Et a]),(5,.box 25 true [.p Et b]),(20,.arr 3 T3 (JE a.length i.1))]⟩) (fun i=>a.length-i.1) ⟨0,IN _⟩ (AC [(3,.nm 3),(4,.nm 4),(5,.nm 5),(20,.nm 20)] rfl rfl ?_ ?_) (fun i=>?_)
   ·first|exact eN|refine eM ?_
    rw[lR]
   ·first|exact eN|refine eM ?_
   ·obtain⟨i,hi⟩:=i;have Y:=tA a.length i;simp only;repeat'(first|exact trivial|refine eS rfl ?_|refine AB ?_|refine rX n ?_ ?_|refine rC ?_ ?_<;>intro c<;>try(cases c;done))
    ·exact c
    ·omega
    ·have f:i<a.length:=IS.1 c;refine⟨⟨i+1,f⟩,by simp only;omega,AC [(3,.nm 3),(4,.nm 4),(5,.nm 5),(20,.nm 20)] rfl rfl ?_ ?_⟩
     ·simp only[←tB];first|exact eN|refine eM ?_
     ·first|exact eN|refine eM ?_
    ·exact IS.2 J
    ·have f:i=a.length:=by omega
     subst f;rw[tC];have P:Yr a b ((List.replicate a.length (-1)).set 0 0):=Yr.set ⟨by simp,fun x q=>by rw[(List.mem_replicate.1 q).2];omega⟩ 0 (by omega);have Q:Yp (e,hf) a b=F2 (e,hf) b (a.drop 0) 0 ((List.replicate a.length (-1)).set 0 0):=rfl;generalize (List.replicate a.length (-1:Int)).set 0 0=U at *;refine vY ?_;repeat'(first|exact trivial|refine eS rfl ?_|refine AB ?_|refine rX n ?_ ?_|refine rC ?_ ?_<;>intro c<;>try(cases c;done))
     refine AI (ι:={x:Nat×List Int//x.1≤a.length∧Yr a b x.2∧F2 (e,hf) b (a.drop x.1) x.1 x.2=Yp (e,hf) a b}) (fun x=>⟨[(3,.bp 3 [] 0),(5,.bp 5 [] 0),(8,.sr 20 T3 0 a.length),(10,.p .bool true),(33,.p Et a),(34,.p (.int .i64) (a.length:Int)),(35,.p (.int .i64) (x.1.1:Int))],[(3,.box 31 true [.p M6 e,.p Nq hf]),(5,.box 25 true [.p Et b]),(20,.arr 3 T3 x.1.2)]⟩) (fun x=>a.length-x.1.1) ⟨(0,U),IN _,P,Q.symm⟩ (AC [(3,.nm 3),(5,.nm 5),(20,.nm 20)] rfl rfl ?_ ?_) (fun x=>?_)
     ·first|exact eN|refine eM ?_
     ·first|exact eN|refine eM ?_
     ·obtain⟨⟨i,m⟩,hi,s,d⟩:=x;simp only at hi s d;have R:=s.len;have G:=fun h:i<a.length=>Je (e,hf) b a m h;simp only;repeat'(first|exact trivial|refine eS rfl ?_|refine AB ?_|refine rX n ?_ ?_|refine rC ?_ ?_<;>intro c<;>try(cases c;done))
      ·exact c
      ·exact c
      ·have f:i<a.length:=IS.1 c;have hk:=s.get D i;refine⟨fun h=>⟨by simpa using h,hk⟩,fun h=>⟨S _ (AD a (0,[]) f),T _ (AD b (0,[]) ?_)⟩⟩;have:(0:Int)≤m.getD i 0:=by simpa using h
       omega
      ·have f:i<a.length:=IS.1 (by assumption);have w:Hf (e,hf) b (a.getD i (0,[])) (m.getD i 0)=true:=by
        unfold Hf;rw[iN,By,OF];assumption
       rw[G f,BY w]at d;exact fI n [.tmp 6,.tmp 7] (by rw[←d];first|exact eR|refine Zr ?_;first|rfl|exact⟨rfl,rfl⟩)
      ·have f:i<a.length:=IS.1 (by assumption);have w:¬Hf (e,hf) b (a.getD i (0,[])) (m.getD i 0)=true:=by
        unfold Hf;rw[iN,By,OF];rintro (h|h)
        ·have:=c.1;omega
        ·rw[show A8 (e,hf) (a.getD i (0,[])).1 (b.getD (m.getD i 0).toNat (0,[])).1=true from c.2]at h;cases h
       rw[G f,At w]at d;have N:(0:Int)≤m.getD i 0:=c.1;have O:=s.get D i;have K:(a.getD i (0,[])).2.length≤100000:=(A.2 _ (AD a (0,[]) f)).1;have F:=Pr A i;have E:=Pr L (m.getD i 0).toNat;have Z:((m.getD i 0).toNat:Int)=m.getD i 0:=by omega
       generalize aa:m.getD i 0=r at *;have X:(b.getD r.toNat (0,[])).2=(b.getD r.toNat (0,[])).2:=rfl;generalize t:(b.getD r.toNat (0,[])).2=bl at d E;generalize V:(a.getD i (0,[])).2=l at d K F;refine AI (ι:={y:Nat×List Int//y.1≤l.length∧Yr a b y.2∧Es bl (l.drop y.1) y.2=Es bl l m}) (fun y=>⟨[(3,.bp 3 [] 0),(5,.bp 5 [] 0),(8,.sr 20 T3 0 a.length),(10,.p .bool true),(13,.p T3 r),(33,.p Et a),(34,.p (.int .i64) (a.length:Int)),(35,.p (.int .i64) (i:Int)),(60,.p Ii l),(61,.p (.int .i64) (l.length:Int)),(62,.p (.int .i64) (y.1.1:Int))],[(3,.box 31 true [.p M6 e,.p Nq hf]),(5,.box 25 true [.p Et b]),(20,.arr 3 T3 y.1.2)]⟩) (fun y=>l.length-y.1.1) ⟨(0,m),IN _,s,rfl⟩ (AC [(3,.nm 3),(5,.nm 5),(20,.nm 20)] rfl rfl ?_ ?_) (fun y=>?_)
       ·first|exact eN|refine eM ?_
       ·first|exact eN|refine eM ?_
       ·obtain⟨⟨j,o⟩,M,v,g⟩:=y;simp only at M v g;have ab:=v.len;have C:=fun h:j<l.length=>Yq bl l o h;have q:=fun h:j<l.length=>F _ (AD l (0,0) h);have H:FK bl (l.getD j (0,0)).1<(b.length:Int):=Ys (oN _) _ fun x q=>(E x q).2;have B:MO bl o (l.getD j (0,0))=(decide (FK bl (l.getD j (0,0)).1<0)||decide (0≤o.getD (l.getD j (0,0)).2.toNat 0)&&!(o.getD (l.getD j (0,0)).2.toNat 0==FK bl (l.getD j (0,0)).1)):=rfl;rw[←t]at C B g H;simp only;repeat'(first|exact trivial|refine eS rfl ?_|refine AB ?_|refine rX n ?_ ?_|refine rC ?_ ?_<;>intro c<;>try(cases c;done))
        ·exact c
        ·exact⟨N,O⟩
        ·have k:j<l.length:=IS.1 c;exact⟨fun _=>q k,fun _=>q k⟩
        ·have k:j<l.length:=IS.1 (by assumption);have z:MO (b.getD r.toNat (0,[])).2 o (l.getD j (0,0))=true:=by
          rw[B,iN,An,By,By,OF,AAK];assumption
         rw[C k,BY z]at g;rw[t]at g;rw[←g]at d;have d:none=Yp (e,hf) a b:=d;exact fI n [.tmp 6,.tmp 7] (by rw[←d];first|exact eR|refine Zr ?_;first|rfl|exact⟨rfl,rfl⟩)
        ·have k:j<l.length:=IS.1 (by assumption);exact q k
        ·omega
        ·have k:j<l.length:=IS.1 (by assumption);have z:¬MO (b.getD r.toNat (0,[])).2 o (l.getD j (0,0))=true:=by
          rw[B,iN,An,By,By,OF,AAK];rintro (h|⟨h1,I⟩)
          ·exact absurd c.1 (Int.not_le.2 h)
          ·have:=c.2 h1;rw[bne_eq_false_iff_eq]at this;exact I this
         rw[C k,At z]at g;refine⟨⟨(j+1,o.set (l.getD j (0,0)).2.toNat (FK (b.getD r.toNat (0,[])).2 (l.getD j (0,0)).1)),k,v.set _ H,by rw[t]at g ⊢;exact g⟩,by simp only;omega,AC [(3,.nm 3),(5,.nm 5),(20,.nm 20)] rfl rfl ?_ ?_⟩
         ·first|exact eN|refine eM ?_
         ·first|exact eN|refine eM ?_
        ·omega
        ·have k:j=l.length:=by omega
         subst k;rw[ABl]at g;have g:some o=Es bl l m:=by rw[←t];exact g
         rw[←g]at d;refine⟨⟨(i+1,o),f,v,d⟩,by simp only;omega,AC [(3,.nm 3),(5,.nm 5),(20,.nm 20)] rfl rfl ?_ ?_⟩
         ·first|exact eN|refine eM ?_
         ·first|exact eN|refine eM ?_
      ·have f:i=a.length:=by exact eV
       subst f;rw[ABl]at d;have d:some m=Yp (e,hf) a b:=d;refine GP [20] ?_;exact fI n [.tmp 6,.tmp 7] (by rw[←d];first|exact eR|refine Zr ?_;exact As (by rw[R];exact NO _))
 ·first|exact eN|refine eM ?_
 ·first|exact eN|refine eM ?_
def Rz (h:AJ) (a b:List AF):Bool:=(Yp h a b).isSome
def A0m:Ac:={ ins:=[Lb,FZ,FZ],pre:=fun(h,a,b,_)=>A2 a∧0<List.length a∧A2 b∧0<List.length b∧Uw h a∧Uw h b,out:=fun(h,a,b,_)=>[.p .bool (Rz h a b)],lend:=true }
theorem A2s:Ah Tryz.prog 23 A0m:=by
 refine fK [0,1,2,3,4,5,6,8] Tryz.func23 Tryz.ntmps23 (AE A3M AG) ?_;rintro w0 O0 ⟨⟨e,hf⟩,a,b,u⟩ c-hp;simp only[A0m,AM];repeat'(first|exact trivial|refine eS rfl ?_|refine AB ?_|refine rX c ?_ ?_|refine rC ?_ ?_<;>intro d<;>try(cases d;done))
 ·exact hp
 ·exact fI c [.tmp 6] (by unfold Rz;exact eR)
end
structure Hom (h:AJ) (a b:List AF) (m:Int→Int):Prop where
 zero:m 0=0
 rng:∀i,0≤i→i<(a.length:Int)→0≤m i∧m i<(b.length:Int)
 ty:∀i,0≤i→i<(a.length:Int)→A8 h (a.getD i.toNat (0,[])).1 (b.getD (m i).toNat (0,[])).1=true
 arc:∀i,0≤i→i<(a.length:Int)→∀x∈Bz a i,FK (Bz b (m i)) x.1=m x.2
theorem A0n {l:List (Int×Int)} (h:l.Pairwise (fun a b=>a.1<b.1)) {a:Int×Int} (ha:a∈l):FK l a.1=a.2:=by
 induction l with
 | nil=>cases ha
 | cons b l d =>
  obtain⟨h1,c⟩:=AB9.1 h;simp only[FK];rcases GO.1 ha with rfl|ha
  ·rw[BY rfl]
  ·rw[At (by have:=h1 a ha;omega)];exact d c ha
theorem A0o {f:List AF} (hs:M7 f) {n:Int} {a:Int×Int} (ha:a∈Bz f n):FK (Bz f n) a.1=a.2:=A0n (A0l hs n) ha
def RO (f:List AF):Prop:=∀i:Int,0<i→i<(f.length:Int)→∃j,0≤j∧j<i∧∃x∈Bz f j,x.2=i
structure MH (a:List AF) (m:Int→Int) (M:List Int):Prop where
 len:M.length=a.length
 val:∀k:Nat,k<a.length→M.getD k 0=-1∨M.getD k 0=m (k:Int)
theorem Gf {M:List Int} {k j:Nat} {v:Int} (hk:k<M.length):(M.set k v).getD j 0=if k=j then v else M.getD j 0:=by
 by_cases h:k=j
 ·subst h;rw[BY rfl,Vs _ _ _ hk]
 ·rw[At h,getD_set_ne _ _ _ h]
theorem gP {a:List AF} (ha:A2 a) {m:Int→Int} {n:Int} (s:∀i,0≤i→i<(a.length:Int)→0≤m i) {bl:List (Int×Int)}:∀ {l:List (Int×Int)} {M:List Int},(∀x∈l,x∈Bz a n)→(∀x∈l,FK bl x.1=m x.2)→MH a m M →
  ∃c,Es bl l M=some c∧MH a m c∧(∀k:Nat,k<a.length→M.getD k 0=m (k:Int)→c.getD k 0=m (k:Int))∧∀x∈l,c.getD x.2.toNat 0=m x.2
 | [],M,_,_,h=>⟨M,rfl,h,fun _ _ h=>h,fun x d=>by cases d⟩
 | x :: l,M,r,t,h=>by
  have hr:=D9 ha (r x (by simp));have d:=t x (by simp);have E:=s x.2 hr.1 hr.2;have o:x.2.toNat<a.length:=by omega
  have j:((x.2.toNat:Nat):Int)=x.2:=by omega
  have f:=h.val x.2.toNat o;rw[j]at f;have B:¬MO bl M x=true:=by
   unfold MO;rw[iN,An,By,By,OF,AAK,d];rintro (g|⟨D,z⟩)
   ·omega
   ·rcases f with f|f
    ·omega
    ·exact z f
  have A:MH a m (M.set x.2.toNat (FK bl x.1)):=by
   refine⟨by rw[AAd];exact h.len,fun k hk=>?_⟩;rw[Gf (by rw[h.len];exact o)];split
   ·rename_i e;right;rw[d,←e,j]
   ·exact h.val k hk
  obtain⟨c,u,v,p,w⟩:=gP ha s (l:=l) (fun y b=>r y (by simp[b])) (fun y b=>t y (by simp[b])) A;refine⟨c,?_,v,fun k hk C=>p k hk ?_,fun y b=>?_⟩
  ·simp only[Es];rw[At B];exact u
  ·rw[Gf (by rw[h.len];exact o)];split
   ·rename_i e;rw[d,←e,j]
   ·exact C
  ·rcases GO.1 b with rfl|b
   ·have q:=p y.2.toNat o (by rw[Gf (by rw[h.len];exact o),BY rfl,d,j]);rw[j]at q;exact q
   ·exact w y b
theorem XU {h:AJ} {a b:List AF} (ha:A2 a) (v:RO a) {m:Int→Int} (d:Hom h a b m):∀(r i:Nat) (M:List Int),r+i=a.length→MH a m M→(0<a.length→M.getD 0 0=0) →
  (∀k:Nat,k<a.length→(∃j:Int,0≤j∧j<(i:Int)∧∃x∈Bz a j,x.2=(k:Int))→M.getD k 0=m (k:Int))→∃f,F2 h b (a.drop i) i M=some f
 | 0,i,M,J,_,_,_=>by
  rw[IF (by omega)];exact⟨M,rfl⟩
 | r+1,i,M,J,E,s,t=>by
  have hi:i<a.length:=by omega
  have u:M.getD i 0=m (i:Int):=by
   cases i with
   | zero =>
    rw[s hi];exact d.zero.symm
   | succ i =>
    obtain⟨j,p,y,x,c,e⟩:=v ((i+1:Nat):Int) (by omega) (by omega);exact t (i+1) hi ⟨j,p,y,x,c,e⟩
  have hr:=d.rng (i:Int) (by omega) (by omega);have w:=d.ty (i:Int) (by omega) (by omega);have F:=d.arc (i:Int) (by omega) (by omega);rw[f7]at w;have G:¬Hf h b (a.getD i (0,[])) (M.getD i 0)=true:=by
   unfold Hf;rw[iN,By,OF,u];rintro (g|g)
   ·omega
   ·rw[w]at g;cases g
  rw[Je h b a M hi,At G,u];have o:Bz a (i:Int)=(a.getD i (0,[])).2:=by rw[Bz,f7]
  obtain⟨f,z,A,q,B⟩:=gP (n:=(i:Int)) ha (fun k C D=>(d.rng k C D).1) (bl:=(b.getD (m (i:Int)).toNat (0,[])).2) (l:=(a.getD i (0,[])).2) (fun x c=>by rw[o];exact c) (fun x c=>F x (by rw[o];exact c)) E;rw[z];simp only;refine XU ha v d r (i+1) f (by omega) A (fun g=>?_) (fun k hk H=>?_)
  ·have:=q 0 g (by rw[s g];exact d.zero.symm);rw[this];exact d.zero
  ·obtain⟨j,p,y,x,c,e⟩:=H;by_cases I:j<(i:Int)
   ·exact q k hk (t k hk ⟨j,p,I,x,c,e⟩)
   ·have:j=(i:Int):=by omega
    subst this;rw[o]at c;have:=B x c;rw[e]at this;rw[f7]at this;exact this
theorem A2t {h:AJ} {a b:List AF} (ha:A2 a) (h0:0<a.length) (f:RO a) {m:Int→Int} (c:Hom h a b m):Rz h a b=true:=by
 have g:((List.replicate a.length (-1:Int)).set 0 0).getD 0 0=0:=by rw[Gf (by simpa using h0),BY rfl]
 obtain⟨i,e⟩:=XU ha f c a.length 0 ((List.replicate a.length (-1)).set 0 0) (by omega) ⟨by simp,fun k hk=>by
  rw[Gf (by simpa using h0)];split
  ·rename_i e;right;rw[←e];exact c.zero.symm
  ·left;simp[AS,AAB,hk]⟩ (fun _=>g) (fun k hk d=>by
  obtain⟨j,l,n,_⟩:=d;omega)
 unfold Rz Yp;rw[AAj]at e;rw[e];rfl
theorem gQ {b:List AF} {bl:List (Int×Int)} (u:0<b.length) (o:∀x∈bl,x.2<(b.length:Int)) {n:Nat}:∀ {l:List (Int×Int)} {M a:List Int},(∀x∈l,0≤x.2∧x.2<(n:Int))→M.length=n→(∀k,M.getD k 0<(b.length:Int))→Es bl l M=some a →
  a.length=n∧(∀k,a.getD k 0<(b.length:Int))∧(∀k,0≤M.getD k 0→a.getD k 0=M.getD k 0)∧∀x∈l,0≤a.getD x.2.toNat 0∧FK bl x.1=a.getD x.2.toNat 0
 | [],M,a,_,hn,hk,h=>by
  have:M=a:=ABL h;subst this;exact⟨hn,hk,fun _ _=>rfl,fun x w=>by cases w⟩
 | x :: l,M,a,p,hn,hk,h=>by
  simp only[Es]at h;split at h
  ·cases h
  ·rename_i d;have hr:=p x (by simp);have j:x.2.toNat<M.length:=by omega
   have v:=Ys (n:=(b.length:Int)) (by omega) (l:=bl) x.1 o;obtain⟨r,s,m,t⟩:=gQ u o (l:=l) (fun y c=>p y (by simp[c])) (by rw[AAd];exact hn) (fun k=>by
    rw[Gf j];split
    ·exact v
    ·exact hk k) h
   have g:0≤FK bl x.1∧(0≤M.getD x.2.toNat 0→M.getD x.2.toNat 0=FK bl x.1):=by
    unfold MO at d;rw[iN,An,By,By,OF,AAK]at d;refine⟨AAO.1 fun e=>d (.inl e),fun e=>DO fun q=>d (.inr ⟨e,q⟩)⟩
   refine⟨r,s,fun k i=>?_,fun y c=>?_⟩
   ·have h1:(M.set x.2.toNat (FK bl x.1)).getD k 0=M.getD k 0:=by
     rw[Gf j];split
     ·rename_i e;rw[←e]at i ⊢;exact(g.2 i).symm
     ·rfl
    rw[m k (by rw[h1];exact i),h1]
   ·rcases GO.1 c with rfl|c
    ·have h1:(M.set y.2.toNat (FK bl y.1)).getD y.2.toNat 0=FK bl y.1:=by rw[Gf j,BY rfl]
     have f:=m y.2.toNat (by rw[h1];exact g.1);rw[h1]at f;exact⟨by rw[f];exact g.1,f.symm⟩
    ·exact t y c
theorem XV {d:AJ} {a b:List AF} (ha:A2 a) (p:A2 b) (q:0<b.length):∀(r i:Nat) (M c:List Int),r+i=a.length→M.length=a.length→(∀k,M.getD k 0<(b.length:Int))→F2 d b (a.drop i) i M=some c →
  (∀k,c.getD k 0<(b.length:Int))∧(∀k,0≤M.getD k 0→c.getD k 0=M.getD k 0)∧∀k:Nat,i≤k→k<a.length→0≤c.getD k 0∧A8 d (a.getD k (0,[])).1 (b.getD (c.getD k 0).toNat (0,[])).1=true∧∀x∈(a.getD k (0,[])).2,0≤c.getD x.2.toNat 0∧FK (b.getD (c.getD k 0).toNat (0,[])).2 x.1=c.getD x.2.toNat 0
 | 0,i,M,c,D,_,hk,h=>by
  rw[IF (by omega)]at h;have:M=c:=ABL h;subst this;exact⟨hk,fun _ _=>rfl,fun k h1 o=>by omega⟩
 | r+1,i,M,c,D,hn,hk,h=>by
  have hi:i<a.length:=by omega
  rw[Je d b a M hi]at h;split at h
  ·cases h
  ·rename_i g;have j:0≤M.getD i 0∧A8 d (a.getD i (0,[])).1 (b.getD (M.getD i 0).toNat (0,[])).1=true:=by
    unfold Hf at g;rw[iN,By,OF]at g;refine⟨AAO.1 fun e=>g (.inl e),?_⟩;cases hh:A8 d (a.getD i (0,[])).1 (b.getD (M.getD i 0).toNat (0,[])).1 with
    | true=>rfl
    | false=>exact absurd (.inr hh) g
   cases l:Es (b.getD (M.getD i 0).toNat (0,[])).2 (a.getD i (0,[])).2 M with
   | none=>rw[l]at h;cases h
   | some v =>
    rw[l]at h;simp only at h;obtain⟨y,z,A,B⟩:=gQ q (fun x f=>(Pr p _ x f).2) (n:=a.length) (fun x f=>Pr ha i x f) hn hk l;obtain⟨E,u,F⟩:=XV ha p q r (i+1) v c (by omega) y z h;have t:∀k,0≤M.getD k 0→c.getD k 0=M.getD k 0:=fun k s=>by
     have:=A k s;rw[u k (by rw[this];exact s),this]
    refine⟨E,t,fun k h1 o=>?_⟩;by_cases C:k=i
    ·subst C;rw[t k j.1];refine⟨j.1,j.2,fun x f=>?_⟩;obtain⟨m,w⟩:=B x f;have:=u x.2.toNat m;rw[this];exact⟨m,w⟩
    ·exact F k (by omega) o
theorem A3N {h:AJ} {a b:List AF} (ha:A2 a) (j:0<a.length) (o:A2 b) (p:0<b.length) (c:Rz h a b=true):∃m,Hom h a b m:=by
 unfold Rz Yp at c;cases l:F2 h b a 0 ((List.replicate a.length (-1)).set 0 0) with
 | none=>rw[l]at c;cases c
 | some M =>
  have n:((List.replicate a.length (-1:Int)).set 0 0).getD 0 0=0:=by rw[Gf (by simpa using j),BY rfl]
  obtain⟨r,s,d⟩:=XV ha o p a.length 0 ((List.replicate a.length (-1)).set 0 0) M (by omega) (by simp) (fun k=>by
   rw[Gf (by simpa using j)];split
   ·omega
   ·rw[AS,AAB];split
    ·show (-1:Int)<_;omega
    ·show (0:Int)<_;omega) (by rw[AAj];exact l)
  have g:=s 0 (by rw[n];omega);rw[n]at g;refine⟨fun i=>M.getD i.toNat 0,g,fun i e f=>⟨(d i.toNat (by omega) (by omega)).1,r _⟩,fun i e f=>(d i.toNat (by omega) (by omega)).2.1,fun i e f x q=>((d i.toNat (by omega) (by omega)).2.2 x q).2⟩
theorem gR {f:List AF} (hf:A2 f):∀(k:Nat) (t:List Int) (n:Int),Mi f t→0≤n→n<f.length→n∉t →
  ∀q,t.length<q→q<(Ep f k t n).length→∃j,j<q∧∃a∈Bz f ((Ep f k t n).getD j 0),a.2=(Ep f k t n).getD q 0
 | 0,t,n,h,h0,h1,x,q,A,g=>by simp only[Ep]at g;omega
 | k+1,t,n,h,h0,h1,x,q,A,g=>by
  have key:∀(l:List (Int×Int)) (u:List Int),(∀a∈l,a∈Bz f n)→Mi f u→t++[n] <+: u →
    (∀q,t.length<q→q<u.length→∃j,j<q∧∃a∈Bz f (u.getD j 0),a.2=u.getD q 0) →
    ∀q,t.length<q→q<(l.foldl (BE f k) u).length→∃j,j<q∧∃a∈Bz f ((l.foldl (BE f k) u).getD j 0),a.2=(l.foldl (BE f k) u).getD q 0:=by
   intro l;induction l with
   | nil=>intro u _ _ _ hu q o d;exact hu q o d
   | cons a l C =>
    intro u s hu p y;have ha:=s a (by simp);have hr:=D9 hf ha;rw[TO];by_cases i:a.2∈u
    ·have hs:BE f k u a=u:=by unfold BE;rw[BY i]
     rw[hs];exact C u (fun b c=>s b (by simp[c])) hu p y
    ·have hs:BE f k u a=Ep f k u a.2:=by unfold BE;rw[At i]
     rw[hs];obtain⟨D,w⟩:=FF hf k u a.2 hu hr.1 hr.2 i;have r:∀j,j<u.length→(Ep f k u a.2).getD j 0=u.getD j 0:=fun j E=>by
      obtain⟨v,m⟩:=w;rw[←m];simp only[AS];rw[oS E]
     have F:u.getD t.length 0=n:=by
      obtain⟨v,m⟩:=p;rw[←m];simp[AS]
     have B:t.length<u.length:=by
      have:=p.length_le;simp at this;omega
     refine C (Ep f k u a.2) (fun b c=>s b (by simp[c])) D (p.trans w) (fun q o d=>?_);by_cases z:q<u.length
     ·obtain⟨j,G,b,c,e⟩:=y q o z;refine⟨j,G,b,?_,?_⟩
      ·rw[r j (by omega)];exact c
      ·rw[r q z];exact e
     ·by_cases g:q=u.length
      ·subst g;refine⟨t.length,B,a,?_,?_⟩
       ·rw[r _ B,F];exact ha
       ·cases k with
        | zero=>simp only[Ep]at d;omega
        | succ k =>
         have hp:u++[a.2] <+: Ep f (k+1) u a.2:=by
          rw[DJ];exact(Gm (FF hf k) _ _ (fun b c=>D9 hf c) (hu.snoc hr.1 hr.2 i)).2
         obtain⟨v,m⟩:=hp;rw[←m];simp[AS]
      ·exact gR hf k u a.2 hu hr.1 hr.2 i q (by omega) d
  rw[DJ]at g ⊢;exact key _ (t++[n]) (fun a ha=>ha) (h.snoc h0 h1 x) (AAD _) (fun q o d=>by simp only[OR,iF]at d;omega) q A g
theorem oP {f:List AF} (hf:A2 f) (hs:M7 f) (h0:0<f.length) (b:Int→Int×Int→Bool):RO (Rx b f):=by
 obtain⟨d,s⟩:=XQ hf hs b;have g:=KB b f f.length;have c:=A0k d (by omega);have h:=s5 (GC b f f.length);have l:=gR d (GC b f f.length).length [] 0 (JD _) (by omega) (by omega) (by simp);have p:=fun n hn=>s7 hf hs h0 b (n:=n) hn;rw[g]at c h l;have q:(Rx b f).length=(Ep (GC b f f.length) f.length [] 0).length:=h;intro i r m;rw[q]at m;generalize Ep (GC b f f.length) f.length [] 0=o at *;obtain⟨j,t,a,ha,e⟩:=l i.toNat (by simp only[AAM];omega) (by omega);have k:o.getD j 0∈o:=AD _ 0 (by omega);have hr:=c.ok.rng _ k;rw[g]at hr;rw[Bz,gN b hr.1 hr.2]at ha;refine⟨(j:Int),by omega,by omega,L2 o a,?_,?_⟩
 ·have:=p _ k;rw[MN c.ok.nd (by omega)]at this;rw[this];exact If.2 ⟨a,ha,rfl⟩
 ·show IG o a.2=i;rw[e,MN c.ok.nd (by omega)];omega
abbrev par (p:List Int) (n:Int):Int:=p.getD n.toNat 0
structure Fo (p:List Int) (rk:Int→Nat):Prop where
 rng:∀n,0≤n→n<(p.length:Int)→0≤par p n∧par p n<(p.length:Int)
 dec:∀n,0≤n→n<(p.length:Int)→par p n≠n→rk (par p n)<rk n
inductive Rt (p:List Int):Int→Int→Prop
 | base {n:Int} (h:par p n=n):Rt p n n
 | step {n r:Int} (h:par p n≠n) (h2:Rt p (par p n) r):Rt p n r
theorem Rt.root {p:List Int} {n r:Int} (h:Rt p n r):par p r=r:=by
 induction h with
 | base h=>exact h
 | step _ _ a=>exact a
theorem Fo.ex {p:List Int} {a:Int→Nat} (h:Fo p a):∀(k:Nat) (n:Int),a n≤k→0≤n→n<(p.length:Int)→∃r,Rt p n r∧0≤r∧r<(p.length:Int)
 | 0,n,hk,h0,h1=>by
  by_cases e:par p n=n
  ·exact⟨n,.base e,h0,h1⟩
  ·have:=h.dec n h0 h1 e;omega
 | k+1,n,hk,h0,h1=>by
  by_cases e:par p n=n
  ·exact⟨n,.base e,h0,h1⟩
  ·have f:=h.dec n h0 h1 e;have hr:=h.rng n h0 h1;obtain⟨r,b,c,d⟩:=h.ex k (par p n) (by omega) hr.1 hr.2;exact⟨r,.step e b,c,d⟩
theorem Fo.root {p:List Int} {a:Int→Nat} (h:Fo p a) {n:Int} (h0:0≤n) (h1:n<(p.length:Int)):∃r,Rt p n r∧0≤r∧r<(p.length:Int):=h.ex (a n) n (NO _) h0 h1
def Q3 (p q:List Int):Prop:=p.length=q.length∧∀x r,0≤x→x<(p.length:Int)→(Rt p x r↔Rt q x r)
theorem Q3.refl (p:List Int):Q3 p p:=⟨rfl,fun _ _ _ _=>Iff.rfl⟩
theorem Q3.trans {p q s:List Int} (h:Q3 p q) (g:Q3 q s):Q3 p s :=
 ⟨h.1.trans g.1,fun x r a b=>(h.2 x r a b).trans (g.2 x r a (by rw[←h.1];exact b))⟩
section
open Go
end
section
open Go
end
section
attribute [local go_sem] n9
section
variable {xs ys W0 x y bo V:List (Int×Int)} {k:Nat}
end
end
abbrev Str (l:List (Int×Int)):Prop:=l.Pairwise (fun a b=>a.1<b.1)
inductive EG (n:Nat) (p:List Int) (W:List (Int×Int)):Int→Int→Prop
 | cls {x y r:Int} (x0:0≤x) (x1:x<(n:Int)) (y0:0≤y) (y1:y<(n:Int)) (h:Rt p x r) (g:Rt p y r):EG n p W x y
 | wt {x y:Int} (h:(x,y)∈W):EG n p W x y
 | symm {x y:Int} (h:EG n p W x y):EG n p W y x
 | trans {x y z:Int} (h:EG n p W x y) (g:EG n p W y z):EG n p W x z
theorem EG.mono {n:Nat} {p q:List Int} {W V:List (Int×Int)} (h1:∀x y r,0≤x→x<(n:Int)→0≤y→y<(n:Int)→Rt p x r→Rt p y r→EG n q V x y) (a:∀x y,(x,y)∈W→EG n q V x y) {x y:Int} (h:EG n p W x y):EG n q V x y:=by
 induction h with
 | cls e f i j h g=>exact h1 _ _ _ e f i j h g
 | wt h=>exact a _ _ h
 | symm _ b=>exact .symm b
 | trans _ _ c d=>exact .trans c d
section
variable {h:AJ} {N:List AF} {P:List (Int×Int)} {p ty:List Int} {ar:List (List (Int×Int))} {W:List (Int×Int)} {s t a b:Int}
end
theorem Q4 {α:Type} [DecidableEq α]:∀ {l l':List α},l.Nodup→(∀x∈l,x∈l')→l.length≤l'.length
 | [],_,_,_=>by simp
 | x :: l,l',hn,h=>by
  obtain⟨d,c⟩:=AA5.1 hn;have a:=h x (by simp);have:=Q4 (l:=l) (l':=l'.erase x) c (fun y b=>(AC8 (fun e:y=x=>d (by rw[←e];exact b))).2 (h y (by simp[b])));rw[ABv a]at this;have:=ABi a;simp only[No];omega
theorem A2u {l:List (Int×Int)} (h:Str l) {S:List Int} (hs:∀a∈l,a.1∈S):l.length≤S.length:=by
 have hn:(l.map (·.1)).Nodup:=by
  unfold List.Nodup;rw[AAr];exact h.imp fun g=>by omega
 have:=Q4 hn (l':=S) (fun x b=>by
  obtain⟨a,ha,rfl⟩:=If.1 b;exact hs a ha)
 rwa [nO]at this
open Classical in
noncomputable def rtF (p:List Int) (x:Int):Int:=if h:∃r,Rt p x r then h.choose else x
noncomputable def quo (p ty:List Int) (ar:List (List (Int×Int))):List AF:=(List.range p.length).map fun k=>(ty.getD k 0,(ar.getD k []).map fun a=>(a.1,rtF p a.2))
section
open Go
end
section
open Go
end
structure A78 (f:List AF) (r:Int) (o:List Int):Prop where
 ok:Mi f o
 zero:o.getD 0 0=r∧0<o.length
 cl:∀n∈o,∀a∈Bz f n,a.2∈o
theorem Ps {f:List AF} (hf:A2 f) {r:Int} (b:0≤r) (c:r<(f.length:Int)):A78 f r (Ep f f.length [] r):=by
 have h1:=FF hf f.length [] r (JD f) b c (by simp);have d:=Km hf f.length [] r (JD f) b c (by simp) (by simp);have e:[r] <+: Ep f f.length [] r:=by
  obtain⟨k,hk⟩:∃k,f.length=k+1:=⟨f.length-1,by omega⟩;rw[hk,DJ];exact(Gm (FF hf k) _ _ (fun a ha=>D9 hf ha) ((JD f).snoc b c (by simp))).2
 refine⟨h1.1,?_,fun n hn a ha=>?_⟩
 ·obtain⟨t,g⟩:=e;rw[←g];exact⟨rfl,by simp⟩
 ·rcases d.2 n hn with h|h
  ·cases h
  ·exact h a ha
theorem Ux {f:List AF} {r:Int} {i:Nat} (hi:i<(Ep f f.length [] r).length):(AU f r).getD i (0,[])=LN f (Ep f f.length [] r) ((Ep f f.length [] r).getD i 0):=by
 unfold AU;simp[AS,hi]
theorem Uy (f:List AF) (r:Int):(AU f r).length=(Ep f f.length [] r).length:=by simp[AU]
section
variable {h:AJ} {N:List AF} {P:List (Int×Int)} {p ty:List Int} {ar:List (List (Int×Int))}
end
structure VF (h:AJ) (f:List AF):Prop where
 good:A2 f
 pos:0<f.length
 ty:Uw h f
 str:∀x∈f,Str x.2
 ft:∀x∈f,∀a∈x.2,0≤a.1∧a.1<(h.2.length:Int)
 can:AU f 0=f
 ro:RO f
structure HU (h:AJ):Prop where
 ok:Jf h
 inj:HH h
 ft:h.2.length≤64
def gS (U:List AF):Prop:=(Ep U U.length [] 0).length=U.length∧∀k,(hk:k<(Ep U U.length [] 0).length)→(Ep U U.length [] 0)[k]=(k:Int)
theorem Yt {Q:List AF} (m:A2 Q) {r:Int} (L:0≤r) (M:r<(Q.length:Int)):A2 (AU Q r)∧gS (AU Q r):=by
 have d:=Ps m L M;have D:=Uy Q r;have C:=fun i=>Ux (f:=Q) (r:=r) (i:=i);generalize O:AU Q r=c at *;generalize H:Ep Q Q.length [] r=o at *;have R:=d.ok.len;have N:=m.1;have g:∀i:Int,0≤i→i<(o.length:Int)→o.getD i.toNat 0∈o∧IG o (o.getD i.toNat 0)=i:=fun i J K=>by
  refine⟨AD o 0 (by omega),?_⟩;rw[MN d.ok.nd (by omega)];omega
 have p:∀i:Int,0≤i→i<(o.length:Int)→Bz c i=(Bz Q (o.getD i.toNat 0)).map (L2 o):=fun i J K=>by
  rw[Bz,C i.toNat (by omega)];rfl
 have F:Iso c Q (fun i=>o.getD i.toNat 0) (fun i=>0≤i∧i<(o.length:Int)):=by
  refine⟨fun i hi=>?_,fun i hi a ha=>?_,fun i j hi B e=>?_⟩
  ·rw[p i hi.1 hi.2,ABD];have:∀a∈Bz Q (o.getD i.toNat 0),((fun a:Int×Int=>(a.1,o.getD a.2.toNat 0))∘L2 o) a=a:=fun a ha=>by
    show (a.1,o.getD (IG o a.2).toNat 0)=a;rw[(Gz (d.cl _ (g i hi.1 hi.2).1 a ha)).2.2]
   rw[AAw this,List.map_id']
  ·rw[p i hi.1 hi.2]at ha;obtain⟨b,q,rfl⟩:=If.1 ha;have:=Gz (d.cl _ (g i hi.1 hi.2).1 b q);exact⟨this.1,this.2.1⟩
  ·have h1:=(g i hi.1 hi.2).2;have h:=(g j B.1 B.2).2;have e:o.getD i.toNat 0=o.getD j.toNat 0:=e;rw[←h1,←h,e]
 have h0:(0:Int)<(o.length:Int):=by have:=d.zero.2;omega
 have v:A2 c:=by
  refine⟨by omega,fun x u=>?_⟩;obtain⟨i,hi,rfl⟩:=CC (0,[]) u;have h1:=p (i:Int) (by omega) (by omega);rw[Bz,f7]at h1;rw[h1];have t:=g (i:Int) (by omega) (by omega);rw[f7]at t;have hr:=d.ok.rng _ t.1;refine⟨?_,fun a ha=>?_⟩
  ·rw[nO];exact(m.2 _ (AD Q (0,[]) (k:=(o.getD i 0).toNat) (by omega))).1
  ·obtain⟨b,q,rfl⟩:=If.1 ha;have:=Gz (d.cl _ t.1 b q);rw[D];exact⟨this.1,this.2.1⟩
 have s:=oO F Q.length [] 0 (fun x u=>by cases u) ⟨by omega,h0⟩;have I:o.getD (0:Int).toNat 0=r:=d.zero.1;rw[AC0,I,H]at s;have A:=gM v (n:=0) (by omega) (by omega) (Q.length-c.length);rw[show c.length+(Q.length-c.length)=Q.length by omega]at A;rw[A]at s;unfold gS;refine⟨v,?_⟩;generalize Ep c c.length [] 0=l at *;obtain⟨y,E⟩:=s;have P:l.length=o.length:=by
  have:=AAX List.length y;rw[nO]at this;exact this.symm
 have G:∀k,(hk:k<l.length)→l[k]=(k:Int):=fun k hk=>by
  have w:=E l[k] (AA7 hk);have h1:=(g l[k] w.1 w.2).2;have h:=(g (k:Int) (by omega) (by omega)).2;have e:o.getD k 0=o.getD (l[k]).toNat 0:=by
   exact(AAX (fun z:List Int=>z.getD k 0) y).trans (by simp[AS,hk])
  rw[f7,e]at h;rw[←h1,h]
 exact⟨by omega,G⟩
theorem Uz {b:List AF} (g:A2 b) (k:gS b):AU b 0=b:=by
 unfold AU;obtain⟨q,c⟩:=k;generalize Ep b b.length [] 0=l at *;have o:l.Nodup:=by
  unfold List.Nodup;rw[oR];intro i j hi n p e;rw[c i hi,c j n]at e;omega
 have m:∀x,0≤x→x<(l.length:Int)→IG l x=x:=fun x r s=>by
  have:=MN o (i:=x.toNat) (by omega);have e:l.getD x.toNat 0=x:=by
   rw[AS,AT (by omega)];show l[x.toNat]=x;rw[c _ (by omega)];omega
  rw[e]at this;rw[this];omega
 apply AA8
 ·rw[nO];omega
 ·intro i h1 d;rw[ABk,c i (by simpa using h1)];have f:b.getD (i:Int).toNat (0,[])=b[i]:=by simp[AS,d]
  unfold LN;rw[f];have:∀a∈b[i].2,L2 l a=a:=fun a ha=>by
   have h:=(g.2 _ (AA7 d)).2 a ha;unfold L2;rw[m a.2 h.1 (by omega)]
  rw[AAw this,List.map_id']
theorem A0q {Q:List AF} (a:A2 Q) {r:Int} (b:0≤r) (c:r<(Q.length:Int)):AU (AU Q r) 0=AU Q r :=
 Uz (Yt a b c).1 (Yt a b c).2
def A79 (N:List AF):Prop:=∀x∈N,∀a∈x.2,0≤a.1∧a.1<64
theorem Yu {l:List (Int×Int)} (h:Str l) (hf:∀a∈l,0≤a.1∧a.1<64):l.length≤64:=by
 have:=A2u h (S:=(List.range 64).map fun(i:Nat)=>(i:Int)) (fun a ha=>If.2 ⟨a.1.toNat,iS.2 (by have:=hf a ha;omega),by have:=hf a ha;omega⟩)
 rwa [nO,ABT]at this
theorem VF.ft64 {h:AJ} {f:List AF} (b:VF h f) (hu:HU h):A79 f:=fun x c a ha=>by
 have h1:=b.ft x c a ha;have d:=hu.ft;omega
def A6y (d:List AH) (o:List ByteArray) (i:Nat):Prop:=∀j,j<i→∀x∈d,AW x.2.1 (o.getD j ByteArray.empty)=true→AW o x.1=true
theorem A0r {c:ByteArray} {o:List ByteArray} {x:AH} (h:AW x.2.1 c=true):AW (E6 c o x) x.1=true:=by
 unfold E6;split
 ·rw[Nw,Cr,Bool.or_true]
 ·rename_i a;rw[h,ABP,OF]at a;simpa using a
theorem XW {c:ByteArray} {x:AH} (h:AW x.2.1 c=true):∀ {l:List AH} {o:List ByteArray},x∈l→AW (l.foldl (E6 c) o) x.1=true
 | [],_,a=>by cases a
 | y :: l,o,a=>by
  rw[TO];rcases GO.1 a with rfl|a
  ·exact J3 (fun z b=>Mo b) (A0r h)
  ·exact XW h a
theorem U0 {d:List AH}:∀ {n i:Nat} {o:List ByteArray},YR d o→d.length≤n+i→A6y d o i→i≤o.length→∃m,A6y d (Cc d n i o) m∧(Cc d n i o).length≤m
 | 0,i,o,ha,f,a,hi=>⟨i,a,by
  have:=ha.len;show o.length≤i;omega⟩
 | n+1,i,o,ha,f,a,hi=>by
  unfold Cc;split
  ·rename_i q;obtain⟨c,k⟩:=UE (o.getD i ByteArray.empty) (l:=d) (o:=o) (fun _ h=>h) ha;refine U0 c (by omega) (fun j p x b hs=>?_) (by omega);rw[Qn _ (by omega)]at hs;by_cases e:j=i
   ·subst e;exact XW hs b
   ·exact J3 (fun z g=>Mo g) (a j (by omega) x b hs)
  ·exact⟨i,a,by omega⟩
theorem Q5 {α:Type} {p:α→Bool}:∀ {l:List α},l.countP p=1→∀x∈l,p x=true→∀y∈l,p y=true→x=y
 | [],h,x,a,_,_,_,_=>by cases a
 | z :: l,h,x,a,c,y,b,d=>by
  rw[AB2]at h;by_cases f:p z=true
  ·rw[BY f]at h;have h0:l.countP p=0:=by omega
   rw[List.countP_eq_zero]at h0;have g:x=z:=by
    rcases GO.1 a with e|a
    ·exact e
    ·exact absurd c (h0 x a)
   have i:y=z:=by
    rcases GO.1 b with e|b
    ·exact e
    ·exact absurd d (h0 y b)
   rw[g,i]
  ·rw[At f]at h;have a:x∈l:=by
    rcases GO.1 a with e|a
    ·rw[e]at c;exact absurd c f
    ·exact a
   have b:y∈l:=by
    rcases GO.1 b with e|b
    ·rw[e]at d;exact absurd d f
    ·exact b
   exact Q5 (by omega) x a c y b d
theorem VA (s:ByteArray):∀(l:List AH) (k:Nat),0≤Cq s k l→∃x∈l,Aa x.1 s=true
 | [],k,h=>by
  simp only[Cq]at h;omega
 | y :: l,k,h=>by
  simp only[Cq]at h;split at h
  ·rename_i e;exact⟨y,by simp,e⟩
  ·obtain⟨x,a,e⟩:=VA s l (k+1) h;exact⟨x,by simp[a],e⟩
theorem lS {d:List AH} (q:A3 d=0):∃r∈d,∀x∈d,AW (Ce d r.1) x.1=true:=by
 obtain⟨hs,H,h1,hn,h⟩:=Av q;have B:0<d.countP fun x=>x.2.1.length==0:=by
  have:IR d=d.countP fun x=>x.2.1.length==0:=rfl;omega
 obtain⟨r,hr,p⟩:=List.countP_pos_iff.1 B;refine⟨r,hr,?_⟩;have C:=DU hr;have t:YR d [r.1]:=⟨fun s hs=>by
  have:s=r.1:=by simpa using hs
  rw[this];exact C,by simp⟩
 obtain⟨m,A,I⟩:=U0 (d:=d) (n:=d.length) (i:=0) t (by omega) (fun j v=>by omega) (by omega);have l:r.1∈Cc d d.length 0 [r.1]:=Kv (by simp);have u:Ce d r.1=J0 (Cc d d.length 0 [r.1]):=by unfold Ce;rw[At (by omega)]
 rw[u];generalize Cc d d.length 0 [r.1]=o at *;have key:∀(k:Nat) (x:AH),x∈d→GA d x.1≤k→AW o x.1=true:=by
  intro k;induction k with
  | zero =>
   intro x a hk;by_cases f:x.2.1.length=0
   ·have e:=Q5 h1 x a (by simpa using f) r hr p;rw[e];exact Fb l
   ·obtain⟨s,b⟩:∃s,s∈x.2.1:=AC5 (by omega);have:=Ku hn h a (Fb b);omega
  | succ k G =>
   intro x a hk;by_cases f:x.2.1.length=0
   ·have e:=Q5 h1 x a (by simpa using f) r hr p;rw[e];exact Fb l
   ·obtain⟨s,b⟩:∃s,s∈x.2.1:=AC5 (by omega);have D:=Ku hn h a (Fb b);obtain⟨y,F,e⟩:=VA s d 0 (hs x a s b);rw[←IX d e]at D;obtain⟨z,g,c⟩:=Of.1 (G y F (by omega));obtain⟨j,v,rfl⟩:=CC ByteArray.empty g;refine A j (by omega) x a ?_;exact Of.2 ⟨s,b,Dq (BF c e)⟩
 intro x a;obtain⟨z,g,e⟩:=Of.1 (key _ x a (NO _));obtain⟨w,E,c⟩:=Of.1 (Pc (o:=[]) g);exact Of.2 ⟨w,E,BF c e⟩
abbrev cnt (c:List Int):Nat:=(IM c).length
theorem A0t {w:Int} (a:zW w) {r:Nat} (hr:r<64):zF w (r:Int)=w.toNat.testBit r:=by
 have h0:=a.1;have h1:=a.2;have c:w.toNat / 2 ^ r≤w.toNat:=Nat.div_le_self _ _;have e:VY .u64 w (r:Int)=((w.toNat / 2 ^ r:Nat):Int):=by
  unfold VY;have b:min ((r:Int)).toNat IntKind.u64.bits=r:=by
   show min ((r:Int)).toNat 64=r;omega
  have hp:(0:Int)≤2 ^ r:=Int.le_of_lt (Int.pow_pos (by decide));rw[b,ABH _ hp,Int.natCast_ediv,AAW h0];simp
 unfold zF;rw[Nat.testBit_eq_decide_div_mod_eq,e];generalize w.toNat / 2 ^ r=z at *;rw[IV ⟨by omega,by omega⟩ ⟨by decide,by decide⟩,f7,show (1:Int).toNat=1 from rfl,Nat.and_one_is_mod,AB7,AA1,By];omega
theorem Sp {b:List Int} (d:IW b) (i:Nat):Qk b (i:Int)=BA b i:=by
 have a:Int.tdiv (i:Int) 64=((i / 64:Nat):Int):=by rw[AAp (by omega)];omega
 have c:Int.tmod (i:Int) 64=((i % 64:Nat):Int):=by rw[ABj (by omega)];omega
 unfold Qk BA;rw[a,c,f7];by_cases hk:i / 64<b.length
 ·rw[At (by rw[iN,By,By];omega),A0t (BG d _) (by omega)]
 ·rw[BY (by rw[iN,By,By];omega),Gv hk];simp
theorem gT (c:List Int):(IM c).Nodup:=by
 unfold IM NR List.Nodup;rw[AAr];refine List.Pairwise.imp (fun h e=>h ?_) (List.Pairwise.filter _ List.nodup_range);exact Int.ofNat.inj e
theorem Mw {c:List Int} (b:IW c) {x:Int}:x∈IM c↔∃i:Nat,x=(i:Int)∧BA c i=true:=by
 unfold IM NR;rw[If];constructor
 ·rintro⟨i,hi,rfl⟩;rw[AA4]at hi;exact⟨i,rfl,by rw[←Sp b];exact hi.2⟩
 ·rintro⟨i,rfl,a⟩;refine⟨i,AA4.2 ⟨iS.2 ?_,by rw[Sp b];exact a⟩,rfl⟩;refine DO fun d=>?_;unfold BA at a;rw[Gv (by omega)]at a;simp at a
theorem A3P {a b:List Int} (ha:IW a) (f:IW b) (h:∀i,BA a i=true→BA b i=true) (g:cnt b≤cnt a) (i:Nat) (hi:BA b i=true):BA a i=true:=by
 refine DO fun hn=>?_;have c:(i:Int)∉IM a:=fun k=>by
  obtain⟨j,e,d⟩:=(Mw ha).1 k;have:i=j:=Int.ofNat.inj e;rw[this]at hn;exact hn d
 have:=Q4 (l:=(i:Int) :: IM a) (l':=IM b) (AA5.2 ⟨c,gT a⟩) fun x c=>by
  rcases GO.1 c with rfl|c
  ·exact(Mw f).2 ⟨i,rfl,hi⟩
  ·obtain⟨j,rfl,d⟩:=(Mw ha).1 c;exact(Mw f).2 ⟨j,rfl,h j d⟩
 rw[No]at this;unfold cnt at g;omega
theorem VB (x:AP) (out:List AP):∀n,(Fc x out n=0→n=0∨Fy x (out.getD 0 c0)=true)∧∀k,Fc x out n=k+1→Fy x (out.getD k c0)=false
 | 0=>⟨fun _=>.inl rfl,fun k h=>by simp[Fc]at h⟩
 | n+1=>by
  obtain⟨h1,b⟩:=VB x out n;unfold Fc;split
  ·rename_i a;refine⟨fun e=>?_,b⟩;rcases h1 e with e|e
   ·subst e;exact .inr a
   ·exact .inr e
  ·rename_i a;refine⟨fun e=>by omega,fun k e=>?_⟩;have:n=k:=by omega
   subst this;simpa using a
theorem gU {a b:AP} (h:Fy a b=true):cnt b.2≤cnt a.2:=by
 unfold Fy at h;rw[iN,An,By,AA1]at h;unfold cnt;omega
theorem Yv {a b:AP} (h:Fy a b=false):cnt a.2≤cnt b.2:=by
 unfold Fy at h;rw[AAl,On]at h;unfold cnt;omega
def HM (out:List AP):Prop:=∀y∈out,cnt y.2≤cnt (out.getD 0 c0).2
theorem A2v {out:List AP} (h:HM out) (x:AP):HM (YZ out x):=by
 obtain⟨s1,s2⟩:=VB x out out.length;have b:=fQ x out out.length;intro y a;rw[fU]at a;unfold YZ;cases hk:Fc x out out.length with
 | zero =>
  rw[AAS,AAj,ABf];have e:([x]++out).getD 0 c0=x:=rfl;rw[e];rcases a with rfl|a
  ·exact NO _
  ·have h1:=h y a;rcases s1 hk with e|e
   ·rw[aT e]at a;cases a
   ·exact To h1 (gU e)
 | succ k =>
  have c:=Yv (s2 k hk);rw[hk]at b;have e:(out.take (k+1)++[x]++out.drop (k+1)).getD 0 c0=out.getD 0 c0:=by
   cases out with
   | nil=>simp at b
   | cons z out=>rfl
  rw[e];rcases a with rfl|a
  ·exact To c (h _ (BC (by omega)))
  ·exact h y a
theorem gV {d:List AH}:∀ {l:List (List Int)} {o:List AP},HM o→HM (l.foldl (Qs d) o)
 | [],_,h=>h
 | b :: l,o,h=>by
  rw[TO];exact gV (A2v h _)
def In (n:Nat) (c:List Int):Prop:=IW c∧∀i,BA c i=true→i<n
theorem A3Q (n:Nat):In n []:=⟨fun x a=>(by cases a),fun i hi=>by unfold BA at hi;simp at hi⟩
theorem A3R {n:Nat} {a b:List Int} (ha:In n a) (c:In n b):In n (EP a b) :=
 ⟨Mq ha.1 c.1,fun i hi=>by
  rw[K0 ha.1 c.1,An]at hi;exact ha.2 i hi.1⟩
theorem oQ {n:Nat} {l:List (List Int)} (h:∀c∈l,In n c) (k:Nat):In n (l.getD k []):=by
 by_cases hk:k<l.length
 ·exact h _ (BC hk)
 ·rw[Qx hk];exact A3Q n
theorem A2w {n:Nat} {l:List (List Int)} (h:∀c∈l,In n c) (i k:Nat):∀c∈GT l i k,In n c:=by
 intro c a;unfold GT at a;split at a
 ·rcases ON.1 a with a|a
  ·exact h c a
  ·have:c=EP (l.getD i []) (l.getD k []):=by simpa using a
   rw[this];exact A3R (oQ h i) (oQ h k)
 ·exact h c a
theorem oT {q i:Nat}:∀ {n k:Nat} {l:List (List Int)},(∀c∈l,In q c)→∀c∈GU i n k l,In q c
 | 0,_,_,h=>h
 | n+1,k,l,h=>by
  unfold GU;split
  ·exact oT (A2w h i k)
  ·exact h
theorem Yw {q:Nat}:∀ {n i:Nat} {l:List (List Int)},(∀c∈l,In q c)→∀c∈IU n i l,In q c
 | 0,_,_,h=>h
 | n+1,i,l,h=>by
  unfold IU;split
  ·exact Yw (oT h)
  ·exact h
def A7a (h:AJ):Prop:=∀t,0≤t→t<(h.1.length:Int)→A8 h 0 t=true
theorem gW (d:List AH):A7a (Ap d).1:=by
 have hk:=Gw d;unfold Ap at hk ⊢;split
 ·intro t h0 h1;simp at h1;omega
 ·rename_i a;rw[At a]at hk;have a:(A7 d).2=0:=DO a;have D:Ar d=0:=by
   unfold A7 at a;split at a
   ·rename_i h;exact absurd a h
   ·rename_i h;exact DO h
  obtain⟨N,-,-⟩:=B7 D;obtain⟨m,P,-⟩:=BS N;obtain⟨-,C,-,hn,O⟩:=Av m;have K:=Dp d d.length;rw[f5]at K;have j:(AN d).length≤4096:=by omega
  obtain⟨r,hr,F⟩:=lS m;have g:∀c∈Aq (AQ d),In (AN d).length c:=Yw fun c k=>by
   obtain⟨s,hs,rfl⟩:=If.1 k;exact⟨(Bw (d:=d) j s 0).2.1,fun i hi=>((Bw (d:=d) j s i).1.1 hi).1⟩
  obtain⟨s,hs,B⟩:=Of.1 (OB hr);have L:s=r.1:=by
   obtain⟨x,f,rfl⟩:=Cs hs;rw[Pa hn f hr B]
  subst L;have p:Ei d (AN d) r.1∈Aq (AQ d):=by
   have hp:AQ d <+: Aq (AQ d):=Pl 257 0 (AQ d);exact hp.subset (If.2 ⟨_,hs,rfl⟩)
  have n:∀i,i<(AN d).length→BA (Ei d (AN d) r.1) i=true:=fun i hi=>by
   refine(Bw (d:=d) j r.1 i).1.2 ⟨hi,?_⟩;obtain⟨x,f,e⟩:=Cs (BC (d:=ByteArray.empty) hi);rw[←e];exact F x f
  have E:HM (AL d):=gV fun y M=>by cases M
  have v:=DV.2 ⟨_,p,rfl⟩;have w:0<(AL d).length:=ABi v;have u:=E _ v;obtain⟨b,o,l⟩:=DV.1 (BC (d:=c0) w);rw[l]at u;have I:=A3P (g b o).1 (g _ p).1 (fun i hi=>n i ((g b o).2 i hi)) u;have H:BP (Bd d) 0=b:=by
   show ((EU (AL d) _ _).getD 0 QC).2.1=b;have:(EU (AL d) (A7 d).1 (AL d).length).getD 0 QC=(((AL d).getD 0 c0).1,((AL d).getD 0 c0).2,XC (AL d) ((0:Nat):Int),(A7 d).1.getD 0 []):=by
    unfold EU;rw[AS,AAy,ABA w];rfl
   rw[this,l]
  have Q:(Bd d).1.length=(AL d).length:=J6 _ _ _;intro t z A;refine(Bl hk (by omega) (by show (0:Int)<((Bd d).1.length:Int);omega) z A).2 fun i hi=>?_;show BA (BP (Bd d) 0) i=true;rw[H];refine I i (n i ?_);have G:=B4 z A;have J:BP (Bd d) t∈Aq (AQ d):=by
   have e:((Bd d).1.map fun t=>t.2.1)=(AL d).map fun x=>x.2:=by
    show ((EU _ _ _).map fun t=>t.2.1)=_;unfold EU;rw[ABD];apply AA8
    ·simp
    ·intro i h1 C;simp[AS,show i<(AL d).length by simpa using h1]
   have q:BP (Bd d) t∈(Bd d).1.map fun t=>t.2.1:=G;rw[e]at q;obtain⟨x,f,ex⟩:=If.1 q;obtain⟨c,k,rfl⟩:=DV.1 f;rw[←ex];exact k
  exact(g _ J).2 i hi
theorem VC (d:List AH):Nd ((Ap d).1.1.map fun t=>t.2.1):=by
 unfold Ap;split
 ·exact⟨.nil,fun c h=>(by cases h)⟩
 ·rename_i a;have a:(A7 d).2=0:=DO a;have g:Ar d=0:=by
   unfold A7 at a;split at a
   ·rename_i h;exact absurd a h
   ·rename_i h;exact DO h
  obtain⟨m,-,-⟩:=B7 g;obtain⟨f,o,-⟩:=BS m;have hf:Nd (Aq (AQ d)):=Sj (Qy f);have e:((Bd d).1.map fun t=>t.2.1)=(AL d).map fun x=>x.2:=by
   show ((EU _ _ _).map fun t=>t.2.1)=_;unfold EU;rw[ABD];apply AA8
   ·simp
   ·intro i h1 n;simp[AS,show i<(AL d).length by simpa using h1]
  show Nd ((Bd d).1.map fun t=>t.2.1);rw[e];refine⟨MF (by simpa using hf.nd),fun c k=>?_⟩;obtain⟨x,l,rfl⟩:=If.1 k;obtain⟨b,j,rfl⟩:=DV.1 l;exact hf.nrm b j
def VD (l:List (Int×Int)) (e:Int):Int×Bool:=match l with
 | []=>(0,false)
 | a :: r=>if a.1=e then (a.2,true) else VD r e
structure CI (n:Nat) (o:List Int) (ar:List (List (Int×Int))) (W:List (Int×Int)):Prop where
 lo:o.length=n
 la:ar.length=n
 rep:∀k:Nat,k<n→0≤o.getD k 0∧o.getD k 0≤(k:Int)∧o.getD (o.getD k 0).toNat 0=o.getD k 0
 wr:∀w∈W,(0≤w.1∧w.1<(n:Int))∧(0≤w.2∧w.2<(n:Int))
 ta:∀k,∀a∈ar.getD k [],0≤a.2∧a.2<(n:Int)
theorem CI.rng {n:Nat} {o:List Int} {ar:List (List (Int×Int))} {W:List (Int×Int)} (h:CI n o ar W) {x:Int} (c:0≤x) (d:x<(n:Int)):0≤o.getD x.toNat 0∧o.getD x.toNat 0<(n:Int)∧o.getD (o.getD x.toNat 0).toNat 0=o.getD x.toNat 0:=by
 obtain⟨h1,b,a⟩:=h.rep x.toNat (by omega);exact⟨h1,by omega,a⟩
section
variable {n:Nat} {o:List Int} {ar:List (List (Int×Int))} {W:List (Int×Int)} {x y:Int}
end
section
attribute [local go_sem] UC zI
def VE:Ac:={ ins:=[FZ,T3,T3],pre:=fun(f,n,_,_)=>(0:Int)≤n∧n<(List.length f:Int),out:=fun(f,n,e,_)=>[.p T3 (VD (List.getD (f:List AF) (Int.toNat n) (0,[])).2 e).1,.p .bool (VD (List.getD (f:List AF) (Int.toNat n) (0,[])).2 e).2],lend:=true }
attribute [local go_sem] VE
theorem A0u:Ah Tryz.prog 53 VE:=by
 refine fK [0,1,2,3,6,7,8,9,19,28] Tryz.func53 Tryz.ntmps53 AG ?_;rintro w0 O0 ⟨f,n,e,u⟩ c ⟨⟨m,hf⟩,-⟩ hn;simp only[VE,AM];repeat'(first|exact trivial|refine eS rfl ?_|refine AB ?_|refine rX c ?_ ?_|refine rC ?_ ?_<;>intro b<;>try(cases b;done))
 ·exact hn
 ·have i:List.length (List.getD (f:List AF) (Int.toNat n) (0,[])).2≤AO:=by
   have h1:Int.toNat n<List.length f:=(AC3 hn.1).2 hn.2;have:=hf _ (AD (f:List AF) (0,[]) h1);exact this.2.1
  simp only[AO]at i;generalize (List.getD (f:List AF) (Int.toNat n) (0,[])).2=l at *;refine AI (ι:={k:Nat//k≤l.length∧VD (l.drop k) e=VD l e}) (fun k=>⟨[(2,.p T3 e),(8,.p Ii l),(9,.p (.int .i64) (k.1:Int))],[]⟩) (fun k=>l.length-k.1) ⟨0,by simp⟩ (AC [] rfl rfl ?_ ?_) (fun k=>?_)
  ·first|exact eN|refine eM ?_
  ·first|exact eN|refine eM ?_
  ·obtain⟨k,hk,a⟩:=k;have j:k<l.length→l.drop k=l.getD k (0,0) :: l.drop (k+1):=fun h=>by
    rw[OS h,AS,AT h];rfl
   have g:k<l.length→(if (l.getD k (0,0)).1=e then ((l.getD k (0,0)).2,true) else VD (l.drop (k+1)) e)=VD l e:=fun h=>by
    rw[j h]at a;exact a
   repeat'(first|exact trivial|refine eS rfl ?_|refine AB ?_|refine rX c ?_ ?_|refine rC ?_ ?_<;>intro b<;>try(cases b;done))
   ·exact eV
   ·exact eV
   ·have d:k<l.length:=by exact eV
    have a:=g d;rw[BY b]at a;exact fI c [.tmp 6,.tmp 7] (by rw[←a];exact eR)
   ·exact eV
   ·have d:k<l.length:=by exact eV
    have a:=g d;rw[At b]at a;refine⟨⟨k+1,by omega,a⟩,by simp only;omega,AC [] rfl rfl ?_ ?_⟩
    ·first|exact eN|refine eM ?_
    ·first|exact eN|refine eM ?_
   ·have hk:l.drop k=[]:=IF (by exact eV);rw[hk]at a;have a:(0,false)=VD l e:=a;exact fI c [.tmp 6,.tmp 7] (by rw[←a];exact eR)
def JF (b:List Int):List Ic→Nat→Int×Bool
 | [],_=>(0,false)
 | t :: r,k=>if t.2.1=b then ((k:Int),true) else JF b r (k+1)
def lT:Ac:={ ins:=[Lb,D7],pre:=fun _=>True,out:=fun(h,b,_)=>[.p T3 (JF b (h:AJ).1 0).1,.p .bool (JF b (h:AJ).1 0).2],lend:=true }
attribute [local go_sem] lT
theorem A0v:Ah Tryz.prog 111 lT:=by
 refine fK [0,1,2,4,5,6,11,21] Tryz.func111 Tryz.ntmps111 (AE YL AG) ?_;rintro w0 O0 ⟨⟨l,hf⟩,b,u⟩ d ⟨⟨⟨g,-⟩,-⟩,-⟩ -;simp only[AO]at g;simp only[lT,AM];repeat'(first|exact trivial|refine eS rfl ?_|refine AB ?_|refine rX d ?_ ?_|refine rC ?_ ?_<;>intro c<;>try(cases c;done))
 refine AI (ι:={k:Nat//k≤List.length l∧JF b (List.drop k l) k=JF b l 0}) (fun k=>⟨[(1,.p D7 b),(2,.bp 2 [] 0),(6,.p (.int .i64) (k.1:Int))],[(2,.box 31 true [.p M6 l,.p Nq hf])]⟩) (fun k=>List.length l-k.1) ⟨0,by simp⟩ (AC [(2,.nm 2)] rfl rfl ?_ ?_) (fun k=>?_)
 ·first|exact eN|refine eM ?_
 ·first|exact eN|refine eM ?_
 ·obtain⟨k,hk,a⟩:=k;have f:k<List.length l→(if (List.getD l k QC).2.1=b then ((k:Int),true) else JF b (List.drop (k+1) l) (k+1))=JF b l 0:=fun h=>by
   rw[OS h]at a;rw[AS,AT h];exact a
  repeat'(first|exact trivial|refine eS rfl ?_|refine AB ?_|refine rX d ?_ ?_|refine rC ?_ ?_<;>intro c<;>try(cases c;done))
  ·exact eV
  ·have e:k<List.length l:=by exact eV
   have a:=f e;have c:(List.getD l k QC).2.1=b:=by simpa[F9] using c
   rw[BY c]at a;exact fI d [.tmp 4,.tmp 5] (by rw[←a];exact eR)
  ·exact eV
  ·have e:k<List.length l:=by exact eV
   have a:=f e;have c:¬(List.getD l k QC).2.1=b:=by simpa[F9] using c
   rw[At c]at a;refine⟨⟨k+1,by omega,a⟩,by simp only;omega,AC [(2,.nm 2)] rfl rfl ?_ ?_⟩
   ·first|exact eN|refine eM ?_
   ·first|exact eN|refine eM ?_
  ·have hk:List.drop k l=[]:=IF (by exact eV);rw[hk]at a;have a:(0,false)=JF b l 0:=a;exact fI d [.tmp 4,.tmp 5] (by rw[←a];exact eR)
def Cf (h:AJ) (a b:Int):Int×Bool:=JF (EP (BP h a) (BP h b)) h.1 0
def VG:Ac:={ ins:=[Lb,T3,T3],pre:=fun(h,a,b,_)=>((0:Int)≤a∧a<(List.length (h:AJ).1:Int))∧((0:Int)≤b∧b<(List.length (h:AJ).1:Int))∧(∀x∈(h:AJ).1,x.2.1.length≤100000),out:=fun(h,a,b,_)=>[.p T3 (Cf h a b).1,.p .bool (Cf h a b).2],lend:=true }
attribute [local go_sem] VG
theorem A0w:Ah Tryz.prog 73 VG:=by
 refine fK [0,1,2,3,6,7] Tryz.func73 Tryz.ntmps73 (AE A0v (AE kJ AG)) ?_;rintro w0 O0 ⟨⟨c,hf⟩,a,b,u⟩ d-⟨ha,g,i⟩;simp only[VG,AM];have h:∀x:Int,0≤x∧x<(List.length c:Int)→List.length (BP (c,hf) x)≤100000:=fun x h1=>by
  have f:Int.toNat x<List.length c:=(AC3 h1.1).2 h1.2;exact i _ (AD (c:List Ic) QC f)
 repeat'(first|exact trivial|refine eS rfl ?_|refine AB ?_|refine rX d ?_ ?_|refine rC ?_ ?_<;>intro e<;>try(cases e;done))
 ·refine⟨ha,g,?_⟩;exact h a ha
 ·exact fI d [.tmp 6,.tmp 7] (by unfold Cf BP;exact eR)
end
section
attribute [local go_sem] VG
def A6z (h:AJ) (l:List AF) (c:List Int):Nat→Option (List Int)
 | 0=>some (List.replicate l.length 0)
 | i+1=>match A6z h l c i with
  | none=>none
  | some o=>if (Cf h (o.getD (c.getD i 0).toNat 0) (l.getD i (0,[])).1).2=true then some (o.set (c.getD i 0).toNat (Cf h (o.getD (c.getD i 0).toNat 0) (l.getD i (0,[])).1).1) else none
def A0x (h:AJ) (l:List AF) (c:List Int):List Int×Bool:=match A6z h l c l.length with
 | none=>([],false)
 | some o=>((List.range l.length).map fun(k:Nat)=>o.getD (c.getD k 0).toNat 0,true)
def A7b (n:Nat) (c:List Int):Prop:=c.length=n∧∀k:Nat,k<n→0≤c.getD k 0∧c.getD k 0≤(k:Int)∧c.getD (c.getD k 0).toNat 0=c.getD k 0
def A0y:Ac:={ ins:=[Lb,Et,I4],pre:=fun(h,l,c,_)=>A7b (List.length l) c∧Uw h l∧0<List.length (h:AJ).1∧List.length l≤100000∧(∀x∈(h:AJ).1,x.2.1.length≤100000),out:=fun(h,l,c,_)=>[.p I4 (A0x h l c).1,.p .bool (A0x h l c).2] }
attribute [local go_sem] A0y
end
section
attribute [local go_sem] VE d7
attribute [local go_sem] Tf jI ne_eq not_false_eq_true
end
inductive EQ (n:Nat) (o:List Int) (W:List (Int×Int)):Int→Int→Prop
 | cls {x y:Int} (x0:0≤x) (x1:x<(n:Int)) (y0:0≤y) (y1:y<(n:Int)) (h:o.getD x.toNat 0=o.getD y.toNat 0):EQ n o W x y
 | wt {x y:Int} (h:(x,y)∈W):EQ n o W x y
 | symm {x y:Int} (h:EQ n o W x y):EQ n o W y x
 | trans {x y z:Int} (h:EQ n o W x y) (g:EQ n o W y z):EQ n o W x z
theorem EQ.mono {n:Nat} {o b:List Int} {W a:List (Int×Int)} (h1:∀x y,0≤x→x<(n:Int)→0≤y→y<(n:Int)→o.getD x.toNat 0=o.getD y.toNat 0→EQ n b a x y) (c:∀x y,(x,y)∈W→EQ n b a x y) {x y:Int} (h:EQ n o W x y):EQ n b a x y:=by
 induction h with
 | cls g i j k h=>exact h1 _ _ g i j k h
 | wt h=>exact c _ _ h
 | symm _ d=>exact .symm d
 | trans _ _ e f=>exact .trans e f
theorem EQ.nil {n:Nat} {o:List Int} {x y:Int} (h:EQ n o [] x y):o.getD x.toNat 0=o.getD y.toNat 0:=by
 induction h with
 | cls _ _ _ _ h=>exact h
 | wt h=>cases h
 | symm _ a=>exact a.symm
 | trans _ _ b c=>exact b.trans c
section
variable {h:AJ} {N:List AF} {P:List (Int×Int)} {o:List Int} {ar:List (List (Int×Int))} {W:List (Int×Int)} {w:Int×Int}
end
def lU (h:AJ):Prop:=∀t∈h.1,Nrm t.2.1
theorem VH {b:List Int}:∀ {l:List Ic} {k:Nat},(JF b l k).2=true→∃j:Nat,j<l.length∧(JF b l k).1=((k+j:Nat):Int)∧(l.getD j QC).2.1=b
 | [],k,h=>by cases h
 | t :: r,k,h=>by
  unfold JF at h ⊢;by_cases e:t.2.1=b
  ·rw[BY e];exact⟨0,by simp,by simp,by simpa using e⟩
  ·rw[At e]at h ⊢;obtain⟨j,h1,a,c⟩:=VH h;exact⟨j+1,by simp only[No];omega,by rw[a];congr 1;omega,by simpa using c⟩
theorem gX {b:List Int}:∀ {l:List Ic} {k:Nat},(∃t∈l,t.2.1=b)→(JF b l k).2=true
 | [],k,⟨t,c,_⟩=>by cases c
 | t :: r,k,⟨u,hu,e⟩=>by
  unfold JF;by_cases a:t.2.1=b
  ·rw[BY a]
  ·rw[At a];rcases GO.1 hu with rfl|hu
   ·exact absurd e a
   ·exact gX ⟨u,hu,e⟩
theorem tD {h:AJ} (hk:Jf h) (hn:lU h) {a b:Int} (a0:0≤a) (g:a<(h.1.length:Int)) (k:0≤b) (b1:b<(h.1.length:Int)) :
  ((Cf h a b).2=true→0≤(Cf h a b).1∧(Cf h a b).1<(h.1.length:Int)∧∀i,f9 h (Cf h a b).1 i=(f9 h a i&&f9 h b i))∧((∃i,f9 h a i=true∧f9 h b i=true)→(Cf h a b).2=true):=by
 have d:=hk.1.wds _ (B4 a0 g);have f:=hk.1.wds _ (B4 k b1);refine⟨fun o=>?_,fun hi=>?_⟩
 ·obtain⟨j,h1,c,n⟩:=VH o;have c:(Cf h a b).1=((0+j:Nat):Int):=c;refine⟨by omega,by omega,fun i=>?_⟩;have e:BP h (Cf h a b).1=EP (BP h a) (BP h b):=by
   rw[←n];unfold BP;rw[c];simp
  unfold f9;rw[e,K0 d f]
 ·obtain⟨t,l,e⟩:=hk.1.meet _ (B4 a0 g) _ (B4 k b1) hi;obtain⟨x,m,rfl⟩:=If.1 l;exact gX ⟨x,m,Yi (hk.1.wds _ l) (Mq d f) (hn x m) (K2 _) fun i=>by rw[e i,K0 d f]⟩
theorem Hm {h:AJ} (hk:Jf h) (hn:lU h) {a b:Int} (a0:0≤a) (l:a<(h.1.length:Int)) (m:0≤b) (b1:b<(h.1.length:Int)) :
  ((Cf h a b).2=true→0≤(Cf h a b).1∧(Cf h a b).1<(h.1.length:Int)∧A8 h a (Cf h a b).1=true∧A8 h b (Cf h a b).1=true) ∧
  ∀x,0≤x→x<(h.1.length:Int)→A8 h a x=true→A8 h b x=true→(Cf h a b).2=true∧A8 h (Cf h a b).1 x=true:=by
 obtain⟨q,t⟩:=tD hk hn a0 l m b1;refine⟨fun e=>?_,fun x g k r s=>?_⟩
 ·obtain⟨c,d,f⟩:=q e;refine⟨c,d,(Bl hk a0 l c d).2 fun i hi=>?_,(Bl hk m b1 c d).2 fun i hi=>?_⟩
  ·rw[f i,An]at hi;exact hi.1
  ·rw[f i,An]at hi;exact hi.2
 ·have n:=(Bl hk a0 l g k).1 r;have o:=(Bl hk m b1 g k).1 s;obtain⟨i,hi⟩:=hk.1.some _ (B4 g k);have e:=t ⟨i,n i hi,o i hi⟩;obtain⟨c,d,f⟩:=q e;refine⟨e,(Bl hk c d g k).2 fun j p=>?_⟩;rw[f j,An];exact⟨n j p,o j p⟩
section
variable {h:AJ} {N:List AF} {c:List Int}
end
section
variable {d:List AH}
theorem KD (d:List AH):((Bd d).1.map fun t=>t.2.1)=(AL d).map fun x=>x.2:=by
 show ((EU _ _ _).map fun t=>t.2.1)=_;unfold EU;rw[ABD];apply AA8
 ·simp
 ·intro i h1 a;simp[AS,show i<(AL d).length by simpa using h1]
theorem VI (d:List AH):(Bd d).1.length=(AL d).length:=J6 _ _ _
theorem A0z (d:List AH) {k:Nat} (hk:k<(AL d).length):(Bd d).1.getD k QC=(((AL d).getD k c0).1,((AL d).getD k c0).2,XC (AL d) (k:Int),(A7 d).1.getD k []):=by
 unfold Bd EU;simp[AS,hk]
theorem Mx (d:List AH) {t:Int} (a:0≤t) (b:t<((AL d).length:Int)):BP (Bd d) t=((AL d).getD t.toNat c0).2:=by
 unfold BP;rw[A0z d (by omega)]
theorem gY (a:Ar d=0):(A7 d).2=0∧(A7 d).1=J5 d (AL d) (A9 d) (AL d).length:=by
 unfold A7;rw[At (by rw[a];simp)];exact⟨rfl,rfl⟩
theorem Pt (a:Ar d=0):(Ap d).1=Bd d:=by
 unfold Ap;rw[At (by rw[(gY a).1];simp)]
theorem A33 (b:Ar d=0):Jf (Bd d)∧Nd ((Bd d).1.map fun t=>t.2.1):=by
 have h1:=Gw d;have a:=VC d;rw[Pt b]at h1 a;exact⟨h1,a⟩
theorem Pu (a:Ar d=0):(Bd d).2=(A9 d).map (Ph d):=by
 unfold Bd EF;rw[At (by rw[a];simp)]
theorem lV (a:Ar d=0) {t:Int} (b:0≤t) (c:t<((AL d).length:Int)):Ba (Bd d) t=M8 d (AL d) (A9 d) t.toNat (A9 d).length:=by
 unfold Ba;rw[A0z d (by omega)];show (A7 d).1.getD t.toNat []=_;rw[(gY a).2];unfold J5;simp[AS,show t.toNat<(AL d).length by omega]
theorem lW (a:Ar d=0):A3 d=0∧(B3 d).1=AL d∧Kx d=0∧(∀s∈A9 d,(DW d s).2=true)∧Ia d (AL d) (A9 d) (AL d).length=false:=by
 obtain⟨b,-,f⟩:=B7 a;obtain⟨e,-,c⟩:=BS b;refine⟨e,c,f,?_,?_⟩
 ·unfold Ar at a;split at a
  ·rename_i h;exact absurd b h
  ·split at a
   ·cases a
   ·split at a
    ·rename_i h;exact absurd a h
    ·split at a
     ·cases a
     ·rename_i h;exact Do.1 (by simpa using h)
 ·unfold Ar at a;split at a
  ·rename_i h;exact absurd b h
  ·split at a
   ·cases a
   ·split at a
    ·rename_i h;exact absurd a h
    ·split at a
     ·cases a
     ·split at a
      ·cases a
      ·rename_i h;rw[c]at h;simpa using h
def Cd (l:List (List Int)) (c:List Int):Prop:=c=[]∨c∈l
theorem A0A {l:List (List Int)} (hk:JB l) {c:List Int} (h:Cd l c):IW c:=by
 rcases h with rfl|h
 ·exact fun x a=>by cases a
 ·exact hk.wds c h
theorem A3S {l:List (List Int)} (hk:JB l) (hn:Nd l) {a b:List Int} (ha:Cd l a) (j:b∈l):Cd l (EP a b):=by
 have f:=A0A hk ha;have g:=hk.wds b j;have m:Nrm (EP a b):=by unfold EP;exact K2 _
 have k:=fun i=>K0 f g i;by_cases hi:∃i,BA a i=true∧BA b i=true
 ·rcases ha with rfl|ha
  ·obtain⟨i,h1,-⟩:=hi;unfold BA at h1;simp at h1
  ·obtain⟨t,d,e⟩:=hk.meet a ha b j hi;right;rw[Yi (Mq f g) (hk.wds t d) m (hn.nrm t d) fun i=>by rw[k,e]];exact d
 ·left;refine DO fun n=>?_;unfold EP at n;have o:IW (EP a b):=Mq f g;have:∃i,BA (EP a b) i=true:=by
   have c:=m;rcases c with c|c
   ·exact absurd (aT c) n
   ·exact f8 o c
  obtain⟨i,h⟩:=this;rw[k,An]at h;exact hi ⟨i,h⟩
def UsD (d:List AH) (t:Int) (s:ByteArray) (x:AH):Prop:=(DD x s).2=true∧A8 (Bd d) (BJ (AL d) x.1) t=true
def vcD (d:List AH) (s:ByteArray) (x:AH):List Int:=((AL d).getD (BJ (AL d) (DD x s).1).toNat c0).2
theorem Sq (hn:k7 d (AL d)) {x:AH} (a:x∈d):0≤BJ (AL d) x.1∧BJ (AL d) x.1<((AL d).length:Int):=⟨hn.1 x a,IZ _ _⟩
theorem A0B (hn:k7 d (AL d)) {x:AH} (b:x∈d) {s:ByteArray} (a:(DD x s).2=true):0≤BJ (AL d) (DD x s).1∧BJ (AL d) (DD x s).1<((AL d).length:Int):=⟨hn.value b a,IZ _ _⟩
theorem oU (d:List AH) {k:Int} (a:0≤k) (b:k<((AL d).length:Int)):((AL d).getD k.toNat c0).2∈(AL d).map fun x=>x.2:=If.2 ⟨_,BC (by omega),rfl⟩
theorem tE (hk:Jf (Bd d)) {a t:Int} (a0:0≤a) (f:a<((AL d).length:Int)) (b:0≤t) (g:t<((AL d).length:Int)):LR (AL d) a t=A8 (Bd d) a t:=by
 have i:=VI d;have c:a<((Bd d).1.length:Int):=by omega
 have e:t<((Bd d).1.length:Int):=by omega
 have h:=hk.1.wds _ (B4 a0 c);have wt:=hk.1.wds _ (B4 b e);rw[AB7];unfold LR;rw[←Mx d a0 f,←Mx d b g,GW wt h];exact(Bl hk a0 c b e).symm
theorem Yx (hk:Jf (Bd d)) (h:Nd ((Bd d).1.map fun t=>t.2.1)) (hn:k7 d (AL d)) {t:Int} (n:0≤t) (p:t<((AL d).length:Int)) (s:ByteArray):∀(r:List AH) (o:List Int×Bool),(∀x∈r,x∈d)→Cd ((AL d).map fun x=>x.2) o.1 →
  Cd ((AL d).map fun x=>x.2) (r.foldl (J4 (AL d) t s) o).1∧((r.foldl (J4 (AL d) t s) o).2=true↔o.2=true∨∃x∈r,UsD d t s x)∧∀i,BA (r.foldl (J4 (AL d) t s) o).1 i=true↔BA o.1 i=true∧∀x∈r,UsD d t s x→BA (vcD d s x) i=true
 | [],o,_,g=>⟨g,by simp,fun i=>by simp⟩
 | x :: r,o,hr,g=>by
  rw[KD]at h;have m:JB ((AL d).map fun x=>x.2):=by have:=hk.1;rwa [KD]at this
  have v:=hr x (by simp);obtain⟨n0,n1⟩:=Sq hn v;have q:=tE hk n0 n1 n p;rw[TO];by_cases hu:UsD d t s x
  ·obtain⟨v0,v1⟩:=A0B hn v hu.1;have e:J4 (AL d) t s o x=(EP o.1 (vcD d s x),true):=by
    unfold J4;rw[At]
    ·rfl
    ·rw[hu.1,q,hu.2];simp
   have u:vcD d s x∈(AL d).map fun x=>x.2:=oU d v0 v1;obtain⟨h1,k,l⟩:=Yx hk (by rw[KD];exact h) hn n p s r (J4 (AL d) t s o x) (fun y f=>hr y (by simp[f])) (by rw[e];exact A3S m h g u);refine⟨h1,?_,fun i=>?_⟩
   ·rw[k,e];exact⟨fun _=>.inr ⟨x,by simp,hu⟩,fun _=>.inl rfl⟩
   ·rw[l,e];simp only;rw[K0 (A0A m g) (m.wds _ u),An];constructor
    ·rintro⟨⟨a,b⟩,c⟩;refine⟨a,fun y f j=>?_⟩;rcases GO.1 f with rfl|f
     ·exact b
     ·exact c y f j
    ·rintro⟨a,b⟩;exact⟨⟨a,b x (by simp) hu⟩,fun y f=>b y (by simp[f])⟩
  ·have e:J4 (AL d) t s o x=o:=by
    unfold J4;rw[BY];rw[q];unfold UsD at hu;cases h1:(DD x s).2 with
    | false=>simp
    | true =>
     rw[h1]at hu;have:A8 (Bd d) (BJ (AL d) x.1) t=false:=by simpa using hu
     rw[this];simp
   obtain⟨h1,k,l⟩:=Yx hk (by rw[KD];exact h) hn n p s r (J4 (AL d) t s o x) (fun y f=>hr y (by simp[f])) (by rw[e];exact g);refine⟨h1,?_,fun i=>?_⟩
   ·rw[k,e];constructor
    ·rintro (a|⟨y,f,a⟩)
     ·exact .inl a
     ·exact .inr ⟨y,by simp[f],a⟩
    ·rintro (a|⟨y,f,a⟩)
     ·exact .inl a
     ·rcases GO.1 f with rfl|f
      ·exact absurd a hu
      ·exact .inr ⟨y,f,a⟩
   ·rw[l,e];constructor
    ·rintro⟨a,b⟩;refine⟨a,fun y f j=>?_⟩;rcases GO.1 f with rfl|f
     ·exact absurd j hu
     ·exact b y f j
    ·rintro⟨a,b⟩;exact⟨a,fun y f=>b y (by simp[f])⟩
theorem VJ {b:List Int}:∀ {l:List AP} {k:Nat},(∃x∈l,x.2=b)→∃j:Nat,j<l.length∧PT b k l=((k+j:Nat):Int)∧(l.getD j c0).2=b
 | [],k,⟨x,a,_⟩=>by cases a
 | y :: l,k,⟨x,a,e⟩=>by
  unfold PT;by_cases h:F9 y.2 b=true
  ·rw[BY h];exact⟨0,by simp,rfl,by simpa[F9] using h⟩
  ·rw[At h];rcases GO.1 a with rfl|a
   ·exact absurd (by simpa[F9] using e) h
   ·obtain⟨j,h1,c,d⟩:=VJ (k:=k+1) ⟨x,a,e⟩;exact⟨j+1,by simp only[No];omega,by rw[c];congr 1;omega,by simpa using d⟩
theorem lX {b:List Int} (h:Nrm b):BI b=b:=by
 unfold BI;have:CX b b.length=b.length:=by
  rcases h with h|h
  ·rw[h];rfl
  ·cases e:b.length with
   | zero=>rfl
   | succ m =>
    rw[e]at h;show (if b.getD m 0=0 then CX b m else m+1)=m+1;rw[At (by simpa using h)]
 rw[this,f5]
theorem Pv (b:Ar d=0) {t:Int} (z:0≤t) (J:t<((AL d).length:Int)) {s:ByteArray} (hs:s∈A9 d) :
  ((Ez d (AL d) t s).2=true↔∃x∈d,UsD d t s x)∧((Ez d (AL d) t s).2=true→(0≤HG (AL d) (Ez d (AL d) t s).1∧HG (AL d) (Ez d (AL d) t s).1<((AL d).length:Int)) ∧
   ∀i,BA (BP (Bd d) (HG (AL d) (Ez d (AL d) t s).1)) i=true↔∀x∈d,UsD d t s x→BA (vcD d s x) i=true):=by
 obtain⟨n,-,D,-,u⟩:=lW b;obtain⟨hk,p⟩:=A33 b;have hn:=Pg n D;have L:=n7 n;have r:=gW d;rw[Pt b]at r;have K:JB ((AL d).map fun x=>x.2):=by have:=hk.1;rwa [KD]at this
 have q:=p;rw[KD]at q;have A:=oU d (ACd 0) (by omega:(0:Int)<((AL d).length:Int));obtain⟨g,a,m⟩:=Yx hk p hn z J s d (((AL d).getD 0 c0).2,false) (fun x f=>f) (.inr A);have e:Ez d (AL d) t s=d.foldl (J4 (AL d) t s) (((AL d).getD 0 c0).2,false):=rfl;rw[←e]at g a m;refine⟨by rw[a];simp,fun hu=>?_⟩;have E:(Ez d (AL d) t s).1≠[]:=by
  intro G;have h1:Kz d (AL d) t.toNat s=true:=by
   unfold Kz;rw[AAW z,hu,G];rfl
  have B:Ia d (AL d) (A9 d) (AL d).length=true:=by
   unfold Ia;refine Of.2 ⟨t.toNat,iS.2 (by omega),?_⟩;unfold Yc;exact Of.2 ⟨s,hs,h1⟩
  rw[B]at u;cases u
 have o:(Ez d (AL d) t s).1∈(AL d).map fun x=>x.2:=g.resolve_left E;obtain⟨x,f,ex⟩:=If.1 o;obtain⟨j,M,H,I⟩:=VJ (l:=AL d) (k:=0) ⟨x,f,ex⟩;have hf:HG (AL d) (Ez d (AL d) t s).1=(j:Int):=by
  unfold HG;rw[lX (q.nrm _ o),H];simp
 rw[hf];refine⟨⟨oN _,by omega⟩,fun i=>?_⟩;rw[Mx d (oN _) (by omega),f7,I,m];constructor
 ·exact fun h=>h.2
 ·intro h;refine⟨?_,h⟩;obtain⟨y,v,w⟩:=(a.1 hu).resolve_left (by simp);obtain⟨v0,v1⟩:=A0B hn v w.1;have C:=h y v w;have c:=VI d;have F:=r _ v0 (by rw[c];exact v1);have:=(Bl hk (ACd 0) (by rw[c];omega) v0 (by rw[c];exact v1)).1 F i;unfold f9 at this;rw[Mx d (ACd 0) (by omega),Mx d v0 v1]at this;exact this C
theorem Q6 {s:ByteArray}:∀ {r:List AH} {o:List ByteArray} {y:ByteArray},y∈r.foldl (HP s) o→y∈o∨∃x∈r,x.1=y∧(DD x s).2=true
 | [],_,_,h=>.inl h
 | x :: r,o,y,h=>by
  rw[TO]at h;rcases Q6 h with h|⟨z,b,h⟩
  ·unfold HP at h;split at h
   ·rename_i a;rcases Gq h with h|h
    ·exact .inl h
    ·exact .inr ⟨x,by simp,h.symm,a⟩
   ·exact .inl h
  ·exact .inr ⟨z,by simp[b],h⟩
theorem VK {s:ByteArray} (h:(DW d s).2=true):∃x∈d,x.1=(DW d s).1∧(DD x s).2=true:=by
 unfold DW at h ⊢;split
 ·rename_i h1;have a:(Ay d (FH d s)).getD 0 ByteArray.empty∈Ay d (FH d s):=BC (by omega);exact(Q6 (He a)).resolve_left (by simp)
 ·rename_i h1;rw[At h1]at h;cases h
theorem lY (d:List AH):Sk (Ap d).1:=by
 by_cases a:Ar d=0
 ·rw[Pt a];obtain⟨h,-,j,l,-⟩:=lW a;have hn:=Pg h j;have f:=VI d;refine⟨fun x b=>?_,fun t c p hp=>?_⟩
  ·rw[Pu a]at b;obtain⟨s,hs,rfl⟩:=If.1 b;obtain⟨y,m,e,-⟩:=VK (l s hs);rw[f];show 0≤BJ (AL d) (DW d s).1∧BJ (AL d) (DW d s).1<((AL d).length:Int);rw[←e];exact Sq hn m
  ·obtain⟨k,hk,e⟩:=CC QC c;rw[f]at hk ⊢;have hr:=lV a (t:=(k:Int)) (oN _) (by omega);unfold Ba at hr;rw[f7,e]at hr;rw[hr]at hp;unfold M8 at hp;obtain⟨i,hi,rfl⟩:=If.1 hp;obtain⟨h1,g⟩:=AA4.1 hi;have h1:=iS.1 h1;exact((Pv a (t:=(k:Int)) (oN _) (by omega) (BC h1)).2 g).1
 ·have:(Ap d).1=([],[]):=by
   unfold Ap A7;rw[BY a,BY a]
  rw[this];exact⟨fun x b=>(by cases b),fun t c=>(by cases c)⟩
end
structure HAp (h:AJ):Prop where
 iff:∀t f,0≤t→t<(h.1.length:Int)→0≤f→f<(h.2.length:Int)→((Aw h t f).2=true↔A8 h (J7 h f) t=true)
 mono:∀t t' f,0≤t→t<(h.1.length:Int)→0≤t'→t'<(h.1.length:Int)→0≤f→f<(h.2.length:Int)→A8 h t t'=true→(Aw h t f).2=true→A8 h (Aw h t f).1 (Aw h t' f).1=true
def G2 (h:AJ) (m:Nat) (u:List Int):Prop:=u.length=m∧∀t∈u,0≤t∧t<(h.1.length:Int)
theorem G2.get {h:AJ} {m:Nat} {u:List Int} (hu:G2 h m u) {n:Nat} (n1:n<m):0≤u.getD n 0∧u.getD n 0<(h.1.length:Int):=by
 have a:n<u.length:=by rw[hu.1];exact n1
 rw[AS,AT a];exact hu.2 _ (AA7 a)
theorem Mr.tyl {h:AJ} {m:Nat} {s:EB} (hs:Mr h m s):G2 h m s.1:=⟨hs.len,hs.ty⟩
def Fe (h:AJ) (m:Nat) (u v:List Int):Prop:=∀i,i<m→A8 h (u.getD i 0) (v.getD i 0)=true
def VL (h:AJ) (u:List Int) (n:Int) (l:List (Int×Int)):Prop:=∀a∈l,(Aw h (u.getD n.toNat 0) a.1).2=true∧A8 h (Aw h (u.getD n.toNat 0) a.1).1 (u.getD a.2.toNat 0)=true
def WTy (h:AJ) (f:List AF) (u:List Int):Prop:=∀i,i<f.length→VL h u (i:Int) (f.getD i (0,[])).2
theorem Fe.refl {h:AJ} (hk:Jf h) {m:Nat} {u:List Int} (hu:G2 h m u):Fe h m u u:=fun i hi=>Mt hk (hu.get hi).1 (hu.get hi).2
theorem Fe.trans {h:AJ} (hk:Jf h) {m:Nat} {u v w:List Int} (hu:G2 h m u) (a:G2 h m v) (b:G2 h m w) (h1:Fe h m u v) (c:Fe h m v w):Fe h m u w:=fun i hi =>
 F0 hk (hu.get hi).1 (hu.get hi).2 (a.get hi).1 (a.get hi).2 (b.get hi).1 (b.get hi).2 (h1 i hi) (c i hi)
theorem Fe.anti {h:AJ} (hi:HH h) {m:Nat} {u v:List Int} (hu:G2 h m u) (b:G2 h m v) (h1:Fe h m u v) (d:Fe h m v u):u=v:=by
 refine AA8 (by rw[hu.1,b.1]) fun i c e=>?_;have a:i<m:=by rw[←hu.1];exact c
 have:=hi _ _ (hu.get a).1 (hu.get a).2 (b.get a).1 (b.get a).2 (h1 i a) (d i a)
 rwa [AS,AT c,AS,AT e]at this
structure oV (h:AJ) (m:Nat) (s s':EB):Prop where
 up:Fe h m s.1 s'.1
 pre:s.2 <+: s'.2
 ch:∀k:Nat,k<m→s'.1.getD k 0=s.1.getD k 0∨(k:Int)∈s'.2.drop s.2.length
theorem oV.refl {h:AJ} (hk:Jf h) {m:Nat} {s:EB} (hs:Mr h m s):oV h m s s:=⟨Fe.refl hk hs.tyl,AAD _,fun _ _=>.inl rfl⟩
theorem Q7 {l l':List Int} (hp:l <+: l') {n:Nat} {x:Int} (h:x∈l.drop n):x∈l'.drop n:=by
 obtain⟨r,rfl⟩:=hp;rw[ACE];exact ABb _ h
theorem Pw {l:List Int} {a b:Nat} (c:a≤b) {x:Int} (h:x∈l.drop b):x∈l.drop a:=by
 have:l.drop b=(l.drop a).drop (b-a):=by rw[ABJ];congr 1;omega
 rw[this]at h;exact AAG h
theorem oV.trans {h:AJ} (hk:Jf h) {m:Nat} {a b c:EB} (ha:Mr h m a) (i:Mr h m b) (j:Mr h m c) (h1:oV h m a b) (d:oV h m b c):oV h m a c:=by
 refine⟨h1.up.trans hk ha.tyl i.tyl j.tyl d.up,h1.pre.trans d.pre,fun k g=>?_⟩;rcases d.ch k g with f|f
 ·rcases h1.ch k g with e|e
  ·exact .inl (f.trans e)
  ·exact .inr (Q7 d.pre e)
 ·exact .inr (Pw h1.pre.length_le f)
theorem Q8 {h:AJ} (hk:Jf h) (hi:HH h) {m:Nat} {s c:EB} (hs:Mr h m s) {n t:Int} (n0:0≤n) (n1:n<(m:Int)) (f:0≤t) (g:t<(h.1.length:Int)) (e:DE h s n t=some c) :
  oV h m s c∧A8 h t (c.1.getD n.toNat 0)=true:=by
 have r:=(Er hk hi hs n0 n1 f g e).1;obtain⟨i,j⟩:=hs.get n0 n1;unfold DE at e;split at e
 ·rename_i o;obtain⟨u,w,q,d⟩:=(Ub hk i j f g).1 o;generalize (Dj h (s.1.getD n.toNat 0) t).1=v at *;injection e with e
  split at e
  ·rename_i p;subst e;exact⟨oV.refl hk hs,by rw[←p];exact d⟩
  ·subst e;have l:n.toNat<s.1.length:=by rw[hs.len];omega
   have a:∀k:Nat,(s.1.set n.toNat v).getD k 0=if k=n.toNat then v else s.1.getD k 0:=fun k=>Fd _ _ _ l k
   refine⟨⟨fun k b=>?_,ACl _ _,fun k b=>?_⟩,?_⟩
   ·simp only;rw[a];split
    ·rename_i e;rw[e];exact q
    ·exact Mt hk (hs.tyl.get b).1 (hs.tyl.get b).2
   ·simp only;rw[a];split
    ·rename_i e;right;rw[ACE,AB4,AAj];exact ABZ _ (by simp;omega)
    ·exact .inl rfl
   ·simp only;rw[a,BY rfl];exact d
 ·cases e
theorem XX {h:AJ} (hk:Jf h) (hi:HH h) {m:Nat} {s:EB} (hs:Mr h m s) {n t:Int} (n0:0≤n) (n1:n<(m:Int)) (p:0≤t) (q:t<(h.1.length:Int)) {u:List Int} (hu:G2 h m u) (a:Fe h m s.1 u) (j:A8 h t (u.getD n.toNat 0)=true) :
  ∃c,DE h s n t=some c∧Fe h m c.1 u:=by
 obtain⟨d,f⟩:=hs.get n0 n1;have b:n.toNat<m:=by omega
 obtain⟨r,v⟩:=hu.get b;obtain⟨l,o⟩:=(Ub hk d f p q).2 _ r v (a _ b) j;unfold DE;rw[BY l];refine⟨_,rfl,?_⟩;split
 ·exact a
 ·intro k g;have i:n.toNat<s.1.length:=by rw[hs.len];omega
  simp only;rw[Fd _ _ _ i k];split
  ·rename_i e;rw[e];exact o
  ·exact a k g
section
variable {h:AJ} (hk:Jf h) (hi:HH h) (hf:Sk h) (hap:HAp h) {m:Nat} {n:Int} (n0:0≤n) (n1:n<(m:Int))
include hk hi hf n0 n1
theorem Yy:∀ {l:List (Int×Int)} {s c:EB},(∀a∈l,Ew h m a)→Mr h m s→MJ h n l s=some c→oV h m s c∧∀a∈l,A8 h (J7 h a.1) (c.1.getD n.toNat 0)=true
 | [],s,c,_,hs,e=>by
  injection e with e
  subst e;exact⟨oV.refl hk hs,fun a ha=>by cases ha⟩
 | a :: l,s,c,o,hs,e=>by
  unfold MJ at e;cases g:DE h s n (J7 h a.1) with
  | none=>rw[g]at e;cases e
  | some s1 =>
   rw[g]at e;obtain⟨⟨a0,r⟩,-⟩:=o a (by simp);obtain⟨j,k⟩:=Gx hf a0 r;obtain⟨d,-,-⟩:=Er hk hi hs n0 n1 j k g;obtain⟨u,v⟩:=Q8 hk hi hs n0 n1 j k g;have p:∀b∈l,Ew h m b:=fun b f=>o b (bY _ f);have e:MJ h n l s1=some c:=e;obtain⟨q,t⟩:=Yy p d e;have i:=(Pn hk hi hf n0 n1 p d e).1;refine⟨u.trans hk hs d i q,fun b f=>?_⟩;rcases GO.1 f with rfl|f
   ·exact F0 hk j k (d.get n0 n1).1 (d.get n0 n1).2 (i.get n0 n1).1 (i.get n0 n1).2 v (q.up _ (by omega))
   ·exact t b f
theorem oW:∀ {l:List (Int×Int)} {s c:EB},(∀a∈l,Ew h m a)→Mr h m s→M9 h n l s=some c→oV h m s c∧(n∈c.2.drop s.2.length∨(c.1.getD n.toNat 0=s.1.getD n.toNat 0∧∀a∈l,(Aw h (s.1.getD n.toNat 0) a.1).2=true∧A8 h (Aw h (s.1.getD n.toNat 0) a.1).1 (c.1.getD a.2.toNat 0)=true))
 | [],s,c,_,hs,e=>by
  injection e with e
  subst e;exact⟨oV.refl hk hs,.inr ⟨rfl,fun a ha=>by cases ha⟩⟩
 | a :: l,s,c,t,hs,e=>by
  unfold M9 at e;split at e
  ·rename_i v;obtain⟨w,x⟩:=hs.get n0 n1;obtain⟨o,p⟩:=Ej hf w x v;cases j:DE h s a.2 (Aw h (s.1.getD n.toNat 0) a.1).1 with
   | none=>rw[j]at e;cases e
   | some s1 =>
    rw[j]at e;obtain⟨-,d,b1⟩:=t a (by simp);obtain⟨g,-,-⟩:=Er hk hi hs d b1 o p j;obtain⟨r,A⟩:=Q8 hk hi hs d b1 o p j;have u:∀b∈l,Ew h m b:=fun b f=>t b (bY _ f);have e:M9 h n l s1=some c:=e;obtain⟨q,i⟩:=oW u g e;have k:=(Sl hk hi hf n0 n1 u g e).1;refine⟨r.trans hk hs g k q,?_⟩;have y:((n.toNat:Nat):Int)=n:=AAW n0;rcases r.ch n.toNat (by omega) with c1|c1
    ·rcases i with i|⟨i,z⟩
     ·exact .inl (Pw r.pre.length_le i)
     ·refine .inr ⟨i.trans c1,fun b f=>?_⟩;rcases GO.1 f with rfl|f
      ·exact⟨v,F0 hk o p (g.get d b1).1 (g.get d b1).2 (k.get d b1).1 (k.get d b1).2 A (q.up _ (by omega))⟩
      ·have:=z b f
       rwa [c1]at this
    ·rw[y]at c1;exact .inl (Q7 q.pre c1)
  ·cases e
include hap
theorem oX {u:List Int} (hu:G2 h m u):∀ {l:List (Int×Int)} {s:EB},(∀a∈l,Ew h m a)→Mr h m s→Fe h m s.1 u→(∀a∈l,(Aw h (u.getD n.toNat 0) a.1).2=true)→∃c,MJ h n l s=some c∧Fe h m c.1 u
 | [],s,_,_,e,_=>⟨s,rfl,e⟩
 | a :: l,s,i,hs,e,j=>by
  obtain⟨⟨a0,f⟩,-⟩:=i a (by simp);obtain⟨k,o⟩:=Gx hf a0 f;obtain⟨t,v⟩:=hu.get (show n.toNat<m by omega);obtain⟨s1,g,h1⟩:=XX hk hi hs n0 n1 k o hu e ((hap.iff _ _ t v a0 f).1 (j a (by simp)));obtain⟨q,-,-⟩:=Er hk hi hs n0 n1 k o g;obtain⟨c,p,r⟩:=oX hu (fun b d=>i b (bY _ d)) q h1 fun b d=>j b (bY _ d);exact⟨c,by unfold MJ;rw[g];exact p,r⟩
theorem oY {u:List Int} (hu:G2 h m u):∀ {l:List (Int×Int)} {s:EB},(∀a∈l,Ew h m a)→Mr h m s→Fe h m s.1 u→(∀a∈l,A8 h (J7 h a.1) (s.1.getD n.toNat 0)=true)→VL h u n l→∃j,M9 h n l s=some j∧Fe h m j.1 u
 | [],s,_,_,f,_,_=>⟨s,rfl,f⟩
 | a :: l,s,p,hs,f,x,y=>by
  obtain⟨⟨a0,v⟩,k,b1⟩:=p a (by simp);obtain⟨d,e⟩:=hs.get n0 n1;have q:n.toNat<m:=by omega
  have w:a.2.toNat<m:=by omega
  obtain⟨z,A⟩:=hu.get q;have r:=(hap.iff _ _ d e a0 v).2 (x a (by simp));obtain⟨g,i⟩:=Ej hf d e r;obtain⟨H,I⟩:=y a (by simp);obtain⟨v0,v1⟩:=Ej hf z A H;have D:=hap.mono _ _ a.1 d e z A a0 v (f _ q) r;obtain⟨s1,o,h1⟩:=XX hk hi hs k b1 g i hu f (F0 hk g i v0 v1 (hu.get w).1 (hu.get w).2 D I);obtain⟨t,-,-⟩:=Er hk hi hs k b1 g i o;obtain⟨G,-⟩:=Q8 hk hi hs k b1 g i o;obtain⟨j,B,C⟩:=oY hu (fun b c=>p b (bY _ c)) t h1 (fun b c=>by
   obtain⟨⟨c0,c1⟩,-⟩:=p b (bY _ c);obtain⟨E,F⟩:=Gx hf c0 c1;exact F0 hk E F d e (t.get n0 n1).1 (t.get n0 n1).2 (x b (bY _ c)) (G.up _ q)) fun b c=>y b (bY _ c)
  exact⟨j,by unfold M9;rw[BY r,o];exact B,C⟩
end
section
variable {h:AJ} (hk:Jf h) (hi:HH h) (hf:Sk h) (hap:HAp h) {f:List AF} (ha:K3 h f)
include hk hi hf hap ha
theorem A0D {n:Int} (n0:0≤n) (n1:n<(f.length:Int)) {s c:EB} (hs:Mr h f.length s) (e:J8 h f n s=some c):oV h f.length s c∧(n∈c.2.drop s.2.length∨VL h c.1 n (f.getD n.toNat (0,[])).2):=by
 have _:=hap;have g:=MK ha n0 n1;unfold J8 at e;cases d:MJ h n (f.getD n.toNat (0,[])).2 s with
 | none=>rw[d]at e;cases e
 | some s1 =>
  rw[d]at e;have i:=(Pn hk hi hf n0 n1 g hs d).1;obtain⟨j,-⟩:=Yy hk hi hf n0 n1 g hs d;have e:M9 h n (f.getD n.toNat (0,[])).2 s1=some c:=e;have k:=(Sl hk hi hf n0 n1 g i e).1;obtain⟨l,b⟩:=oW hk hi hf n0 n1 g i e;refine⟨j.trans hk hs i k l,?_⟩;rcases b with b|⟨b,m⟩
  ·exact .inl (Pw j.pre.length_le b)
  ·refine .inr fun a ha=>?_;rw[b];exact m a ha
theorem A0E {n:Int} (n0:0≤n) (n1:n<(f.length:Int)) {s:EB} (hs:Mr h f.length s) {u:List Int} (hu:G2 h f.length u) (d:VL h u n (f.getD n.toNat (0,[])).2) (j:Fe h f.length s.1 u):∃e,J8 h f n s=some e∧Fe h f.length e.1 u:=by
 have b:=MK ha n0 n1;obtain⟨s1,c,h1⟩:=oX hk hi hf hap n0 n1 hu b hs j fun a ha=>(d a ha).1;have k:=(Pn hk hi hf n0 n1 b hs c).1;obtain⟨-,l⟩:=Yy hk hi hf n0 n1 b hs c;obtain⟨s2,g,i⟩:=oY hk hi hf hap n0 n1 hu b k h1 l d;exact⟨s2,by unfold J8;rw[c];exact g,i⟩
def A6A (h:AJ) (f:List AF) (i:Nat) (s:EB):Prop:=∀n:Nat,n<f.length→VL h s.1 (n:Int) (f.getD n (0,[])).2∨(n:Int)∈s.2.drop i
theorem A2y {n:Nat} (hn:n<f.length) {s d:EB} (hs:Mr h f.length s) (i:Mr h f.length d) (j:oV h f.length s d) (p:VL h s.1 (n:Int) (f.getD n (0,[])).2):VL h d.1 (n:Int) (f.getD n (0,[])).2∨(n:Int)∈d.2.drop s.2.length:=by
 have _:=hap;have _:=hi;have o:∀a∈(f.getD n (0,[])).2,Ew h f.length a:=ha _ (AD f (0,[]) hn);rcases j.ch n hn with c|c
 ·left;intro a g;obtain⟨e,k⟩:=p a g;obtain⟨-,b,b1⟩:=o a g;rw[f7]at e k ⊢;rw[c];obtain⟨l,m⟩:=hs.tyl.get hn;obtain⟨q,r⟩:=Ej hf l m e;exact⟨e,F0 hk q r (hs.get b b1).1 (hs.get b b1).2 (i.get b b1).1 (i.get b b1).2 k (j.up _ (by omega))⟩
 ·exact .inr c
theorem oZ:∀ {k i:Nat} {s:EB} {ty:List Int},Mr h f.length s→A6A h f i s→oG h f k i s=some ty→WTy h f ty∧Fe h f.length s.1 ty∧G2 h f.length ty
 | 0,_,_,_,_,_,e=>by cases e
 | k+1,i,s,ty,hs,hp,e=>by
  unfold oG at e;split at e
  ·rename_i d;have p:=AD s.2 (0:Int) d;obtain⟨n0,n1⟩:=hs.wt _ p;generalize hn:s.2.getD i 0=n at *;cases c:J8 h f n s with
   | none=>rw[c]at e;cases e
   | some s1 =>
    rw[c]at e;have g:=(Po hk hi hf ha n0 n1 hs c).1;obtain⟨j,b⟩:=A0D hk hi hf hap ha n0 n1 hs c;have r:A6A h f (i+1) s1:=by
     intro m l;rcases hp m l with q|a
     ·rcases A2y hk hi hf hap ha l hs g j q with h1|h1
      ·exact .inl h1
      ·exact .inr (Pw (by omega) h1)
     ·have t:s.2.drop i=n :: s.2.drop (i+1):=by
       rw[OS d,←hn,AS,AT d];rfl
      rw[t]at a;rcases GO.1 a with a|a
      ·rcases b with b|b
       ·exact .inr (by rw[a];exact Pw (by omega) b)
       ·left;rw[a];have:n.toNat=m:=by omega
        rw[this]at b;exact b
      ·exact .inr (Q7 j.pre a)
    have e:oG h f k (i+1) s1=some ty:=e;obtain⟨u,v,o⟩:=oZ g r e;exact⟨u,j.up.trans hk hs.tyl g.tyl o v,o⟩
  ·rename_i d;injection e with e
   subst e;refine⟨fun n hn=>?_,Fe.refl hk hs.tyl,hs.tyl⟩;rcases hp n hn with h1|h1
   ·exact h1
   ·rw[IF (by omega)]at h1;cases h1
theorem A0F {u:List Int} (hu:G2 h f.length u) (d:WTy h f u):∀ {k i:Nat} {s:EB},Mr h f.length s→i≤s.2.length→Ms h s.1+s.2.length+1≤k+i→Fe h f.length s.1 u→∃ty,oG h f k i s=some ty∧Fe h f.length ty u
 | 0,i,s,hs,j,l,b=>by omega
 | k+1,i,s,hs,j,l,b=>by
  unfold oG;by_cases a:i<s.2.length
  ·rw[BY a];obtain⟨n0,n1⟩:=hs.wt _ (AD s.2 (0:Int) a);have e:=d (s.2.getD i 0).toNat (by omega);rw[AAW n0]at e;obtain⟨s1,c,h1⟩:=A0E hk hi hf hap ha n0 n1 hs hu e b;obtain⟨g,m,n⟩:=Po hk hi hf ha n0 n1 hs c;rw[c];exact A0F hu d g (by omega) (by omega) h1
  ·rw[At a];exact⟨s.1,rfl,b⟩
theorem OH (a:∀x∈f,0≤x.1∧x.1<(h.1.length:Int)) {ty:List Int} (e:FJ h f=some ty):WTy h f ty∧Fe h f.length (Ai f) ty∧G2 h f.length ty:=by
 have e:oG h f (Id h f) 0 (Ai f,EV f)=some ty:=e;refine oZ hk hi hf hap ha (k:=Id h f) (i:=0) (s:=(Ai f,EV f)) (XM a) (fun n hn=>.inr ?_) e;rw[AAj];exact If.2 ⟨n,iS.2 hn,rfl⟩
theorem MP (b:∀x∈f,0≤x.1∧x.1<(h.1.length:Int)) {u:List Int} (hu:G2 h f.length u) (c:WTy h f u) (a:Fe h f.length (Ai f) u):∃ty,FJ h f=some ty∧Fe h f.length ty u :=
 A0F hk hi hf hap ha hu c (k:=Id h f) (i:=0) (s:=(Ai f,EV f)) (XM b) (IN _) (Yk h f) a
end
inductive Up (d:List AH) (m:ByteArray):ByteArray→Prop
 | base {x:ByteArray}:Aa m x=true→Up d m x
 | step {x s:ByteArray} {y:AH}:y∈d→Aa y.1 x=true→AW y.2.1 s=true→Up d m s→Up d m x
section
variable {d:List AH}
theorem VM {m x y:ByteArray} (h:Up d m x) (e:Aa x y=true):Up d m y:=by
 cases h with
 | base h=>exact .base (BF h e)
 | step h1 a b c=>exact .step h1 (BF a e) b c
theorem A3T {c x s:ByteArray} (h:Up d c x) {y:AH} (f:y∈d) (e:Aa y.1 c=true) (hs:AW y.2.1 s=true):Up d s x:=by
 induction h with
 | base h=>exact .step f (BF e h) hs (.base (Cr s))
 | step h1 a b i g=>exact .step h1 a b g
theorem Px {a b c:ByteArray} (h1:Up d a b) (i:Up d b c):Up d a c:=by
 induction i with
 | base h=>exact VM h1 h
 | step e f g k j=>exact .step e f g j
theorem A2z {m a x:ByteArray} (e:Aa a m=true) (h:Up d m x):Up d a x:=Px (.base e) h
theorem A2A (hn:Cb d=0) (e:d.length≤(Bc d).length) {m x:ByteArray} (h:Up d m x):Aa m x=true∨GA d m<GA d x:=by
 induction h with
 | base h=>exact .inl h
 | step h1 b c f a =>
  right;have hr:=Ku hn e h1 c;rw[IX d b]at hr;rcases a with a|a
  ·rw[IX d a];exact hr
  ·omega
theorem A0G {o:List ByteArray} {s t:ByteArray} (h:t∈Jz o s):t∈o∨t=s:=by
 unfold Jz at h;split at h
 ·exact .inl h
 ·rcases ON.1 h with h|h
  ·exact .inl h
  ·exact .inr (by simpa using h)
theorem XY:∀ {l o:List ByteArray} {t:ByteArray},t∈l.foldl Jz o→t∈o∨t∈l
 | [],_,_,h=>.inl h
 | s :: l,o,t,h=>by
  rw[TO]at h;rcases XY h with h|h
  ·rcases A0G h with h|h
   ·exact .inl h
   ·exact .inr (by simp[h])
  ·exact .inr (by simp[h])
theorem tF {s:ByteArray} (h:0≤Aj d s):d.getD (Aj d s).toNat d0∈d∧Aa (d.getD (Aj d s).toNat d0).1 s=true:=by
 rcases DL d s with g|⟨b,c,a⟩
 ·omega
 ·exact⟨BC (by omega),a⟩
theorem XZ (hs:PN d) {x:ByteArray}:∀ {n i:Nat} {o:List ByteArray},(∀t∈o,0≤Aj d t∧Up d t x)→∀t∈IT d n i o,0≤Aj d t∧Up d t x
 | 0,_,_,b=>b
 | n+1,i,o,b=>by
  unfold IT;split
  ·rename_i hi;refine XZ hs fun t a=>?_;rcases XY a with a|a
   ·exact b t a
   ·obtain⟨c1,c2⟩:=b _ (BC (d:=ByteArray.empty) hi);obtain⟨c,e⟩:=tF c1;exact⟨hs _ c t a,A3T c2 c e (Fb a)⟩
  ·exact b
theorem Xa {l:List ByteArray} {t:ByteArray} (h:t∈J0 l):t∈l:=(UL (o:=[]) h).resolve_left (by simp)
theorem A0H (hs:PN d) {x t:ByteArray} (b:0≤Aj d x) (h:AW (Ks d x) t=true):Up d t x:=by
 obtain⟨u,hu,e⟩:=Of.1 h;unfold Ks at hu;rw[At (by omega)]at hu;have:=(XZ hs (x:=x) (n:=d.length) (i:=0) (o:=[x]) (fun t a=>by
  have:t=x:=by simpa using a
  subst this;exact⟨b,.base (Cr _)⟩) u (Xa hu)).2
 exact A2z (Dq e) this
theorem Xb {m:ByteArray}:∀ {n i:Nat} {o:List ByteArray},(∀t∈o,Up d m t)→∀t∈Cc d n i o,Up d m t
 | 0,_,_,a=>a
 | n+1,i,o,a=>by
  unfold Cc;split
  ·rename_i hi;have f:=a _ (BC (d:=ByteArray.empty) hi);generalize o.getD i ByteArray.empty=c at *;have key:∀(l:List AH) (o:List ByteArray),(∀y∈l,y∈d)→(∀t∈o,Up d m t)→∀t∈l.foldl (E6 c) o,Up d m t:=by
    intro l;induction l with
    | nil=>exact fun o _ a=>a
    | cons y l j =>
     intro o e a;rw[TO];refine j _ (fun z g=>e z (by simp[g])) fun t b=>?_;unfold E6 at b;split at b
     ·rename_i h;rw[An]at h;rcases ON.1 b with b|b
      ·exact a t b
      ·have:t=y.1:=by simpa using b
       subst this;exact .step (e y (by simp)) (Cr _) h.1 f
     ·exact a t b
   exact Xb (key d o (fun _ h=>h) a)
  ·exact a
theorem VN {m x:ByteArray} (h:AW (Ce d m) x=true):Up d m x:=by
 obtain⟨u,hu,e⟩:=Of.1 h;unfold Ce at hu;split at hu
 ·cases hu
 ·exact VM (Xb (m:=m) (n:=d.length) (i:=0) (o:=[m]) (fun t a=>by
   have:t=m:=by simpa using a
   subst this;exact .base (Cr _)) u (Xa hu)) e
theorem VO {m x:ByteArray} (u:0≤Aj d m) (h:Up d m x):AW (Ce d m) x=true:=by
 have q:YR d [m]:=⟨fun s hs=>by
  have:s=m:=by simpa using hs
  rw[this];exact u,by simp⟩
 obtain⟨k,v,D⟩:=U0 (d:=d) (n:=d.length) (i:=0) q (by omega) (fun j t=>by omega) (by omega);have A:m∈Cc d d.length 0 [m]:=Kv (by simp);have r:Ce d m=J0 (Cc d d.length 0 [m]):=by unfold Ce;rw[At (by omega)]
 rw[r];generalize Cc d d.length 0 [m]=o at *;have key:AW o x=true:=by
  induction h with
  | base h=>exact Of.2 ⟨m,A,h⟩
  | step h1 l p C B =>
   obtain⟨z,c,a⟩:=Of.1 B;obtain⟨j,t,rfl⟩:=CC ByteArray.empty c;obtain⟨s,y,f⟩:=Of.1 p;obtain⟨w,b,g⟩:=Of.1 (v j (by omega) _ h1 (Of.2 ⟨s,y,BF f (Dq a)⟩));exact Of.2 ⟨w,b,BF g l⟩
 obtain⟨z,c,e⟩:=Of.1 key;obtain⟨w,b,a⟩:=Of.1 (Pc (o:=[]) c);exact Of.2 ⟨w,b,BF a e⟩
theorem Xc:∀ {l o:List ByteArray} {x:ByteArray},AW o x=true→AW (l.foldl (E7 d) o) x=true
 | [],_,_,h=>h
 | s :: l,o,x,h=>by
  rw[TO];refine Xc ?_;unfold E7;split
  ·exact J3 (fun z a=>Mp a) h
  ·exact h
theorem Py:∀ {l o:List ByteArray} {x:ByteArray},x∈l→0≤Aj d x→AW (l.foldl (E7 d) o) x=true
 | s :: l,o,x,h,a=>by
  rw[TO];rcases GO.1 h with rfl|h
  ·refine Xc ?_;unfold E7;rw[BY a];exact Pb
  ·exact Py h a
theorem NV:∀ {l o:List ByteArray},(∀x∈o,0≤Aj d x)→∀x∈l.foldl (E7 d) o,0≤Aj d x
 | [],_,b=>b
 | s :: l,o,b=>by
  rw[TO];refine NV fun x a=>?_;unfold E7 at a;split at a
  ·rcases Gq a with a|rfl
   ·exact b x a
   ·assumption
  ·exact b x a
theorem A3U {l:List ByteArray} (h:oD l) {i j:Nat} (hi:i<l.length) (a:j<l.length) (d:i≠j):Aa (l.getD i ByteArray.empty) (l.getD j ByteArray.empty)=false:=by
 have c:∀k (h:k<l.length),l.getD k ByteArray.empty=l[k]:=fun k h=>by rw[AS,AT h];rfl
 rw[c i hi,c j a];rcases Nat.lt_or_gt_of_ne d with b|b
 ·exact(oR.1 h) i j hi a b
 ·exact ME ((oR.1 h) j i a hi b)
theorem Pz:∀ {l o:List ByteArray},oD o→(∀s∈l,∀x∈o,Aa x s=false)→oD l→oD (l.foldl (E7 d) o)
 | [],_,h,_,_=>h
 | s :: l,o,h,b,f=>by
  rw[TO];have e:=AB9.1 f;refine Pz ?_ (fun y c x a=>?_) e.2
  ·unfold E7;split
   ·exact Uc h (b s (by simp))
   ·exact h
  ·unfold E7 at a;split at a
   ·rcases Gq a with a|rfl
    ·exact b y (by simp[c]) x a
    ·exact e.1 y c
   ·exact b y (by simp[c]) x a
theorem tG (hn:Cb d=0) (s:ByteArray):oD (FH d s):=by
 have key:∀(r:List AH) (o:List ByteArray),oD o→(∀y∈r,∀x∈o,Aa x y.1=false)→r.Pairwise (fun a b=>Aa a.1 b.1=false)→oD (r.foldl (HP s) o):=by
  intro r;induction r with
  | nil=>exact fun o h _ _=>h
  | cons y r q =>
   intro o h f hp;rw[TO];have l:=AB9.1 hp;refine q _ ?_ (fun z g x c=>?_) l.2
   ·unfold HP;split
    ·exact Uc h (f y (by simp))
    ·exact h
   ·unfold HP at c;split at c
    ·rcases Gq c with c|rfl
     ·exact f z (by simp[g]) x c
     ·exact l.1 z g
    ·exact f z (by simp[g]) x c
 refine key d [] .nil (fun y _ x c=>by cases c) (oR.2 fun i j hi k t=>?_);cases e:Aa d[i].1 d[j].1 with
 | false=>rfl
 | true =>
  have h1:=J2 hn hi;have p:=J2 hn k;have m:d.getD i d0=d[i]:=by rw[AS,AT hi];rfl
  have n:d.getD j d0=d[j]:=by rw[AS,AT k];rfl
  rw[m,I8 d e]at h1;rw[n]at p;omega
theorem Q9 (r:A3 d=0) {l:List ByteArray} (t:oD l) {x:ByteArray} (g:x∈l) (w:0≤Aj d x):∃m∈Ay d l,Up d m x:=by
 obtain⟨hs,C,-,hn,A⟩:=Av r;have z:∀y∈BV d l,0≤Aj d y:=NV fun y c=>by cases c
 obtain⟨q,n,ex⟩:=Of.1 (Py (d:=d) (o:=[]) g w);have n:q∈BV d l:=n;have v:oD (BV d l):=Pz .nil (fun s _ x g=>by cases g) t;have u:Ay d l=PQ d (BV d l) (BV d l).length:=rfl;rw[u];generalize BV d l=all at *;have key:∀(k:Nat) (y:ByteArray),GA d y<k→y∈all→Up d y x→∃m∈PQ d all all.length,Up d m x:=by
  intro k;induction k with
  | zero=>exact fun y h=>by omega
  | succ k B =>
   intro y hr c hu;obtain⟨i,hi,rfl⟩:=CC ByteArray.empty c;by_cases a:PP d all i all.length=true
   ·exact⟨_,If.2 ⟨i,AA4.2 ⟨iS.2 hi,a⟩,rfl⟩,hu⟩
   ·have a:PP d all i all.length=false:=by simpa using a
    unfold PP at a;obtain⟨j,b,hf⟩:=AAN.1 a;have b:=iS.1 b;unfold nW at hf;simp only[iN,AA1,OF,not_or,ACv]at hf;obtain⟨f,ha⟩:=hf;have f:j≠i:=fun e=>f (by rw[e]);have p:=A0H hs (z _ c) ha;rcases A2A hn A p with e|e
    ·exact absurd e (by rw[A3U v b hi f];simp)
    ·exact B _ (by omega) (BC b) (Px p hu)
 exact key _ q (ACz _) n (.base ex)
theorem K5 {s:ByteArray} (hs:s∈AN d):0≤Aj d s:=by
 obtain⟨x,a,rfl⟩:=Cs hs;exact DU a
theorem P0 {x:AH} (a:x∈d) (hn:Cb d=0):x.1∈AN d:=by
 obtain⟨s,hs,e⟩:=Of.1 (OB a);obtain⟨y,b,rfl⟩:=Cs hs;rw[←Pa hn b a e];exact hs
theorem A2B (b:A3 d=0) {m x:ByteArray} (c:0≤Aj d m) (h:Up d m x) {i:Nat} (hi:BA (Ei d (AN d) x) i=true):BA (Ei d (AN d) m) i=true:=by
 obtain⟨-,j,-,hn,k⟩:=Av b;have e:=Dp d d.length;rw[f5]at e;have a:(AN d).length≤4096:=by omega
 obtain⟨f,g⟩:=(Bw (d:=d) a x i).1.1 hi;exact(Bw (d:=d) a m i).1.2 ⟨f,VO c (Px h (VN g))⟩
end
section
variable {d:List AH}
def Dc (d:List AH) (c:List Int):Prop:=IW c∧∀i j,BA c i=true→j<(AN d).length→Up d ((AN d).getD i ByteArray.empty) ((AN d).getD j ByteArray.empty)→BA c j=true
theorem A3V:Dc d []:=⟨fun x a=>(by cases a),fun i j hi=>by unfold BA at hi;simp at hi⟩
theorem A3W {a b:List Int} (ha:Dc d a) (c:Dc d b):Dc d (EP a b) :=
 ⟨Mq ha.1 c.1,fun i j hi e hu=>by
  rw[K0 ha.1 c.1,An]at hi ⊢;exact⟨ha.2 i j hi.1 e hu,c.2 i j hi.2 e hu⟩⟩
theorem o0 {l:List (List Int)} (h:∀c∈l,Dc d c) (k:Nat):Dc d (l.getD k []):=by
 by_cases hk:k<l.length
 ·exact h _ (BC hk)
 ·rw[Qx hk];exact A3V
theorem A2C {l:List (List Int)} (h:∀c∈l,Dc d c) (i k:Nat):∀c∈GT l i k,Dc d c:=by
 intro c a;unfold GT at a;split at a
 ·rcases ON.1 a with a|a
  ·exact h c a
  ·have:c=EP (l.getD i []) (l.getD k []):=by simpa using a
   rw[this];exact A3W (o0 h i) (o0 h k)
 ·exact h c a
theorem o4 {i:Nat}:∀ {n k:Nat} {l:List (List Int)},(∀c∈l,Dc d c)→∀c∈GU i n k l,Dc d c
 | 0,_,_,h=>h
 | n+1,k,l,h=>by
  unfold GU;split
  ·exact o4 (A2C h i k)
  ·exact h
theorem o5:∀ {n i:Nat} {l:List (List Int)},(∀c∈l,Dc d c)→∀c∈IU n i l,Dc d c
 | 0,_,_,h=>h
 | n+1,i,l,h=>by
  unfold IU;split
  ·exact o5 (o4 h)
  ·exact h
theorem R0 (a:A3 d=0):(AN d).length≤4096:=by
 obtain⟨-,c,-⟩:=Av a;have b:=Dp d d.length;rw[f5]at b;omega
theorem A2D (b:A3 d=0) {s:ByteArray} (hs:0≤Aj d s):Dc d (Ei d (AN d) s):=by
 have a:=R0 b;refine⟨(Bw (d:=d) a s 0).2.1,fun i j hi c hu=>?_⟩;have h1:=((Bw (d:=d) a s i).1.1 hi).2;exact(Bw (d:=d) a s j).1.2 ⟨c,VO hs (Px (VN h1) hu)⟩
theorem A3X (a:A3 d=0):∀c∈Aq (AQ d),Dc d c:=o5 fun c b=>by
 obtain⟨s,hs,rfl⟩:=If.1 b;exact A2D a (K5 hs)
theorem o6 {all:List ByteArray} {codes:List (List Int)} {b:List Int} {u:ByteArray}:∀ {m i:Nat} {l:List ByteArray},nZ d all codes b m i l=.inl u→∃j,i≤j∧j<i+m∧DK (codes.getD j []) b=true∧u=all.getD j ByteArray.empty
 | 0,_,_,h=>by cases h
 | m+1,i,l,h=>by
  unfold nZ at h;split at h
  ·rename_i a;injection h with h
   exact⟨i,NO _,by omega,a,h.symm⟩
  ·obtain⟨j,f,g,c,e⟩:=o6 h;exact⟨j,by omega,by omega,c,e⟩
theorem o7 {all:List ByteArray} {codes:List (List Int)} {b:List Int} {r:List ByteArray}:∀ {m i:Nat} {l:List ByteArray},nZ d all codes b m i l=.inr r→(∀j,i≤j→j<i+m→DK (codes.getD j []) b=false)∧r=l++((List.range' i m).filter fun j:Nat=>Qk b (j:Int)).map fun j=>all.getD j ByteArray.empty
 | 0,i,l,h=>by
  unfold nZ at h;injection h with h
  exact⟨fun j h1 f=>by omega,by simp[h]⟩
 | m+1,i,l,h=>by
  unfold nZ at h;split at h
  ·cases h
  ·rename_i g;obtain⟨a,c⟩:=o7 h;refine⟨fun j h1 f=>?_,?_⟩
   ·by_cases e:j=i
    ·rw[e];simpa using g
    ·exact a j (by omega) (by omega)
   ·rw[c,ACB,AAn];by_cases hh:Qk b (i:Int)=true
    ·rw[BY hh,BY hh];simp
    ·rw[At hh,At hh]
theorem o8 {a b:ByteArray} {x:UInt8}:x∈(a++b).toList↔x∈a.toList∨x∈b.toList:=by
 rw[ByteArray.toList_eq,ByteArray.toList_eq,ByteArray.toList_eq];simp
theorem tH {l:List ByteArray}:∀ {n:Nat},2≤n→(38:UInt8)∈(Pd l n).toList
 | n+1,hn=>by
  rw[OC];unfold XA;rw[BY (by omega)];rw[o8,o8];exact .inl (.inr (by rw[ByteArray.toList_eq];simp))
theorem lZ (hn:Cb d=0) {s:ByteArray} (hs:s∈AN d):(38:UInt8)∉s.toList:=by
 obtain⟨x,i,rfl⟩:=Cs hs;obtain⟨j,g,e⟩:=CC d0 i;have h1:=(I9 (d:=d) (r:=d) (k:=0) hn j g).2;rw[e]at h1;intro b;unfold Eg at h1;rw[An,Do]at h1;rw[ByteArray.toList_eq]at b;obtain⟨k,hk,c⟩:=AAf.1 b;have a:k<x.1.data.size:=by simpa using hk
 have:=h1.2 k (iS.2 a);unfold chr at this;have f:x.1.data.getD k 0=38:=by
  rw[←c];have h:k<x.1.size:=a;simp[Array.getD,h]
 rw[f]at this;revert this;decide
theorem tI (o:A3 d=0) {y:AP} (ad:y∈AL d) (hf:JB (Aq (AQ d))) {s:ByteArray} (hs:s∈AN d) (e:Aa y.1 s=true):y.2=Ei d (AN d) s:=by
 obtain⟨an,aj,-,hn,al⟩:=Av o;have v:=R0 o;have Q:Nd (Aq (AQ d)):=Sj (Qy o);have ak:(AQ d).length=(AN d).length:=by simp[AQ]
 have R:AQ d <+: Aq (AQ d):=Pl 257 0 (AQ d);have aa:∀ {t:ByteArray},t∈AN d→Aa t s=true→t=s:=fun {t} h e=>by
  obtain⟨x,ab,rfl⟩:=Cs h;obtain⟨z,ae,rfl⟩:=Cs hs;rw[Pa hn ab ae e]
 have heq:∀j,j<(AN d).length→∀b∈Aq (AQ d),DK ((AQ d).getD j []) b=true→b=Ei d (AN d) ((AN d).getD j ByteArray.empty):=fun j X b f w=>by
  have g:(AQ d).getD j []∈Aq (AQ d):=R.subset (BC (by omega));unfold DK at w;rw[An,GW (hf.wds _ g) (hf.wds b f),GW (hf.wds b f) (hf.wds _ g)]at w;rw[←JA d X];refine Yi (hf.wds b f) (hf.wds _ g) (Q.nrm b f) (Q.nrm _ g) fun i=>?_;rw[AB7];exact⟨w.2 i,w.1 i⟩
 obtain⟨b,f,rfl⟩:=DV.1 ad;show b=_;have e:Aa (Gr d (AN d) (AQ d) b) s=true:=e;unfold Gr at e;cases C:nZ d (AN d) (AQ d) b (AN d).length 0 [] with
 | inl u =>
  rw[C]at e;obtain⟨j,-,I,af,rfl⟩:=o6 C;rw[AAL]at I;rw[←aa (BC I) e];exact heq j I b f af
 | inr l =>
  exfalso;rw[C]at e;have e:Aa (fP (Ay d l)) s=true:=e;obtain⟨T,r⟩:=o7 C;rw[ABf]at r;have D:=hf.wds b f;have B:∀i,i<(AN d).length→BA b i=true→(AN d).getD i ByteArray.empty∈l:=fun i hi U=>by
   rw[r];exact If.2 ⟨i,AA4.2 ⟨List.mem_range'.2 ⟨i,hi,by simp⟩,by simpa[Sp D] using U⟩,rfl⟩
  have P:∀t∈l,∃i,i<(AN d).length∧t=(AN d).getD i ByteArray.empty∧BA b i=true:=fun t h=>by
   rw[r]at h;obtain⟨i,hi,rfl⟩:=If.1 h;obtain⟨S,H⟩:=AA4.1 hi;obtain⟨k,ao,ap⟩:=List.mem_range'.1 S;exact⟨i,by omega,rfl,by simpa[Sp D] using H⟩
  have Z:(List.range' 0 (AN d).length).map (fun j=>(AN d).getD j ByteArray.empty)=AN d:=by
   apply AA8
   ·simp
   ·intro i S H;simp[AS,H]
  have J:oD l:=by
   rw[r];have:=Ud hn;rw[←Z]at this;exact this.sublist (List.filter_sublist.map _)
  obtain⟨E,A⟩:=hf.some b f;have G:∀i,BA b i=true→i<(AN d).length:=by
   have:=Yw (q:=(AN d).length) (n:=257) (i:=0) (l:=AQ d) (fun c W=>by
    obtain⟨t,h,rfl⟩:=If.1 W;exact⟨(Bw (d:=d) v t 0).2.1,fun i hi=>((Bw (d:=d) v t i).1.1 hi).1⟩) b f
   exact this.2
  have K:∀t∈l,0≤Aj d t:=fun t h=>by
   obtain⟨i,hi,rfl,-⟩:=P t h;exact K5 (BC hi)
  obtain⟨m,g,-⟩:=Q9 o J (B E (G E A) A) (K _ (B E (G E A) A));have am:0<(Ay d l).length:=ABi g;have Y:fP (Ay d l)=Pd (Ay d l) (Ay d l).length:=rfl;rw[Y]at e;by_cases h1:(Ay d l).length=1
  ·obtain⟨p,M,rfl,V⟩:=P m (He g);have L:DK ((AQ d).getD p []) b=true:=by
    have O:(AQ d).getD p []∈Aq (AQ d):=R.subset (BC (by omega));unfold DK;rw[An,GW (hf.wds _ O) D,GW D (hf.wds _ O),JA d M];refine⟨fun i hi=>?_,fun i hi=>?_⟩
    ·obtain⟨ah,ai⟩:=(Bw (d:=d) v _ i).1.1 hi;exact(A3X o b f).2 p i V ah (VN ai)
    ·have F:=G i hi;obtain⟨ag,N,hu⟩:=Q9 o J (B i F hi) (K _ (B i F hi));have:ag=(AN d).getD p ByteArray.empty:=by
      obtain⟨a,ha⟩:=AAQ.1 h1;rw[ha]at g N;rw[AAh.1 N,AAh.1 g]
     rw[this]at hu;exact(Bw (d:=d) v _ i).1.2 ⟨F,VO (K5 (BC M)) hu⟩
   rw[T p (IN _) (by omega)]at L;cases L
  ·have:=tH (l:=Ay d l) (n:=(Ay d l).length) (by omega);rw[Hl.1 e]at this;exact lZ hn hs this
theorem Xd (s:ByteArray):∀(l:List AP) (k:Nat),0≤MA s k l→∃j,j<l.length∧MA s k l=((k+j:Nat):Int)∧Aa (l.getD j c0).1 s=true
 | [],k,h=>by simp only[MA]at h;omega
 | x :: l,k,h=>by
  simp only[MA]at h ⊢;split
  ·rename_i e;exact⟨0,by simp,rfl,e⟩
  ·rename_i e;rw[At e]at h;obtain⟨j,c,a,b⟩:=Xd s l (k+1) h;exact⟨j+1,by simp only[No];omega,by rw[a];congr 1;omega,by simpa using b⟩
theorem A0I (a:A3 d=0) (hf:JB (Aq (AQ d))) {s:ByteArray} (hs:s∈AN d):((AL d).getD (BJ (AL d) s).toNat c0).2=Ei d (AN d) s:=by
 have h0:0≤BJ (AL d) s:=Gt a (Fb hs);obtain⟨j,b,c,f⟩:=Xd s (AL d) 0 h0;have e:BJ (AL d) s=((0+j:Nat):Int):=c;rw[e,AAL,f7];exact tI a (BC b) hf hs f
theorem Xe {s:ByteArray} (hn:Cb d=0):∀ {r:List AH} {o:List ByteArray} {x:AH},(∀y∈r,y∈d)→x∈d→((∃z∈o,Aa z x.1=true)∨(x∈r∧(DD x s).2=true))→∃z∈r.foldl (HP s) o,Aa z x.1=true
 | [],o,x,_,_,h=>h.resolve_right fun g=>by cases g.1
 | y :: r,o,x,hr,f,h=>by
  rw[TO];refine Xe hn (fun z a=>hr z (by simp[a])) f ?_;rcases h with ⟨z,a,e⟩|⟨b,c⟩
  ·left;unfold HP;split
   ·exact⟨z,Mp a,e⟩
   ·exact⟨z,a,e⟩
  ·rcases GO.1 b with rfl|b
   ·left;unfold HP;rw[BY c];exact Of.1 (Pb (l:=o) (s:=x.1))
   ·exact .inr ⟨b,c⟩
theorem Xf (f:Int):∀(a b:List (Int×Int)),Ct f (a++b)=if (Ct f a).2=true then Ct f a else Ct f b
 | [],_=>rfl
 | x :: a,b=>by
  have h1:Ct f (x :: a++b)=if x.1=f then (x.2,true) else Ct f (a++b):=rfl
  have c:Ct f (x :: a)=if x.1=f then (x.2,true) else Ct f a:=rfl
  rw[h1,c];split
  ·rfl
  ·exact Xf f a b
theorem o9 (l:List AP) (fs:List ByteArray) (t:Nat) (f:Int):∀n,Ct f (M8 d l fs t n)=if 0≤f∧f<(n:Int)∧(Ez d l (t:Int) (fs.getD f.toNat ByteArray.empty)).2=true then (HG l (Ez d l (t:Int) (fs.getD f.toNat ByteArray.empty)).1,true) else (0,false)
 | 0=>by
  rw[At (by omega)];rfl
 | n+1=>by
  rw[Qv,Xf,o9 l fs t f n];by_cases h:0≤f∧f<(n:Int)∧(Ez d l (t:Int) (fs.getD f.toNat ByteArray.empty)).2=true
  ·rw[BY h,BY rfl,BY ⟨h.1,by omega,h.2.2⟩]
  ·rw[At h,At (by simp)];by_cases hn:f=(n:Int)
   ·subst hn;rw[f7];by_cases hi:(Ez d l (t:Int) (fs.getD n ByteArray.empty)).2=true
    ·rw[BY hi,BY ⟨by omega,by omega,hi⟩];unfold Ct;rw[BY rfl]
    ·rw[At hi,At fun g=>hi g.2.2];rfl
   ·have a:¬(0≤f∧f<((n+1:Nat):Int)∧(Ez d l (t:Int) (fs.getD f.toNat ByteArray.empty)).2=true):=fun g=>h ⟨g.1,by omega,g.2.2⟩;rw[At a];split
    ·unfold Ct;rw[At (fun e=>hn e.symm)];rfl
    ·rfl
theorem VP (e:Ar d=0) {t f:Int} (a:0≤t) (i:t<((AL d).length:Int)) (b:0≤f) (c:f<((A9 d).length:Int)):Aw (Bd d) t f=if (Ez d (AL d) t ((A9 d).getD f.toNat ByteArray.empty)).2=true then (HG (AL d) (Ez d (AL d) t ((A9 d).getD f.toNat ByteArray.empty)).1,true) else (0,false):=by
 unfold Aw;rw[lV e a i,o9,AAW a];by_cases h:(Ez d (AL d) t ((A9 d).getD f.toNat ByteArray.empty)).2=true
 ·rw[BY ⟨b,c,h⟩,BY h]
 ·rw[At fun g=>h g.2.2,At h]
theorem A2E (a:Ar d=0) {f:Int} (c:0≤f) (e:f<((A9 d).length:Int)):J7 (Bd d) f=BJ (AL d) (DW d ((A9 d).getD f.toNat ByteArray.empty)).1:=by
 unfold J7;rw[Pu a];have b:f.toNat<(A9 d).length:=by omega
 simp[AS,b,Ph]
theorem A6B (b:Ar d=0):HAp (Bd d):=by
 obtain⟨c,-,S,F,-⟩:=lW b;obtain⟨u,-,-⟩:=B7 b;obtain⟨-,U,-⟩:=BS u;have T:=UY c U;obtain⟨an,ak,-,hn,al⟩:=Av c;obtain⟨hk,am⟩:=A33 b;have I:=Pg c S;have n:=VI d;have hF:(Bd d).2.length=(A9 d).length:=by rw[Pu b,nO]
 have E:∀s∈AN d,BP (Bd d) (BJ (AL d) s)=Ei d (AN d) s:=fun s hs=>by
  rw[Mx d (Gt c (Fb hs)) (IZ _ _),A0I c T hs]
 refine⟨fun t f j l k g=>?_,fun t w f j l A ai k g X q=>?_⟩
 ·rw[n]at l;rw[hF]at g;have hs:=BC (d:=ByteArray.empty) (show f.toNat<(A9 d).length by omega);rw[VP b j l k g,A2E b k g];generalize (A9 d).getD f.toNat ByteArray.empty=s at *;obtain⟨v,-⟩:=Pv b j l hs;obtain⟨aj,aa,R,Y⟩:=VK (F s hs);have hi:(if (Ez d (AL d) t s).2=true then (HG (AL d) (Ez d (AL d) t s).1,true) else ((0:Int),false)).2=true↔(Ez d (AL d) t s).2=true:=by
   split<;>simp[*]
  rw[hi,v];constructor
  ·rintro⟨x,a,Z,W⟩;have hint:=F s hs;unfold DW at hint ⊢;split at hint
   ·rename_i h1;rw[BY h1];obtain⟨ao,V⟩:=AAQ.1 h1;obtain⟨z,u,C⟩:=Xe (d:=d) (s:=s) hn (r:=d) (o:=[]) (fun y ad=>ad) a (.inr ⟨a,Z⟩);have ae:0≤Aj d z:=by rw[I8 d C];exact DU a
    obtain⟨m,p,hu⟩:=Q9 c (tG hn s) u ae;have hu:=VM hu C;have e:(Ay d (FH d s)).getD 0 ByteArray.empty=m:=by
     rw[V]at p ⊢;rw[AAh.1 p];rfl
    rw[show ((Ay d (FH d s)).getD 0 ByteArray.empty,true).1=m from e];obtain⟨aq,K,B,-⟩:=(Q6 (He p)).resolve_left (by simp);have H:m∈AN d:=by rw[←B];exact P0 K hn
    have ab:=P0 a hn;obtain⟨n0,n1⟩:=Sq I a;have L:0≤BJ (AL d) m:=Gt c (Fb H);have ap:=IZ (AL d) m;refine F0 hk L (by omega) n0 (by omega) j (by omega) ((Bl hk L (by omega) n0 (by omega)).2 fun i hi=>?_) W;unfold f9 at hi ⊢;rw[E x.1 ab]at hi;rw[E m H];exact A2B c (by rw[←B];exact DU K) hu hi
   ·cases hint
  ·intro h;rw[←R]at h;exact⟨aj,aa,Y,h⟩
 ·have M:t<((AL d).length:Int):=by omega
  have N:w<((AL d).length:Int):=by omega
  rw[hF]at g;have hs:=BC (d:=ByteArray.empty) (show f.toNat<(A9 d).length by omega);rw[VP b j M k g]at q ⊢;rw[VP b A N k g];generalize (A9 d).getD f.toNat ByteArray.empty=s at *;obtain⟨v,af⟩:=Pv b j M hs;obtain⟨ag,ah⟩:=Pv b A N hs;have hi:(Ez d (AL d) t s).2=true:=by
   split at q
   ·assumption
   ·cases q
  have J:∀x∈d,UsD d t s x→UsD d w s x:=fun x a hu=>by
   obtain⟨n0,n1⟩:=Sq I a;exact⟨hu.1,F0 hk n0 (by omega) j l A ai hu.2 X⟩
  have G:(Ez d (AL d) w s).2=true:=by
   obtain⟨x,a,hu⟩:=v.1 hi;exact ag.2 ⟨x,a,J x a hu⟩
  rw[BY hi,BY G];obtain⟨⟨a0,O⟩,P⟩:=af hi;obtain⟨⟨Q,b1⟩,b2⟩:=ah G;refine(Bl hk a0 (by rw[n];exact O) Q (by rw[n];exact b1)).2 fun i D=>?_;unfold f9 at D ⊢;exact(P i).2 fun x a hu=>(b2 i).1 D x a (J x a hu)
theorem l0 (d:List AH):HAp (Ap d).1:=by
 by_cases a:Ar d=0
 ·rw[Pt a];exact A6B a
 ·have:(Ap d).1=([],[]):=by
   unfold Ap A7;rw[BY a,BY a]
  rw[this];exact⟨fun t f c b=>by simp at b;omega,fun t e f c b=>by simp at b;omega⟩
end
theorem MQ (d:List AH):(Ap d).1.1.length≤256∧(Ap d).1.2.length≤64:=by
 unfold Ap;split
 ·exact⟨by simp,by simp⟩
 ·rename_i a;have a:(A7 d).2=0:=DO a;have b:Ar d=0:=by
   unfold A7 at a;split at a
   ·rename_i h;exact absurd a h
   ·rename_i h;exact DO h
  obtain⟨f,c,-⟩:=B7 b;obtain⟨-,e,-⟩:=BS f;refine⟨?_,?_⟩
  ·show (EU _ _ _).length≤256;rw[J6,IY];exact e
  ·show (EF d).1.length≤64;unfold EF;rw[At (by rw[b];simp)];show ((A9 d).map (Ph d)).length≤64;rw[nO];exact c
theorem R1 {H:AJ} (q:H.1.length≤256) (r:H.2.length≤64) {f:List AF} (h:Jd H f=true):A2 f∧M7 f∧0<f.length∧Uw H f∧Dt f=true∧f.length≤12∧∀x∈f,∀a∈x.2,0≤a.1∧a.1<(H.2.length:Int):=by
 unfold Jd at h;rw[An,AA1]at h;obtain⟨l,c⟩:=h;unfold CK at c;split at c
 ·rename_i h1;exact absurd c h1
 ·rename_i h1;split at c
  ·cases c
  ·rename_i e;split at c
   ·cases c
   ·rename_i i;have h1:(Ax f).2=0:=DO h1;have e:f.all (Rw H)=true:=by simpa using e
    have i:Cp f (Ax f).1=0:=by simpa using i
    have k:Dt f=true:=by
     unfold Dt;simp only[An,AA1];refine⟨⟨l,?_⟩,h1,?_⟩
     ·rw[Do]at e ⊢;intro x d;have:=e x d;unfold Rw at this;rw[An,By,Do]at this;unfold ndB;rw[An,By,Do];refine⟨by omega,fun a ha=>?_⟩;have:=this.2 a ha;unfold lO at this;rw[By]at this;unfold ftB;rw[By];omega
     ·rw[←JC i];exact EH f
    obtain⟨n,o,p,-⟩:=MM k;have g:Bv f=0:=by
     unfold Ax at h1;split at h1
     ·rename_i hh;exact hh
     ·exact h1
    have m:Fv (f.length:Int) f=0:=by
     unfold Bv at g;split at g
     ·cases g
     ·split at g
      ·cases g
      ·exact g
    refine⟨n,o,p,fun x d=>?_,k,(ML l).1,fun x d a ha=>?_⟩
    ·have b:=Do.1 e x d;unfold Rw at b;rw[An,By]at b;exact⟨(IK m x d).1,b.1⟩
    ·have b:=Do.1 e x d;unfold Rw at b;rw[An,Do]at b;have j:=b.2 a ha;unfold lO at j;rw[By]at j;exact⟨((IK m x d).2 a ha).1,j⟩
theorem l3 {f:List AF} (hf:A2 f):CW f:=⟨hf.1,fun x a=>(hf.2 x a).1⟩
structure pA (h:AJ):Prop where
 ok:Jf h
 inj:HH h
 ft:Sk h
 nrm:lU h
 ap:HAp h
 b1:h.1.length≤256
 b2:h.2.length≤64
theorem gZ (d:List AH):pA (Ap d).1:=⟨Gw d,Rs d,lY d,fun t a=>(VC d).nrm _ (If.2 ⟨t,a,rfl⟩),l0 d,(MQ d).1,(MQ d).2⟩
theorem h14 (d:List AH):pA (AY d):=by
 unfold AY;split
 ·exact gZ d
 ·exact gZ Ib
structure V14 (h:AJ) (f:List AF):Prop where
 inf:lL h f
 small:CW f
 len:f.length≤12
theorem A6C {h:AJ} (hh:pA h) {f:List AF} (i:Jd h f=true):V14 h f:=by
 obtain⟨b,j,k,d,l,e,g⟩:=R1 hh.b1 hh.b2 i;refine⟨⟨hh.ok,hh.inj,hh.ft,To hh.b2 (by decide),b,fun x c a ha=>⟨g x c a ha,(b.2 x c).2 a ha⟩,d⟩,⟨b.1,fun x c=>(b.2 x c).1⟩,e⟩
theorem RA {f:List AF} {ty:List Int} {x:AF} (b:x∈Be f ty):∃i,i<f.length∧x=(ty.getD i 0,(f.getD i (0,[])).2):=by
 obtain⟨i,hi,rfl⟩:=List.getElem_of_mem b;have a:i<f.length:=by rw[CU]at hi;exact hi
 refine⟨i,a,?_⟩;rw[←GX f ty a,AS,AT hi];rfl
theorem RB {α:Type} {f:List α} {i:Nat} (h:i<f.length) (d:α):f.getD i d∈f:=by
 rw[AS,AT h];exact AA7 _
theorem A6D (h:AJ):(h.1,h.2)=h:=rfl
section
open Go
end
theorem A3Y {f:List AF} (hf:A2 f) (hs:M7 f) (h0:0<f.length) (a:Dt f=true):RO f:=by
 have h1:=oP hf hs h0 (fun _ _=>true)
 rwa [lQ a fun _ _ _ _=>rfl]at h1
theorem A0J {h:AJ} (j:h.1.length≤256) (k:h.2.length≤64) {f:List AF} (l:Jd h f=true):VF h f∧f.length≤12:=by
 obtain⟨a,b,c,e,d,g,i⟩:=R1 j k l;exact⟨⟨a,c,e,fun x m=>(Gy _).1 (b x m).1,i,NU d,A3Y a b c d⟩,g⟩
theorem VF.srt {h:AJ} (hu:HU h) {f:List AF} (a:VF h f):M7 f:=fun x b=>by
 have:=Yu (a.str x b) (a.ft64 hu x b);exact⟨(Gy _).2 (a.str x b),by omega⟩
theorem VF.small {h:AJ} {f:List AF} (a:VF h f):CW f:=l3 a.good
theorem A0K {h:AJ} {a b:List AF} (ha:VF h a) (c:VF h b):Rz h a b=true↔∃m,Hom h a b m :=
 ⟨fun g=>A3N ha.good ha.pos c.good c.pos g,fun⟨m,d⟩=>A2t ha.good ha.pos ha.ro d⟩
theorem K6 (f:List AF) (ty:List Int) (n:Nat):((Be f ty).getD n (0,[])).2=(f.getD n (0,[])).2:=by
 by_cases h:n<f.length
 ·rw[GX f ty h]
 ·rw[AS,gO (by rw[CU];omega),AS,gO (by omega)]
theorem g8 {f g:List AF} (h:∀n:Nat,(f.getD n (0,[])).2=(g.getD n (0,[])).2):∀(k:Nat) (o:List Int) (n:Int),Ep f k o n=Ep g k o n
 | 0,_,_=>rfl
 | k+1,o,n=>by
  have e:BE f k=BE g k:=by
   funext o a;unfold BE;rw[g8 h k o a.2]
  rw[DJ,DJ,h,e]
theorem l4 {f:List AF} (hf:A2 f) (h0:0<f.length) (a:AU f 0=f):gS f:=by
 have:=(Yt hf (r:=0) (by omega) (by omega)).2
 rwa [a]at this
theorem A0L {h:AJ} {f:List AF} (b:VF h f) {ty:List Int} (k:G2 h f.length ty):VF h (Be f ty):=by
 have c:=CU f ty;have g:A2 (Be f ty):=by
  refine⟨by rw[c];exact b.good.1,fun x a=>?_⟩;obtain⟨i,hi,rfl⟩:=RA a;rw[c];exact b.good.2 (f.getD i (0,[])) (RB hi (0,[]))
 have hp:∀x∈Be f ty,∃y∈f,x.2=y.2:=fun x a=>by
  obtain⟨i,hi,rfl⟩:=RA a;exact⟨_,RB hi (0,[]),rfl⟩
 refine⟨g,by rw[c];exact b.pos,fun x a=>?_,fun x a=>?_,fun x a=>?_,Uz g ?_,fun i l m=>?_⟩
 ·obtain⟨i,hi,rfl⟩:=RA a;exact k.get hi
 ·obtain⟨y,d,e⟩:=hp x a;rw[e];exact b.str y d
 ·obtain⟨y,d,e⟩:=hp x a;rw[e];exact b.ft y d
 ·have:=l4 b.good b.pos b.can;unfold gS at this ⊢;rw[c,g8 (K6 f ty)];exact this
 ·obtain⟨j,n,o,x,a,e⟩:=b.ro i l (by rw[←c];exact m);exact⟨j,n,o,x,by show x∈((Be f ty).getD j.toNat (0,[])).2;rw[K6];exact a,e⟩
theorem Du (f:List AF) (i:Nat):(Ai f).getD i 0=(f.getD i (0,[])).1:=by
 unfold Ai;rw[AS,AAy,AS];cases f[i]?<;>rfl
theorem l5 {h:AJ} {f:List AF} (a:Uw h f):G2 h f.length (Ai f):=⟨by simp[Ai],fun t h1=>by
 obtain⟨x,b,rfl⟩:=If.1 h1;exact a x b⟩
theorem l7 {f:List AF} {ty:List Int} (a:ty.length=f.length):Ai (Be f ty)=ty:=by
 refine AA8 (by simp[Ai,CU,a]) fun i b c=>?_;have:=Du (Be f ty) i;rw[GX f ty (by omega)]at this;simpa[AS,b,c] using this
theorem l8 (f:List AF):Be f (Ai f)=f:=by
 refine AA8 (CU _ _) fun i b a=>?_;have:=GX f (Ai f) a;rw[Du]at this;simpa[AS,b,a] using this
theorem R2 {h:AJ} {f:List AF} {t:Int}:∀ {l:List (Int×Int)},GY h f t l=0↔∀a∈l,(Aw h t a.1).2=true∧A8 h (Aw h t a.1).1 (f.getD a.2.toNat (0,[])).1=true
 | []=>⟨fun _ a ha=>(by cases ha),fun _=>rfl⟩
 | a :: l=>by
  unfold GY;rw[List.forall_mem_cons,←R2 (l:=l)];cases h1:(Aw h t a.1).2
  ·simp
  ·cases b:A8 h (Aw h t a.1).1 (f.getD a.2.toNat (0,[])).1<;>simp
theorem Gg {h:AJ} {f:List AF}:∀ {l:List AF},E8 h f l=0↔∀x∈l,∀a∈x.2,(Aw h x.1 a.1).2=true∧A8 h (Aw h x.1 a.1).1 (f.getD a.2.toNat (0,[])).1=true
 | []=>⟨fun _ a ha=>(by cases ha),fun _=>rfl⟩
 | x :: l=>by
  unfold E8;rw[List.forall_mem_cons,←Gg (l:=l),←R2];by_cases h1:GY h f x.1 x.2=0
  ·simp[h1]
  ·simp[h1]
theorem Yz {h:AJ} {f:List AF}:E8 h f f=0↔WTy h f (Ai f):=by
 rw[Gg];constructor
 ·intro h1 i hi a ha;have:=h1 _ (RB hi (0,[])) a ha
  rwa [Du,Du,f7]
 ·intro h1 x b a ha;obtain⟨i,hi,rfl⟩:=CC (0,[]) b;have:=h1 i hi a ha
  rwa [Du,Du,f7]at this
theorem g9 {n:Int}:∀ {l seen:List (Int×Int)},(∀a∈l,0≤a.1∧0≤a.2∧a.2<n)→(l.map (·.1)).Nodup→(∀y∈seen,∀x∈l,y.1≠x.1)→Fu n seen l=0
 | [],_,_,_,_=>rfl
 | x :: l,seen,h,hp,hs=>by
  rw[tO,AA5]at hp;have h1:=h x (by simp);have d:(seen.any fun y=>y.1==x.1)=false:=by
   rw[List.any_eq_false];intro y b;have:=hs y b x (by simp);simpa using this
  unfold Fu;rw[At (by omega),At (by rw[d];simp)];refine g9 (fun a ha=>h a (by simp[ha])) hp.2 fun y b z c=>?_;rcases ON.1 b with b|b
  ·exact hs y b z (by simp[c])
  ·rw[AAh.1 b];exact fun e=>hp.1 (If.2 ⟨z,c,e.symm⟩)
theorem hC {m:Int} {l:List (Int×Int)} (hs:(l.map (·.1)).Nodup) (h:∀a∈l,0≤a.1∧0≤a.2∧a.2<m):F7 l m=0:=g9 h hs fun y b=>by cases b
theorem l9 {m:Int} {l:List (Int×Int)} (hs:Str l) (h:∀a∈l,0≤a.1∧0≤a.2∧a.2<m):F7 l m=0:=hC (by rw[List.Nodup,AAr];exact hs.imp fun h e=>by omega) h
theorem VQ {m:Int}:∀ {l:List AF},(∀x∈l,0≤x.1∧F7 x.2 m=0)→Fv m l=0
 | [],_=>rfl
 | x :: l,h=>by
  have:=h x (by simp);unfold Fv;rw[At (by omega),At (by rw[this.2];simp)];exact VQ fun y a=>h y (by simp[a])
theorem A0M {h:AJ} (hu:HU h) {f:List AF} (b:VF h f) (g:f.length≤4096):CK h f=0:=by
 have e:Bv f=0:=by
  unfold Bv;rw[At (by have:=b.pos;omega),At (by omega)];refine VQ fun x c=>⟨(b.ty x c).1,l9 (b.str x c) fun a ha=>⟨(b.ft x c a ha).1,((b.good.2 x c).2 a ha)⟩⟩
 have d:Ax f=(f,0):=by
  unfold Ax;rw[BY e,Ef b.good (b.srt hu) (by omega) (by have:=b.pos;omega),b.can]
 have ha:f.all (Rw h)=true:=by
  rw[Do];intro x c;unfold Rw;rw[An,By,Do];exact⟨(b.ty x c).2,fun a ha=>by unfold lO;exact ABc (b.ft x c a ha).2⟩
 unfold CK;rw[d,At (by simp),ha,At (by simp),EH];rfl
section
variable {h:AJ} (hh:pA h)
include hh
theorem pA.hu:HU h:=⟨hh.ok,hh.inj,hh.b2⟩
theorem A3Z {f:List AF} (a:Jd h f=true):VF h f:=(A0J hh.b1 hh.b2 a).1
omit hh in
theorem My {f:List AF} (b:VF h f):K3 h f:=fun x c a ha=>⟨b.ft x c a ha,(b.good.2 x c).2 a ha⟩
theorem MR {f:List AF} (a:VF h f) {ty:List Int} (e:FJ h f=some ty):VF h (Be f ty)∧WTy h f ty∧G2 h f.length ty∧Hom h f (Be f ty) id:=by
 obtain⟨h1,g,d⟩:=OH hh.ok hh.inj hh.ft hh.ap (My a) a.ty e;refine⟨A0L a d,h1,d,rfl,fun i b c=>⟨b,by rw[CU];exact c⟩,fun i b c=>?_,fun i b c x j=>?_⟩
 ·have:=g i.toNat (by omega);rw[Du]at this;show A8 h _ ((Be f ty).getD i.toNat (0,[])).1=true
  rwa [GX f ty (by omega)]
 ·show FK ((Be f ty).getD i.toNat (0,[])).2 x.1=x.2;rw[K6];exact A0o (a.srt hh.hu) j
theorem A2F {f:List AF} (a:VF h f) (i:WTy h f (Ai f)):FJ h f=some (Ai f):=by
 have b:=l5 a.ty;obtain⟨ty,e,g⟩:=MP hh.ok hh.inj hh.ft hh.ap (My a) a.ty b i (Fe.refl hh.ok b);obtain⟨-,c,d⟩:=OH hh.ok hh.inj hh.ft hh.ap (My a) a.ty e;rw[e,Fe.anti hh.inj d b g c]
end
theorem A0N {h:AJ} (hu:HU h) {f:List AF} (a:VF h f):CW f∧NQ f:=⟨a.small,fun x b=>(a.srt hu x b).2⟩
theorem DM {h:AJ} {f:List AF} {ty:List Int} (e:FJ h f=some ty):BD h f=(Be f ty,true):=by unfold BD;rw[e]
theorem G0 {h:AJ} {f:List AF} (e:FJ h f=none):BD h f=([],false):=by unfold BD;rw[e]
theorem Y0 {d:List AH} {l:List (List AF)} (h:Uq (AY d) l=true):∀x∈l,V14 (AY d) x∧VF (AY d) x:=fun x a=>⟨A6C (h14 d) (Do.1 h x a),A3Z (h14 d) (Do.1 h x a)⟩
def F3 (f:List AF):List AF:=f.map fun x=>(x.1,AR x.2)
theorem Xg (f:List AF):(F3 f).length=f.length:=by simp[F3]
theorem RC (f:List AF) (k:Nat):(F3 f).getD k (0,[])=((f.getD k (0,[])).1,AR (f.getD k (0,[])).2):=by
 unfold F3;rw[AS,AAy,AS];cases f[k]?<;>rfl
theorem mA {l:List (Int×Int)} (h:(l.map (·.1)).Nodup):(AR l).Pairwise (fun a b=>a.1<b.1):=by
 have hp:=BN l;have h1:=LV l;have c:((AR l).map (·.1)).Nodup:=((hp.map _).nodup_iff).2 h;rw[List.Nodup,AAr]at c;exact(h1.and c).imp fun⟨a,b⟩=>by omega
theorem Xh {l:List (Int×Int)} (h:(l.map (·.1)).Nodup):AR (AR l)=AR l:=I5 ((Gy _).2 (mA h))
theorem R3 {f:List AF} (h:∀k,((f.getD k (0,[])).2.map (·.1)).Nodup):∀(k:Nat) (s:List Int×List Int) (n:Int),DT (F3 f) k s n=DT f k s n
 | 0,_,_=>rfl
 | k+1,s,n=>by
  rw[Di,Di,RC,Xh (h _)]
  congr 1
  funext t a;unfold D8;rw[R3 h k]
theorem mB {f:List AF} (h:∀k,((f.getD k (0,[])).2.map (·.1)).Nodup) (root:Int):ET (F3 f) root=ET f root:=by
 unfold ET Fs;rw[Xg,R3 h]
 congr 1
 funext n;unfold LM;rw[RC,Xh (h _)]
structure RD (h:AJ):Prop where
 str:∀t∈h.1,Str t.2.2.2
 rng:∀t∈h.1,∀p∈t.2.2.2,0≤p.1∧p.1<(h.2.length:Int)
theorem VR (d:List AH) (l:List AP) (f:List ByteArray) (t:Nat):∀n:Nat,Str (M8 d l f t n)∧∀p∈M8 d l f t n,0≤p.1∧p.1<(n:Int)
 | 0=>by
  have:M8 d l f t 0=[]:=rfl;rw[this];exact⟨List.Pairwise.nil,fun p hp=>(by cases hp)⟩
 | n+1=>by
  obtain⟨h1,c⟩:=VR d l f t n;rw[Qv];split
  ·refine⟨AB1.2 ⟨h1,List.pairwise_singleton _ _,fun a ha b e=>?_⟩,fun p hp=>?_⟩
   ·rw[AAh]at e;subst e;exact(c a ha).2
   ·rcases ON.1 hp with hp|hp
    ·have:=c p hp;omega
    ·rw[AAh]at hp;subst hp;exact⟨oN _,by show (n:Int)<((n+1:Nat):Int);omega⟩
  ·rw[AAa];exact⟨h1,fun p hp=>by have:=c p hp;omega⟩
theorem R4 (d:List AH):RD (Ap d).1:=by
 by_cases b:Ar d=0
 ·rw[Pt b];have c:=VI d;have hr:∀t∈(Bd d).1,∃k:Nat,t.2.2.2=M8 d (AL d) (A9 d) k (A9 d).length:=fun t a=>by
   obtain⟨k,hk,e⟩:=CC QC a;have:=lV b (t:=(k:Int)) (by omega) (by omega);unfold Ba at this;rw[f7]at this;exact⟨k,by rw[←this,e]⟩
  have hf:((Bd d).2.length:Int)=((A9 d).length:Int):=by rw[Pu b,nO]
  refine⟨fun t a=>?_,fun t a p hp=>?_⟩
  ·obtain⟨k,e⟩:=hr t a;rw[e];exact(VR _ _ _ _ _).1
  ·obtain⟨k,e⟩:=hr t a;rw[e]at hp;rw[hf];exact(VR _ _ _ _ _).2 p hp
 ·have:(Ap d).1.1=[]:=by
   unfold Ap A7;rw[BY b,BY b]
  exact⟨fun t a=>(by rw[this]at a;cases a),fun t a=>(by rw[this]at a;cases a)⟩
def Cg (r:List (Int×Int)) (v:Int×Int):Bool:=!(r.any fun a=>a.1==v.1)
def VS:Nat→List (Int×Int)→List (Int×Int)
 | _,[]=>[]
 | n,v :: l=>(v.1,(n:Int)) :: VS (n+1) l
def GD (N:List AF) (i:Nat) (M:List (Int×Int)):List AF:=N.set i ((N.getD i (0,[])).1,(N.getD i (0,[])).2++VS N.length M)++M.map fun v=>(v.2,[])
theorem Xi {N:List AF} {i:Nat} (hi:i<N.length):GD N i []=N:=by
 unfold GD VS;rw[AAa,AC0,AAa];refine AA8 (by simp) fun k h1 a=>?_;rw[ACD];split
 ·rename_i e;subst e;rw[AS,AT a];rfl
 ·rfl
theorem mC {N:List AF} {i:Nat} (hi:i<N.length) (v:Int×Int) (M:List (Int×Int)):GD (NA N i v) i M=GD N i (v :: M):=by
 have a:=Ul hi v i;rw[BY rfl]at a;have b:(NA N i v).length=N.length+1:=by simp[NA]
 unfold GD;rw[a,b];unfold NA;rw[List.set_append_left _ _ (by rw[AAd];exact hi),List.set_set];simp[VS]
theorem RE {i:Nat}:∀ {l:List (Int×Int)} {N:List AF},i<N.length→N.length≤4096→(l.map (·.1)).Nodup →
  SG i l N=if 4096<N.length+(l.filter (Cg (N.getD i (0,[])).2)).length then none else some (GD N i (l.filter (Cg (N.getD i (0,[])).2)))
 | [],N,hi,d,_=>by
  rw[ABE,Xi hi,At (by simpa using d)];rfl
 | v :: l,N,hi,d,c=>by
  rw[tO,AA5]at c;unfold SG;by_cases b:((N.getD i (0,[])).2.any fun a=>a.1==v.1)=true
  ·rw[BY b,RE hi d c.2,List.filter_cons_of_neg (by unfold Cg;rw[b];simp)]
  ·have j:Cg (N.getD i (0,[])).2 v=true:=by unfold Cg;rw[Bool.not_eq_true]at b;rw[b];rfl
   rw[At b,List.filter_cons_of_pos j];by_cases hf:4096≤N.length
   ·rw[BY hf,BY (by simp only[No];omega)]
   ·have h:=Uk N i v;have f:=Ul hi v i;rw[BY rfl]at f;have g:l.filter (Cg ((NA N i v).getD i (0,[])).2)=l.filter (Cg (N.getD i (0,[])).2):=by
     refine List.filter_congr fun w m=>?_;have k:v.1≠w.1:=fun e=>c.1 (If.2 ⟨w,m,e.symm⟩);unfold Cg;rw[f,ABx];simp[k]
    rw[At hf,RE (by omega) (by omega) c.2,g,h,mC hi];simp only[No]
    congr 1
    rw[eq_iff_iff];omega
def KE (h:AJ) (N:List AF) (i:Nat):List AF:=GD N i ((Ba h (N.getD i (0,[])).1).filter (Cg (N.getD i (0,[])).2))
def Ff (h:AJ):Nat→Nat→List AF→Option (List AF)
 | 0,_,_=>none
 | k+1,i,N=>if i<N.length then (if 4096<(KE h N i).length then none else Ff h k (i+1) (KE h N i)) else some N
theorem pB:∀(n:Nat) (M:List (Int×Int)),(VS n M).length=M.length
 | _,[]=>rfl
 | n,v :: M=>by simp[VS,pB]
theorem Hn (N:List AF) (i:Nat) (M:List (Int×Int)):(GD N i M).length=N.length+M.length:=by simp[GD]
theorem K7 {h:AJ} {t:Int} (a:0≤t) (b:t<(h.1.length:Int)):∃x∈h.1,Ba h t=x.2.2.2:=⟨_,Qz a b,rfl⟩
theorem Sr {l:List (Int×Int)} (h:Str l):(l.map (·.1)).Nodup:=by
 rw[List.Nodup,AAr];exact h.imp fun h e=>by omega
structure NG (h:AJ) (N:List AF):Prop where
 ty:∀x∈N,0≤x.1∧x.1<(h.1.length:Int)
 arc:∀x∈N,∀a∈x.2,Ew h N.length a
 nd:∀x∈N,(x.2.map (·.1)).Nodup
theorem pC {h:AJ} (hr:RD h):∀ {k i:Nat} {N:List AF},NG h N→(∀ {N:List AF} {i:Nat},NG h N→i<N.length→NG h (KE h N i))→N.length≤4096→Vq h k i N=Ff h k i N
 | 0,_,_,_,_,_=>rfl
 | k+1,i,N,a,hs,f=>by
  unfold Vq Ff;split
  ·rename_i hi;have b:=a.ty _ (AD N (0,[]) hi);obtain⟨x,g,e⟩:=K7 b.1 b.2;rw[RE hi f (by rw[e];exact Sr (hr.str x g))];have c:(KE h N i).length=N.length+((Ba h (N.getD i (0,[])).1).filter (Cg (N.getD i (0,[])).2)).length:=Hn _ _ _;rw[←c];split
   ·rfl
   ·rename_i d;exact pC hr (hs a hi) hs (ACA d)
  ·rfl
theorem pD {a:Int×Int}:∀ {M:List (Int×Int)} {n:Nat},a∈VS n M→(∃v∈M,v.1=a.1)∧(n:Int)≤a.2∧a.2<((n+M.length:Nat):Int)
 | [],_,h=>by cases h
 | v :: M,n,h=>by
  rcases GO.1 h with rfl|h
  ·exact⟨⟨v,by simp,rfl⟩,by simp only[No];omega⟩
  ·obtain⟨⟨w,b,e⟩,h1,c⟩:=pD h;exact⟨⟨w,by simp[b],e⟩,by simp only[No]at *;omega⟩
theorem Y2:∀ {M:List (Int×Int)} {n:Nat},(VS n M).map (·.1)=M.map (·.1)
 | [],_=>rfl
 | v :: M,n=>by simp[VS,Y2]
theorem Mz {N:List AF} {i:Nat} (hi:i<N.length) {M:List (Int×Int)} {x:AF} (a:x∈GD N i M):x∈N∨x=((N.getD i (0,[])).1,(N.getD i (0,[])).2++VS N.length M)∨∃v∈M,x=(v.2,[]):=by
 unfold GD at a;rcases ON.1 a with a|a
 ·rcases AAT a with a|a
  ·exact .inl a
  ·exact .inr (.inl a)
 ·obtain⟨v,b,rfl⟩:=If.1 a;exact .inr (.inr ⟨v,b,rfl⟩)
theorem Ss {h:AJ} (hf:Sk h) (hr:RD h) {N:List AF} {i:Nat} (g:NG h N) (hi:i<N.length):NG h (KE h N i):=by
 have l:=AD N (0,[]) hi;have m:=g.ty _ l;obtain⟨t,n,e⟩:=K7 m.1 m.2;have y:=Hn N i ((Ba h (N.getD i (0,[])).1).filter (Cg (N.getD i (0,[])).2));have k:∀v∈(Ba h (N.getD i (0,[])).1).filter (Cg (N.getD i (0,[])).2),v∈t.2.2.2∧Cg (N.getD i (0,[])).2 v=true:=fun v f=>by
  rw[e]at f;exact AA4.1 f
 have q:(((Ba h (N.getD i (0,[])).1).filter (Cg (N.getD i (0,[])).2)).map (·.1)).Nodup:=by
  rw[e];exact Sr ((hr.str t n).filter _)
 have w:KE h N i=GD N i ((Ba h (N.getD i (0,[])).1).filter (Cg (N.getD i (0,[])).2)):=rfl;rw[w];generalize (Ba h (N.getD i (0,[])).1).filter (Cg (N.getD i (0,[])).2)=M at *;refine⟨fun x d=>?_,fun x d a ha=>?_,fun x d=>?_⟩
 ·rcases Mz hi d with d|rfl|⟨v,f,rfl⟩
  ·exact g.ty x d
  ·exact m
  ·exact hf.val t n v (k v f).1
 ·rw[y];rcases Mz hi d with d|rfl|⟨v,f,rfl⟩
  ·obtain⟨h1,j,p⟩:=g.arc x d a ha;exact⟨h1,j,by omega⟩
  ·rcases ON.1 ha with ha|ha
   ·obtain⟨h1,j,p⟩:=g.arc _ l a ha;exact⟨h1,j,by omega⟩
   ·obtain⟨⟨v,f,o⟩,h1,j⟩:=pD ha;have:=hr.rng t n v (k v f).1;exact⟨by rw[←o];exact this,by omega,by omega⟩
  ·cases ha
 ·rcases Mz hi d with d|rfl|⟨v,f,rfl⟩
  ·exact g.nd x d
  ·show (((N.getD i (0,[])).2++VS N.length M).map (·.1)).Nodup;rw[AAx,Y2,AAF];refine⟨g.nd _ l,q,fun a ha b s r=>?_⟩;obtain⟨c,u,rfl⟩:=If.1 ha;obtain⟨v,f,rfl⟩:=If.1 s;have:=(k v f).2;unfold Cg at this;rw[OF,List.any_eq_false]at this;exact this c u (by simpa using r)
  ·exact List.nodup_nil
theorem OI {h:AJ} (d:h.2.length≤64) {N:List AF} (b:NG h N) {x:AF} (c:x∈N):x.2.length≤64:=by
 have hp:=BN x.2;rw[←hp.length_eq];refine Yu (mA (b.nd x c)) fun a ha=>?_;have:=(b.arc x c a (hp.mem_iff.1 ha)).1;omega
theorem Y3 (v:Int×Int):∀(M:List (Int×Int)) (n:Nat),VS n (M++[v])=VS n M++[(v.1,((n+M.length:Nat):Int))]
 | [],n=>rfl
 | w :: M,n=>by
  rw[AB3,VS,VS,Y3 v M (n+1),AB3,No]
  congr 5
  omega
theorem tJ {N:List AF} {i:Nat} (hi:i<N.length) (M:List (Int×Int)):(N++M.map fun v:Int×Int=>(v.2,[])).set i ((N.getD i (0,[])).1,(N.getD i (0,[])).2++VS N.length M)=GD N i M:=by
 unfold GD;rw[List.set_append_left _ _ hi]
theorem hH (e:Int):∀l:List (Int×Int),(VD l e).2=l.any fun a=>a.1==e
 | []=>rfl
 | a :: l=>by
  unfold VD;by_cases h:a.1=e
  ·rw[BY h];simp[h]
  ·rw[At h,hH e l];simp[h]
def DN (h:AJ) (f:List AF):List AF×Int :=
 if (BD h f).2=false then ([],12) else if J9 (B8 h)=false then ([],6)
 else match Ff h ((BD h f).1.length+4097) 0 (BD h f).1 with
  | none=>([],7)
  | some N=>(ET N 0,0)
theorem A2G {h:AJ} {N:List AF} (b:NG h N) (h0:0<N.length) (f:N.length≤4096):Bv N=0:=by
 unfold Bv;rw[At (by omega),At (by omega)];refine VQ fun x c=>⟨(b.ty x c).1,hC (b.nd x c) fun a ha=>?_⟩;obtain⟨h1,d,e⟩:=b.arc x c a ha;exact⟨h1.1,d,e⟩
theorem P6 {h:AJ} (hf:Sk h) (hr:RD h):∀ {k i:Nat} {N R:List AF},NG h N→0<N.length→N.length≤4096→Ff h k i N=some R→NG h R∧0<R.length∧R.length≤4096
 | 0,_,_,_,_,_,_,e=>by cases e
 | k+1,i,N,R,a,h0,b,e=>by
  unfold Ff at e;split at e
  ·rename_i hi;split at e
   ·cases e
   ·have:=Hn N i ((Ba h (N.getD i (0,[])).1).filter (Cg (N.getD i (0,[])).2));exact P6 hf hr (Ss hf hr a hi) (by unfold KE;omega) (by omega) e
  ·cases e;exact⟨a,h0,b⟩
theorem R5 {h:AJ} {f:List AF} (a:VF h f):NG h f:=⟨a.ty,My a,fun x b=>Sr (a.str x b)⟩
theorem RF {h:AJ} (hh:pA h) (hr:RD h) {f:List AF} (k:VF h f) (j:f.length≤4096):CE h f=DN h f:=by
 unfold CE DN;cases a:FJ h f with
 | none=>rw[G0 a];rfl
 | some ty =>
  rw[DM a];simp only;split
  ·rfl
  ·split
   ·rfl
   ·have b:=(MR hh k a).1;have c:(Be f ty).length≤4096:=by rw[CU];exact j
    rw[pC hr (R5 b) (Ss hh.ft hr) c];cases e:Ff h ((Be f ty).length+4097) 0 (Be f ty) with
    | none=>rfl
    | some R =>
     obtain⟨d,g,i⟩:=P6 hh.ft hr (R5 b) b.pos c e;show Ax R=(ET R 0,0);unfold Ax;rw[BY (A2G d g i)]
def t6F (h:AJ) (ty:List Int) (n:Int) (a:Int×Int):Int×Bool:=Cf h (ty.getD n.toNat 0) (J7 h a.1)
def tY (h:AJ) (ty:List Int) (n:Int) (a:Int×Int):List Int:=ty.set n.toNat (t6F h ty n a).1
def u6F (h:AJ) (ty:List Int) (n:Int) (a:Int×Int):Int×Bool:=Cf h ((tY h ty n a).getD a.2.toNat 0) (Aw h (t6F h ty n a).1 a.1).1
def z6F (h:AJ) (ty:List Int) (n:Int) (a:Int×Int):List Int:=(tY h ty n a).set a.2.toNat (u6F h ty n a).1
def r6F (h:AJ) (ty:List Int) (n:Int) (a:Int×Int):Option (List Int):=if (t6F h ty n a).2=false then none else if (u6F h ty n a).2=false then none else some (z6F h ty n a)
def Ig (h:AJ) (n:Int):List (Int×Int)→List Int→Option (List Int)
 | [],ty=>some ty
 | a :: l,ty=>(r6F h ty n a).bind (Ig h n l)
def KF (h:AJ):List AF→Nat→List Int→Option (List Int)
 | [],_,ty=>some ty
 | x :: r,i,ty=>(Ig h (i:Int) x.2 ty).bind (KF h r (i+1))
def LW (h:AJ) (f:List AF):Nat→List Int→Option (List Int)
 | 0,_=>none
 | k+1,ty=>(KF h f 0 ty).bind fun a=>if a=ty then some a else LW h f k a
def Hg (h:AJ) (f:List AF):Option (List Int):=LW h f (Id h f) (Ai f)
theorem VT {α:Type} {p q:α→Bool}:∀ {l:List α},(∀x∈l,q x=true→p x=true)→(l.filter q).length≤(l.filter p).length
 | [],_=>NO _
 | y :: l,b=>by
  have d:=VT (l:=l) fun z c=>b z (bY _ c);rw[AAn,AAn];by_cases a:q y=true
  ·rw[BY a,BY (b y (by simp) a)];simp only[No];omega
  ·rw[At a];split
   ·simp only[No];omega
   ·exact d
theorem tK {h:AJ} (hk:Jf h) {a m:Int} (a0:0≤a) (c:a<(h.1.length:Int)) (d:0≤m) (f:m<(h.1.length:Int)) (hs:A8 h a m=true):gC h m≤gC h a :=
 VT fun x b e=>by
  have b:=iS.1 b;exact F0 hk a0 c d f (oN _) (by omega) hs e
theorem hZ {h:AJ} (hk:Jf h) (hi:HH h):∀ {u v:List Int},u.length=v.length→(∀t∈u,0≤t∧t<(h.1.length:Int))→(∀t∈v,0≤t∧t<(h.1.length:Int))→(∀i,i<u.length→A8 h (u.getD i 0) (v.getD i 0)=true)→Ms h v≤Ms h u∧(v≠u→Ms h v<Ms h u)
 | [],[],_,_,_,_=>⟨NO _,fun e=>absurd rfl e⟩
 | [],_ :: _,e,_,_,_=>by cases e
 | _ :: _,[],e,_,_,_=>by cases e
 | a :: u,b :: v,e,hu,l,hs=>by
  obtain⟨m,j⟩:=hZ hk hi (u:=u) (v:=v) (by simpa using e) (fun t d=>hu t (by simp[d])) (fun t d=>l t (by simp[d])) fun i o=>hs (i+1) (by simp only[No];omega);have h0:A8 h a b=true:=hs 0 (by simp);obtain⟨a0,f⟩:=hu a (by simp);obtain⟨g,b1⟩:=l b (by simp);have h1:=tK hk a0 f g b1 h0;have n:=fun c=>oH hk hi a0 f g b1 h0 c;unfold Ms at m j ⊢;simp only[tO,ACx];refine⟨by omega,fun c=>?_⟩;by_cases k:b=a
  ·subst k;have:=j fun e=>c (by rw[e]);omega
  ·have:=n k;omega
theorem pE {h:AJ} (hk:Jf h) (hi:HH h) {m:Nat} {u v:List Int} (hu:G2 h m u) (a:G2 h m v) (hs:Fe h m u v):Ms h v≤Ms h u∧(v≠u→Ms h v<Ms h u) :=
 hZ hk hi (hu.1.trans a.1.symm) hu.2 a.2 fun i b=>hs i (by rw[←hu.1];exact b)
theorem G2.set {h:AJ} {m:Nat} {u:List Int} (hu:G2 h m u) {t:Int} (b:0≤t) (c:t<(h.1.length:Int)) (i:Nat):G2 h m (u.set i t):=⟨by rw[AAd];exact hu.1,fun x a=>by
 rcases AAT a with a|rfl
 ·exact hu.2 x a
 ·exact⟨b,c⟩⟩
theorem Fe.set {h:AJ} (hk:Jf h) {m:Nat} {u:List Int} (hu:G2 h m u) {t:Int} {i:Nat} (hi:i<m) (hs:A8 h (u.getD i 0) t=true):Fe h m u (u.set i t):=fun k a=>by
 rw[Fd _ _ _ (by rw[hu.1];exact hi) k];split
 ·rename_i e;rw[e];exact hs
 ·exact Mt hk (hu.get a).1 (hu.get a).2
theorem Fe.set2 {h:AJ} {m:Nat} {u v:List Int} (hu:u.length=m) (b:Fe h m u v) {t:Int} {i:Nat} (hi:i<m) (hs:A8 h t (v.getD i 0)=true):Fe h m (u.set i t) v:=fun k a=>by
 rw[Fd _ _ _ (by rw[hu];exact hi) k];split
 ·rename_i e;rw[e];exact hs
 ·exact b k a
section
variable {h:AJ} (hk:Jf h) (hn:lU h) (hi:HH h) (hf:Sk h) (hap:HAp h) {m:Nat}
include hk hn hi hf hap
theorem mD {n:Int} (n0:0≤n) (n1:n<(m:Int)) {ty i:List Int} (b:G2 h m ty) {a:Int×Int} (ha:Ew h m a) (e:r6F h ty n a=some i) :
  G2 h m i∧Fe h m ty i∧(i=ty→(Aw h (ty.getD n.toNat 0) a.1).2=true∧A8 h (Aw h (ty.getD n.toNat 0) a.1).1 (ty.getD a.2.toNat 0)=true):=by
 obtain⟨⟨a0,r⟩,H,b1⟩:=ha;have l:n.toNat<m:=by omega
 have k:a.2.toNat<m:=by omega
 obtain⟨w,x⟩:=b.get l;obtain⟨y,z⟩:=Gx hf a0 r;unfold r6F at e;split at e
 ·cases e
 ·rename_i h1;have h1:(t6F h ty n a).2=true:=by simpa using h1
  split at e
  ·cases e
  ·rename_i j;have j:(u6F h ty n a).2=true:=by simpa using j
   injection e with e
   obtain⟨p0,q,A,B⟩:=(Hm hk hn w x y z).1 h1;have c:G2 h m (tY h ty n a):=b.set p0 q _;have s:=(hap.iff _ _ p0 q a0 r).2 B;obtain⟨v0,v1⟩:=Ej hf p0 q s;obtain⟨C,D⟩:=c.get k;obtain⟨E,F,G,g⟩:=(Hm hk hn C D v0 v1).1 j;have t:G2 h m (z6F h ty n a):=c.set E F _;have u:Fe h m ty (tY h ty n a):=Fe.set hk b l A;have p:Fe h m (tY h ty n a) (z6F h ty n a):=Fe.set hk c k G;subst e;refine⟨t,u.trans hk b c t p,fun e=>?_⟩;have v:tY h ty n a=ty:=Fe.anti hi c b (by rw[e]at p;exact p) u;have d:(tY h ty n a).getD n.toNat 0=(t6F h ty n a).1:=by
    unfold tY;rw[Fd _ _ _ (by rw[b.1];exact l),BY rfl]
   have f:(z6F h ty n a).getD a.2.toNat 0=(u6F h ty n a).1:=by
    unfold z6F;rw[Fd _ _ _ (by rw[c.1];exact k),BY rfl]
   rw[v]at d;rw[e]at f;replace d:=d.symm;replace f:=f.symm;have o:=s;change (Aw h (t6F h ty n a).1 a.1).2=true at o;change A8 h (Aw h (t6F h ty n a).1 a.1).1 (u6F h ty n a).1=true at g;rw[d]at o g;rw[f]at g;exact⟨o,g⟩
theorem A40 {n:Int} (n0:0≤n) (n1:n<(m:Int)) {ty u:List Int} (i:G2 h m ty) (hu:G2 h m u) (o:Fe h m ty u) {a:Int×Int} (ha:Ew h m a) (B:(Aw h (u.getD n.toNat 0) a.1).2=true∧A8 h (Aw h (u.getD n.toNat 0) a.1).1 (u.getD a.2.toNat 0)=true) :
  ∃w,r6F h ty n a=some w∧Fe h m w u:=by
 have _:=hi;obtain⟨⟨a0,c⟩,G,b1⟩:=ha;have d:n.toNat<m:=by omega
 have b:a.2.toNat<m:=by omega
 obtain⟨j,k⟩:=i.get d;obtain⟨f,g⟩:=hu.get d;obtain⟨t,v⟩:=Gx hf a0 c;obtain⟨p,A⟩:=B;obtain⟨h1,l⟩:=(Hm hk hn j k t v).2 _ f g (o _ d) ((hap.iff _ _ f g a0 c).1 p);obtain⟨p0,e,H,C⟩:=(Hm hk hn j k t v).1 h1;have r:G2 h m (tY h ty n a):=i.set p0 e _;have q:=(hap.iff _ _ p0 e a0 c).2 C;obtain⟨v0,v1⟩:=Ej hf p0 e q;obtain⟨w0,F⟩:=Ej hf f g p;have s:Fe h m (tY h ty n a) u:=Fe.set2 i.1 o d l;obtain⟨D,E⟩:=r.get b;have z:=hap.mono _ _ a.1 p0 e f g a0 c l q;obtain⟨x,y⟩:=(Hm hk hn D E v0 v1).2 _ (hu.get b).1 (hu.get b).2 (s _ b) (F0 hk v0 v1 w0 F (hu.get b).1 (hu.get b).2 z A);refine⟨z6F h ty n a,?_,Fe.set2 r.1 s b y⟩;unfold r6F;rw[At (by show ¬(Cf h _ _).2=false;rw[h1];simp),At (by show ¬(Cf h _ _).2=false;rw[show (Cf h ((tY h ty n a).getD a.2.toNat 0) (Aw h (t6F h ty n a).1 a.1).1).2=true from x];simp)]
theorem VU {n:Int} (n0:0≤n) (n1:n<(m:Int)):∀ {l:List (Int×Int)} {ty c:List Int},(∀a∈l,Ew h m a)→G2 h m ty→Ig h n l ty=some c→G2 h m c∧Fe h m ty c∧(c=ty→VL h ty n l)
 | [],ty,c,_,d,e=>by
  injection e with e
  subst e;exact⟨d,Fe.refl hk d,fun _ a ha=>by cases ha⟩
 | a :: l,ty,c,o,d,e=>by
  unfold Ig at e;cases g:r6F h ty n a with
  | none=>rw[g]at e;cases e
  | some JY =>
   rw[g]at e;have e:Ig h n l JY=some c:=e;obtain⟨j,p,s⟩:=mD hk hn hi hf hap n0 n1 d (o a (by simp)) g;obtain⟨q,i,t⟩:=VU n0 n1 (fun b f=>o b (bY _ f)) j e;refine⟨q,p.trans hk d j q i,fun k=>?_⟩;have r:JY=ty:=Fe.anti hi j d (by rw[k]at i;exact i) p;subst r;intro b f;rcases GO.1 f with rfl|f
   ·exact s rfl
   ·exact t k b f
theorem iA {n:Int} (n0:0≤n) (n1:n<(m:Int)) {u:List Int} (hu:G2 h m u):∀ {l:List (Int×Int)} {ty:List Int},(∀a∈l,Ew h m a)→G2 h m ty→Fe h m ty u→VL h u n l→∃j,Ig h n l ty=some j∧Fe h m j u
 | [],ty,_,_,e,_=>⟨ty,rfl,e⟩
 | a :: l,ty,d,g,e,i=>by
  obtain⟨JY,f,h1⟩:=A40 hk hn hi hf hap n0 n1 g hu e (d a (by simp)) (i a (by simp));obtain⟨p,-,-⟩:=mD hk hn hi hf hap n0 n1 g (d a (by simp)) f;obtain⟨jQ,k,o⟩:=iA n0 n1 hu (fun b c=>d b (bY _ c)) p h1 fun b c=>i b (bY _ c);exact⟨jQ,by unfold Ig;rw[f];exact k,o⟩
theorem VV:∀ {r:List AF} {i:Nat} {ty b:List Int},i+r.length≤m→(∀x∈r,∀a∈x.2,Ew h m a)→G2 h m ty→KF h r i ty=some b→G2 h m b∧Fe h m ty b∧(b=ty→∀j,j<r.length→VL h ty ((i+j:Nat):Int) (r.getD j (0,[])).2)
 | [],i,ty,b,_,_,c,e=>by
  injection e with e
  subst e;exact⟨c,Fe.refl hk c,fun _ j f=>by simp at f⟩
 | x :: r,i,ty,b,q,ha,c,e=>by
  simp only[No]at q;unfold KF at e;cases d:Ig h (i:Int) x.2 ty with
  | none=>rw[d]at e;cases e
  | some JY =>
   rw[d]at e;have e:KF h r (i+1) JY=some b:=e;obtain⟨k,n,t⟩:=VU hk hn hi hf hap (oN _) (by omega) (ha x (by simp)) c d;obtain⟨o,g,u⟩:=VV (by omega) (fun y s=>ha y (bY _ s)) k e;refine⟨o,n.trans hk c k o g,fun l=>?_⟩;have p:JY=ty:=Fe.anti hi k c (by rw[l]at g;exact g) n;subst p;intro j f;cases j with
   | zero=>exact t rfl
   | succ j =>
    have:=u l j (by simpa using f);rw[show i+1+j=i+(j+1) by omega]at this;exact this
theorem iB {u:List Int} (hu:G2 h m u):∀ {r:List AF} {i:Nat} {ty:List Int},i+r.length≤m→(∀x∈r,∀a∈x.2,Ew h m a)→G2 h m ty→Fe h m ty u→(∀j,j<r.length→VL h u ((i+j:Nat):Int) (r.getD j (0,[])).2)→∃f,KF h r i ty=some f∧Fe h m f u
 | [],i,ty,_,_,_,b,_=>⟨ty,rfl,b⟩
 | x :: r,i,ty,n,ha,d,b,e=>by
  simp only[No]at n;obtain⟨JY,c,h1⟩:=iA hk hn hi hf hap (oN i) (by omega) hu (ha x (by simp)) d b (e 0 (by simp));obtain⟨p,-,-⟩:=VU hk hn hi hf hap (oN i) (by omega) (ha x (by simp)) d c;obtain⟨jQ,g,k⟩:=iB hu (r:=r) (i:=i+1) (by omega) (fun y o=>ha y (bY _ o)) p h1 fun j l=>by
   have:=e (j+1) (by simpa using l);rw[show i+(j+1)=i+1+j by omega]at this;exact this
  exact⟨jQ,by unfold KF;rw[c];exact g,k⟩
end
section
variable {h:AJ} (hk:Jf h) (hn:lU h) (hi:HH h) (hf:Sk h) (hap:HAp h) {f:List AF} (ha:K3 h f)
include hk hn hi hf hap ha
theorem RG:∀ {k:Nat} {ty v:List Int},G2 h f.length ty→LW h f k ty=some v→WTy h f v∧Fe h f.length ty v∧G2 h f.length v
 | 0,_,_,_,e=>by cases e
 | k+1,ty,v,c,e=>by
  unfold LW at e;cases a:KF h f 0 ty with
  | none=>rw[a]at e;cases e
  | some JY =>
   rw[a]at e;have e:(if JY=ty then some JY else LW h f k JY)=some v:=e;obtain⟨b,d,p⟩:=VV hk hn hi hf hap (by omega) ha c a;split at e
   ·rename_i j;have m:JY=v:=ABL e;subst j;subst m;refine⟨fun i l=>?_,d,b⟩;have:=p rfl i l
    rwa [AAL]at this
   ·obtain⟨n,o,g⟩:=RG b e;exact⟨n,d.trans hk c b g o,g⟩
theorem iC {u:List Int} (hu:G2 h f.length u) (d:WTy h f u):∀ {k:Nat} {ty:List Int},G2 h f.length ty→Ms h ty<k→Fe h f.length ty u→∃v,LW h f k ty=some v∧Fe h f.length v u
 | 0,ty,_,hp,_=>by omega
 | k+1,ty,b,hp,l=>by
  obtain⟨JY,c,h1⟩:=iB hk hn hi hf hap hu (r:=f) (i:=0) (by omega) ha b l fun j g=>by rw[AAL];exact d j g
  obtain⟨e,m,-⟩:=VV hk hn hi hf hap (by omega) ha b c;unfold LW;rw[c];show ∃v,(if JY=ty then some JY else LW h f k JY)=some v∧_;by_cases a:JY=ty
  ·rw[BY a];exact⟨JY,rfl,h1⟩
  ·rw[At a];have:=(pE hk hi b e m).2 a;exact iC hu d e (by omega) h1
theorem A2I (c:∀x∈f,0≤x.1∧x.1<(h.1.length:Int)):Hg h f=FJ h f:=by
 have h0:G2 h f.length (Ai f):=(XM c).tyl;have hp:Ms h (Ai f)<Id h f:=by have:=Yk h f;omega
 cases e:FJ h f with
 | some ty =>
  obtain⟨w,l,t⟩:=OH hk hi hf hap ha c e;obtain⟨v,b,k⟩:=iC hk hn hi hf hap ha t w h0 hp l;obtain⟨i,g,d⟩:=RG hk hn hi hf hap ha h0 b;obtain⟨jQ,a,j⟩:=MP hk hi hf hap ha c d i g;rw[e]at a;injection a with a
  subst a;unfold Hg;rw[b,Fe.anti hi d t k j]
 | none =>
  cases b:Hg h f with
  | none=>rfl
  | some v =>
   obtain⟨i,g,d⟩:=RG hk hn hi hf hap ha h0 b;obtain⟨jQ,a,-⟩:=MP hk hi hf hap ha c d i g;rw[e]at a;cases a
end
section
attribute [local go_sem] VG MG
def mE:Ac:={ ins:=[I4,I4],pre:=fun(a,b,_)=>List.length a=List.length b,out:=fun(a,b,_)=>[.p .bool (decide (a=b))],lend:=true }
theorem tL (h:AJ) (hk:Jf h) (hn:lU h) (hf:Sk h) (hap:HAp h) {m:Nat} {ty:List Int} (f:G2 h m ty) {n:Int} (n0:0≤n) (n1:n<(m:Int)) {a:Int×Int} (ha:Ew h m a) :
  BL Tryz.prog 45 [.p Lb h,.sr 1000000 T3 0 ty.length,.p T3 n,.p BK a] [(1000000,.arr 3 T3 ty)] [1000000]
  (fun res s=>(r6F h ty n a=none∧res=.p .bool false∧∃c,s=[(1000000,.arr 3 T3 c)])∨∃c,r6F h ty n a=some c∧res=.p .bool true∧s=[(1000000,.arr 3 T3 c)]):=by
 have o:∀x∈h.1,x.2.1.length≤100000:=fun x v=>To (hk.1.wid x.2.1 (If.2 ⟨x,v,rfl⟩)) (by omega);obtain⟨⟨a0,d⟩,j,b1⟩:=ha;obtain⟨k,l⟩:=f.get (show n.toNat<m by omega);obtain⟨q,r⟩:=Gx hf a0 d;have t:ty.length=m:=f.1;subst t;have hr:r6F h ty n a=if (t6F h ty n a).2=false then none else if (u6F h ty n a).2=false then none else some (z6F h ty n a):=rfl
 have g:=Hm hk hn k l q r;refine La [0,1,2,3,4,7,8,9,10,11,13,14,32] [] [] Tryz.func45 Tryz.ntmps45 (AE A0w (AE A0i AG)) ?_;intro w0 K O0 ρ0 e B C;simp only[Ao];repeat'(first|exact trivial|refine eS rfl ?_|refine AB ?_|refine rX e ?_ ?_|refine rC ?_ ?_<;>intro b<;>try(cases b;done))
 ·exact⟨⟨n0,n1⟩,⟨a0,d⟩,⟨k,l⟩,⟨q,r⟩,o⟩
 ·refine Ev.ent (σ':=⟨[(8,.p .bool false)],[(1000000,.arr 3 T3 ty)]⟩) ?_ (AC [(1000000,.nm 1000000)] rfl rfl ?_ ?_);exact fM e [.tmp 8] (.p .bool false) eT (.inl ⟨by rw[hr];exact BY b,rfl,ty,rfl⟩);all_goals first|exact eN|refine eM ?_
 ·exact⟨n0,n1⟩
 ·exact⟨(g.1 b).1,(g.1 b).2.1⟩
 ·obtain⟨p0,i,D,y⟩:=g.1 b;have w:G2 h ty.length (tY h ty n a):=f.set p0 i _;have u:=(hap.iff _ _ p0 i a0 d).2 y;obtain⟨v0,v1⟩:=Ej hf p0 i u;obtain⟨z,A⟩:=w.get (show a.2.toNat<ty.length by omega);exact⟨⟨j,b1⟩,⟨z,A⟩,⟨v0,v1⟩,o⟩
 ·exact⟨j,b1⟩
 ·refine Ev.ent (σ':=⟨[(8,.p .bool (u6F h ty n a).2)],[(1000000,.arr 3 T3 (z6F h ty n a))]⟩) ?_ (AC [(1000000,.nm 1000000)] rfl rfl ?_ ?_);refine fM e [.tmp 8] (.p .bool (u6F h ty n a).2) eT ?_
  ·rw[hr,At (show ¬(t6F h ty n a).2=false by rw[show (t6F h ty n a).2=true from b];simp)];cases hu:(u6F h ty n a).2
   ·exact .inl ⟨by simp,rfl,_,rfl⟩
   ·exact .inr ⟨_,by simp,rfl,rfl⟩
  all_goals first|exact eN|refine eM ?_
  ·rfl
  ·rfl
theorem A0P:Ah Tryz.prog 46 mE:=by
 refine fK [0,1,4,5,9,20] Tryz.func46 Tryz.ntmps46 AG ?_;rintro w0 O0 ⟨a,b,u⟩ f ⟨⟨j,-⟩,-⟩ g;simp only[AO]at j;have g:List.length a=List.length b:=g;simp only[mE,AM];repeat'(first|exact trivial|refine eS rfl ?_|refine AB ?_|refine rX f ?_ ?_|refine rC ?_ ?_<;>intro c<;>try(cases c;done))
 refine AI (ι:={k:Nat//k≤List.length a∧(a:List Int).take k=(b:List Int).take k}) (fun k=>⟨[(0,.p I4 a),(1,.p I4 b),(5,.p (.int .i64) (k.1:Int))],[]⟩) (fun k=>List.length a-k.1) ⟨0,IN _,rfl⟩ (AC [] rfl rfl ?_ ?_) (fun k=>?_)
 ·first|exact eN|refine eM ?_
 ·first|exact eN|refine eM ?_
 ·obtain⟨k,hk,h⟩:=k;repeat'(first|exact trivial|refine eS rfl ?_|refine AB ?_|refine rX f ?_ ?_|refine rC ?_ ?_<;>intro c<;>try(cases c;done))
  ·exact⟨by assumption,by rw[←g];assumption⟩
  ·have d:k<List.length a:=by exact eV
   have l:(a:List Int)≠b:=fun e=>c (by rw[e]);exact fI f [.tmp 4] (by rw[ABC l];exact eR)
  ·exact eV
  ·have d:k<List.length a:=by exact eV
   refine⟨⟨k+1,d,?_⟩,by simp only;omega,AC [] rfl rfl ?_ ?_⟩
   ·have e:List.getD a k 0=List.getD b k 0:=by simpa using c
    rw[Ab (a:List Int) 0 d,Ab (b:List Int) 0 (by omega),h,e]
   ·first|exact eN|refine eM ?_
   ·first|exact eN|refine eM ?_
  ·have d:k=List.length a:=by exact eV
   have i:(a:List Int)=b:=by
    rw[d,f5,g,f5]at h;exact h
   exact fI f [.tmp 4] (by rw[ABc i];exact eR)
end
section
attribute [local go_sem] mE
theorem tM (h:AJ) (hk:Jf h) (hn:lU h) (hf:Sk h) (hap:HAp h) (hi:HH h) (f:List AF) (ha:K3 h f) (W:∀x∈f,0≤x.1∧x.1<(h.1.length:Int)) (ab:f.length≤100000) (V:∀x∈f,x.2.length≤100000) :
  BL Tryz.prog 19 [.p Lb h,.p FZ f] [] []
  (fun res F=>(Hg h f=none∧res=.tup [.p FZ [],.p .bool false]∧F=[(4,.box 25 true [.p Et []])])∨∃ty,Hg h f=some ty∧res=.tup [.ag [.sr 89 LJ 0 f.length],.p .bool true]∧F=[(89,.arr 49 LJ (Be f ty)),(4,.box 25 true [.sr 89 LJ 0 f.length])]):=by
 have h0:G2 h f.length (Ai f):=(XM W).tyl;have S:Ms h (Ai f)<Id h f:=by have:=Yk h f;omega
 refine La [0,1,2,3,4,5,6,7,8,9,10,11,12,13,14,19,31,39,51,62,72] [] [] Tryz.func19 Tryz.ntmps19 (AE A0P AG) ?_;intro w0 K O0 ρ0 c af ah;simp only[Ao];repeat'(first|exact trivial|refine eS rfl ?_|refine AB ?_|refine rX c ?_ ?_|refine rC ?_ ?_<;>intro a<;>try(cases a;done))
 refine AI (ι:={i:Nat//i≤f.length}) (fun i=>⟨[(2,.bp 2 [] 0),(3,.bp 3 [] 0),(4,.bp 4 [] 0),(6,.sr 30 T3 0 i.1),(7,.p (.int .i64) (i.1:Int))],[(2,.box 31 true [.p M6 h.1,.p Nq h.2]),(3,.box 25 true [.p Et f]),(4,.box 25 true [.raw (.slice none 0 0)]),(30,.arr 3 T3 ((Ai f).take i.1))]⟩) (fun i=>f.length-i.1) ⟨0,IN _⟩ (AC [(2,.nm 2),(3,.nm 3),(4,.nm 4),(30,.nil)] rfl rfl ?_ ?_) (fun i=>?_)
 ·first|exact eN|refine eM ?_
 ·first|exact eN|refine eM ?_
 ·obtain⟨i,aa⟩:=i;repeat'(first|exact trivial|refine eS rfl ?_|refine AB ?_|refine rX c ?_ ?_|refine rC ?_ ?_<;>intro a<;>try(cases a;done))
  ·exact⟨a,by simp only[AO];omega⟩
  ·exact eV
  ·have s:i<f.length:=IS.1 a;have tl:((Ai f).take i).length=i:=by rw[SH];simp[Ai];omega
   have ts:(Ai f).take i++[(f.getD i (0,[])).1]=(Ai f).take (i+1):=by
    rw[Ab (Ai f) 0 (by simpa[Ai] using s)];simp[Ai,AS,s]
   refine⟨⟨i+1,s⟩,by simp only;omega,AC [(2,.nm 2),(3,.nm 3),(4,.nm 4),(30,.nm 30)] rfl rfl ?_ ?_⟩
   ·simp only[←ts];first|exact eN|refine eM ?_
    simp only[ABq,ACg]
   ·first|exact eN|refine eM ?_
  ·have s:i=f.length:=by
    have:=oF.1 a;omega
   subst s;rw[show (Ai f).take f.length=Ai f from As (by simp[Ai])];refine AI (ι:={x:Bool×Nat×List Int//G2 h f.length x.2.2∧x.2.1≤Id h f∧((x.1=true∧LW h f x.2.1 x.2.2=Hg h f∧Ms h x.2.2<x.2.1)∨(x.1=false∧Hg h f=some x.2.2))}) (fun x=>⟨[(2,.bp 2 [] 0),(3,.bp 3 [] 0),(4,.bp 4 [] 0),(6,.sr 30 T3 0 f.length),(8,.p .bool x.1.1)],[(2,.box 31 true [.p M6 h.1,.p Nq h.2]),(3,.box 25 true [.p Et f]),(4,.box 25 true [.raw (.slice none 0 0)]),(30,.arr 3 T3 x.1.2.2)]⟩) (fun x=>(if x.1.1 then x.1.2.1+1 else 0)) ⟨(true,Id h f,Ai f),h0,NO _,.inl ⟨rfl,rfl,S⟩⟩ (AC [(2,.nm 2),(3,.nm 3),(4,.nm 4),(30,.nm 30)] rfl rfl ?_ ?_) (fun x=>?_)
   ·first|exact eN|refine eM ?_
   ·first|exact eN|refine eM ?_
   ·obtain⟨⟨b,k,ty⟩,e,Q,E⟩:=x;simp only at e Q E ⊢;repeat'(first|exact trivial|refine eS rfl ?_|refine AB ?_|refine rX c ?_ ?_|refine rC ?_ ?_<;>intro a<;>try(cases a;done))
    ·have:=e.1;rw[SH];simp only[AO];omega
    ·obtain⟨G,m,ai⟩|⟨h1,-⟩:=E
     ·have A:ty.take f.length=ty:=As (ACi e.1);rw[A];obtain⟨k,rfl⟩:∃X,k=X+1:=⟨k-1,by omega⟩;refine AI (ι:={y:Nat×List Int//y.1≤f.length∧G2 h f.length y.2∧Fe h f.length ty y.2∧KF h (f.drop y.1) y.1 y.2=KF h f 0 ty}) (fun y=>⟨[(2,.bp 2 [] 0),(3,.bp 3 [] 0),(4,.bp 4 [] 0),(6,.sr 30 T3 0 f.length),(9,.sr 32 T3 0 f.length),(10,.p (.int .i64) (y.1.1:Int))],[(2,.box 31 true [.p M6 h.1,.p Nq h.2]),(3,.box 25 true [.p Et f]),(4,.box 25 true [.raw (.slice none 0 0)]),(30,.arr 3 T3 y.1.2),(32,.arr 3 T3 ty)]⟩) (fun y=>f.length-y.1.1) ⟨(0,ty),IN _,e,Fe.refl hk e,rfl⟩ (AC [(2,.nm 2),(3,.nm 3),(4,.nm 4),(30,.nm 30),(32,.nm 32)] rfl rfl ?_ ?_) (fun y=>?_)
      ·simp only[A,e.1];first|exact eN|refine eM ?_
      ·first|exact eN|refine eM ?_
       exact e.1
      ·obtain⟨⟨j,JY⟩,H,o,C,g⟩:=y;simp only at H o C g ⊢;repeat'(first|exact trivial|refine eS rfl ?_|refine AB ?_|refine rX c ?_ ?_|refine rC ?_ ?_<;>intro a<;>try(cases a;done))
       ·exact a
       ·have v:j<f.length:=IS.1 a;have I:f.getD j (0,[])∈f:=by
         rw[AS,AT v];exact AA7 _
        have N:=ha _ I;have ad:=V _ I;have P:f.drop j=f.getD j (0,[]) :: f.drop (j+1):=by
         rw[OS v,AS,AT v];rfl
        rw[P]at g;have g:(Ig h (j:Int) (f.getD j (0,[])).2 JY).bind (KF h (f.drop (j+1)) (j+1))=KF h f 0 ty:=g;generalize (f.getD j (0,[])).2=l at *;refine AI (ι:={z:Nat×List Int//z.1≤l.length∧G2 h f.length z.2∧Fe h f.length ty z.2∧Ig h (j:Int) (l.drop z.1) z.2=Ig h (j:Int) l JY}) (fun z=>⟨[(2,.bp 2 [] 0),(3,.bp 3 [] 0),(4,.bp 4 [] 0),(6,.sr 30 T3 0 f.length),(9,.sr 32 T3 0 f.length),(10,.p (.int .i64) (j:Int)),(11,.p Ii l),(12,.p (.int .i64) (z.1.1:Int))],[(2,.box 31 true [.p M6 h.1,.p Nq h.2]),(3,.box 25 true [.p Et f]),(4,.box 25 true [.raw (.slice none 0 0)]),(30,.arr 3 T3 z.1.2),(32,.arr 3 T3 ty)]⟩) (fun z=>l.length-z.1.1) ⟨(0,JY),IN _,o,C,rfl⟩ (AC [(2,.nm 2),(3,.nm 3),(4,.nm 4),(30,.nm 30),(32,.nm 32)] rfl rfl ?_ ?_) (fun z=>?_)
        ·first|exact eN|refine eM ?_
        ·first|exact eN|refine eM ?_
        ·obtain⟨⟨q,jQ⟩,T,r,D,d⟩:=z;simp only at T r D d ⊢;repeat'(first|exact trivial|refine eS rfl ?_|refine AB ?_|refine rX c ?_ ?_|refine rC ?_ ?_<;>intro a<;>try(cases a;done))
         ·have w:q<l.length:=IS.1 a;have J:Ew h f.length (l.getD q (0,0)):=N _ (by
           rw[AS,AT w];exact AA7 _)
          have O:l.drop q=l.getD q (0,0) :: l.drop (q+1):=by
           rw[OS w,AS,AT w];rfl
          rw[O]at d;have d:(r6F h jQ (j:Int) (l.getD q (0,0))).bind (Ig h (j:Int) (l.drop (q+1)))=Ig h (j:Int) l JY:=d;refine cD 7 c ?_ ?_
          ·exact a
          ·refine rM c (tL h hk hn hf hap r (oN j) (by omega) J) [(1000000,.nm 30)] [] ?_ ?_ ?_
           ·first|exact eN|refine eM ?_
            exact r.1.symm
           ·first|exact eN|refine eM ?_
           ·rintro res F (⟨t,rfl,B,rfl⟩|⟨B,t,rfl,rfl⟩)
            ·refine⟨[(30,.nm 1000000)],.p .bool false,[(30,.arr 3 T3 B)],rfl,rfl,?_,?_,rfl,rfl,?_⟩
             ·first|exact eN|refine eM ?_
             ·first|exact eN|refine eM ?_
             ·refine rL c ?_ ?_
              ·trivial
              ·repeat'(first|exact trivial|refine eS rfl ?_|refine AB ?_|refine rX c ?_ ?_|refine rC ?_ ?_<;>intro a<;>try(cases a;done))
               have d:none=Ig h (j:Int) l JY:=by rw[←d,t];rfl
               have R:Hg h f=none:=by
                rw[←m];unfold LW;rw[←g,←d];rfl
               refine Ev.ent (σ':=⟨[(4,.bp 4 [] 0),(5,.p .bool false)],[(4,.box 25 true [.p Et []])]⟩) ?_ (AC [(4,.nm 4)] rfl rfl ?_ ?_)
               ·exact fM c [.cell 4 25,.tmp 5] (.tup [.p FZ [],.p .bool false]) eT (.inl ⟨R,rfl,rfl⟩)
               ·first|exact eN|refine eM ?_
               ·first|exact eN|refine eM ?_
            ·obtain⟨M,Y,-⟩:=mD hk hn hi hf hap (oN j) (by omega) r J t;rw[t]at d;refine⟨[(30,.nm 1000000)],.p .bool true,[(30,.arr 3 T3 B)],rfl,rfl,?_,?_,rfl,rfl,?_⟩
             ·first|exact eN|refine eM ?_
             ·first|exact eN|refine eM ?_
             ·refine rL c ?_ ?_
              ·trivial
              ·repeat'(first|exact trivial|refine eS rfl ?_|refine AB ?_|refine rX c ?_ ?_|refine rC ?_ ?_<;>intro a<;>try(cases a;done))
               ·exact eV
               ·refine⟨⟨(q+1,B),w,M,D.trans hk e r M Y,d⟩,by simp only;omega,AC [(2,.nm 2),(3,.nm 3),(4,.nm 4),(30,.nm 30),(32,.nm 32)] rfl rfl ?_ ?_⟩
                ·first|exact eN|refine eM ?_
                ·first|exact eN|refine eM ?_
         ·exact eV
         ·have U:q=l.length:=by
           have:=oF.1 a;omega
          subst U;rw[ABl]at d;have d:some jQ=Ig h (j:Int) l JY:=d;rw[←d]at g;refine⟨⟨(j+1,jQ),v,r,D,g⟩,by simp only;omega,AC [(2,.nm 2),(3,.nm 3),(4,.nm 4),(30,.nm 30),(32,.nm 32)] rfl rfl ?_ ?_⟩
          ·first|exact eN|refine eM ?_
          ·first|exact eN|refine eM ?_
       ·rw[A,As (ACi o.1),e.1,o.1]
       ·have n:j=f.length:=by
         have:=oF.1 a;omega
        subst n;rw[ABl]at g;have g:some JY=KF h f 0 ty:=g;have Z:JY.take f.length=JY:=As (ACi o.1);have m:(if JY=ty then some JY else LW h f k JY)=Hg h f:=by
         rw[←m]
         conv=>rhs;unfold LW
         rw[←g];rfl
        by_cases u:ty=JY
        ·subst u;rw[BY rfl]at m;refine⟨⟨(false,k,ty),e,by show k≤_;omega,.inr ⟨rfl,m.symm⟩⟩,by simp[G],AC [(2,.nm 2),(3,.nm 3),(4,.nm 4),(30,.nm 30)] rfl rfl ?_ ?_⟩
         ·first|exact eN|refine eM ?_
         ·first|exact eN|refine eM ?_
        ·rw[At (ACJ u)]at m;have ae:=(pE hk hi e o C).2 (ACJ u);refine⟨⟨(true,k,JY),o,by show k≤_;omega,.inl ⟨rfl,m,by show Ms h JY<k;omega⟩⟩,by simp[G],AC [(2,.nm 2),(3,.nm 3),(4,.nm 4),(30,.nm 30)] rfl rfl ?_ ?_⟩
         ·first|exact eN|refine eM ?_
         ·first|exact eN|refine eM ?_
          rw[A,Z];simp[u]
     ·simp[a]at h1
    ·obtain⟨h1,-,-⟩|⟨-,m⟩:=E
     ·simp[a]at h1
     ·have L:(Be f ty).length=f.length:=CU f ty;refine AI (ι:={j:Nat//j≤f.length}) (fun j=>⟨[(3,.bp 3 [] 0),(4,.bp 4 [] 0),(6,.sr 30 T3 0 f.length),(13,.bp 13 [] 0),(14,.p (.int .i64) (j.1:Int))],[(3,.box 25 true [.p Et f]),(4,.box 25 true [.raw (.slice none 0 0)]),(13,.box 25 true [.sr 89 LJ 0 j.1]),(30,.arr 3 T3 ty),(89,.arr 49 LJ ((Be f ty).take j.1))]⟩) (fun j=>f.length-j.1) ⟨0,IN _⟩ (AC [(3,.nm 3),(4,.nm 4),(13,.nm 13),(30,.nm 30),(89,.nil)] rfl rfl ?_ ?_) (fun j=>?_)
      ·first|exact eN|refine eM ?_
      ·first|exact eN|refine eM ?_
      ·obtain⟨j,H⟩:=j;have tl:((Be f ty).take j).length=j:=by rw[SH];omega
       repeat'(first|exact trivial|refine eS rfl ?_|refine AB ?_|refine rX c ?_ ?_|refine rC ?_ ?_<;>intro a<;>try(cases a;done))
       ·exact⟨a,a,by simp only[AO];omega⟩
       ·exact eV
       ·have n:j<f.length:=IS.1 a;have ts:(Be f ty).take j++[(ty.getD j 0,(f.getD j (0,[])).2)]=(Be f ty).take (j+1):=by
         rw[Ab (Be f ty) (0,[]) (by rw[L];exact n),GX f ty n]
        refine⟨⟨j+1,n⟩,by simp only;omega,AC [(3,.nm 3),(4,.nm 4),(13,.nm 13),(30,.nm 30),(89,.nm 89)] rfl rfl ?_ ?_⟩
        ·simp only[←ts];first|exact eN|refine eM ?_
         simp only[ABq,ACg]
        ·first|exact eN|refine eM ?_
       ·have n:j=f.length:=by
         have:=oF.1 a;omega
        subst n;rw[show (Be f ty).take f.length=Be f ty from As (ACi L)];refine Ev.ent (σ':=⟨[(4,.bp 4 [] 0),(5,.p .bool true)],[(89,.arr 49 LJ (Be f ty)),(4,.box 25 true [.sr 89 LJ 0 f.length])]⟩) ?_ (AC [(89,.nm 89),(4,.nm 4)] rfl rfl ?_ ?_)
        ·exact fM c [.cell 4 25,.tmp 5] (.tup [.ag [.sr 89 LJ 0 f.length],.p .bool true]) eT (.inr ⟨ty,m,rfl,rfl⟩)
        ·first|exact eN|refine eM ?_
        ·first|exact eN|refine eM ?_
end
section
open Go
end
section
open Go
end
section
variable {h:AJ} {N:List AF} {P:List (Int×Int)} {c p:List Int} {g:List AF}
end
section
variable {h:AJ} {a b:List AF}
end
section
open Go
end
section
attribute [local go_sem] A0y
end
section
attribute [local go_sem] Q0
theorem A41 {h:AJ} (hh:pA h) {f:List AF} (a:VF h f):lL h f:=⟨hh.ok,hh.inj,hh.ft,To hh.b2 (by decide),a.good,My a,a.ty⟩
end
section
attribute [local go_sem] KA Yo VE d7
def QA:Ac:={ ins:=[Lb,FZ],pre:=fun(h,f,_)=>(pA h∧RD h)∧VF h f∧List.length f≤12∧VOk (B8 h),out:=fun(h,f,_)=>[.p FZ (DN h f).1,.p Th (DN h f).2] }
attribute [local go_sem] QA
theorem mF:Ah Tryz.prog 22 QA:=by
 refine fK [0,1,2,3,4,5,6,7,8,9,10,11,13,21,26,32,57,72,105] Tryz.func22 Tryz.ntmps22 (AE Ru (AE A0f (AE A0u (AE nN AG)))) ?_;rintro w0 O0 ⟨h,f,u⟩ c-⟨⟨hh,w⟩,vf,J,G⟩;have hh:pA h:=hh;have w:RD h:=w;have vf:VF h f:=vf;have J:f.length≤12:=J;have G:VOk (B8 h):=G;have o:=A41 hh vf;have ab:h.1.length≤256:=hh.b1;simp only[QA,AM];have L:=A2I hh.ok hh.nrm hh.inj hh.ft hh.ap o.arcs o.ty;repeat'(first|exact trivial|refine eS rfl ?_|refine AB ?_|refine rX c ?_ ?_|refine rC ?_ ?_<;>intro b<;>try(cases b;done))
 refine cP 2 c ?_ ?_
 ·trivial
 ·refine rM c (tM h hh.ok hh.nrm hh.ft hh.ap hh.inj f o.arcs o.ty o.good.1 (fun y C=>(o.good.2 y C).1)) [] [] ?_ ?_ ?_
  ·first|exact eN|refine eM ?_
  ·first|exact eN|refine eM ?_
  ·rintro res aj (⟨n,rfl,rfl⟩|⟨ty,n,rfl,rfl⟩)
   ·rw[L]at n;have hr:DN h f=([],12):=by unfold DN;rw[G0 n,BY rfl]
    refine⟨[],.tup [.p FZ [],.p .bool false],[],rfl,rfl,?_,?_,rfl,rfl,?_⟩
    ·first|exact eN|refine eM ?_
    ·first|exact eN|refine eM ?_
    ·refine rL c ?_ ?_
     ·trivial
     ·repeat'(first|exact trivial|refine eS rfl ?_|refine AB ?_|refine rX c ?_ ?_|refine rC ?_ ?_<;>intro b<;>try(cases b;done))
      exact fI c [.cell 4 25,.tmp 5] (by rw[hr];exact eR)
   ·rw[L]at n;have hF:=DM n;obtain⟨R,-,ah,-⟩:=MR hh vf n;have W:=CU f ty;refine⟨[(89,.nm 89)],.tup [.ag [.sr 89 LJ 0 f.length],.p .bool true],[(89,.arr 49 LJ (Be f ty))],rfl,rfl,?_,?_,rfl,rfl,?_⟩
    ·first|exact eN|refine eM ?_
    ·first|exact eN|refine eM ?_
    ·refine rL c ?_ ?_
     ·trivial
     ·generalize ai:Be f ty=x at *;repeat'(first|exact trivial|refine eS rfl ?_|refine AB ?_|refine rX c ?_ ?_|refine rC ?_ ?_<;>intro b<;>try(cases b;done))
      ·exact⟨by omega,G⟩
      ·have hr:DN h f=([],6):=by unfold DN;rw[hF,At (by simp),BY b]
       exact fI c [.cell 4 25,.tmp 5] (by rw[hr];exact eR)
      ·have hr:DN h f=match Ff h (x.length+4097) 0 x with
        | none=>([],7)
        | some N=>(ET N 0,0):=by
        unfold DN;rw[hF,At (by simp),At (by rw[show J9 (B8 h)=true from b];simp)];all_goals rfl
       have Y:f.length=x.length:=W.symm;rw[Y];refine AI (ι:={s:Nat×List AF//(s.1≤s.2.length∧0<s.2.length∧s.2.length≤4096)∧NG h s.2∧∃k,4097≤k+s.1∧Ff h (x.length+4097) 0 x=Ff h k s.1 s.2}) (fun s=>⟨[(2,.bp 2 [] 0),(4,.bp 4 [] 0),(6,.bp 6 [] 0),(8,.p (.int .i64) (s.1.1:Int))],[(6,.box 25 true [.sr 89 LJ 0 s.1.2.length]),(89,.arr 49 LJ s.1.2),(4,.box 25 true [.raw (.slice none 0 0)]),(2,.box 31 true [.p M6 h.1,.p Nq h.2])]⟩) (fun s=>4097-s.1.1) ⟨(0,x),⟨IN _,R.pos,by show x.length≤4096;omega⟩,R5 R,x.length+4097,by omega,rfl⟩ (AC [(2,.nm 2),(4,.nm 4),(6,.nm 6),(89,.nm 89)] rfl rfl ?_ ?_) (fun s=>?_)
       ·first|exact eN|refine eM ?_
       ·first|exact eN|refine eM ?_
       ·obtain⟨⟨i,N⟩,⟨I,h0,S⟩,m,k,hk,A⟩:=s;simp only at I h0 S m hk A ⊢;repeat'(first|exact trivial|refine eS rfl ?_|refine AB ?_|refine rX c ?_ ?_|refine rC ?_ ?_<;>intro b<;>try(cases b;done))
        ·have e:i<N.length:=IS.1 b;have B:=AD N (0,[]) e;exact⟨b,m.ty _ B⟩
        ·have e:i<N.length:=IS.1 b;have:=OI hh.b2 m (AD N (0,[]) e);exact⟨b,by simp only[AO];show (N.getD i (0,[])).2.length*16≤_;omega⟩
        ·have e:i<N.length:=IS.1 b;have B:=AD N (0,[]) e;have M:=m.ty _ B;have af:=OI hh.b2 m B;obtain⟨k,rfl⟩:∃H,k=H+1:=⟨k-1,by omega⟩;have T:(List.getD h.1 (N.getD i (0,[])).1.toNat (ByteArray.empty,[],[],[])).2.2.2=Ba h (N.getD i (0,[])).1:=rfl;rw[T];obtain⟨Q,O,X⟩:=K7 M.1 M.2;have ae:(Ba h (N.getD i (0,[])).1).length≤64:=by
          rw[X];exact Yu (w.str Q O) fun a ha=>by have:=w.rng Q O a ha;have:=hh.b2;omega
         have E:KE h N i=GD N i ((Ba h (N.getD i (0,[])).1).filter (Cg (N.getD i (0,[])).2)):=rfl;have r:Ff h (k+1) i N=if i<N.length then (if 4096<(KE h N i).length then none else Ff h k (i+1) (KE h N i)) else some N:=rfl
         rw[BY e]at r;have U:=Ss hh.ft w m e;generalize Ba h (N.getD i (0,[])).1=l at *;generalize z:(N.getD i (0,[])).2=row at *;have hF:∀j,((List.take j l).filter (Cg row)).length≤64:=fun j=>by
          have h1:=AAv (Cg row) (List.take j l);rw[SH]at h1;omega
         refine AI (ι:={j:Nat//j≤l.length}) (fun j=>⟨[(2,.bp 2 [] 0),(4,.bp 4 [] 0),(6,.bp 6 [] 0),(8,.p (.int .i64) (i:Int)),(9,.p Wb l),(10,.sr 46 BK 0 (row.length+((List.take j.1 l).filter (Cg row)).length)),(11,.p (.int .i64) (j.1:Int))],[(46,.arr 53 BK (row++VS N.length ((List.take j.1 l).filter (Cg row)))),(6,.box 25 true [.sr 89 LJ 0 (N.length+((List.take j.1 l).filter (Cg row)).length)]),(89,.arr 49 LJ (N++((List.take j.1 l).filter (Cg row)).map fun v:Int×Int=>(v.2,[]))),(4,.box 25 true [.raw (.slice none 0 0)]),(2,.box 31 true [.p M6 h.1,.p Nq h.2])]⟩) (fun j=>l.length-j.1) ⟨0,IN _⟩ (AC [(2,.nm 2),(4,.nm 4),(6,.nm 6),(89,.nm 89),(46,.nm 46)] rfl rfl ?_ ?_) (fun j=>?_)
         ·first|exact eN|refine eM ?_
          exact⟨by simp[VS],by simp,by simp⟩
         ·first|exact eN|refine eM ?_
          simp
         ·obtain⟨j,ad⟩:=j;simp only;have Z:=hF j;have hT:List.take (N.length+((List.take j l).filter (Cg row)).length) (N++((List.take j l).filter (Cg row)).map fun v:Int×Int=>(v.2,[]))=N++((List.take j l).filter (Cg row)).map fun v:Int×Int=>(v.2,[]):=As (by simp);have q:List.take (row.length+((List.take j l).filter (Cg row)).length) (row++VS N.length ((List.take j l).filter (Cg row)))=row++VS N.length ((List.take j l).filter (Cg row)):=As (by simp[pB]);have t:(N++((List.take j l).filter (Cg row)).map fun v:Int×Int=>(v.2,[])).getD i (0,[])=N.getD i (0,[]):=by rw[AS,oS e,←AS]
          have g:j<l.length→(List.take (j+1) l).filter (Cg row)=(List.take j l).filter (Cg row)++if Cg row (l.getD j (0,0))=true then [l.getD j (0,0)] else []:=fun d=>by
           rw[Ab l (0,0) d,AAZ,AAn];rfl
          have P:(VD row (l.getD j (0,0)).1).2=!(Cg row (l.getD j (0,0))):=by rw[hH];unfold Cg;rw[Bool.not_not]
          repeat'(first|exact trivial|refine eS rfl ?_|refine AB ?_|refine rX c ?_ ?_|refine rC ?_ ?_<;>intro b<;>try(cases b;done))
          ·refine⟨b,?_⟩;rw[hT,OR];exact IS.2 (Nat.lt_add_right _ e)
          ·exact⟨by omega,by simp only[AO];omega⟩
          ·exact⟨by omega,by simp only[AO];omega⟩
          ·exact eV
          ·have d:j<l.length:=IS.1 (by assumption);rw[hT,t,z,P,AAI]at b;have g:=g d;rw[BY b]at g;refine⟨⟨j+1,d⟩,by simp only;omega,AC [(2,.nm 2),(4,.nm 4),(6,.nm 6),(89,.nm 89),(46,.nm 46)] rfl rfl ?_ ?_⟩
           ·simp only[g,hT,q,OR,iF,AAx,Y3];first|exact eN|refine eM ?_
            exact⟨by rw[AAt],by omega,by rw[AAt]⟩
           ·simp only[g,hT,q,OR,iF,AAx,Y3];first|exact eN|refine eM ?_
            omega
          ·exact eV
          ·have d:j<l.length:=IS.1 (by assumption);rw[hT,t,z,P,OF]at b;have g:=g d;rw[At (by rw[b];simp),AAa]at g;refine⟨⟨j+1,d⟩,by simp only;omega,AC [(2,.nm 2),(4,.nm 4),(6,.nm 6),(89,.nm 89),(46,.nm 46)] rfl rfl ?_ ?_⟩
           ·simp only[g];first|exact eN|refine eM ?_
           ·simp only[g];first|exact eN|refine eM ?_
          ·exact IS.2 (Nat.lt_add_right _ e)
          ·have d:List.take j l=l:=As (by omega);rw[d]at b;have F:DN h f=([],7):=by
            rw[hr,A,r,BY (by rw[E,Hn];omega)];all_goals rfl
           exact fI c [.cell 4 25,.tmp 5] (by rw[F];exact eR)
          ·omega
          ·have d:List.take j l=l:=As (by omega);rw[d]at b hT q t;have K:(KE h N i).length=N.length+(l.filter (Cg row)).length:=by rw[E,Hn]
           have D:=tJ e (l.filter (Cg row));rw[z,←E]at D;refine⟨⟨(i+1,KE h N i),⟨by simp only;omega,by simp only;omega,by simp only;omega⟩,U,k,by simp only;omega,by rw[A,r,At (by omega)]⟩,by simp only;omega,AC [(2,.nm 2),(4,.nm 4),(6,.nm 6),(89,.nm 89)] rfl rfl ?_ ?_⟩
           ·simp only[d,hT,q,t,z,D,K];first|exact eN|refine eM ?_
           ·simp only[d,hT,q,t,z,D,K];first|exact eN|refine eM ?_
        ·have I:i=N.length:=by omega
         obtain⟨k,rfl⟩:∃H,k=H+1:=⟨k-1,by omega⟩;have r:Ff h (k+1) i N=some N:=by unfold Ff;rw[At (by omega)]
         have F:DN h f=(ET N 0,0):=by
          rw[hr,A,r];all_goals rfl
         have aa:List.take N.length N=N:=As (NO _);have V:A2 N:=⟨by omega,fun y C=>⟨by have:=OI hh.b2 m C;omega,fun a ha=>(m.arc y C a ha).2⟩⟩;refine GP [89] ?_;repeat'(first|exact trivial|refine eS rfl ?_|refine AB ?_|refine rX c ?_ ?_|refine rC ?_ ?_<;>intro b<;>try(cases b;done))
         ·exact⟨V,IS.2 h0⟩
         ·exact fI c [.cell 4 25,.tmp 5] (by rw[F];exact eR)
end
def KG:AJ:=([(ByteArray.mk #[116,111,112],[8191],[],[]),(ByteArray.mk #[105,110,100,101,120],[60],[0],[]),(ByteArray.mk #[108,105,115,116],[193],[0],[]),(ByteArray.mk #[99,111,110,115],[1],[2],[(2,0),(10,2)]),(ByteArray.mk #[100,108,105,115,116],[2],[0],[(6,2),(7,2)]),(ByteArray.mk #[101,110,116,105,116,121],[4],[1],[]),(ByteArray.mk #[101,118,101,110,116],[8],[1],[]),(ByteArray.mk #[104,97,110,100,108,101],[16],[1],[]),(ByteArray.mk #[110,117,108,108],[128],[2],[]),(ByteArray.mk #[113,101,113],[256],[0],[(3,7),(8,7)]),(ByteArray.mk #[114,101,108],[512],[0],[(5,7)]),(ByteArray.mk #[115,101,109],[1024],[0],[(1,4),(4,1),(9,4),(12,7)]),(ByteArray.mk #[115,105,103,110],[2048],[0],[(0,2),(11,11)])],[(ByteArray.mk #[65,82,71,83],12),(ByteArray.mk #[67,79,78,83],11),(ByteArray.mk #[70,73,82,83,84],3),(ByteArray.mk #[72,73,71,72],9),(ByteArray.mk #[73,78,68,69,88],11),(ByteArray.mk #[76,65,66,69,76],10),(ByteArray.mk #[76,65,83,84],4),(ByteArray.mk #[76,73,83,84],4),(ByteArray.mk #[76,79,87],9),(ByteArray.mk #[82,69,76,83],11),(ByteArray.mk #[82,69,83,84],3),(ByteArray.mk #[83,69,77],12),(ByteArray.mk #[84,79,80],11)])
instance baDec:DecidableEq ByteArray:=fun a b =>
 if h:a.data.toList=b.data.toList then isTrue (by
  cases a
  cases b
  exact AAX ByteArray.mk (Array.toList_inj.1 h))
 else isFalse fun e=>h (by rw[e])
theorem A0Q:((AY []).1:List (ByteArray×List Int×List Int×List (Int×Int)))=KG.1:=by decide +kernel
theorem A0R:((AY []).2:List (ByteArray×Int))=KG.2:=by decide +kernel
theorem Y4:AY []=KG:=Prod.ext A0Q A0R
theorem K8:Jf KG:=by rw[←Y4];exact(show Jf (if _ then _ else _) by split<;>exact Gw _)
theorem Ih:HH KG:=by rw[←Y4];exact(show HH (if _ then _ else _) by split<;>exact Rs _)
def A6E (h:AJ):Bool:=(h.2.all fun x=>decide (0≤x.2)&&decide (x.2<(h.1.length:Int)))&&h.1.all fun t=>t.2.2.2.all fun p=>decide (0≤p.2)&&decide (p.2<(h.1.length:Int))
theorem A42 {h:AJ} (e:A6E h=true):Sk h:=by
 unfold A6E at e;rw[An,Do,Do]at e;refine⟨fun x b=>?_,fun t a p hp=>?_⟩
 ·have:=e.1 x b;simpa using this
 ·have:=Do.1 (e.2 t a) p hp;simpa using this
theorem JG:Sk KG:=A42 (by decide +kernel)
def A36 (h:AJ) (f:List AF):Bool:=decide (f.length≤100)&&f.all fun x=>decide (x.2.length≤100)&&(decide (0≤x.1)&&decide (x.1<(h.1.length:Int)))&&x.2.all fun a=>(decide (0≤a.1)&&decide (a.1<(h.2.length:Int)))&&(decide (0≤a.2)&&decide (a.2<(f.length:Int)))
theorem OJ {h:AJ} (hk:Jf h) (hi:HH h) (hf:Sk h) (d:h.2.length≤100000) {f:List AF} (e:A36 h f=true):lL h f∧CW f∧NQ f∧∀x∈f,x.2.length≤100:=by
 unfold A36 at e;rw[An,By,Do]at e;have c:∀x∈f,x.2.length≤100∧(0≤x.1∧x.1<(h.1.length:Int))∧∀a∈x.2,Ew h f.length a:=fun x b=>by
  have:=e.2 x b;rw[An,An,An,By,By,By,Do]at this;refine⟨this.1.1,this.1.2,fun a ha=>?_⟩;have:=this.2 a ha;rw[An,An,An,By,By,By,By]at this;exact⟨this.1,this.2⟩
 refine⟨⟨hk,hi,hf,d,⟨by omega,fun x b=>⟨by have:=(c x b).1;omega,fun a ha=>((c x b).2.2 a ha).2⟩⟩,fun x b=>(c x b).2.2,fun x b=>(c x b).2.1⟩,⟨by omega,fun x b=>by have:=(c x b).1;omega⟩,fun x b=>by have:=(c x b).1;omega,fun x b=>(c x b).1⟩
def A7d (v:Ie):Bool:=v.all fun r=>r.all fun a=>decide (0≤a.2)&&decide (a.2<(v.length:Int))
theorem A43 {v:Ie} (e:A7d v=true):VOk v:=fun r hr a ha=>by
 have:=Do.1 (Do.1 e r hr) a ha;simpa using this
theorem iD:VOk (B8 KG):=A43 (by decide +kernel)
theorem pF:∀t∈KG.1,t.2.2.2.length≤100:=by
 have:(KG.1.all fun t=>decide (t.2.2.2.length≤100))=true:=by decide +kernel
 exact fun t a=>by simpa using Do.1 this t a
def iE:List AF:=[(12,[(0,1),(11,2)]),(2,[]),(11,[(1,3),(4,6),(9,7),(12,10)]),(4,[(6,4),(7,5)]),(2,[]),(2,[]),(1,[]),(4,[(6,8),(7,9)]),(2,[]),(2,[]),(7,[])]
theorem A6F:BD KG [(0,[(10,1)]),(0,[(2,2)]),(0,[])]=([(3,[(10,1)]),(3,[(2,2)]),(0,[])],true):=by decide +kernel
theorem A6G:BD KG [(8,[(2,1)]),(0,[])]=([],false):=by decide +kernel
theorem A6H:CE KG [(9,[])]=([(9,[(3,1),(8,2)]),(7,[]),(7,[])],0):=by decide +kernel
theorem A6I:CE KG [(12,[])]=(iE,0):=by decide +kernel
theorem A6J:F1 KG [(3,[(10,1)]),(0,[])]=11:=by decide +kernel
theorem A6K:F1 KG [(2,[(10,1)]),(2,[])]=10:=by decide +kernel
theorem A6L:F1 KG [(3,[(10,1)]),(3,[(2,2)]),(0,[])]=0:=by decide +kernel
section
attribute [local go_sem] K4 Sn oM Q0 Q1 Pq gG Ko
def Xj:Ac:={ ins:=[],pre:=fun _=>True,out:=fun _=>[.p .bool true] }
attribute [local go_sem] Xj
theorem pG:Ah Tryz.prog 13 Xj:=by
 refine fKP [0,1,2,3,5,6,7,8,9,10,11,82,89,91,92,93,105] [15,17,20,27,30,62,64,67,74,78,83,108,111,117,120] [] Tryz.func13 Tryz.ntmps13 (AE Q2 (AE s0 (AE A2r (AE Uf (AE A2q (AE Um (AE O8 (AE XS AG)))))))) ?_;rintro w0 O0 u a - -;simp only[Xj,AM];have B:=Y4;have d:KG.2.length≤100000:=by decide
 have y:=OJ K8 Ih JG d (f:=[(0,[(10,1)]),(0,[(2,2)]),(0,[])]) (by decide +kernel);have z:=OJ K8 Ih JG d (f:=[(8,[(2,1)]),(0,[])]) (by decide +kernel);have o:=OJ K8 Ih JG d (f:=[(9,[])]) (by decide +kernel);have q:=OJ K8 Ih JG d (f:=[(12,[])]) (by decide +kernel);have r:=OJ K8 Ih JG d (f:=[(3,[(10,1)]),(0,[])]) (by decide +kernel);have s:=OJ K8 Ih JG d (f:=[(2,[(10,1)]),(2,[])]) (by decide +kernel);have t:=OJ K8 Ih JG d (f:=[(3,[(10,1)]),(3,[(2,2)]),(0,[])]) (by decide +kernel);have K:lN KG [(9,[])]:=⟨o.1,pF,iD,o.2.2.2⟩;have L:lN KG [(12,[])]:=⟨q.1,pF,iD,q.2.2.2⟩;have m:=JG;have D:=A6F;have E:=A6G;have F:=A6H;have G:=A6I;have H:=A6J;have I:=A6K;have J:=A6L;have s1:CW iE:=⟨by decide,by decide⟩;have C:∀i,i<11→(iE.getD i (0,[])).1=[12,2,11,4,2,2,1,4,2,2,(7:Int)].getD i 0:=by decide
 have v:iE.length=11:=rfl;have e:GZ [] (0 / 2)=[]:=rfl;have g:GZ [10,1] (2 / 2)=[(10,1)]:=rfl;have j:GZ [2,2] (2 / 2)=[(2,2)]:=rfl;have n:GZ [2,1] (2 / 2)=[(2,1)]:=rfl;have l:GZ [3,1,8,2] (4 / 2)=[(3,1),(8,2)]:=rfl;have w:CW [(3,[(10,1)]),(3,[(2,2)]),(0,[])]:=⟨by decide,by decide⟩;have x:CW [(9,[(3,1),(8,2)]),(7,[]),(7,[])]:=⟨by decide,by decide⟩;generalize iE=S at *;generalize KG=h at *;have c:(h.1,h.2)=h:=rfl;have M:(0:Int) / 2=0:=rfl;repeat'(first|exact trivial|refine eS rfl ?_|refine AB ?_|refine rP a ?_ ?_|fail)
 simp only[B];refine DC drawsAny a 14 [([0,1,2,3,4,5,6,7,8,9,10,12],13)] [11] (by kernel_rfl) (Td ?_ ?_)
 ·exact y.1
 ·refine Vj a [] ?_ ?_
  ·trivial
  ·refine VW a ?_ ?_ ?_
   ·trivial
   ·trivial
   ·simp only[c,e,g,j,n,l,D];repeat'(first|exact trivial|refine eS rfl ?_|refine AB ?_|refine rP a ?_ ?_|fail)
    refine DC drawsAny a 12 [([0,1,2,3,4,5,6,7,8,10],11)] [9] (by kernel_rfl) (Td ?_ ?_)
    ·exact z.1
    ·refine Vj a [] ?_ ?_
     ·trivial
     ·refine VW a ?_ ?_ ?_
      ·trivial
      ·trivial
      ·simp only[c,e,g,j,n,l,E];repeat'(first|exact trivial|refine eS rfl ?_|refine AB ?_|refine rP a ?_ ?_|fail)
       refine DC drawsAny a 8 [([0,1,2,3,4,6],7)] [5] (by kernel_rfl) (Td ?_ ?_)
       ·exact K
       ·refine Vj a [] ?_ ?_
        ·trivial
        ·refine VW a ?_ ?_ ?_
         ·trivial
         ·trivial
         ·simp only[c,F];repeat'(first|exact trivial|refine eS rfl ?_|refine AB ?_|refine rP a ?_ ?_|fail)
          refine DC drawsAny a 8 [([0,1,2,3,4,6],7)] [5] (by kernel_rfl) (Td ?_ ?_)
          ·exact L
          ·refine Vj a [] ?_ ?_
           ·trivial
           ·refine VW a ?_ ?_ ?_
            ·trivial
            ·trivial
            ·simp only[c,G];repeat'(first|exact trivial|refine eS rfl ?_|refine AB ?_|refine rP a ?_ ?_|fail)
             refine rD a ?_ ?_
             ·simp only[e,g,j,l];exact⟨fun _=>⟨w,w⟩,fun _=>⟨x,x⟩⟩
             ·simp only[c,e,g,j,n,l,EH,show ((0:Int)==0)=true from rfl,ACa,Bool.or_false];repeat'(first|exact trivial|refine eS rfl ?_|refine AB ?_|refine rX a ?_ ?_|refine rC ?_ ?_<;>intro b<;>try(cases b;done))
              ·rw[v]at b;exact absurd rfl b
              ·have N:(0:Int)+1+1+1+1+1+1+1+1+1+1+1=11:=rfl;refine AI (ι:={k:Nat//k≤11}) (fun k=>⟨[(1,.bp 1 [] 0),(2,.bp 2 [] 0),(8,.bp 8 [] 0),(10,.p I4 [12,2,11,4,2,2,1,4,2,2,7]),(91,.p (.int .i64) (11:Int)),(92,.p (.int .i64) (k.1:Int))],[(8,.box 25 true [.p Et S]),(2,.box 25 true [.p Et [(3,[(10,1)]),(3,[(2,2)]),(0,[])]]),(1,.box 31 true [.p M6 h.1,.p Nq h.2])]⟩) (fun k=>11-k.1) ⟨0,IN _⟩ (AC [(8,.nm 8),(2,.nm 2),(1,.nm 1)] rfl rfl ?_ ?_) (fun k=>?_)
               ·first|exact eN|refine eM ?_
               ·first|exact eN|refine eM ?_
                rfl
               ·obtain⟨k,hk⟩:=k;have A:=C k;simp only;repeat'(first|exact trivial|refine eS rfl ?_|refine AB ?_|refine rX a ?_ ?_|refine rC ?_ ?_<;>intro b<;>try(cases b;done))
                ·rw[v];exact⟨b,b⟩
                ·exact absurd (A (by omega)) b
                ·omega
                ·refine⟨⟨k+1,by omega⟩,by simp only;omega,AC [(8,.nm 8),(2,.nm 2),(1,.nm 1)] rfl rfl ?_ ?_⟩
                 ·first|exact eN|refine eM ?_
                 ·first|exact eN|refine eM ?_
                ·simp only[c,e,g];exact⟨⟨m,r.2.1,r.2.2.1⟩,fun _=>⟨m,s.2.1,s.2.2.1⟩,fun _=>⟨m,t.2.1,t.2.2.1⟩⟩
                ·simp only[c,e,g,H,I,J];exact fI a [.tmp 0]
end
section
attribute [local go_sem] K4 Mv Xj Ko Q1 QA
theorem pH (d:List AH):RD (AY d):=by
 unfold AY;split
 ·exact R4 d
 ·exact R4 Ib
theorem Y5 {h:AJ} (hf:Sk h):VOk (B8 h):=fun r hr a ha=>by
 obtain⟨t,b,rfl⟩:=If.1 hr;have:=hf.val t b a ha;simpa[B8] using this
theorem A44 {h:AJ} (c:h.2.length≤64) (hr:RD h):∀t∈h.1,t.2.2.2.length≤64:=fun t b=>Yu (hr.str t b) fun a ha=>by have:=hr.rng t b a ha;omega
theorem M0 {h:AJ} (hh:pA h) (hr:RD h) {f:List AF} (a:VF h f):lN h f:=⟨⟨hh.ok,hh.inj,hh.ft,To hh.b2 (by decide),a.good,My a,a.ty⟩,fun t b=>To (A44 hh.b2 hr t b) (by decide),Y5 hh.ft,fun x c=>To (OI hh.b2 (R5 a) c) (by decide)⟩
theorem Y6 {h:AJ} (hh:pA h) (hr:RD h) {f:List AF} (j:VF h f) (i:f.length≤4096):CW (DN h f).1:=by
 have hn:CW ([]:List AF):=⟨by simp,by simp⟩;unfold DN;cases b:FJ h f with
 | none=>rw[G0 b];exact hn
 | some ty =>
  rw[DM b];simp only;split
  ·exact hn
  ·split
   ·exact hn
   ·have d:=(MR hh j b).1;cases e:Ff h ((Be f ty).length+4097) 0 (Be f ty) with
    | none=>exact hn
    | some R =>
     obtain⟨c,k,l⟩:=P6 hh.ft hr (R5 d) d.pos (by rw[CU];exact i) e;exact Uo ⟨by omega,fun y g=>⟨by have:=OI hh.b2 c g;omega,fun a ha=>(c.arc y g a ha).2⟩⟩ (by omega) (by omega)
def mG:Ac:={ ins:=[E5,FZ],pre:=fun _=>True,out:=fun _=>[.p .bool true] }
attribute [local go_sem] mG
theorem A0S:Ah Tryz.prog 5 mG:=by
 refine fKP [0,1,3,4,5,6,7,8,9,16] [14] [] Tryz.func5 Tryz.ntmps5 (AE Q2 (AE XT (AE pG (AE Um (AE mF (AE O8 AG)))))) ?_;rintro w0 O0 ⟨d,f,u⟩ c - -;simp only[mG,AM];have hh:=h14 d;have hr:=pH d;have g:=A6D (AY d);have b:Uq (AY d) [f]=true→V14 (AY d) f∧VF (AY d) f:=fun e=>Y0 e f (by simp);repeat'(first|exact trivial|refine eS rfl ?_|refine AB ?_|refine rX c ?_ ?_|refine rC ?_ ?_<;>intro a<;>try(cases a;done))
 ·exact fI c [.tmp 4]
 ·exact M0 hh hr (b a).2
 ·exact⟨⟨hh,hr⟩,(b a).2,(b a).1.len,Y5 hh.ft⟩
 all_goals
  obtain⟨v1,vf⟩:=b a;have h:=v1.len;have e:=RF hh hr vf (by omega);have hs:=Y6 hh hr vf (by omega)
 ·exact fun _=>⟨by rw[e];exact hs,hs⟩
 ·exact fI c [.tmp 4] (by rw[g,e,EH];exact eR)
end
section
attribute [local go_sem] MD cs1 cs3
end
section
attribute [local go_sem] gG
end
section
attribute [local go_sem] K4 Mv Xj Ko
end
abbrev Wt (h:AJ) (f:List AF):Prop:=VF h f∧WTy h f (Ai f)
def Bds (h:AJ) (l:List (List AF)) (X:List AF):Prop:=∀x∈l,∃m,Hom h x X m
structure TU (h:AJ) (l:List (List AF)) (U:List AF):Prop where
 wt:Wt h U
 hom:Bds h l U
 least:∀X,Wt h X→Bds h l X→∃m,Hom h U X m
def iG (h:AJ) (l:List (List AF)) (r:List AF×Bool):Prop:=(r.2=true∧TU h l r.1)∨(r=([],false)∧∀X,Wt h X→¬Bds h l X)
theorem iG.congr {h:AJ} {l l':List (List AF)} {r:List AF×Bool} (H:iG h l r) (d:∀X,Wt h X→(Bds h l X↔Bds h l' X)):iG h l' r:=by
 rcases H with ⟨h1,a⟩|⟨h1,a⟩
 ·exact .inl ⟨h1,a.wt,(d _ a.wt).1 a.hom,fun X b c=>a.least X b ((d X b).2 c)⟩
 ·exact .inr ⟨h1,fun X b c=>a X b ((d X b).2 c)⟩
section
variable {h:AJ} (hh:pA h)
include hh
theorem A46 {f:List AF} (c:VF h f) {ty:List Int} (e:FJ h f=some ty):Wt h (Be f ty):=by
 obtain⟨h1,a,b,-⟩:=MR hh c e;refine⟨h1,?_⟩;rw[l7 b.1];intro i hi;rw[K6];exact a i (by rw[←CU f ty];exact hi)
omit hh in
theorem A0T {l l':List (List AF)} (hp:∀x,x∈l↔x∈l') (X:List AF):Bds h l X↔Bds h l' X:=⟨fun a x b=>a x ((hp x).2 b),fun a x b=>a x ((hp x).1 b)⟩
omit hh in
theorem iG.perm {l l':List (List AF)} {r:List AF×Bool} (H:iG h l r) (hp:∀x,x∈l↔x∈l'):iG h l' r:=H.congr fun X _=>A0T hp X
omit hh in
theorem iG.vf {l:List (List AF)} {r:List AF×Bool} (H:iG h l r) (e:r.2=true):TU h l r.1:=by
 rcases H with ⟨-,b⟩|⟨a,-⟩
 ·exact b
 ·rw[a]at e;cases e
end
theorem tN {f:List AF} (hf:A2 f) {r:Int} (l:0≤r) (m:r<(f.length:Int)):A2 (AU f r)∧0<(AU f r).length:=by
 have c:=Ps hf l m;have h:=Uy f r;have g:=fun i=>Ux (f:=f) (r:=r) (i:=i);generalize p:Ep f f.length [] r=o at *;have q:=c.ok.len;have n:=hf.1;have s:=c.zero.2;refine⟨⟨by omega,fun x j=>?_⟩,by omega⟩;obtain⟨i,hi,rfl⟩:=CC (0,[]) j;rw[g i (by omega)];have d:o.getD i 0∈o:=AD o 0 (by omega);have hr:=c.ok.rng _ d;refine⟨?_,fun a ha=>?_⟩
 ·show (List.map (L2 o) _).length≤_;rw[nO];exact(hf.2 _ (AD f (0,[]) (k:=(o.getD i 0).toNat) (by omega))).1
 ·obtain⟨b,e,rfl⟩:=If.1 ha;have:=Gz (c.cl _ d b e);rw[h];exact⟨this.1,this.2.1⟩
theorem A2J {h:AJ} {f:List AF} (hf:A2 f) (b:Uw h f) {r:Int} (d:0≤r) (e:r<(f.length:Int)):Uw h (AU f r):=by
 have a:=Ps hf d e;intro x c;obtain⟨n,hn,rfl⟩:=If.1 c;have hr:=a.ok.rng n hn;exact b (f.getD n.toNat (0,[])) (AD f (0,[]) (k:=n.toNat) (by omega))
end Go.Proofs.YtdapahgnpbehbaaGreat.Fw
