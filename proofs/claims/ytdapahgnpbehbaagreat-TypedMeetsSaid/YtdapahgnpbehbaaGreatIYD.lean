/- Contracts of the program's and the reference's functions, and the plain laws of what they compute: D3 W5 U1 U2 U3 U4 U5 U6 U7 U8 U9 U10 U11 U12 N8 N9 V1 V2 V4 V5 V6 V9 V10 T19 T20 T22. -/
import Derived.Test.YtdapahgnpbehbaaGreatIYC
import Derived.Test.YtdapahgnpbehbaaGreatIZI
import Derived.Test.YtdapahgnpbehbaaGreatIYB
import Derived.Test.YtdapahgnpbehbaaGreatIYA
set_option linter.unusedVariables false
set_option linter.unusedSimpArgs false
namespace Go.Proofs.YtdapahgnpbehbaaGreat.Fw
open Go
attribute [local irreducible] Ev
attribute [local go_sem] Wk AM List.toList_toArray Bp evG evK TW EX Jk Fg Ex F1 Ng J6 CC Co Kq Bz Ce frz Zk GS DD A5 FQ BU AV.frz AV.frzs AV.drp AV.drps AV.names AV.namess aq GT J5 Jb Qn H5 BP BV I5 EP Hg ER Hi Hh Hj Sd NY GU I6 FT Ds Se O5 v4 I7 H8 Kl E9 Dh H9 Jd D9 Qo CX EA Eh O6 IA O7 LW IB Je Cn Cc FF Di HH DL Ei DM EB FE Bz Cb Ov O2 Lt Fz H7 H6 Jc Lu Nb LX Kp Kn Jh O8 Ko Ji WG Nf Nc AV.trn AV.trns Dr CW Obj.trn JK Yi C0 DN Cz EC CQ Ej Ah lk Gm GJ HF wC Zj TT Zm O4 oJ oK pfs AV.cells CA I3 Nx Jg Na CP Lr Ty.cell1 Hf Eg Dg Fy Kk EO J4 LV Oz Ef Gu Lq Qm Sb Ln J3 WD YK O3 Ls Cm I4 RV.flat Ty.flat Ty.size St.add upd del Ba Value.oneCell' Ki Ty.dflt He Mx Gx M4 List.take_succ_cons List.take_zero List.length_cons Wr Ws M3 X1 KG GY Hz sM Ey Kz K0 K2 K3 OG OH JC Ho Qy Option.map_some Option.map_none Option.bind_some Option.getD_some Option.getD_none Option.isNone_none Option.isNone_some Bool.and_true Bool.true_and Bool.and_false Bool.false_and Bool.not_true Bool.not_false if_true if_false List.length_cons List.length_nil and_true true_and and_self List.all_cons List.all_nil List.append_nil List.nil_append List.cons_append List.getElem?_cons_zero List.getElem?_cons_succ List.getElem?_nil List.map_cons List.map_nil List.set_cons_zero List.set_cons_succ List.isEmpty_nil List.isEmpty_cons decide_true decide_false beq_self_eq_true bne_self_eq_false Nat.zero_add Nat.add_zero Nat.sub_zero Int.toNat_natCast Int.toNat_zero Int.toNat_one List.take_length List.length_append List.length_singleton true_or or_true or_self false_or or_false Ty.agg.injEq Ty.slice.injEq Ty.prod.injEq Ty.int.injEq Option.some.injEq beq_iff_eq K4 evMG evMQ v5 HL Lc Bv JE GI L5 JD HK Hq JF KF L6 L8 L7 Qz KE Mz M0 Hy AW Ai Op.operands Call.operands List.filterMap_cons List.filterMap_nil List.append_eq Bool.cond_false_right Bool.cond_true_left cond_true cond_false implies_true decide_eq_true_eq beq_true beq_false Bool.or_true Bool.or_false Bool.true_or Bool.false_or Option.isSome_some Array.empty_append List.append_toArray K1 Kr Ek HV WF NZ FD Fa FZ IC HG Jf Km TV Zl Ja inB Jj FN F0 ID Ak Wu List.drop_zero DZ HZ WK CE Jp BT AV.fgt AV.fgts Obj.fgt Af Ag AW Cp IP BH F5 List.any_cons List.any_nil jY Yf WL Yg Lo Pf qs List.flatMap_cons List.flatMap_nil List.cons_append tn WM Ha List.take_succ_cons List.drop_succ_cons WN HO Bj aQ KI B8 CS Ab FH Jo Bc Em Dj HI Hn F4 HJ
attribute [local go_sem] ty1 ty2 ty3 ty4 ty5 ty9 yG yH yI yJ yK yL yM yN yO yP yQ yR yS yT yU yV yW yX yY yZ y3 y4 y5 y6 y7 y8 y9 zA zB zC zD zE zF zG zH zI zJ zK zL zM zN zO zP zQ zR zS zT zU zV zW zX zY zZ z0 z1 z2 z3 z4 z5 z6 z7 z8 z9 A00 A01 A02 A03 A04 A05 A06 A07 A08 A09 A0a aY aZ a9 bA bB bC bD bE bF bG bH bI bJ bK bL bM bN bO bP bQ bR bS bT bU bV bW bX bZ b4 b5 b6 b7 b8 b9 cA cB cC cE cF cG cH cI cJ cK cL cM cN cO cQ cR cS cU cV cW cX cZ c6 c7 c8 c9 dA dB dC dD dE dF dG dH dI dJ dK dL dM dN dP dQ dR dS dT dU dV dW dX dY dZ d3 d4 d5 d6 d7 d8 d9 eB eC eD eE eF eG eH eI eJ eK eL eO eQ eU eW eX eY eZ e7 e9 fA fB fC fD fE fF fG
set_option maxRecDepth 100000
set_option maxHeartbeats 4000000
section
attribute [local go_sem] Xf TM
def JU (n i:Nat):List Int:=(List.range n).map fun j=>if j<i then -1 else 0
theorem vF (n i:Nat):(JU n i).length=n:=by simp[JU]
theorem nH (n:Nat):JU n 0=List.replicate n 0:=by
 apply AA8
 ·simp[JU]
 ·intro j h1 a;simp[JU]
theorem vG (n i:Nat):(JU n i).set i (-1)=JU n (i+1):=by
 apply AA8
 ·simp[JU]
 ·intro j h1 b;simp only[JU,ACE,ABd,ABb];split
  ·rename_i e;rw[At (by omega)]
  ·rename_i e;by_cases a:j<i
   ·rw[At a,At (by omega)]
   ·rw[As a,As (by omega)]
theorem vH (n:Nat):JU n n=List.replicate n (-1):=by
 apply AA8
 ·simp[JU]
 ·intro j h1 a;simp only[JU,ABd,ABb,List.getElem_replicate];rw[At (by simpa[JU] using h1)]
def Mi (bl:List (Int×Int)) (m:List Int) (x:Int×Int):Bool:=decide (EJ bl x.1<0)||decide (0≤m.getD x.2.toNat 0)&&!(m.getD x.2.toNat 0==EJ bl x.1)
def E5 (bl:List (Int×Int)):List (Int×Int)→List Int→Option (List Int)
 | [],m=>some m
 | x :: l,m=>if Mi bl m x=true then none else E5 bl l (m.set x.2.toNat (EJ bl x.1))
def Hv (h:AI) (b:List AE) (n:AE) (k:Int):Bool:=decide (k<0)||!BG h n.1 (b.getD k.toNat (0,[])).1
def GD (h:AI) (b:List AE):List AE→Nat→List Int→Option (List Int)
 | [],_,m=>some m
 | n :: r,i,m=>if Hv h b n (m.getD i 0)=true then none else match E5 (b.getD (m.getD i 0).toNat (0,[])).2 n.2 m with
  | none=>none
  | some a=>GD h b r (i+1) a
def ZN (h:AI) (a b:List AE):Option (List Int):=GD h b a 0 ((List.replicate a.length (-1)).set 0 0)
theorem ZO (bl l:List (Int×Int)) (m:List Int) {k:Nat} (h:k<l.length):E5 bl (l.drop k) m=if Mi bl m (l.getD k (0,0))=true then none else E5 bl (l.drop (k+1)) (m.set (l.getD k (0,0)).2.toNat (EJ bl (l.getD k (0,0)).1)):=by
 rw[aS h];have e:l.getD k (0,0)=l[k]:=by simp[AS,h]
 rw[e];rfl
theorem J0 (h:AI) (b a:List AE) (m:List Int) {i:Nat} (hi:i<a.length):GD h b (a.drop i) i m=if Hv h b (a.getD i (0,[])) (m.getD i 0)=true then none else match E5 (b.getD (m.getD i 0).toNat (0,[])).2 (a.getD i (0,[])).2 m with
  | none=>none
  | some c=>GD h b (a.drop (i+1)) (i+1) c:=by
 rw[aS hi];have e:a.getD i (0,[])=a[i]:=by simp[AS,hi]
 rw[e];rfl
structure ZP (a b:List AE) (m:List Int):Prop where
 len:m.length=a.length
 rng:∀x∈m,x<(b.length:Int)
theorem ZQ {n:Int} (hn:0≤n):∀ {l:List (Int×Int)} (e:Int),(∀x∈l,x.2<n)→EJ l e<n
 | [],_,_=>by simp only[EJ];omega
 | x :: l,e,h=>by
  simp only[EJ];split
  ·exact h x (by simp)
  ·exact ZQ hn e (fun y a=>h y (by simp[a]))
theorem ZP.set {a b:List AE} {m:List Int} (h:ZP a b m) (k:Nat) {v:Int} (d:v<(b.length:Int)):ZP a b (m.set k v):=by
 refine⟨by simp[h.len],fun x c=>?_⟩;rcases AB6 c with c|c
 ·exact h.rng x c
 ·rw[c];exact d
theorem ZP.get {a b:List AE} {m:List Int} (h:ZP a b m) (c:0<b.length) (k:Nat):m.getD k 0<(b.length:Int):=by
 rw[AS];cases hh:m[k]? with
 | none=>show (0:Int)<_;omega
 | some x=>exact h.rng x (AAf hh)
def Fx (h:AI) (f:List AE):Prop:=∀x∈f,0≤x.1∧x.1<(h.1.length:Int)
theorem Ka {f:List AE} (hf:Ad f) (k:Nat):∀x∈(f.getD k (0,[])).2,0≤x.2∧x.2<(f.length:Int):=by
 intro x a;by_cases h:k<f.length
 ·exact(hf.2 _ (AD f (0,[]) h)).2 x a
 ·rw[AS,iN (by omega)]at a;cases a
def A59:Ae:={ ins:=[Ga,E0,E0],pre:=fun(h,a,b,_)=>Ad a∧0<List.length a∧Ad b∧0<List.length b∧Fx h a∧Fx h b,out:=fun(h,a,b,_)=>[.p Kh ((ZN h a b).getD []),.p .bool (ZN h a b).isSome] }
attribute [local go_sem] A59
theorem A5a:Ao Tryz.prog 55 A59:=by
 refine fK [0,1,2,3,4,5,6,7,8,9,10,11,12,13,15,16,22,23,24,33,34,35,36,58,60,61,62,63,92,101] Tryz.func55 Tryz.ntmps55 (AF p3 (AF vE AG)) ?_;rintro w0 O0 ⟨⟨e,hf⟩,a,b,u⟩ n-⟨A,J,L,D,S,T⟩;have W:=A.1;simp only[A59,AM];repeat'(first|exact trivial|refine eS rfl ?_|refine AB ?_|refine rX n ?_ ?_|refine rC ?_ ?_<;>intro c<;>try(cases c;done))
 refine Ev.ent (σ':=⟨[(3,.bp 3 [] 0),(4,.bp 4 [] 0),(5,.bp 5 [] 0)],[(3,.box 31 true [.p S5 e,.p WB hf]),(4,.box 25 true [.p F6 a]),(5,.box 25 true [.p F6 b])]⟩) ?_ (AC [(3,.nm 3),(4,.nm 4),(5,.nm 5)] rfl rfl ?_ ?_)
 ·refine x8 yA ?_;repeat'(first|exact trivial|refine eS rfl ?_|refine AB ?_|refine rX n ?_ ?_|refine rC ?_ ?_<;>intro c<;>try(cases c;done))
  ·simp only[AO];omega
  ·refine AJ (ι:={i:Nat//i≤a.length}) (fun i=>⟨[(3,.bp 3 [] 0),(4,.bp 4 [] 0),(5,.bp 5 [] 0),(8,.sr 20 T3 0 a.length),(22,.p (.int .i64) (a.length:Int)),(23,.p (.int .i64) (i.1:Int))],[(3,.box 31 true [.p S5 e,.p WB hf]),(4,.box 25 true [.p F6 a]),(5,.box 25 true [.p F6 b]),(20,.arr 3 T3 (JU a.length i.1))]⟩) (fun i=>a.length-i.1) ⟨0,Is _⟩ (AC [(3,.nm 3),(4,.nm 4),(5,.nm 5),(20,.nm 20)] rfl rfl ?_ ?_) (fun i=>?_)
   ·first|exact eN|refine eM ?_
    rw[nH]
   ·first|exact eN|refine eM ?_
   ·obtain⟨i,hi⟩:=i;have Y:=vF a.length i;simp only;repeat'(first|exact trivial|refine eS rfl ?_|refine AB ?_|refine rX n ?_ ?_|refine rC ?_ ?_<;>intro c<;>try(cases c;done))
    ·exact c
    ·omega
    ·have f:i<a.length:=If.1 c;refine⟨⟨i+1,f⟩,by simp only;omega,AC [(3,.nm 3),(4,.nm 4),(5,.nm 5),(20,.nm 20)] rfl rfl ?_ ?_⟩
     ·simp only[←vG];first|exact eN|refine eM ?_
     ·first|exact eN|refine eM ?_
    ·exact If.2 J
    ·have f:i=a.length:=by omega
     subst f;rw[vH];have P:ZP a b ((List.replicate a.length (-1)).set 0 0):=ZP.set ⟨by simp,fun x q=>by rw[(List.mem_replicate.1 q).2];omega⟩ 0 (by omega);have Q:ZN (e,hf) a b=GD (e,hf) b (a.drop 0) 0 ((List.replicate a.length (-1)).set 0 0):=rfl;generalize (List.replicate a.length (-1:Int)).set 0 0=U at *;refine x9 ?_;repeat'(first|exact trivial|refine eS rfl ?_|refine AB ?_|refine rX n ?_ ?_|refine rC ?_ ?_<;>intro c<;>try(cases c;done))
     refine AJ (ι:={x:Nat×List Int//x.1≤a.length∧ZP a b x.2∧GD (e,hf) b (a.drop x.1) x.1 x.2=ZN (e,hf) a b}) (fun x=>⟨[(3,.bp 3 [] 0),(5,.bp 5 [] 0),(8,.sr 20 T3 0 a.length),(10,.p .bool true),(33,.p F6 a),(34,.p (.int .i64) (a.length:Int)),(35,.p (.int .i64) (x.1.1:Int))],[(3,.box 31 true [.p S5 e,.p WB hf]),(5,.box 25 true [.p F6 b]),(20,.arr 3 T3 x.1.2)]⟩) (fun x=>a.length-x.1.1) ⟨(0,U),Is _,P,Q.symm⟩ (AC [(3,.nm 3),(5,.nm 5),(20,.nm 20)] rfl rfl ?_ ?_) (fun x=>?_)
     ·first|exact eN|refine eM ?_
     ·first|exact eN|refine eM ?_
     ·obtain⟨⟨i,m⟩,hi,s,d⟩:=x;simp only at hi s d;have R:=s.len;have G:=fun h:i<a.length=>J0 (e,hf) b a m h;simp only;repeat'(first|exact trivial|refine eS rfl ?_|refine AB ?_|refine rX n ?_ ?_|refine rC ?_ ?_<;>intro c<;>try(cases c;done))
      ·exact c
      ·exact c
      ·have f:i<a.length:=If.1 c;have hk:=s.get D i;refine⟨fun h=>⟨by simpa using h,hk⟩,fun h=>⟨S _ (AD a (0,[]) f),T _ (AD b (0,[]) ?_)⟩⟩;have:(0:Int)≤m.getD i 0:=by simpa using h
       omega
      ·have f:i<a.length:=If.1 (by assumption);have w:Hv (e,hf) b (a.getD i (0,[])) (m.getD i 0)=true:=by
        unfold Hv;rw[iS,DO,OR];assumption
       rw[G f,At w]at d;exact fI n [.tmp 6,.tmp 7] (by rw[←d];first|exact eR|refine Ym ?_;first|rfl|exact⟨rfl,rfl⟩)
      ·have f:i<a.length:=If.1 (by assumption);have w:¬Hv (e,hf) b (a.getD i (0,[])) (m.getD i 0)=true:=by
        unfold Hv;rw[iS,DO,OR];rintro (h|h)
        ·have:=c.1;omega
        ·rw[show BG (e,hf) (a.getD i (0,[])).1 (b.getD (m.getD i 0).toNat (0,[])).1=true from c.2]at h;cases h
       rw[G f,As w]at d;have N:(0:Int)≤m.getD i 0:=c.1;have O:=s.get D i;have K:(a.getD i (0,[])).2.length≤100000:=(A.2 _ (AD a (0,[]) f)).1;have F:=Ka A i;have E:=Ka L (m.getD i 0).toNat;have Z:((m.getD i 0).toNat:Int)=m.getD i 0:=by omega
       generalize aa:m.getD i 0=r at *;have X:(b.getD r.toNat (0,[])).2=(b.getD r.toNat (0,[])).2:=rfl;generalize t:(b.getD r.toNat (0,[])).2=bl at d E;generalize V:(a.getD i (0,[])).2=l at d K F;refine AJ (ι:={y:Nat×List Int//y.1≤l.length∧ZP a b y.2∧E5 bl (l.drop y.1) y.2=E5 bl l m}) (fun y=>⟨[(3,.bp 3 [] 0),(5,.bp 5 [] 0),(8,.sr 20 T3 0 a.length),(10,.p .bool true),(13,.p T3 r),(33,.p F6 a),(34,.p (.int .i64) (a.length:Int)),(35,.p (.int .i64) (i:Int)),(60,.p DS l),(61,.p (.int .i64) (l.length:Int)),(62,.p (.int .i64) (y.1.1:Int))],[(3,.box 31 true [.p S5 e,.p WB hf]),(5,.box 25 true [.p F6 b]),(20,.arr 3 T3 y.1.2)]⟩) (fun y=>l.length-y.1.1) ⟨(0,m),Is _,s,rfl⟩ (AC [(3,.nm 3),(5,.nm 5),(20,.nm 20)] rfl rfl ?_ ?_) (fun y=>?_)
       ·first|exact eN|refine eM ?_
       ·first|exact eN|refine eM ?_
       ·obtain⟨⟨j,o⟩,M,v,g⟩:=y;simp only at M v g;have ab:=v.len;have C:=fun h:j<l.length=>ZO bl l o h;have q:=fun h:j<l.length=>F _ (AD l (0,0) h);have H:EJ bl (l.getD j (0,0)).1<(b.length:Int):=ZQ (AA3 _) _ fun x q=>(E x q).2;have B:Mi bl o (l.getD j (0,0))=(decide (EJ bl (l.getD j (0,0)).1<0)||decide (0≤o.getD (l.getD j (0,0)).2.toNat 0)&&!(o.getD (l.getD j (0,0)).2.toNat 0==EJ bl (l.getD j (0,0)).1)):=rfl;rw[←t]at C B g H;simp only;repeat'(first|exact trivial|refine eS rfl ?_|refine AB ?_|refine rX n ?_ ?_|refine rC ?_ ?_<;>intro c<;>try(cases c;done))
        ·exact c
        ·exact⟨N,O⟩
        ·have k:j<l.length:=If.1 c;exact⟨fun _=>q k,fun _=>q k⟩
        ·have k:j<l.length:=If.1 (by assumption);have z:Mi (b.getD r.toNat (0,[])).2 o (l.getD j (0,0))=true:=by
          rw[B,iS,AT,DO,DO,OR,AAs];assumption
         rw[C k,At z]at g;rw[t]at g;rw[←g]at d;have d:none=ZN (e,hf) a b:=d;exact fI n [.tmp 6,.tmp 7] (by rw[←d];first|exact eR|refine Ym ?_;first|rfl|exact⟨rfl,rfl⟩)
        ·have k:j<l.length:=If.1 (by assumption);exact q k
        ·omega
        ·have k:j<l.length:=If.1 (by assumption);have z:¬Mi (b.getD r.toNat (0,[])).2 o (l.getD j (0,0))=true:=by
          rw[B,iS,AT,DO,DO,OR,AAs];rintro (h|⟨h1,I⟩)
          ·exact absurd c.1 (Int.not_le.2 h)
          ·have:=c.2 h1;rw[bne_eq_false_iff_eq]at this;exact I this
         rw[C k,As z]at g;refine⟨⟨(j+1,o.set (l.getD j (0,0)).2.toNat (EJ (b.getD r.toNat (0,[])).2 (l.getD j (0,0)).1)),k,v.set _ H,by rw[t]at g ⊢;exact g⟩,by simp only;omega,AC [(3,.nm 3),(5,.nm 5),(20,.nm 20)] rfl rfl ?_ ?_⟩
         ·first|exact eN|refine eM ?_
         ·first|exact eN|refine eM ?_
        ·omega
        ·have k:j=l.length:=by omega
         subst k;rw[ABB]at g;have g:some o=E5 bl l m:=by rw[←t];exact g
         rw[←g]at d;refine⟨⟨(i+1,o),f,v,d⟩,by simp only;omega,AC [(3,.nm 3),(5,.nm 5),(20,.nm 20)] rfl rfl ?_ ?_⟩
         ·first|exact eN|refine eM ?_
         ·first|exact eN|refine eM ?_
      ·have f:i=a.length:=by exact eV
       subst f;rw[ABB]at d;have d:some m=ZN (e,hf) a b:=d;refine Gy [20] ?_;exact fI n [.tmp 6,.tmp 7] (by rw[←d];first|exact eR|refine Ym ?_;exact BY (by rw[R];exact No _))
 ·first|exact eN|refine eM ?_
 ·first|exact eN|refine eM ?_
def Hd (h:AI) (a b:List AE):Bool:=(ZN h a b).isSome
def qP:Ae:={ ins:=[Ga,E0,E0],pre:=fun(h,a,b,_)=>Ad a∧0<List.length a∧Ad b∧0<List.length b∧Fx h a∧Fx h b,out:=fun(h,a,b,_)=>[.p .bool (Hd h a b)],lend:=true }
theorem qQ:Ao Tryz.prog 23 qP:=by
 refine fK [0,1,2,3,4,5,6,8] Tryz.func23 Tryz.ntmps23 (AF A5a AG) ?_;rintro w0 O0 ⟨⟨e,hf⟩,a,b,u⟩ c-hp;simp only[qP,AM];repeat'(first|exact trivial|refine eS rfl ?_|refine AB ?_|refine rX c ?_ ?_|refine rC ?_ ?_<;>intro d<;>try(cases d;done))
 ·exact hp
 ·exact fI c [.tmp 6] (by unfold Hd;exact eR)
end
structure J1 (h:AI) (a b:List AE) (m:Int→Int):Prop where
 zero:m 0=0
 rng:∀i,0≤i→i<(a.length:Int)→0≤m i∧m i<(b.length:Int)
 ty:∀i,0≤i→i<(a.length:Int)→BG h (a.getD i.toNat (0,[])).1 (b.getD (m i).toNat (0,[])).1=true
 arc:∀i,0≤i→i<(a.length:Int)→∀x∈Am a i,EJ (Am b (m i)) x.1=m x.2
theorem VV {l:List (Int×Int)} (h:l.Pairwise (fun a b=>a.1<b.1)) {a:Int×Int} (ha:a∈l):EJ l a.1=a.2:=by
 induction l with
 | nil=>cases ha
 | cons b l d =>
  obtain⟨h1,c⟩:=AAk.1 h;simp only[EJ];rcases By.1 ha with rfl|ha
  ·rw[At rfl]
  ·rw[As (by have:=h1 a ha;omega)];exact d c ha
theorem VW {l:List (Int×Int)} {e:Int} (h:0≤EJ l e):∃a∈l,a.1=e∧a.2=EJ l e:=by
 induction l with
 | nil=>simp only[EJ]at h;omega
 | cons b l g =>
  simp only[EJ]at h ⊢;split
  ·rename_i c;exact⟨b,by simp,c,rfl⟩
  ·rename_i c;rw[As c]at h;obtain⟨a,ha,d,f⟩:=g h;exact⟨a,by simp[ha],d,f⟩
theorem A5b {f:List AE} (hs:QO f) {n:Int} {a:Int×Int} (ha:a∈Am f n):EJ (Am f n) a.1=a.2:=VV (A1z hs n) ha
def RO (f:List AE):Prop:=∀i:Int,0<i→i<(f.length:Int)→∃j,0≤j∧j<i∧∃x∈Am f j,x.2=i
structure MH (a:List AE) (m:Int→Int) (M:List Int):Prop where
 len:M.length=a.length
 val:∀k:Nat,k<a.length→M.getD k 0=-1∨M.getD k 0=m (k:Int)
theorem GE {M:List Int} {k j:Nat} {v:Int} (hk:k<M.length):(M.set k v).getD j 0=if k=j then v else M.getD j 0:=by
 by_cases h:k=j
 ·subst h;rw[At rfl,Jz _ _ _ hk]
 ·rw[As h,getD_set_ne _ _ _ h]
theorem i3 {a:List AE} (ha:Ad a) {m:Int→Int} {n:Int} (s:∀i,0≤i→i<(a.length:Int)→0≤m i) {bl:List (Int×Int)}:∀ {l:List (Int×Int)} {M:List Int},(∀x∈l,x∈Am a n)→(∀x∈l,EJ bl x.1=m x.2)→MH a m M →
  ∃c,E5 bl l M=some c∧MH a m c∧(∀k:Nat,k<a.length→M.getD k 0=m (k:Int)→c.getD k 0=m (k:Int))∧∀x∈l,c.getD x.2.toNat 0=m x.2
 | [],M,_,_,h=>⟨M,rfl,h,fun _ _ h=>h,fun x d=>by cases d⟩
 | x :: l,M,r,u,h=>by
  have t:=Bt ha (r x (by simp));have d:=u x (by simp);have F:=s x.2 t.1 t.2;have o:x.2.toNat<a.length:=by omega
  have j:((x.2.toNat:Nat):Int)=x.2:=by omega
  have f:=h.val x.2.toNat o;rw[j]at f;have C:¬Mi bl M x=true:=by
   unfold Mi;rw[iS,AT,DO,DO,OR,AAs,d];rintro (g|⟨E,A⟩)
   ·omega
   ·rcases f with f|f
    ·omega
    ·exact A f
  have B:MH a m (M.set x.2.toNat (EJ bl x.1)):=by
   refine⟨by rw[AA5];exact h.len,fun k hk=>?_⟩;rw[GE (by rw[h.len];exact o)];split
   ·rename_i e;right;rw[d,←e,j]
   ·exact h.val k hk
  obtain⟨c,v,w,p,z⟩:=i3 ha s (l:=l) (fun y b=>r y (by simp[b])) (fun y b=>u y (by simp[b])) B;refine⟨c,?_,w,fun k hk D=>p k hk ?_,fun y b=>?_⟩
  ·simp only[E5];rw[As C];exact v
  ·rw[GE (by rw[h.len];exact o)];split
   ·rename_i e;rw[d,←e,j]
   ·exact D
  ·rcases By.1 b with rfl|b
   ·have q:=p y.2.toNat o (by rw[GE (by rw[h.len];exact o),At rfl,d,j]);rw[j]at q;exact q
   ·exact z y b
theorem Xx {h:AI} {a b:List AE} (ha:Ad a) (v:RO a) {m:Int→Int} (d:J1 h a b m):∀(r i:Nat) (M:List Int),r+i=a.length→MH a m M→(0<a.length→M.getD 0 0=0) →
  (∀k:Nat,k<a.length→(∃j:Int,0≤j∧j<(i:Int)∧∃x∈Am a j,x.2=(k:Int))→M.getD k 0=m (k:Int))→∃f,GD h b (a.drop i) i M=some f
 | 0,i,M,J,_,_,_=>by
  rw[IF (by omega)];exact⟨M,rfl⟩
 | r+1,i,M,J,E,s,t=>by
  have hi:i<a.length:=by omega
  have u:M.getD i 0=m (i:Int):=by
   cases i with
   | zero =>
    rw[s hi];exact d.zero.symm
   | succ i =>
    obtain⟨j,p,y,x,c,e⟩:=v ((i+1:Nat):Int) (by omega) (by omega);exact t (i+1) hi ⟨j,p,y,x,c,e⟩
  have K:=d.rng (i:Int) (by omega) (by omega);have w:=d.ty (i:Int) (by omega) (by omega);have F:=d.arc (i:Int) (by omega) (by omega);rw[bY]at w;have G:¬Hv h b (a.getD i (0,[])) (M.getD i 0)=true:=by
   unfold Hv;rw[iS,DO,OR,u];rintro (g|g)
   ·omega
   ·rw[w]at g;cases g
  rw[J0 h b a M hi,As G,u];have o:Am a (i:Int)=(a.getD i (0,[])).2:=by rw[Am,bY]
  obtain⟨f,z,A,q,B⟩:=i3 (n:=(i:Int)) ha (fun k C D=>(d.rng k C D).1) (bl:=(b.getD (m (i:Int)).toNat (0,[])).2) (l:=(a.getD i (0,[])).2) (fun x c=>by rw[o];exact c) (fun x c=>F x (by rw[o];exact c)) E;rw[z];simp only;refine Xx ha v d r (i+1) f (by omega) A (fun g=>?_) (fun k hk H=>?_)
  ·have:=q 0 g (by rw[s g];exact d.zero.symm);rw[this];exact d.zero
  ·obtain⟨j,p,y,x,c,e⟩:=H;by_cases I:j<(i:Int)
   ·exact q k hk (t k hk ⟨j,p,I,x,c,e⟩)
   ·have:j=(i:Int):=by omega
    subst this;rw[o]at c;have:=B x c;rw[e]at this;rw[bY]at this;exact this
theorem A3K {h:AI} {a b:List AE} (ha:Ad a) (h0:0<a.length) (f:RO a) {m:Int→Int} (c:J1 h a b m):Hd h a b=true:=by
 have g:((List.replicate a.length (-1:Int)).set 0 0).getD 0 0=0:=by rw[GE (by simpa using h0),At rfl]
 obtain⟨i,e⟩:=Xx ha f c a.length 0 ((List.replicate a.length (-1)).set 0 0) (by omega) ⟨by simp,fun k hk=>by
  rw[GE (by simpa using h0)];split
  ·rename_i e;right;rw[←e];exact c.zero.symm
  ·left;simp[AS,AAF,hk]⟩ (fun _=>g) (fun k hk d=>by
  obtain⟨j,l,n,_⟩:=d;omega)
 unfold Hd ZN;rw[AA6]at e;rw[e];rfl
theorem i4 {b:List AE} {bl:List (Int×Int)} (u:0<b.length) (o:∀x∈bl,x.2<(b.length:Int)) {n:Nat}:∀ {l:List (Int×Int)} {M a:List Int},(∀x∈l,0≤x.2∧x.2<(n:Int))→M.length=n→(∀k,M.getD k 0<(b.length:Int))→E5 bl l M=some a →
  a.length=n∧(∀k,a.getD k 0<(b.length:Int))∧(∀k,0≤M.getD k 0→a.getD k 0=M.getD k 0)∧∀x∈l,0≤a.getD x.2.toNat 0∧EJ bl x.1=a.getD x.2.toNat 0
 | [],M,a,_,hn,hk,h=>by
  have:M=a:=ACf h;subst this;exact⟨hn,hk,fun _ _=>rfl,fun x w=>by cases w⟩
 | x :: l,M,a,p,hn,hk,h=>by
  simp only[E5]at h;split at h
  ·cases h
  ·rename_i d;have z:=p x (by simp);have j:x.2.toNat<M.length:=by omega
   have v:=ZQ (n:=(b.length:Int)) (by omega) (l:=bl) x.1 o;obtain⟨r,s,m,t⟩:=i4 u o (l:=l) (fun y c=>p y (by simp[c])) (by rw[AA5];exact hn) (fun k=>by
    rw[GE j];split
    ·exact v
    ·exact hk k) h
   have g:0≤EJ bl x.1∧(0≤M.getD x.2.toNat 0→M.getD x.2.toNat 0=EJ bl x.1):=by
    unfold Mi at d;rw[iS,AT,DO,DO,OR,AAs]at d;refine⟨AAS.1 fun e=>d (.inl e),fun e=>Do fun q=>d (.inr ⟨e,q⟩)⟩
   refine⟨r,s,fun k i=>?_,fun y c=>?_⟩
   ·have h1:(M.set x.2.toNat (EJ bl x.1)).getD k 0=M.getD k 0:=by
     rw[GE j];split
     ·rename_i e;rw[←e]at i ⊢;exact(g.2 i).symm
     ·rfl
    rw[m k (by rw[h1];exact i),h1]
   ·rcases By.1 c with rfl|c
    ·have h1:(M.set y.2.toNat (EJ bl y.1)).getD y.2.toNat 0=EJ bl y.1:=by rw[GE j,At rfl]
     have f:=m y.2.toNat (by rw[h1];exact g.1);rw[h1]at f;exact⟨by rw[f];exact g.1,f.symm⟩
    ·exact t y c
theorem Xy {d:AI} {a b:List AE} (ha:Ad a) (p:Ad b) (q:0<b.length):∀(r i:Nat) (M c:List Int),r+i=a.length→M.length=a.length→(∀k,M.getD k 0<(b.length:Int))→GD d b (a.drop i) i M=some c →
  (∀k,c.getD k 0<(b.length:Int))∧(∀k,0≤M.getD k 0→c.getD k 0=M.getD k 0)∧∀k:Nat,i≤k→k<a.length→0≤c.getD k 0∧BG d (a.getD k (0,[])).1 (b.getD (c.getD k 0).toNat (0,[])).1=true∧∀x∈(a.getD k (0,[])).2,0≤c.getD x.2.toNat 0∧EJ (b.getD (c.getD k 0).toNat (0,[])).2 x.1=c.getD x.2.toNat 0
 | 0,i,M,c,D,_,hk,h=>by
  rw[IF (by omega)]at h;have:M=c:=ACf h;subst this;exact⟨hk,fun _ _=>rfl,fun k h1 o=>by omega⟩
 | r+1,i,M,c,D,hn,hk,h=>by
  have hi:i<a.length:=by omega
  rw[J0 d b a M hi]at h;split at h
  ·cases h
  ·rename_i g;have j:0≤M.getD i 0∧BG d (a.getD i (0,[])).1 (b.getD (M.getD i 0).toNat (0,[])).1=true:=by
    unfold Hv at g;rw[iS,DO,OR]at g;refine⟨AAS.1 fun e=>g (.inl e),?_⟩;cases hh:BG d (a.getD i (0,[])).1 (b.getD (M.getD i 0).toNat (0,[])).1 with
    | true=>rfl
    | false=>exact absurd (.inr hh) g
   cases l:E5 (b.getD (M.getD i 0).toNat (0,[])).2 (a.getD i (0,[])).2 M with
   | none=>rw[l]at h;cases h
   | some v =>
    rw[l]at h;simp only at h;obtain⟨y,z,A,B⟩:=i4 q (fun x f=>(Ka p _ x f).2) (n:=a.length) (fun x f=>Ka ha i x f) hn hk l;obtain⟨E,u,F⟩:=Xy ha p q r (i+1) v c (by omega) y z h;have t:∀k,0≤M.getD k 0→c.getD k 0=M.getD k 0:=fun k s=>by
     have:=A k s;rw[u k (by rw[this];exact s),this]
    refine⟨E,t,fun k h1 o=>?_⟩;by_cases C:k=i
    ·subst C;rw[t k j.1];refine⟨j.1,j.2,fun x f=>?_⟩;obtain⟨m,w⟩:=B x f;have:=u x.2.toNat m;rw[this];exact⟨m,w⟩
    ·exact F k (by omega) o
theorem A5c {h:AI} {a b:List AE} (ha:Ad a) (j:0<a.length) (o:Ad b) (p:0<b.length) (c:Hd h a b=true):∃m,J1 h a b m:=by
 unfold Hd ZN at c;cases l:GD h b a 0 ((List.replicate a.length (-1)).set 0 0) with
 | none=>rw[l]at c;cases c
 | some M =>
  have n:((List.replicate a.length (-1:Int)).set 0 0).getD 0 0=0:=by rw[GE (by simpa using j),At rfl]
  obtain⟨r,s,d⟩:=Xy ha o p a.length 0 ((List.replicate a.length (-1)).set 0 0) M (by omega) (by simp) (fun k=>by
   rw[GE (by simpa using j)];split
   ·omega
   ·rw[AS,AAF];split
    ·show (-1:Int)<_;omega
    ·show (0:Int)<_;omega) (by rw[AA6];exact l)
  have g:=s 0 (by rw[n];omega);rw[n]at g;refine⟨fun i=>M.getD i.toNat 0,g,fun i e f=>⟨(d i.toNat (by omega) (by omega)).1,r _⟩,fun i e f=>(d i.toNat (by omega) (by omega)).2.1,fun i e f x q=>((d i.toNat (by omega) (by omega)).2.2 x q).2⟩
theorem VX {f:List AE} (hf:Ad f):∀(k:Nat) (t:List Int) (n:Int),LO f t→0≤n→n<f.length→n∉t →
  ∀q,t.length<q→q<(Ea f k t n).length→∃j,j<q∧∃a∈Am f ((Ea f k t n).getD j 0),a.2=(Ea f k t n).getD q 0
 | 0,t,n,h,h0,h1,y,q,B,g=>by simp only[Ea]at g;omega
 | k+1,t,n,h,h0,h1,y,q,B,g=>by
  have key:∀(l:List (Int×Int)) (u:List Int),(∀a∈l,a∈Am f n)→LO f u→t++[n] <+: u →
    (∀q,t.length<q→q<u.length→∃j,j<q∧∃a∈Am f (u.getD j 0),a.2=u.getD q 0) →
    ∀q,t.length<q→q<(l.foldl (Ac f k) u).length→∃j,j<q∧∃a∈Am f ((l.foldl (Ac f k) u).getD j 0),a.2=(l.foldl (Ac f k) u).getD q 0:=by
   intro l;induction l with
   | nil=>intro u _ _ _ hu q p d;exact hu q p d
   | cons a l D =>
    intro u w hu r z;have ha:=w a (by simp);have i:=Bt hf ha;rw[Rp];by_cases m:a.2∈u
    ·have hs:Ac f k u a=u:=by unfold Ac;rw[At m]
     rw[hs];exact D u (fun b c=>w b (by simp[c])) hu r z
    ·have hs:Ac f k u a=Ea f k u a.2:=by unfold Ac;rw[As m]
     rw[hs];obtain⟨E,x⟩:=D5 hf k u a.2 hu i.1 i.2 m;have s:∀j,j<u.length→(Ea f k u a.2).getD j 0=u.getD j 0:=fun j F=>by
      obtain⟨v,o⟩:=x;rw[←o];simp only[AS];rw[oS F]
     have G:u.getD t.length 0=n:=by
      obtain⟨v,o⟩:=r;rw[←o];simp[AS]
     have C:t.length<u.length:=by
      have:=r.length_le;simp at this;omega
     refine D (Ea f k u a.2) (fun b c=>w b (by simp[c])) E (r.trans x) (fun q p d=>?_);by_cases A:q<u.length
     ·obtain⟨j,H,b,c,e⟩:=z q p A;refine⟨j,H,b,?_,?_⟩
      ·rw[s j (by omega)];exact c
      ·rw[s q A];exact e
     ·by_cases g:q=u.length
      ·subst g;refine⟨t.length,C,a,?_,?_⟩
       ·rw[s _ C,G];exact ha
       ·cases k with
        | zero=>simp only[Ea]at d;omega
        | succ k =>
         have hp:u++[a.2] <+: Ea f (k+1) u a.2:=by
          rw[Cv];exact(Er (D5 hf k) _ _ (fun b c=>Bt hf c) (hu.snoc i.1 i.2 m)).2
         obtain⟨v,o⟩:=hp;rw[←o];simp[AS]
      ·exact VX hf k u a.2 hu i.1 i.2 m q (by omega) d
  rw[Cv]at g ⊢;exact key _ (t++[n]) (fun a ha=>ha) (h.snoc h0 h1 y) (AAw _) (fun q p d=>by simp only[IN,To]at d;omega) q B g
theorem A3L {f:List AE} (hf:Ad f) (hs:QO f) (h0:0<f.length) (b:Int→Int×Int→Bool):RO (VM b f):=by
 obtain⟨g,t⟩:=Xs hf hs b;have h:=KW b f f.length;have c:=A1y g (by omega);have k:=vA (GQ b f f.length);have m:=VX g (GQ b f f.length).length [] 0 (Hu _) (by omega) (by omega) (by simp);have q:=fun n hn=>vC hf hs h0 b (n:=n) hn;rw[h]at c k m;have r:(VM b f).length=(Ea (GQ b f f.length) f.length [] 0).length:=k;intro i s p;rw[r]at p;generalize Ea (GQ b f f.length) f.length [] 0=o at *;obtain⟨j,u,a,ha,e⟩:=m i.toNat (by simp only[AAN];omega) (by omega);have l:o.getD j 0∈o:=AD _ 0 (by omega);have d:=c.ok.rng _ l;rw[h]at d;rw[Am,iZ b d.1 d.2]at ha;refine⟨(j:Int),by omega,by omega,Oh o a,?_,?_⟩
 ·have:=q _ l;rw[KZ c.ok.nd (by omega)]at this;rw[this];exact IS.2 ⟨a,ha,rfl⟩
 ·show CF o a.2=i;rw[e,KZ c.ok.nd (by omega)];omega
theorem nI (x:List Int):MV x x=true:=by
 unfold MV;rw[GO];intro i hi;rw[H2,tO];exact SI
theorem Xz (h:AI) (t:Int):BG h t t=true:=nI _
abbrev Ee (p:List Int) (n:Int):Int:=p.getD n.toNat 0
structure Fo (p:List Int) (rk:Int→Nat):Prop where
 rng:∀n,0≤n→n<(p.length:Int)→0≤Ee p n∧Ee p n<(p.length:Int)
 dec:∀n,0≤n→n<(p.length:Int)→Ee p n≠n→rk (Ee p n)<rk n
inductive Rt (p:List Int):Int→Int→Prop
 | base {n:Int} (h:Ee p n=n):Rt p n n
 | step {n r:Int} (h:Ee p n≠n) (h2:Rt p (Ee p n) r):Rt p n r
theorem Rt.det {p:List Int} {n r s:Int} (h:Rt p n r) (g:Rt p n s):r=s:=by
 induction h with
 | base h =>
  cases g with
  | base g=>rfl
  | step g _=>exact absurd h g
 | step h _ b =>
  cases g with
  | base g=>exact absurd g h
  | step _ a=>exact b a
theorem Rt.root {p:List Int} {n r:Int} (h:Rt p n r):Ee p r=r:=by
 induction h with
 | base h=>exact h
 | step _ _ a=>exact a
theorem Fo.ex {p:List Int} {b:Int→Nat} (h:Fo p b):∀(k:Nat) (n:Int),b n≤k→0≤n→n<(p.length:Int)→∃r,Rt p n r∧0≤r∧r<(p.length:Int)
 | 0,n,hk,h0,h1=>by
  by_cases e:Ee p n=n
  ·exact⟨n,.base e,h0,h1⟩
  ·have:=h.dec n h0 h1 e;omega
 | k+1,n,hk,h0,h1=>by
  by_cases e:Ee p n=n
  ·exact⟨n,.base e,h0,h1⟩
  ·have g:=h.dec n h0 h1 e;have a:=h.rng n h0 h1;obtain⟨r,c,d,f⟩:=h.ex k (Ee p n) (by omega) a.1 a.2;exact⟨r,.step e c,d,f⟩
theorem Fo.root {p:List Int} {a:Int→Nat} (h:Fo p a) {n:Int} (h0:0≤n) (h1:n<(p.length:Int)):∃r,Rt p n r∧0≤r∧r<(p.length:Int):=h.ex (a n) n (No _) h0 h1
theorem DB {p:List Int} {n v:Int} (h0:0≤n) (h1:n<(p.length:Int)) (x:Int) (a:0≤x):Ee (p.set n.toNat v) x=if x=n then v else Ee p x:=by
 unfold Ee;rw[GE (by omega)];by_cases e:x=n
 ·subst e;rw[At rfl,At rfl]
 ·rw[As (by omega),As e]
def GF (p:List Int) (n:Int):List Int:=p.set n.toNat (Ee p (Ee p n))
theorem Rb (p:List Int) (n:Int):(GF p n).length=p.length:=by simp[GF]
theorem A1A {p:List Int} {f:Int→Nat} (h:Fo p f) {n:Int} (h0:0≤n) (h1:n<(p.length:Int)) (hn:Ee p n≠n):Fo (GF p n) f:=by
 have c:=h.rng n h0 h1;have g:=h.rng _ c.1 c.2;have i:=h.dec n h0 h1 hn;have j:f (Ee p (Ee p n))≤f (Ee p n):=by
  by_cases e:Ee p (Ee p n)=Ee p n
  ·rw[e];exact No _
  ·exact AC6 (h.dec _ c.1 c.2 e)
 refine⟨fun x a b=>?_,fun x a b d=>?_⟩
 ·rw[Rb]at b ⊢;unfold GF;rw[DB h0 h1 x a];split
  ·exact g
  ·exact h.rng x a b
 ·rw[Rb]at b;unfold GF at d ⊢;rw[DB h0 h1 x a]at d ⊢;split
  ·rename_i e;subst e;omega
  ·rename_i e;rw[As e]at d;exact h.dec x a b d
theorem i5 {p:List Int} {o:Int→Nat} (h:Fo p o) {n:Int} (h0:0≤n) (h1:n<(p.length:Int)) (hn:Ee p n≠n):∀(k:Nat) (x r:Int),o x≤k→0≤x→x<(p.length:Int)→Rt p x r→Rt (GF p n) x r:=by
 intro k;induction k with
 | zero =>
  intro x r hk a j i;have e:Ee p x=x:=Do fun e=>by have:=h.dec x a j e;omega
  have d:x≠n:=fun b=>hn (b▸e);have:=i.det (.base e);rw[this];refine .base ?_;unfold GF;rw[DB h0 h1 x a,As d];exact e
 | succ k l =>
  intro x r hk a j i;by_cases e:Ee p x=x
  ·have d:x≠n:=fun b=>hn (b▸e);have:=i.det (.base e);rw[this];refine .base ?_;unfold GF;rw[DB h0 h1 x a,As d];exact e
  ·have u:=h.dec x a j e;have c:=h.rng x a j;have f:Rt p (Ee p x) r:=by
    cases i with
    | base g=>exact absurd g e
    | step _ g=>exact g
   by_cases d:x=n
   ·subst d;by_cases b:Ee p (Ee p x)=Ee p x
    ·have:=f.det (.base b);rw[this]at f ⊢;refine .step (r:=Ee p x) ?_ ?_
     ·unfold GF;rw[DB h0 h1 x a,At rfl,b];exact e
     ·have hp:Ee (GF p x) x=Ee p x:=by
       unfold GF;rw[DB h0 h1 x a,At rfl,b]
      rw[hp];exact l _ _ (by omega) c.1 c.2 f
    ·have s:=h.dec _ c.1 c.2 b;have m:=h.rng _ c.1 c.2;have t:Rt p (Ee p (Ee p x)) r:=by
      cases f with
      | base g=>exact absurd g b
      | step _ g=>exact g
     have hp:Ee (GF p x) x=Ee p (Ee p x):=by
      unfold GF;rw[DB h0 h1 x a,At rfl]
     refine .step ?_ ?_
     ·rw[hp];intro q;rw[q]at s;omega
     ·rw[hp];exact l _ _ (by omega) m.1 m.2 t
   ·have hp:Ee (GF p n) x=Ee p x:=by
     unfold GF;rw[DB h0 h1 x a,As d]
    refine .step ?_ ?_
    ·rw[hp];exact e
    ·rw[hp];exact l _ _ (by omega) c.1 c.2 f
def Et (p q:List Int):Prop:=p.length=q.length∧∀x r,0≤x→x<(p.length:Int)→(Rt p x r↔Rt q x r)
theorem Et.refl (p:List Int):Et p p:=⟨rfl,fun _ _ _ _=>Iff.rfl⟩
theorem Et.trans {p q s:List Int} (h:Et p q) (g:Et q s):Et p s :=
 ⟨h.1.trans g.1,fun x r a b=>(h.2 x r a b).trans (g.2 x r a (by rw[←h.1];exact b))⟩
theorem nJ {p:List Int} {d:Int→Nat} (h:Fo p d) {n:Int} (h0:0≤n) (h1:n<(p.length:Int)) (hn:Ee p n≠n):Et p (GF p n):=by
 refine⟨(Rb p n).symm,fun x r b c=>⟨fun a=>i5 h h0 h1 hn _ x r (No _) b c a,fun a=>?_⟩⟩;obtain⟨s,hs,-,-⟩:=h.root b c;have:=i5 h h0 h1 hn _ x s (No _) b c hs;have e:=this.det a;rw[←e];exact hs
def X0 (h:AI) (p ty:List Int) (ar:List (List (Int×Int))):List (Nat×Obj):=[(1,.box 130 true [.p Ga h,.sr 2 T3 0 p.length,.sr 3 T3 0 ty.length,.sr 4 DS 0 ar.length]),(2,.arr 3 T3 p),(3,.arr 3 T3 ty),(4,.arr 47 DS ar)]
theorem ZR (h:AI) (ty:List Int) (ar:List (List (Int×Int))) (d:Int→Nat) {p:List Int} (hp:Fo p d) {n:Int} (h0:0≤n) (h1:n<(p.length:Int)):BB Tryz.prog 118 [.bp 1 [] 0,.p T3 n] (X0 h p ty ar) [1]
  (fun res A=>∃(t:List Int) (r:Int),res=.p T3 r∧A=X0 h t ty ar∧Fo t d∧Et p t∧Rt p n r):=by
 refine KJ [0,1,4,13] [] [] Tryz.func118 Tryz.ntmps118 AG ?_;intro w0 K O0 ρ0 j C D;simp only[Ak,X0];repeat'(first|exact trivial|refine eS rfl ?_|refine AB ?_|refine rX j ?_ ?_|refine rC ?_ ?_<;>intro f<;>try(cases f;done))
 refine AJ (ι:={x:List Int×Int//Fo x.1 d∧Et p x.1∧0≤x.2∧x.2<(p.length:Int)∧(∀r,Rt x.1 x.2 r→Rt p n r)}) (fun x=>⟨[(0,.bp 1 [] 0),(1,.p T3 x.1.2)],[(1,.box 130 true [.p Ga h,.sr 2 T3 0 p.length,.sr 3 T3 0 ty.length,.sr 4 DS 0 ar.length]),(2,.arr 3 T3 x.1.1),(3,.arr 3 T3 ty),(4,.arr 47 DS ar)]⟩) (fun x=>d x.1.2) ⟨(p,n),hp,Et.refl p,h0,h1,fun _ g=>g⟩ (AC [(1,.nm 1),(2,.nm 2),(3,.nm 3),(4,.nm 4)] rfl rfl ?_ ?_) (fun x=>?_)
 ·first|exact eN|refine eM ?_
 ·first|exact eN|refine eM ?_
 ·obtain⟨⟨q,m⟩,b,hs,a,i,s⟩:=x;simp only at b hs a i s;have o:q.length=p.length:=hs.1.symm;have c:=b.rng m a (by omega);simp only;repeat'(first|exact trivial|refine eS rfl ?_|refine AB ?_|refine rX j ?_ ?_|refine rC ?_ ?_<;>intro f<;>try(cases f;done))
  ·exact⟨a,i⟩
  ·exact⟨⟨a,i⟩,⟨c.1,by rw[←o];exact c.2⟩,a,i⟩
  ·exact⟨a,i⟩
  ·have k:Ee q m≠m:=f;have B:=b.dec m a (by omega) k;have u:=b.rng _ c.1 c.2;have w:d (Ee q (Ee q m))≤d (Ee q m):=by
    by_cases e:Ee q (Ee q m)=Ee q m
    ·rw[e];exact No _
    ·exact AC6 (b.dec _ c.1 c.2 e)
   have v:=nJ b a (by omega) k;have l:Ee (GF q m) m=Ee q (Ee q m):=by
    unfold GF;rw[DB a (by omega) m a,At rfl]
   refine⟨⟨(GF q m,Ee q (Ee q m)),A1A b a (by omega) k,hs.trans v,u.1,by rw[←o];exact u.2,fun r z=>s r ?_⟩,by simp only;omega,AC [(1,.nm 1),(2,.nm 2),(3,.nm 3),(4,.nm 4)] rfl rfl ?_ ?_⟩
   ·refine(v.2 m r a (by omega)).2 (.step ?_ ?_)
    ·rw[l];intro e;rw[e]at w;omega
    ·rw[l];exact z
   ·first|exact eN|refine eM ?_
    rfl
   ·first|exact eN|refine eM ?_
    exact l
  ·have y:Ee q m=m:=by simpa using f
   refine Ev.ent (σ':=⟨[(4,.p T3 m)],X0 h q ty ar⟩) ?_ (AC [(1,.nm 1),(2,.nm 2),(3,.nm 3),(4,.nm 4)] rfl rfl ?_ ?_)
   ·exact fM j [.tmp 4] (.p T3 m) eT ⟨q,m,rfl,rfl,b,hs,s m (.base y)⟩
   ·unfold X0;rw[o];first|exact eN|refine eM ?_
   ·first|exact eN|refine eM ?_
def Cw (b n:Nat):List Int:=(List.range n).map fun i=>((b+i:Nat):Int)
def D7 (b:Nat) (l:List (Int×Int)):List (Int×Int):=l.map fun a=>(a.1,a.2+(b:Int))
def DI (l:List AE) (n:Nat):List Int:=(l.take n).map fun x=>x.1
def Fs (b:Nat) (l:List AE) (n:Nat):List (List (Int×Int)):=(l.take n).map fun x=>D7 b x.2
theorem nK (b n:Nat):Cw b (n+1)=Cw b n++[((b+n:Nat):Int)]:=by simp[Cw,AAe]
theorem Kb (b n:Nat):(Cw b n).length=n:=by simp[Cw]
theorem A1B (h:AI) (p ty:List Int) (ar:List (List (Int×Int))) (l:List AE) (f:Ad l) (J:p.length≤100000) (L:ty.length=p.length) (E:ar.length=p.length) :
  BB Tryz.prog 82 [.bp 1 [] 0,.p F6 l] (X0 h p ty ar) [1]
  (fun res D=>res=.raw (.tuple #[])∧D=X0 h (p++Cw p.length l.length) (ty++DI l l.length) (ar++Fs p.length l l.length)):=by
 refine KJ [0,1,4,5,6,7,9,15,16,17,18,46,47,48,49] [] [] Tryz.func82 Tryz.ntmps82 AG ?_;intro w0 K O0 ρ0 c H I;have G:=f.1;simp only[Ak,X0];repeat'(first|exact trivial|refine eS rfl ?_|refine AB ?_|refine rX c ?_ ?_|refine rC ?_ ?_<;>intro b<;>try(cases b;done))
 refine AJ (ι:={i:Nat//i≤l.length}) (fun i=>⟨[(0,.bp 1 [] 0),(4,.p (.int .i64) (p.length:Int)),(15,.p F6 l),(16,.p (.int .i64) (l.length:Int)),(17,.p (.int .i64) (i.1:Int))],[(1,.box 130 true [.p Ga h,.sr 2 T3 0 (p++Cw p.length i.1).length,.sr 3 T3 0 (ty++DI l i.1).length,.sr 4 DS 0 (ar++Fs p.length l i.1).length]),(2,.arr 3 T3 (p++Cw p.length i.1)),(3,.arr 3 T3 (ty++DI l i.1)),(4,.arr 47 DS (ar++Fs p.length l i.1))]⟩) (fun i=>l.length-i.1) ⟨0,Is _⟩ (AC [(1,.nm 1),(2,.nm 2),(3,.nm 3),(4,.nm 4)] rfl rfl ?_ ?_) (fun i=>?_)
 ·first|exact eN|refine eM ?_
  simp[Cw,DI,Fs]
 ·first|exact eN|refine eM ?_
 ·obtain⟨i,hi⟩:=i;have s:=Kb p.length i;have t:=nK p.length i;have y:(DI l i).length=i:=by unfold DI;rw[f6,OS];omega
  have n:(Fs p.length l i).length=i:=by unfold Fs;rw[f6,OS];omega
  have z:=fun h:i<l.length=>FL (fun x:AE=>x.1) l (0,[]) h;have o:=fun h:i<l.length=>FL (fun x:AE=>D7 p.length x.2) l (0,[]) h;simp only;repeat'(first|exact trivial|refine eS rfl ?_|refine AB ?_|refine rX c ?_ ?_|refine rC ?_ ?_<;>intro b<;>try(cases b;done))
  ·exact b
  ·refine⟨⟨by omega,by omega⟩,?_⟩;rw[s];simp only[AO];omega
  ·have d:i<l.length:=If.1 b;refine Bu drawsAny c 9 [([1,2,3,4,5,6,7],8)] [0] (by kernel_rfl) (Jr ?_ ?_)
   ·trivial
   ·refine Ld c [3] ?_ ?_
    ·rw[y];simp only[AO];omega
    ·refine Ow c ?_ ?_ ?_
     ·trivial
     ·trivial
     ·have A:=z d;have q:=o d;have m:p++Cw p.length i++[(p.length:Int)+(i:Int)]=p++Cw p.length (i+1):=by
       rw[t,oR];rfl
      have eT:ty++DI l i++[(l.getD i (0,[])).1]=ty++DI l (i+1):=by
       unfold DI;rw[A,oR]
      have B:p.length+(Cw p.length i).length+1=(p++Cw p.length (i+1)).length:=by rw[IN,Kb,Kb];omega
      have C:ty.length+(DI l i).length+1=(ty++DI l (i+1)).length:=by rw[←eT,IN,IN,To]
      have u:=Ka f i;have N:(l.getD i (0,[])).2.length≤100000:=(f.2 _ (AD l (0,[]) d)).1;repeat'(first|exact trivial|refine eS rfl ?_|refine AB ?_|refine rX c ?_ ?_|refine rC ?_ ?_<;>intro b<;>try(cases b;done))
      rw[m,eT,B,C];generalize M:(l.getD i (0,[])).2=xs at *;refine AJ (ι:={k:Nat//k≤xs.length}) (fun k=>⟨[(0,.bp 1 [] 0),(4,.p (.int .i64) (p.length:Int)),(7,.sr 61 BI 0 (D7 p.length (xs.take k.1)).length),(15,.p F6 l),(16,.p (.int .i64) (l.length:Int)),(17,.p (.int .i64) (i:Int)),(46,.p DS xs),(47,.p (.int .i64) (xs.length:Int)),(48,.p (.int .i64) (k.1:Int))],[(1,.box 130 true [.p Ga h,.sr 2 T3 0 (p++Cw p.length (i+1)).length,.sr 3 T3 0 (ty++DI l (i+1)).length,.sr 4 DS 0 (ar++Fs p.length l i).length]),(2,.arr 3 T3 (p++Cw p.length (i+1))),(3,.arr 3 T3 (ty++DI l (i+1))),(4,.arr 47 DS (ar++Fs p.length l i)),(61,.arr 53 BI (D7 p.length (xs.take k.1)))]⟩) (fun k=>xs.length-k.1) ⟨0,Is _⟩ (AC [(1,.nm 1),(2,.nm 2),(3,.nm 3),(4,.nm 4),(61,.nil)] rfl rfl ?_ ?_) (fun k=>?_)
      ·first|exact eN|refine eM ?_
       rfl
      ·first|exact eN|refine eM ?_
       rfl
      ·obtain⟨k,hk⟩:=k;have v:(D7 p.length (xs.take k)).length=k:=by unfold D7;rw[f6,OS];omega
       have w:=fun h:k<xs.length=>FL (fun a:Int×Int=>(a.1,a.2+(p.length:Int))) xs (0,0) h;have r:=fun h:k<xs.length=>u _ (AD xs (0,0) h);simp only;repeat'(first|exact trivial|refine eS rfl ?_|refine AB ?_|refine rX c ?_ ?_|refine rC ?_ ?_<;>intro b<;>try(cases b;done))
       ·exact b
       ·have e:k<xs.length:=If.1 b;have F:=r e;refine⟨⟨by omega,by omega⟩,?_⟩;rw[v];simp only[AO];omega
       ·omega
       ·have e:k<xs.length:=If.1 b;have g:D7 p.length (xs.take (k+1))=D7 p.length (xs.take k)++[((xs.getD k (0,0)).1,(xs.getD k (0,0)).2+(p.length:Int))]:=w e;refine⟨⟨k+1,e⟩,by simp only;omega,AC [(1,.nm 1),(2,.nm 2),(3,.nm 3),(4,.nm 4),(61,.nm 61)] rfl rfl ?_ ?_⟩
        ·simp only[g];first|exact eN|refine eM ?_
        ·simp only[g];first|exact eN|refine eM ?_
       ·rw[n];simp only[AO];omega
       ·omega
       ·have e:xs.take k=xs:=BY (gO.1 b);rw[e];have j:ar++Fs p.length l i++[D7 p.length xs]=ar++Fs p.length l (i+1):=by
         unfold Fs;rw[q,oR]
        refine⟨⟨i+1,d⟩,by simp only;omega,AC [(1,.nm 1),(2,.nm 2),(3,.nm 3),(4,.nm 4)] rfl rfl ?_ ?_⟩
        ·simp only[←j];first|exact eN|refine eM ?_
        ·first|exact eN|refine eM ?_
  ·have d:i=l.length:=by omega
   subst d;refine Ev.ent (σ':=⟨[],X0 h (p++Cw p.length l.length) (ty++DI l l.length) (ar++Fs p.length l l.length)⟩) ?_ (AC [(1,.nm 1),(2,.nm 2),(3,.nm 3),(4,.nm 4)] rfl rfl ?_ ?_)
   ·exact fM c [] (.raw (.tuple #[])) rfl ⟨rfl,rfl⟩
   ·unfold X0;first|exact eN|refine eM ?_
   ·first|exact eN|refine eM ?_
section
attribute [local go_sem] p4
def Bx:List (Int×Int)→List (Int×Int)→List (Int×Int)×List (Int×Int)
 | [],y=>(y,[])
 | a :: x,[]=>(a :: x,[])
 | a :: x,b :: y =>
  if a.1<b.1 then (a :: (Bx x (b :: y)).1,(Bx x (b :: y)).2)
  else if b.1<a.1 then (b :: (Bx (a :: x) y).1,(Bx (a :: x) y).2)
  else (a :: (Bx x y).1,(a.2,b.2) :: (Bx x y).2)
termination_by x y=>x.length+y.length
structure nL (xs ys:List (Int×Int)) (W0:List (Int×Int)) (s:(List (Int×Int)×List (Int×Int))×(List (Int×Int)×List (Int×Int)×Nat)):Prop where
 hi:s.2.2.2≤s.2.2.1.length
 both:s.2.1++(Bx s.1.1 s.1.2).1=(Bx xs ys).1
 wait:s.2.2.1.take s.2.2.2++(Bx s.1.1 s.1.2).2=W0++(Bx xs ys).2
 len:s.2.1.length+s.1.1.length+s.1.2.length≤xs.length+ys.length
 num:s.2.2.2+s.1.1.length≤W0.length+xs.length
theorem A85 {x y:List (Int×Int)} (h0:0<x.length) (h:y.length=0∨(x.getD 0 (0,0)).1<(y.getD 0 (0,0)).1):Bx x y=(x.getD 0 (0,0) :: (Bx (x.drop 1) y).1,(Bx (x.drop 1) y).2):=by
 cases x with
 | nil=>simp at h0
 | cons a x =>
  cases y with
  | nil =>
   simp only[AB0,AA6];cases x<;>simp[Bx]
  | cons b y =>
   have h:a.1<b.1:=by simpa using h
   simp only[AB0,AA6];rw[Bx,At h];rfl
theorem A86 {x y:List (Int×Int)} (h0:0<y.length) (h:x.length=0∨(y.getD 0 (0,0)).1<(x.getD 0 (0,0)).1):Bx x y=(y.getD 0 (0,0) :: (Bx x (y.drop 1)).1,(Bx x (y.drop 1)).2):=by
 cases y with
 | nil=>simp at h0
 | cons b y =>
  cases x with
  | nil=>simp[Bx]
  | cons a x =>
   have h:b.1<a.1:=by simpa using h
   simp only[AB0,AA6];rw[Bx,As (by omega),At h];rfl
theorem A5d {x y:List (Int×Int)} (h0:0<x.length) (h1:0<y.length) (h:(x.getD 0 (0,0)).1=(y.getD 0 (0,0)).1):Bx x y=(x.getD 0 (0,0) :: (Bx (x.drop 1) (y.drop 1)).1,((x.getD 0 (0,0)).2,(y.getD 0 (0,0)).2) :: (Bx (x.drop 1) (y.drop 1)).2):=by
 cases x with
 | nil=>simp at h0
 | cons a x =>
  cases y with
  | nil=>simp at h1
  | cons b y =>
   have h:a.1=b.1:=by simpa using h
   simp only[AB0,AA6];rw[Bx,As (by omega),As (by omega)];rfl
section
variable {xs ys W0 x y bo V:List (Int×Int)} {k:Nat}
theorem A5e (h:nL xs ys W0 ((x,y),bo,V,k)) (h0:0<x.length) (f:y.length=0∨(x.getD 0 (0,0)).1<(y.getD 0 (0,0)).1):nL xs ys W0 ((x.drop 1,y),bo++[x.getD 0 (0,0)],V,k):=by
 have e:=A85 h0 f;obtain⟨h1,a,b,c,d⟩:=h;simp only at h1 a b c d;rw[e]at a b;exact⟨h1,by rw[oR];exact a,b,by simp only[IN,To,AA7];omega,by simp only[AA7];omega⟩
theorem A5f (h:nL xs ys W0 ((x,y),bo,V,k)) (h0:0<y.length) (f:x.length=0∨(y.getD 0 (0,0)).1<(x.getD 0 (0,0)).1):nL xs ys W0 ((x,y.drop 1),bo++[y.getD 0 (0,0)],V,k):=by
 have e:=A86 h0 f;obtain⟨h1,a,b,d,c⟩:=h;simp only at h1 a b d c;rw[e]at a b;exact⟨h1,by rw[oR];exact a,b,by simp only[IN,To,AA7];omega,c⟩
theorem A3M (h:nL xs ys W0 ((x,y),bo,V,k)) (h0:0<x.length) (h1:0<y.length) (g:(x.getD 0 (0,0)).1=(y.getD 0 (0,0)).1):nL xs ys W0 ((x.drop 1,y.drop 1),bo++[x.getD 0 (0,0)],V.take k++[((x.getD 0 (0,0)).2,(y.getD 0 (0,0)).2)],k+1):=by
 have e:=A5d h0 h1 g;obtain⟨c,a,b,d,f⟩:=h;simp only at c a b d f;rw[e]at a b;have i:(V.take k++[((x.getD 0 (0,0)).2,(y.getD 0 (0,0)).2)]).length=k+1:=by simp only[IN,To,OS];omega
 exact⟨by simp only[i];omega,by rw[oR];exact a,by simp only;rw[BY (by omega),oR];exact b,by simp only[IN,To,AA7];omega,by simp only[AA7];omega⟩
end
def mgO (h:AI) (p ty:List Int) (ar:List (List (Int×Int))) (W:List (Int×Int)) (hi:Nat):List (Nat×Obj) :=
 [(1,.box 130 true [.p Ga h,.sr 2 T3 0 p.length,.sr 3 T3 0 ty.length,.sr 4 DS 0 ar.length]),(2,.arr 3 T3 p),(3,.arr 3 T3 ty),(4,.arr 47 DS ar),(5,.box 127 false [.bp 1 [] 0]),(6,.box 167 false [.sr 7 Q8 0 hi]),(7,.arr 166 Q8 W)]
theorem A1D (h:AI) (hh:h.1.length≤100000) (G:∀x∈h.1,x.2.1.length≤100000) (p ty:List Int) (ar:List (List (Int×Int))) (W:List (Int×Int)) (hi:Nat) (H:hi≤W.length) (N:hi≤100000000000) {a b:Int} (a0:0≤a) (L:a<(p.length:Int)) (n:0≤b) (b1:b<(p.length:Int)) (T:ty.length=p.length) (M:ar.length=p.length)
  (ta:0≤ty.getD a.toNat 0∧ty.getD a.toNat 0<(h.1.length:Int)) (tb:0≤ty.getD b.toNat 0∧ty.getD b.toNat 0<(h.1.length:Int)) (O:(ar.getD a.toNat []).length≤10000000) (P:(ar.getD b.toNat []).length≤10000000) :
  BB Tryz.prog 117 [.p T3 a,.p T3 b,.bp 5 [] 0,.bp 6 [] 0] (mgO h p ty ar W hi) [1,5,6]
  (fun res z=>((B4 h (ty.getD a.toNat 0) (ty.getD b.toNat 0)).2=false∧res=.p .bool false∧z=mgO h p ty ar W hi) ∨
   ((B4 h (ty.getD a.toNat 0) (ty.getD b.toNat 0)).2=true∧res=.p .bool true∧∃m o,o≤m.length∧m.take o=W.take hi++(Bx (ar.getD a.toNat []) (ar.getD b.toNat [])).2 ∧
    z=mgO h (p.set b.toNat a) (ty.set a.toNat (B4 h (ty.getD a.toNat 0) (ty.getD b.toNat 0)).1) (ar.set a.toNat (Bx (ar.getD a.toNat []) (ar.getD b.toNat [])).1) m o)):=by
 refine KJ [0,1,2,3,6,7,8,9,10,11,35,71,94,122] [] [] Tryz.func117 Tryz.ntmps117 (AF p5 AG) ?_;intro w0 K O0 ρ0 d Q R;have r:a<(ty.length:Int):=by omega
 have B:b<(ty.length:Int):=by omega
 have q:a<(ar.length:Int):=by omega
 have A:b<(ar.length:Int):=by omega
 simp only[mgO,Ak];repeat'(first|exact trivial|refine eS rfl ?_|refine AB ?_|refine rX d ?_ ?_|refine rC ?_ ?_<;>intro c<;>try(cases c;done))
 ·refine⟨⟨a0,r⟩,⟨n,B⟩,ta,tb,hh,G⟩
 ·refine Ev.ent (σ':=⟨[(6,.p .bool false)],mgO h p ty ar W hi⟩) ?_ (AC [(1,.nm 1),(2,.nm 2),(3,.nm 3),(4,.nm 4),(5,.nm 5),(6,.nm 6),(7,.nm 7)] rfl rfl ?_ ?_)
  ·exact fM d [.tmp 6] (.p .bool false) eT (.inl ⟨c,rfl,rfl⟩)
  ·unfold mgO;first|exact eN|refine eM ?_
  ·first|exact eN|refine eM ?_
 ·exact⟨n,b1⟩
 ·exact⟨a0,r⟩
 ·exact⟨⟨a0,q⟩,n,A⟩
 ·generalize S:(B4 h (ty.getD a.toNat 0) (ty.getD b.toNat 0)).1=t at *;generalize U:ar.getD a.toNat []=xs at *;generalize X:ar.getD b.toNat []=ys at *;refine AJ (ι:={s:(List (Int×Int)×List (Int×Int))×(List (Int×Int)×List (Int×Int)×Nat)//nL xs ys (W.take hi) s}) (fun s=>⟨[(0,.p T3 a),(1,.p T3 b),(2,.bp 5 [] 0),(3,.bp 6 [] 0),(9,.p DS s.1.1.1),(10,.p DS s.1.1.2),(11,.sr 11 BI 0 s.1.2.1.length)],[(1,.box 130 true [.p Ga h,.sr 2 T3 0 p.length,.sr 3 T3 0 ty.length,.sr 4 DS 0 ar.length]),(2,.arr 3 T3 (p.set b.toNat a)),(3,.arr 3 T3 (ty.set a.toNat t)),(4,.arr 47 DS ar),(5,.box 127 false [.bp 1 [] 0]),(6,.box 167 false [.sr 7 Q8 0 s.1.2.2.2]),(7,.arr 166 Q8 s.1.2.2.1),(11,.arr 53 BI s.1.2.1)]⟩) (fun s=>s.1.1.1.length+s.1.1.2.length) ⟨((xs,ys),([],W,hi)),H,rfl,rfl,by simp,by simp only[OS];omega⟩ (AC [(1,.nm 1),(2,.nm 2),(3,.nm 3),(4,.nm 4),(5,.nm 5),(6,.nm 6),(7,.nm 7),(11,.nil)] rfl rfl ?_ ?_) (fun s=>?_)
  ·first|exact eN|refine eM ?_
  ·first|exact eN|refine eM ?_
  ·obtain⟨⟨⟨x,y⟩,bo,V,k⟩,i⟩:=s;have I:=i.len;have J:=i.num;have v:=i.hi;simp only[OS]at I J v ⊢;repeat'(first|exact trivial|refine eS rfl ?_|refine AB ?_|refine rX d ?_ ?_|refine rC ?_ ?_<;>intro c<;>try(cases c;done))
   ·refine⟨fun h=>?_,fun h=>?_⟩
    ·rw[AT,DO]at h;exact h.2
    ·rw[AT,OR,AAs]at h;have D:=h.1;have l:y.length≠0:=fun e=>D (by rw[e];rfl);exact If.2 (AB3 l)
   ·have f:0<x.length:=by
     rcases c with c|c
     ·omega
     ·exact If.1 c.1
    have E:y.length=0∨(x.getD 0 (0,0)).1<(y.getD 0 (0,0)).1:=by
     rcases c with c|c
     ·exact .inl (ACd c)
     ·exact .inr c.2
    refine Bu drawsAny d 9 [([0,1,2,3,4],5),([],8)] [6,7] (by kernel_rfl) (Jr ?_ ?_)
    ·exact⟨If.2 f,gO.2 f⟩
    ·refine Ld d [11] ?_ ?_
     ·simp only[AO];omega
     ·refine Jr ?_ ?_
      ·exact gO.2 f
      ·refine Ld d [] ?_ ?_
       ·trivial
       ·refine Ow d ?_ ?_ ?_
        ·exact gO.2 f
        ·trivial
        ·repeat'(first|exact trivial|refine eS rfl ?_|refine AB ?_|refine rX d ?_ ?_|refine rC ?_ ?_<;>intro c<;>try(cases c;done))
         refine⟨⟨((x.drop 1,y),bo++[x.getD 0 (0,0)],V,k),A5e i f E⟩,by simp only[AA7];omega,AC [(1,.nm 1),(2,.nm 2),(3,.nm 3),(4,.nm 4),(5,.nm 5),(6,.nm 6),(7,.nm 7),(11,.nm 11)] rfl rfl ?_ ?_⟩
         ·first|exact eN|refine eM ?_
         ·first|exact eN|refine eM ?_
   ·have l:y.length≠0:=fun e=>c.1 (by rw[e];rfl);have C:0<y.length:=AB3 l;refine⟨fun h=>If.2 C,fun h=>?_⟩
    ·rw[OR,AAs]at h;have l:x.length≠0:=fun e=>h (by rw[e];rfl);exact If.2 (AB3 l)
   ·have g:0<y.length:=AB3 fun e=>(by assumption:¬_∧_).1 (by rw[e];rfl);have j:x.length=0∨(y.getD 0 (0,0)).1<(x.getD 0 (0,0)).1:=by
     rcases c with c|c
     ·exact .inl (ACd c)
     ·exact .inr c
    refine Bu drawsAny d 9 [([0,1,2,3,4],5),([],8)] [6,7] (by kernel_rfl) (Jr ?_ ?_)
    ·exact⟨If.2 g,gO.2 g⟩
    ·refine Ld d [11] ?_ ?_
     ·simp only[AO];omega
     ·refine Jr ?_ ?_
      ·exact gO.2 g
      ·refine Ld d [] ?_ ?_
       ·trivial
       ·refine Ow d ?_ ?_ ?_
        ·exact gO.2 g
        ·trivial
        ·repeat'(first|exact trivial|refine eS rfl ?_|refine AB ?_|refine rX d ?_ ?_|refine rC ?_ ?_<;>intro c<;>try(cases c;done))
         refine⟨⟨((x,y.drop 1),bo++[y.getD 0 (0,0)],V,k),A5f i g j⟩,by simp only[AA7];omega,AC [(1,.nm 1),(2,.nm 2),(3,.nm 3),(4,.nm 4),(5,.nm 5),(6,.nm 6),(7,.nm 7),(11,.nm 11)] rfl rfl ?_ ?_⟩
         ·first|exact eN|refine eM ?_
         ·first|exact eN|refine eM ?_
   ·rename_i j;have f:0<x.length:=AB3 fun e=>c.1 (by rw[e];rfl);have g:0<y.length:=AB3 fun e=>j.1 (by rw[e];rfl);refine⟨If.2 f,If.2 g,?_⟩;simp only[AO];omega
   ·rename_i j;have f:0<x.length:=AB3 fun e=>c.1 (by rw[e];rfl);have g:0<y.length:=AB3 fun e=>j.1 (by rw[e];rfl);have F:(x.getD 0 (0,0)).1=(y.getD 0 (0,0)).1:=Int.le_antisymm c.2 (j.2 (If.2 f));refine Bu drawsAny d 12 [([0,1,2,3,4],5),([],10),([6,7],11)] [8,9] (by kernel_rfl) (Jr ?_ ?_)
    ·exact⟨If.2 f,gO.2 f,gO.2 g⟩
    ·refine Ld d [11] ?_ ?_
     ·simp only[AO];omega
     ·refine Jr ?_ ?_
      ·exact⟨gO.2 f,gO.2 g⟩
      ·refine Ld d [] ?_ ?_
       ·trivial
       ·refine Jr ?_ ?_
        ·exact⟨gO.2 f,gO.2 g⟩
        ·refine Ld d [] ?_ ?_
         ·trivial
         ·refine Ow d ?_ ?_ ?_
          ·exact gO.2 g
          ·trivial
          ·repeat'(first|exact trivial|refine eS rfl ?_|refine AB ?_|refine rX d ?_ ?_|refine rC ?_ ?_<;>intro c<;>try(cases c;done))
           refine⟨⟨((x.drop 1,y.drop 1),bo++[x.getD 0 (0,0)],V.take k++[((x.getD 0 (0,0)).2,(y.getD 0 (0,0)).2)],k+1),A3M i f g F⟩,by simp only[AA7];omega,AC [(1,.nm 1),(2,.nm 2),(3,.nm 3),(4,.nm 4),(5,.nm 5),(6,.nm 6),(7,.nm 7),(11,.nm 11)] rfl rfl ?_ ?_⟩
           ·first|exact eN|refine eM ?_
           ·first|exact eN|refine eM ?_
   ·exact⟨a0,q⟩
   ·have f:x=[]:=So (by omega);have g:y=[]:=So (by omega);subst f g;have u:=i.both;have w:=i.wait;simp only[Bx,AAa]at u w;refine Ev.ent (σ':=⟨[(6,.p .bool true)],mgO h (p.set b.toNat a) (ty.set a.toNat t) (ar.set a.toNat bo) V k⟩) ?_ (AC [(1,.nm 1),(2,.nm 2),(3,.nm 3),(4,.nm 4),(5,.nm 5),(6,.nm 6),(7,.nm 7)] rfl rfl ?_ ?_)
    ·exact fM d [.tmp 6] (.p .bool true) eT (.inr ⟨by assumption,rfl,V,k,v,w,by rw[u];rfl⟩)
    ·unfold mgO;simp only[AA5];first|exact eN|refine eM ?_
    ·first|exact eN|refine eM ?_
end
theorem Ol {h:AI} (hk:Jw h) {a b c:Int} (a0:0≤a) (d:a<(h.1.length:Int)) (e:0≤b) (b1:b<(h.1.length:Int)) (c0:0≤c) (c1:c<(h.1.length:Int)) (h1:BG h a b=true) (f:BG h b c=true):BG h a c=true :=
 (B5 hk a0 d c0 c1).2 fun i hi=>(B5 hk a0 d e b1).1 h1 i ((B5 hk e b1 c0 c1).1 f i hi)
theorem QX:∀ {x y:List (Int×Int)} {a:Int×Int},a∈x→a∈(Bx x y).1
 | [],_,_,h=>by cases h
 | b :: x,[],a,h=>by simpa[Bx] using h
 | b :: x,c :: y,a,h=>by
  rw[Bx];split
  ·rcases By.1 h with rfl|h
   ·simp
   ·exact ON _ (QX h)
  ·split
   ·exact ON _ (QX h)
   ·rcases By.1 h with rfl|h
    ·simp
    ·exact ON _ (QX h)
termination_by x y=>x.length+y.length
theorem NJ:∀ {x y:List (Int×Int)} {a:Int×Int},a∈y→a∈(Bx x y).1∨∃t,(a.1,t)∈(Bx x y).1∧(t,a.2)∈(Bx x y).2
 | [],y,a,h=>by
  left;simpa[Bx] using h
 | b :: x,[],a,h=>by cases h
 | b :: x,c :: y,a,h=>by
  rw[Bx];split
  ·rcases NJ (x:=x) h with g|⟨t,d,e⟩
   ·exact .inl (ON _ g)
   ·exact .inr ⟨t,ON _ d,e⟩
  ·split
   ·rcases By.1 h with rfl|h
    ·left;simp
    ·rcases NJ (x:=b :: x) h with g|⟨t,d,e⟩
     ·exact .inl (ON _ g)
     ·exact .inr ⟨t,ON _ d,e⟩
   ·rcases By.1 h with rfl|h
    ·right;exact⟨b.2,by rw[show a.1=b.1 by omega];simp,by simp⟩
    ·rcases NJ (x:=x) h with g|⟨t,d,e⟩
     ·exact .inl (ON _ g)
     ·exact .inr ⟨t,ON _ d,ON _ e⟩
termination_by x y=>x.length+y.length
theorem JV:∀ {x y:List (Int×Int)} {a:Int×Int},a∈(Bx x y).1→a∈x∨a∈y
 | [],y,a,h=>by
  right;simpa[Bx] using h
 | b :: x,[],a,h=>by
  left;simpa[Bx] using h
 | b :: x,c :: y,a,h=>by
  rw[Bx]at h;split at h
  ·rcases By.1 h with rfl|h
   ·left;simp
   ·rcases JV h with g|g
    ·exact .inl (ON _ g)
    ·exact .inr g
  ·split at h
   ·rcases By.1 h with rfl|h
    ·right;simp
    ·rcases JV h with g|g
     ·exact .inl g
     ·exact .inr (ON _ g)
   ·rcases By.1 h with rfl|h
    ·left;simp
    ·rcases JV h with g|g
     ·exact .inl (ON _ g)
     ·exact .inr (ON _ g)
termination_by x y=>x.length+y.length
theorem QY:∀ {x y:List (Int×Int)} {q:Int×Int},q∈(Bx x y).2→∃e,(e,q.1)∈x∧(e,q.2)∈y
 | [],y,q,h=>by simp[Bx]at h
 | b :: x,[],q,h=>by simp[Bx]at h
 | b :: x,c :: y,q,h=>by
  rw[Bx]at h;split at h
  ·obtain⟨e,h1,a⟩:=QY h;exact⟨e,ON _ h1,a⟩
  ·split at h
   ·obtain⟨e,h1,a⟩:=QY h;exact⟨e,h1,ON _ a⟩
   ·rcases By.1 h with rfl|h
    ·exact⟨b.1,by simp,by rw[show b.1=c.1 by omega];simp⟩
    ·obtain⟨e,h1,a⟩:=QY h;exact⟨e,ON _ h1,ON _ a⟩
termination_by x y=>x.length+y.length
theorem QZ:∀ {x y:List (Int×Int)},(Bx x y).2.length≤x.length
 | [],y=>by simp[Bx]
 | b :: x,[]=>by simp[Bx]
 | b :: x,c :: y=>by
  rw[Bx];split
  ·have:=QZ (x:=x) (y:=c :: y);simp only[Of];omega
  ·split
   ·exact QZ (x:=b :: x) (y:=y)
   ·have:=QZ (x:=x) (y:=y);simp only[Of];omega
termination_by x y=>x.length+y.length
abbrev WC (l:List (Int×Int)):Prop:=l.Pairwise (fun a b=>a.1<b.1)
theorem TN:∀ {x y:List (Int×Int)},WC x→WC y→WC (Bx x y).1
 | [],y,_,h=>by simpa[Bx] using h
 | b :: x,[],h,_=>by simpa[Bx] using h
 | b :: x,c :: y,i,j=>by
  have d:=AAk.1 i;have e:=AAk.1 j;rw[Bx];split
  ·rename_i f;refine AAk.2 ⟨fun a ha=>?_,TN d.2 j⟩;rcases JV ha with g|g
   ·exact d.1 a g
   ·rcases By.1 g with rfl|g
    ·exact f
    ·have:=e.1 a g;omega
  ·split
   ·rename_i f;refine AAk.2 ⟨fun a ha=>?_,TN i e.2⟩;rcases JV ha with g|g
    ·rcases By.1 g with rfl|g
     ·exact f
     ·have:=d.1 a g;omega
    ·exact e.1 a g
   ·refine AAk.2 ⟨fun a ha=>?_,TN d.2 e.2⟩;rcases JV ha with g|g
    ·exact d.1 a g
    ·have:=e.1 a g;omega
termination_by x y=>x.length+y.length
theorem A3N {p:List Int} {m:Int→Nat} (hp:Fo p m) {a b:Int} (a0:0≤a) (c:0≤b) (b1:b<(p.length:Int)) (ha:Ee p a=a) (j:Ee p b=b) (f:a≠b) {x r:Int} (d:0≤x) (o:x<(p.length:Int)) (h:Rt p x r):Rt (p.set b.toNat a) x (if r=b then a else r):=by
 have k:Rt (p.set b.toNat a) a a:=.base (by rw[DB c b1 a a0,As f];exact ha);induction h with
 | @base n hn =>
  split
  ·rename_i e;rw[e];exact .step (by rw[DB c b1 b c,At rfl];exact f) (by rw[DB c b1 b c,At rfl];exact k)
  ·rename_i e;exact .base (by rw[DB c b1 n d,As e];exact hn)
 | @step n r hn _ l =>
  have g:n≠b:=fun e=>hn (e▸j);have i:=hp.rng n d o;exact .step (by rw[DB c b1 n d,As g];exact hn) (by rw[DB c b1 n d,As g];exact l i.1 i.2)
theorem A3O {p:List Int} {c:Int→Nat} (hp:Fo p c) {a b:Int} (a0:0≤a) (h:a<(p.length:Int)) (d:0≤b) (b1:b<(p.length:Int)) (ha:Ee p a=a) (k:Ee p b=b) (j:a≠b):∃m,Fo (p.set b.toNat a) m:=by
 classical
 refine⟨fun x=>if Rt p x b then c x+c a+1 else c x,fun n n0 n1=>?_,fun n n0 n1 hn=>?_⟩
 ·rw[AA5]at n1 ⊢;rw[DB d b1 n n0];split
  ·exact⟨a0,h⟩
  ·exact hp.rng n n0 n1
 ·rw[AA5]at n1;rw[DB d b1 n n0]at hn ⊢;by_cases e:n=b
  ·subst e;rw[At rfl];have h1:¬Rt p a n:=fun g=>j (g.det (.base ha)).symm;rw[As h1,At (.base k)];omega
  ·rw[As e]at hn ⊢;have l:=hp.dec n n0 n1 hn;have f:Rt p n b↔Rt p (Ee p n) b:=by
    constructor
    ·intro g;cases g with
     | base g=>exact absurd g hn
     | step _ g=>exact g
    ·exact fun g=>.step hn g
   by_cases g:Rt p n b
   ·rw[At g,At (f.1 g)];omega
   ·rw[As g,As (fun i=>g (f.2 i))];exact l
inductive EG (n:Nat) (p:List Int) (W:List (Int×Int)):Int→Int→Prop
 | cls {x y r:Int} (x0:0≤x) (x1:x<(n:Int)) (y0:0≤y) (y1:y<(n:Int)) (h:Rt p x r) (g:Rt p y r):EG n p W x y
 | wt {x y:Int} (h:(x,y)∈W):EG n p W x y
 | symm {x y:Int} (h:EG n p W x y):EG n p W y x
 | trans {x y z:Int} (h:EG n p W x y) (g:EG n p W y z):EG n p W x z
theorem EG.mono {n:Nat} {p q:List Int} {W V:List (Int×Int)} (h1:∀x y r,0≤x→x<(n:Int)→0≤y→y<(n:Int)→Rt p x r→Rt p y r→EG n q V x y) (a:∀x y,(x,y)∈W→EG n q V x y) {x y:Int} (h:EG n p W x y):EG n q V x y:=by
 induction h with
 | cls e f i j h g=>exact h1 _ _ _ e f i j h g
 | wt h=>exact a _ _ h
 | symm _ b=>exact .symm b
 | trans _ _ c d=>exact .trans c d
structure nM (h:AI) (N:List AE) (P:List (Int×Int)) (X:List AE) (v:Int→Int):Prop where
 rng:∀x,0≤x→x<(N.length:Int)→0≤v x∧v x<(X.length:Int)
 ty:∀x,0≤x→x<(N.length:Int)→BG h (N.getD x.toNat (0,[])).1 (X.getD (v x).toNat (0,[])).1=true
 arc:∀x,0≤x→x<(N.length:Int)→∀a∈Am N x,EJ (Am X (v x)) a.1=v a.2
 eq:∀q∈P,v q.1=v q.2
structure JX (h:AI) (X:List AE) (v:Int→Int) (n:Nat) (p ty:List Int) (ar:List (List (Int×Int))) (W:List (Int×Int)):Prop where
 cls:∀x r,0≤x→x<(n:Int)→Rt p x r→v x=v r
 wt:∀w∈W,v w.1=v w.2
 ty:∀r,0≤r→r<(n:Int)→Ee p r=r→BG h (ty.getD r.toNat 0) (X.getD (v r).toNat (0,[])).1=true
 arc:∀r,0≤r→r<(n:Int)→Ee p r=r→∀a∈ar.getD r.toNat [],EJ (Am X (v r)) a.1=v a.2
def Cy (N:List AE):List Int:=N.flatMap fun x=>x.2.map (·.1)
structure JI (h:AI) (N:List AE) (P:List (Int×Int)) (p ty:List Int) (ar:List (List (Int×Int))) (W:List (Int×Int)):Prop where
 nty:Fx h N
 fo:∃rk,Fo p rk
 lp:p.length=N.length
 lt:ty.length=N.length
 la:ar.length=N.length
 wr:∀w∈W,(0≤w.1∧w.1<(N.length:Int))∧(0≤w.2∧w.2<(N.length:Int))
 tyr:∀x,0≤x→x<(N.length:Int)→0≤ty.getD x.toNat 0∧ty.getD x.toNat 0<(h.1.length:Int)
 arr:∀k,∀a∈ar.getD k [],(0≤a.2∧a.2<(N.length:Int))∧a.1∈Cy N
 srt:∀k,WC (ar.getD k [])
 sp:∀q∈P,EG N.length p W q.1 q.2
 st:∀x r,0≤x→x<(N.length:Int)→Rt p x r→BG h (N.getD x.toNat (0,[])).1 (ty.getD r.toNat 0)=true
 sa:∀x r,0≤x→x<(N.length:Int)→Rt p x r→∀a∈Am N x,∃t,(a.1,t)∈ar.getD r.toNat []∧EG N.length p W a.2 t
 co:∀X v,Fx h X→nM h N P X v→JX h X v N.length p ty ar W
theorem GG {p:List Int} {a:Int→Nat} (hp:Fo p a) {x r:Int} (c:0≤x) (d:x<(p.length:Int)) (h:Rt p x r):0≤r∧r<(p.length:Int):=by
 obtain⟨s,hs,b,s1⟩:=hp.root c d;rw[h.det hs];exact⟨b,s1⟩
theorem Rc {p q:List Int} (h:Et p q) {r:Int} (a:0≤r) (b:r<(p.length:Int)):Ee p r=r↔Ee q r=r :=
 ⟨fun e=>((h.2 r r a b).1 (.base e)).root,fun e=>((h.2 r r a b).2 (.base e)).root⟩
theorem A3P {h:AI} {N:List AE} {P:List (Int×Int)} {p q ty:List Int} {ar:List (List (Int×Int))} {W:List (Int×Int)} (hs:Et p q) (k:∃A,Fo q A) (w:JI h N P p ty ar W):JI h N P q ty ar W:=by
 obtain⟨nty,fo,lp,lt,la,wr,tyr,arr,srt,sp,st,sa,co⟩:=w;have e:∀x r,0≤x→x<(N.length:Int)→(Rt p x r↔Rt q x r):=fun x r b c=>hs.2 x r b (by rw[lp];exact c);have l:∀ {x y},EG N.length p W x y→EG N.length q W x y:=fun {x y} g=>g.mono (fun x y r b c m n h1 j=>.cls b c m n ((e x r b c).1 h1) ((e y r m n).1 j)) (fun _ _ h=>.wt h);refine⟨nty,k,by rw[←hs.1];exact lp,lt,la,wr,tyr,arr,srt,fun q k=>l (sp q k),fun x r b c d=>st x r b c ((e x r b c).2 d),fun x r b c d a ha=>?_,fun X v u z=>?_⟩
 ·obtain⟨t,h1,j⟩:=sa x r b c ((e x r b c).2 d) a ha;exact⟨t,h1,l j⟩
 ·obtain⟨c1,c2,o,s⟩:=co X v u z;exact⟨fun x r b c d=>c1 x r b c ((e x r b c).2 d),c2,fun r f i d=>o r f i ((Rc hs f (by rw[lp];exact i)).2 d),fun r f i d=>s r f i ((Rc hs f (by rw[lp];exact i)).2 d)⟩
section
variable {h:AI} {N:List AE} {P:List (Int×Int)} {p ty:List Int} {ar:List (List (Int×Int))} {W:List (Int×Int)} {s t a b:Int}
theorem qR (n:JI h N P p ty ar (W++[(s,t)])) (hs:Rt p s a) (A:Rt p t a):JI h N P p ty ar W:=by
 obtain⟨nty,fo,lp,lt,la,wr,tyr,arr,srt,sp,st,sa,co⟩:=n;have b:=wr (s,t) (by simp);have j:∀ {x y},EG N.length p (W++[(s,t)]) x y→EG N.length p W x y:=fun {x y} g=>g.mono (fun x y r f i C D h1 d=>.cls f i C D h1 d) (fun x y c=>by
  rcases OF.1 c with c|c
  ·exact .wt c
  ·have e:(x,y)=(s,t):=by simpa using c
   cases e;exact .cls b.1.1 b.1.2 b.2.1 b.2.2 hs A)
 refine⟨nty,fo,lp,lt,la,fun w b=>wr w (AAn _ b),tyr,arr,srt,fun q o=>j (sp q o),st,fun x r f i z a ha=>?_,fun X v m B=>?_⟩
 ·obtain⟨u,h1,d⟩:=sa x r f i z a ha;exact⟨u,h1,j d⟩
 ·obtain⟨c1,c2,k,l⟩:=co X v m B;exact⟨c1,fun w b=>c2 w (AAn _ b),k,l⟩
theorem ZS (hk:Jw h) (c:JI h N P p ty ar (W++[(s,t)])) (hs:Rt p s a) (g:Rt p t b) {X:List AE} {v:Int→Int} (o:Fx h X) (q:nM h N P X v) :
  v a=v b∧(B4 h (ty.getD a.toNat 0) (ty.getD b.toNat 0)).2=true∧BG h (B4 h (ty.getD a.toNat 0) (ty.getD b.toNat 0)).1 (X.getD (v a).toNat (0,[])).1=true:=by
 obtain⟨D,fo⟩:=c.fo;obtain⟨⟨i,s1⟩,j,l⟩:=c.wr (s,t) (by simp);simp only at i s1 j l;have d:=GG fo i (by rw[c.lp];exact s1) hs;have f:=GG fo j (by rw[c.lp];exact l) g;rw[c.lp]at d f;obtain⟨c1,c2,m,B⟩:=c.co X v o q;have u:=c1 s a i s1 hs;have w:=c1 t b j l g;have x:v s=v t:=c2 (s,t) (by simp);have e:v a=v b:=by rw[←u,←w,x]
 have y:=m a d.1 d.2 hs.root;have n:=m b f.1 f.2 g.root;rw[←e]at n;have C:=q.rng a d.1 d.2;have r:=o _ (AD X (0,[]) (k:=(v a).toNat) (by omega));have ta:=c.tyr a d.1 d.2;have tb:=c.tyr b f.1 f.2;obtain⟨z,A⟩:=(MW hk ta.1 ta.2 tb.1 tb.2).2 _ r.1 r.2 y n;exact⟨e,z,A⟩
theorem X2 {α:Type} {l:List α} {d v:α} {a r:Int} (a0:0≤a) (b:a<(l.length:Int)) (c:0≤r):(l.set a.toNat v).getD r.toNat d=if r=a then v else l.getD r.toNat d:=by
 by_cases e:r=a
 ·subst e;rw[At rfl,Jz _ _ _ (by omega)]
 ·rw[As e,getD_set_ne _ _ _ (by omega)]
theorem i6 (hk:Jw h) (al:JI h N P p ty ar (W++[(s,t)])) (hs:Rt p s a) (V:Rt p t b) (T:a≠b) (aq:(B4 h (ty.getD a.toNat 0) (ty.getD b.toNat 0)).2=true) :
  JI h N P (p.set b.toNat a) (ty.set a.toNat (B4 h (ty.getD a.toNat 0) (ty.getD b.toNat 0)).1) (ar.set a.toNat (Bx (ar.getD a.toNat []) (ar.getD b.toNat [])).1) (W++(Bx (ar.getD a.toNat []) (ar.getD b.toNat [])).2):=by
 have au:=fun X v S Z=>ZS (X:=X) (v:=v) hk al hs V S Z;obtain⟨nty,⟨bb,fo⟩,lp,lt,la,wr,tyr,arr,srt,sp,st,sa,co⟩:=al;obtain⟨⟨aa,s1⟩,ab,ad⟩:=wr (s,t) (by simp);simp only at aa s1 ab ad;have A:=GG fo aa (by rw[lp];exact s1) hs;have C:=GG fo ab (by rw[lp];exact ad) V;have ha:=hs.root;have U:=V.root;have O:=fun {x r:Int} (c:0≤x) (i:x<(N.length:Int)) (F:Rt p x r)=>A3N fo A.1 C.1 C.2 ha U T c (by rw[lp];exact i) F;have ah:∀ {x r:Int},0≤x→x<(N.length:Int)→Rt (p.set b.toNat a) x r→∃z,Rt p x z∧r=if z=b then a else z:=fun {x r} c i F=>by
  obtain⟨z,h1,-,-⟩:=fo.root c (by rw[lp];exact i);exact⟨z,h1,F.det (O c i h1)⟩
 have ta:=tyr a A.1 (by rw[←lp];exact A.2);have tb:=tyr b C.1 (by rw[←lp];exact C.2);obtain⟨aj,ak,ay,az⟩:=(MW hk ta.1 ta.2 tb.1 tb.2).1 aq;generalize ba:(B4 h (ty.getD a.toNat 0) (ty.getD b.toNat 0)).1=m at *;generalize G:ar.getD a.toNat []=xs at *;generalize H:ar.getD b.toNat []=ys at *;have aw:EG N.length (p.set b.toNat a) (W++(Bx xs ys).2) s t:=by
  have h1:=O aa s1 hs;have E:=O ab ad V;rw[As T]at h1;rw[At rfl]at E;exact .cls aa s1 ab ad h1 E
 have L:∀ {x y},EG N.length p (W++[(s,t)]) x y→EG N.length (p.set b.toNat a) (W++(Bx xs ys).2) x y:=fun {x y} g=>g.mono (fun x y r c i an ao h1 E=>.cls c i an ao (O c i h1) (O an ao E)) (fun x y Q=>by
  rcases OF.1 Q with Q|Q
  ·exact .wt (AAn _ Q)
  ·have e:(x,y)=(s,t):=by simpa using Q
   cases e;exact aw)
 have Y:=fun {r:Int} (B:0≤r)=>X2 (l:=ty) (d:=0) (v:=m) A.1 (by rw[lt,←lp];exact A.2) B;have M:=fun {r:Int} (B:0≤r)=>X2 (l:=ar) (d:=[]) (v:=(Bx xs ys).1) A.1 (by rw[la,←lp];exact A.2) B;refine⟨nty,A3O fo A.1 A.2 C.1 C.2 ha U T,by rw[AA5];exact lp,by rw[AA5];exact lt,by rw[AA5];exact la,fun w D=>?_,fun x c i=>?_,fun k y j=>?_,fun k=>?_,fun q av=>L (sp q av),fun x r c i o=>?_,fun x r c i o y j=>?_,fun X v S Z=>?_⟩
 ·rcases OF.1 D with D|D
  ·exact wr w (AAn _ D)
  ·obtain⟨e,K,n⟩:=QY D;rw[←G]at K;rw[←H]at n;exact⟨(arr _ _ K).1,(arr _ _ n).1⟩
 ·rw[Y c];split
  ·exact⟨aj,ak⟩
  ·exact tyr x c i
 ·have h1:=M (r:=(k:Int)) (by omega);rw[bY]at h1;rw[h1]at j;split at j
  ·rcases JV j with j|j
   ·rw[←G]at j;exact arr _ _ j
   ·rw[←H]at j;exact arr _ _ j
  ·exact arr _ _ j
 ·have h1:=M (r:=(k:Int)) (by omega);rw[bY]at h1;rw[h1];split
  ·exact TN (by rw[←G];exact srt _) (by rw[←H];exact srt _)
  ·exact srt k
 ·obtain⟨z,h1,rfl⟩:=ah c i o;have F:=nty _ (AD N (0,[]) (k:=x.toNat) (by omega));have ai:=GG fo c (by rw[lp];exact i) h1;by_cases e:z=b
  ·rw[At e,Y A.1,At rfl];exact Ol hk F.1 F.2 tb.1 tb.2 aj ak (by rw[←e];exact st x z c i h1) az
  ·rw[As e,Y ai.1];split
   ·rename_i n;exact Ol hk F.1 F.2 ta.1 ta.2 aj ak (by rw[←n];exact st x z c i h1) ay
   ·exact st x z c i h1
 ·obtain⟨z,h1,rfl⟩:=ah c i o;have ai:=GG fo c (by rw[lp];exact i) h1;obtain⟨u,R,ae⟩:=sa x z c i h1 y j;by_cases e:z=b
  ·rw[At e,M A.1,At rfl];rw[e,H]at R;rcases NJ (x:=xs) R with g|⟨w,af,ag⟩
   ·exact⟨u,g,L ae⟩
   ·exact⟨w,af,.trans (L ae) (.symm (.wt (ABG _ ag)))⟩
  ·rw[As e,M ai.1];split
   ·rename_i n;rw[n,G]at R;exact⟨u,QX R,L ae⟩
   ·exact⟨u,R,L ae⟩
 ·obtain⟨c1,c2,ap,J⟩:=co X v S Z;obtain⟨e,-,ax⟩:=au X v S Z;have am:∀r,0≤r→r<(N.length:Int)→Ee (p.set b.toNat a) r=r→r≠b∧Ee p r=r:=fun r B I o=>by
   rw[DB C.1 C.2 r B]at o;split at o
   ·rename_i e;rw[e]at o;exact absurd o T
   ·rename_i e;exact⟨e,o⟩
  refine⟨fun x r c i o=>?_,fun w D=>?_,fun r B I o=>?_,fun r B I o y j=>?_⟩
  ·obtain⟨z,h1,rfl⟩:=ah c i o;have:=c1 x z c i h1;split
   ·rename_i n;rw[this,n,e]
   ·exact this
  ·rcases OF.1 D with D|D
   ·exact c2 w (AAn _ D)
   ·obtain⟨f,K,n⟩:=QY D;rw[←G]at K;rw[←H]at n;have af:=J a A.1 (by rw[←lp];exact A.2) ha _ K;have ag:=J b C.1 (by rw[←lp];exact C.2) U _ n;rw[←af,←ag,e]
  ·obtain⟨-,E⟩:=am r B I o;rw[Y B];split
   ·rename_i n;rw[n];exact ax
   ·exact ap r B I E
  ·obtain⟨-,E⟩:=am r B I o;rw[M B]at j;split at j
   ·rename_i n;rw[n];rcases JV j with j|j
    ·exact J a A.1 (by rw[←lp];exact A.2) ha y (by rw[G];exact j)
    ·rw[e];exact J b C.1 (by rw[←lp];exact C.2) U y (by rw[H];exact j)
   ·exact J r B I E y j
end
theorem i7 {l:List Nat} {f g:Nat→Bool} {b:Nat} (hn:l.Nodup) (c:b∈l) (h1:f b=true) (d:g b=false) (h:∀x∈l,x≠b→g x=f x):(l.filter g).length+1=(l.filter f).length:=by
 induction l with
 | nil=>cases c
 | cons x l m =>
  obtain⟨k,j⟩:=AAd.1 hn;by_cases e:x=b
  ·subst e;have:l.filter g=l.filter f:=List.filter_congr fun y a=>h y (by simp[a]) (fun e=>k (e▸a));rw[AAr,AAr,As (by rw[d];simp),At h1,this];rfl
  ·have i:b∈l:=by
    rcases By.1 c with g|g
    ·exact absurd g.symm e
    ·exact g
   have n:=m j i (fun y a=>h y (by simp[a]));rw[AAr,AAr,h x (by simp) e];split
   ·simp only[Of];omega
   ·exact n
def nR (p:List Int):Nat:=((List.range p.length).filter fun k=>p.getD k 0==(k:Int)).length
theorem A87 (p:List Int):nR p≤p.length:=by
 have:=AAC (fun k=>p.getD k 0==(k:Int)) (List.range p.length);rw[ABZ]at this;exact this
theorem qS {p q:List Int} (h:Et p q):nR q=nR p:=by
 unfold nR;rw[←h.1];refine AAP List.length (List.filter_congr fun k hk=>?_);have a:=nO.1 hk;have:=Rc h (r:=(k:Int)) (by omega) (by omega);unfold Ee at this;rw[bY]at this;rw[ABi,tO,tO];exact this.symm
theorem qT {p:List Int} {a b:Int} (d:0≤b) (b1:b<(p.length:Int)) (c:Ee p b=b) (e:a≠b):nR (p.set b.toNat a)+1=nR p:=by
 unfold nR;rw[AA5];refine i7 (b:=b.toNat) List.nodup_range (nO.2 (by omega)) ?_ ?_ fun x _ f=>?_
 ·rw[tO];unfold Ee at c;omega
 ·rw[Jz _ _ _ (by omega),AAs];omega
 ·rw[getD_set_ne _ _ _ (by omega)]
theorem Rd {α:Type} [DecidableEq α]:∀ {l l':List α},l.Nodup→(∀x∈l,x∈l')→l.length≤l'.length
 | [],_,_,_=>by simp
 | x :: l,l',hn,h=>by
  obtain⟨d,c⟩:=AAd.1 hn;have a:=h x (by simp);have:=Rd (l:=l) (l':=l'.erase x) c (fun y b=>(ACb (fun e:y=x=>d (by rw[←e];exact b))).2 (h y (by simp[b])));rw[ABw a]at this;have:=ABk a;simp only[Of];omega
theorem ZT {l:List (Int×Int)} (h:WC l) {S:List Int} (hs:∀a∈l,a.1∈S):l.length≤S.length:=by
 have hn:(l.map (·.1)).Nodup:=by
  unfold List.Nodup;rw[AAQ];exact h.imp fun g=>by omega
 have:=Rd hn (l':=S) (fun x b=>by
  obtain⟨a,ha,rfl⟩:=IS.1 b;exact hs a ha)
 rwa [f6]at this
theorem i8 {h:AI} {N:List AE} {P:List (Int×Int)} {p ty:List Int} {ar:List (List (Int×Int))} (t:JI h N P p ty ar []) {a b:Int} (ha:0≤a∧a<(N.length:Int)) (s:0≤b∧b<(N.length:Int)):JI h N (P++[(a,b)]) p ty ar [(a,b)]:=by
 obtain⟨nty,fo,lp,lt,la,wr,tyr,arr,srt,sp,st,sa,co⟩:=t;have l:∀ {x y},EG N.length p [] x y→EG N.length p [(a,b)] x y:=fun {x y} g=>g.mono (fun x y r j k C D h1 f=>.cls j k C D h1 f) (fun x y A=>by cases A);refine⟨nty,fo,lp,lt,la,fun w i=>?_,tyr,arr,srt,fun q c=>?_,st,fun x r j k z y B=>?_,fun X v o d=>?_⟩
 ·have e:w=(a,b):=by simpa using i
  subst e;exact⟨ha,s⟩
 ·rcases OF.1 c with c|c
  ·exact l (sp q c)
  ·have e:q=(a,b):=by simpa using c
   subst e;exact .wt (by simp)
 ·obtain⟨u,h1,f⟩:=sa x r j k z y B;exact⟨u,h1,l f⟩
 ·obtain⟨c1,c2,m,n⟩:=co X v o ⟨d.rng,d.ty,d.arc,fun q c=>d.eq q (AAn _ c)⟩;refine⟨c1,fun w i=>?_,m,n⟩;have e:w=(a,b):=by simpa using i
  subst e;exact d.eq _ (by simp)
def qU (h:AI) (p ty:List Int) (ar:List (List (Int×Int))):List (Nat×Obj):=[(101,.box 130 true [.p Ga h,.sr 102 T3 0 p.length,.sr 103 T3 0 ty.length,.sr 104 DS 0 ar.length]),(102,.arr 3 T3 p),(103,.arr 3 T3 ty),(104,.arr 47 DS ar)]
theorem A3Q (h:AI) (hk:Jw h) {N:List AE} {P:List (Int×Int)} {p ty:List Int} {ar:List (List (Int×Int))} (Y:JI h N P p ty ar []) {a b:Int} (ha:0≤a∧a<(N.length:Int)) (ah:0≤b∧b<(N.length:Int)) (af:N.length≤10000) (hF:(Cy N).length≤1000000) :
  BB Tryz.prog 83 [.bp 101 [] 0,.p T3 a,.p T3 b] (qU h p ty ar) [101]
  (fun res M=>(res=.p .bool true∧∃B H u,M=qU h B H u∧JI h N (P++[(a,b)]) B H u [])∨(res=.p .bool false∧(∃B H u,M=qU h B H u)∧∀X v,Fx h X→¬nM h N (P++[(a,b)]) X v)):=by
 refine KJ [0,1,2,3,6,7,8,9,10,11,19,48] [] [] Tryz.func83 Tryz.ntmps83 AG ?_;intro w0 K O0 ρ0 e ba bb;have hh:h.1.length≤100000:=aT hk.2 (by omega);have ai:∀x∈h.1,x.2.1.length≤100000:=fun x av=>aT (hk.1.wid x.2.1 (IS.2 ⟨x,av,rfl⟩)) (by omega);have aj:=i8 Y ha ah;generalize az:P++[(a,b)]=Q at *;have ay:N.length*((Cy N).length+1)≤10000*1000001:=Nat.mul_le_mul af (by omega);simp only[qU,Ak];repeat'(first|exact trivial|refine eS rfl ?_|refine AB ?_|refine rX e ?_ ?_|refine rC ?_ ?_<;>intro g<;>try(cases g;done))
 refine AJ (ι:={s:(List Int×List Int×List (List (Int×Int)))×(List (Int×Int)×Nat)//JI h N Q s.1.1 s.1.2.1 s.1.2.2 (s.2.1.take s.2.2)∧s.2.2≤s.2.1.length∧nR s.1.1*((Cy N).length+1)+s.2.2≤N.length*((Cy N).length+1)+1}) (fun s=>⟨[(3,.bp 3 [] 0),(7,.bp 7 [] 0),(8,.clo 117 [3,7])],[(101,.box 130 true [.p Ga h,.sr 102 T3 0 s.1.1.1.length,.sr 103 T3 0 s.1.1.2.1.length,.sr 104 DS 0 s.1.1.2.2.length]),(102,.arr 3 T3 s.1.1.1),(103,.arr 3 T3 s.1.1.2.1),(104,.arr 47 DS s.1.1.2.2),(3,.box 127 false [.bp 101 [] 0]),(7,.box 167 false [.sr 15 Q8 0 s.1.2.2]),(15,.arr 166 Q8 s.1.2.1)]⟩) (fun s=>nR s.1.1.1*((Cy N).length+1)+s.1.2.2) ⟨((p,ty,ar),([(a,b)],1)),aj,by simp,by have:=AA0 ((Cy N).length+1) (A87 p);rw[Y.lp]at this;simp only;omega⟩ (AC [(101,.nm 101),(102,.nm 102),(103,.nm 103),(104,.nm 104),(3,.nm 3),(7,.nm 7),(15,.nm 15)] rfl rfl ?_ ?_) (fun s=>?_)
 ·first|exact eN|refine eM ?_
 ·first|exact eN|refine eM ?_
 ·obtain⟨⟨⟨q,d,aq⟩,V,k⟩,l,ak,ae⟩:=s;simp only at l ak ae ⊢;repeat'(first|exact trivial|refine eS rfl ?_|refine AB ?_|refine rX e ?_ ?_|refine rC ?_ ?_<;>intro g<;>try(cases g;done))
  ·exact eV
  ·exact eV
  ·have Z:0<k:=If.1 g;have al:((k:Int)-1).toNat=k-1:=by omega
   have U:=Ax V (0,0) (k:=k-1) (by omega);rw[show k-1+1=k by omega]at U;rw[al];generalize bd:V.getD (k-1) (0,0)=st at *;obtain⟨s,t⟩:=st;rw[U]at l;obtain⟨⟨D,s1⟩,F,G⟩:=l.wr (s,t) (by simp);simp only at D s1 F G;obtain⟨O,fo⟩:=l.fo;have C:=l.lp;refine Bu drawsAny e 8 [([0,1,2],3),([4,5,6],7)] [] (by kernel_rfl) (Jr ?_ ?_)
   ·trivial
   ·refine mxC e (ZR h d aq O fo D (by rw[C];exact s1)) [(1,.nm 101),(2,.nm 102),(3,.nm 103),(4,.nm 104)] [102,103,104] ?_ ?_ ?_
    ·first|exact eN|refine eM ?_
    ·simp only[X0];first|exact eN|refine eM ?_
    ·rintro _ _ ⟨ab,c,rfl,rfl,ad,E,aw⟩;refine⟨[(101,.nm 1),(102,.nm 2),(103,.nm 3),(104,.nm 4)],.p T3 c,[(101,.box 130 true [.p Ga h,.sr 102 T3 0 ab.length,.sr 103 T3 0 d.length,.sr 104 DS 0 aq.length]),(102,.arr 3 T3 ab),(103,.arr 3 T3 d),(104,.arr 47 DS aq)],rfl,rfl,?_,?_,rfl,rfl,rfl,?_⟩
     ·simp only[X0];first|exact eN|refine eM ?_
     ·first|exact eN|refine eM ?_
     ·refine Jr ?_ ?_
      ·trivial
      ·refine mxC e (ZR h d aq O ad F (by rw[←E.1,C];exact G)) [(1,.nm 101),(2,.nm 102),(3,.nm 103),(4,.nm 104)] [102,103,104] ?_ ?_ ?_
       ·first|exact eN|refine eM ?_
       ·simp only[X0];first|exact eN|refine eM ?_
       ·rintro _ _ ⟨i,f,rfl,rfl,J,S,ax⟩;refine⟨[(101,.nm 1),(102,.nm 2),(103,.nm 3),(104,.nm 4)],.p T3 f,[(101,.box 130 true [.p Ga h,.sr 102 T3 0 i.length,.sr 103 T3 0 d.length,.sr 104 DS 0 aq.length]),(102,.arr 3 T3 i),(103,.arr 3 T3 d),(104,.arr 47 DS aq)],rfl,rfl,?_,?_,rfl,rfl,rfl,?_⟩
        ·simp only[X0];first|exact eN|refine eM ?_
        ·first|exact eN|refine eM ?_
        ·refine Ow e ?_ ?_ ?_
         ·trivial
         ·trivial
         ·repeat'(first|exact trivial|refine eS rfl ?_|refine AB ?_|refine rX e ?_ ?_|refine rC ?_ ?_<;>intro g<;>try(cases g;done))
          have j:=A3P (E.trans S) ⟨O,J⟩ l;have R:=E.trans S;have A:=(R.2 s c D (by rw[C];exact s1)).1 aw;have o:=(S.2 t f F (by rw[←E.1,C];exact G)).1 ax;have n:=j.lp;have w:=GG J D (by rw[n];exact s1) A;have m:=GG J F (by rw[n];exact G) o;refine evP e 4 ?_ ?_
          ·trivial
          ·by_cases z:c=f
           ·subst z;rw[show (c != c)=false from bne_self_eq_false c];refine rL e ?_ ?_
            ·trivial
            ·repeat'(first|exact trivial|refine eS rfl ?_|refine AB ?_|refine rX e ?_ ?_|refine rC ?_ ?_<;>intro g<;>try(cases g;done))
             have y:=qR j A o;have hn:=qS R;refine⟨⟨((i,d,aq),V,k-1),y,by simp only;omega,by simp only;rw[hn];omega⟩,by simp only;rw[hn];omega,AC [(101,.nm 101),(102,.nm 102),(103,.nm 103),(104,.nm 104),(3,.nm 3),(7,.nm 7),(15,.nm 15)] rfl rfl ?_ ?_⟩
             ·first|exact eN|refine eM ?_
             ·first|exact eN|refine eM ?_
           ·rw[show (c != f)=true by simpa using z];refine rN 3 e ?_ ?_
            ·trivial
            ·have L:=fun r:Int=>ZT (j.srt r.toNat) (fun a ha=>(j.arr r.toNat a ha).2);refine clG e (A1D h hh ai i d aq V (k-1) (by omega) (by omega) w.1 w.2 m.1 m.2 (by rw[j.lt,n]) (by rw[j.la,n]) (j.tyr c w.1 (by rw[←n];exact w.2)) (j.tyr f m.1 (by rw[←n];exact m.2)) (aT (L c) (by omega)) (aT (L f) (by omega))) [(1,.nm 101),(2,.nm 102),(3,.nm 103),(4,.nm 104),(5,.nm 3),(6,.nm 7),(7,.nm 15)] [102,103,104,15] ?_ ?_ ?_
             ·first|exact eN|refine eM ?_
             ·simp only[mgO];first|exact eN|refine eM ?_
             ·rintro res M (⟨I,rfl,rfl⟩|⟨I,rfl,T,W,ap,aa,rfl⟩)
              ·refine⟨[(101,.nm 1),(102,.nm 2),(103,.nm 3),(104,.nm 4),(3,.nm 5),(7,.nm 6),(15,.nm 7)],.p .bool false,[(101,.box 130 true [.p Ga h,.sr 102 T3 0 i.length,.sr 103 T3 0 d.length,.sr 104 DS 0 aq.length]),(102,.arr 3 T3 i),(103,.arr 3 T3 d),(104,.arr 47 DS aq),(3,.box 127 false [.bp 101 [] 0]),(7,.box 167 false [.sr 15 Q8 0 (k-1)]),(15,.arr 166 Q8 V)],rfl,rfl,?_,?_,rfl,rfl,?_⟩
               ·simp only[mgO];first|exact eN|refine eM ?_
               ·first|exact eN|refine eM ?_
               ·refine rL e ?_ ?_
                ·trivial
                ·repeat'(first|exact trivial|refine eS rfl ?_|refine AB ?_|refine rX e ?_ ?_|refine rC ?_ ?_<;>intro g<;>try(cases g;done))
                 refine Ev.ent (σ':=⟨[(6,.p .bool false)],qU h i d aq⟩) ?_ (AC [(101,.nm 101),(102,.nm 102),(103,.nm 103),(104,.nm 104)] rfl rfl ?_ ?_)
                 ·exact fM e [.tmp 6] (.p .bool false) eT (.inr ⟨rfl,⟨i,d,aq,rfl⟩,fun X v ag ao=>by
                   have:=(ZS hk j A o ag ao).2.1;rw[I]at this;cases this⟩)
                 ·unfold qU;first|exact eN|refine eM ?_
                 ·first|exact eN|refine eM ?_
              ·refine⟨[(101,.nm 1),(102,.nm 2),(103,.nm 3),(104,.nm 4),(3,.nm 5),(7,.nm 6),(15,.nm 7)],.p .bool true,[(101,.box 130 true [.p Ga h,.sr 102 T3 0 (i.set f.toNat c).length,.sr 103 T3 0 (d.set c.toNat (B4 h (d.getD c.toNat 0) (d.getD f.toNat 0)).1).length,.sr 104 DS 0 (aq.set c.toNat (Bx (aq.getD c.toNat []) (aq.getD f.toNat [])).1).length]),(102,.arr 3 T3 (i.set f.toNat c)),(103,.arr 3 T3 (d.set c.toNat (B4 h (d.getD c.toNat 0) (d.getD f.toNat 0)).1)),(104,.arr 47 DS (aq.set c.toNat (Bx (aq.getD c.toNat []) (aq.getD f.toNat [])).1)),(3,.box 127 false [.bp 101 [] 0]),(7,.box 167 false [.sr 15 Q8 0 W]),(15,.arr 166 Q8 T)],rfl,rfl,?_,?_,rfl,rfl,?_⟩
               ·simp only[mgO];first|exact eN|refine eM ?_
               ·first|exact eN|refine eM ?_
               ·refine rL e ?_ ?_
                ·trivial
                ·repeat'(first|exact trivial|refine eS rfl ?_|refine AB ?_|refine rX e ?_ ?_|refine rC ?_ ?_<;>intro g<;>try(cases g;done))
                 have y:=i6 hk j A o z I;rw[←aa]at y;have hn:=qS R;have an:=qT (a:=c) m.1 m.2 o.root z;have bc:(Bx (aq.getD c.toNat []) (aq.getD f.toNat [])).2.length≤(Cy N).length:=aT QZ (L c);have au:=AAP List.length aa;rw[IN,OS,OS]at au;have am:nR i*((Cy N).length+1)=nR (i.set f.toNat c)*((Cy N).length+1)+((Cy N).length+1):=by rw[←an,ABA,Nat.one_mul]
                 rw[hn]at am;refine⟨⟨((i.set f.toNat c,d.set c.toNat (B4 h (d.getD c.toNat 0) (d.getD f.toNat 0)).1,aq.set c.toNat (Bx (aq.getD c.toNat []) (aq.getD f.toNat [])).1),T,W),y,ap,by simp only;omega⟩,by simp only;omega,AC [(101,.nm 101),(102,.nm 102),(103,.nm 103),(104,.nm 104),(3,.nm 3),(7,.nm 7),(15,.nm 15)] rfl rfl ?_ ?_⟩
                 ·first|exact eN|refine eM ?_
                 ·first|exact eN|refine eM ?_
  ·have Z:k=0:=by
    have:=gO.1 g;omega
   subst Z;rw[AAO]at l;refine Ev.ent (σ':=⟨[(6,.p .bool true)],qU h q d aq⟩) ?_ (AC [(101,.nm 101),(102,.nm 102),(103,.nm 103),(104,.nm 104)] rfl rfl ?_ ?_)
   ·exact fM e [.tmp 6] (.p .bool true) eT (.inl ⟨rfl,q,d,aq,rfl,l⟩)
   ·unfold qU;first|exact eN|refine eM ?_
   ·first|exact eN|refine eM ?_
open Classical in
noncomputable def Eu (p:List Int) (x:Int):Int:=if h:∃r,Rt p x r then h.choose else x
theorem nN {p:List Int} {x r:Int} (h:Rt p x r):Eu p x=r:=by
 unfold Eu;rw[dif_pos ⟨r,h⟩];exact(Exists.choose_spec (p:=fun r=>Rt p x r) ⟨r,h⟩).det h
theorem Om {p:List Int} {a:Int→Nat} (hp:Fo p a) {x:Int} (b:0≤x) (c:x<(p.length:Int)):Rt p x (Eu p x):=by
 obtain⟨r,h,-,-⟩:=hp.root b c;rw[nN h];exact h
noncomputable def quo (p ty:List Int) (ar:List (List (Int×Int))):List AE:=(List.range p.length).map fun k=>(ty.getD k 0,(ar.getD k []).map fun a=>(a.1,Eu p a.2))
theorem E6 (p ty:List Int) (ar:List (List (Int×Int))):(quo p ty ar).length=p.length:=by simp[quo]
theorem NK {p ty:List Int} {ar:List (List (Int×Int))} {n:Int} (n0:0≤n) (n1:n<(p.length:Int)):(quo p ty ar).getD n.toNat (0,[])=(ty.getD n.toNat 0,(ar.getD n.toNat []).map fun a=>(a.1,Eu p a.2)):=by
 unfold quo;rw[AS,AAl,AAZ (by omega)];rfl
def LQ (len:Nat) (o:List Int):List Int:=(List.range len).map fun(k:Nat)=>if (k:Int)∈o then ((o.idxOf (k:Int):Nat):Int) else -1
theorem VY (len:Nat) (o:List Int):(LQ len o).length=len:=by simp[LQ]
theorem VZ {len:Nat} {o:List Int} {n:Int} (n0:0≤n) (n1:n<(len:Int)):(LQ len o).getD n.toNat 0=if n∈o then (o.idxOf n:Int) else -1:=by
 unfold LQ;rw[AS,AAl,AAZ (by omega)];simp only[AAX,ABN];rw[show ((n.toNat:Nat):Int)=n by omega]
theorem Va {o:List Int} {n:Int} (h:n∉o):(o++[n]).idxOf n=o.length:=by
 rw[AC0,As h];simp
theorem X3 {o t:List Int} {n:Int} (h:n∈o):(o++t).idxOf n=o.idxOf n:=by
 rw[AC0,At h]
theorem A1E {len:Nat} {o:List Int} {n:Int} (n0:0≤n) (n1:n<(len:Int)) (h:n∉o):(LQ len o).set n.toNat (o.length:Int)=LQ len (o++[n]):=by
 apply AA8
 ·simp[LQ]
 ·intro i h1 c;rw[ACE];simp only[LQ,ABd,ABb];by_cases e:n.toNat=i
  ·rw[At e];have b:(i:Int)=n:=by omega
   rw[b,At (by simp),Va h]
  ·rw[As e];have b:(i:Int)≠n:=by omega
   by_cases a:(i:Int)∈o
   ·rw[At a,At (by simp[a]),X3 a]
   ·rw[As a,As (by simp[a,b])]
theorem Vb {o t:List Int} {x:Int} (h:x∈o):CF (o++t) x=CF o x:=by
 unfold CF;rw[At (AAn _ h),At h,X3 h]
theorem Qa {f:List AE} (hf:Ad f) (k:Nat):∀(l:List (Int×Int)) (t:List Int),(∀a∈l,0≤a.2∧a.2<(f.length:Int))→LO f t→f.length-t.length≤k →
  (∀a∈l,a.2∈l.foldl (Ac f k) t)∧∀x∈l.foldl (Ac f k) t,x∈t∨∀a∈(f.getD x.toNat (0,[])).2,a.2∈l.foldl (Ac f k) t:=by
 intro l;induction l with
 | nil=>exact fun t _ _ _=>⟨fun a ha=>(by cases ha),fun x c=>.inl c⟩
 | cons a l u =>
  intro t j m o;simp only[Rp];have p:LO f (Ac f k t a)∧t <+: Ac f k t a∧a.2∈Ac f k t a∧∀x∈Ac f k t a,x∈t∨∀b∈(f.getD x.toNat (0,[])).2,b.2∈Ac f k t a:=by
   unfold Ac;split
   ·rename_i hn;exact⟨m,AAw _,hn,fun x c=>.inl c⟩
   ·rename_i hn;have q:=j a (by simp);obtain⟨e,g⟩:=D5 hf k t a.2 m q.1 q.2 hn;obtain⟨h,i⟩:=Iq hf k t a.2 m q.1 q.2 hn o;exact⟨e,g,h,i⟩
  obtain⟨e,g,h,i⟩:=p;have v:=g.length_le;obtain⟨r,s⟩:=u (Ac f k t a) (fun b d=>j b (by simp[d])) e (by omega);obtain⟨_,n⟩:=Er (D5 hf k) l (Ac f k t a) (fun b d=>j b (by simp[d])) e;refine⟨fun b d=>?_,fun x c=>?_⟩
  ·rcases By.1 d with rfl|d
   ·exact n.subset h
   ·exact r b d
  ·rcases s x c with c|c
   ·rcases i x c with c|c
    ·exact .inl c
    ·exact .inr fun b d=>n.subset (c b d)
   ·exact .inr c
def HS (f:List AE) (o a:List Int):List AE:=(a.drop o.length).map (Es f a)
theorem vI {f:List AE} {o t:List Int} {x:Int} (h:∀a∈(f.getD x.toNat (0,[])).2,a.2∈o):Es f (o++t) x=Es f o x:=by
 unfold Es;refine AAP _ (AA2 fun a ha=>?_);unfold Oh;rw[Vb (h a ha)]
theorem A1F {f:List AE} {c b d:List Int} (g:c <+: b) (i:b <+: d) (j:∀x∈b,x∈c∨∀a∈(f.getD x.toNat (0,[])).2,a.2∈b) (hn:b.Nodup):HS f c b++HS f b d=HS f c d:=by
 obtain⟨t,rfl⟩:=g;obtain⟨s,rfl⟩:=i;unfold HS;rw[ABC,ABC,oR,ABC,←oR,AAA]
 congr 1
 refine AA2 fun x e=>?_;refine(vI fun a ha=>?_).symm;rcases j x (ABG _ e) with h|h
 ·exact absurd rfl ((AAI.1 hn).2.2 x h x e)
 ·exact h a ha
theorem X4 (f:List AE) (o:List Int):HS f o o=[]:=by
 unfold HS;rw[ABB];rfl
theorem X5 {α β:Type} (f:α→β) {l:List α} (d:α) (e:β) {i:Nat} (h:i<l.length):(l.map f).getD i e=f (l.getD i d):=by
 simp[AS,An h]
structure A88 (Q:List AE) (o1:List Int) (L:List (Int×Int)) (j:Nat) (oo:Nat→List Int):Prop where
 zero:oo 0=o1
 succ:∀i,i<L.length→oo (i+1)=Ac Q j (oo i) (0,(L.getD i (0,0)).2)
 dok:∀i,LO Q (oo i)
 pre:∀i,o1 <+: oo i
 nxt:∀i,oo i <+: oo (i+1)
 tgt:∀i,∀a∈L.take i,a.2∈oo i
 cls:∀i,∀x∈oo i,x∈o1∨∀a∈(Q.getD x.toNat (0,[])).2,a.2∈oo i
 last:oo L.length=L.foldl (Ac Q j) o1
theorem A3R {Q:List AE} (c:Ad Q) {b:List Int} {L:List (Int×Int)} {j:Nat} (g:∀a∈L,0≤a.2∧a.2<(Q.length:Int)) (h1:LO Q b) (k:Q.length-b.length≤j):A88 Q b L j (fun i=>(L.take i).foldl (Ac Q j) b):=by
 have f:=fun i=>fun a (ha:a∈L.take i)=>g a (AA9 ha);have hs:∀i,i<L.length→(L.take (i+1)).foldl (Ac Q j) b=Ac Q j ((L.take i).foldl (Ac Q j) b) (0,(L.getD i (0,0)).2):=fun i hi=>NB (Ac Q j) L (0,0) b hi;have d:=fun i=>Er (D5 c j) (L.take i) b (f i) h1;refine⟨rfl,hs,fun i=>(d i).1,fun i=>(d i).2,fun i=>?_,fun i=>(Qa c j _ b (f i) h1 k).1,fun i=>(Qa c j _ b (f i) h1 k).2,by simp only[f9]⟩;by_cases h:i<L.length
 ·show _ <+: (L.take (i+1)).foldl (Ac Q j) b;rw[hs i h];have l:=g _ (AD L (0,0) h);exact(Er (D5 c j) [(0,(L.getD i (0,0)).2)] _ (fun a ha=>by
   have e:a=(0,(L.getD i (0,0)).2):=by simpa using ha
   subst e;exact l) (d i).1).2
 ·show (L.take i).foldl (Ac Q j) b <+: (L.take (i+1)).foldl (Ac Q j) b;rw[BY (by omega),BY (by omega)];exact AAw _
theorem A3S {α:Type} (l:List α) (x y:α) (t:List α) {k:Nat} (hk:k=l.length):(l++[x]++t).set k y=l++y :: t:=by
 subst hk;rw[oR,ABo _ _ (by omega),AB1];rfl
theorem vJ {Q:List AE} {o a:List Int} {n:Int} (h:o++[n] <+: a):HS Q o a=Es Q a n :: HS Q (o++[n]) a:=by
 obtain⟨t,rfl⟩:=h;unfold HS;rw[ABC,oR,ABC];rfl
def uO (h:AI) (p ty:List Int) (ar:List (List (Int×Int))) (M:List Int) (out:List AE):List (Nat×Obj):=[(101,.box 130 true [.p Ga h,.sr 102 T3 0 p.length,.sr 103 T3 0 ty.length,.sr 104 DS 0 ar.length]),(102,.arr 3 T3 p),(103,.arr 3 T3 ty),(104,.arr 47 DS ar),(105,.box 127 false [.bp 101 [] 0]),(106,.box 60 false [.sr 107 T3 0 M.length]),(107,.arr 3 T3 M),(108,.box 25 true [.sr 109 Ox 0 out.length]),(109,.arr 49 Ox out),(110,.box 168 false [.clo 119 [105,106,108,110]])]
def A5g (h:AI) (p0 ty:List Int) (ar:List (List (Int×Int))) (k:Nat):Prop:=∀(p o:List Int) (out:List AE) (n:Int),(∃b,Fo p b)→Et p0 p→LO (quo p0 ty ar) o→out.length=o.length→0≤n→n<(p0.length:Int)→p0.length-o.length≤k →
 BB Tryz.prog 119 [.p T3 n,.bp 105 [] 0,.bp 106 [] 0,.bp 108 [] 0,.bp 110 [] 0] (uO h p ty ar (LQ p0.length o) out) [101,105,106,108,110]
  (fun res c=>∃a,(∃b,Fo a b)∧Et p0 a∧res=.p T3 (CF (Ac (quo p0 ty ar) k o (0,Eu p0 n)) (Eu p0 n))∧c=uO h a ty ar (LQ p0.length (Ac (quo p0 ty ar) k o (0,Eu p0 n))) (out++HS (quo p0 ty ar) o (Ac (quo p0 ty ar) k o (0,Eu p0 n))))
theorem i9 (h:AI) {p0 ty:List Int} {ar:List (List (Int×Int))} (ai:∃m,Fo p0 m) (v:Ad (quo p0 ty ar)) (aw:ty.length=p0.length) (ae:ar.length=p0.length) (ag:∀k,∀a∈ar.getD k [],0≤a.2∧a.2<(p0.length:Int)) (k:Nat) (ay:∀j,k=j+1→A5g h p0 ty ar j):A5g h p0 ty ar k:=by
 intro p o out n aj F O y n0 n1 hk;obtain⟨m,fo⟩:=aj;obtain⟨bj,L⟩:=ai;have U:=Om L n0 n1;have d:=GG L n0 n1 U;have hp:=v.1;rw[E6]at hp;have C:=VY p0.length o;generalize bd:Eu p0 n=b at *;refine KJ [0,1,2,3,4,6,7,8,10,18,49,50,51,52] [] [] Tryz.func119 Tryz.ntmps119 AG ?_;intro w0 K O0 ρ0 f be bf;simp only[uO,Ak];repeat'(first|exact trivial|refine eS rfl ?_|refine AB ?_|refine rX f ?_ ?_|refine rC ?_ ?_<;>intro g<;>try(cases g;done))
 refine cP 2 f ?_ ?_
 ·trivial
 ·refine rM f (ZR h ty ar m fo n0 (by rw[←F.1];exact n1)) [(1,.nm 101),(2,.nm 102),(3,.nm 103),(4,.nm 104)] [102,103,104] ?_ ?_ ?_
  ·first|exact eN|refine eM ?_
  ·simp only[X0];first|exact eN|refine eM ?_
  ·rintro _ _ ⟨u,bi,rfl,rfl,M,bc,ba⟩;have aa:=F.trans bc;have e:=((F.2 n b n0 n1).1 U).det ba;subst e;refine⟨[(101,.nm 1),(102,.nm 2),(103,.nm 3),(104,.nm 4)],.p T3 b,[(101,.box 130 true [.p Ga h,.sr 102 T3 0 u.length,.sr 103 T3 0 ty.length,.sr 104 DS 0 ar.length]),(102,.arr 3 T3 u),(103,.arr 3 T3 ty),(104,.arr 47 DS ar)],rfl,rfl,?_,?_,rfl,rfl,?_⟩
   ·simp only[X0];first|exact eN|refine eM ?_
   ·first|exact eN|refine eM ?_
   ·refine rL f ?_ ?_
    ·trivial
    ·repeat'(first|exact trivial|refine eS rfl ?_|refine AB ?_|refine rX f ?_ ?_|refine rC ?_ ?_<;>intro g<;>try(cases g;done))
     ·exact⟨d.1,by rw[C];exact d.2⟩
     ·exact⟨d.1,by rw[C];exact d.2⟩
     ·rw[VZ d.1 d.2]at g;have B:b∈o:=Do fun e=>by rw[As e]at g;omega
      have W:Ac (quo p0 ty ar) k o (0,b)=o:=At B;have A:CF o b=(LQ p0.length o).getD b.toNat 0:=by
       rw[VZ d.1 d.2,At B];unfold CF;rw[At B]
      refine Ev.ent (σ':=⟨[(6,.p T3 (CF o b))],uO h u ty ar (LQ p0.length o) out⟩) ?_ (AC [(101,.nm 101),(102,.nm 102),(103,.nm 103),(104,.nm 104),(105,.nm 105),(106,.nm 106),(107,.nm 107),(108,.nm 108),(109,.nm 109),(110,.nm 110)] rfl rfl ?_ ?_)
      ·refine fM f [.tmp 6] (.p T3 (CF o b)) eT ⟨u,⟨m,M⟩,aa,by rw[W],?_⟩;rw[W,X4,AAa];rfl
      ·unfold uO;first|exact eN|refine eM ?_
      ·first|exact eN|refine eM ?_
       exact A.symm
     ·exact⟨d.1,by rw[C];exact d.2⟩
     ·refine⟨⟨d.1,by rw[aw];exact d.2⟩,?_⟩;have:=O.len;rw[E6]at this;simp only[AO];omega
     ·exact⟨d.1,by rw[ae];exact d.2⟩
     ·rw[VZ d.1 d.2]at g;have w:b∉o:=fun e=>by rw[At e]at g;omega
      have N:=O.snoc d.1 (by rw[E6];exact d.2) w;have an:=N.len;rw[E6,IN,To]at an;obtain⟨j,rfl⟩:∃j,k=j+1:=⟨k-1,by omega⟩;have am:=ay j rfl;have x:=NK (p:=p0) (ty:=ty) (ar:=ar) d.1 d.2;have ax:=fun a (ha:a∈ar.getD b.toNat [])=>ag b.toNat a ha;have bg:(ar.getD b.toNat []).length≤100000:=by
       have:=(v.2 _ (AD (quo p0 ty ar) (0,[]) (k:=b.toNat) (by rw[E6];omega))).1;rw[x,f6]at this;exact this
      have ad:∀a∈((ar.getD b.toNat []).map fun a=>(a.1,Eu p0 a.2)),0≤a.2∧a.2<((quo p0 ty ar).length:Int):=fun a ha=>by
       refine Bt v (n:=b) ?_;rw[x];exact ha
      obtain⟨c,l⟩:∃c,A88 (quo p0 ty ar) (o++[b]) ((ar.getD b.toNat []).map fun a=>(a.1,Eu p0 a.2)) j c:=⟨_,A3R v (j:=j) ad N (by rw[E6,IN,To];omega)⟩;have G:Ac (quo p0 ty ar) (j+1) o (0,b)=((ar.getD b.toNat []).map fun a=>(a.1,Eu p0 a.2)).foldl (Ac (quo p0 ty ar) j) (o++[b]):=by
       unfold Ac;rw[As w];show Ea (quo p0 ty ar) (j+1) o b=_;rw[Cv,x];rfl
      rw[←l.last,f6]at G;have ap:=fun(i:Nat) (hi:i<(ar.getD b.toNat []).length)=>show (((ar.getD b.toNat []).map fun a=>(a.1,Eu p0 a.2)).getD i (0,0))=(((ar.getD b.toNat []).getD i (0,0)).1,Eu p0 ((ar.getD b.toNat []).getD i (0,0)).2) by
       exact X5 (fun a:Int×Int=>(a.1,Eu p0 a.2)) (0,0) (0,0) hi
      rw[y,A1E d.1 d.2 w];generalize bh:ar.getD b.toNat []=xs at *;refine AJ (ι:={s:Nat×List Int//s.1≤xs.length∧(∃m,Fo s.2 m)∧Et p0 s.2}) (fun s=>⟨[(0,.p T3 b),(1,.bp 105 [] 0),(2,.bp 106 [] 0),(3,.bp 108 [] 0),(4,.bp 110 [] 0),(7,.p (.int .i64) (o.length:Int)),(8,.sr 64 BI 0 ((xs.take s.1.1).map fun a=>(a.1,CF (c s.1.1) (Eu p0 a.2))).length),(49,.p DS xs),(50,.p (.int .i64) (xs.length:Int)),(51,.p (.int .i64) (s.1.1:Int))],uO h s.1.2 ty ar (LQ p0.length (c s.1.1)) (out++[(ty.getD b.toNat 0,[])]++HS (quo p0 ty ar) (o++[b]) (c s.1.1))++[(64,.arr 53 BI ((xs.take s.1.1).map fun a=>(a.1,CF (c s.1.1) (Eu p0 a.2))))]⟩) (fun s=>xs.length-s.1.1) ⟨(0,u),Is _,⟨m,M⟩,aa⟩ (AC [(101,.nm 101),(102,.nm 102),(103,.nm 103),(104,.nm 104),(105,.nm 105),(106,.nm 106),(107,.nm 107),(108,.nm 108),(109,.nm 109),(110,.nm 110),(64,.nil)] rfl rfl ?_ ?_) (fun s=>?_)
      ·unfold uO;simp only[l.zero,X4,AAa];first|exact eN|refine eM ?_
       exact⟨by rw[VY,VY],y.symm⟩
      ·first|exact eN|refine eM ?_
      ·obtain⟨⟨i,q⟩,hi,⟨Z,P⟩,V⟩:=s;have E:=l.pre i;have z:=l.dok i;have au:=E.length_le;have ah:=z.len;rw[IN,To]at au;rw[E6]at ah;have R:(out++[(ty.getD b.toNat 0,[])]++HS (quo p0 ty ar) (o++[b]) (c i)).length=(c i).length:=by
        unfold HS;simp only[IN,To,f6,AA7];omega
       have S:out.length+1+(HS (quo p0 ty ar) (o++[b]) (c i)).length=(c i).length:=by
        rw[←R,IN,IN,To]
       simp only[uO];repeat'(first|exact trivial|refine eS rfl ?_|refine AB ?_|refine rX f ?_ ?_|refine rC ?_ ?_<;>intro g<;>try(cases g;done))
       ·exact g
       ·have r:i<xs.length:=If.1 g;have Y:=ax _ (AD xs (0,0) r);have X:=l.succ i (by rw[f6];exact r);rw[ap i r]at X;have af:=A1F E (l.nxt i) (l.cls i) z.nd;have av:=l.pre (i+1);have T:out.length+1+(HS (quo p0 ty ar) (o++[b]) (c (i+1))).length=(c (i+1)).length:=by
         have h1:=av.length_le;rw[IN,To]at h1;unfold HS;simp only[IN,To,f6,AA7];omega
        have J:((xs.take i).map fun a=>(a.1,CF (c i) (Eu p0 a.2)))++[((xs.getD i (0,0)).1,CF (c (i+1)) (Eu p0 (xs.getD i (0,0)).2))]=(xs.take (i+1)).map fun a=>(a.1,CF (c (i+1)) (Eu p0 a.2)):=by
         rw[FL _ xs (0,0) r]
         congr 1
         refine AA2 fun a ha=>?_;obtain⟨t,H⟩:=l.nxt i;rw[←H,Vb (l.tgt i (a.1,Eu p0 a.2) (by rw[←List.map_take];exact IS.2 ⟨a,ha,rfl⟩))]
        rw[S];refine Bu drawsAny f 10 [([3,4,5],6),([1,2],7),([],8),([0],9)] [] (by kernel_rfl) (Jr ?_ ?_)
        ·trivial
        ·refine mxC f (am q (c i) (out++[(ty.getD b.toNat 0,[])]++HS (quo p0 ty ar) (o++[b]) (c i)) (xs.getD i (0,0)).2 ⟨Z,P⟩ V z R Y.1 Y.2 (by omega)) [(101,.nm 101),(102,.nm 102),(103,.nm 103),(104,.nm 104),(105,.nm 105),(106,.nm 106),(107,.nm 107),(108,.nm 108),(109,.nm 109),(110,.nm 110)] [102,103,104,107,109] ?_ ?_ ?_
         ·first|exact eN|refine eM ?_
         ·simp only[uO];first|exact eN|refine eM ?_
          exact S.symm
         ·rintro _ _ ⟨I,⟨az,ab⟩,bb,rfl,rfl⟩;rw[←X,oR _ _ (HS _ (c i) _),af];refine⟨[(101,.nm 101),(102,.nm 102),(103,.nm 103),(104,.nm 104),(105,.nm 105),(106,.nm 106),(107,.nm 107),(108,.nm 108),(109,.nm 109),(110,.nm 110)],.p T3 (CF (c (i+1)) (Eu p0 (xs.getD i (0,0)).2)),[(101,.box 130 true [.p Ga h,.sr 102 T3 0 I.length,.sr 103 T3 0 ty.length,.sr 104 DS 0 ar.length]),(102,.arr 3 T3 I),(103,.arr 3 T3 ty),(104,.arr 47 DS ar),(105,.box 127 false [.bp 101 [] 0]),(106,.box 60 false [.sr 107 T3 0 (LQ p0.length (c (i+1))).length]),(107,.arr 3 T3 (LQ p0.length (c (i+1)))),(108,.box 25 true [.sr 109 Ox 0 (c (i+1)).length]),(109,.arr 49 Ox (out++[(ty.getD b.toNat 0,[])]++HS (quo p0 ty ar) (o++[b]) (c (i+1)))),(110,.box 168 false [.clo 119 [105,106,108,110]])],rfl,rfl,?_,?_,rfl,rfl,rfl,?_⟩
          ·simp only[uO];first|exact eN|refine eM ?_
           exact T
          ·first|exact eN|refine eM ?_
          ·refine Jr ?_ ?_
           ·trivial
           ·refine Ld f [] ?_ ?_
            ·trivial
            ·refine Jr ?_ ?_
             ·trivial
             ·refine Ld f [] ?_ ?_
              ·trivial
              ·refine Jr ?_ ?_
               ·trivial
               ·refine Ld f [64] ?_ ?_
                ·rw[f6,OS];simp only[AO];omega
                ·refine Ow f ?_ ?_ ?_
                 ·trivial
                 ·trivial
                 ·repeat'(first|exact trivial|refine eS rfl ?_|refine AB ?_|refine rX f ?_ ?_|refine rC ?_ ?_<;>intro g<;>try(cases g;done))
                  ·exact eV
                  ·refine⟨⟨(i+1,I),r,⟨az,ab⟩,bb⟩,by simp only;omega,AC [(101,.nm 101),(102,.nm 102),(103,.nm 103),(104,.nm 104),(105,.nm 105),(106,.nm 106),(107,.nm 107),(108,.nm 108),(109,.nm 109),(110,.nm 110),(64,.nm 64)] rfl rfl ?_ ?_⟩
                   ·simp only[uO,←J];first|exact eN|refine eM ?_
                    exact T.symm
                   ·simp only[←J];first|exact eN|refine eM ?_
       ·exact If.2 (by omega)
       ·have al:i=xs.length:=by
         have:=gO.1 g;omega
        subst al;obtain⟨t,H⟩:=E;have A:CF (c xs.length) b=(o.length:Int):=by
         rw[←H,Vb (by simp)];unfold CF;rw[At (by simp),Va w]
        have aq:Es (quo p0 ty ar) (c xs.length) b=(ty.getD b.toNat 0,xs.map fun a=>(a.1,CF (c xs.length) (Eu p0 a.2))):=by
         unfold Es;rw[x];simp only[AB2];rfl
        have ak:(out++[(ty.getD b.toNat 0,([]:List (Int×Int)))]++HS (quo p0 ty ar) (o++[b]) (c xs.length)).getD o.length (0,[])=(ty.getD b.toNat 0,[]):=by
         rw[←y];simp[AS]
        have D:=vJ (Q:=quo p0 ty ar) (l.pre xs.length);rw[aq]at D;rw[f9,ak,A3S out _ _ _ y.symm,←D];have ao:out.length+1+(HS (quo p0 ty ar) (o++[b]) (c xs.length)).length=(out++HS (quo p0 ty ar) o (c xs.length)).length:=by
         rw[D];simp only[IN,Of];omega
        rw[ao];refine Ev.ent (σ':=⟨[(6,.p T3 (CF (c xs.length) b))],uO h q ty ar (LQ p0.length (c xs.length)) (out++HS (quo p0 ty ar) o (c xs.length))⟩) ?_ (AC [(101,.nm 101),(102,.nm 102),(103,.nm 103),(104,.nm 104),(105,.nm 105),(106,.nm 106),(107,.nm 107),(108,.nm 108),(109,.nm 109),(110,.nm 110)] rfl rfl ?_ ?_)
        ·exact fM f [.tmp 6] (.p T3 (CF (c xs.length) b)) eT ⟨q,⟨Z,P⟩,V,by rw[G],by rw[G];rfl⟩
        ·unfold uO;first|exact eN|refine eM ?_
        ·first|exact eN|refine eM ?_
         exact A.symm
theorem A1G (h:AI) {p0 ty:List Int} {ar:List (List (Int×Int))} (f:∃i,Fo p0 i) (b:Ad (quo p0 ty ar)) (g:ty.length=p0.length) (c:ar.length=p0.length) (d:∀k,∀a∈ar.getD k [],0≤a.2∧a.2<(p0.length:Int)):∀k,A5g h p0 ty ar k
 | 0=>i9 h f b g c d 0 (fun j e=>by cases e)
 | k+1=>i9 h f b g c d (k+1) (fun j e=>by cases e;exact A1G h f b g c d k)
theorem A1H (len:Nat):LQ len []=List.replicate len (-1):=by
 unfold LQ;apply AA8
 ·simp
 ·intro i h1 a;simp
theorem A1I {α:Type} (x y:α) {n i:Nat} (h:i<n):(List.replicate i x++List.replicate (n-i) y).set i x=List.replicate (i+1) x++List.replicate (n-(i+1)) y:=by
 obtain⟨m,a⟩:∃m,n-i=m+1:=⟨n-i-1,by omega⟩;have b:n-(i+1)=m:=by omega
 rw[a,b,ABo _ _ (by simp),ABH,AB1,ACh,ABQ,List.replicate_succ',oR];rfl
theorem A1J (h:AI) {p ty:List Int} {ar:List (List (Int×Int))} (g:∃y,Fo p y) (f:Ad (quo p ty ar)) (t:ty.length=p.length) (m:ar.length=p.length) (n:∀k,∀a∈ar.getD k [],0≤a.2∧a.2<(p.length:Int)) {r:Int} (v:0≤r) (w:r<(p.length:Int)) :
  BB Tryz.prog 84 [.bp 101 [] 0,.p T3 r] (qU h p ty ar) [101]
  (fun res _=>res=.p E0 (AR (quo p ty ar) (Eu p r))):=by
 have d:=A1G h g f t m n p.length p [] [] r g (Et.refl p) ⟨by simp,fun x u=>by cases u⟩ rfl v w (by simp);have o:HS (quo p ty ar) [] (Ac (quo p ty ar) p.length [] (0,Eu p r))=AR (quo p ty ar) (Eu p r):=by
  have e:Ac (quo p ty ar) p.length [] (0,Eu p r)=Ea (quo p ty ar) p.length [] (Eu p r):=As (by simp);rw[e];unfold HS AR;rw[E6];rfl
 rw[AB7,o,A1H]at d;have s:=f.1;rw[E6]at s;generalize AR (quo p ty ar) (Eu p r)=G at *;generalize CF _ _=z at d;generalize LQ _ _=M at d;refine KJ [0,1,2,4,5,6,7,8,16,17,18] [] [] Tryz.func84 Tryz.ntmps84 AG ?_;intro w0 K O0 ρ0 c B C;simp only[qU,Ak];repeat'(first|exact trivial|refine eS rfl ?_|refine AB ?_|refine rX c ?_ ?_|refine rC ?_ ?_<;>intro b<;>try(cases b;done))
 ·simp only[AO];omega
 ·refine AJ (ι:={i:Nat//i≤p.length}) (fun i=>⟨[(0,.bp 101 [] 0),(1,.p T3 r),(2,.bp 2 [] 0),(4,.bp 4 [] 0),(5,.bp 5 [] 0),(16,.p (.int .i64) (p.length:Int)),(17,.p (.int .i64) (i.1:Int))],[(5,.box 60 false [.sr 14 T3 0 p.length]),(14,.arr 3 T3 (List.replicate i.1 (-1)++List.replicate (p.length-i.1) 0)),(4,.box 25 true [.raw (.slice none 0 0)]),(2,.box 127 false [.bp 101 [] 0]),(101,.box 130 true [.p Ga h,.sr 102 T3 0 p.length,.sr 103 T3 0 ty.length,.sr 104 DS 0 ar.length]),(102,.arr 3 T3 p),(103,.arr 3 T3 ty),(104,.arr 47 DS ar)]⟩) (fun i=>p.length-i.1) ⟨0,by omega⟩ (AC [(5,.nm 5),(14,.nm 14),(4,.nm 4),(2,.nm 2),(101,.nm 101),(102,.nm 102),(103,.nm 103),(104,.nm 104)] rfl rfl ?_ ?_) (fun i=>?_)
  ·first|exact eN|refine eM ?_
   rfl
  ·first|exact eN|refine eM ?_
  ·obtain⟨i,hi⟩:=i;simp only;repeat'(first|exact trivial|refine eS rfl ?_|refine AB ?_|refine rX c ?_ ?_|refine rC ?_ ?_<;>intro b<;>try(cases b;done))
   ·exact b
   ·exact eV
   ·have j:i<p.length:=If.1 b;refine⟨⟨i+1,j⟩,by simp only;omega,AC [(5,.nm 5),(14,.nm 14),(4,.nm 4),(2,.nm 2),(101,.nm 101),(102,.nm 102),(103,.nm 103),(104,.nm 104)] rfl rfl ?_ ?_⟩
    ·first|exact eN|refine eM ?_
     exact A1I _ _ j
    ·first|exact eN|refine eM ?_
   ·have q:i=p.length:=by
     have:=gO.1 b;omega
    subst q;rw[AB1,List.replicate_zero,AAa];refine cP 2 c ?_ ?_
    ·trivial
    ·refine rM c (d) [(101,.nm 101),(102,.nm 102),(103,.nm 103),(104,.nm 104),(105,.nm 2),(106,.nm 5),(107,.nm 14),(108,.nm 7),(109,.nil),(110,.nm 8)] [102,103,104,14] ?_ ?_ ?_
     ·first|exact eN|refine eM ?_
     ·simp only[uO];first|exact eN|refine eM ?_
      exact ABH.symm
     ·rintro _ _ ⟨l,A,D,rfl,rfl⟩;refine⟨[(101,.nm 101),(102,.nm 102),(103,.nm 103),(104,.nm 104),(2,.nm 105),(5,.nm 106),(14,.nm 107),(7,.nm 108),(120,.nm 109),(8,.nm 110)],.p T3 z,[(101,.box 130 true [.p Ga h,.sr 102 T3 0 l.length,.sr 103 T3 0 ty.length,.sr 104 DS 0 ar.length]),(102,.arr 3 T3 l),(103,.arr 3 T3 ty),(104,.arr 47 DS ar),(2,.box 127 false [.bp 101 [] 0]),(5,.box 60 false [.sr 14 T3 0 M.length]),(14,.arr 3 T3 M),(7,.box 25 true [.sr 120 Ox 0 G.length]),(120,.arr 49 Ox G),(8,.box 168 false [.clo 119 [2,5,7,8]])],rfl,rfl,?_,?_,rfl,rfl,CM ?_⟩
      ·simp only[uO];first|exact eN|refine eM ?_
      ·first|exact eN|refine eM ?_
      ·refine Gy [120] ?_;repeat'(first|exact trivial|refine eS rfl ?_|refine AB ?_|refine rX c ?_ ?_|refine rC ?_ ?_<;>intro b<;>try(cases b;done))
       exact fM c [.cell 4 25] (.p E0 G) eT rfl
structure A89 (f:List AE) (r:Int) (o:List Int):Prop where
 ok:LO f o
 zero:o.getD 0 0=r∧0<o.length
 cl:∀n∈o,∀a∈Am f n,a.2∈o
theorem qV {f:List AE} (hf:Ad f) {r:Int} (b:0≤r) (c:r<(f.length:Int)):A89 f r (Ea f f.length [] r):=by
 have h1:=D5 hf f.length [] r (Hu f) b c (by simp);have d:=Iq hf f.length [] r (Hu f) b c (by simp) (by simp);have e:[r] <+: Ea f f.length [] r:=by
  obtain⟨k,hk⟩:∃k,f.length=k+1:=⟨f.length-1,by omega⟩;rw[hk,Cv];exact(Er (D5 hf k) _ _ (fun a ha=>Bt hf ha) ((Hu f).snoc b c (by simp))).2
 refine⟨h1.1,?_,fun n hn a ha=>?_⟩
 ·obtain⟨t,g⟩:=e;rw[←g];exact⟨rfl,by simp⟩
 ·rcases d.2 n hn with h|h
  ·cases h
  ·exact h a ha
theorem jA {f:List AE} {r:Int} {i:Nat} (hi:i<(Ea f f.length [] r).length):(AR f r).getD i (0,[])=Es f (Ea f f.length [] r) ((Ea f f.length [] r).getD i 0):=by
 unfold AR;simp[AS,hi]
theorem jB (f:List AE) (r:Int):(AR f r).length=(Ea f f.length [] r).length:=by simp[AR]
def Cl (f g:List AE):List AE:=f++g.map fun x=>(x.1,D7 f.length x.2)
theorem Ft (f g:List AE):(Cl f g).length=f.length+g.length:=by simp[Cl]
theorem Oo {f g:List AE} {x:Int} (a:0≤x) (b:x<(f.length:Int)):(Cl f g).getD x.toNat (0,[])=f.getD x.toNat (0,[]):=by
 unfold Cl;rw[AS,AS,oS (by omega)]
theorem Mj {f g:List AE} {y:Int} (a:0≤y) (b:y<(g.length:Int)):(Cl f g).getD ((f.length:Int)+y).toNat (0,[])=((g.getD y.toNat (0,[])).1,D7 f.length (g.getD y.toNat (0,[])).2):=by
 unfold Cl;have e:((f.length:Int)+y).toNat=f.length+y.toNat:=by omega
 rw[e,AS,AA4 (by omega),Nat.add_sub_cancel_left];rw[←AS];exact X5 (fun x:AE=>(x.1,D7 f.length x.2)) (0,[]) (0,[]) (by omega)
theorem qW {n:Nat} {p:List Int} {x y:Int} (h:EG n p [] x y):Eu p x=Eu p y:=by
 induction h with
 | cls _ _ _ _ h g=>rw[nN h,nN g]
 | wt h=>cases h
 | symm _ a=>exact a.symm
 | trans _ _ b c=>exact b.trans c
noncomputable abbrev Re (p ty:List Int) (ar:List (List (Int×Int))):List Int:=Ea (quo p ty ar) (quo p ty ar).length [] (Eu p 0)
structure A4q (h:AI) (N:List AE) (P:List (Int×Int)) (U:List AE) (v:Int→Int):Prop where
 good:Ad U
 pos:0<U.length
 str:∀x∈U,WC x.2
 feat:∀x∈U,∀a∈x.2,a.1∈Cy N
 ty:Fx h U
 ro:RO U
 zero:v 0=0
 proj:nM h N P U v
 least:∀X w,Fx h X→nM h N P X w→w 0=0→∃m,J1 h U X m
 len:U.length≤N.length
section
variable {h:AI} {N:List AE} {P:List (Int×Int)} {p ty:List Int} {ar:List (List (Int×Int))}
theorem Rf (a:JI h N P p ty ar []) (b:Ad (quo p ty ar)) (c:0<N.length):A89 (quo p ty ar) (Eu p 0) (Re p ty ar):=by
 obtain⟨d,fo⟩:=a.fo;have lp:=a.lp;have:=GG fo (x:=0) (by omega) (by omega) (Om fo (by omega) (by omega));exact qV b this.1 (by rw[E6];exact this.2)
theorem Vc (d:JI h N P p ty ar []) (c:Ad (quo p ty ar)) (b:0<N.length):Eu p 0∈Re p ty ar:=by
 have a:=Rf d c b;have:=AD (Re p ty ar) 0 a.zero.2;rw[a.zero.1]at this;exact this
theorem A1K (a:JI h N P p ty ar []) {x y:Int} (b:(x,y)∈P) (c:Eu p x∈Re p ty ar):Eu p y∈Re p ty ar:=by
 rw[←qW (a.sp (x,y) b)];exact c
theorem nP (b:JI h N P p ty ar []) (f:Ad (quo p ty ar)) (e:0<N.length) {x:Int} (c:0≤x) (k:x<(N.length:Int)) (j:Eu p x∈Re p ty ar) {a:Int×Int} (ha:a∈Am N x):Eu p a.2∈Re p ty ar:=by
 obtain⟨l,fo⟩:=b.fo;have lp:=b.lp;obtain⟨t,i,g⟩:=b.sa x _ c k (Om fo c (by omega)) a ha;rw[qW g];have d:=GG fo c (by omega) (Om fo c (by omega));refine(Rf b f e).cl _ j (a.1,Eu p t) ?_;rw[Am,NK d.1 d.2];exact IS.2 ⟨(a.1,t),i,rfl⟩
def vK (N:List AE) (k:Nat) (g:List AE):Prop:=∀i:Int,0≤i→i<(g.length:Int)→(k:Int)+i<(N.length:Int)∧N.getD ((k:Int)+i).toNat (0,[])=((g.getD i.toNat (0,[])).1,D7 k (g.getD i.toNat (0,[])).2)
theorem Vd (m:JI h N P p ty ar []) (f:Ad (quo p ty ar)) (e:0<N.length) {k:Nat} {g:List AE} (l:vK N k g) (r:RO g) (hk:Eu p (k:Int)∈Re p ty ar):∀(n:Nat) (i:Int),i.toNat≤n→0≤i→i<(g.length:Int)→Eu p ((k:Int)+i)∈Re p ty ar:=by
 intro n;induction n with
 | zero =>
  intro i hn o c;have:i=0:=by omega
  subst this;rw[ACs];exact hk
 | succ n q =>
  intro i hn o c;by_cases hi:i=0
  ·subst hi;rw[ACs];exact hk
  ·obtain⟨j,d,s,a,ha,rfl⟩:=r i (by omega) c;have b:=l j d (by omega);have:=nP m f e (x:=(k:Int)+j) (by omega) b.1 (q j (by omega) d (by omega)) (a:=(a.1,a.2+(k:Int))) (by
    rw[Am,b.2];exact IS.2 ⟨a,ha,rfl⟩)
   rw[Int.add_comm];exact this
end
theorem jC {h:AI} {N:List AE} {P:List (Int×Int)} {f:List AE} {v:Int→Int} (e:nM h N P f v) {k:Nat} {g:List AE} (d:vK N k g) (j:v (k:Int)=0):J1 h g f fun i=>v ((k:Int)+i):=by
 refine⟨by show v ((k:Int)+0)=0;rw[ACs];exact j,fun i b c=>?_,fun i b c=>?_,fun i b c a ha=>?_⟩
 ·exact e.rng _ (by omega) (d i b c).1
 ·have:=e.ty _ (by omega) (d i b c).1;rw[(d i b c).2]at this;exact this
 ·have:=e.arc _ (by omega) (d i b c).1 (a.1,a.2+(k:Int)) (by
   rw[Am,(d i b c).2];exact IS.2 ⟨a,ha,rfl⟩)
  rw[Int.add_comm (k:Int) a.2];exact this
theorem NL {h:AI} {g X:List AE} {m:Int→Int} (a:J1 h g X m):nM h g [] X m:=⟨a.rng,a.ty,a.arc,fun q b=>by cases b⟩
theorem Ve {h:AI} {f g X:List AE} (hf:Ad f) (m:Ad g) {v w:Int→Int} (h1:nM h f [] X v) (i:nM h g [] X w):nM h (Cl f g) [] X (fun x=>if x<(f.length:Int) then v x else w (x-(f.length:Int))):=by
 have j:=Ft f g;refine⟨fun x d e=>?_,fun x d e=>?_,fun x d e a ha=>?_,fun q n=>by cases n⟩
 ·rw[j]at e;show _∧_;try simp only
  split
  ·exact h1.rng x d (by assumption)
  ·exact i.rng _ (by omega) (by omega)
 ·rw[j]at e;try simp only
  by_cases c:x<(f.length:Int)
  ·rw[At c,Oo d c];exact h1.ty x d c
  ·rw[As c];have:=Mj (f:=f) (g:=g) (y:=x-(f.length:Int)) (by omega) (by omega);rw[show (f.length:Int)+(x-(f.length:Int))=x by omega]at this;rw[this];exact i.ty _ (by omega) (by omega)
 ·rw[j]at e;try simp only
  by_cases c:x<(f.length:Int)
  ·rw[At c];rw[Am,Oo d c]at ha;have l:=Bt hf ha;rw[At l.2];exact h1.arc x d c a ha
  ·rw[As c];have:=Mj (f:=f) (g:=g) (y:=x-(f.length:Int)) (by omega) (by omega);rw[show (f.length:Int)+(x-(f.length:Int))=x by omega]at this;rw[Am,this]at ha;obtain⟨b,k,rfl⟩:=IS.1 ha;have l:=Bt m k;rw[As (by simp only;omega)];try simp only
   rw[show b.2+(f.length:Int)-(f.length:Int)=b.2 by omega];exact i.arc _ (by omega) (by omega) b k
theorem nQ {h:AI} {N X:List AE} {P:List (Int×Int)} {v:Int→Int} (h1:nM h N [] X v) (a:∀q∈P,v q.1=v q.2):nM h N P X v:=⟨h1.rng,h1.ty,h1.arc,a⟩
theorem X6 {N f g:List AE} {k:Nat} (h:vK f k N):vK (Cl f g) k N:=by
 intro i a b;have:=h i a b;rw[Ft,Oo (by omega) this.1];exact⟨by omega,this.2⟩
theorem X7 {f:List AE}:vK f 0 f:=by
 intro i c b;rw[show ((0:Nat):Int)+i=i by omega];refine⟨b,?_⟩;have:D7 0 (f.getD i.toNat (0,[])).2=(f.getD i.toNat (0,[])).2:=by
  unfold D7;rw[AA2 (g:=id) (fun a _=>by show (a.1,a.2+((0:Nat):Int))=a;rw[Int.natCast_zero,ACs]),List.map_id]
 rw[this]
theorem Vf {f g:List AE}:vK (Cl f g) f.length g:=by
 intro i a b;rw[Ft,Mj a b];exact⟨by omega,rfl⟩
set_option maxHeartbeats 1000000 in
theorem A5h {h:AI} {N:List AE} {P:List (Int×Int)} {p ty:List Int} {ar:List (List (Int×Int))} (L:JI h N P p ty ar []) (E:Ad (quo p ty ar)) (O:0<N.length) (H:∀x,0≤x→x<(N.length:Int)→Eu p x∈Re p ty ar) :
  A4q h N P (AR (quo p ty ar) (Eu p 0)) (fun x=>CF (Re p ty ar) (Eu p x)):=by
 have s:=Rf L E O
 have af:=Vc L E O
 obtain⟨nty,⟨av,fo⟩,lp,lt,la,wr,tyr,arr,srt,sp,st,sa,co⟩:=L
 have aj:=E6 p ty ar
 have w:=fun {x:Int} (C:0≤x) (D:x<(N.length:Int))=>Om fo C (by rw[lp];exact D)
 have J:=fun {x:Int} (C:0≤x) (D:x<(N.length:Int))=>GG fo C (by rw[lp];exact D) (w C D)
 have K:=jB (quo p ty ar) (Eu p 0)
 have aa:=fun i=>jA (f:=quo p ty ar) (r:=Eu p 0) (i:=i)
 have M:∀x:Int,0≤x→x<(N.length:Int)→Am (quo p ty ar) x=(ar.getD x.toNat []).map fun a=>(a.1,Eu p a.2):=fun x C D=>by
  rw[Am,NK C (by rw[lp];exact D)]
 have u:∀x∈Re p ty ar,(0≤x∧x<(N.length:Int))∧Ee p x=x:=by
  have ag:Iso (quo p ty ar) (quo p ty ar) id (fun x=>(0≤x∧x<(N.length:Int))∧Ee p x=x):=by
   refine⟨fun i _=>by simp,fun i hi a ha=>?_,fun i j _ _ e=>e⟩
   rw[M i hi.1.1 hi.1.2]at ha
   obtain⟨b,m,rfl⟩:=List.mem_map.1 ha
   have c:=(arr _ b m).1
   have:=J c.1 c.2
   rw[lp]at this
   exact⟨this,(w c.1 c.2).root⟩
  have R:=J (x:=0) (by omega) (by omega)
  rw[lp]at R
  exact(TL ag _ [] _ (fun x d=>by cases d) ⟨R,(w (x:=0) (by omega) (by omega)).root⟩).2
 have ah:=fun(q:Nat)=>VX E (quo p ty ar).length [] (Eu p 0) (Hu _) (J (x:=0) (by omega) (by omega)).1 (by rw[aj];exact(J (x:=0) (by omega) (by omega)).2) (by simp) q
 unfold Re at s af H u ⊢
 generalize ao:AR (quo p ty ar) (Eu p 0)=F at *
 generalize aq:Ea (quo p ty ar) (quo p ty ar).length [] (Eu p 0)=o at *
 have z:∀i:Int,0≤i→i<(o.length:Int)→o.getD i.toNat 0∈o∧CF o (o.getD i.toNat 0)=i:=fun i g l=>by
  refine⟨AD o 0 (by omega),?_⟩
  rw[KZ s.ok.nd (by omega)]
  omega
 have A:∀x∈o,F.getD (CF o x).toNat (0,[])=(ty.getD x.toNat 0,(ar.getD x.toNat []).map fun a=>(a.1,CF o (Eu p a.2))):=fun x d=>by
  have am:=HD d
  have c:=(u x d).1
  rw[aa _ (by omega),am.2.2]
  unfold Es
  rw[NK c.1 (by rw[lp];exact c.2),List.map_map]
  rfl
 have Q:∀x∈o,∀a∈ar.getD x.toNat [],Eu p a.2∈o:=fun x d a ha=>by
  have c:=(u x d).1
  exact s.cl x d (a.1,Eu p a.2) (by rw[M x c.1 c.2];exact List.mem_map.2 ⟨a,ha,rfl⟩)
 have S:∀k,WC ((ar.getD k []).map fun a=>(a.1,CF o (Eu p a.2))):=fun k=>by
  unfold WC
  rw[List.pairwise_map]
  exact srt k
 have G:∀x∈F,∃y∈o,x=(ty.getD y.toNat 0,(ar.getD y.toNat []).map fun a=>(a.1,CF o (Eu p a.2))):=fun x d=>by
  obtain⟨i,hi,rfl⟩:=CT (0,[]) d
  have h1:=z (i:Int) (by omega) (by omega)
  refine⟨_,h1.1,?_⟩
  rw[←A _ h1.1,h1.2]
  rw[Int.toNat_natCast]
 have ae:CF o (Eu p 0)=0:=by
  have:=KZ s.ok.nd s.zero.2
  rw[s.zero.1]at this
  exact this
 have ap:=s.ok.len
 have an:=E.1
 refine⟨⟨by omega,fun x d=>?_⟩,by rw[K];exact s.zero.2,fun x d=>?_,fun x d a ha=>?_,fun x d=>?_,fun i g l=>?_,ae,⟨fun i g l=>?_,fun i g l=>?_,fun i g l a ha=>?_,fun q ai=>?_⟩,fun X v ab T al=>?_,by omega⟩
 ·obtain⟨y,B,rfl⟩:=G x d
  have c:=(u y B).1
  refine⟨?_,fun a ha=>?_⟩
  ·have:=(E.2 _ (AD (quo p ty ar) (0,[]) (k:=y.toNat) (by omega))).1
   rw[NK c.1 (by rw[lp];exact c.2),List.length_map]at this
   simp only[List.length_map]
   exact this
  ·obtain⟨b,m,rfl⟩:=List.mem_map.1 ha
   have:=HD (Q y B b m)
   rw[K]
   exact⟨this.1,this.2.1⟩
 ·obtain⟨y,B,rfl⟩:=G x d
  exact S _
 ·obtain⟨y,B,rfl⟩:=G x d
  obtain⟨b,m,rfl⟩:=List.mem_map.1 ha
  exact(arr _ b m).2
 ·obtain⟨y,B,rfl⟩:=G x d
  have c:=(u y B).1
  exact tyr y c.1 c.2
 · -- in order
  obtain⟨j,au,a,ha,e⟩:=ah i.toNat (by simp only[List.length_nil];omega) (by omega)
  have h1:=z (j:Int) (by omega) (by omega)
  have W:=z i (by omega) (by omega)
  rw[Int.toNat_natCast]at h1
  have c:=(u _ h1.1).1
  rw[M _ c.1 c.2]at ha
  obtain⟨b,m,rfl⟩:=List.mem_map.1 ha
  refine⟨(j:Int),by omega,by omega,(b.1,CF o (Eu p b.2)),?_,?_⟩
  ·have:=A _ h1.1
   rw[h1.2]at this
   rw[Am,this]
   exact List.mem_map.2 ⟨b,m,rfl⟩
  ·show CF o (Eu p b.2)=i
   simp only at e
   rw[e,W.2]
 ·have:=HD (H i g l)
  rw[K]
  exact⟨this.1,this.2.1⟩
 ·show BG h _ (F.getD (CF o (Eu p i)).toNat (0,[])).1=true
  rw[A _ (H i g l)]
  exact st i _ g l (w g l)
 ·obtain⟨t,ak,ad⟩:=sa i _ g l (w g l) a ha
  have e:=qW ad
  show EJ (Am F (CF o (Eu p i))) a.1=CF o (Eu p a.2)
  rw[e,Am,A _ (H i g l)]
  exact VV (S _) (a:=(a.1,CF o (Eu p t))) (List.mem_map.2 ⟨(a.1,t),ak,rfl⟩)
 ·show CF o (Eu p q.1)=CF o (Eu p q.2)
  rw[qW (sp q ai)]
 ·obtain⟨c1,c2,U,V⟩:=co X v ab T
  refine⟨fun i=>v (o.getD i.toNat 0),?_,fun i g l=>?_,fun i g l=>?_,fun i g l a ha=>?_⟩
  ·show v (o.getD 0 0)=0
   rw[s.zero.1,←c1 0 _ (by omega) (by omega) (w (by omega) (by omega))]
   exact al
  ·have n:=z i g (by omega)
   have c:=(u _ n.1).1
   exact T.rng _ c.1 c.2
  ·have n:=z i g (by omega)
   have c:=u _ n.1
   have hn:=A _ n.1
   rw[n.2]at hn
   rw[hn]
   exact U _ c.1.1 c.1.2 c.2
  ·have n:=z i g (by omega)
   have c:=u _ n.1
   have hn:=A _ n.1
   rw[n.2]at hn
   rw[Am,hn]at ha
   obtain⟨b,m,rfl⟩:=List.mem_map.1 ha
   have Y:=V _ c.1.1 c.1.2 c.2 b m
   have I:=(arr _ b m).1
   have Z:=HD (Q _ n.1 b m)
   simp only
   rw[Z.2.2,←c1 b.2 _ I.1 I.2 (w I.1 I.2)]
   exact Y
structure VF (h:AI) (f:List AE):Prop where
 good:Ad f
 pos:0<f.length
 ty:Fx h f
 str:∀x∈f,WC x.2
 ft:∀x∈f,∀a∈x.2,0≤a.1∧a.1<(h.2.length:Int)
 can:AR f 0=f
 ro:RO f
structure HU (h:AI):Prop where
 ok:Jw h
 inj:I2 h
 ft:h.2.length≤64
def jD (U:List AE):Prop:=(Ea U U.length [] 0).length=U.length∧∀k,(hk:k<(Ea U U.length [] 0).length)→(Ea U U.length [] 0)[k]=(k:Int)
theorem ZU {Q:List AE} (m:Ad Q) {r:Int} (L:0≤r) (M:r<(Q.length:Int)):Ad (AR Q r)∧jD (AR Q r):=by
 have d:=qV m L M;have D:=jB Q r;have C:=fun i=>jA (f:=Q) (r:=r) (i:=i);generalize O:AR Q r=c at *;generalize H:Ea Q Q.length [] r=o at *;have R:=d.ok.len;have N:=m.1;have g:∀i:Int,0≤i→i<(o.length:Int)→o.getD i.toNat 0∈o∧CF o (o.getD i.toNat 0)=i:=fun i J K=>by
  refine⟨AD o 0 (by omega),?_⟩;rw[KZ d.ok.nd (by omega)];omega
 have p:∀i:Int,0≤i→i<(o.length:Int)→Am c i=(Am Q (o.getD i.toNat 0)).map (Oh o):=fun i J K=>by
  rw[Am,C i.toNat (by omega)];rfl
 have F:Iso c Q (fun i=>o.getD i.toNat 0) (fun i=>0≤i∧i<(o.length:Int)):=by
  refine⟨fun i hi=>?_,fun i hi a ha=>?_,fun i j hi B e=>?_⟩
  ·rw[p i hi.1 hi.2,AB2];have:∀a∈Am Q (o.getD i.toNat 0),((fun a:Int×Int=>(a.1,o.getD a.2.toNat 0))∘Oh o) a=a:=fun a ha=>by
    show (a.1,o.getD (CF o a.2).toNat 0)=a;rw[(HD (d.cl _ (g i hi.1 hi.2).1 a ha)).2.2]
   rw[AA2 this,List.map_id']
  ·rw[p i hi.1 hi.2]at ha;obtain⟨b,q,rfl⟩:=IS.1 ha;have:=HD (d.cl _ (g i hi.1 hi.2).1 b q);exact⟨this.1,this.2.1⟩
  ·have h1:=(g i hi.1 hi.2).2;have h:=(g j B.1 B.2).2;have e:o.getD i.toNat 0=o.getD j.toNat 0:=e;rw[←h1,←h,e]
 have h0:(0:Int)<(o.length:Int):=by have:=d.zero.2;omega
 have v:Ad c:=by
  refine⟨by omega,fun x u=>?_⟩;obtain⟨i,hi,rfl⟩:=CT (0,[]) u;have h1:=p (i:Int) (by omega) (by omega);rw[Am,bY]at h1;rw[h1];have t:=g (i:Int) (by omega) (by omega);rw[bY]at t;have S:=d.ok.rng _ t.1;refine⟨?_,fun a ha=>?_⟩
  ·rw[f6];exact(m.2 _ (AD Q (0,[]) (k:=(o.getD i 0).toNat) (by omega))).1
  ·obtain⟨b,q,rfl⟩:=IS.1 ha;have:=HD (d.cl _ t.1 b q);rw[D];exact⟨this.1,this.2.1⟩
 have s:=TL F Q.length [] 0 (fun x u=>by cases u) ⟨by omega,h0⟩;have I:o.getD (0:Int).toNat 0=r:=d.zero.1;rw[ACp,I,H]at s;have A:=VU v (n:=0) (by omega) (by omega) (Q.length-c.length);rw[show c.length+(Q.length-c.length)=Q.length by omega]at A;rw[A]at s;unfold jD;refine⟨v,?_⟩;generalize Ea c c.length [] 0=l at *;obtain⟨y,E⟩:=s;have P:l.length=o.length:=by
  have:=AAP List.length y;rw[f6]at this;exact this.symm
 have G:∀k,(hk:k<l.length)→l[k]=(k:Int):=fun k hk=>by
  have w:=E l[k] (AAh hk);have h1:=(g l[k] w.1 w.2).2;have h:=(g (k:Int) (by omega) (by omega)).2;have e:o.getD k 0=o.getD (l[k]).toNat 0:=by
   exact(AAP (fun z:List Int=>z.getD k 0) y).trans (by simp[AS,hk])
  rw[bY,e]at h;rw[←h1,h]
 exact⟨by omega,G⟩
theorem Vg {b:List AE} (g:Ad b) (k:jD b):AR b 0=b:=by
 unfold AR;obtain⟨q,c⟩:=k;generalize Ea b b.length [] 0=l at *;have o:l.Nodup:=by
  unfold List.Nodup;rw[oF];intro i j hi n p e;rw[c i hi,c j n]at e;omega
 have m:∀x,0≤x→x<(l.length:Int)→CF l x=x:=fun x r s=>by
  have:=KZ o (i:=x.toNat) (by omega);have e:l.getD x.toNat 0=x:=by
   rw[AS,An (by omega)];show l[x.toNat]=x;rw[c _ (by omega)];omega
  rw[e]at this;rw[this];omega
 apply AA8
 ·rw[f6];omega
 ·intro i h1 d;rw[ABd,c i (by simpa using h1)];have f:b.getD (i:Int).toNat (0,[])=b[i]:=by simp[AS,d]
  unfold Es;rw[f];have:∀a∈b[i].2,Oh l a=a:=fun a ha=>by
   have h:=(g.2 _ (AAh d)).2 a ha;unfold Oh;rw[m a.2 h.1 (by omega)]
  rw[AA2 this,List.map_id']
theorem A1L {Q:List AE} (a:Ad Q) {r:Int} (b:0≤r) (c:r<(Q.length:Int)):AR (AR Q r) 0=AR Q r :=
 Vg (ZU a b c).1 (ZU a b c).2
theorem jE {h:AI} {a X:List AE} (g:RO a) {m f:Int→Int} (h1:J1 h a X m) (b:J1 h a X f):∀(k:Nat) (i:Int),i.toNat≤k→0≤i→i<(a.length:Int)→m i=f i:=by
 intro k;induction k with
 | zero =>
  intro i hk l e;have:i=0:=by omega
  subst this;rw[h1.zero,b.zero]
 | succ k n =>
  intro i hk l e;by_cases hi:i=0
  ·subst hi;rw[h1.zero,b.zero]
  ·obtain⟨j,c,o,x,d,rfl⟩:=g i (by omega) e;rw[←h1.arc j c (by omega) x d,←b.arc j c (by omega) x d,n j (by omega) c (by omega)]
theorem Ix {h:AI} (hk:Jw h) {a b c:List AE} (w:Ad a) (ta:Fx h a) (tb:Fx h b) (A:Fx h c) {m n:Int→Int} (h1:J1 h a b m) (j:J1 h b c n):J1 h a c fun i=>n (m i):=by
 refine⟨by show n (m 0)=0;rw[h1.zero,j.zero],fun i f g=>?_,fun i f g=>?_,fun i f g x p=>?_⟩
 ·have:=h1.rng i f g;exact j.rng _ this.1 this.2
 ·have d:=h1.rng i f g;have B:=j.rng _ d.1 d.2;have r:=ta _ (AD a (0,[]) (k:=i.toNat) (by omega));have s:=tb _ (AD b (0,[]) (k:=(m i).toNat) (by omega));have t:=A _ (AD c (0,[]) (k:=(n (m i)).toNat) (by omega));exact Ol hk r.1 r.2 s.1 s.2 t.1 t.2 (h1.ty i f g) (j.ty _ d.1 d.2)
 ·have d:=h1.rng i f g;have q:=Bt w p;have o:=h1.arc i f g x p;obtain⟨y,z,u,v⟩:=VW (l:=Am b (m i)) (e:=x.1) (by rw[o];exact(h1.rng _ q.1 q.2).1);have:=j.arc (m i) d.1 d.2 y z;rw[u,v,o]at this;exact this
theorem ZV {a:List AE} (hs:∀x∈a,WC x.2) (n:Int):WC (Am a n):=by
 unfold Am;by_cases h:n.toNat<a.length
 ·exact hs _ (AD a (0,[]) h)
 ·rw[AS,iN (by omega)];exact .nil
theorem nS {h:AI} {a:List AE} (hs:∀x∈a,WC x.2):J1 h a a id :=
 ⟨rfl,fun i c d=>⟨c,d⟩,fun i _ _=>Xz h _,fun i _ _ x b=>VV (ZV hs i) b⟩
theorem qX:∀ {l m:List (Int×Int)},WC l→WC m→(∀x,x∈l↔x∈m)→l=m
 | [],[],_,_,_=>rfl
 | [],b :: m,_,_,h=>by have:=(h b).2 (by simp);cases this
 | a :: l,[],_,_,h=>by have:=(h a).1 (by simp);cases this
 | a :: l,b :: m,h1,i,h=>by
  obtain⟨f,g⟩:=AAk.1 h1;obtain⟨b1,b2⟩:=AAk.1 i;have e:a=b:=by
   rcases By.1 ((h a).1 (by simp)) with e|e
   ·exact e
   ·rcases By.1 ((h b).2 (by simp)) with d|d
    ·exact d.symm
    ·have:=f b d;have:=b1 a e;omega
  subst e;refine AAP _ (qX g b2 fun x=>⟨fun c=>?_,fun c=>?_⟩)
  ·rcases By.1 ((h x).1 (by simp[c])) with e|e
   ·subst e;have:=f x c;omega
   ·exact e
  ·rcases By.1 ((h x).2 (by simp[c])) with e|e
   ·subst e;have:=b1 x c;omega
   ·exact e
theorem A4r {h:AI} (hu:HU h) {c V:List AE} (b:VF h c) (d:VF h V) {m p:Int→Int} (h1:J1 h c V m) (n:J1 h V c p):c=V:=by
 have key:∀ {c V:List AE},VF h c→VF h V→∀ {m p:Int→Int},J1 h c V m→J1 h V c p→c.length≤V.length→c=V:=by
  clear b d h1 n;intro c V b d m p h1 n L;have c1:=Ix hu.ok b.good b.ty d.ty b.ty h1 n;have c2:=Ix hu.ok d.good d.ty b.ty d.ty n h1;have u:∀i,0≤i→i<(c.length:Int)→p (m i)=i:=fun i s t=>jE b.ro c1 (nS b.str) i.toNat i (No _) s t;have I:∀i,0≤i→i<(V.length:Int)→m (p i)=i:=fun i s t=>jE d.ro c2 (nS d.str) i.toNat i (No _) s t;have D:∀ {A B:List AE} {f:Int→Int},Ad A→J1 h A B f→∀i,0≤i→i<(A.length:Int)→∀x∈Am A i,(x.1,f x.2)∈Am B (f i):=fun {A B f} J hf i s t x o=>by
   have r:=Bt J o;have F:=hf.arc i s t x o;obtain⟨y,C,w,v⟩:=VW (l:=Am B (f i)) (e:=x.1) (by rw[F];exact(hf.rng _ r.1 r.2).1);rw[←w,←F,←v];exact C
  have K:Iso c V m (fun i=>0≤i∧i<(c.length:Int)):=by
   refine⟨fun i hi=>?_,fun i hi a ha=>Bt b.good ha,fun i j hi E e=>?_⟩
   ·have q:=h1.rng i hi.1 hi.2;refine qX (ZV d.str _) ?_ fun x=>⟨fun o=>?_,fun o=>?_⟩
    ·unfold WC;rw[AAQ];exact ZV b.str i
    ·have g:=D d.good n (m i) q.1 q.2 x o;rw[u i hi.1 hi.2]at g;refine IS.2 ⟨_,g,?_⟩;have r:=Bt d.good o;show (x.1,m (p x.2))=x;rw[I x.2 r.1 r.2]
    ·obtain⟨y,C,rfl⟩:=IS.1 o;exact D b.good h1 i hi.1 hi.2 y C
   ·rw[←u i hi.1 hi.2,←u j E.1 E.2,e]
  have M:=b.pos;have:=WX K b.good ⟨by omega,by omega⟩ h1.zero b.pos L fun i hi=>by
   have q:=h1.rng i hi.1 hi.2;have w:=h1.ty i hi.1 hi.2;have v:=n.ty (m i) q.1 q.2;rw[u i hi.1 hi.2]at v;have G:=b.ty _ (AD c (0,[]) (k:=i.toNat) (by omega));have H:=d.ty _ (AD V (0,[]) (k:=(m i).toNat) (by omega));exact hu.inj _ _ H.1 H.2 G.1 G.2 v w
  rw[d.can,b.can]at this;exact this.symm
 rcases Nat.le_total c.length V.length with z|z
 ·exact key b d h1 n z
 ·exact(key d b n h1 z).symm
structure Qb (h:AI) (a b U:List AE):Prop where
 vf:VF h U
 left:∃m,J1 h a U m
 right:∃m,J1 h b U m
 least:∀X,Fx h X→∀m1,J1 h a X m1→∀m2,J1 h b X m2→∃m,J1 h U X m
 len:U.length≤a.length+b.length
theorem A3T {h:AI} (hu:HU h) {a b d V:List AE} (h1:Qb h a b d) (c:Qb h a b V):d=V:=by
 obtain⟨l,e⟩:=c.left;obtain⟨n,f⟩:=c.right;obtain⟨o,g⟩:=h1.left;obtain⟨p,i⟩:=h1.right;obtain⟨m,j⟩:=h1.least V c.vf.ty l e n f;obtain⟨q,k⟩:=c.least d h1.vf.ty o g p i;exact A4r hu h1.vf c.vf j k
open Classical in
noncomputable def DJ (h:AI) (a b:List AE):List AE×Bool:=if H:∃U,Qb h a b U then (H.choose,true) else ([],false)
theorem jF {h:AI} (hu:HU h) {a b U:List AE} (h1:Qb h a b U):DJ h a b=(U,true):=by
 unfold DJ;have H:∃U,Qb h a b U:=⟨U,h1⟩;rw[dif_pos H,A3T hu H.choose_spec h1]
theorem jG {h:AI} {a b:List AE} (h1:∀X,Fx h X→∀d,J1 h a X d→∀e,¬J1 h b X e):DJ h a b=([],false):=by
 unfold DJ;rw[dif_neg];rintro⟨f,c⟩;obtain⟨d,g⟩:=c.left;obtain⟨e,i⟩:=c.right;exact h1 f c.vf.ty d g e i
theorem JW {h:AI} {a b:List AE} (h1:(DJ h a b).2=true):Qb h a b (DJ h a b).1:=by
 unfold DJ at h1 ⊢;split at h1
 ·rename_i H;rw[dif_pos H];exact H.choose_spec
 ·cases h1
theorem Vh {f:List AE} {e:Int} (h:e∈Cy f):∃x∈f,∃a∈x.2,a.1=e:=by
 unfold Cy at h;obtain⟨x,c,b⟩:=List.mem_flatMap.1 h;obtain⟨a,ha,e⟩:=IS.1 b;exact⟨x,c,a,ha,e⟩
theorem A5i {h:AI} {N:List AE} {P:List (Int×Int)} {p ty:List Int} {ar:List (List (Int×Int))} (d:JI h N P p ty ar []) (g:Ad (quo p ty ar)) (m:0<N.length) (j:∀x∈N,∀a∈x.2,0≤a.1∧a.1<(h.2.length:Int)) {v:Int→Int} (c:A4q h N P (AR (quo p ty ar) (Eu p 0)) v):VF h (AR (quo p ty ar) (Eu p 0)):=by
 have f:0≤Eu p 0∧Eu p 0<((quo p ty ar).length:Int):=by
  obtain⟨n,fo⟩:=d.fo;have:=d.lp;have:=GG fo (x:=0) (by omega) (by omega) (Om fo (by omega) (by omega));rw[E6];exact this
 refine⟨c.good,c.pos,c.ty,c.str,fun x k a ha=>?_,A1L g f.1 f.2,c.ro⟩;obtain⟨y,l,b,i,e⟩:=Vh (c.feat x k a ha);rw[←e];exact j y l b i
theorem vL {h:AI} {f g:List AE} (hf:VF h f) (e:VF h g):∀x∈Cl f g,∀a∈x.2,0≤a.1∧a.1<(h.2.length:Int):=by
 intro x c;unfold Cl at c;rcases OF.1 c with c|c
 ·exact hf.ft x c
 ·obtain⟨y,i,rfl⟩:=IS.1 c;intro a ha;obtain⟨b,d,rfl⟩:=IS.1 ha;exact e.ft y i b d
theorem qY {h:AI} {f g:List AE} (hf:VF h f) (i:VF h g) {p ty:List Int} {ar:List (List (Int×Int))} (b:JI h (Cl f g) [(0,(f.length:Int))] p ty ar []) (d:Ad (quo p ty ar)):Qb h f g (AR (quo p ty ar) (Eu p 0)):=by
 have v:=hf.pos;have u:=Ft f g;have c:0<(Cl f g).length:=by omega
 have h0:=Vc b d c;have l:=Vd b d c (X6 (g:=g) X7) hf.ro h0;have n:=Vd b d c (Vf (f:=f)) i.ro (A1K b (by simp) h0);have a:=A5h b d c fun x t w=>by
  by_cases o:x<(f.length:Int)
  ·have:=l x.toNat x (No _) t o
   rwa [show ((0:Nat):Int)+x=x by omega]at this
  ·have:=n _ (x-(f.length:Int)) (No _) (by omega) (by omega)
   rwa [show (f.length:Int)+(x-(f.length:Int))=x by omega]at this
 refine⟨A5i b d c (vL hf i) a,⟨_,jC a.proj (X6 (g:=g) X7) a.zero⟩,⟨_,jC a.proj (Vf (f:=f)) (by rw[←a.proj.eq (0,(f.length:Int)) (by simp)];exact a.zero)⟩,fun X k r h1 s j=>?_,by have:=a.len;omega⟩;refine a.least X _ k (nQ (Ve hf.good i.good (NL h1) (NL j)) fun q m=>?_) ?_
 ·have e:q=(0,(f.length:Int)):=by simpa using m
  subst e;try simp only
  rw[At (by omega),As (by omega),Int.sub_self,h1.zero,j.zero]
 ·show (if (0:Int)<(f.length:Int) then r 0 else s (0-(f.length:Int)))=0;rw[At (by omega)];exact h1.zero
theorem vM {h:AI} {f g:List AE} (hf:VF h f) (c:VF h g) (d:∀X v,Fx h X→¬nM h (Cl f g) [(0,(f.length:Int))] X v):DJ h f g=([],false):=by
 have j:=hf.pos;refine jG fun X b k h1 l a=>d X _ b (nQ (Ve hf.good c.good (NL h1) (NL a)) fun q i=>?_);have e:q=(0,(f.length:Int)):=by simpa using i
 subst e;try simp only
 rw[At (by omega),As (by omega),Int.sub_self,h1.zero,a.zero]
theorem jH (l:List (Int×Int)):D7 0 l=l:=by
 unfold D7;rw[AA2 (g:=id) (fun a _=>by show (a.1,a.2+((0:Nat):Int))=a;rw[Int.natCast_zero,ACs]),List.map_id]
theorem vN (a b:Nat):Cw 0 a++Cw a b=Cw 0 (a+b):=by
 unfold Cw;rw[List.range_add,AAA,AB2]
 congr 1
 ·refine AA2 fun i _=>?_;show ((a+i:Nat):Int)=((0+(a+i):Nat):Int);rw[AAM]
theorem vO {n k:Nat} (h:k<n):(Cw 0 n).getD k 0=(k:Int):=by
 unfold Cw;rw[AS,AAl,AAZ h];show ((0+k:Nat):Int)=k;rw[AAM]
theorem Mk {n:Nat} {x:Int} (a:0≤x) (b:x<(n:Int)):Ee (Cw 0 n) x=x:=by
 unfold Ee;rw[vO (by omega)];omega
def Oq (N:List AE):List Int:=N.map (·.1)
def Vi (N:List AE):List (List (Int×Int)):=N.map (·.2)
theorem Ot (N:List AE) (k:Nat):(Oq N).getD k 0=(N.getD k (0,[])).1:=by
 unfold Oq;rw[AS,AAl,AS];cases N[k]?<;>rfl
theorem NM (N:List AE) (k:Nat):(Vi N).getD k []=(N.getD k (0,[])).2:=by
 unfold Vi;rw[AS,AAl,AS];cases N[k]?<;>rfl
theorem nT (f g:List AE):DI f f.length++DI g g.length=Oq (Cl f g):=by
 unfold DI Oq Cl;rw[f9,f9,AAA,AB2];rfl
theorem vP (f g:List AE):Fs 0 f f.length++Fs f.length g g.length=Vi (Cl f g):=by
 unfold Fs Vi Cl;rw[f9,f9,AAA,AB2]
 congr 1
 exact AA2 fun x _=>jH x.2
theorem ZW {n:Nat} {x r:Int} (a:0≤x) (b:x<(n:Int)) (h:Rt (Cw 0 n) x r):r=x:=h.det (.base (Mk a b))
theorem qZ {h:AI} {N:List AE} (l:Ad N) (m:Fx h N) (hs:∀x∈N,WC x.2):JI h N [] (Cw 0 N.length) (Oq N) (Vi N) []:=by
 have f:(Cw 0 N.length).length=N.length:=Kb 0 N.length;refine⟨m,⟨fun _=>0,fun n n0 n1=>?_,fun n n0 n1 hn=>?_⟩,f,by simp[Oq],by simp[Vi],fun w g=>(by cases g),fun x c d=>?_,fun k a ha=>?_,fun k=>?_,fun q p=>(by cases p),fun x r c d e=>?_,fun x r c d e a ha=>?_,fun X v s o=>?_⟩
 ·rw[f]at n1 ⊢;rw[Mk n0 n1];exact⟨n0,n1⟩
 ·rw[f]at n1;exact absurd (Mk n0 n1) hn
 ·rw[Ot];exact m _ (AD N (0,[]) (by omega))
 ·rw[NM]at ha;refine⟨Ka l k a ha,?_⟩;by_cases hk:k<N.length
  ·exact List.mem_flatMap.2 ⟨_,AD N (0,[]) hk,IS.2 ⟨a,ha,rfl⟩⟩
  ·rw[AS,iN (by omega)]at ha;cases ha
 ·rw[NM];have:=ZV hs (k:Int)
  rwa [Am,bY]at this
 ·rw[ZW c d e,Ot];exact Xz h _
 ·rw[ZW c d e,NM];have b:=Bt l ha;exact⟨a.2,ha,.cls b.1 b.2 b.1 b.2 (.base (Mk b.1 b.2)) (.base (Mk b.1 b.2))⟩
 ·refine⟨fun x r c d e=>by rw[ZW c d e],fun w g=>(by cases g),fun r i j _=>?_,fun r i j _ a ha=>?_⟩
  ·rw[Ot];exact o.ty r i j
  ·rw[NM]at ha;exact o.arc r i j a ha
theorem Vj {f g:List AE} (hf:Ad f) (d:Ad g) (j:f.length+g.length≤100000):Ad (Cl f g):=by
 have i:=Ft f g;refine⟨by omega,fun x c=>?_⟩;unfold Cl at c;rcases OF.1 c with c|c
 ·refine⟨(hf.2 x c).1,fun a ha=>?_⟩;have:=(hf.2 x c).2 a ha;omega
 ·obtain⟨y,e,rfl⟩:=IS.1 c;refine⟨by simp only[D7,f6];exact(d.2 y e).1,fun a ha=>?_⟩;obtain⟨b,h,rfl⟩:=IS.1 ha;have:=(d.2 y e).2 b h;simp only;omega
theorem Rg {f g:List AE} (hf:∀x∈f,WC x.2) (b:∀x∈g,WC x.2):∀x∈Cl f g,WC x.2:=by
 intro x a;unfold Cl at a;rcases OF.1 a with a|a
 ·exact hf x a
 ·obtain⟨y,c,rfl⟩:=IS.1 a;unfold WC D7;rw[AAQ];exact b y c
theorem jI {h:AI} {f g:List AE} (hf:Fx h f) (b:Fx h g):Fx h (Cl f g):=by
 intro x a;unfold Cl at a;rcases OF.1 a with a|a
 ·exact hf x a
 ·obtain⟨y,c,rfl⟩:=IS.1 a;exact b y c
def vQ (N:List AE):Prop:=∀x∈N,∀a∈x.2,0≤a.1∧a.1<64
theorem jJ {f g:List AE} (hf:vQ f) (e:vQ g):vQ (Cl f g):=by
 intro x c;unfold Cl at c;rcases OF.1 c with c|c
 ·exact hf x c
 ·obtain⟨y,h,rfl⟩:=IS.1 c;intro a ha;obtain⟨b,d,rfl⟩:=IS.1 ha;exact e y h b d
theorem nU {l:List (Int×Int)} (h:WC l) (hf:∀a∈l,0≤a.1∧a.1<64):l.length≤64:=by
 have:=ZT h (S:=(List.range 64).map fun(i:Nat)=>(i:Int)) (fun a ha=>IS.2 ⟨a.1.toNat,nO.2 (by have:=hf a ha;omega),by have:=hf a ha;omega⟩)
 rwa [f6,ABZ]at this
theorem nV {N:List AE} (h:∀x∈N,x.2.length≤64):(Cy N).length≤64*N.length:=by
 induction N with
 | nil=>simp[Cy]
 | cons x N b =>
  have h1:=h x (by simp);have c:=b fun y a=>h y (by simp[a]);have e:Cy (x :: N)=x.2.map (·.1)++Cy N:=rfl;rw[e,IN,f6,Of];omega
theorem vR {N:List AE} (h:vQ N) {e:Int} (b:e∈Cy N):0≤e∧e<64:=by
 obtain⟨x,c,a,ha,rfl⟩:=Vh b;exact h x c a ha
theorem jK {h:AI} {N:List AE} {P:List (Int×Int)} {p ty:List Int} {ar:List (List (Int×Int))} (c:JI h N P p ty ar []) (k:N.length≤100000) (hf:vQ N):Ad (quo p ty ar):=by
 have g:=E6 p ty ar;obtain⟨l,fo⟩:=c.fo;have lp:=c.lp;refine⟨by omega,fun x j=>?_⟩;obtain⟨i,hi,rfl⟩:=CT (0,[]) j;have e:=NK (p:=p) (ty:=ty) (ar:=ar) (n:=(i:Int)) (by omega) (by omega);rw[bY]at e;rw[e];refine⟨?_,fun a ha=>?_⟩
 ·simp only[f6];have:=nU (c.srt i) (fun a ha=>vR hf (c.arr i a ha).2);omega
 ·obtain⟨b,f,rfl⟩:=IS.1 ha;have d:=(c.arr i b f).1;have:=GG fo (x:=b.2) d.1 (by omega) (Om fo d.1 (by omega));rw[g];exact this
theorem VF.ft64 {h:AI} {f:List AE} (b:VF h f) (hu:HU h):vQ f:=fun x c a ha=>by
 have h1:=b.ft x c a ha;have d:=hu.ft;omega
def A8a (d:List AH) (o:List ByteArray) (i:Nat):Prop:=∀j,j<i→∀x∈d,AX x.2.1 (o.getD j ByteArray.empty)=true→AX o x.1=true
theorem A1M {c:ByteArray} {o:List ByteArray} {x:AH} (h:AX x.2.1 c=true):AX (FJ c o x) x.1=true:=by
 unfold FJ;split
 ·rw[OQ,Cr,Bool.or_true]
 ·rename_i a;rw[h,ABV,OR]at a;simpa using a
theorem X8 {c:ByteArray} {x:AH} (h:AX x.2.1 c=true):∀ {l:List AH} {o:List ByteArray},x∈l→AX (l.foldl (FJ c) o) x.1=true
 | [],_,a=>by cases a
 | y :: l,o,a=>by
  rw[Rp];rcases By.1 a with rfl|a
  ·exact KO (fun z b=>M9 b) (A1M h)
  ·exact X8 h a
theorem Vk {d:List AH}:∀ {n i:Nat} {o:List ByteArray},Yv d o→d.length≤n+i→A8a d o i→i≤o.length→∃m,A8a d (Cg d n i o) m∧(Cg d n i o).length≤m
 | 0,i,o,ha,f,a,hi=>⟨i,a,by
  have:=ha.len;show o.length≤i;omega⟩
 | n+1,i,o,ha,f,a,hi=>by
  unfold Cg;split
  ·rename_i q;obtain⟨c,k⟩:=UW (o.getD i ByteArray.empty) (l:=d) (o:=o) (fun _ h=>h) ha;refine Vk c (by omega) (fun j p x b hs=>?_) (by omega);rw[RE _ (by omega)]at hs;by_cases e:j=i
   ·subst e;exact X8 hs b
   ·exact KO (fun z g=>M9 g) (a j (by omega) x b hs)
  ·exact⟨i,a,by omega⟩
theorem Rh {α:Type} {p:α→Bool}:∀ {l:List α},l.countP p=1→∀x∈l,p x=true→∀y∈l,p y=true→x=y
 | [],h,x,a,_,_,_,_=>by cases a
 | z :: l,h,x,a,c,y,b,d=>by
  rw[AB5]at h;by_cases f:p z=true
  ·rw[At f]at h;have h0:l.countP p=0:=by omega
   rw[List.countP_eq_zero]at h0;have g:x=z:=by
    rcases By.1 a with e|a
    ·exact e
    ·exact absurd c (h0 x a)
   have i:y=z:=by
    rcases By.1 b with e|b
    ·exact e
    ·exact absurd d (h0 y b)
   rw[g,i]
  ·rw[As f]at h;have a:x∈l:=by
    rcases By.1 a with e|a
    ·rw[e]at c;exact absurd c f
    ·exact a
   have b:y∈l:=by
    rcases By.1 b with e|b
    ·rw[e]at d;exact absurd d f
    ·exact b
   exact Rh (by omega) x a c y b d
theorem Vl (s:ByteArray):∀(l:List AH) (k:Nat),0≤Cq s k l→∃x∈l,Aa x.1 s=true
 | [],k,h=>by
  simp only[Cq]at h;omega
 | y :: l,k,h=>by
  simp only[Cq]at h;split at h
  ·rename_i e;exact⟨y,by simp,e⟩
  ·obtain⟨x,a,e⟩:=Vl s l (k+1) h;exact⟨x,by simp[a],e⟩
theorem nW {d:List AH} (t:A4 d=0):∃r∈d,∀x∈d,AX (Ci d r.1) x.1=true:=by
 obtain⟨hs,I,h1,hn,l⟩:=Aw t;have C:0<d.countP fun x=>x.2.1.length==0:=by
  have:Ia d=d.countP fun x=>x.2.1.length==0:=rfl;omega
 obtain⟨r,c,q⟩:=List.countP_pos_iff.1 C;refine⟨r,c,?_⟩;have D:=Da c;have u:Yv d [r.1]:=⟨fun s hs=>by
  have:s=r.1:=by simpa using hs
  rw[this];exact D,by simp⟩
 obtain⟨m,B,J⟩:=Vk (d:=d) (n:=d.length) (i:=0) u (by omega) (fun j A=>by omega) (by omega);have p:r.1∈Cg d d.length 0 [r.1]:=LH (by simp);have v:Ci d r.1=KM (Cg d d.length 0 [r.1]):=by unfold Ci;rw[As (by omega)]
 rw[v];generalize Cg d d.length 0 [r.1]=o at *;have key:∀(k:Nat) (x:AH),x∈d→GL d x.1≤k→AX o x.1=true:=by
  intro k;induction k with
  | zero =>
   intro x a hk;by_cases g:x.2.1.length=0
   ·have e:=Rh h1 x a (by simpa using g) r c q;rw[e];exact Fl p
   ·obtain⟨s,b⟩:∃s,s∈x.2.1:=AC8 (by omega);have:=LG hn l a (Fl b);omega
  | succ k H =>
   intro x a hk;by_cases g:x.2.1.length=0
   ·have e:=Rh h1 x a (by simpa using g) r c q;rw[e];exact Fl p
   ·obtain⟨s,b⟩:∃s,s∈x.2.1:=AC8 (by omega);have E:=LG hn l a (Fl b);obtain⟨y,G,e⟩:=Vl s d 0 (hs x a s b);rw[←Ig d e]at E;obtain⟨z,h,f⟩:=TO.1 (H y G (by omega));obtain⟨j,A,rfl⟩:=CT ByteArray.empty h;refine B j (by omega) x a ?_;exact TO.2 ⟨s,b,Dw (BE f e)⟩
 intro x a;obtain⟨z,h,e⟩:=TO.1 (key _ x a (No _));obtain⟨w,F,f⟩:=TO.1 (P0 (o:=[]) h);exact TO.2 ⟨w,F,BE f e⟩
abbrev cnt (c:List Int):Nat:=(IW c).length
theorem A1O {w:Int} (a:U64 w) {r:Nat} (d:r<64):A0k w (r:Int)=w.toNat.testBit r:=by
 have h0:=a.1;have h1:=a.2;have c:w.toNat / 2 ^ r≤w.toNat:=Nat.div_le_self _ _;have e:WE .u64 w (r:Int)=((w.toNat / 2 ^ r:Nat):Int):=by
  unfold WE;have b:min ((r:Int)).toNat IntKind.u64.bits=r:=by
   show min ((r:Int)).toNat 64=r;omega
  have hp:(0:Int)≤2 ^ r:=Int.le_of_lt (Int.pow_pos (by decide));rw[b,ABK _ hp,Int.natCast_ediv,AAG h0];simp
 unfold A0k;rw[Nat.testBit_eq_decide_div_mod_eq,e];generalize w.toNat / 2 ^ r=z at *;rw[Id ⟨by omega,by omega⟩ ⟨by decide,by decide⟩,bY,show (1:Int).toNat=1 from rfl,Nat.and_one_is_mod,ABi,tO,DO];omega
theorem TP {b:List Int} (d:Ie b) (i:Nat):RB b (i:Int)=A9 b i:=by
 have a:Int.tdiv (i:Int) 64=((i / 64:Nat):Int):=by rw[AAu (by omega)];omega
 have c:Int.tmod (i:Int) 64=((i % 64:Nat):Int):=by rw[ABl (by omega)];omega
 unfold RB A9;rw[a,c,bY];by_cases hk:i / 64<b.length
 ·rw[As (by rw[iS,DO,DO];omega),A1O (BF d _) (by omega)]
 ·rw[At (by rw[iS,DO,DO];omega),HA hk];simp
theorem jL (c:List Int):(IW c).Nodup:=by
 unfold IW Nn List.Nodup;rw[AAQ];refine List.Pairwise.imp (fun h e=>h ?_) (List.Pairwise.filter _ List.nodup_range);exact ACd e
theorem NN {c:List Int} (b:Ie c) {x:Int}:x∈IW c↔∃i:Nat,x=(i:Int)∧A9 c i=true:=by
 unfold IW Nn;rw[IS];constructor
 ·rintro⟨i,hi,rfl⟩;rw[AAj]at hi;exact⟨i,rfl,by rw[←TP b];exact hi.2⟩
 ·rintro⟨i,rfl,a⟩;refine⟨i,AAj.2 ⟨nO.2 ?_,by rw[TP b];exact a⟩,rfl⟩;refine Do fun d=>?_;unfold A9 at a;rw[HA (by omega)]at a;simp at a
theorem A5j {a b:List Int} (ha:Ie a) (f:Ie b) (h:∀i,A9 a i=true→A9 b i=true) (g:cnt b≤cnt a) (i:Nat) (hi:A9 b i=true):A9 a i=true:=by
 refine Do fun hn=>?_;have c:(i:Int)∉IW a:=fun k=>by
  obtain⟨j,e,d⟩:=(NN ha).1 k;have:i=j:=ACd e;rw[this]at hn;exact hn d
 have:=Rd (l:=(i:Int) :: IW a) (l':=IW b) (AAd.2 ⟨c,jL a⟩) fun x c=>by
  rcases By.1 c with rfl|c
  ·exact(NN f).2 ⟨i,rfl,hi⟩
  ·obtain⟨j,rfl,d⟩:=(NN ha).1 c;exact(NN f).2 ⟨j,rfl,h j d⟩
 rw[Of]at this;unfold cnt at g;omega
theorem Vm (x:AQ) (out:List AQ):∀n,(Fm x out n=0→n=0∨F7 x (out.getD 0 c0)=true)∧∀k,Fm x out n=k+1→F7 x (out.getD k c0)=false
 | 0=>⟨fun _=>.inl rfl,fun k h=>by simp[Fm]at h⟩
 | n+1=>by
  obtain⟨h1,b⟩:=Vm x out n;unfold Fm;split
  ·rename_i a;refine⟨fun e=>?_,b⟩;rcases h1 e with e|e
   ·subst e;exact .inr a
   ·exact .inr e
  ·rename_i a;refine⟨fun e=>by omega,fun k e=>?_⟩;have:n=k:=by omega
   subst this;simpa using a
theorem jM {a b:AQ} (h:F7 a b=true):cnt b.2≤cnt a.2:=by
 unfold F7 at h;rw[iS,AT,DO,tO]at h;unfold cnt;omega
theorem ZX {a b:AQ} (h:F7 a b=false):cnt a.2≤cnt b.2:=by
 unfold F7 at h;rw[AAp,On]at h;unfold cnt;omega
def HM (out:List AQ):Prop:=∀y∈out,cnt y.2≤cnt (out.getD 0 c0).2
theorem A3U {out:List AQ} (h:HM out) (x:AQ):HM (Y4 out x):=by
 obtain⟨s1,s2⟩:=Vm x out out.length;have b:=f8 x out out.length;intro y a;rw[gE]at a;unfold Y4;cases hk:Fm x out out.length with
 | zero =>
  rw[AAO,AA6,AB7];have e:([x]++out).getD 0 c0=x:=rfl;rw[e];rcases a with rfl|a
  ·exact No _
  ·have h1:=h y a;rcases s1 hk with e|e
   ·rw[So e]at a;cases a
   ·exact aT h1 (jM e)
 | succ k =>
  have c:=ZX (s2 k hk);rw[hk]at b;have e:(out.take (k+1)++[x]++out.drop (k+1)).getD 0 c0=out.getD 0 c0:=by
   cases out with
   | nil=>simp at b
   | cons z out=>rfl
  rw[e];rcases a with rfl|a
  ·exact aT c (h _ (BC (by omega)))
  ·exact h y a
theorem jN {d:List AH}:∀ {l:List (List Int)} {o:List AQ},HM o→HM (l.foldl (RJ d) o)
 | [],_,h=>h
 | b :: l,o,h=>by
  rw[Rp];exact jN (A3U h _)
def In (n:Nat) (c:List Int):Prop:=Ie c∧∀i,A9 c i=true→i<n
theorem A5k (n:Nat):In n []:=⟨fun x a=>(by cases a),fun i hi=>by unfold A9 at hi;simp at hi⟩
theorem A5l {n:Nat} {a b:List Int} (ha:In n a) (c:In n b):In n (Ed a b) :=
 ⟨QN ha.1 c.1,fun i hi=>by
  rw[QM ha.1 c.1,AT]at hi;exact ha.2 i hi.1⟩
theorem q9 {n:Nat} {l:List (List Int)} (h:∀c∈l,In n c) (k:Nat):In n (l.getD k []):=by
 by_cases hk:k<l.length
 ·exact h _ (BC hk)
 ·rw[RR hk];exact A5k n
theorem A3V {n:Nat} {l:List (List Int)} (h:∀c∈l,In n c) (i k:Nat):∀c∈Gd l i k,In n c:=by
 intro c a;unfold Gd at a;split at a
 ·rcases OF.1 a with a|a
  ·exact h c a
  ·have:c=Ed (l.getD i []) (l.getD k []):=by simpa using a
   rw[this];exact A5l (q9 h i) (q9 h k)
 ·exact h c a
theorem rA {q i:Nat}:∀ {n k:Nat} {l:List (List Int)},(∀c∈l,In q c)→∀c∈Ge i n k l,In q c
 | 0,_,_,h=>h
 | n+1,k,l,h=>by
  unfold Ge;split
  ·exact rA (A3V h i k)
  ·exact h
theorem ZY {q:Nat}:∀ {n i:Nat} {l:List (List Int)},(∀c∈l,In q c)→∀c∈Ic n i l,In q c
 | 0,_,_,h=>h
 | n+1,i,l,h=>by
  unfold Ic;split
  ·exact ZY (rA h)
  ·exact h
def vS (h:AI):Prop:=∀t,0≤t→t<(h.1.length:Int)→BG h 0 t=true
theorem Ml (d:List AH):vS (Az d).1:=by
 have hk:=HB d;unfold Az at hk ⊢;split
 ·intro t h0 h1;simp at h1;omega
 ·rename_i a;rw[As a]at hk;have a:(A8 d).2=0:=Do a;have E:Av d=0:=by
   unfold A8 at a;split at a
   ·rename_i h;exact absurd a h
   ·rename_i h;exact Do h
  obtain⟨O,-,-⟩:=B9 E;obtain⟨m,Q,-⟩:=BS O;obtain⟨-,D,-,hn,P⟩:=Aw m;have L:=Dv d d.length;rw[f9]at L;have j:(AN d).length≤4096:=by omega
  obtain⟨r,z,G⟩:=nW m;have g:∀c∈Au (AU d),In (AN d).length c:=ZY fun c k=>by
   obtain⟨s,hs,rfl⟩:=IS.1 k;exact⟨(Bq (d:=d) j s 0).2.1,fun i hi=>((Bq (d:=d) j s i).1.1 hi).1⟩
  obtain⟨s,hs,C⟩:=TO.1 (OY z);have M:s=r.1:=by
   obtain⟨x,f,rfl⟩:=Cs hs;rw[Py hn f z C]
  subst M;have p:Eq d (AN d) r.1∈Au (AU d):=by
   have hp:AU d <+: Au (AU d):=QK 257 0 (AU d);exact hp.subset (IS.2 ⟨_,hs,rfl⟩)
  have n:∀i,i<(AN d).length→A9 (Eq d (AN d) r.1) i=true:=fun i hi=>by
   refine(Bq (d:=d) j r.1 i).1.2 ⟨hi,?_⟩;obtain⟨x,f,e⟩:=Cs (BC (d:=ByteArray.empty) hi);rw[←e];exact G x f
  have F:HM (AL d):=jN fun y N=>by cases N
  have v:=Db.2 ⟨_,p,rfl⟩;have w:0<(AL d).length:=ABk v;have u:=F _ v;obtain⟨b,o,l⟩:=Db.1 (BC (d:=c0) w);rw[l]at u;have J:=A5j (g b o).1 (g _ p).1 (fun i hi=>n i ((g b o).2 i hi)) u;have I:Bl (Bk d) 0=b:=by
   show ((EY (AL d) _ _).getD 0 WT).2.1=b;have:(EY (AL d) (A8 d).1 (AL d).length).getD 0 WT=(((AL d).getD 0 c0).1,((AL d).getD 0 c0).2,XW (AL d) ((0:Nat):Int),(A8 d).1.getD 0 []):=by
    unfold EY;rw[AS,AAl,AAZ w];rfl
   rw[this,l]
  have R:(Bk d).1.length=(AL d).length:=KR _ _ _;intro t A B;refine(B5 hk (by omega) (by show (0:Int)<((Bk d).1.length:Int);omega) A B).2 fun i hi=>?_;show A9 (Bl (Bk d) 0) i=true;rw[I];refine J i (n i ?_);have H:=DV A B;have K:Bl (Bk d) t∈Au (AU d):=by
   have e:((Bk d).1.map fun t=>t.2.1)=(AL d).map fun x=>x.2:=by
    show ((EY _ _ _).map fun t=>t.2.1)=_;unfold EY;rw[AB2];apply AA8
    ·simp
    ·intro i h1 D;simp[AS,show i<(AL d).length by simpa using h1]
   have q:Bl (Bk d) t∈(Bk d).1.map fun t=>t.2.1:=H;rw[e]at q;obtain⟨x,f,ex⟩:=IS.1 q;obtain⟨c,k,rfl⟩:=Db.1 f;rw[←ex];exact k
  exact(g _ K).2 i hi
theorem Vn (d:List AH):Nd ((Az d).1.1.map fun t=>t.2.1):=by
 unfold Az;split
 ·exact⟨.nil,fun c h=>(by cases h)⟩
 ·rename_i a;have a:(A8 d).2=0:=Do a;have g:Av d=0:=by
   unfold A8 at a;split at a
   ·rename_i h;exact absurd a h
   ·rename_i h;exact Do h
  obtain⟨m,-,-⟩:=B9 g;obtain⟨f,o,-⟩:=BS m;have hf:Nd (Au (AU d)):=TD (RS f);have e:((Bk d).1.map fun t=>t.2.1)=(AL d).map fun x=>x.2:=by
   show ((EY _ _ _).map fun t=>t.2.1)=_;unfold EY;rw[AB2];apply AA8
   ·simp
   ·intro i h1 n;simp[AS,show i<(AL d).length by simpa using h1]
  show Nd ((Bk d).1.map fun t=>t.2.1);rw[e];refine⟨MY (by simpa using hf.nd),fun c k=>?_⟩;obtain⟨x,l,rfl⟩:=IS.1 k;obtain⟨b,j,rfl⟩:=Db.1 l;exact hf.nrm b j
section
open Go
end
structure CI (n:Nat) (o:List Int) (ar:List (List (Int×Int))) (W:List (Int×Int)):Prop where
 lo:o.length=n
 la:ar.length=n
 rep:∀k:Nat,k<n→0≤o.getD k 0∧o.getD k 0≤(k:Int)∧o.getD (o.getD k 0).toNat 0=o.getD k 0
 wr:∀w∈W,(0≤w.1∧w.1<(n:Int))∧(0≤w.2∧w.2<(n:Int))
 ta:∀k,∀a∈ar.getD k [],0≤a.2∧a.2<(n:Int)
theorem CI.rng {n:Nat} {o:List Int} {ar:List (List (Int×Int))} {W:List (Int×Int)} (h:CI n o ar W) {x:Int} (c:0≤x) (d:x<(n:Int)):0≤o.getD x.toNat 0∧o.getD x.toNat 0<(n:Int)∧o.getD (o.getD x.toNat 0).toNat 0=o.getD x.toNat 0:=by
 obtain⟨h1,b,a⟩:=h.rep x.toNat (by omega);exact⟨h1,by omega,a⟩
section
variable {n:Nat} {o:List Int} {ar:List (List (Int×Int))} {W:List (Int×Int)} {x y:Int}
end
section
attribute [local go_sem] UU A0n
def A4s (b:List Int):List MP→Nat→Int×Bool
 | [],_=>(0,false)
 | t :: r,k=>if t.2.1=b then ((k:Int),true) else A4s b r (k+1)
def A1P (h:AI) (a b:Int):Int×Bool:=A4s (Ed (Bl h a) (Bl h b)) h.1 0
end
section
def A8b (h:AI) (l:List AE) (c:List Int):Nat→Option (List Int)
 | 0=>some (List.replicate l.length 0)
 | i+1=>match A8b h l c i with
  | none=>none
  | some o=>if (A1P h (o.getD (c.getD i 0).toNat 0) (l.getD i (0,[])).1).2=true then some (o.set (c.getD i 0).toNat (A1P h (o.getD (c.getD i 0).toNat 0) (l.getD i (0,[])).1).1) else none
def A1Q (h:AI) (l:List AE) (c:List Int):List Int×Bool:=match A8b h l c l.length with
 | none=>([],false)
 | some o=>((List.range l.length).map fun(k:Nat)=>o.getD (c.getD k 0).toNat 0,true)
def A8N (n:Nat) (c:List Int):Prop:=c.length=n∧∀k:Nat,k<n→0≤c.getD k 0∧c.getD k 0≤(k:Int)∧c.getD (c.getD k 0).toNat 0=c.getD k 0
def A1R:Ae:={ ins:=[Ga,F6,Kh],pre:=fun(h,l,c,_)=>A8N (List.length l) c∧Fx h l∧0<List.length (h:AI).1∧List.length l≤100000∧(∀x∈(h:AI).1,x.2.1.length≤100000),out:=fun(h,l,c,_)=>[.p Kh (A1Q h l c).1,.p .bool (A1Q h l c).2] }
attribute [local go_sem] A1R
end
section
attribute [local go_sem] pZ
attribute [local go_sem] UO k5 ne_eq not_false_eq_true
end
inductive EQ (n:Nat) (o:List Int) (W:List (Int×Int)):Int→Int→Prop
 | cls {x y:Int} (x0:0≤x) (x1:x<(n:Int)) (y0:0≤y) (y1:y<(n:Int)) (h:o.getD x.toNat 0=o.getD y.toNat 0):EQ n o W x y
 | wt {x y:Int} (h:(x,y)∈W):EQ n o W x y
 | symm {x y:Int} (h:EQ n o W x y):EQ n o W y x
 | trans {x y z:Int} (h:EQ n o W x y) (g:EQ n o W y z):EQ n o W x z
theorem EQ.mono {n:Nat} {o b:List Int} {W a:List (Int×Int)} (h1:∀x y,0≤x→x<(n:Int)→0≤y→y<(n:Int)→o.getD x.toNat 0=o.getD y.toNat 0→EQ n b a x y) (c:∀x y,(x,y)∈W→EQ n b a x y) {x y:Int} (h:EQ n o W x y):EQ n b a x y:=by
 induction h with
 | cls g i j k h=>exact h1 _ _ g i j k h
 | wt h=>exact c _ _ h
 | symm _ d=>exact .symm d
 | trans _ _ e f=>exact .trans e f
theorem EQ.nil {n:Nat} {o:List Int} {x y:Int} (h:EQ n o [] x y):o.getD x.toNat 0=o.getD y.toNat 0:=by
 induction h with
 | cls _ _ _ _ h=>exact h
 | wt h=>cases h
 | symm _ a=>exact a.symm
 | trans _ _ b c=>exact b.trans c
section
variable {h:AI} {N:List AE} {P:List (Int×Int)} {o:List Int} {ar:List (List (Int×Int))} {W:List (Int×Int)} {w:Int×Int}
end
def A5m (h:AI):Prop:=∀t∈h.1,Nrm t.2.1
section
variable {h:AI} {N:List AE} {c:List Int}
end
section
variable {d:List AH}
theorem Kd (d:List AH):((Bk d).1.map fun t=>t.2.1)=(AL d).map fun x=>x.2:=by
 show ((EY _ _ _).map fun t=>t.2.1)=_;unfold EY;rw[AB2];apply AA8
 ·simp
 ·intro i h1 a;simp[AS,show i<(AL d).length by simpa using h1]
theorem ZZ (d:List AH):(Bk d).1.length=(AL d).length:=KR _ _ _
theorem A1S (d:List AH) {k:Nat} (hk:k<(AL d).length):(Bk d).1.getD k WT=(((AL d).getD k c0).1,((AL d).getD k c0).2,XW (AL d) (k:Int),(A8 d).1.getD k []):=by
 unfold Bk EY;simp[AS,hk]
theorem NP (d:List AH) {t:Int} (a:0≤t) (b:t<((AL d).length:Int)):Bl (Bk d) t=((AL d).getD t.toNat c0).2:=by
 unfold Bl;rw[A1S d (by omega)]
theorem jO (a:Av d=0):(A8 d).2=0∧(A8 d).1=KQ d (AL d) (BM d) (AL d).length:=by
 unfold A8;rw[As (by rw[a];simp)];exact⟨rfl,rfl⟩
theorem TQ (a:Av d=0):(Az d).1=Bk d:=by
 unfold Az;rw[As (by rw[(jO a).1];simp)]
theorem A4t (b:Av d=0):Jw (Bk d)∧Nd ((Bk d).1.map fun t=>t.2.1):=by
 have h1:=HB d;have a:=Vn d;rw[TQ b]at h1 a;exact⟨h1,a⟩
theorem Vo (a:Av d=0):(Bk d).2=(BM d).map (QD d):=by
 unfold Bk EM;rw[As (by rw[a];simp)]
theorem A1T (a:Av d=0) {t:Int} (b:0≤t) (c:t<((AL d).length:Int)):Jx (Bk d) t=Sk d (AL d) (BM d) t.toNat (BM d).length:=by
 unfold Jx;rw[A1S d (by omega)];show (A8 d).1.getD t.toNat []=_;rw[(jO a).2];unfold KQ;simp[AS,show t.toNat<(AL d).length by omega]
theorem nX (a:Av d=0):A4 d=0∧(B1 d).1=AL d∧LJ d=0∧(∀s∈BM d,(Dd d s).2=true)∧Ij d (AL d) (BM d) (AL d).length=false:=by
 obtain⟨b,-,f⟩:=B9 a;obtain⟨e,-,c⟩:=BS b;refine⟨e,c,f,?_,?_⟩
 ·unfold Av at a;split at a
  ·rename_i h;exact absurd b h
  ·split at a
   ·cases a
   ·split at a
    ·rename_i h;exact absurd a h
    ·split at a
     ·cases a
     ·rename_i h;exact GO.1 (by simpa using h)
 ·unfold Av at a;split at a
  ·rename_i h;exact absurd b h
  ·split at a
   ·cases a
   ·split at a
    ·rename_i h;exact absurd a h
    ·split at a
     ·cases a
     ·split at a
      ·cases a
      ·rename_i h;rw[c]at h;simpa using h
def Cd (l:List (List Int)) (c:List Int):Prop:=c=[]∨c∈l
theorem A1U {l:List (List Int)} (hk:JR l) {c:List Int} (h:Cd l c):Ie c:=by
 rcases h with rfl|h
 ·exact fun x a=>by cases a
 ·exact hk.wds c h
theorem A5n {l:List (List Int)} (hk:JR l) (hn:Nd l) {a b:List Int} (ha:Cd l a) (j:b∈l):Cd l (Ed a b):=by
 have f:=A1U hk ha;have g:=hk.wds b j;have m:Nrm (Ed a b):=by unfold Ed;exact Og _
 have k:=fun i=>QM f g i;by_cases hi:∃i,A9 a i=true∧A9 b i=true
 ·rcases ha with rfl|ha
  ·obtain⟨i,h1,-⟩:=hi;unfold A9 at h1;simp at h1
  ·obtain⟨t,d,e⟩:=hk.meet a ha b j hi;right;rw[mP (QN f g) (hk.wds t d) m (hn.nrm t d) fun i=>by rw[k,e]];exact d
 ·left;refine Do fun n=>?_;unfold Ed at n;have o:Ie (Ed a b):=QN f g;have:∃i,A9 (Ed a b) i=true:=by
   have c:=m;rcases c with c|c
   ·exact absurd (So c) n
   ·exact gV o c
  obtain⟨i,h⟩:=this;rw[k,AT]at h;exact hi ⟨i,h⟩
def UsD (d:List AH) (t:Int) (s:ByteArray) (x:AH):Prop:=(DG x s).2=true∧BG (Bk d) (BL (AL d) x.1) t=true
def vcD (d:List AH) (s:ByteArray) (x:AH):List Int:=((AL d).getD (BL (AL d) (DG x s).1).toNat c0).2
theorem TR (hn:l6 d (AL d)) {x:AH} (a:x∈d):0≤BL (AL d) x.1∧BL (AL d) x.1<((AL d).length:Int):=⟨hn.1 x a,Ii _ _⟩
theorem A1V (hn:l6 d (AL d)) {x:AH} (b:x∈d) {s:ByteArray} (a:(DG x s).2=true):0≤BL (AL d) (DG x s).1∧BL (AL d) (DG x s).1<((AL d).length:Int):=⟨hn.value b a,Ii _ _⟩
theorem rE (d:List AH) {k:Int} (a:0≤k) (b:k<((AL d).length:Int)):((AL d).getD k.toNat c0).2∈(AL d).map fun x=>x.2:=IS.2 ⟨_,BC (by omega),rfl⟩
theorem vT (hk:Jw (Bk d)) {a t:Int} (a0:0≤a) (f:a<((AL d).length:Int)) (b:0≤t) (g:t<((AL d).length:Int)):Le (AL d) a t=BG (Bk d) a t:=by
 have i:=ZZ d;have c:a<((Bk d).1.length:Int):=by omega
 have e:t<((Bk d).1.length:Int):=by omega
 have h:=hk.1.wds _ (DV a0 c);have wt:=hk.1.wds _ (DV b e);rw[ABi];unfold Le;rw[←NP d a0 f,←NP d b g,Gg wt h];exact(B5 hk a0 c b e).symm
theorem Za (hk:Jw (Bk d)) (h:Nd ((Bk d).1.map fun t=>t.2.1)) (hn:l6 d (AL d)) {t:Int} (p:0≤t) (q:t<((AL d).length:Int)) (s:ByteArray):∀(r:List AH) (o:List Int×Bool),(∀x∈r,x∈d)→Cd ((AL d).map fun x=>x.2) o.1 →
  Cd ((AL d).map fun x=>x.2) (r.foldl (KP (AL d) t s) o).1∧((r.foldl (KP (AL d) t s) o).2=true↔o.2=true∨∃x∈r,UsD d t s x)∧∀i,A9 (r.foldl (KP (AL d) t s) o).1 i=true↔A9 o.1 i=true∧∀x∈r,UsD d t s x→A9 (vcD d s x) i=true
 | [],o,_,g=>⟨g,by simp,fun i=>by simp⟩
 | x :: r,o,n,g=>by
  rw[Kd]at h;have m:JR ((AL d).map fun x=>x.2):=by have:=hk.1;rwa [Kd]at this
  have w:=n x (by simp);obtain⟨n0,n1⟩:=TR hn w;have u:=vT hk n0 n1 p q;rw[Rp];by_cases hu:UsD d t s x
  ·obtain⟨v0,v1⟩:=A1V hn w hu.1;have e:KP (AL d) t s o x=(Ed o.1 (vcD d s x),true):=by
    unfold KP;rw[As]
    ·rfl
    ·rw[hu.1,u,hu.2];simp
   have v:vcD d s x∈(AL d).map fun x=>x.2:=rE d v0 v1;obtain⟨h1,k,l⟩:=Za hk (by rw[Kd];exact h) hn p q s r (KP (AL d) t s o x) (fun y f=>n y (by simp[f])) (by rw[e];exact A5n m h g v);refine⟨h1,?_,fun i=>?_⟩
   ·rw[k,e];exact⟨fun _=>.inr ⟨x,by simp,hu⟩,fun _=>.inl rfl⟩
   ·rw[l,e];simp only;rw[QM (A1U m g) (m.wds _ v),AT];constructor
    ·rintro⟨⟨a,b⟩,c⟩;refine⟨a,fun y f j=>?_⟩;rcases By.1 f with rfl|f
     ·exact b
     ·exact c y f j
    ·rintro⟨a,b⟩;exact⟨⟨a,b x (by simp) hu⟩,fun y f=>b y (by simp[f])⟩
  ·have e:KP (AL d) t s o x=o:=by
    unfold KP;rw[At];rw[u];unfold UsD at hu;cases h1:(DG x s).2 with
    | false=>simp
    | true =>
     rw[h1]at hu;have:BG (Bk d) (BL (AL d) x.1) t=false:=by simpa using hu
     rw[this];simp
   obtain⟨h1,k,l⟩:=Za hk (by rw[Kd];exact h) hn p q s r (KP (AL d) t s o x) (fun y f=>n y (by simp[f])) (by rw[e];exact g);refine⟨h1,?_,fun i=>?_⟩
   ·rw[k,e];constructor
    ·rintro (a|⟨y,f,a⟩)
     ·exact .inl a
     ·exact .inr ⟨y,by simp[f],a⟩
    ·rintro (a|⟨y,f,a⟩)
     ·exact .inl a
     ·rcases By.1 f with rfl|f
      ·exact absurd a hu
      ·exact .inr ⟨y,f,a⟩
   ·rw[l,e];constructor
    ·rintro⟨a,b⟩;refine⟨a,fun y f j=>?_⟩;rcases By.1 f with rfl|f
     ·exact absurd j hu
     ·exact b y f j
    ·rintro⟨a,b⟩;exact⟨a,fun y f=>b y (by simp[f])⟩
theorem Vp {b:List Int}:∀ {l:List AQ} {k:Nat},(∃x∈l,x.2=b)→∃j:Nat,j<l.length∧Ps b k l=((k+j:Nat):Int)∧(l.getD j c0).2=b
 | [],k,⟨x,a,_⟩=>by cases a
 | y :: l,k,⟨x,a,e⟩=>by
  unfold Ps;by_cases h:Hb y.2 b=true
  ·rw[At h];exact⟨0,by simp,rfl,by simpa[Hb] using h⟩
  ·rw[As h];rcases By.1 a with rfl|a
   ·exact absurd (by simpa[Hb] using e) h
   ·obtain⟨j,h1,c,d⟩:=Vp (k:=k+1) ⟨x,a,e⟩;exact⟨j+1,by simp only[Of];omega,by rw[c];congr 1;omega,by simpa using d⟩
theorem nY {b:List Int} (h:Nrm b):BK b=b:=by
 unfold BK;have:Ca b b.length=b.length:=by
  rcases h with h|h
  ·rw[h];rfl
  ·cases e:b.length with
   | zero=>rfl
   | succ m =>
    rw[e]at h;show (if b.getD m 0=0 then Ca b m else m+1)=m+1;rw[As (by simpa using h)]
 rw[this,f9]
theorem Qc (b:Av d=0) {t:Int} (z:0≤t) (J:t<((AL d).length:Int)) {s:ByteArray} (hs:s∈BM d) :
  ((FB d (AL d) t s).2=true↔∃x∈d,UsD d t s x)∧((FB d (AL d) t s).2=true→(0≤HP (AL d) (FB d (AL d) t s).1∧HP (AL d) (FB d (AL d) t s).1<((AL d).length:Int)) ∧
   ∀i,A9 (Bl (Bk d) (HP (AL d) (FB d (AL d) t s).1)) i=true↔∀x∈d,UsD d t s x→A9 (vcD d s x) i=true):=by
 obtain⟨n,-,D,-,u⟩:=nX b;obtain⟨hk,p⟩:=A4t b;have hn:=QC n D;have L:=pW n;have r:=Ml d;rw[TQ b]at r;have K:JR ((AL d).map fun x=>x.2):=by have:=hk.1;rwa [Kd]at this
 have q:=p;rw[Kd]at q;have A:=rE d (ACi 0) (by omega:(0:Int)<((AL d).length:Int));obtain⟨g,a,m⟩:=Za hk p hn z J s d (((AL d).getD 0 c0).2,false) (fun x f=>f) (.inr A);have e:FB d (AL d) t s=d.foldl (KP (AL d) t s) (((AL d).getD 0 c0).2,false):=rfl;rw[←e]at g a m;refine⟨by rw[a];simp,fun hu=>?_⟩;have E:(FB d (AL d) t s).1≠[]:=by
  intro G;have h1:LL d (AL d) t.toNat s=true:=by
   unfold LL;rw[AAG z,hu,G];rfl
  have B:Ij d (AL d) (BM d) (AL d).length=true:=by
   unfold Ij;refine TO.2 ⟨t.toNat,nO.2 (by omega),?_⟩;unfold Y7;exact TO.2 ⟨s,hs,h1⟩
  rw[B]at u;cases u
 have o:(FB d (AL d) t s).1∈(AL d).map fun x=>x.2:=g.resolve_left E;obtain⟨x,f,ex⟩:=IS.1 o;obtain⟨j,M,H,I⟩:=Vp (l:=AL d) (k:=0) ⟨x,f,ex⟩;have hf:HP (AL d) (FB d (AL d) t s).1=(j:Int):=by
  unfold HP;rw[nY (q.nrm _ o),H];simp
 rw[hf];refine⟨⟨AA3 _,by omega⟩,fun i=>?_⟩;rw[NP d (AA3 _) (by omega),bY,I,m];constructor
 ·exact fun h=>h.2
 ·intro h;refine⟨?_,h⟩;obtain⟨y,v,w⟩:=(a.1 hu).resolve_left (by simp);obtain⟨v0,v1⟩:=A1V hn v w.1;have C:=h y v w;have c:=ZZ d;have F:=r _ v0 (by rw[c];exact v1);have:=(B5 hk (ACi 0) (by rw[c];omega) v0 (by rw[c];exact v1)).1 F i;unfold Tb2 at this;rw[NP d (ACi 0) (by omega),NP d v0 v1]at this;exact this C
theorem Ri {s:ByteArray}:∀ {r:List AH} {o:List ByteArray} {y:ByteArray},y∈r.foldl (Hc s) o→y∈o∨∃x∈r,x.1=y∧(DG x s).2=true
 | [],_,_,h=>.inl h
 | x :: r,o,y,h=>by
  rw[Rp]at h;rcases Ri h with h|⟨z,b,h⟩
  ·unfold Hc at h;split at h
   ·rename_i a;rcases G2 h with h|h
    ·exact .inl h
    ·exact .inr ⟨x,by simp,h.symm,a⟩
   ·exact .inl h
  ·exact .inr ⟨z,by simp[b],h⟩
theorem Vq {s:ByteArray} (h:(Dd d s).2=true):∃x∈d,x.1=(Dd d s).1∧(DG x s).2=true:=by
 unfold Dd at h ⊢;split
 ·rename_i h1;have a:(Ay d (FW d s)).getD 0 ByteArray.empty∈Ay d (FW d s):=BC (by omega);exact(Ri (Hr a)).resolve_left (by simp)
 ·rename_i h1;rw[As h1]at h;cases h
theorem nZ (d:List AH):ZJ (Az d).1:=by
 by_cases a:Av d=0
 ·rw[TQ a];obtain⟨j,-,l,m,-⟩:=nX a;have hn:=QC j l;have g:=ZZ d;refine⟨fun x b=>?_,fun t f p hp=>?_⟩
  ·rw[Vo a]at b;obtain⟨s,hs,rfl⟩:=IS.1 b;obtain⟨y,n,e,-⟩:=Vq (m s hs);rw[g];show 0≤BL (AL d) (Dd d s).1∧BL (AL d) (Dd d s).1<((AL d).length:Int);rw[←e];exact TR hn n
  ·obtain⟨k,hk,e⟩:=CT WT f;rw[g]at hk ⊢;have c:=A1T a (t:=(k:Int)) (AA3 _) (by omega);unfold Jx at c;rw[bY,e]at c;rw[c]at hp;unfold Sk at hp;obtain⟨i,hi,rfl⟩:=IS.1 hp;obtain⟨h1,h⟩:=AAj.1 hi;have h1:=nO.1 h1;exact((Qc a (t:=(k:Int)) (AA3 _) (by omega) (BC h1)).2 h).1
 ·have:(Az d).1=([],[]):=by
   unfold Az A8;rw[At a,At a]
  rw[this];exact⟨fun x b=>(by cases b),fun t f=>(by cases f)⟩
end
structure HAp (h:AI):Prop where
 iff:∀t f,0≤t→t<(h.1.length:Int)→0≤f→f<(h.2.length:Int)→((CH h t f).2=true↔BG h (Lm h f) t=true)
 mono:∀t t' f,0≤t→t<(h.1.length:Int)→0≤t'→t'<(h.1.length:Int)→0≤f→f<(h.2.length:Int)→BG h t t'=true→(CH h t f).2=true→BG h (CH h t f).1 (CH h t' f).1=true
def Sn (h:AI) (m:Nat) (u:List Int):Prop:=u.length=m∧∀t∈u,0≤t∧t<(h.1.length:Int)
theorem Sn.get {h:AI} {m:Nat} {u:List Int} (hu:Sn h m u) {n:Nat} (n1:n<m):0≤u.getD n 0∧u.getD n 0<(h.1.length:Int):=by
 have a:n<u.length:=by rw[hu.1];exact n1
 rw[AS,An a];exact hu.2 _ (AAh a)
theorem NE.tyl {h:AI} {m:Nat} {s:EH} (hs:NE h m s):Sn h m s.1:=⟨hs.len,hs.ty⟩
def Oy (h:AI) (m:Nat) (u v:List Int):Prop:=∀i,i<m→BG h (u.getD i 0) (v.getD i 0)=true
def n4 (h:AI) (u:List Int) (n:Int) (l:List (Int×Int)):Prop:=∀a∈l,(CH h (u.getD n.toNat 0) a.1).2=true∧BG h (CH h (u.getD n.toNat 0) a.1).1 (u.getD a.2.toNat 0)=true
def WTy (h:AI) (f:List AE) (u:List Int):Prop:=∀i,i<f.length→n4 h u (i:Int) (f.getD i (0,[])).2
theorem Oy.refl {h:AI} (hk:Jw h) {m:Nat} {u:List Int} (hu:Sn h m u):Oy h m u u:=fun i hi=>TG hk (hu.get hi).1 (hu.get hi).2
theorem Oy.trans {h:AI} (hk:Jw h) {m:Nat} {u v w:List Int} (hu:Sn h m u) (a:Sn h m v) (b:Sn h m w) (h1:Oy h m u v) (c:Oy h m v w):Oy h m u w:=fun i hi =>
 Ht hk (hu.get hi).1 (hu.get hi).2 (a.get hi).1 (a.get hi).2 (b.get hi).1 (b.get hi).2 (h1 i hi) (c i hi)
theorem Oy.anti {h:AI} (hi:I2 h) {m:Nat} {u v:List Int} (hu:Sn h m u) (b:Sn h m v) (h1:Oy h m u v) (d:Oy h m v u):u=v:=by
 refine AA8 (by rw[hu.1,b.1]) fun i c e=>?_;have a:i<m:=by rw[←hu.1];exact c
 have:=hi _ _ (hu.get a).1 (hu.get a).2 (b.get a).1 (b.get a).2 (h1 i a) (d i a)
 rwa [AS,An c,AS,An e]at this
structure rF (h:AI) (m:Nat) (s s':EH):Prop where
 up:Oy h m s.1 s'.1
 pre:s.2 <+: s'.2
 ch:∀k:Nat,k<m→s'.1.getD k 0=s.1.getD k 0∨(k:Int)∈s'.2.drop s.2.length
theorem rF.refl {h:AI} (hk:Jw h) {m:Nat} {s:EH} (hs:NE h m s):rF h m s s:=⟨Oy.refl hk hs.tyl,AAw _,fun _ _=>.inl rfl⟩
theorem Rj {l l':List Int} (hp:l <+: l') {n:Nat} {x:Int} (h:x∈l.drop n):x∈l'.drop n:=by
 obtain⟨r,rfl⟩:=hp;rw[ACF];exact AAn _ h
theorem Qd {l:List Int} {a b:Nat} (c:a≤b) {x:Int} (h:x∈l.drop b):x∈l.drop a:=by
 have:l.drop b=(l.drop a).drop (b-a):=by rw[ABM];congr 1;omega
 rw[this]at h;exact AAJ h
theorem rF.trans {h:AI} (hk:Jw h) {m:Nat} {a b c:EH} (ha:NE h m a) (i:NE h m b) (j:NE h m c) (h1:rF h m a b) (d:rF h m b c):rF h m a c:=by
 refine⟨h1.up.trans hk ha.tyl i.tyl j.tyl d.up,h1.pre.trans d.pre,fun k g=>?_⟩;rcases d.ch k g with f|f
 ·rcases h1.ch k g with e|e
  ·exact .inl (f.trans e)
  ·exact .inr (Rj d.pre e)
 ·exact .inr (Qd h1.pre.length_le f)
theorem Rk {h:AI} (hk:Jw h) (hi:I2 h) {m:Nat} {s c:EH} (hs:NE h m s) {n t:Int} (n0:0≤n) (n1:n<(m:Int)) (f:0≤t) (g:t<(h.1.length:Int)) (e:DH h s n t=some c) :
  rF h m s c∧BG h t (c.1.getD n.toNat 0)=true:=by
 have r:=(E4 hk hi hs n0 n1 f g e).1;obtain⟨i,j⟩:=hs.get n0 n1;unfold DH at e;split at e
 ·rename_i o;obtain⟨u,w,q,d⟩:=(MW hk i j f g).1 o;generalize (B4 h (s.1.getD n.toNat 0) t).1=v at *;injection e with e
  split at e
  ·rename_i p;subst e;exact⟨rF.refl hk hs,by rw[←p];exact d⟩
  ·subst e;have l:n.toNat<s.1.length:=by rw[hs.len];omega
   have a:∀k:Nat,(s.1.set n.toNat v).getD k 0=if k=n.toNat then v else s.1.getD k 0:=fun k=>NH _ _ _ l k
   refine⟨⟨fun k b=>?_,ACn _ _,fun k b=>?_⟩,?_⟩
   ·simp only;rw[a];split
    ·rename_i e;rw[e];exact q
    ·exact TG hk (hs.tyl.get b).1 (hs.tyl.get b).2
   ·simp only;rw[a];split
    ·rename_i e;right;rw[ACF,AB1,AA6];exact ABG _ (by simp;omega)
    ·exact .inl rfl
   ·simp only;rw[a,At rfl];exact d
 ·cases e
theorem X9 {h:AI} (hk:Jw h) (hi:I2 h) {m:Nat} {s:EH} (hs:NE h m s) {n t:Int} (n0:0≤n) (n1:n<(m:Int)) (p:0≤t) (q:t<(h.1.length:Int)) {u:List Int} (hu:Sn h m u) (a:Oy h m s.1 u) (j:BG h t (u.getD n.toNat 0)=true) :
  ∃c,DH h s n t=some c∧Oy h m c.1 u:=by
 obtain⟨d,f⟩:=hs.get n0 n1;have b:n.toNat<m:=by omega
 obtain⟨r,v⟩:=hu.get b;obtain⟨l,o⟩:=(MW hk d f p q).2 _ r v (a _ b) j;unfold DH;rw[At l];refine⟨_,rfl,?_⟩;split
 ·exact a
 ·intro k g;have i:n.toNat<s.1.length:=by rw[hs.len];omega
  simp only;rw[NH _ _ _ i k];split
  ·rename_i e;rw[e];exact o
  ·exact a k g
section
variable {h:AI} (hk:Jw h) (hi:I2 h) (hf:ZJ h) (hap:HAp h) {m:Nat} {n:Int} (n0:0≤n) (n1:n<(m:Int))
include hk hi hf n0 n1
theorem Zb:∀ {l:List (Int×Int)} {s c:EH},(∀a∈l,KV h m a)→NE h m s→Mb h n l s=some c→rF h m s c∧∀a∈l,BG h (Lm h a.1) (c.1.getD n.toNat 0)=true
 | [],s,c,_,hs,e=>by
  injection e with e
  subst e;exact⟨rF.refl hk hs,fun a ha=>by cases ha⟩
 | a :: l,s,c,o,hs,e=>by
  unfold Mb at e;cases g:DH h s n (Lm h a.1) with
  | none=>rw[g]at e;cases e
  | some s1 =>
   rw[g]at e;obtain⟨⟨a0,r⟩,-⟩:=o a (by simp);obtain⟨j,k⟩:=Mc hf a0 r;obtain⟨d,-,-⟩:=E4 hk hi hs n0 n1 j k g;obtain⟨u,v⟩:=Rk hk hi hs n0 n1 j k g;have p:∀b∈l,KV h m b:=fun b f=>o b (ON _ f);have e:Mb h n l s1=some c:=e;obtain⟨q,t⟩:=Zb p d e;have i:=(QU hk hi hf n0 n1 p d e).1;refine⟨u.trans hk hs d i q,fun b f=>?_⟩;rcases By.1 f with rfl|f
   ·exact Ht hk j k (d.get n0 n1).1 (d.get n0 n1).2 (i.get n0 n1).1 (i.get n0 n1).2 v (q.up _ (by omega))
   ·exact t b f
theorem rG:∀ {l:List (Int×Int)} {s c:EH},(∀a∈l,KV h m a)→NE h m s→NW h n l s=some c→rF h m s c∧(n∈c.2.drop s.2.length∨(c.1.getD n.toNat 0=s.1.getD n.toNat 0∧∀a∈l,(CH h (s.1.getD n.toNat 0) a.1).2=true∧BG h (CH h (s.1.getD n.toNat 0) a.1).1 (c.1.getD a.2.toNat 0)=true))
 | [],s,c,_,hs,e=>by
  injection e with e
  subst e;exact⟨rF.refl hk hs,.inr ⟨rfl,fun a ha=>by cases ha⟩⟩
 | a :: l,s,c,t,hs,e=>by
  unfold NW at e;split at e
  ·rename_i v;obtain⟨w,x⟩:=hs.get n0 n1;obtain⟨o,p⟩:=Iu hf w x v;cases j:DH h s a.2 (CH h (s.1.getD n.toNat 0) a.1).1 with
   | none=>rw[j]at e;cases e
   | some s1 =>
    rw[j]at e;obtain⟨-,d,b1⟩:=t a (by simp);obtain⟨g,-,-⟩:=E4 hk hi hs d b1 o p j;obtain⟨r,A⟩:=Rk hk hi hs d b1 o p j;have u:∀b∈l,KV h m b:=fun b f=>t b (ON _ f);have e:NW h n l s1=some c:=e;obtain⟨q,i⟩:=rG u g e;have k:=(TH hk hi hf n0 n1 u g e).1;refine⟨r.trans hk hs g k q,?_⟩;have y:((n.toNat:Nat):Int)=n:=AAG n0;rcases r.ch n.toNat (by omega) with c1|c1
    ·rcases i with i|⟨i,z⟩
     ·exact .inl (Qd r.pre.length_le i)
     ·refine .inr ⟨i.trans c1,fun b f=>?_⟩;rcases By.1 f with rfl|f
      ·exact⟨v,Ht hk o p (g.get d b1).1 (g.get d b1).2 (k.get d b1).1 (k.get d b1).2 A (q.up _ (by omega))⟩
      ·have:=z b f
       rwa [c1]at this
    ·rw[y]at c1;exact .inl (Rj q.pre c1)
  ·cases e
include hap
theorem rH {u:List Int} (hu:Sn h m u):∀ {l:List (Int×Int)} {s:EH},(∀a∈l,KV h m a)→NE h m s→Oy h m s.1 u→(∀a∈l,(CH h (u.getD n.toNat 0) a.1).2=true)→∃c,Mb h n l s=some c∧Oy h m c.1 u
 | [],s,_,_,e,_=>⟨s,rfl,e⟩
 | a :: l,s,i,hs,e,j=>by
  obtain⟨⟨a0,f⟩,-⟩:=i a (by simp);obtain⟨k,o⟩:=Mc hf a0 f;obtain⟨t,v⟩:=hu.get (show n.toNat<m by omega);obtain⟨s1,g,h1⟩:=X9 hk hi hs n0 n1 k o hu e ((hap.iff _ _ t v a0 f).1 (j a (by simp)));obtain⟨q,-,-⟩:=E4 hk hi hs n0 n1 k o g;obtain⟨c,p,r⟩:=rH hu (fun b d=>i b (ON _ d)) q h1 fun b d=>j b (ON _ d);exact⟨c,by unfold Mb;rw[g];exact p,r⟩
theorem rI {u:List Int} (hu:Sn h m u):∀ {l:List (Int×Int)} {s:EH},(∀a∈l,KV h m a)→NE h m s→Oy h m s.1 u→(∀a∈l,BG h (Lm h a.1) (s.1.getD n.toNat 0)=true)→n4 h u n l→∃j,NW h n l s=some j∧Oy h m j.1 u
 | [],s,_,_,f,_,_=>⟨s,rfl,f⟩
 | a :: l,s,p,hs,f,x,y=>by
  obtain⟨⟨a0,v⟩,k,b1⟩:=p a (by simp);obtain⟨d,e⟩:=hs.get n0 n1;have q:n.toNat<m:=by omega
  have w:a.2.toNat<m:=by omega
  obtain⟨z,A⟩:=hu.get q;have r:=(hap.iff _ _ d e a0 v).2 (x a (by simp));obtain⟨g,i⟩:=Iu hf d e r;obtain⟨H,I⟩:=y a (by simp);obtain⟨v0,v1⟩:=Iu hf z A H;have D:=hap.mono _ _ a.1 d e z A a0 v (f _ q) r;obtain⟨s1,o,h1⟩:=X9 hk hi hs k b1 g i hu f (Ht hk g i v0 v1 (hu.get w).1 (hu.get w).2 D I);obtain⟨t,-,-⟩:=E4 hk hi hs k b1 g i o;obtain⟨G,-⟩:=Rk hk hi hs k b1 g i o;obtain⟨j,B,C⟩:=rI hu (fun b c=>p b (ON _ c)) t h1 (fun b c=>by
   obtain⟨⟨c0,c1⟩,-⟩:=p b (ON _ c);obtain⟨E,F⟩:=Mc hf c0 c1;exact Ht hk E F d e (t.get n0 n1).1 (t.get n0 n1).2 (x b (ON _ c)) (G.up _ q)) fun b c=>y b (ON _ c)
  exact⟨j,by unfold NW;rw[At r,o];exact B,C⟩
end
section
variable {h:AI} (hk:Jw h) (hi:I2 h) (hf:ZJ h) (hap:HAp h) {f:List AE} (ha:Md h f)
include hk hi hf hap ha
theorem A1X {n:Int} (n0:0≤n) (n1:n<(f.length:Int)) {s c:EH} (hs:NE h f.length s) (e:KU h f n s=some c):rF h f.length s c∧(n∈c.2.drop s.2.length∨n4 h c.1 n (f.getD n.toNat (0,[])).2):=by
 have _:=hap;have g:=Me ha n0 n1;unfold KU at e;cases d:Mb h n (f.getD n.toNat (0,[])).2 s with
 | none=>rw[d]at e;cases e
 | some s1 =>
  rw[d]at e;have i:=(QU hk hi hf n0 n1 g hs d).1;obtain⟨j,-⟩:=Zb hk hi hf n0 n1 g hs d;have e:NW h n (f.getD n.toNat (0,[])).2 s1=some c:=e;have k:=(TH hk hi hf n0 n1 g i e).1;obtain⟨l,b⟩:=rG hk hi hf n0 n1 g i e;refine⟨j.trans hk hs i k l,?_⟩;rcases b with b|⟨b,m⟩
  ·exact .inl (Qd j.pre.length_le b)
  ·refine .inr fun a ha=>?_;rw[b];exact m a ha
theorem A1Y {n:Int} (n0:0≤n) (n1:n<(f.length:Int)) {s:EH} (hs:NE h f.length s) {u:List Int} (hu:Sn h f.length u) (d:n4 h u n (f.getD n.toNat (0,[])).2) (j:Oy h f.length s.1 u):∃e,KU h f n s=some e∧Oy h f.length e.1 u:=by
 have b:=Me ha n0 n1;obtain⟨s1,c,h1⟩:=rH hk hi hf hap n0 n1 hu b hs j fun a ha=>(d a ha).1;have k:=(QU hk hi hf n0 n1 b hs c).1;obtain⟨-,l⟩:=Zb hk hi hf n0 n1 b hs c;obtain⟨s2,g,i⟩:=rI hk hi hf hap n0 n1 hu b k h1 l d;exact⟨s2,by unfold KU;rw[c];exact g,i⟩
def A8c (h:AI) (f:List AE) (i:Nat) (s:EH):Prop:=∀n:Nat,n<f.length→n4 h s.1 (n:Int) (f.getD n (0,[])).2∨(n:Int)∈s.2.drop i
theorem A3W {n:Nat} (hn:n<f.length) {s d:EH} (hs:NE h f.length s) (i:NE h f.length d) (j:rF h f.length s d) (p:n4 h s.1 (n:Int) (f.getD n (0,[])).2):n4 h d.1 (n:Int) (f.getD n (0,[])).2∨(n:Int)∈d.2.drop s.2.length:=by
 have _:=hap;have _:=hi;have o:∀a∈(f.getD n (0,[])).2,KV h f.length a:=ha _ (AD f (0,[]) hn);rcases j.ch n hn with c|c
 ·left;intro a g;obtain⟨e,k⟩:=p a g;obtain⟨-,b,b1⟩:=o a g;rw[bY]at e k ⊢;rw[c];obtain⟨l,m⟩:=hs.tyl.get hn;obtain⟨q,r⟩:=Iu hf l m e;exact⟨e,Ht hk q r (hs.get b b1).1 (hs.get b b1).2 (i.get b b1).1 (i.get b b1).2 k (j.up _ (by omega))⟩
 ·exact .inr c
theorem rJ:∀ {k i:Nat} {s:EH} {ty:List Int},NE h f.length s→A8c h f i s→qH h f k i s=some ty→WTy h f ty∧Oy h f.length s.1 ty∧Sn h f.length ty
 | 0,_,_,_,_,_,e=>by cases e
 | k+1,i,s,ty,hs,hp,e=>by
  unfold qH at e;split at e
  ·rename_i d;have p:=AD s.2 (0:Int) d;obtain⟨n0,n1⟩:=hs.wt _ p;generalize hn:s.2.getD i 0=n at *;cases c:KU h f n s with
   | none=>rw[c]at e;cases e
   | some s1 =>
    rw[c]at e;have g:=(QV hk hi hf ha n0 n1 hs c).1;obtain⟨j,b⟩:=A1X hk hi hf hap ha n0 n1 hs c;have r:A8c h f (i+1) s1:=by
     intro m l;rcases hp m l with q|a
     ·rcases A3W hk hi hf hap ha l hs g j q with h1|h1
      ·exact .inl h1
      ·exact .inr (Qd (by omega) h1)
     ·have t:s.2.drop i=n :: s.2.drop (i+1):=by
       rw[aS d,←hn,AS,An d];rfl
      rw[t]at a;rcases By.1 a with a|a
      ·rcases b with b|b
       ·exact .inr (by rw[a];exact Qd (by omega) b)
       ·left;rw[a];have:n.toNat=m:=by omega
        rw[this]at b;exact b
      ·exact .inr (Rj j.pre a)
    have e:qH h f k (i+1) s1=some ty:=e;obtain⟨u,v,o⟩:=rJ g r e;exact⟨u,j.up.trans hk hs.tyl g.tyl o v,o⟩
  ·rename_i d;injection e with e
   subst e;refine⟨fun n hn=>?_,Oy.refl hk hs.tyl,hs.tyl⟩;rcases hp n hn with h1|h1
   ·exact h1
   ·rw[IF (by omega)]at h1;cases h1
theorem A1Z {u:List Int} (hu:Sn h f.length u) (d:WTy h f u):∀ {k i:Nat} {s:EH},NE h f.length s→i≤s.2.length→Xo h s.1+s.2.length+1≤k+i→Oy h f.length s.1 u→∃ty,qH h f k i s=some ty∧Oy h f.length ty u
 | 0,i,s,hs,j,l,b=>by omega
 | k+1,i,s,hs,j,l,b=>by
  unfold qH;by_cases a:i<s.2.length
  ·rw[At a];obtain⟨n0,n1⟩:=hs.wt _ (AD s.2 (0:Int) a);have e:=d (s.2.getD i 0).toNat (by omega);rw[AAG n0]at e;obtain⟨s1,c,h1⟩:=A1Y hk hi hf hap ha n0 n1 hs hu e b;obtain⟨g,m,n⟩:=QV hk hi hf ha n0 n1 hs c;rw[c];exact A1Z hu d g (by omega) (by omega) h1
  ·rw[As a];exact⟨s.1,rfl,b⟩
theorem Vr (a:∀x∈f,0≤x.1∧x.1<(h.1.length:Int)) {ty:List Int} (e:D6 h f=some ty):WTy h f ty∧Oy h f.length (BD f) ty∧Sn h f.length ty:=by
 have e:qH h f (Nt h f) 0 (BD f,Eb f)=some ty:=e;refine rJ hk hi hf hap ha (k:=Nt h f) (i:=0) (s:=(BD f,Eb f)) (qJ a) (fun n hn=>.inr ?_) e;rw[AA6];exact IS.2 ⟨n,nO.2 hn,rfl⟩
theorem SX (b:∀x∈f,0≤x.1∧x.1<(h.1.length:Int)) {u:List Int} (hu:Sn h f.length u) (c:WTy h f u) (a:Oy h f.length (BD f) u):∃ty,D6 h f=some ty∧Oy h f.length ty u :=
 A1Z hk hi hf hap ha hu c (k:=Nt h f) (i:=0) (s:=(BD f,Eb f)) (qJ b) (Is _) (A1j h f) a
end
inductive Up (d:List AH) (m:ByteArray):ByteArray→Prop
 | base {x:ByteArray}:Aa m x=true→Up d m x
 | step {x s:ByteArray} {y:AH}:y∈d→Aa y.1 x=true→AX y.2.1 s=true→Up d m s→Up d m x
section
variable {d:List AH}
theorem Vs {m x y:ByteArray} (h:Up d m x) (e:Aa x y=true):Up d m y:=by
 cases h with
 | base h=>exact .base (BE h e)
 | step h1 a b c=>exact .step h1 (BE a e) b c
theorem A5p {c x s:ByteArray} (h:Up d c x) {y:AH} (f:y∈d) (e:Aa y.1 c=true) (hs:AX y.2.1 s=true):Up d s x:=by
 induction h with
 | base h=>exact .step f (BE e h) hs (.base (Cr s))
 | step h1 a b i g=>exact .step h1 a b g
theorem Qf {a b c:ByteArray} (h1:Up d a b) (i:Up d b c):Up d a c:=by
 induction i with
 | base h=>exact Vs h1 h
 | step e f g k j=>exact .step e f g j
theorem A3X {m a x:ByteArray} (e:Aa a m=true) (h:Up d m x):Up d a x:=Qf (.base e) h
theorem A3Y (hn:Cf d=0) (f:d.length≤(Bd d).length) {m x:ByteArray} (h:Up d m x):Aa m x=true∨GL d m<GL d x:=by
 induction h with
 | base h=>exact .inl h
 | step h1 c e g a =>
  right;have b:=LG hn f h1 e;rw[Ig d c]at b;rcases a with a|a
  ·rw[Ig d a];exact b
  ·omega
theorem A20 {o:List ByteArray} {s t:ByteArray} (h:t∈KL o s):t∈o∨t=s:=by
 unfold KL at h;split at h
 ·exact .inl h
 ·rcases OF.1 h with h|h
  ·exact .inl h
  ·exact .inr (by simpa using h)
theorem YA:∀ {l o:List ByteArray} {t:ByteArray},t∈l.foldl KL o→t∈o∨t∈l
 | [],_,_,h=>.inl h
 | s :: l,o,t,h=>by
  rw[Rp]at h;rcases YA h with h|h
  ·rcases A20 h with h|h
   ·exact .inl h
   ·exact .inr (by simp[h])
  ·exact .inr (by simp[h])
theorem vU {s:ByteArray} (h:0≤Ap d s):d.getD (Ap d s).toNat d0∈d∧Aa (d.getD (Ap d s).toNat d0).1 s=true:=by
 rcases DU d s with g|⟨b,c,a⟩
 ·omega
 ·exact⟨BC (by omega),a⟩
theorem YB (hs:Pn d) {x:ByteArray}:∀ {n i:Nat} {o:List ByteArray},(∀t∈o,0≤Ap d t∧Up d t x)→∀t∈Ib d n i o,0≤Ap d t∧Up d t x
 | 0,_,_,b=>b
 | n+1,i,o,b=>by
  unfold Ib;split
  ·rename_i hi;refine YB hs fun t a=>?_;rcases YA a with a|a
   ·exact b t a
   ·obtain⟨c1,c2⟩:=b _ (BC (d:=ByteArray.empty) hi);obtain⟨c,e⟩:=vU c1;exact⟨hs _ c t a,A5p c2 c e (Fl a)⟩
  ·exact b
theorem YC {l:List ByteArray} {t:ByteArray} (h:t∈KM l):t∈l:=(Ud (o:=[]) h).resolve_left (by simp)
theorem A21 (hs:Pn d) {x t:ByteArray} (b:0≤Ap d x) (h:AX (LE d x) t=true):Up d t x:=by
 obtain⟨u,hu,e⟩:=TO.1 h;unfold LE at hu;rw[As (by omega)]at hu;have:=(YB hs (x:=x) (n:=d.length) (i:=0) (o:=[x]) (fun t a=>by
  have:t=x:=by simpa using a
  subst this;exact⟨b,.base (Cr _)⟩) u (YC hu)).2
 exact A3X (Dw e) this
theorem YD {m:ByteArray}:∀ {n i:Nat} {o:List ByteArray},(∀t∈o,Up d m t)→∀t∈Cg d n i o,Up d m t
 | 0,_,_,a=>a
 | n+1,i,o,a=>by
  unfold Cg;split
  ·rename_i hi;have f:=a _ (BC (d:=ByteArray.empty) hi);generalize o.getD i ByteArray.empty=c at *;have key:∀(l:List AH) (o:List ByteArray),(∀y∈l,y∈d)→(∀t∈o,Up d m t)→∀t∈l.foldl (FJ c) o,Up d m t:=by
    intro l;induction l with
    | nil=>exact fun o _ a=>a
    | cons y l j =>
     intro o e a;rw[Rp];refine j _ (fun z g=>e z (by simp[g])) fun t b=>?_;unfold FJ at b;split at b
     ·rename_i h;rw[AT]at h;rcases OF.1 b with b|b
      ·exact a t b
      ·have:t=y.1:=by simpa using b
       subst this;exact .step (e y (by simp)) (Cr _) h.1 f
     ·exact a t b
   exact YD (key d o (fun _ h=>h) a)
  ·exact a
theorem Vt {m x:ByteArray} (h:AX (Ci d m) x=true):Up d m x:=by
 obtain⟨u,hu,e⟩:=TO.1 h;unfold Ci at hu;split at hu
 ·cases hu
 ·exact Vs (YD (m:=m) (n:=d.length) (i:=0) (o:=[m]) (fun t a=>by
   have:t=m:=by simpa using a
   subst this;exact .base (Cr _)) u (YC hu)) e
theorem Vu {m x:ByteArray} (u:0≤Ap d m) (h:Up d m x):AX (Ci d m) x=true:=by
 have q:Yv d [m]:=⟨fun s hs=>by
  have:s=m:=by simpa using hs
  rw[this];exact u,by simp⟩
 obtain⟨k,v,D⟩:=Vk (d:=d) (n:=d.length) (i:=0) q (by omega) (fun j t=>by omega) (by omega);have A:m∈Cg d d.length 0 [m]:=LH (by simp);have r:Ci d m=KM (Cg d d.length 0 [m]):=by unfold Ci;rw[As (by omega)]
 rw[r];generalize Cg d d.length 0 [m]=o at *;have key:AX o x=true:=by
  induction h with
  | base h=>exact TO.2 ⟨m,A,h⟩
  | step h1 l p C B =>
   obtain⟨z,c,a⟩:=TO.1 B;obtain⟨j,t,rfl⟩:=CT ByteArray.empty c;obtain⟨s,y,f⟩:=TO.1 p;obtain⟨w,b,g⟩:=TO.1 (v j (by omega) _ h1 (TO.2 ⟨s,y,BE f (Dw a)⟩));exact TO.2 ⟨w,b,BE g l⟩
 obtain⟨z,c,e⟩:=TO.1 key;obtain⟨w,b,a⟩:=TO.1 (P0 (o:=[]) c);exact TO.2 ⟨w,b,BE a e⟩
theorem YE:∀ {l o:List ByteArray} {x:ByteArray},AX o x=true→AX (l.foldl (FK d) o) x=true
 | [],_,_,h=>h
 | s :: l,o,x,h=>by
  rw[Rp];refine YE ?_;unfold FK;split
  ·exact KO (fun z a=>NA a) h
  ·exact h
theorem Qg:∀ {l o:List ByteArray} {x:ByteArray},x∈l→0≤Ap d x→AX (l.foldl (FK d) o) x=true
 | s :: l,o,x,h,a=>by
  rw[Rp];rcases By.1 h with rfl|h
  ·refine YE ?_;unfold FK;rw[At a];exact Pz
  ·exact Qg h a
theorem Nv:∀ {l o:List ByteArray},(∀x∈o,0≤Ap d x)→∀x∈l.foldl (FK d) o,0≤Ap d x
 | [],_,b=>b
 | s :: l,o,b=>by
  rw[Rp];refine Nv fun x a=>?_;unfold FK at a;split at a
  ·rcases G2 a with a|rfl
   ·exact b x a
   ·assumption
  ·exact b x a
theorem A5q {l:List ByteArray} (h:p9 l) {i j:Nat} (hi:i<l.length) (a:j<l.length) (d:i≠j):Aa (l.getD i ByteArray.empty) (l.getD j ByteArray.empty)=false:=by
 have c:∀k (h:k<l.length),l.getD k ByteArray.empty=l[k]:=fun k h=>by rw[AS,An h];rfl
 rw[c i hi,c j a];rcases Nat.lt_or_gt_of_ne d with b|b
 ·exact(oF.1 h) i j hi a b
 ·exact MX ((oF.1 h) j i a hi b)
theorem Qh:∀ {l o:List ByteArray},p9 o→(∀s∈l,∀x∈o,Aa x s=false)→p9 l→p9 (l.foldl (FK d) o)
 | [],_,h,_,_=>h
 | s :: l,o,h,b,f=>by
  rw[Rp];have e:=AAk.1 f;refine Qh ?_ (fun y c x a=>?_) e.2
  ·unfold FK;split
   ·exact VD h (b s (by simp))
   ·exact h
  ·unfold FK at a;split at a
   ·rcases G2 a with a|rfl
    ·exact b y (by simp[c]) x a
    ·exact e.1 y c
   ·exact b y (by simp[c]) x a
theorem vV (hn:Cf d=0) (s:ByteArray):p9 (FW d s):=by
 have key:∀(r:List AH) (o:List ByteArray),p9 o→(∀y∈r,∀x∈o,Aa x y.1=false)→r.Pairwise (fun a b=>Aa a.1 b.1=false)→p9 (r.foldl (Hc s) o):=by
  intro r;induction r with
  | nil=>exact fun o h _ _=>h
  | cons y r q =>
   intro o h f hp;rw[Rp];have l:=AAk.1 hp;refine q _ ?_ (fun z g x c=>?_) l.2
   ·unfold Hc;split
    ·exact VD h (f y (by simp))
    ·exact h
   ·unfold Hc at c;split at c
    ·rcases G2 c with c|rfl
     ·exact f z (by simp[g]) x c
     ·exact l.1 z g
    ·exact f z (by simp[g]) x c
 refine key d [] .nil (fun y _ x c=>by cases c) (oF.2 fun i j hi k t=>?_);cases e:Aa d[i].1 d[j].1 with
 | false=>rfl
 | true =>
  have h1:=KN hn hi;have p:=KN hn k;have m:d.getD i d0=d[i]:=by rw[AS,An hi];rfl
  have n:d.getD j d0=d[j]:=by rw[AS,An k];rfl
  rw[m,JN d e]at h1;rw[n]at p;omega
theorem Rl (r:A4 d=0) {l:List ByteArray} (t:p9 l) {x:ByteArray} (g:x∈l) (w:0≤Ap d x):∃m∈Ay d l,Up d m x:=by
 obtain⟨hs,C,-,hn,A⟩:=Aw r;have z:∀y∈BW d l,0≤Ap d y:=Nv fun y c=>by cases c
 obtain⟨q,n,ex⟩:=TO.1 (Qg (d:=d) (o:=[]) g w);have n:q∈BW d l:=n;have v:p9 (BW d l):=Qh .nil (fun s _ x g=>by cases g) t;have u:Ay d l=Pq d (BW d l) (BW d l).length:=rfl;rw[u];generalize BW d l=all at *;have key:∀(k:Nat) (y:ByteArray),GL d y<k→y∈all→Up d y x→∃m∈Pq d all all.length,Up d m x:=by
  intro k;induction k with
  | zero=>exact fun y h=>by omega
  | succ k B =>
   intro y D c hu;obtain⟨i,hi,rfl⟩:=CT ByteArray.empty c;by_cases a:Pp d all i all.length=true
   ·exact⟨_,IS.2 ⟨i,AAj.2 ⟨nO.2 hi,a⟩,rfl⟩,hu⟩
   ·have a:Pp d all i all.length=false:=by simpa using a
    unfold Pp at a;obtain⟨j,b,hf⟩:=AAR.1 a;have b:=nO.1 b;unfold pP at hf;simp only[iS,tO,OR,not_or,Bool.not_eq_false]at hf;obtain⟨f,ha⟩:=hf;have f:j≠i:=fun e=>f (by rw[e]);have p:=A21 hs (z _ c) ha;rcases A3Y hn A p with e|e
    ·exact absurd e (by rw[A5q v b hi f];simp)
    ·exact B _ (by omega) (BC b) (Qf p hu)
 exact key _ q (ACB _) n (.base ex)
theorem LR {s:ByteArray} (hs:s∈AN d):0≤Ap d s:=by
 obtain⟨x,a,rfl⟩:=Cs hs;exact Da a
theorem Qi {x:AH} (a:x∈d) (hn:Cf d=0):x.1∈AN d:=by
 obtain⟨s,hs,e⟩:=TO.1 (OY a);obtain⟨y,b,rfl⟩:=Cs hs;rw[←Py hn b a e];exact hs
theorem A3Z (b:A4 d=0) {m x:ByteArray} (c:0≤Ap d m) (h:Up d m x) {i:Nat} (hi:A9 (Eq d (AN d) x) i=true):A9 (Eq d (AN d) m) i=true:=by
 obtain⟨-,j,-,hn,k⟩:=Aw b;have e:=Dv d d.length;rw[f9]at e;have a:(AN d).length≤4096:=by omega
 obtain⟨f,g⟩:=(Bq (d:=d) a x i).1.1 hi;exact(Bq (d:=d) a m i).1.2 ⟨f,Vu c (Qf h (Vt g))⟩
end
end Go.Proofs.YtdapahgnpbehbaaGreat.Fw
