/- Contracts of the program's and the reference's functions, and the plain laws of what they compute: T22 T24 W6 T26 U14 W7 T27 T21 T23 T25 U13 V3 SN V11 V7 V8 T28 T17 T18 L21. -/
import Derived.Test.YtdapahgnpbehbaaGreatLYD
import Derived.Laws.Strings
import Derived.Test.YtdapahgnpbehbaaGreatLYC
import Derived.Test.YtdapahgnpbehbaaGreatLYB
set_option linter.unusedVariables false
set_option linter.unusedSimpArgs false
namespace Go.Proofs.YtdapahgnpbehbaaGreat.Fw
open Go
attribute [local irreducible] Ev
attribute [local go_sem] XB AM List.toList_toArray Br evG evK Te Ef Ju Fm E6 F7 Nl KI CG Ct K2 B0 Ck frz aD GX DJ A7 FY BW AV.frz AV.frzs AV.drp AV.drps AV.names AV.namess aq GY KH Jl Qq ID BQ BX JJ Ea Hn Eb Hq Ho Hr Si Nf GZ JK Fa Dz Sj PJ xZ JL II Kw FE Dk IJ Jn EE Qr Ca EF Eq PK IK PM Lk IL Jo Cs Cj FK Dl HL DR Er DS EH FJ B0 Ci O6 O8 MB F5 IG IE Jm MC Ni Ll K0 Ky Jr PN Kz Js Wa Nk Nj AV.trn AV.trns Dy CZ Obj.trn JY Y8 DF DT DE EI CV Es Aj lk Gr GP HJ yC aC Tc aF PI pY pZ pfs AV.cells CE JG OB Jq Nh CU L9 Ty.cell1 Hm Ep Dj F4 Kv EZ KG Lj O7 Eo Gy L8 Qp Sg L5 KF WX Yj O9 MA Cr JH RV.flat Ty.flat Ty.size St.add upd del Bd Value.oneCell' Kt Ty.dflt Hl M7 G0 ND List.take_succ_cons List.take_zero List.length_cons XI XJ NC IV KS Ge H9 uE E7 LB LC LD LE OL OM JQ Hx Q1 Option.map_some Option.map_none Option.bind_some Option.getD_some Option.getD_none Option.isNone_none Option.isNone_some Bool.and_true Bool.true_and Bool.and_false Bool.false_and Bool.not_true Bool.not_false if_true if_false List.length_cons List.length_nil and_true true_and and_self List.all_cons List.all_nil List.append_nil List.nil_append List.cons_append List.getElem?_cons_zero List.getElem?_cons_succ List.getElem?_nil List.map_cons List.map_nil List.set_cons_zero List.set_cons_succ List.isEmpty_nil List.isEmpty_cons decide_true decide_false beq_self_eq_true bne_self_eq_false Nat.zero_add Nat.add_zero Nat.sub_zero Int.toNat_natCast Int.toNat_zero Int.toNat_one List.take_length List.length_append List.length_singleton true_or or_true or_self false_or or_false Ty.agg.injEq Ty.slice.injEq Ty.prod.injEq Ty.int.injEq Option.some.injEq beq_iff_eq Lr evMG evMQ x5 HQ Lq Bx JS GL MN JR HP Hy JT KR MO MQ MP Q2 KQ M9 NA H8 AY Al Op.operands Call.operands List.filterMap_cons List.filterMap_nil List.append_eq Bool.cond_false_right Bool.cond_true_left cond_true cond_false implies_true decide_eq_true_eq beq_true beq_false Bool.or_true Bool.or_false Bool.true_or Bool.false_or Option.isSome_some Array.empty_append List.append_toArray FZ K3 Et He WZ Ng FI Fg Ff IM HK Jp Kx Td aE Jk inB Jt FT F6 X1 Ah XK List.drop_zero De Hi We CK Jz BV AV.fgt AV.fgts Obj.fgt Af Ai AY Cu IW BH GB List.any_cons List.any_nil lD Y5 Wf Y6 L6 Pl qs List.flatMap_cons List.flatMap_nil List.cons_append tn Wg Hj List.take_succ_cons List.drop_succ_cons Wh HS Bl bT KU B2 CO Aa Ex Jy Bg Ew Dm HN Hw GA HO
attribute [local go_sem] J3 mO ty3 ty4 ty5 ty9 A02 A03 A04 A05 A06 A07 A08 A09 A0a A0b A0c A0d A0e A0f A0g A0h A0i A0j A0k A0l A0m A0n A0o A0p A0q A0r A0s A0t A0u A0v A0w A0x A0y A0z A0A A0B A0C A0D A0E A0F A0G A0H A0I A0J A0K A0L A0M A0N A0O A0P A0Q A0R A0S A0T A0U A0V A0W A0X A0Y A0Z A10 A11 A12 A13 A14 A15 A16 A17 A18 A19 A1a A1b A1c A1d b6 b7 b8 b9 cA cB cC cE cF cG cH cI cJ cK cL cM cN cO cQ cR cS cU cV cW cX cZ c5 c6 c7 c8 c9 dA dB dC dD dE dF dG dH dI dJ dK dL dM dN dP dQ dR dS dT dU dV dW dX dY dZ d3 d4 d5 d6 d7 d8 d9 eB eC eD eE eF eG eH eI eJ eK eL eO eQ eU eX eY eZ e5 e7 e9 fA fB fC fD fE fF fG fH fJ fL fN fO fP fQ fR fS fT fU fV fW fX fY fZ f3 f4 f5 f6 f7 f9 gB gC gD gE gF gG gH
set_option maxRecDepth 100000
set_option maxHeartbeats 4000000
inductive Up (d:List AI) (m:ByteArray):ByteArray→Prop
 | base {x:ByteArray}:Ab m x=true→Up d m x
 | step {x s:ByteArray} {y:AI}:y∈d→Ab y.1 x=true→AW y.2.1 s=true→Up d m s→Up d m x
section
variable {d:List AI}
theorem WO {m x y:ByteArray} (h:Up d m x) (e:Ab x y=true):Up d m y:=by
 cases h with
 | base h=>exact .base (BT h e)
 | step h1 a b c=>exact .step h1 (BT a e) b c
theorem A6Y {c x s:ByteArray} (h:Up d c x) {y:AI} (f:y∈d) (e:Ab y.1 c=true) (hs:AW y.2.1 s=true):Up d s x:=by
 induction h with
 | base h=>exact .step f (BT e h) hs (.base (Cw s))
 | step h1 a b i g=>exact .step h1 a b g
theorem Ql {a b c:ByteArray} (h1:Up d a b) (i:Up d b c):Up d a c:=by
 induction i with
 | base h=>exact WO h1 h
 | step e f g k j=>exact .step e f g j
theorem A5t {m a x:ByteArray} (e:Ab a m=true) (h:Up d m x):Up d a x:=Ql (.base e) h
theorem A5u (hn:Cm d=0) (f:d.length≤(Bh d).length) {m x:ByteArray} (h:Up d m x):Ab m x=true∨GT d m<GT d x:=by
 induction h with
 | base h=>exact .inl h
 | step h1 c e g a =>
  right;have b:=LR hn f h1 e;rw[Il d c]at b;rcases a with a|a
  ·rw[Il d a];exact b
  ·omega
theorem A3j {o:List ByteArray} {s t:ByteArray} (h:t∈KW o s):t∈o∨t=s:=by
 unfold KW at h;split at h
 ·exact .inl h
 ·rcases Of.1 h with h|h
  ·exact .inl h
  ·exact .inr (by simpa using h)
theorem YX:∀ {l o:List ByteArray} {t:ByteArray},t∈l.foldl KW o→t∈o∨t∈l
 | [],_,_,h=>.inl h
 | s :: l,o,t,h=>by
  rw[O5]at h;rcases YX h with h|h
  ·rcases A3j h with h|h
   ·exact .inl h
   ·exact .inr (by simp[h])
  ·exact .inr (by simp[h])
theorem xN {s:ByteArray} (h:0≤Am d s):d.getD (Am d s).toNat d0∈d∧Ab (d.getD (Am d s).toNat d0).1 s=true:=by
 rcases DY d s with g|⟨b,c,a⟩
 ·omega
 ·exact⟨BF (by omega),a⟩
theorem YY (hs:Pt d) {x:ByteArray}:∀ {n i:Nat} {o:List ByteArray},(∀t∈o,0≤Am d t∧Up d t x)→∀t∈Ih d n i o,0≤Am d t∧Up d t x
 | 0,_,_,b=>b
 | n+1,i,o,b=>by
  unfold Ih;split
  ·rename_i hi;refine YY hs fun t a=>?_;rcases YX a with a|a
   ·exact b t a
   ·obtain⟨c1,c2⟩:=b _ (BF (d:=ByteArray.empty) hi);obtain⟨c,e⟩:=xN c1;exact⟨hs _ c t a,A6Y c2 c e (Fu a)⟩
  ·exact b
theorem YZ {l:List ByteArray} {t:ByteArray} (h:t∈KX l):t∈l:=(Um (o:=[]) h).resolve_left (by simp)
theorem A3k (hs:Pt d) {x t:ByteArray} (b:0≤Am d x) (h:AW (LP d x) t=true):Up d t x:=by
 obtain⟨u,hu,e⟩:=gO.1 h;unfold LP at hu;rw[At (by omega)]at hu;have:=(YY hs (x:=x) (n:=d.length) (i:=0) (o:=[x]) (fun t a=>by
  have:t=x:=by simpa using a
  subst this;exact⟨b,.base (Cw _)⟩) u (YZ hu)).2
 exact A5t (D7 e) this
theorem Ya {m:ByteArray}:∀ {n i:Nat} {o:List ByteArray},(∀t∈o,Up d m t)→∀t∈Cn d n i o,Up d m t
 | 0,_,_,a=>a
 | n+1,i,o,a=>by
  unfold Cn;split
  ·rename_i hi;have f:=a _ (BF (d:=ByteArray.empty) hi);generalize o.getD i ByteArray.empty=c at *;have key:∀(l:List AI) (o:List ByteArray),(∀y∈l,y∈d)→(∀t∈o,Up d m t)→∀t∈l.foldl (FN c) o,Up d m t:=by
    intro l;induction l with
    | nil=>exact fun o _ a=>a
    | cons y l j =>
     intro o e a;rw[O5];refine j _ (fun z g=>e z (by simp[g])) fun t b=>?_;unfold FN at b;split at b
     ·rename_i h;rw[As]at h;rcases Of.1 b with b|b
      ·exact a t b
      ·have:t=y.1:=by simpa using b
       subst this;exact .step (e y (by simp)) (Cw _) h.1 f
     ·exact a t b
   exact Ya (key d o (fun _ h=>h) a)
  ·exact a
theorem WP {m x:ByteArray} (h:AW (Co d m) x=true):Up d m x:=by
 obtain⟨u,hu,e⟩:=gO.1 h;unfold Co at hu;split at hu
 ·cases hu
 ·exact WO (Ya (m:=m) (n:=d.length) (i:=0) (o:=[m]) (fun t a=>by
   have:t=m:=by simpa using a
   subst this;exact .base (Cw _)) u (YZ hu)) e
theorem WQ {m x:ByteArray} (u:0≤Am d m) (h:Up d m x):AW (Co d m) x=true:=by
 have q:ZL d [m]:=⟨fun s hs=>by
  have:s=m:=by simpa using hs
  rw[this];exact u,by simp⟩
 obtain⟨k,v,D⟩:=Vz (d:=d) (n:=d.length) (i:=0) q (by omega) (fun j t=>by omega) (by omega);have A:m∈Cn d d.length 0 [m]:=LS (by simp);have r:Co d m=KX (Cn d d.length 0 [m]):=by unfold Co;rw[At (by omega)]
 rw[r];generalize Cn d d.length 0 [m]=o at *;have key:AW o x=true:=by
  induction h with
  | base h=>exact gO.2 ⟨m,A,h⟩
  | step h1 l p C B =>
   obtain⟨z,c,a⟩:=gO.1 B;obtain⟨j,t,rfl⟩:=Cf ByteArray.empty c;obtain⟨s,y,f⟩:=gO.1 p;obtain⟨w,b,g⟩:=gO.1 (v j (by omega) _ h1 (gO.2 ⟨s,y,BT f (D7 a)⟩));exact gO.2 ⟨w,b,BT g l⟩
 obtain⟨z,c,e⟩:=gO.1 key;obtain⟨w,b,a⟩:=gO.1 (QE (o:=[]) c);exact gO.2 ⟨w,b,BT a e⟩
theorem Yb:∀ {l o:List ByteArray} {x:ByteArray},AW o x=true→AW (l.foldl (FO d) o) x=true
 | [],_,_,h=>h
 | s :: l,o,x,h=>by
  rw[O5];refine Yb ?_;unfold FO;split
  ·exact KY (fun z a=>NJ a) h
  ·exact h
theorem Qm:∀ {l o:List ByteArray} {x:ByteArray},x∈l→0≤Am d x→AW (l.foldl (FO d) o) x=true
 | s :: l,o,x,h,a=>by
  rw[O5];rcases By.1 h with rfl|h
  ·refine Yb ?_;unfold FO;rw[BY a];exact QD
  ·exact Qm h a
theorem OA:∀ {l o:List ByteArray},(∀x∈o,0≤Am d x)→∀x∈l.foldl (FO d) o,0≤Am d x
 | [],_,b=>b
 | s :: l,o,b=>by
  rw[O5];refine OA fun x a=>?_;unfold FO at a;split at a
  ·rcases G7 a with a|rfl
   ·exact b x a
   ·assumption
  ·exact b x a
theorem A6Z {l:List ByteArray} (h:sA l) {i j:Nat} (hi:i<l.length) (a:j<l.length) (d:i≠j):Ab (l.getD i ByteArray.empty) (l.getD j ByteArray.empty)=false:=by
 have c:∀k (h:k<l.length),l.getD k ByteArray.empty=l[k]:=fun k h=>by rw[AS,AT h];rfl
 rw[c i hi,c j a];rcases Nat.lt_or_gt_of_ne d with b|b
 ·exact(oR.1 h) i j hi a b
 ·exact Ml ((oR.1 h) j i a hi b)
theorem Qn:∀ {l o:List ByteArray},sA o→(∀s∈l,∀x∈o,Ab x s=false)→sA l→sA (l.foldl (FO d) o)
 | [],_,h,_,_=>h
 | s :: l,o,h,b,f=>by
  rw[O5];have e:=AAx.1 f;refine Qn ?_ (fun y c x a=>?_) e.2
  ·unfold FO;split
   ·exact VO h (b s (by simp))
   ·exact h
  ·unfold FO at a;split at a
   ·rcases G7 a with a|rfl
    ·exact b y (by simp[c]) x a
    ·exact e.1 y c
   ·exact b y (by simp[c]) x a
theorem xO (hn:Cm d=0) (s:ByteArray):sA (Fc d s):=by
 have key:∀(r:List AI) (o:List ByteArray),sA o→(∀y∈r,∀x∈o,Ab x y.1=false)→r.Pairwise (fun a b=>Ab a.1 b.1=false)→sA (r.foldl (Hk s) o):=by
  intro r;induction r with
  | nil=>exact fun o h _ _=>h
  | cons y r q =>
   intro o h f hp;rw[O5];have l:=AAx.1 hp;refine q _ ?_ (fun z g x c=>?_) l.2
   ·unfold Hk;split
    ·exact VO h (f y (by simp))
    ·exact h
   ·unfold Hk at c;split at c
    ·rcases G7 c with c|rfl
     ·exact f z (by simp[g]) x c
     ·exact l.1 z g
    ·exact f z (by simp[g]) x c
 refine key d [] .nil (fun y _ x c=>by cases c) (oR.2 fun i j hi k t=>?_);cases e:Ab d[i].1 d[j].1 with
 | false=>rfl
 | true =>
  have h1:=Mf hn hi;have p:=Mf hn k;have m:d.getD i d0=d[i]:=by rw[AS,AT hi];rfl
  have n:d.getD j d0=d[j]:=by rw[AS,AT k];rfl
  rw[m,Jc d e]at h1;rw[n]at p;omega
theorem Rr (r:A3 d=0) {l:List ByteArray} (t:sA l) {x:ByteArray} (g:x∈l) (w:0≤Am d x):∃m∈Ax d l,Up d m x:=by
 obtain⟨hs,C,-,hn,A⟩:=Aw r;have z:∀y∈BZ d l,0≤Am d y:=OA fun y c=>by cases c
 obtain⟨q,n,ex⟩:=gO.1 (Qm (d:=d) (o:=[]) g w);have n:q∈BZ d l:=n;have v:sA (BZ d l):=Qn .nil (fun s _ x g=>by cases g) t;have u:Ax d l=Pw d (BZ d l) (BZ d l).length:=rfl;rw[u];generalize BZ d l=all at *;have key:∀(k:Nat) (y:ByteArray),GT d y<k→y∈all→Up d y x→∃m∈Pw d all all.length,Up d m x:=by
  intro k;induction k with
  | zero=>exact fun y h=>by omega
  | succ k B =>
   intro y D c hu;obtain⟨i,hi,rfl⟩:=Cf ByteArray.empty c;by_cases a:Pv d all i all.length=true
   ·exact⟨_,GO.2 ⟨i,AAk.2 ⟨oN.2 hi,a⟩,rfl⟩,hu⟩
   ·have a:Pv d all i all.length=false:=by simpa using a
    unfold Pv at a;obtain⟨j,b,hf⟩:=AAZ.1 a;have b:=oN.1 b;unfold rA at hf;simp only[AAi,AAq,bY,not_or,Bool.not_eq_false]at hf;obtain⟨f,ha⟩:=hf;have f:j≠i:=fun e=>f (by rw[e]);have p:=A3k hs (z _ c) ha;rcases A5u hn A p with e|e
    ·exact absurd e (by rw[A6Z v b hi f];simp)
    ·exact B _ (by omega) (BF b) (Ql p hu)
 exact key _ q (ACM _) n (.base ex)
theorem Lg {s:ByteArray} (hs:s∈AN d):0≤Am d s:=by
 obtain⟨x,a,rfl⟩:=Cy hs;exact Df a
theorem Qo {x:AI} (a:x∈d) (hn:Cm d=0):x.1∈AN d:=by
 obtain⟨s,hs,e⟩:=gO.1 (Od a);obtain⟨y,b,rfl⟩:=Cy hs;rw[←QC hn b a e];exact hs
theorem A5v (b:A3 d=0) {m x:ByteArray} (c:0≤Am d m) (h:Up d m x) {i:Nat} (hi:BC (E0 d (AN d) x) i=true):BC (E0 d (AN d) m) i=true:=by
 obtain⟨-,j,-,hn,k⟩:=Aw b;have e:=D6 d d.length;rw[iS]at e;have a:(AN d).length≤4096:=by omega
 obtain⟨f,g⟩:=(Bt (d:=d) a x i).1.1 hi;exact(Bt (d:=d) a m i).1.2 ⟨f,WQ c (Ql h (WP g))⟩
end
section
variable {d:List AI}
def Dc (d:List AI) (c:List Int):Prop:=Ik c∧∀i j,BC c i=true→j<(AN d).length→Up d ((AN d).getD i ByteArray.empty) ((AN d).getD j ByteArray.empty)→BC c j=true
theorem A70:Dc d []:=⟨fun x a=>(by cases a),fun i j hi=>by unfold BC at hi;simp at hi⟩
theorem A71 {a b:List Int} (ha:Dc d a) (c:Dc d b):Dc d (EO a b) :=
 ⟨NL ha.1 c.1,fun i j hi e hu=>by
  rw[LY ha.1 c.1,As]at hi ⊢;exact⟨ha.2 i j hi.1 e hu,c.2 i j hi.2 e hu⟩⟩
theorem tF {l:List (List Int)} (h:∀c∈l,Dc d c) (k:Nat):Dc d (l.getD k []):=by
 by_cases hk:k<l.length
 ·exact h _ (BF hk)
 ·rw[RW hk];exact A70
theorem A5w {l:List (List Int)} (h:∀c∈l,Dc d c) (i k:Nat):∀c∈Gj l i k,Dc d c:=by
 intro c a;unfold Gj at a;split at a
 ·rcases Of.1 a with a|a
  ·exact h c a
  ·have:c=EO (l.getD i []) (l.getD k []):=by simpa using a
   rw[this];exact A71 (tF h i) (tF h k)
 ·exact h c a
theorem tG {i:Nat}:∀ {n k:Nat} {l:List (List Int)},(∀c∈l,Dc d c)→∀c∈Gk i n k l,Dc d c
 | 0,_,_,h=>h
 | n+1,k,l,h=>by
  unfold Gk;split
  ·exact tG (A5w h i k)
  ·exact h
theorem tH:∀ {n i:Nat} {l:List (List Int)},(∀c∈l,Dc d c)→∀c∈Ii n i l,Dc d c
 | 0,_,_,h=>h
 | n+1,i,l,h=>by
  unfold Ii;split
  ·exact tH (tG h)
  ·exact h
theorem Sd (a:A3 d=0):(AN d).length≤4096:=by
 obtain⟨-,c,-⟩:=Aw a;have b:=D6 d d.length;rw[iS]at b;omega
theorem A5x (b:A3 d=0) {s:ByteArray} (hs:0≤Am d s):Dc d (E0 d (AN d) s):=by
 have a:=Sd b;refine⟨(Bt (d:=d) a s 0).2.1,fun i j hi c hu=>?_⟩;have h1:=((Bt (d:=d) a s i).1.1 hi).2;exact(Bt (d:=d) a s j).1.2 ⟨c,WQ hs (Ql (WP h1) hu)⟩
theorem A72 (a:A3 d=0):∀c∈Au (AR d),Dc d c:=tH fun c b=>by
 obtain⟨s,hs,rfl⟩:=GO.1 b;exact A5x a (Lg hs)
theorem tI {all:List ByteArray} {codes:List (List Int)} {b:List Int} {u:ByteArray}:∀ {m i:Nat} {l:List ByteArray},rG d all codes b m i l=.inl u→∃j,i≤j∧j<i+m∧DX (codes.getD j []) b=true∧u=all.getD j ByteArray.empty
 | 0,_,_,h=>by cases h
 | m+1,i,l,h=>by
  unfold rG at h;split at h
  ·rename_i a;injection h with h
   exact⟨i,Is _,by omega,a,h.symm⟩
  ·obtain⟨j,f,g,c,e⟩:=tI h;exact⟨j,by omega,by omega,c,e⟩
theorem tJ {all:List ByteArray} {codes:List (List Int)} {b:List Int} {r:List ByteArray}:∀ {m i:Nat} {l:List ByteArray},rG d all codes b m i l=.inr r→(∀j,i≤j→j<i+m→DX (codes.getD j []) b=false)∧r=l++((List.range' i m).filter fun j:Nat=>RE b (j:Int)).map fun j=>all.getD j ByteArray.empty
 | 0,i,l,h=>by
  unfold rG at h;injection h with h
  exact⟨fun j h1 f=>by omega,by simp[h]⟩
 | m+1,i,l,h=>by
  unfold rG at h;split at h
  ·cases h
  ·rename_i g;obtain⟨a,c⟩:=tJ h;refine⟨fun j h1 f=>?_,?_⟩
   ·by_cases e:j=i
    ·rw[e];simpa using g
    ·exact a j (by omega) (by omega)
   ·rw[c,ACN,AAn];by_cases hh:RE b (i:Int)=true
    ·rw[BY hh,BY hh];simp
    ·rw[At hh,At hh]
theorem tK {a b:ByteArray} {x:UInt8}:x∈(a++b).toList↔x∈a.toList∨x∈b.toList:=by
 rw[ByteArray.toList_eq,ByteArray.toList_eq,ByteArray.toList_eq];simp
theorem xP {l:List ByteArray}:∀ {n:Nat},2≤n→(38:UInt8)∈(QF l n).toList
 | n+1,hn=>by
  rw[Oe];unfold Xm;rw[BY (by omega)];rw[tK,tK];exact .inl (.inr (by rw[ByteArray.toList_eq];simp))
theorem pM (hn:Cm d=0) {s:ByteArray} (hs:s∈AN d):(38:UInt8)∉s.toList:=by
 obtain⟨x,i,rfl⟩:=Cy hs;obtain⟨j,g,e⟩:=Cf d0 i;have h1:=(Jd (d:=d) (r:=d) (k:=0) hn j g).2;rw[e]at h1;intro b;unfold Ey at h1;rw[As,IN]at h1;rw[ByteArray.toList_eq]at b;obtain⟨k,hk,c⟩:=AA6.1 b;have a:k<x.1.data.size:=by simpa using hk
 have:=h1.2 k (oN.2 a);unfold chr at this;have f:x.1.data.getD k 0=38:=by
  rw[←c];have h:k<x.1.size:=a;simp[Array.getD,h]
 rw[f]at this;revert this;decide
theorem xQ (o:A3 d=0) {y:AP} (ad:y∈AL d) (hf:Jf (Au (AR d))) {s:ByteArray} (hs:s∈AN d) (e:Ab y.1 s=true):y.2=E0 d (AN d) s:=by
 obtain⟨an,aj,-,hn,al⟩:=Aw o;have v:=Sd o;have Q:Nd (Au (AR d)):=TH (RY o);have ak:(AR d).length=(AN d).length:=by simp[AR]
 have R:AR d <+: Au (AR d):=QQ 257 0 (AR d);have aa:∀ {t:ByteArray},t∈AN d→Ab t s=true→t=s:=fun {t} h e=>by
  obtain⟨x,ab,rfl⟩:=Cy h;obtain⟨z,ae,rfl⟩:=Cy hs;rw[QC hn ab ae e]
 have heq:∀j,j<(AN d).length→∀b∈Au (AR d),DX ((AR d).getD j []) b=true→b=E0 d (AN d) ((AN d).getD j ByteArray.empty):=fun j X b f w=>by
  have g:(AR d).getD j []∈Au (AR d):=R.subset (BF (by omega));unfold DX at w;rw[As,Gm (hf.wds _ g) (hf.wds b f),Gm (hf.wds b f) (hf.wds _ g)]at w;rw[←Je d X];refine Zd (hf.wds b f) (hf.wds _ g) (Q.nrm b f) (Q.nrm _ g) fun i=>?_;rw[ABx];exact⟨w.2 i,w.1 i⟩
 obtain⟨b,f,rfl⟩:=Dg.1 ad;show b=_;have e:Ab (G8 d (AN d) (AR d) b) s=true:=e;unfold G8 at e;cases C:rG d (AN d) (AR d) b (AN d).length 0 [] with
 | inl u =>
  rw[C]at e;obtain⟨j,-,I,af,rfl⟩:=tI C;rw[AAS]at I;rw[←aa (BF I) e];exact heq j I b f af
 | inr l =>
  exfalso;rw[C]at e;have e:Ab (hZ (Ax d l)) s=true:=e;obtain⟨T,r⟩:=tJ C;rw[ABo]at r;have D:=hf.wds b f;have B:∀i,i<(AN d).length→BC b i=true→(AN d).getD i ByteArray.empty∈l:=fun i hi U=>by
   rw[r];exact GO.2 ⟨i,AAk.2 ⟨List.mem_range'.2 ⟨i,hi,by simp⟩,by simpa[TW D] using U⟩,rfl⟩
  have P:∀t∈l,∃i,i<(AN d).length∧t=(AN d).getD i ByteArray.empty∧BC b i=true:=fun t h=>by
   rw[r]at h;obtain⟨i,hi,rfl⟩:=GO.1 h;obtain⟨S,H⟩:=AAk.1 hi;obtain⟨k,ao,ap⟩:=List.mem_range'.1 S;exact⟨i,by omega,rfl,by simpa[TW D] using H⟩
  have Z:(List.range' 0 (AN d).length).map (fun j=>(AN d).getD j ByteArray.empty)=AN d:=by
   apply AAE
   ·simp
   ·intro i S H;simp[AS,H]
  have J:sA l:=by
   rw[r];have:=VP hn;rw[←Z]at this;exact this.sublist (ACu.map _)
  obtain⟨E,A⟩:=hf.some b f;have G:∀i,BC b i=true→i<(AN d).length:=by
   have:=Zt (q:=(AN d).length) (n:=257) (i:=0) (l:=AR d) (fun c W=>by
    obtain⟨t,h,rfl⟩:=GO.1 W;exact⟨(Bt (d:=d) v t 0).2.1,fun i hi=>((Bt (d:=d) v t i).1.1 hi).1⟩) b f
   exact this.2
  have K:∀t∈l,0≤Am d t:=fun t h=>by
   obtain⟨i,hi,rfl,-⟩:=P t h;exact Lg (BF hi)
  obtain⟨m,g,-⟩:=Rr o J (B E (G E A) A) (K _ (B E (G E A) A));have am:0<(Ax d l).length:=AC8 g;have Y:hZ (Ax d l)=QF (Ax d l) (Ax d l).length:=rfl;rw[Y]at e;by_cases h1:(Ax d l).length=1
  ·obtain⟨p,M,rfl,V⟩:=P m (Hz g);have L:DX ((AR d).getD p []) b=true:=by
    have O:(AR d).getD p []∈Au (AR d):=R.subset (BF (by omega));unfold DX;rw[As,Gm (hf.wds _ O) D,Gm D (hf.wds _ O),Je d M];refine⟨fun i hi=>?_,fun i hi=>?_⟩
    ·obtain⟨ah,ai⟩:=(Bt (d:=d) v _ i).1.1 hi;exact(A72 o b f).2 p i V ah (WP ai)
    ·have F:=G i hi;obtain⟨ag,N,hu⟩:=Rr o J (B i F hi) (K _ (B i F hi));have:ag=(AN d).getD p ByteArray.empty:=by
      obtain⟨a,ha⟩:=AB4.1 h1;rw[ha]at g N;rw[AB1.1 N,AB1.1 g]
     rw[this]at hu;exact(Bt (d:=d) v _ i).1.2 ⟨F,WQ (Lg (BF M)) hu⟩
   rw[T p (NO _) (by omega)]at L;cases L
  ·have:=xP (l:=Ax d l) (n:=(Ax d l).length) (by omega);rw[IA.1 e]at this;exact pM hn hs this
theorem Yc (s:ByteArray):∀(l:List AP) (k:Nat),0≤Mc s k l→∃j,j<l.length∧Mc s k l=((k+j:Nat):Int)∧Ab (l.getD j c0).1 s=true
 | [],k,h=>by simp only[Mc]at h;omega
 | x :: l,k,h=>by
  simp only[Mc]at h ⊢;split
  ·rename_i e;exact⟨0,by simp,rfl,e⟩
  ·rename_i e;rw[At e]at h;obtain⟨j,c,a,b⟩:=Yc s l (k+1) h;exact⟨j+1,by simp only[OF];omega,by rw[a];congr 1;omega,by simpa using b⟩
theorem A3l (a:A3 d=0) (hf:Jf (Au (AR d))) {s:ByteArray} (hs:s∈AN d):((AL d).getD (BK (AL d) s).toNat c0).2=E0 d (AN d) s:=by
 have h0:0≤BK (AL d) s:=G9 a (Fu hs);obtain⟨j,b,c,f⟩:=Yc s (AL d) 0 h0;have e:BK (AL d) s=((0+j:Nat):Int):=c;rw[e,AAS,iN];exact xQ a (BF b) hf hs f
theorem Yd {s:ByteArray} (hn:Cm d=0):∀ {r:List AI} {o:List ByteArray} {x:AI},(∀y∈r,y∈d)→x∈d→((∃z∈o,Ab z x.1=true)∨(x∈r∧(DM x s).2=true))→∃z∈r.foldl (Hk s) o,Ab z x.1=true
 | [],o,x,_,_,h=>h.resolve_right fun g=>by cases g.1
 | y :: r,o,x,f,i,h=>by
  rw[O5];refine Yd hn (fun z a=>f z (by simp[a])) i ?_;rcases h with ⟨z,a,e⟩|⟨b,c⟩
  ·left;unfold Hk;split
   ·exact⟨z,NJ a,e⟩
   ·exact⟨z,a,e⟩
  ·rcases By.1 b with rfl|b
   ·left;unfold Hk;rw[BY c];exact gO.1 (QD (l:=o) (s:=x.1))
   ·exact .inr ⟨b,c⟩
theorem Ye (f:Int):∀(a b:List (Int×Int)),Dx f (a++b)=if (Dx f a).2=true then Dx f a else Dx f b
 | [],_=>rfl
 | x :: a,b=>by
  have h1:Dx f (x :: a++b)=if x.1=f then (x.2,true) else Dx f (a++b):=rfl
  have c:Dx f (x :: a)=if x.1=f then (x.2,true) else Dx f a:=rfl
  rw[h1,c];split
  ·rfl
  ·exact Ye f a b
theorem tL (l:List AP) (fs:List ByteArray) (t:Nat) (f:Int):∀n,Dx f (Sq d l fs t n)=if 0≤f∧f<(n:Int)∧(FG d l (t:Int) (fs.getD f.toNat ByteArray.empty)).2=true then (HT l (FG d l (t:Int) (fs.getD f.toNat ByteArray.empty)).1,true) else (0,false)
 | 0=>by
  rw[At (by omega)];rfl
 | n+1=>by
  rw[Xr,Ye,tL l fs t f n];by_cases h:0≤f∧f<(n:Int)∧(FG d l (t:Int) (fs.getD f.toNat ByteArray.empty)).2=true
  ·rw[BY h,BY rfl,BY ⟨h.1,by omega,h.2.2⟩]
  ·rw[At h,At (by simp)];by_cases hn:f=(n:Int)
   ·subst hn;rw[iN];by_cases hi:(FG d l (t:Int) (fs.getD n ByteArray.empty)).2=true
    ·rw[BY hi,BY ⟨by omega,by omega,hi⟩];unfold Dx;rw[BY rfl]
    ·rw[At hi,At fun g=>hi g.2.2];rfl
   ·have a:¬(0≤f∧f<((n+1:Nat):Int)∧(FG d l (t:Int) (fs.getD f.toNat ByteArray.empty)).2=true):=fun g=>h ⟨g.1,by omega,g.2.2⟩;rw[At a];split
    ·unfold Dx;rw[At (fun e=>hn e.symm)];rfl
    ·rfl
theorem WR (e:Av d=0) {t f:Int} (a:0≤t) (i:t<((AL d).length:Int)) (b:0≤f) (c:f<((BL d).length:Int)):B8 (Bm d) t f=if (FG d (AL d) t ((BL d).getD f.toNat ByteArray.empty)).2=true then (HT (AL d) (FG d (AL d) t ((BL d).getD f.toNat ByteArray.empty)).1,true) else (0,false):=by
 unfold B8;rw[A3d e a i,tL,ABm a];by_cases h:(FG d (AL d) t ((BL d).getD f.toNat ByteArray.empty)).2=true
 ·rw[BY ⟨b,c,h⟩,BY h]
 ·rw[At fun g=>h g.2.2,At h]
theorem A5y (a:Av d=0) {f:Int} (c:0≤f) (e:f<((BL d).length:Int)):Ke (Bm d) f=BK (AL d) (Dh d ((BL d).getD f.toNat ByteArray.empty)).1:=by
 unfold Ke;rw[WJ a];have b:f.toNat<(BL d).length:=by omega
 simp[AS,b,QJ]
theorem A9G (b:Av d=0):HAp (Bm d):=by
 obtain⟨c,-,S,F,-⟩:=pJ b;obtain⟨u,-,-⟩:=CC b;obtain⟨-,U,-⟩:=BU u;have T:=VL c U;obtain⟨an,ak,-,hn,al⟩:=Aw c;obtain⟨hk,am⟩:=A62 b;have I:=QI c S;have n:=Z1 d;have hF:(Bm d).2.length=(BL d).length:=by rw[WJ b,To]
 have E:∀s∈AN d,BM (Bm d) (BK (AL d) s)=E0 d (AN d) s:=fun s hs=>by
  rw[NW d (G9 c (Fu hs)) (Io _ _),A3l c T hs]
 refine⟨fun t f j l k g=>?_,fun t w f j l A ai k g X q=>?_⟩
 ·rw[n]at l;rw[hF]at g;have hs:=BF (d:=ByteArray.empty) (show f.toNat<(BL d).length by omega);rw[WR b j l k g,A5y b k g];generalize (BL d).getD f.toNat ByteArray.empty=s at *;obtain⟨v,-⟩:=Qj b j l hs;obtain⟨aj,aa,R,Y⟩:=WL (F s hs);have hi:(if (FG d (AL d) t s).2=true then (HT (AL d) (FG d (AL d) t s).1,true) else ((0:Int),false)).2=true↔(FG d (AL d) t s).2=true:=by
   split<;>simp[*]
  rw[hi,v];constructor
  ·rintro⟨x,a,Z,W⟩;have hint:=F s hs;unfold Dh at hint ⊢;split at hint
   ·rename_i h1;rw[BY h1];obtain⟨ao,V⟩:=AB4.1 h1;obtain⟨z,u,C⟩:=Yd (d:=d) (s:=s) hn (r:=d) (o:=[]) (fun y ad=>ad) a (.inr ⟨a,Z⟩);have ae:0≤Am d z:=by rw[Jc d C];exact Df a
    obtain⟨m,p,hu⟩:=Rr c (xO hn s) u ae;have hu:=WO hu C;have e:(Ax d (Fc d s)).getD 0 ByteArray.empty=m:=by
     rw[V]at p ⊢;rw[AB1.1 p];rfl
    rw[show ((Ax d (Fc d s)).getD 0 ByteArray.empty,true).1=m from e];obtain⟨aq,K,B,-⟩:=(Ro (Hz p)).resolve_left (by simp);have H:m∈AN d:=by rw[←B];exact Qo K hn
    have ab:=Qo a hn;obtain⟨n0,n1⟩:=TZ I a;have L:0≤BK (AL d) m:=G9 c (Fu H);have ap:=Io (AL d) m;refine GH hk L (by omega) n0 (by omega) j (by omega) ((BO hk L (by omega) n0 (by omega)).2 fun i hi=>?_) W;unfold iW at hi ⊢;rw[E x.1 ab]at hi;rw[E m H];exact A5v c (by rw[←B];exact Df K) hu hi
   ·cases hint
  ·intro h;rw[←R]at h;exact⟨aj,aa,Y,h⟩
 ·have M:t<((AL d).length:Int):=by omega
  have N:w<((AL d).length:Int):=by omega
  rw[hF]at g;have hs:=BF (d:=ByteArray.empty) (show f.toNat<(BL d).length by omega);rw[WR b j M k g]at q ⊢;rw[WR b A N k g];generalize (BL d).getD f.toNat ByteArray.empty=s at *;obtain⟨v,af⟩:=Qj b j M hs;obtain⟨ag,ah⟩:=Qj b A N hs;have hi:(FG d (AL d) t s).2=true:=by
   split at q
   ·assumption
   ·cases q
  have J:∀x∈d,UsD d t s x→UsD d w s x:=fun x a hu=>by
   obtain⟨n0,n1⟩:=TZ I a;exact⟨hu.1,GH hk n0 (by omega) j l A ai hu.2 X⟩
  have G:(FG d (AL d) w s).2=true:=by
   obtain⟨x,a,hu⟩:=v.1 hi;exact ag.2 ⟨x,a,J x a hu⟩
  rw[BY hi,BY G];obtain⟨⟨a0,O⟩,P⟩:=af hi;obtain⟨⟨Q,b1⟩,b2⟩:=ah G;refine(BO hk a0 (by rw[n];exact O) Q (by rw[n];exact b1)).2 fun i D=>?_;unfold iW at D ⊢;exact(P i).2 fun x a hu=>(b2 i).1 D x a (J x a hu)
theorem pN (d:List AI):HAp (Ay d).1:=by
 by_cases a:Av d=0
 ·rw[TY a];exact A9G a
 ·have:(Ay d).1=([],[]):=by
   unfold Ay BB;rw[BY a,BY a]
  rw[this];exact⟨fun t f c b=>by simp at b;omega,fun t e f c b=>by simp at b;omega⟩
end
theorem Mv (d:List AI):(Ay d).1.1.length≤256∧(Ay d).1.2.length≤64:=by
 unfold Ay;split
 ·exact⟨by simp,by simp⟩
 ·rename_i a;have a:(BB d).2=0:=DO a;have b:Av d=0:=by
   unfold BB at a;split at a
   ·rename_i h;exact absurd a h
   ·rename_i h;exact DO h
  obtain⟨f,c,-⟩:=CC b;obtain⟨-,e,-⟩:=BU f;refine⟨?_,?_⟩
  ·show (Eg _ _ _).length≤256;rw[Kb,Im];exact e
  ·show (EY d).1.length≤64;unfold EY;rw[At (by rw[b];simp)];show ((BL d).map (QJ d)).length≤64;rw[To];exact c
theorem Se {H:AJ} (q:H.1.length≤256) (r:H.2.length≤64) {f:List AE} (h:J8 H f=true):Ae f∧Oq f∧0<f.length∧I5 H f∧D8 f=true∧f.length≤12∧∀x∈f,∀a∈x.2,0≤a.1∧a.1<(H.2.length:Int):=by
 unfold J8 at h;rw[As,AAq]at h;obtain⟨l,c⟩:=h;unfold Cp at c;split at c
 ·rename_i h1;exact absurd c h1
 ·rename_i h1;split at c
  ·cases c
  ·rename_i e;split at c
   ·cases c
   ·rename_i i;have h1:(A4 f).2=0:=DO h1;have e:f.all (TG H)=true:=by simpa using e
    have i:Cz f (A4 f).1=0:=by simpa using i
    have k:D8 f=true:=by
     unfold D8;simp only[As,AAq];refine⟨⟨l,?_⟩,h1,?_⟩
     ·rw[IN]at e ⊢;intro x d;have:=e x d;unfold TG at this;rw[As,IS,IN]at this;unfold ndB;rw[As,IS,IN];refine⟨by omega,fun a ha=>?_⟩;have:=this.2 a ha;unfold rU at this;rw[IS]at this;unfold ftB;rw[IS];omega
     ·rw[←Jh i];exact Gx f
    obtain⟨n,o,p,-⟩:=Mq k;have g:CH f=0:=by
     unfold A4 at h1;split at h1
     ·rename_i hh;exact hh
     ·exact h1
    have m:HC (f.length:Int) f=0:=by
     unfold CH at g;split at g
     ·cases g
     ·split at g
      ·cases g
      ·exact g
    refine⟨n,o,p,fun x d=>?_,k,(Mi l).1,fun x d a ha=>?_⟩
    ·have b:=IN.1 e x d;unfold TG at b;rw[As,IS]at b;exact⟨(Iv m x d).1,b.1⟩
    ·have b:=IN.1 e x d;unfold TG at b;rw[As,IN]at b;have j:=b.2 a ha;unfold rU at j;rw[IS]at j;exact⟨((Iv m x d).2 a ha).1,j⟩
theorem pO {f:List AE} (hf:Ae f):C0 f:=⟨hf.1,fun x a=>(hf.2 x a).1⟩
structure H14 (h:AJ):Prop where
 ok:HW h
 inj:HX h
 ft:Wn h
 nrm:Su h
 ap:HAp h
 b1:h.1.length≤256
 b2:h.2.length≤64
theorem kX (d:List AI):H14 (Ay d).1:=⟨HF d,SU d,pL d,fun t a=>(WB d).nrm _ (GO.2 ⟨t,a,rfl⟩),pN d,(Mv d).1,(Mv d).2⟩
theorem h14 (d:List AI):H14 (B6 d):=by
 unfold B6;split
 ·exact kX d
 ·exact kX Iq
structure V14 (h:AJ) (f:List AE):Prop where
 inf:oO h f
 small:C0 f
 len:f.length≤12
theorem A9H {h:AJ} (hh:H14 h) {f:List AE} (i:J8 h f=true):V14 h f:=by
 obtain⟨b,j,k,d,l,e,g⟩:=Se hh.b1 hh.b2 i;refine⟨⟨hh.ok,hh.inj,hh.ft,TO hh.b2 (by decide),b,fun x c a ha=>⟨g x c a ha,(b.2 x c).2 a ha⟩,d⟩,⟨b.1,fun x c=>(b.2 x c).1⟩,e⟩
theorem Rs {f:List AE} {ty:List Int} {x:AE} (b:x∈Cg f ty):∃i,i<f.length∧x=(ty.getD i 0,(f.getD i (0,[])).2):=by
 obtain⟨i,hi,rfl⟩:=List.getElem_of_mem b;have a:i<f.length:=by rw[Fy]at hi;exact hi
 refine⟨i,a,?_⟩;rw[←Kj f ty a,AS,AT hi];rfl
theorem Yf {α:Type} {f:List α} {i:Nat} (h:i<f.length) (d:α):f.getD i d∈f:=by
 rw[AS,AT h];exact AAs _
theorem AAf (h:AJ):(h.1,h.2)=h:=rfl
section
open Go
end
theorem A73 {f:List AE} (hf:Ae f) (hs:Oq f) (h0:0<f.length) (a:D8 f=true):RO f:=by
 have h1:=A5a hf hs h0 (fun _ _=>true)
 rwa [oU a fun _ _ _ _=>rfl]at h1
theorem A3m {h:AJ} (j:h.1.length≤256) (k:h.2.length≤64) {f:List AE} (l:J8 h f=true):VF h f∧f.length≤12:=by
 obtain⟨a,b,c,e,d,g,i⟩:=Se j k l;exact⟨⟨a,c,e,fun x m=>(I1 _).1 (b x m).1,i,N0 d,A73 a b c d⟩,g⟩
theorem VF.srt {h:AJ} (hu:HU h) {f:List AE} (a:VF h f):Oq f:=fun x b=>by
 have:=Vy (a.str x b) (a.ft64 hu x b);exact⟨(I1 _).2 (a.str x b),by omega⟩
theorem VF.small {h:AJ} {f:List AE} (a:VF h f):C0 f:=pO a.good
theorem O2 (f:List AE) (ty:List Int) (n:Nat):((Cg f ty).getD n (0,[])).2=(f.getD n (0,[])).2:=by
 by_cases h:n<f.length
 ·rw[Kj f ty h]
 ·rw[AS,dO (by rw[Fy];omega),AS,dO (by omega)]
theorem kY {f g:List AE} (h:∀n:Nat,(f.getD n (0,[])).2=(g.getD n (0,[])).2):∀(k:Nat) (o:List Int) (n:Int),Eh f k o n=Eh g k o n
 | 0,_,_=>rfl
 | k+1,o,n=>by
  have e:Ac f k=Ac g k:=by
   funext o a;unfold Ac;rw[kY h k o a.2]
  rw[DB,DB,h,e]
theorem pP {f:List AE} (hf:Ae f) (h0:0<f.length) (a:AQ f 0=f):j9 f:=by
 have:=(Zp hf (r:=0) (by omega) (by omega)).2
 rwa [a]at this
theorem A3n {h:AJ} {f:List AE} (b:VF h f) {ty:List Int} (k:Hc h f.length ty):VF h (Cg f ty):=by
 have c:=Fy f ty;have g:Ae (Cg f ty):=by
  refine⟨by rw[c];exact b.good.1,fun x a=>?_⟩;obtain⟨i,hi,rfl⟩:=Rs a;rw[c];exact b.good.2 (f.getD i (0,[])) (Yf hi (0,[]))
 have hp:∀x∈Cg f ty,∃y∈f,x.2=y.2:=fun x a=>by
  obtain⟨i,hi,rfl⟩:=Rs a;exact⟨_,Yf hi (0,[]),rfl⟩
 refine⟨g,by rw[c];exact b.pos,fun x a=>?_,fun x a=>?_,fun x a=>?_,Vs g ?_,fun i l m=>?_⟩
 ·obtain⟨i,hi,rfl⟩:=Rs a;exact k.get hi
 ·obtain⟨y,d,e⟩:=hp x a;rw[e];exact b.str y d
 ·obtain⟨y,d,e⟩:=hp x a;rw[e];exact b.ft y d
 ·have:=pP b.good b.pos b.can;unfold j9 at this ⊢;rw[c,kY (O2 f ty)];exact this
 ·obtain⟨j,n,o,x,a,e⟩:=b.ro i l (by rw[←c];exact m);exact⟨j,n,o,x,by show x∈((Cg f ty).getD j.toNat (0,[])).2;rw[O2];exact a,e⟩
theorem pQ (f:List AE) (i:Nat):(A5 f).getD i 0=(f.getD i (0,[])).1:=by
 unfold A5;rw[AS,AA0,AS];cases f[i]?<;>rfl
section
variable {h:AJ} (hh:H14 h)
include hh
theorem H14.hu:HU h:=⟨hh.ok,hh.inj,hh.b2⟩
theorem A74 {f:List AE} (a:J8 h f=true):VF h f:=(A3m hh.b1 hh.b2 a).1
omit hh in
theorem tM {f:List AE} (b:VF h f):Lb h f:=fun x c a ha=>⟨b.ft x c a ha,(b.good.2 x c).2 a ha⟩
theorem A3o {f:List AE} (a:VF h f) {ty:List Int} (e:HZ h f=some ty):VF h (Cg f ty)∧WTy h f ty∧Hc h f.length ty∧WW h f (Cg f ty) id:=by
 obtain⟨h1,g,d⟩:=WN hh.ok hh.inj hh.ft hh.ap (tM a) a.ty e;refine⟨A3n a d,h1,d,rfl,fun i b c=>⟨b,by rw[Fy];exact c⟩,fun i b c=>?_,fun i b c x j=>?_⟩
 ·have:=g i.toNat (by omega);rw[pQ]at this;show A6 h _ ((Cg f ty).getD i.toNat (0,[])).1=true
  rwa [Kj f ty (by omega)]
 ·show Qc ((Cg f ty).getD i.toNat (0,[])).2 x.1=x.2;rw[O2];exact A6L (a.srt hh.hu) j
end
theorem kZ {h:AJ} {f:List AE} {ty:List Int} (e:HZ h f=some ty):Ba h f=(Cg f ty,true):=by unfold Ba;rw[e]
theorem k4 {h:AJ} {f:List AE} (e:HZ h f=none):Ba h f=([],false):=by unfold Ba;rw[e]
theorem tN {d:List AI} {l:List (List AE)} (h:Xx (B6 d) l=true):∀x∈l,V14 (B6 d) x∧VF (B6 d) x:=fun x a=>⟨A9H (h14 d) (IN.1 h x a),A74 (h14 d) (IN.1 h x a)⟩
def t6F (h:AJ) (ty:List Int) (n:Int) (a:Int×Int):Int×Bool:=Bp h (ty.getD n.toNat 0) (Ke h a.1)
def yB (h:AJ) (ty:List Int) (n:Int) (a:Int×Int):List Int:=ty.set n.toNat (t6F h ty n a).1
def u6F (h:AJ) (ty:List Int) (n:Int) (a:Int×Int):Int×Bool:=Bp h ((yB h ty n a).getD a.2.toNat 0) (B8 h (t6F h ty n a).1 a.1).1
def z6F (h:AJ) (ty:List Int) (n:Int) (a:Int×Int):List Int:=(yB h ty n a).set a.2.toNat (u6F h ty n a).1
def r6F (h:AJ) (ty:List Int) (n:Int) (a:Int×Int):Option (List Int):=if (t6F h ty n a).2=false then none else if (u6F h ty n a).2=false then none else some (z6F h ty n a)
def JA (h:AJ) (n:Int):List (Int×Int)→List Int→Option (List Int)
 | [],ty=>some ty
 | a :: l,ty=>(r6F h ty n a).bind (JA h n l)
def Kr (h:AJ):List AE→Nat→List Int→Option (List Int)
 | [],_,ty=>some ty
 | x :: r,i,ty=>(JA h (i:Int) x.2 ty).bind (Kr h r (i+1))
def L4 (h:AJ) (f:List AE):Nat→List Int→Option (List Int)
 | 0,_=>none
 | k+1,ty=>(Kr h f 0 ty).bind fun a=>if a=ty then some a else L4 h f k a
def H5 (h:AJ) (f:List AE):Option (List Int):=L4 h f (I0 h f) (A5 f)
theorem WS {α:Type} {p q:α→Bool}:∀ {l:List α},(∀x∈l,q x=true→p x=true)→(l.filter q).length≤(l.filter p).length
 | [],_=>Is _
 | y :: l,b=>by
  have d:=WS (l:=l) fun z c=>b z (If _ c);rw[AAn,AAn];by_cases a:q y=true
  ·rw[BY a,BY (b y (by simp) a)];simp only[OF];omega
  ·rw[At a];split
   ·simp only[OF];omega
   ·exact d
theorem xR {h:AJ} (hk:HW h) {a m:Int} (a0:0≤a) (c:a<(h.1.length:Int)) (d:0≤m) (f:m<(h.1.length:Int)) (hs:A6 h a m=true):jJ h m≤jJ h a :=
 WS fun x b e=>by
  have b:=oN.1 b;exact GH hk a0 c d f (AA1 _) (by omega) hs e
theorem k5 {h:AJ} (hk:HW h) (hi:HX h):∀ {u v:List Int},u.length=v.length→(∀t∈u,0≤t∧t<(h.1.length:Int))→(∀t∈v,0≤t∧t<(h.1.length:Int))→(∀i,i<u.length→A6 h (u.getD i 0) (v.getD i 0)=true)→NQ h v≤NQ h u∧(v≠u→NQ h v<NQ h u)
 | [],[],_,_,_,_=>⟨Is _,fun e=>absurd rfl e⟩
 | [],_ :: _,e,_,_,_=>by cases e
 | _ :: _,[],e,_,_,_=>by cases e
 | a :: u,b :: v,e,hu,l,hs=>by
  obtain⟨m,j⟩:=k5 hk hi (u:=u) (v:=v) (by simpa using e) (fun t d=>hu t (by simp[d])) (fun t d=>l t (by simp[d])) fun i o=>hs (i+1) (by simp only[OF];omega);have h0:A6 h a b=true:=hs 0 (by simp);obtain⟨a0,f⟩:=hu a (by simp);obtain⟨g,b1⟩:=l b (by simp);have h1:=xR hk a0 f g b1 h0;have n:=fun c=>sJ hk hi a0 f g b1 h0 c;unfold NQ at m j ⊢;simp only[AA4,ACK];refine⟨by omega,fun c=>?_⟩;by_cases k:b=a
  ·subst k;have:=j fun e=>c (by rw[e]);omega
  ·have:=n k;omega
theorem tP {h:AJ} (hk:HW h) (hi:HX h) {m:Nat} {u v:List Int} (hu:Hc h m u) (a:Hc h m v) (hs:F3 h m u v):NQ h v≤NQ h u∧(v≠u→NQ h v<NQ h u) :=
 k5 hk hi (hu.1.trans a.1.symm) hu.2 a.2 fun i b=>hs i (by rw[←hu.1];exact b)
theorem Hc.set {h:AJ} {m:Nat} {u:List Int} (hu:Hc h m u) {t:Int} (b:0≤t) (c:t<(h.1.length:Int)) (i:Nat):Hc h m (u.set i t):=⟨by rw[AAm];exact hu.1,fun x a=>by
 rcases ABn a with a|rfl
 ·exact hu.2 x a
 ·exact⟨b,c⟩⟩
theorem F3.set {h:AJ} (hk:HW h) {m:Nat} {u:List Int} (hu:Hc h m u) {t:Int} {i:Nat} (hi:i<m) (hs:A6 h (u.getD i 0) t=true):F3 h m u (u.set i t):=fun k a=>by
 rw[Gp _ _ _ (by rw[hu.1];exact hi) k];split
 ·rename_i e;rw[e];exact hs
 ·exact TL hk (hu.get a).1 (hu.get a).2
theorem F3.set2 {h:AJ} {m:Nat} {u v:List Int} (hu:u.length=m) (b:F3 h m u v) {t:Int} {i:Nat} (hi:i<m) (hs:A6 h t (v.getD i 0)=true):F3 h m (u.set i t) v:=fun k a=>by
 rw[Gp _ _ _ (by rw[hu];exact hi) k];split
 ·rename_i e;rw[e];exact hs
 ·exact b k a
section
variable {h:AJ} (hk:HW h) (hn:Su h) (hi:HX h) (hf:Wn h) (hap:HAp h) {m:Nat}
include hk hn hi hf hap
theorem pR {n:Int} (n0:0≤n) (n1:n<(m:Int)) {ty i:List Int} (b:Hc h m ty) {a:Int×Int} (ha:FQ h m a) (e:r6F h ty n a=some i) :
  Hc h m i∧F3 h m ty i∧(i=ty→(B8 h (ty.getD n.toNat 0) a.1).2=true∧A6 h (B8 h (ty.getD n.toNat 0) a.1).1 (ty.getD a.2.toNat 0)=true):=by
 obtain⟨⟨a0,r⟩,H,b1⟩:=ha;have l:n.toNat<m:=by omega
 have k:a.2.toNat<m:=by omega
 obtain⟨w,x⟩:=b.get l;obtain⟨y,z⟩:=HH hf a0 r;unfold r6F at e;split at e
 ·cases e
 ·rename_i h1;have h1:(t6F h ty n a).2=true:=by simpa using h1
  split at e
  ·cases e
  ·rename_i j;have j:(u6F h ty n a).2=true:=by simpa using j
   injection e with e
   obtain⟨p0,q,A,B⟩:=(F1 hk hn w x y z).1 h1;have c:Hc h m (yB h ty n a):=b.set p0 q _;have s:=(hap.iff _ _ p0 q a0 r).2 B;obtain⟨v0,v1⟩:=E3 hf p0 q s;obtain⟨C,D⟩:=c.get k;obtain⟨E,F,G,g⟩:=(F1 hk hn C D v0 v1).1 j;have t:Hc h m (z6F h ty n a):=c.set E F _;have u:F3 h m ty (yB h ty n a):=F3.set hk b l A;have p:F3 h m (yB h ty n a) (z6F h ty n a):=F3.set hk c k G;subst e;refine⟨t,u.trans hk b c t p,fun e=>?_⟩;have v:yB h ty n a=ty:=F3.anti hi c b (by rw[e]at p;exact p) u;have d:(yB h ty n a).getD n.toNat 0=(t6F h ty n a).1:=by
    unfold yB;rw[Gp _ _ _ (by rw[b.1];exact l),BY rfl]
   have f:(z6F h ty n a).getD a.2.toNat 0=(u6F h ty n a).1:=by
    unfold z6F;rw[Gp _ _ _ (by rw[c.1];exact k),BY rfl]
   rw[v]at d;rw[e]at f;replace d:=d.symm;replace f:=f.symm;have o:=s;change (B8 h (t6F h ty n a).1 a.1).2=true at o;change A6 h (B8 h (t6F h ty n a).1 a.1).1 (u6F h ty n a).1=true at g;rw[d]at o g;rw[f]at g;exact⟨o,g⟩
theorem A75 {n:Int} (n0:0≤n) (n1:n<(m:Int)) {ty u:List Int} (i:Hc h m ty) (hu:Hc h m u) (o:F3 h m ty u) {a:Int×Int} (ha:FQ h m a) (B:(B8 h (u.getD n.toNat 0) a.1).2=true∧A6 h (B8 h (u.getD n.toNat 0) a.1).1 (u.getD a.2.toNat 0)=true) :
  ∃w,r6F h ty n a=some w∧F3 h m w u:=by
 have _:=hi;obtain⟨⟨a0,c⟩,G,b1⟩:=ha;have d:n.toNat<m:=by omega
 have b:a.2.toNat<m:=by omega
 obtain⟨j,k⟩:=i.get d;obtain⟨f,g⟩:=hu.get d;obtain⟨t,v⟩:=HH hf a0 c;obtain⟨p,A⟩:=B;obtain⟨h1,l⟩:=(F1 hk hn j k t v).2 _ f g (o _ d) ((hap.iff _ _ f g a0 c).1 p);obtain⟨p0,e,H,C⟩:=(F1 hk hn j k t v).1 h1;have r:Hc h m (yB h ty n a):=i.set p0 e _;have q:=(hap.iff _ _ p0 e a0 c).2 C;obtain⟨v0,v1⟩:=E3 hf p0 e q;obtain⟨w0,F⟩:=E3 hf f g p;have s:F3 h m (yB h ty n a) u:=F3.set2 i.1 o d l;obtain⟨D,E⟩:=r.get b;have z:=hap.mono _ _ a.1 p0 e f g a0 c l q;obtain⟨x,y⟩:=(F1 hk hn D E v0 v1).2 _ (hu.get b).1 (hu.get b).2 (s _ b) (GH hk v0 v1 w0 F (hu.get b).1 (hu.get b).2 z A);refine⟨z6F h ty n a,?_,F3.set2 r.1 s b y⟩;unfold r6F;rw[At (by show ¬(Bp h _ _).2=false;rw[h1];simp),At (by show ¬(Bp h _ _).2=false;rw[show (Bp h ((yB h ty n a).getD a.2.toNat 0) (B8 h (t6F h ty n a).1 a.1).1).2=true from x];simp)]
theorem WT {n:Int} (n0:0≤n) (n1:n<(m:Int)):∀ {l:List (Int×Int)} {ty c:List Int},(∀a∈l,FQ h m a)→Hc h m ty→JA h n l ty=some c→Hc h m c∧F3 h m ty c∧(c=ty→WM h ty n l)
 | [],ty,c,_,d,e=>by
  injection e with e
  subst e;exact⟨d,F3.refl hk d,fun _ a ha=>by cases ha⟩
 | a :: l,ty,c,o,d,e=>by
  unfold JA at e;cases g:r6F h ty n a with
  | none=>rw[g]at e;cases e
  | some J3 =>
   rw[g]at e;have e:JA h n l J3=some c:=e;obtain⟨j,p,s⟩:=pR hk hn hi hf hap n0 n1 d (o a (by simp)) g;obtain⟨q,i,t⟩:=WT n0 n1 (fun b f=>o b (If _ f)) j e;refine⟨q,p.trans hk d j q i,fun k=>?_⟩;have r:J3=ty:=F3.anti hi j d (by rw[k]at i;exact i) p;subst r;intro b f;rcases By.1 f with rfl|f
   ·exact s rfl
   ·exact t k b f
theorem k6 {n:Int} (n0:0≤n) (n1:n<(m:Int)) {u:List Int} (hu:Hc h m u):∀ {l:List (Int×Int)} {ty:List Int},(∀a∈l,FQ h m a)→Hc h m ty→F3 h m ty u→WM h u n l→∃j,JA h n l ty=some j∧F3 h m j u
 | [],ty,_,_,e,_=>⟨ty,rfl,e⟩
 | a :: l,ty,d,g,e,i=>by
  obtain⟨J3,f,h1⟩:=A75 hk hn hi hf hap n0 n1 g hu e (d a (by simp)) (i a (by simp));obtain⟨p,-,-⟩:=pR hk hn hi hf hap n0 n1 g (d a (by simp)) f;obtain⟨mO,k,o⟩:=k6 n0 n1 hu (fun b c=>d b (If _ c)) p h1 fun b c=>i b (If _ c);exact⟨mO,by unfold JA;rw[f];exact k,o⟩
theorem WU:∀ {r:List AE} {i:Nat} {ty b:List Int},i+r.length≤m→(∀x∈r,∀a∈x.2,FQ h m a)→Hc h m ty→Kr h r i ty=some b→Hc h m b∧F3 h m ty b∧(b=ty→∀j,j<r.length→WM h ty ((i+j:Nat):Int) (r.getD j (0,[])).2)
 | [],i,ty,b,_,_,c,e=>by
  injection e with e
  subst e;exact⟨c,F3.refl hk c,fun _ j f=>by simp at f⟩
 | x :: r,i,ty,b,q,ha,c,e=>by
  simp only[OF]at q;unfold Kr at e;cases d:JA h (i:Int) x.2 ty with
  | none=>rw[d]at e;cases e
  | some J3 =>
   rw[d]at e;have e:Kr h r (i+1) J3=some b:=e;obtain⟨k,n,t⟩:=WT hk hn hi hf hap (AA1 _) (by omega) (ha x (by simp)) c d;obtain⟨o,g,u⟩:=WU (by omega) (fun y s=>ha y (If _ s)) k e;refine⟨o,n.trans hk c k o g,fun l=>?_⟩;have p:J3=ty:=F3.anti hi k c (by rw[l]at g;exact g) n;subst p;intro j f;cases j with
   | zero=>exact t rfl
   | succ j =>
    have:=u l j (by simpa using f);rw[show i+1+j=i+(j+1) by omega]at this;exact this
theorem k7 {u:List Int} (hu:Hc h m u):∀ {r:List AE} {i:Nat} {ty:List Int},i+r.length≤m→(∀x∈r,∀a∈x.2,FQ h m a)→Hc h m ty→F3 h m ty u→(∀j,j<r.length→WM h u ((i+j:Nat):Int) (r.getD j (0,[])).2)→∃f,Kr h r i ty=some f∧F3 h m f u
 | [],i,ty,_,_,_,b,_=>⟨ty,rfl,b⟩
 | x :: r,i,ty,n,ha,d,b,e=>by
  simp only[OF]at n;obtain⟨J3,c,h1⟩:=k6 hk hn hi hf hap (AA1 i) (by omega) hu (ha x (by simp)) d b (e 0 (by simp));obtain⟨p,-,-⟩:=WT hk hn hi hf hap (AA1 i) (by omega) (ha x (by simp)) d c;obtain⟨mO,g,k⟩:=k7 hu (r:=r) (i:=i+1) (by omega) (fun y o=>ha y (If _ o)) p h1 fun j l=>by
   have:=e (j+1) (by simpa using l);rw[show i+(j+1)=i+1+j by omega]at this;exact this
  exact⟨mO,by unfold Kr;rw[c];exact g,k⟩
end
section
variable {h:AJ} (hk:HW h) (hn:Su h) (hi:HX h) (hf:Wn h) (hap:HAp h) {f:List AE} (ha:Lb h f)
include hk hn hi hf hap ha
theorem Ru:∀ {k:Nat} {ty v:List Int},Hc h f.length ty→L4 h f k ty=some v→WTy h f v∧F3 h f.length ty v∧Hc h f.length v
 | 0,_,_,_,e=>by cases e
 | k+1,ty,v,c,e=>by
  unfold L4 at e;cases a:Kr h f 0 ty with
  | none=>rw[a]at e;cases e
  | some J3 =>
   rw[a]at e;have e:(if J3=ty then some J3 else L4 h f k J3)=some v:=e;obtain⟨b,d,p⟩:=WU hk hn hi hf hap (by omega) ha c a;split at e
   ·rename_i j;have m:J3=v:=Option.some.inj e;subst j;subst m;refine⟨fun i l=>?_,d,b⟩;have:=p rfl i l
    rwa [AAS]at this
   ·obtain⟨n,o,g⟩:=Ru b e;exact⟨n,d.trans hk c b g o,g⟩
theorem k8 {u:List Int} (hu:Hc h f.length u) (d:WTy h f u):∀ {k:Nat} {ty:List Int},Hc h f.length ty→NQ h ty<k→F3 h f.length ty u→∃v,L4 h f k ty=some v∧F3 h f.length v u
 | 0,ty,_,hp,_=>by omega
 | k+1,ty,b,hp,l=>by
  obtain⟨J3,c,h1⟩:=k7 hk hn hi hf hap hu (r:=f) (i:=0) (by omega) ha b l fun j g=>by rw[AAS];exact d j g
  obtain⟨e,m,-⟩:=WU hk hn hi hf hap (by omega) ha b c;unfold L4;rw[c];show ∃v,(if J3=ty then some J3 else L4 h f k J3)=some v∧_;by_cases a:J3=ty
  ·rw[BY a];exact⟨J3,rfl,h1⟩
  ·rw[At a];have:=(tP hk hi b e m).2 a;exact k8 hu d e (by omega) h1
theorem A5A (c:∀x∈f,0≤x.1∧x.1<(h.1.length:Int)):H5 h f=HZ h f:=by
 have h0:Hc h f.length (A5 f):=(YB c).tyl;have hp:NQ h (A5 f)<I0 h f:=by have:=Zj h f;omega
 cases e:HZ h f with
 | some ty =>
  obtain⟨w,l,t⟩:=WN hk hi hf hap ha c e;obtain⟨v,b,k⟩:=k8 hk hn hi hf hap ha t w h0 hp l;obtain⟨i,g,d⟩:=Ru hk hn hi hf hap ha h0 b;obtain⟨mO,a,j⟩:=Sc hk hi hf hap ha c d i g;rw[e]at a;injection a with a
  subst a;unfold H5;rw[b,F3.anti hi d t k j]
 | none =>
  cases b:H5 h f with
  | none=>rfl
  | some v =>
   obtain⟨i,g,d⟩:=Ru hk hn hi hf hap ha h0 b;obtain⟨mO,a,-⟩:=Sc hk hi hf hap ha c d i g;rw[e]at a;cases a
end
section
attribute [local go_sem] WE Nx
def pS:Ad:={ ins:=[GM,GM],pre:=fun(a,b,_)=>List.length a=List.length b,out:=fun(a,b,_)=>[.p .bool (decide (a=b))],lend:=true }
theorem xS (h:AJ) (hk:HW h) (hn:Su h) (hf:Wn h) (hap:HAp h) {m:Nat} {ty:List Int} (f:Hc h m ty) {n:Int} (n0:0≤n) (n1:n<(m:Int)) {a:Int×Int} (ha:FQ h m a) :
  BA Tryz.prog 45 [.p GN h,.sr 1000000 T3 0 ty.length,.p T3 n,.p BE a] [(1000000,.arr 3 T3 ty)] [1000000]
  (fun res t=>(r6F h ty n a=none∧res=.p .bool false∧∃c,t=[(1000000,.arr 3 T3 c)])∨∃c,r6F h ty n a=some c∧res=.p .bool true∧t=[(1000000,.arr 3 T3 c)]):=by
 have o:∀x∈h.1,x.2.1.length≤100000:=fun x w=>TO (hk.1.wid x.2.1 (GO.2 ⟨x,w,rfl⟩)) (by omega);obtain⟨⟨a0,d⟩,j,b1⟩:=ha;obtain⟨k,l⟩:=f.get (show n.toNat<m by omega);obtain⟨r,s⟩:=HH hf a0 d;have u:ty.length=m:=f.1;subst u;have q:r6F h ty n a=if (t6F h ty n a).2=false then none else if (u6F h ty n a).2=false then none else some (z6F h ty n a):=rfl
 have g:=F1 hk hn k l r s;refine J1 [0,1,2,3,4,7,8,9,10,11,13,14,32] [] [] Tryz.func45 Tryz.ntmps45 (AF kQ (AF A2m AG)) ?_;intro w0 K O0 ρ0 e C D;simp only[Ah];repeat'(first|exact trivial|refine eS rfl ?_|refine AB ?_|refine rX e ?_ ?_|refine rC ?_ ?_<;>intro b<;>try(cases b;done))
 ·exact⟨⟨n0,n1⟩,⟨a0,d⟩,⟨k,l⟩,⟨r,s⟩,o⟩
 ·refine Ev.ent (σ':=⟨[(8,.p .bool false)],[(1000000,.arr 3 T3 ty)]⟩) ?_ (AC [(1000000,.nm 1000000)] rfl rfl ?_ ?_);exact fM e [.tmp 8] (.p .bool false) eT (.inl ⟨by rw[q];exact BY b,rfl,ty,rfl⟩);all_goals exact eN
 ·exact⟨n0,n1⟩
 ·exact⟨(g.1 b).1,(g.1 b).2.1⟩
 ·obtain⟨p0,i,E,z⟩:=g.1 b;have y:Hc h ty.length (yB h ty n a):=f.set p0 i _;have v:=(hap.iff _ _ p0 i a0 d).2 z;obtain⟨v0,v1⟩:=E3 hf p0 i v;obtain⟨A,B⟩:=y.get (show a.2.toNat<ty.length by omega);exact⟨⟨j,b1⟩,⟨A,B⟩,⟨v0,v1⟩,o⟩
 ·exact⟨j,b1⟩
 ·refine Ev.ent (σ':=⟨[(8,.p .bool (u6F h ty n a).2)],[(1000000,.arr 3 T3 (z6F h ty n a))]⟩) ?_ (AC [(1000000,.nm 1000000)] rfl rfl ?_ ?_);refine fM e [.tmp 8] (.p .bool (u6F h ty n a).2) eT ?_
  ·rw[q,At (show ¬(t6F h ty n a).2=false by rw[show (t6F h ty n a).2=true from b];simp)];cases hu:(u6F h ty n a).2
   ·exact .inl ⟨by simp,rfl,_,rfl⟩
   ·exact .inr ⟨_,by simp,rfl,rfl⟩
  all_goals refine eM ?_
  ·rfl
  ·rfl
theorem A3q:Ag Tryz.prog 46 pS:=by
 refine fK [0,1,4,5,9,20] Tryz.func46 Tryz.ntmps46 AG ?_;rintro w0 O0 ⟨a,b,u⟩ f ⟨⟨j,-⟩,-⟩ g;simp only[AO]at j;have g:List.length a=List.length b:=g;simp only[pS,AM];repeat'(first|exact trivial|refine eS rfl ?_|refine AB ?_|refine rX f ?_ ?_|refine rC ?_ ?_<;>intro c<;>try(cases c;done))
 refine AH (ι:={k:Nat//k≤List.length a∧(a:List Int).take k=(b:List Int).take k}) (fun k=>⟨[(0,.p GM a),(1,.p GM b),(5,.p (.int .i64) (k.1:Int))],[]⟩) (fun k=>List.length a-k.1) ⟨0,NO _,rfl⟩ (eW []) (fun k=>?_)
 ·obtain⟨k,hk,h⟩:=k;repeat'(first|exact trivial|refine eS rfl ?_|refine AB ?_|refine rX f ?_ ?_|refine rC ?_ ?_<;>intro c<;>try(cases c;done))
  ·exact⟨by assumption,by rw[←g];assumption⟩
  ·have d:k<List.length a:=by exact eV
   have l:(a:List Int)≠b:=fun e=>c (by rw[e]);exact fI f [.tmp 4] (by rw[ABS l];exact eR)
  ·exact eV
  ·have d:k<List.length a:=by exact eV
   refine⟨⟨k+1,d,?_⟩,by simp only;omega,AC [] rfl rfl ?_ ?_⟩
   ·have e:List.getD a k 0=List.getD b k 0:=by simpa using c
    rw[AX (a:List Int) 0 d,AX (b:List Int) 0 (by omega),h,e]
   ·exact eN
   ·exact eN
  ·have d:k=List.length a:=by exact eV
   have i:(a:List Int)=b:=by
    rw[d,iS,g,iS]at h;exact h
   exact fI f [.tmp 4] (by rw[ABE i];exact eR)
end
section
attribute [local go_sem] pS
theorem xT (h:AJ) (hk:HW h) (hn:Su h) (hf:Wn h) (hap:HAp h) (hi:HX h) (f:List AE) (ha:Lb h f) (W:∀x∈f,0≤x.1∧x.1<(h.1.length:Int)) (ab:f.length≤100000) (V:∀x∈f,x.2.length≤100000) :
  BA Tryz.prog 19 [.p GN h,.p E9 f] [] []
  (fun res F=>(H5 h f=none∧res=.tup [.p E9 [],.p .bool false]∧F=[(4,.box 25 true [.p Em []])])∨∃ty,H5 h f=some ty∧res=.tup [.ag [.sr 89 JD 0 f.length],.p .bool true]∧F=[(89,.arr 49 JD (Cg f ty)),(4,.box 25 true [.sr 89 JD 0 f.length])]):=by
 have h0:Hc h f.length (A5 f):=(YB W).tyl;have S:NQ h (A5 f)<I0 h f:=by have:=Zj h f;omega
 refine J1 [0,1,2,3,4,5,6,7,8,9,10,11,12,13,14,19,31,39,51,62,72] [] [] Tryz.func19 Tryz.ntmps19 (AF A3q AG) ?_;intro w0 K O0 ρ0 c af ah;simp only[Ah];repeat'(first|exact trivial|refine eS rfl ?_|refine AB ?_|refine rX c ?_ ?_|refine rC ?_ ?_<;>intro a<;>try(cases a;done))
 refine AH (ι:={i:Nat//i≤f.length}) (fun i=>⟨[(2,.bp 2 [] 0),(3,.bp 3 [] 0),(4,.bp 4 [] 0),(6,.sr 30 T3 0 i.1),(7,.p (.int .i64) (i.1:Int))],[(2,.box 31 true [.p So h.1,.p UZ h.2]),(3,.box 25 true [.p Em f]),(4,.box 25 true [.raw (.slice none 0 0)]),(30,.arr 3 T3 ((A5 f).take i.1))]⟩) (fun i=>f.length-i.1) ⟨0,NO _⟩ (eW [(2,.nm 2),(3,.nm 3),(4,.nm 4),(30,.nil)]) (fun i=>?_)
 ·obtain⟨i,aa⟩:=i;repeat'(first|exact trivial|refine eS rfl ?_|refine AB ?_|refine rX c ?_ ?_|refine rC ?_ ?_<;>intro a<;>try(cases a;done))
  ·exact⟨a,by simp only[AO];omega⟩
  ·exact eV
  ·have s:i<f.length:=OR.1 a;have tl:((A5 f).take i).length=i:=by rw[OS];simp[A5];omega
   have ts:(A5 f).take i++[(f.getD i (0,[])).1]=(A5 f).take (i+1):=by
    rw[AX (A5 f) 0 (by simpa[A5] using s)];simp[A5,AS,s]
   refine⟨⟨i+1,s⟩,by simp only;omega,AC [(2,.nm 2),(3,.nm 3),(4,.nm 4),(30,.nm 30)] rfl rfl ?_ ?_⟩
   ·simp only[←ts];refine eM ?_;simp only[ABO,ACR]
   ·exact eN
  ·have s:i=f.length:=by
    have:=f8.1 a;omega
   subst s;rw[show (A5 f).take f.length=A5 f from An (by simp[A5])];refine AH (ι:={x:Bool×Nat×List Int//Hc h f.length x.2.2∧x.2.1≤I0 h f∧((x.1=true∧L4 h f x.2.1 x.2.2=H5 h f∧NQ h x.2.2<x.2.1)∨(x.1=false∧H5 h f=some x.2.2))}) (fun x=>⟨[(2,.bp 2 [] 0),(3,.bp 3 [] 0),(4,.bp 4 [] 0),(6,.sr 30 T3 0 f.length),(8,.p .bool x.1.1)],[(2,.box 31 true [.p So h.1,.p UZ h.2]),(3,.box 25 true [.p Em f]),(4,.box 25 true [.raw (.slice none 0 0)]),(30,.arr 3 T3 x.1.2.2)]⟩) (fun x=>(if x.1.1 then x.1.2.1+1 else 0)) ⟨(true,I0 h f,A5 f),h0,Is _,.inl ⟨rfl,rfl,S⟩⟩ (eW [(2,.nm 2),(3,.nm 3),(4,.nm 4),(30,.nm 30)]) (fun x=>?_)
   ·obtain⟨⟨b,k,ty⟩,e,Q,E⟩:=x;simp only at e Q E ⊢;repeat'(first|exact trivial|refine eS rfl ?_|refine AB ?_|refine rX c ?_ ?_|refine rC ?_ ?_<;>intro a<;>try(cases a;done))
    ·have:=e.1;rw[OS];simp only[AO];omega
    ·obtain⟨G,m,ai⟩|⟨h1,-⟩:=E
     ·have A:ty.take f.length=ty:=An (ACh e.1);rw[A];obtain⟨k,rfl⟩:∃X,k=X+1:=⟨k-1,by omega⟩;refine AH (ι:={y:Nat×List Int//y.1≤f.length∧Hc h f.length y.2∧F3 h f.length ty y.2∧Kr h (f.drop y.1) y.1 y.2=Kr h f 0 ty}) (fun y=>⟨[(2,.bp 2 [] 0),(3,.bp 3 [] 0),(4,.bp 4 [] 0),(6,.sr 30 T3 0 f.length),(9,.sr 32 T3 0 f.length),(10,.p (.int .i64) (y.1.1:Int))],[(2,.box 31 true [.p So h.1,.p UZ h.2]),(3,.box 25 true [.p Em f]),(4,.box 25 true [.raw (.slice none 0 0)]),(30,.arr 3 T3 y.1.2),(32,.arr 3 T3 ty)]⟩) (fun y=>f.length-y.1.1) ⟨(0,ty),NO _,e,F3.refl hk e,rfl⟩ (AC [(2,.nm 2),(3,.nm 3),(4,.nm 4),(30,.nm 30),(32,.nm 32)] rfl rfl ?_ ?_) (fun y=>?_)
      ·simp only[A,e.1];exact eN
      ·refine eM ?_;exact e.1
      ·obtain⟨⟨j,J3⟩,H,o,C,g⟩:=y;simp only at H o C g ⊢;repeat'(first|exact trivial|refine eS rfl ?_|refine AB ?_|refine rX c ?_ ?_|refine rC ?_ ?_<;>intro a<;>try(cases a;done))
       ·exact a
       ·have v:j<f.length:=OR.1 a;have I:f.getD j (0,[])∈f:=by
         rw[AS,AT v];exact AAs _
        have N:=ha _ I;have ad:=V _ I;have P:f.drop j=f.getD j (0,[]) :: f.drop (j+1):=by
         rw[ON v,AS,AT v];rfl
        rw[P]at g;have g:(JA h (j:Int) (f.getD j (0,[])).2 J3).bind (Kr h (f.drop (j+1)) (j+1))=Kr h f 0 ty:=g;generalize (f.getD j (0,[])).2=l at *;refine AH (ι:={z:Nat×List Int//z.1≤l.length∧Hc h f.length z.2∧F3 h f.length ty z.2∧JA h (j:Int) (l.drop z.1) z.2=JA h (j:Int) l J3}) (fun z=>⟨[(2,.bp 2 [] 0),(3,.bp 3 [] 0),(4,.bp 4 [] 0),(6,.sr 30 T3 0 f.length),(9,.sr 32 T3 0 f.length),(10,.p (.int .i64) (j:Int)),(11,.p Cl l),(12,.p (.int .i64) (z.1.1:Int))],[(2,.box 31 true [.p So h.1,.p UZ h.2]),(3,.box 25 true [.p Em f]),(4,.box 25 true [.raw (.slice none 0 0)]),(30,.arr 3 T3 z.1.2),(32,.arr 3 T3 ty)]⟩) (fun z=>l.length-z.1.1) ⟨(0,J3),NO _,o,C,rfl⟩ (eW [(2,.nm 2),(3,.nm 3),(4,.nm 4),(30,.nm 30),(32,.nm 32)]) (fun z=>?_)
        ·obtain⟨⟨q,mO⟩,T,r,D,d⟩:=z;simp only at T r D d ⊢;repeat'(first|exact trivial|refine eS rfl ?_|refine AB ?_|refine rX c ?_ ?_|refine rC ?_ ?_<;>intro a<;>try(cases a;done))
         ·have w:q<l.length:=OR.1 a;have J:FQ h f.length (l.getD q (0,0)):=N _ (by
           rw[AS,AT w];exact AAs _)
          have O:l.drop q=l.getD q (0,0) :: l.drop (q+1):=by
           rw[ON w,AS,AT w];rfl
          rw[O]at d;have d:(r6F h mO (j:Int) (l.getD q (0,0))).bind (JA h (j:Int) (l.drop (q+1)))=JA h (j:Int) l J3:=d;refine cD 7 c ?_ ?_
          ·exact a
          ·refine rM c (xS h hk hn hf hap r (AA1 j) (by omega) J) [(1000000,.nm 30)] [] ?_ ?_ ?_
           ·refine eM ?_;exact r.1.symm
           ·exact eN
           ·rintro res F (⟨t,rfl,B,rfl⟩|⟨B,t,rfl,rfl⟩)
            ·refine⟨[(30,.nm 1000000)],.p .bool false,[(30,.arr 3 T3 B)],rfl,rfl,?_,?_,rfl,rfl,?_⟩
             ·exact eN
             ·exact eN
             ·refine rL c ?_ ?_
              ·trivial
              ·repeat'(first|exact trivial|refine eS rfl ?_|refine AB ?_|refine rX c ?_ ?_|refine rC ?_ ?_<;>intro a<;>try(cases a;done))
               have d:none=JA h (j:Int) l J3:=by rw[←d,t];rfl
               have R:H5 h f=none:=by
                rw[←m];unfold L4;rw[←g,←d];rfl
               refine Ev.ent (σ':=⟨[(4,.bp 4 [] 0),(5,.p .bool false)],[(4,.box 25 true [.p Em []])]⟩) ?_ (AC [(4,.nm 4)] rfl rfl ?_ ?_)
               ·exact fM c [.cell 4 25,.tmp 5] (.tup [.p E9 [],.p .bool false]) eT (.inl ⟨R,rfl,rfl⟩)
               ·exact eN
               ·exact eN
            ·obtain⟨M,Y,-⟩:=pR hk hn hi hf hap (AA1 j) (by omega) r J t;rw[t]at d;refine⟨[(30,.nm 1000000)],.p .bool true,[(30,.arr 3 T3 B)],rfl,rfl,?_,?_,rfl,rfl,?_⟩
             ·exact eN
             ·exact eN
             ·refine rL c ?_ ?_
              ·trivial
              ·repeat'(first|exact trivial|refine eS rfl ?_|refine AB ?_|refine rX c ?_ ?_|refine rC ?_ ?_<;>intro a<;>try(cases a;done))
               ·exact eV
               ·exact⟨⟨(q+1,B),w,M,D.trans hk e r M Y,d⟩,by simp only;omega,eW [(2,.nm 2),(3,.nm 3),(4,.nm 4),(30,.nm 30),(32,.nm 32)]⟩
         ·exact eV
         ·have U:q=l.length:=by
           have:=f8.1 a;omega
          subst U;rw[ABN]at d;have d:some mO=JA h (j:Int) l J3:=d;rw[←d]at g;exact⟨⟨(j+1,mO),v,r,D,g⟩,by simp only;omega,eW [(2,.nm 2),(3,.nm 3),(4,.nm 4),(30,.nm 30),(32,.nm 32)]⟩
       ·rw[A,An (ACh o.1),e.1,o.1]
       ·have n:j=f.length:=by
         have:=f8.1 a;omega
        subst n;rw[ABN]at g;have g:some J3=Kr h f 0 ty:=g;have Z:J3.take f.length=J3:=An (ACh o.1);have m:(if J3=ty then some J3 else L4 h f k J3)=H5 h f:=by
         rw[←m]
         conv=>rhs;unfold L4
         rw[←g];rfl
        by_cases u:ty=J3
        ·subst u;rw[BY rfl]at m;exact⟨⟨(false,k,ty),e,by show k≤_;omega,.inr ⟨rfl,m.symm⟩⟩,by simp[G],eW [(2,.nm 2),(3,.nm 3),(4,.nm 4),(30,.nm 30)]⟩
        ·rw[At (ACX u)]at m;have ae:=(tP hk hi e o C).2 (ACX u);refine⟨⟨(true,k,J3),o,by show k≤_;omega,.inl ⟨rfl,m,by show NQ h J3<k;omega⟩⟩,by simp[G],AC [(2,.nm 2),(3,.nm 3),(4,.nm 4),(30,.nm 30)] rfl rfl ?_ ?_⟩
         ·exact eN
         ·refine eM ?_;rw[A,Z];simp[u]
     ·simp[a]at h1
    ·obtain⟨h1,-,-⟩|⟨-,m⟩:=E
     ·simp[a]at h1
     ·have L:(Cg f ty).length=f.length:=Fy f ty;refine AH (ι:={j:Nat//j≤f.length}) (fun j=>⟨[(3,.bp 3 [] 0),(4,.bp 4 [] 0),(6,.sr 30 T3 0 f.length),(13,.bp 13 [] 0),(14,.p (.int .i64) (j.1:Int))],[(3,.box 25 true [.p Em f]),(4,.box 25 true [.raw (.slice none 0 0)]),(13,.box 25 true [.sr 89 JD 0 j.1]),(30,.arr 3 T3 ty),(89,.arr 49 JD ((Cg f ty).take j.1))]⟩) (fun j=>f.length-j.1) ⟨0,NO _⟩ (eW [(3,.nm 3),(4,.nm 4),(13,.nm 13),(30,.nm 30),(89,.nil)]) (fun j=>?_)
      ·obtain⟨j,H⟩:=j;have tl:((Cg f ty).take j).length=j:=by rw[OS];omega
       repeat'(first|exact trivial|refine eS rfl ?_|refine AB ?_|refine rX c ?_ ?_|refine rC ?_ ?_<;>intro a<;>try(cases a;done))
       ·exact⟨a,a,by simp only[AO];omega⟩
       ·exact eV
       ·have n:j<f.length:=OR.1 a;have ts:(Cg f ty).take j++[(ty.getD j 0,(f.getD j (0,[])).2)]=(Cg f ty).take (j+1):=by
         rw[AX (Cg f ty) (0,[]) (by rw[L];exact n),Kj f ty n]
        refine⟨⟨j+1,n⟩,by simp only;omega,AC [(3,.nm 3),(4,.nm 4),(13,.nm 13),(30,.nm 30),(89,.nm 89)] rfl rfl ?_ ?_⟩
        ·simp only[←ts];refine eM ?_;simp only[ABO,ACR]
        ·exact eN
       ·have n:j=f.length:=by
         have:=f8.1 a;omega
        subst n;rw[show (Cg f ty).take f.length=Cg f ty from An (ACh L)];refine Ev.ent (σ':=⟨[(4,.bp 4 [] 0),(5,.p .bool true)],[(89,.arr 49 JD (Cg f ty)),(4,.box 25 true [.sr 89 JD 0 f.length])]⟩) ?_ (AC [(89,.nm 89),(4,.nm 4)] rfl rfl ?_ ?_)
        ·exact fM c [.cell 4 25,.tmp 5] (.tup [.ag [.sr 89 JD 0 f.length],.p .bool true]) eT (.inr ⟨ty,m,rfl,rfl⟩)
        ·exact eN
        ·exact eN
end
section
noncomputable def Z4:Ad:={ ins:=[GN,E9,E9],pre:=fun(h,a,b,_)=>HU h∧VF h a∧VF h b∧List.length a+List.length b≤10000,out:=fun(h,a,b,_)=>[.p E9 (FH h a b).1,.p .bool (FH h a b).2] }
attribute [local go_sem] Z4
theorem A3r:Ag Tryz.prog 58 Z4:=by
 refine fK [0,1,2,3,4,5,6,7,8,25] Tryz.func58 Tryz.ntmps58 AG ?_;rintro w0 O0 ⟨h,a,b,u⟩ c-⟨hu,f,g,H⟩;simp only[Z4,AM];repeat'(first|exact trivial|refine eS rfl ?_|refine AB ?_|refine rX c ?_ ?_|refine rC ?_ ?_<;>intro d<;>try(cases d;done))
 refine cP 3 c ?_ ?_
 ·trivial
 ·refine rM c (A2E h [] [] [] a f.good (by simp) rfl rfl) [(1,.nm 11),(2,.nil),(3,.nil),(4,.nil)] [] ?_ ?_ ?_
  ·exact eN
  ·simp only[YJ];exact eN
  ·rintro _ _ ⟨rfl,rfl⟩;refine⟨[(11,.nm 1),(102,.nm 2),(103,.nm 3),(104,.nm 4)],.raw (.tuple #[]),[(11,.box 130 true [.p GN h,.sr 102 T3 0 (DC 0 a.length).length,.sr 103 T3 0 (DP a a.length).length,.sr 104 Cl 0 (Fz 0 a a.length).length]),(102,.arr 3 T3 (DC 0 a.length)),(103,.arr 3 T3 (DP a a.length)),(104,.arr 47 Cl (Fz 0 a a.length))],rfl,rfl,?_,?_,rfl,rfl,CS ?_⟩
   ·simp only[YJ];exact eN
   ·exact eN
   ·have la:(DC 0 a.length).length=a.length:=Km 0 a.length;have lt:(DP a a.length).length=a.length:=by unfold DP;rw[To,iS]
    have K:(Fz 0 a a.length).length=a.length:=by unfold Fz;rw[To,iS]
    repeat'(first|exact trivial|refine eS rfl ?_|refine AB ?_|refine rX c ?_ ?_|refine rC ?_ ?_<;>intro d<;>try(cases d;done))
    refine cP 3 c ?_ ?_
    ·trivial
    ·refine rM c (A2E h (DC 0 a.length) (DP a a.length) (Fz 0 a a.length) b g.good (by omega) (by omega) (by omega)) [(1,.nm 11),(2,.nm 102),(3,.nm 103),(4,.nm 104)] [102,103,104] ?_ ?_ ?_
     ·exact eN
     ·simp only[YJ];exact eN
     ·rintro _ _ ⟨rfl,rfl⟩;rw[la,w8,o5,xA];rw[show a.length+b.length=(Ao a b).length from (Dt a b).symm];have G:=Dt a b;have y:=Lf f.good g.good (by omega);have A:=A5l y (Vv f.ty g.ty) (Kn f.str g.str);have q:=Vx (f.ft64 hu) (g.ft64 hu);have J:=o6 (N:=Ao a b) fun x n=>Vy (Kn f.str g.str x n) (q x n);have hap:=f.pos;have I:=g.pos;have D:=fun p ty ar z m=>sY f g (p:=p) (ty:=ty) (ar:=ar) z m;have B:=YQ f g;generalize DC 0 (Ao a b).length=p0 at *;generalize Ow (Ao a b)=t at *;generalize Vu (Ao a b)=s at *;refine⟨[(11,.nm 1),(102,.nm 2),(103,.nm 3),(104,.nm 4)],.raw (.tuple #[]),[(11,.box 130 true [.p GN h,.sr 102 T3 0 p0.length,.sr 103 T3 0 t.length,.sr 104 Cl 0 s.length]),(102,.arr 3 T3 p0),(103,.arr 3 T3 t),(104,.arr 47 Cl s)],rfl,rfl,?_,?_,rfl,rfl,CS ?_⟩
      ·simp only[YJ];exact eN
      ·exact eN
      ·repeat'(first|exact trivial|refine eS rfl ?_|refine AB ?_|refine rX c ?_ ?_|refine rC ?_ ?_<;>intro d<;>try(cases d;done))
       refine cP 4 c ?_ ?_
       ·trivial
       ·refine rM c (A5h h hu.ok A (a:=0) (b:=(a.length:Int)) (by omega) (by omega) (by omega) (by omega)) [(101,.nm 11),(102,.nm 102),(103,.nm 103),(104,.nm 104)] [102,103,104] ?_ ?_ ?_
        ·exact eN
        ·simp only[sU];exact eN
        ·rintro res F (⟨rfl,i,l,j,rfl,e⟩|⟨rfl,⟨i,l,j,rfl⟩,C⟩)
         ·have m:=kF e (by omega) q;have o:=SZ hu (D i l j e m);refine⟨[(11,.nm 101),(102,.nm 102),(103,.nm 103),(104,.nm 104)],.p .bool true,[(11,.box 130 true [.p GN h,.sr 102 T3 0 i.length,.sr 103 T3 0 l.length,.sr 104 Cl 0 j.length]),(102,.arr 3 T3 i),(103,.arr 3 T3 l),(104,.arr 47 Cl j)],rfl,rfl,?_,?_,rfl,rfl,?_⟩
          ·simp only[sU];exact eN
          ·exact eN
          ·refine rL c ?_ ?_
           ·trivial
           ·repeat'(first|exact trivial|refine eS rfl ?_|refine AB ?_|refine rX c ?_ ?_|refine rC ?_ ?_<;>intro d<;>try(cases d;done))
            refine cP 1 c ?_ ?_
            ·trivial
            ·refine rM c (A2O h e.fo m (by rw[e.lt,e.lp]) (by rw[e.la,e.lp]) (fun k x n=>by rw[e.lp];exact(e.arr k x n).1) (r:=0) (by omega) (by rw[e.lp];omega)) [(101,.nm 11),(102,.nm 102),(103,.nm 103),(104,.nm 104)] [11,102,103,104] ?_ ?_ ?_
             ·exact eN
             ·simp only[sU];exact eN
             ·rintro _ F rfl;refine⟨[],.p E9 (AQ (quo i l j) (El i 0)),[],rfl,rfl,?_,?_,rfl,rfl,?_⟩
              ·exact eN
              ·exact eN
              ·refine rL c ?_ ?_
               ·trivial
               ·repeat'(first|exact trivial|refine eS rfl ?_|refine AB ?_|refine rX c ?_ ?_|refine rC ?_ ?_<;>intro d<;>try(cases d;done))
                exact fI c [.cell 6 25,.tmp 7] (by rw[o];exact eR)
         ·have o:=B (fun X v w E=>C X v w E);refine⟨[(11,.nm 101),(102,.nm 102),(103,.nm 103),(104,.nm 104)],.p .bool false,[(11,.box 130 true [.p GN h,.sr 102 T3 0 i.length,.sr 103 T3 0 l.length,.sr 104 Cl 0 j.length]),(102,.arr 3 T3 i),(103,.arr 3 T3 l),(104,.arr 47 Cl j)],rfl,rfl,?_,?_,rfl,rfl,?_⟩
          ·simp only[sU];exact eN
          ·exact eN
          ·refine rL c ?_ ?_
           ·trivial
           ·repeat'(first|exact trivial|refine eS rfl ?_|refine AB ?_|refine rX c ?_ ?_|refine rC ?_ ?_<;>intro d<;>try(cases d;done))
            exact fI c [.cell 6 25,.tmp 7] (by rw[o];exact eR)
end
section
attribute [local go_sem] o8 pA
def Z5:Ad:={ ins:=[Em,GM],pre:=fun(l,c,_)=>Ae l∧List.length c=List.length l∧(∀x∈(c:List Int),0≤x∧x<(List.length l:Int)),out:=fun(l,c,_)=>[.p GM (Ri l c)] }
attribute [local go_sem] Z5
def arI (l:List AE) (i:Nat):List (List (Int×Int)):=GW (l.take i)++List.replicate (l.length-i) []
theorem tQ {l:List AE} {i:Nat} (h:i<l.length):(arI l i).set i (l.getD i (0,[])).2=arI l (i+1):=by
 unfold arI;have a:(GW (l.take i)).length=i:=by simp[GW];omega
 rw[AAO _ _ (by omega),a,AAI,show l.length-i=(l.length-(i+1))+1 by omega,AC0,ABf,AX l (0,[]) h];simp[GW]
theorem A3s (l:List AE):arI l l.length=GW l:=by
 unfold arI;simp
theorem A3t (l:List AE):arI l 0=List.replicate l.length []:=by
 unfold arI;simp[GW]
def mgI (o:List Int) (hi lo:Int) (k:Nat):List Int:=(o.take k).map (H4 hi lo)++o.drop k
theorem tR {o:List Int} {hi lo:Int} {k:Nat} (h:k<o.length):(mgI o hi lo k).getD k 0=o.getD k 0:=by
 unfold mgI;rw[AS,AA2 (by simp;omega)];simp only[To,OS,AAU (ABT h),AAI,AAz,ACS];rw[AS]
theorem A3v {o:List Int} {hi lo:Int} {k:Nat} (h:k<o.length) (e:o.getD k 0≠hi):mgI o hi lo (k+1)=mgI o hi lo k:=by
 unfold mgI;rw[AX o 0 h,AAl,List.map_singleton,Hb e,oF]
 congr 1
 rw[ON h,AS,AT h];rfl
theorem A5B {o:List Int} {hi lo:Int} {k:Nat} (h:k<o.length) (e:o.getD k 0=hi):mgI o hi lo (k+1)=(mgI o hi lo k).set k lo:=by
 unfold mgI;rw[AAO _ _ (by simp;omega)];simp only[To,OS,AAU (ABT h),AAI];rw[ON h,ABf,AX o 0 h,AAl,List.map_singleton,e,I7,oF];rfl
theorem A3w (o:List Int) (hi lo:Int):mgI o hi lo o.length=o.map (H4 hi lo):=by
 unfold mgI;simp
theorem A3x:Ag Tryz.prog 86 Z5:=by
 refine fK [0,1,4,5,6,7,8,9,10,11,12,13,14,15,16,17,27,43,56,95,99,107,124,144] Tryz.func86 Tryz.ntmps86 (AF A2W (AF A2Y AG)) ?_;rintro w0 O0 ⟨l,c,u⟩ g-⟨z,b,R⟩;simp only[Z5,AM];have ab:=z.1;repeat'(first|exact trivial|refine eS rfl ?_|refine AB ?_|refine rX g ?_ ?_|refine rC ?_ ?_<;>intro a<;>try(cases a;done))
 ·exact eV
 ·simp only[AO];exact eV
 ·rw[←A3t];rw[DD];refine AH (ι:={i:Nat//i≤l.length}) (fun i=>⟨[(0,.p Em l),(1,.p GM c),(5,.sr 20 T3 0 l.length),(6,.sr 23 Cl 0 l.length),(7,.sr 52 J2 0 (E5 c i.1).length),(8,.p (.int .i64) (i.1:Int))],[(20,.arr 3 T3 (A0 l.length)),(23,.arr 47 Cl (arI l i.1)),(52,.arr 166 J2 (E5 c i.1))]⟩) (fun i=>l.length-i.1) ⟨0,by omega⟩ (AC [(20,.nm 20),(23,.nm 23),(52,.nil)] rfl rfl ?_ ?_) (fun i=>?_)
  ·refine eM ?_;rfl
  ·refine eM ?_;rfl
  ·obtain⟨i,hi⟩:=i;have af:=xC c i;repeat'(first|exact trivial|refine eS rfl ?_|refine AB ?_|refine rX g ?_ ?_|refine rC ?_ ?_<;>intro a<;>try(cases a;done))
   ·exact a
   ·rw[b];exact a
   ·refine⟨by rw[b];assumption,?_⟩;simp only[AO];omega
   ·exact eV
   ·have j:i<l.length:=by exact eV
    have L:c.getD i 0≠(i:Int):=a;refine⟨⟨i+1,by omega⟩,by simp only;omega,AC [(20,.nm 20),(23,.nm 23),(52,.nm 52)] rfl rfl ?_ ?_⟩
    ·simp only;rw[kN L,←tQ j];exact eN
    ·refine eM ?_;rw[kN L,Do];rfl
   ·exact eV
   ·have j:i<l.length:=by exact eV
    have F:c.getD i 0=(i:Int):=by simpa using a
    refine⟨⟨i+1,by omega⟩,by simp only;omega,AC [(20,.nm 20),(23,.nm 23),(52,.nm 52)] rfl rfl ?_ ?_⟩
    ·simp only;rw[kO F,←tQ j];exact eN
    ·refine eM ?_;rw[kO F]
   ·have j:i=l.length:=by exact eV
    subst j;rw[A3s];have Q:=kP z R b;have ag:=pE z;have P:KC (Oy (A0 l.length) (GW l)+(E5 c l.length).length) (A0 l.length) (GW l) (E5 c l.length)=Ri l c:=rfl;generalize E5 c l.length=M at *;generalize A0 l.length=Y at *;generalize GW l=N at *;generalize Ri l c=res at *;generalize List.length l=n at *;refine AH (ι:={s:(List Int×List (List (Int×Int)))×(List (Int×Int)×Nat)//CI n s.1.1 s.1.2 s.2.1∧s.2.2≤s.2.1.length∧s.2.1.length+Oy s.1.1 s.1.2≤10000100000∧KC (Oy s.1.1 s.1.2+(s.2.1.length-s.2.2)) s.1.1 s.1.2 (s.2.1.drop s.2.2)=res}) (fun s=>⟨[(5,.sr 20 T3 0 n),(6,.sr 23 Cl 0 n),(7,.sr 52 J2 0 s.1.2.1.length),(9,.p (.int .i64) (s.1.2.2:Int))],[(20,.arr 3 T3 s.1.1.1),(23,.arr 47 Cl s.1.1.2),(52,.arr 166 J2 s.1.2.1)]⟩) (fun s=>Oy s.1.1.1 s.1.1.2+(s.1.2.1.length-s.1.2.2)) ⟨((Y,N),(M,0)),Q,by simp,by simp only;omega,by simpa using P⟩ (eW [(20,.nm 20),(23,.nm 23),(52,.nm 52)]) (fun s=>?_)
    ·obtain⟨⟨⟨o,ar⟩,⟨T,i⟩⟩,e,hi,B,b⟩:=s;simp only at e hi B b;simp only;have A:=e.lo;have ha:=e.la;have f:i<T.length→(0≤(T.getD i (0,0)).1∧(T.getD i (0,0)).1<(n:Int))∧(0≤(T.getD i (0,0)).2∧(T.getD i (0,0)).2<(n:Int)):=fun h=>e.wr _ (AD T (0,0) h);have E:i<T.length→T.drop i=T.getD i (0,0) :: T.drop (i+1):=fun h=>by
      rw[ON h,AS,AT h];rfl
     have G:i<T.length→Oy o ar+(T.length-i)=(Oy o ar+(T.length-(i+1)))+1:=fun h=>by omega
     generalize y:T.getD i (0,0)=w at *;have K:(if o.getD (Int.toNat w.2) 0<o.getD (Int.toNat w.1) 0 then o.getD (Int.toNat w.2) 0 else o.getD (Int.toNat w.1) 0)=EU o w.1 w.2:=rfl;have I:(if o.getD (Int.toNat w.1) 0<o.getD (Int.toNat w.2) 0 then o.getD (Int.toNat w.2) 0 else o.getD (Int.toNat w.1) 0)=Cb o w.1 w.2:=rfl;repeat'(first|exact trivial|refine eS rfl ?_|refine AB ?_|refine rX g ?_ ?_|refine rC ?_ ?_<;>intro a<;>try(cases a;done))
     ·have h1:i<T.length:=by exact eV
      rw[y];have:=f h1;exact⟨a,this.1,a,this.2⟩
     ·have h1:i<T.length:=by exact eV
      rw[y];have:=f h1;exact⟨a,this.1,a,this.2⟩
     ·have h1:i<T.length:=by exact eV
      have:T.length≤10000100000:=by omega
      omega
     ·have h1:i<T.length:=by exact eV
      rw[y,K,I]at a;refine⟨⟨((o,ar),(T,i+1)),e,by simp only;omega,B,?_⟩,by simp only;omega,AC [(20,.nm 20),(23,.nm 23),(52,.nm 52)] rfl rfl ?_ ?_⟩
      ·simp only;rw[E h1,G h1]at b;simp only[KC]at b;rw[BY a]at b;exact b
      ·exact eN
      ·exact eN
     ·have h1:i<T.length:=by exact eV
      rw[y,K,I]at a ⊢;have f:=f h1;have d:=A30 e f.1.1 f.1.2 f.2.1 f.2.2 a;have O:=kM e d;have ai:=WD e d;have ah:=A31 e d;rw[E h1,G h1]at b;simp only[KC]at b;rw[At a]at b;have W:CN o w.1 w.2=o.map (H4 (Cb o w.1 w.2) (EU o w.1 w.2)):=rfl;have ad:=Ko o w.1 w.2;generalize EU o w.1 w.2=lo at *;generalize Cb o w.1 w.2=hh at *;refine AH (ι:={k:Nat//k≤o.length}) (fun k=>⟨[(5,.sr 20 T3 0 n),(6,.sr 23 Cl 0 n),(7,.sr 52 J2 0 T.length),(9,.p (.int .i64) (i:Int)),(10,.p T3 lo),(11,.p T3 hh),(12,.p (.int .i64) (k.1:Int))],[(20,.arr 3 T3 (mgI o hh lo k.1)),(23,.arr 47 Cl ar),(52,.arr 166 J2 T)]⟩) (fun k=>o.length-k.1) ⟨0,by omega⟩ (AC [(20,.nm 20),(23,.nm 23),(52,.nm 52)] rfl rfl ?_ ?_) (fun k=>?_)
      ·refine eM ?_;rfl
      ·exact eN
      ·obtain⟨k,hk⟩:=k;simp only;repeat'(first|exact trivial|refine eS rfl ?_|refine AB ?_|refine rX g ?_ ?_|refine rC ?_ ?_<;>intro a<;>try(cases a;done))
       ·exact a
       ·assumption
       ·exact eV
       ·have q:k<o.length:=by rw[A];exact eV
        rw[tR q]at a;refine⟨⟨k+1,by omega⟩,by simp only;omega,AC [(20,.nm 20),(23,.nm 23),(52,.nm 52)] rfl rfl ?_ ?_⟩
        ·simp only;rw[A5B q a];exact eN
        ·exact eN
       ·exact eV
       ·have q:k<o.length:=by rw[A];exact eV
        rw[tR q]at a;refine⟨⟨k+1,by omega⟩,by simp only;omega,AC [(20,.nm 20),(23,.nm 23),(52,.nm 52)] rfl rfl ?_ ?_⟩
        ·simp only;rw[A3v q a];exact eN
        ·exact eN
       ·refine⟨⟨d.l0,Int.lt_trans d.lt d.h1⟩,?_⟩;simp only[AO];dsimp only[Ty.den]at *;omega
       ·have V:k=o.length:=by rw[A]at hk ⊢;exact eV
        subst V;rw[A3w,←W];have C:F0 (ar.getD lo.toNat []) ((ar.getD hh.toNat []).take 0)=ar.getD lo.toNat []:=by simp[F0]
        have D:Ee (ar.getD lo.toNat []) ((ar.getD hh.toNat []).take 0)=[]:=by simp[Ee]
        have aa:=WC (ar.getD lo.toNat []) (ar.getD hh.toNat []);refine AH (ι:={k:Nat//k≤(ar.getD hh.toNat []).length}) (fun k=>⟨[(5,.sr 20 T3 0 n),(6,.sr 23 Cl 0 n),(7,.sr 52 J2 0 (T++Ee (ar.getD lo.toNat []) ((ar.getD hh.toNat []).take k.1)).length),(9,.p (.int .i64) (i:Int)),(10,.p T3 lo),(11,.p T3 hh),(13,.sr 112 BE 0 (F0 (ar.getD lo.toNat []) ((ar.getD hh.toNat []).take k.1)).length),(14,.p (.int .i64) (k.1:Int))],[(20,.arr 3 T3 (CN o w.1 w.2)),(23,.arr 47 Cl ar),(52,.arr 166 J2 (T++Ee (ar.getD lo.toNat []) ((ar.getD hh.toNat []).take k.1))),(112,.arr 53 BE (F0 (ar.getD lo.toNat []) ((ar.getD hh.toNat []).take k.1)))]⟩) (fun k=>(ar.getD hh.toNat []).length-k.1) ⟨0,by omega⟩ (AC [(20,.nm 20),(23,.nm 23),(52,.nm 52),(112,.nm 112)] rfl rfl ?_ ?_) (fun k=>?_)
        ·simp only;rw[C,D,AAh];exact eN
        ·simp only;rw[C,D,AAh];exact eN
        ·obtain⟨k,hk⟩:=k;simp only;have Z:=WC (ar.getD lo.toNat []) ((ar.getD hh.toNat []).take k);have ae:=AAo k (ar.getD hh.toNat []);have t:=fun(h:k<(ar.getD hh.toNat []).length)=>AX (ar.getD hh.toNat []) (0,0) h;have v:=fun(x:Int×Int) (h:(EV (ar.getD lo.toNat []) x.1).2=true)=>Zv (h:=(ar.getD hh.toNat []).take k) h;have r:=fun(x:Int×Int) (h:(EV (ar.getD lo.toNat []) x.1).2=false)=>Zw (h:=(ar.getD hh.toNat []).take k) h;have H:0≤hh∧hh<(n:Int):=⟨ABj d.l0 (ACU d.lt),d.h1⟩;have J:0≤lo∧lo<(n:Int):=⟨d.l0,Int.lt_trans d.lt d.h1⟩;repeat'(first|exact trivial|refine eS rfl ?_|refine AB ?_|refine rX g ?_ ?_|refine rC ?_ ?_<;>intro a<;>try(cases a;done))
         ·exact H
         ·exact⟨H,a⟩
         ·exact J
         ·simp only[AO];dsimp only[Ty.den]at *;omega
         ·exact eV
         ·have m:k<(ar.getD hh.toNat []).length:=by exact eV
          refine⟨⟨k+1,by omega⟩,by simp only;omega,AC [(20,.nm 20),(23,.nm 23),(52,.nm 52),(112,.nm 112)] rfl rfl ?_ ?_⟩
          ·simp only;rw[t m,(v _ a).1,(v _ a).2,←oF];exact eN
          ·simp only;rw[t m,(v _ a).1,(v _ a).2,←oF];exact eN
         ·simp only[AO];dsimp only[Ty.den]at *;omega
         ·exact eV
         ·have m:k<(ar.getD hh.toNat []).length:=by exact eV
          refine⟨⟨k+1,by omega⟩,by simp only;omega,AC [(20,.nm 20),(23,.nm 23),(52,.nm 52),(112,.nm 112)] rfl rfl ?_ ?_⟩
          ·simp only;rw[t m,(r _ a).1,(r _ a).2];exact eN
          ·simp only;rw[t m,(r _ a).1,(r _ a).2];exact eN
         ·exact J
         ·have h1:i<T.length:=by exact eV
          have:T.length≤10000100000:=by omega
          omega
         ·have h1:i<T.length:=by exact eV
          have U:(ar.getD hh.toNat []).take k=ar.getD hh.toNat []:=An (by exact eV);rw[U];refine⟨⟨((CN o w.1 w.2,ar.set lo.toNat (F0 (ar.getD lo.toNat []) (ar.getD hh.toNat []))),(T++Ee (ar.getD lo.toNat []) (ar.getD hh.toNat []),i+1)),O,by simp only[Do];omega,by simp only[Do];omega,?_⟩,by simp only[Do];omega,AC [(20,.nm 20),(23,.nm 23),(52,.nm 52)] rfl rfl ?_ ?_⟩
          ·simp only;rw[List.drop_append_of_le_length (by omega),←b]
           congr 1
           simp only[Do];omega
          ·exact eN
          ·exact eN
     ·have S:T.drop i=[]:=IF (by exact eV);rw[S,pD]at b;subst b;have X:o.take n=o:=An (by omega);exact fI g [.tmp 4] (by first|exact eR|refine bW ?_;exact X)
end
def Mw (f:List AE):List AE:=f.map fun x=>(x.1,AU x.2)
theorem NX (f:List AE):(Mw f).length=f.length:=by simp[Mw]
theorem Rv (f:List AE) (k:Nat):(Mw f).getD k (0,[])=((f.getD k (0,[])).1,AU (f.getD k (0,[])).2):=by
 unfold Mw;rw[AS,AA0,AS];cases f[k]?<;>rfl
theorem pT {l:List (Int×Int)} (h:(l.map (·.1)).Nodup):(AU l).Pairwise (fun a b=>a.1<b.1):=by
 have hp:=B5 l;have h1:=L3 l;have c:((AU l).map (·.1)).Nodup:=((hp.map _).nodup_iff).2 h;rw[List.Nodup,AAR]at c;exact(h1.and c).imp fun⟨a,b⟩=>by omega
theorem Yg {l:List (Int×Int)} (h:(l.map (·.1)).Nodup):AU (AU l)=AU l:=Jg ((I1 _).2 (pT h))
theorem Sf {f:List AE} (h:∀k,((f.getD k (0,[])).2.map (·.1)).Nodup):∀(k:Nat) (s:List Int×List Int) (n:Int),Di (Mw f) k s n=Di f k s n
 | 0,_,_=>rfl
 | k+1,s,n=>by
  rw[Dw,Dw,Rv,Yg (h _)]
  congr 1
  funext t a;unfold EP;rw[Sf h k]
theorem pU {f:List AE} (h:∀k,((f.getD k (0,[])).2.map (·.1)).Nodup) (root:Int):Fx (Mw f) root=Fx f root:=by
 unfold Fx GD;rw[NX,Sf h]
 congr 1
 funext n;unfold Lx;rw[Rv,Yg (h _)]
theorem NY {n:Nat} {c:List Int} (d:Rj n c) {x:Int} (g:0≤x) (h:x<(n:Int)):Rt c x (c.getD x.toNat 0):=by
 obtain⟨h1,f,b⟩:=d.2 x.toNat (by omega);have a:Rt c (c.getD x.toNat 0) (c.getD x.toNat 0):=.base b;by_cases e:Du c x=x
 ·have e:c.getD x.toNat 0=x:=e;rw[e]at a ⊢;exact a
 ·exact .step e a
theorem A5C {n:Nat} {c:List Int} (b:Rj n c):∃f,Fo c f:=by
 refine⟨fun z=>if Du c z=z then 0 else 1,fun z g h=>?_,fun z g h e=>?_⟩
 ·have:=b.1;obtain⟨h1,d,a⟩:=b.2 z.toNat (by omega);exact⟨h1,by unfold Du;omega⟩
 ·have:=b.1;obtain⟨h1,d,a⟩:=b.2 z.toNat (by omega);have a:Du c (Du c z)=Du c z:=a;show (if Du c (Du c z)=Du c z then 0 else 1)<(if Du c z=z then 0 else 1);rw[BY a,At e];exact Nat.zero_lt_one
theorem k9 {n:Nat} {c:List Int} (a:Rj n c) {x:Int} (b:0≤x) (d:x<(n:Int)):El c x=c.getD x.toNat 0:=Zo (NY a b d)
theorem A66 {n:Nat} {c:List Int} (a:Rj n c) {x y:Int} (b:0≤x) (d:x<(n:Int)) (e:0≤y) (f:y<(n:Int)) (h:c.getD x.toNat 0=c.getD y.toNat 0):EG n c [] x y:=.cls b d e f (NY a b d) (by rw[h];exact NY a e f)
def Yh (c p:List Int) (n:Nat):List Int:=(List.range n).map fun(k:Nat)=>p.getD (c.getD k 0).toNat 0
theorem Z6 {c p:List Int} {n k:Nat} (hk:k<n):(Yh c p n).getD k 0=p.getD (c.getD k 0).toNat 0:=by
 unfold Yh;rw[AS,AA0,AAF hk];rfl
def xU (g:List AE):List (List (Int×Int)):=g.map fun x=>AU x.2
theorem Ta (g:List AE) (k:Nat):(xU g).getD k []=AU (g.getD k (0,[])).2:=by
 unfold xU;rw[AS,AA0,AS];cases g[k]?<;>rfl
structure RC (h:AJ) (N:List AE) (P:List (Int×Int)) (c p:List Int) (g:List AE):Prop where
 good:Ae N
 ty:I5 h N
 rep:Rj N.length c
 types:JF h N c N.length=some p
 rows:A61 N c (Yh c p N.length) N.length g
 jc:∃ar,JC h N P c ar []
theorem A5D {h:AJ} {N:List AE} {P:List (Int×Int)} {c p:List Int} {g:List AE} (r:RC h N P c p g) {x y:Nat} (B:x<N.length) (C:y<N.length) (s:c.getD x 0=c.getD y 0) {a b:Int×Int} (ha:a∈(N.getD x (0,[])).2) (o:b∈(N.getD y (0,[])).2) (n:a.1=b.1):c.getD a.2.toNat 0=c.getD b.2.toNat 0:=by
 obtain⟨ar,k⟩:=r.jc;obtain⟨w,i,e⟩:=k.sa (x:Int) (by omega) (by omega) a (by simpa[Ap] using ha);obtain⟨A,m,d⟩:=k.sa (y:Int) (by omega) (by omega) b (by simpa[Ap] using o);rw[iN]at i m;rw[s]at i;rw[n]at i;have q:=k.nd (c.getD y 0).toNat;have:w=A:=by
  have key:∀(l:List (Int×Int)),(l.map (·.1)).Nodup→∀f u v,(f,u)∈l→(f,v)∈l→u=v:=by
   intro l;induction l with
   | nil=>intro _ f u v h;cases h
   | cons z l t =>
    intro hn f u v h1 j;rw[AA4,AAt]at hn;rcases By.1 h1 with e|h1<;>rcases By.1 j with d|j
    ·rw[←e]at d;injection d with _ d;exact d.symm
    ·exact absurd (GO.2 ⟨_,j,by rw[←e]⟩) hn.1
    ·exact absurd (GO.2 ⟨_,h1,by rw[←d]⟩) hn.1
    ·exact t hn.2 f u v h1 j
  exact key _ q _ _ _ i m
 subst this;rw[e.nil,d.nil]
section
variable {h:AJ} {N:List AE} {P:List (Int×Int)} {c p:List Int} {g:List AE}
theorem A9I (hk:HW h) (hn:Su h) (ab:Zu h) (h0:0<h.1.length) (j:RC h N P c p g):JI h N P c (Yh c p N.length) (xU g) []:=by
 obtain⟨ar,O⟩:=j.jc;have f:=j.rep;have V:=f.1;obtain⟨pl,aj⟩:=Qi h0 f (Is _) j.types;have ad:=s8 hk hn h0 j.ty f (Is _) j.types;have A:=j.rows;have Q:∀k,∀a∈(xU g).getD k [],a∈(g.getD k (0,[])).2:=fun k a ha=>by
  rw[Ta]at ha;exact(B5 _).mem_iff.1 ha
 have Z:∀k,∀a∈(g.getD k (0,[])).2,a∈(xU g).getD k []:=fun k a ha=>by
  rw[Ta];exact(B5 _).mem_iff.2 ha
 have n:∀x,x<N.length→0≤c.getD x 0∧c.getD x 0<(N.length:Int):=fun x l=>by
  obtain⟨K,aq,au⟩:=f.2 x l;exact⟨K,by omega⟩
 have D:∀x,x<N.length→∀b∈(N.getD x (0,[])).2,0≤b.2∧b.2<(N.length:Int):=fun x l b m=>(j.good.2 _ (AD N (0,[]) l)).2 b m;refine⟨j.ty,A5C f,V,by simp[Yh],by simp[xU,A.len],fun w I=>(by cases I),fun x t z=>?_,fun k a ha=>?_,fun k=>?_,fun q F=>?_,fun x r t z s=>?_,fun x r t z s a ha=>?_,fun X v U H=>?_⟩
 ·rw[Z6 (by omega)];have:=n x.toNat (by omega);exact aj _ (by omega)
 ·obtain⟨x,l,af,b,m,C,o⟩:=A.inn k a (Q k a ha);have E:=D x l b m;refine⟨by rw[o];exact n _ (by omega),?_⟩;rw[←C];unfold Ds;exact ACP.2 ⟨_,AD N (0,[]) l,GO.2 ⟨b,m,rfl⟩⟩
 ·rw[Ta];exact pT (A.nd k)
 ·have R:=O.sp q F;have Y:=R.nil;have G:(0≤q.1∧q.1<(N.length:Int))∧(0≤q.2∧q.2<(N.length:Int)):=by
   have key:∀ {x y:Int},EQ N.length c [] x y→(0≤x∧x<(N.length:Int))∧(0≤y∧y<(N.length:Int)):=by
    intro x y h;induction h with
    | cls a b c d _=>exact⟨⟨a,b⟩,c,d⟩
    | wt h=>cases h
    | symm _ T=>exact⟨T.2,T.1⟩
    | trans _ _ ah ai=>exact⟨ah.1,ai.2⟩
   exact key R
  exact A66 f G.1.1 G.1.2 G.2.1 G.2.2 Y
 ·have e:=(NY f t z).det s;subst e;have h1:=n x.toNat (by omega);rw[Z6 (by omega),(f.2 x.toNat (by omega)).2.2];exact ad x.toNat (by omega)
 ·have e:=(NY f t z).det s;subst e;have ha:a∈(N.getD x.toNat (0,[])).2:=ha;obtain⟨u,hu⟩:=A.cov x.toNat (by omega) a ha;refine⟨u,Z _ _ hu,?_⟩;obtain⟨y,J,ap,b,m,C,o⟩:=A.inn _ _ hu;have W:=n x.toNat (by omega);have ao:=n y J;have ag:c.getD x.toNat 0=c.getD y 0:=by omega
  have hs:=A5D j (by omega) J ag ha m C.symm;have M:=D x.toNat (by omega) a ha;have E:=D y J b m;have an:=n b.2.toNat (by omega);have o:u=c.getD b.2.toNat 0:=o;refine A66 f M.1 M.2 (by omega) (by omega) ?_;rw[o,(f.2 b.2.toNat (by omega)).2.2];exact hs
 ·obtain⟨c1,c2,al⟩:=O.co X v H;obtain⟨q,F,aa⟩:=Oz (i:=N.length) hk hn h0 ab j.ty f (u:=fun k=>(X.getD (v (k:Int)).toNat (0,[])).1)
   (fun k hk=>by
    have:=H.rng (k:Int) (by omega) (by omega);exact U _ (AD X (0,[]) (by omega)))
   (fun x l=>by
    have h1:=H.ty (x:Int) (by omega) (by omega);rw[iN]at h1;have L:=c1 (x:Int) (by omega) (by omega);rw[iN]at L;have am:=n x l;rw[show (((c.getD x 0).toNat:Nat):Int)=c.getD x 0 by omega,←L];exact h1) (Is _)
  rw[j.types]at F;cases F;refine⟨fun x r t z s=>?_,fun w I=>(by cases I),fun r ak K B=>?_,fun r ak K B a ha=>?_⟩
  ·have e:=(NY f t z).det s;subst e;exact c1 x t z
  ·have B:c.getD r.toNat 0=r:=B;rw[Z6 (by omega),B];have:=aa r.toNat (by omega)
   rwa [show ((r.toNat:Nat):Int)=r by omega]at this
  ·have B:c.getD r.toNat 0=r:=B;obtain⟨x,l,af,b,m,C,o⟩:=A.inn _ a (Q _ a ha);have W:=n x l;have s:c.getD x 0=r:=by omega
   have S:=c1 (x:Int) (by omega) (by omega);rw[iN,s]at S;have E:=D x l b m;have ae:=c1 b.2 E.1 E.2;have:=H.arc (x:Int) (by omega) (by omega) b (by simpa[Ap] using m);rw[S,C,ae,←o]at this;exact this
theorem A76 (e:RC h N P c p g):Mw g=quo c (Yh c p N.length) (xU g):=by
 have d:=e.rep;have v:=e.rows.len;apply ABJ;intro k;by_cases hk:k<N.length
 ·have l:(Mw g)[k]?=some ((Mw g).getD k (0,[])):=by
   rw[AS,AT (by rw[NX];omega)];rfl
  have m:(quo c (Yh c p N.length) (xU g))[k]?=some ((quo c (Yh c p N.length) (xU g)).getD k (0,[])):=by
   rw[AS,AT (by rw[EC,d.1];omega)];rfl
  have f:=Ld (p:=c) (ty:=Yh c p N.length) (ar:=xU g) (n:=(k:Int)) (by omega) (by rw[d.1];omega);rw[iN]at f;rw[l,m,f,Rv,e.rows.ty k hk,Ta]
  congr 2
  symm;rw[tO (g:=id) fun a ha=>?_,List.map_id];have ha:=(B5 _).mem_iff.1 ha;obtain⟨x,r,w,b,q,t,o⟩:=e.rows.inn k a ha;have u:=(e.good.2 _ (AD N (0,[]) r)).2 b q;obtain⟨i,s,j⟩:=d.2 b.2.toNat (by omega);rw[o.symm]at i s j;rw[k9 d i (by omega),j];rfl
 ·rw[dO (by rw[NX];omega),dO (by rw[EC,d.1];omega)]
end
theorem xV {h:AJ} {N:List AE} {P:List (Int×Int)} {c p:List Int} {g:List AE} (f:RC h N P c p g) (hf:kE N):Oq (Mw g):=by
 intro x d;obtain⟨y,m,rfl⟩:=GO.1 d;obtain⟨k,hk,rfl⟩:=AA6.1 m;have e:g[k]=g.getD k (0,[]):=by rw[AS,AT hk];rfl
 rw[e];have i:=pT (f.rows.nd k);refine⟨(I1 _).2 i,TO (Vy i fun a ha=>?_) (by omega)⟩;obtain⟨x,d,_,b,l,j,_⟩:=f.rows.inn k a ((B5 _).mem_iff.1 ha);rw[←j];exact hf _ (AD N (0,[]) d) b l
def KD (a b:List AE):List Int:=Ri (Ao a b) (CN (A0 (Ao a b).length) 0 (a.length:Int))
def O3 (h:AJ) (a b:List AE):List AE×Bool :=
 if (I8 h (Ao a b) (KD a b)).2=true then (YS (Ao a b) (KD a b) (I8 h (Ao a b) (KD a b)).1 0,true) else ([],false)
theorem A3y {h:AJ} {N:List AE} {P:List (Int×Int)} {o:List Int} {ar:List (List (Int×Int))} {W:List (Int×Int)} (a:JC h N P o ar W):Rj N.length o:=⟨a.ci.lo,a.ci.rep⟩
theorem A3z {h:AJ} (hk:HW h) (hn:Su h) (g:Zu h) {N:List AE} {P:List (Int×Int)} {c p:List Int} (a:RC h N P c p (DZ N c (Yh c p N.length) N.length)) (hf:kE N) (b:0<N.length) :
  JI h N P c (Yh c p N.length) (xU (DZ N c (Yh c p N.length) N.length)) []∧Ae (quo c (Yh c p N.length) (xU (DZ N c (Yh c p N.length) N.length)))∧YS N c (Yh c p N.length) 0=AQ (quo c (Yh c p N.length) (xU (DZ N c (Yh c p N.length) N.length))) (El c 0):=by
 have h0:0<h.1.length:=by
  have:=WI a.ty b;omega
 have e:=A9I hk hn g h0 a;have d:=kF e a.good.1 hf;have hs:=xV a hf;have f:=A76 a;refine⟨e,d,?_⟩;obtain⟨i,j,k⟩:=a.rep.2 0 b;unfold YS;rw[←pU a.rows.nd];show Fx (Mw (DZ N c (Yh c p N.length) N.length)) (c.getD 0 0)=_;rw[Iy (by rw[f];exact d) hs i (by rw[NX,a.rows.len];omega),f,k9 a.rep (x:=0) (by omega) (by omega)];rfl
section
variable {h:AJ} {a b:List AE}
theorem Yi (c:VF h a) (d:VF h b) (e:a.length+b.length≤100):∃ar,JC h (Ao a b) [(0,(a.length:Int))] (KD a b) ar []:=by
 have f:=Dt a b;have:=c.pos;have:=d.pos;exact xK (Lf c.good d.good (by omega)) (A6V (Kn c.str d.str)) (by omega) (by omega) (by omega) (by omega)
theorem A3A (hu:HU h) (hn:Su h) (s:Zu h) (c:VF h a) (d:VF h b) (y:a.length+b.length≤100):O3 h a b=FH h a b:=by
 have C:=Dt a b;have D:=c.pos;have E:=d.pos;have z:=Lf c.good d.good (by omega);have hs:=Kn c.str d.str;have l:=Vv c.ty d.ty;have hf:=Vx (c.ft64 hu) (d.ft64 hu);obtain⟨ar,j⟩:=Yi c d y;have g:=A3y j;have h0:0<h.1.length:=by
  have:=WI l (x:=0) (by omega);omega
 have e:I8 h (Ao a b) (KD a b)=match JF h (Ao a b) (KD a b) (Ao a b).length with
  | none=>([],false)
  | some o=>(Yh (KD a b) o (Ao a b).length,true):=rfl
 cases hp:JF h (Ao a b) (KD a b) (Ao a b).length with
 | none =>
  rw[hp]at e;have t:O3 h a b=([],false):=by unfold O3;rw[e];rfl
  rw[t,YQ c d];intro X v w m;obtain⟨c1,_,_⟩:=j.co X v m;obtain⟨q,r,_⟩:=Oz (i:=(Ao a b).length) hu.ok hn h0 s l g (u:=fun k=>(X.getD (v (k:Int)).toNat (0,[])).1)
   (fun k hk=>by
    have:=m.rng (k:Int) (by omega) (by omega);exact w _ (AD X (0,[]) (by omega)))
   (fun x B=>by
    have h1:=m.ty (x:Int) (by omega) (by omega);rw[iN]at h1;have f:=c1 (x:Int) (by omega) (by omega);rw[iN]at f;have n:=g.2 x B;rw[show ((((KD a b).getD x 0).toNat:Nat):Int)=(KD a b).getD x 0 by omega,←f];exact h1) (Is _)
  rw[hp]at r;cases r
 | some p =>
  rw[hp]at e;have A:RC h (Ao a b) [(0,(a.length:Int))] (KD a b) p (DZ (Ao a b) (KD a b) (Yh (KD a b) p (Ao a b).length) (Ao a b).length):=⟨z,l,g,hp,YV g (Is _),ar,j⟩;obtain⟨h1,f,n⟩:=A3z hu.ok hn s A hf (by omega);rw[SZ hu (sY c d h1 f)];unfold O3;rw[e];simp only[AAQ];rw[n]
end
section
theorem pV (k:Nat) (l:List (Int×Int)):(CM k l).length=l.length:=by simp[CM]
theorem lA {k:Nat} {l:List (Int×Int)} {j:Nat} (h:j<l.length):CM k (l.take (j+1))=CM k (l.take j)++[((l.getD j (0,0)).1,(l.getD j (0,0)).2+(k:Int))]:=by
 rw[AX l (0,0) h];simp[CM]
theorem pW {f g:List AE} {j:Nat} (h:j<g.length):Ao f (g.take (j+1))=Ao f (g.take j)++[((g.getD j (0,[])).1,CM f.length (g.getD j (0,[])).2)]:=by
 rw[AX g (0,[]) h];simp[Ao]
def tS:Ad:={ ins:=[Em,Em],pre:=fun(f,g,_)=>Ae f∧Ae g,out:=fun(f,g,_)=>[.p Em (Ao f g)] }
attribute [local go_sem] tS
theorem A5E:Ag Tryz.prog 85 tS:=by
 refine fK [0,1,4,5,6,7,8,15,31] Tryz.func85 Tryz.ntmps85 AG ?_;rintro w0 O0 ⟨f,g,u⟩ c-⟨hf,e⟩;simp only[tS,AM];have q:=hf.1;have r:=e.1;repeat'(first|exact trivial|refine eS rfl ?_|refine AB ?_|refine rX c ?_ ?_|refine rC ?_ ?_<;>intro a<;>try(cases a;done))
 ·simp only[AO];exact eV
 ·have j:Ao f (List.take 0 g)=f:=by simp[Ao]
  have m:=fun i:Nat=>Dt f (List.take i g);refine AH (ι:={i:Nat//i≤List.length g}) (fun i=>⟨[(0,.p Em f),(1,.p Em g),(5,.sr 9 JD 0 (Ao f (List.take i.1 g)).length),(6,.p (.int .i64) (i.1:Int))],[(9,.arr 49 JD (Ao f (List.take i.1 g)))]⟩) (fun i=>List.length g-i.1) ⟨0,by omega⟩ (AC [(9,.nm 9)] rfl rfl ?_ ?_) (fun i=>?_)
  ·simp only;rw[j];exact eN
  ·simp only;rw[j];exact eN
  ·obtain⟨i,hi⟩:=i;simp only;repeat'(first|exact trivial|refine eS rfl ?_|refine AB ?_|refine rX c ?_ ?_|refine rC ?_ ?_<;>intro a<;>try(cases a;done))
   ·exact eV
   ·have d:i<List.length g:=by exact eV
    have l:=e.2 _ (AD (g:List AE) (0,[]) d);have h:=pW (f:=f) d;refine AH (ι:={k:Nat//k≤(List.getD g i (0,[])).2.length}) (fun k=>⟨[(0,.p Em f),(1,.p Em g),(5,.sr 9 JD 0 (Ao f (List.take i g)).length),(6,.p (.int .i64) (i:Int)),(7,.bp 7 [] 0),(8,.p (.int .i64) (k.1:Int))],[(9,.arr 49 JD (Ao f (List.take i g))),(7,.box 49 true [.p T3 (List.getD g i (0,[])).1,.sr 59 BE 0 (CM (List.length f) ((List.getD g i (0,[])).2.take k.1)).length]),(59,.arr 53 BE (CM (List.length f) ((List.getD g i (0,[])).2.take k.1)))]⟩) (fun k=>(List.getD g i (0,[])).2.length-k.1) ⟨0,by omega⟩ (AC [(9,.nm 9),(7,.nm 7),(59,.nil)] rfl rfl ?_ ?_) (fun k=>?_)
    ·refine eM ?_;exact⟨rfl,rfl⟩
    ·exact eN
    ·obtain⟨k,hk⟩:=k;simp only;repeat'(first|exact trivial|refine eS rfl ?_|refine AB ?_|refine rX c ?_ ?_|refine rC ?_ ?_<;>intro a<;>try(cases a;done))
     ·exact a
     ·have b:k<(List.getD g i (0,[])).2.length:=by exact eV
      have ha:=l.2 _ (AD (List.getD g i (0,[])).2 (0,0) b);have n:=AAo k (List.getD g i (0,[])).2;have o:=l.1;refine⟨by assumption,a,by assumption,a,⟨by exact eV,by exact eV⟩,?_⟩;rw[pV];simp only[AO];dsimp only[Ty.den]at *;omega
     ·exact eV
     ·have b:k<(List.getD g i (0,[])).2.length:=by exact eV
      refine⟨⟨k+1,by omega⟩,by simp only;omega,AC [(9,.nm 9),(7,.nm 7),(59,.nm 59)] rfl rfl ?_ ?_⟩
      ·simp only;rw[lA b];exact eN
      ·simp only;exact eN
     ·rw[m];have:=AAo i g;simp only[AO];dsimp only[Ty.den]at *;omega
     ·exact eV
     ·have b:(List.getD g i (0,[])).2.take k=(List.getD g i (0,[])).2:=An (by exact eV);rw[b];refine⟨⟨i+1,by omega⟩,by simp only;omega,AC [(9,.nm 9)] rfl rfl ?_ ?_⟩
      ·simp only;rw[h];exact eN
      ·simp only;rw[h];exact eN
   ·have d:List.take i g=g:=An (by exact eV);rw[d];exact fI c [.tmp 4]
end
section
attribute [local go_sem] tS o9 Z5 Zy s7
def Z7:Ad:={ ins:=[T3],pre:=fun(n,_)=>(0:Int)≤n∧n≤(100000:Int),out:=fun(n,_)=>[.p GM (A0 (Int.toNat n))] }
attribute [local go_sem] Z7
theorem xW:Ag Tryz.prog 88 Z7:=by
 refine fK [0,2,3,4,7] Tryz.func88 Tryz.ntmps88 AG ?_;rintro w0 O0 ⟨n,u⟩ b-⟨h0,h1⟩;simp only[Z7,AM];repeat'(first|exact trivial|refine eS rfl ?_|refine AB ?_|refine rX b ?_ ?_|refine rC ?_ ?_<;>intro a<;>try(cases a;done))
 refine AH (ι:={i:Nat//i≤n.toNat}) (fun i=>⟨[(0,.p T3 n),(3,.sr 13 T3 0 i.1),(4,.p (.int .i64) (i.1:Int))],[(13,.arr 3 T3 (A0 i.1))]⟩) (fun i=>n.toNat-i.1) ⟨0,by omega⟩ (AC [(13,.nil)] rfl rfl ?_ ?_) (fun i=>?_)
 ·refine eM ?_;rfl
 ·exact eN
 ·obtain⟨i,hi⟩:=i;repeat'(first|exact trivial|refine eS rfl ?_|refine AB ?_|refine rX b ?_ ?_|refine rC ?_ ?_<;>intro a<;>try(cases a;done))
  ·simp only[AO];exact eV
  ·exact eV
  ·have c:(A0 i).take i=A0 i:=An (by rw[DD];exact Is i);refine⟨⟨i+1,by exact eV⟩,by simp only;exact eV,AC [(13,.nm 13)] rfl rfl ?_ ?_⟩
   ·simp only;rw[c,Sa];exact eN
   ·exact eN
  ·have hn:i=n.toNat:=by exact eV
   have c:(A0 i).take i=A0 i:=An (by rw[DD];exact Is i);subst hn;exact fI b [.tmp 2] (by first|exact eR|refine bW ?_;exact c)
noncomputable def Z8:Ad:={ ins:=[GN,E9,E9],pre:=fun(h,a,b,_)=>HU h∧VF h a∧VF h b∧List.length a+List.length b≤100,out:=fun(h,a,b,_)=>[.p E9 (O3 h a b).1,.p .bool (O3 h a b).2] }
attribute [local go_sem] Z8
theorem A3B:Ag Tryz.prog 59 Z8:=by
 refine fK [0,1,2,3,4,5,6,7,8,9,10,11,34] Tryz.func59 Tryz.ntmps59 (AF A5E (AF xW (AF A2X (AF A3x (AF A37 (AF A5o AG)))))) ?_;rintro w0 O0 ⟨⟨c,hf⟩,a,b,u⟩ o-⟨hu,g,i,v⟩;simp only[Z8,AM];have I:=Dt a b;have J:=g.pos;have K:=i.pos;have r:=Lf g.good i.good (by omega);have q:=Vv g.ty i.ty;have z:=Vx (g.ft64 hu) (i.ft64 hu);have E:=Kn g.str i.str;obtain⟨ar,A⟩:=Yi g i v;have j:=A3y A;have s:=Ko (A0 (Ao a b).length) 0 (a.length:Int);rw[DD]at s;have h0:0<List.length c:=by
  have:=WI q (x:=0) (by omega);have H:(0:Int)<(List.length c:Int):=by
   have:=this.2;exact AC5 (WI q (x:=0) (by omega)).1 this
  omega
 have G:∀x∈(c:List HA),x.2.1.length≤100000:=fun x d=>TO (hu.ok.1.wid x.2.1 (GO.2 ⟨x,d,rfl⟩)) (by omega);have w:∀x∈KD a b,0≤x∧x<((Ao a b).length:Int):=fun x d=>by
  obtain⟨k,hk,rfl⟩:=AA6.1 d;have t:=j.2 k (by rw[←j.1];exact hk);rw[AS,AT hk]at t;simp only[AB7]at t;have:=j.1;omega
 have D:∀x∈CN (A0 (Ao a b).length) 0 (a.length:Int),0≤x∧x<((Ao a b).length:Int):=fun x d=>by
  obtain⟨B,C⟩:=Sb (n:=(Ao a b).length) (x:=0) (y:=(a.length:Int)) (by omega) (by omega) (by omega) (by omega);obtain⟨k,hk,rfl⟩:=AA6.1 d;have:=C k (by omega);rw[AS,AT hk]at this;simp only[AB7]at this;rw[this];unfold H4;split
  ·rcases B with ⟨e,_⟩|⟨e,_⟩<;>rw[e]<;>omega
  ·omega
 have F:(I8 (c,hf) (Ao a b) (KD a b)).2=true→(I8 (c,hf) (Ao a b) (KD a b)).1.length=(Ao a b).length:=fun h=>by
  unfold I8 at h ⊢;cases hp:JF (c,hf) (Ao a b) (KD a b) (Ao a b).length with
  | none=>rw[hp]at h;cases h
  | some p=>simp
 have m:O3 (c,hf) a b=if (I8 (c,hf) (Ao a b) (KD a b)).2=true then (YS (Ao a b) (KD a b) (I8 (c,hf) (Ao a b) (KD a b)).1 0,true) else ([],false):=rfl
 have l:Ri (Ao a b) (CN (A0 (Ao a b).length) 0 (a.length:Int))=KD a b:=rfl;repeat'(first|exact trivial|refine eS rfl ?_|refine AB ?_|refine rX o ?_ ?_|refine rC ?_ ?_<;>intro f<;>try(cases f;done))
 ·exact⟨g.good,i.good⟩
 ·rw[DD];refine⟨by exact eV,⟨by exact eV,by exact eV,by exact eV⟩,r,s,D⟩
 ·rw[l];exact⟨j,q,h0,by exact eV,G⟩
 ·rw[l]at f;rw[At (by rw[f];simp)]at m;exact fI o [.cell 6 25,.tmp 7] (by rw[m];exact eR)
 ·rw[l]at f ⊢;refine⟨r,j.1,F f,w,by exact eV,by exact eV,fun x d=>TO (Vy (E x d) (z x d)) (by omega)⟩
 ·rw[l]at f ⊢;rw[BY f]at m;exact fI o [.cell 6 25,.tmp 7] (by rw[m];exact eR)
end
section
attribute [local go_sem] Z4 Vc Z8
theorem A3C {h:AJ} (hh:H14 h) {f:List AE} (a:VF h f):oO h f:=⟨hh.ok,hh.inj,hh.ft,TO hh.b2 (by decide),a.good,tM a,a.ty⟩
noncomputable def Z9 (h:AJ) (a b:List AE):List AE×Bool:=if (FH h a b).2=true then Ba h (FH h a b).1 else ([],false)
noncomputable def xX:Ad:={ ins:=[GN,E9,E9],pre:=fun(h,a,b,_)=>(H14 h∧Zu h)∧VF h a∧VF h b∧List.length a+List.length b≤100,out:=fun(h,a,b,_)=>[.p E9 (Z9 h a b).1,.p .bool (Z9 h a b).2] }
attribute [local go_sem] xX
theorem A77:Ag Tryz.prog 27 xX:=by
 refine fK [0,1,2,3,4,5,6,7,8,9,18] Tryz.func27 Tryz.ntmps27 (AF A3r (AF Vd AG)) ?_;rintro w0 O0 ⟨h,a,b,u⟩ d-⟨⟨hh,j⟩,f,g,i⟩;have hh:H14 h:=hh;have j:Zu h:=j;have f:VF h a:=f;have g:VF h b:=g;have i:a.length+b.length≤100:=i;simp only[xX,AM];have e:(h.1,h.2)=h:=rfl;repeat'(first|exact trivial|refine eS rfl ?_|refine AB ?_|refine rX d ?_ ?_|refine rC ?_ ?_<;>intro c<;>try(cases c;done))
 ·exact⟨hh.hu,f,g,by omega⟩
 ·exact fI d [.cell 6 25,.tmp 7] (by unfold Z9;rw[e]at c;rw[c,At (by simp)];exact eR)
 ·exact A3C hh (Ms c).vf
 ·exact fI d [.cell 6 25,.tmp 7] (by unfold Z9;rw[e]at c;rw[c,BY rfl,e];exact eR)
theorem A5F:Ag Tryz.prog 28 xX:=by
 refine fK [0,1,2,3,4,5,6,7,8,9,18] Tryz.func28 Tryz.ntmps28 (AF A3B AG) ?_;rintro w0 O0 ⟨h,a,b,u⟩ d-⟨⟨hh,k⟩,g,i,f⟩;have hh:H14 h:=hh;have k:Zu h:=k;have g:VF h a:=g;have i:VF h b:=i;have f:a.length+b.length≤100:=f;simp only[xX,AM];have l:(h.1,h.2)=h:=rfl;have n:=A3A hh.hu hh.nrm k g i f;repeat'(first|exact trivial|refine eS rfl ?_|refine AB ?_|refine rX d ?_ ?_|refine rC ?_ ?_<;>intro c<;>try(cases c;done))
 ·exact⟨hh.hu,g,i,f⟩
 ·exact fI d [.cell 6 25,.tmp 7] (by unfold Z9;rw[l,n]at c;rw[c,At (by simp)];exact eR)
 ·rw[l,n]at *;have t:=(Ms c).vf;have e:=A3C hh t;have q:=A5A hh.ok hh.nrm hh.inj hh.ft hh.ap e.arcs e.ty;have m:Z9 h a b=Ba h (FH h a b).1:=by unfold Z9;rw[c,BY rfl]
  generalize (FH h a b).1=x at *;have hF:Ba h x=match HZ h x with
   | some ty=>(Cg x ty,true)
   | none=>([],false):=rfl
  rw[←q]at hF;refine cP 2 d ?_ ?_
  ·trivial
  ·refine rM d (xT h hh.ok hh.nrm hh.ft hh.ap hh.inj x e.arcs e.ty e.good.1 (fun y r=>(e.good.2 y r).1)) [] [] ?_ ?_ ?_
   ·exact eN
   ·exact eN
   ·rintro res v (⟨j,rfl,rfl⟩|⟨ty,j,rfl,rfl⟩)
    ·rw[j]at hF;have hF:Ba h x=([],false):=hF;refine⟨[],.tup [.p E9 [],.p .bool false],[],rfl,rfl,?_,?_,rfl,rfl,?_⟩
     ·exact eN
     ·exact eN
     ·refine rL d ?_ ?_
      ·trivial
      ·repeat'(first|exact trivial|refine eS rfl ?_|refine AB ?_|refine rX d ?_ ?_|refine rC ?_ ?_<;>intro c<;>try(cases c;done))
       exact fI d [.cell 6 25,.tmp 7] (by rw[m,hF];exact eR)
    ·rw[j]at hF;have hF:Ba h x=(Cg x ty,true):=hF;have o:=Fy x ty;refine⟨[(89,.nm 89)],.tup [.ag [.sr 89 JD 0 x.length],.p .bool true],[(89,.arr 49 JD (Cg x ty))],rfl,rfl,?_,?_,rfl,rfl,?_⟩
     ·exact eN
     ·exact eN
     ·refine rL d ?_ ?_
      ·trivial
      ·repeat'(first|exact trivial|refine eS rfl ?_|refine AB ?_|refine rX d ?_ ?_|refine rC ?_ ?_<;>intro c<;>try(cases c;done))
       refine Gg [89] ?_;repeat'(first|exact trivial|refine eS rfl ?_|refine AB ?_|refine rX d ?_ ?_|refine rC ?_ ?_<;>intro c<;>try(cases c;done))
       have s:(Cg x ty).take x.length=Cg x ty:=An (ACh o);exact fI d [.cell 6 25,.tmp 7] (by rw[m,hF,s];exact eR)
end
def Ks:AJ:=([(ByteArray.mk #[116,111,112],[8191],[],[]),(ByteArray.mk #[105,110,100,101,120],[60],[0],[]),(ByteArray.mk #[108,105,115,116],[193],[0],[]),(ByteArray.mk #[99,111,110,115],[1],[2],[(2,0),(10,2)]),(ByteArray.mk #[100,108,105,115,116],[2],[0],[(6,2),(7,2)]),(ByteArray.mk #[101,110,116,105,116,121],[4],[1],[]),(ByteArray.mk #[101,118,101,110,116],[8],[1],[]),(ByteArray.mk #[104,97,110,100,108,101],[16],[1],[]),(ByteArray.mk #[110,117,108,108],[128],[2],[]),(ByteArray.mk #[113,101,113],[256],[0],[(3,7),(8,7)]),(ByteArray.mk #[114,101,108],[512],[0],[(5,7)]),(ByteArray.mk #[115,101,109],[1024],[0],[(1,4),(4,1),(9,4),(12,7)]),(ByteArray.mk #[115,105,103,110],[2048],[0],[(0,2),(11,11)])],[(ByteArray.mk #[65,82,71,83],12),(ByteArray.mk #[67,79,78,83],11),(ByteArray.mk #[70,73,82,83,84],3),(ByteArray.mk #[72,73,71,72],9),(ByteArray.mk #[73,78,68,69,88],11),(ByteArray.mk #[76,65,66,69,76],10),(ByteArray.mk #[76,65,83,84],4),(ByteArray.mk #[76,73,83,84],4),(ByteArray.mk #[76,79,87],9),(ByteArray.mk #[82,69,76,83],11),(ByteArray.mk #[82,69,83,84],3),(ByteArray.mk #[83,69,77],12),(ByteArray.mk #[84,79,80],11)])
instance baDec:DecidableEq ByteArray:=fun a b =>
 if h:a.data.toList=b.data.toList then isTrue (by
  cases a
  cases b
  exact AB6 ByteArray.mk (Array.toList_inj.1 h))
 else isFalse fun e=>h (by rw[e])
theorem A3D:((B6 []).1:List (ByteArray×List Int×List Int×List (Int×Int)))=Ks.1:=by decide +kernel
theorem A3E:((B6 []).2:List (ByteArray×Int))=Ks.2:=by decide +kernel
theorem aA:B6 []=Ks:=Prod.ext A3D A3E
theorem Lh:HW Ks:=by rw[←aA];exact(show HW (if _ then _ else _) by split<;>exact HF _)
theorem JB:HX Ks:=by rw[←aA];exact(show HX (if _ then _ else _) by split<;>exact SU _)
def A9J (h:AJ):Bool:=(h.2.all fun x=>decide (0≤x.2)&&decide (x.2<(h.1.length:Int)))&&h.1.all fun t=>t.2.2.2.all fun p=>decide (0≤p.2)&&decide (p.2<(h.1.length:Int))
theorem A78 {h:AJ} (e:A9J h=true):Wn h:=by
 unfold A9J at e;rw[As,IN,IN]at e;refine⟨fun x b=>?_,fun t a p hp=>?_⟩
 ·have:=e.1 x b;simpa using this
 ·have:=IN.1 (e.2 t a) p hp;simpa using this
theorem Jj:Wn Ks:=A78 (by decide +kernel)
def A67 (h:AJ) (f:List AE):Bool:=decide (f.length≤100)&&f.all fun x=>decide (x.2.length≤100)&&(decide (0≤x.1)&&decide (x.1<(h.1.length:Int)))&&x.2.all fun a=>(decide (0≤a.1)&&decide (a.1<(h.2.length:Int)))&&(decide (0≤a.2)&&decide (a.2<(f.length:Int)))
theorem O4 {h:AJ} (hk:HW h) (hi:HX h) (hf:Wn h) (d:h.2.length≤100000) {f:List AE} (e:A67 h f=true):oO h f∧C0 f∧QW f∧∀x∈f,x.2.length≤100:=by
 unfold A67 at e;rw[As,IS,IN]at e;have c:∀x∈f,x.2.length≤100∧(0≤x.1∧x.1<(h.1.length:Int))∧∀a∈x.2,FQ h f.length a:=fun x b=>by
  have:=e.2 x b;rw[As,As,As,IS,IS,IS,IN]at this;refine⟨this.1.1,this.1.2,fun a ha=>?_⟩;have:=this.2 a ha;rw[As,As,As,IS,IS,IS,IS]at this;exact⟨this.1,this.2⟩
 refine⟨⟨hk,hi,hf,d,⟨by omega,fun x b=>⟨by have:=(c x b).1;omega,fun a ha=>((c x b).2.2 a ha).2⟩⟩,fun x b=>(c x b).2.2,fun x b=>(c x b).2.1⟩,⟨by omega,fun x b=>by have:=(c x b).1;omega⟩,fun x b=>by have:=(c x b).1;omega,fun x b=>(c x b).1⟩
def AAg (v:Kk):Bool:=v.all fun r=>r.all fun a=>decide (0≤a.2)&&decide (a.2<(v.length:Int))
theorem A79 {v:Kk} (e:AAg v=true):VOk v:=fun r b a ha=>by
 have:=IN.1 (IN.1 e r b) a ha;simpa using this
theorem lB:VOk (I3 Ks):=A79 (by decide +kernel)
theorem tT:∀t∈Ks.1,t.2.2.2.length≤100:=by
 have:(Ks.1.all fun t=>decide (t.2.2.2.length≤100))=true:=by decide +kernel
 exact fun t a=>by simpa using IN.1 this t a
def lC:List AE:=[(12,[(0,1),(11,2)]),(2,[]),(11,[(1,3),(4,6),(9,7),(12,10)]),(4,[(6,4),(7,5)]),(2,[]),(2,[]),(1,[]),(4,[(6,8),(7,9)]),(2,[]),(2,[]),(7,[])]
theorem A9K:Ba Ks [(0,[(10,1)]),(0,[(2,2)]),(0,[])]=([(3,[(10,1)]),(3,[(2,2)]),(0,[])],true):=by decide +kernel
theorem A9L:Ba Ks [(8,[(2,1)]),(0,[])]=([],false):=by decide +kernel
theorem A9M:I4 Ks [(9,[])]=([(9,[(3,1),(8,2)]),(7,[]),(7,[])],0):=by decide +kernel
theorem A9N:I4 Ks [(12,[])]=(lC,0):=by decide +kernel
theorem A9O:H2 Ks [(3,[(10,1)]),(0,[])]=11:=by decide +kernel
theorem A9P:H2 Ks [(2,[(10,1)]),(2,[])]=10:=by decide +kernel
theorem A9Q:H2 Ks [(3,[(10,1)]),(3,[(2,2)]),(0,[])]=0:=by decide +kernel
section
attribute [local go_sem] Qb TR sP Vc Zm TP rT Ol
def tU:Ad:={ ins:=[],pre:=fun _=>True,out:=fun _=>[.p .bool true] }
attribute [local go_sem] tU
theorem A5G:Ag Tryz.prog 13 tU:=by
 refine fKP [0,1,2,3,5,6,7,8,9,10,11,82,89,91,92,93,105] [15,17,20,27,30,62,64,67,74,78,83,108,111,117,120] [] Tryz.func13 Tryz.ntmps13 (AF YH (AF wW (AF A58 (AF Vd (AF A4K (AF A2x (AF U0 (AF wN AG)))))))) ?_;rintro w0 O0 u a - -;simp only[tU,AM];have B:=aA;have d:Ks.2.length≤100000:=by decide
 have y:=O4 Lh JB Jj d (f:=[(0,[(10,1)]),(0,[(2,2)]),(0,[])]) (by decide +kernel);have z:=O4 Lh JB Jj d (f:=[(8,[(2,1)]),(0,[])]) (by decide +kernel);have o:=O4 Lh JB Jj d (f:=[(9,[])]) (by decide +kernel);have q:=O4 Lh JB Jj d (f:=[(12,[])]) (by decide +kernel);have r:=O4 Lh JB Jj d (f:=[(3,[(10,1)]),(0,[])]) (by decide +kernel);have s:=O4 Lh JB Jj d (f:=[(2,[(10,1)]),(2,[])]) (by decide +kernel);have t:=O4 Lh JB Jj d (f:=[(3,[(10,1)]),(3,[(2,2)]),(0,[])]) (by decide +kernel);have K:A2v Ks [(9,[])]:=⟨o.1,tT,lB,o.2.2.2⟩;have L:A2v Ks [(12,[])]:=⟨q.1,tT,lB,q.2.2.2⟩;have m:=Jj;have D:=A9K;have E:=A9L;have F:=A9M;have G:=A9N;have H:=A9O;have I:=A9P;have J:=A9Q;have s1:C0 lC:=⟨by decide,by decide⟩;have C:∀i,i<11→(lC.getD i (0,[])).1=[12,2,11,4,2,2,1,4,2,2,(7:Int)].getD i 0:=by decide
 have v:lC.length=11:=rfl;have e:Gq [] (0 / 2)=[]:=rfl;have g:Gq [10,1] (2 / 2)=[(10,1)]:=rfl;have j:Gq [2,2] (2 / 2)=[(2,2)]:=rfl;have n:Gq [2,1] (2 / 2)=[(2,1)]:=rfl;have l:Gq [3,1,8,2] (4 / 2)=[(3,1),(8,2)]:=rfl;have w:C0 [(3,[(10,1)]),(3,[(2,2)]),(0,[])]:=⟨by decide,by decide⟩;have x:C0 [(9,[(3,1),(8,2)]),(7,[]),(7,[])]:=⟨by decide,by decide⟩;generalize lC=S at *;generalize Ks=h at *;have c:(h.1,h.2)=h:=rfl;have M:(0:Int) / 2=0:=rfl;repeat'(first|exact trivial|refine eS rfl ?_|refine AB ?_|refine rP a ?_ ?_|fail)
 simp only[B];refine B3 drawsAny a 14 [([0,1,2,3,4,5,6,7,8,9,10,12],13)] [11] (by kernel_rfl) (Ls ?_ ?_)
 ·exact y.1
 ·refine Ns a [] ?_ ?_
  ·trivial
  ·refine Pp a ?_ ?_ ?_
   ·trivial
   ·trivial
   ·simp only[c,e,g,j,n,l,D];repeat'(first|exact trivial|refine eS rfl ?_|refine AB ?_|refine rP a ?_ ?_|fail)
    refine B3 drawsAny a 12 [([0,1,2,3,4,5,6,7,8,10],11)] [9] (by kernel_rfl) (Ls ?_ ?_)
    ·exact z.1
    ·refine Ns a [] ?_ ?_
     ·trivial
     ·refine Pp a ?_ ?_ ?_
      ·trivial
      ·trivial
      ·simp only[c,e,g,j,n,l,E];repeat'(first|exact trivial|refine eS rfl ?_|refine AB ?_|refine rP a ?_ ?_|fail)
       refine B3 drawsAny a 8 [([0,1,2,3,4,6],7)] [5] (by kernel_rfl) (Ls ?_ ?_)
       ·exact K
       ·refine Ns a [] ?_ ?_
        ·trivial
        ·refine Pp a ?_ ?_ ?_
         ·trivial
         ·trivial
         ·simp only[c,F];repeat'(first|exact trivial|refine eS rfl ?_|refine AB ?_|refine rP a ?_ ?_|fail)
          refine B3 drawsAny a 8 [([0,1,2,3,4,6],7)] [5] (by kernel_rfl) (Ls ?_ ?_)
          ·exact L
          ·refine Ns a [] ?_ ?_
           ·trivial
           ·refine Pp a ?_ ?_ ?_
            ·trivial
            ·trivial
            ·simp only[c,G];repeat'(first|exact trivial|refine eS rfl ?_|refine AB ?_|refine rP a ?_ ?_|fail)
             refine rD a ?_ ?_
             ·simp only[e,g,j,l];exact⟨fun _=>⟨w,w⟩,fun _=>⟨x,x⟩⟩
             ·simp only[c,e,g,j,n,l,Gx,show ((0:Int)==0)=true from rfl,AC7,Bool.or_false];repeat'(first|exact trivial|refine eS rfl ?_|refine AB ?_|refine rX a ?_ ?_|refine rC ?_ ?_<;>intro b<;>try(cases b;done))
              ·rw[v]at b;exact absurd rfl b
              ·have N:(0:Int)+1+1+1+1+1+1+1+1+1+1+1=11:=rfl;refine AH (ι:={k:Nat//k≤11}) (fun k=>⟨[(1,.bp 1 [] 0),(2,.bp 2 [] 0),(8,.bp 8 [] 0),(10,.p GM [12,2,11,4,2,2,1,4,2,2,7]),(91,.p (.int .i64) (11:Int)),(92,.p (.int .i64) (k.1:Int))],[(8,.box 25 true [.p Em S]),(2,.box 25 true [.p Em [(3,[(10,1)]),(3,[(2,2)]),(0,[])]]),(1,.box 31 true [.p So h.1,.p UZ h.2])]⟩) (fun k=>11-k.1) ⟨0,NO _⟩ (AC [(8,.nm 8),(2,.nm 2),(1,.nm 1)] rfl rfl ?_ ?_) (fun k=>?_)
               ·exact eN
               ·refine eM ?_;rfl
               ·obtain⟨k,hk⟩:=k;have A:=C k;simp only;repeat'(first|exact trivial|refine eS rfl ?_|refine AB ?_|refine rX a ?_ ?_|refine rC ?_ ?_<;>intro b<;>try(cases b;done))
                ·rw[v];exact⟨b,b⟩
                ·exact absurd (A (by omega)) b
                ·omega
                ·exact⟨⟨k+1,by omega⟩,by simp only;omega,eW [(8,.nm 8),(2,.nm 2),(1,.nm 1)]⟩
                ·simp only[c,e,g];exact⟨⟨m,r.2.1,r.2.2.1⟩,fun _=>⟨m,s.2.1,s.2.2.1⟩,fun _=>⟨m,t.2.1,t.2.2.1⟩⟩
                ·simp only[c,e,g,H,I,J];exact fI a [.tmp 0]
end
section
attribute [local go_sem] Qb TQ tU Ol xX
theorem A5H (d:List AI):Zu (B6 d):=by
 unfold B6;split
 ·exact Mu d
 ·exact Mu Iq
theorem xY {h:AJ} (hh:H14 h) (a b:List AE):C0 (Z9 h a b).1:=by
 unfold Z9;split
 ·rename_i e;have d:=(Ms e).vf;cases c:HZ h (FH h a b).1 with
  | none=>rw[k4 c];exact⟨by simp,by simp⟩
  | some ty=>rw[kZ c];exact(A3o hh d c).1.small
 ·exact⟨by simp,by simp⟩
def pX:Ad:={ ins:=[FW,E9,E9],pre:=fun _=>True,out:=fun _=>[.p .bool true] }
attribute [local go_sem] pX
theorem A3F:Ag Tryz.prog 8 pX:=by
 refine fKP [0,1,2,4,5,6,7,8,9,10,11,19] [14] [] Tryz.func8 Tryz.ntmps8 (AF YH (AF wV (AF A5G (AF A77 (AF A5F (AF U0 AG)))))) ?_;rintro w0 O0 ⟨d,f,g,u⟩ c - -;simp only[pX,AM];have hh:=h14 d;have i:=AAf (B6 d);have b:Xx (B6 d) [f,g]=true→(V14 (B6 d) f∧VF (B6 d) f)∧(V14 (B6 d) g∧VF (B6 d) g):=fun e=>⟨tN e f (by simp),tN e g (by simp)⟩;have h:=A5H d;repeat'(first|exact trivial|refine eS rfl ?_|refine AB ?_|refine rX c ?_ ?_|refine rC ?_ ?_<;>intro a<;>try(cases a;done))
 ·exact fI c [.tmp 6]
 ·exact⟨⟨hh,h⟩,(b a).1.2,(b a).2.2,by have:=(b a).1.1.len;have:=(b a).2.1.len;omega⟩
 ·exact⟨⟨hh,h⟩,(b a).1.2,(b a).2.2,by have:=(b a).1.1.len;have:=(b a).2.1.len;omega⟩
 ·exact fun _=>xY hh f g
 ·exact fI c [.tmp 6] (by rw[Gx];exact eR)
end
end Go.Proofs.YtdapahgnpbehbaaGreat.Fw
