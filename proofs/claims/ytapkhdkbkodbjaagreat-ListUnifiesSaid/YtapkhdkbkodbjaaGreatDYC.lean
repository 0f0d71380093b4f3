/- Contracts of the program's and the reference's functions, and the plain laws of what they compute: W10 I1 I2 I3 C37 H1 T4 T2 T3 T5 T13 T14 T15 T6 T7 T8 T9 T10 T11 T12 T16 N9 V1 V2 V4 V5 V6 V9 V10 T19 T20 T22 T24 W6 T26 W7 T27 T21 T23 T25 U13 V3 SN V11 V7 V8 T28 U17 H4 V14 T17 T18 L21 T30 J1 H2 H3 J2 I4 I6 I5 I7 V15 V16 J3 T29 K1 K2 K3 K4 O1 O2 O3 O4 O5 O6 O7 O8 O9 O10 O12 O22 O23 C36 O24 O18 O19 O20 O11. -/
import Derived.Test.YtapkhdkbkodbjaaGreatDYB
import Derived.Test.YtapkhdkbkodbjaaGreatDYA
import Derived.Test.YtapkhdkbkodbjaaGreatDZI
import Derived.Test.YtapkhdkbkodbjaaGreatDZJ
import Derived.Laws.Strings
set_option linter.unusedVariables false
set_option linter.unusedSimpArgs false
namespace Go.Proofs.YtapkhdkbkodbjaaGreat.Fw
open Go
attribute [local irreducible] Ev
attribute [local go_sem] eZ AM List.toList_toArray Bn evG evK YA Er Ko Gx Fy Hw TB Ns DJ DS My CY DG frz lK Gr DR A4 Fj Bb AV.frz AV.frzs AV.drp AV.drps AV.names AV.namess aq Gu LS Kd UK JR Bc Bg Jr Eb Ir Ec Iu It Iv VJ Ph HJ Kg Fm EW VK Ri qUn Js Iw Ll FJ Dr JU Kh Ed UL DX Ee E9 Rj Ix Nq FW Np Pi Rk Lm JV Ki Ef Ds HT Du Hv DY FA DZ Eg Fs CY Co Pf Rh OO Gp JT JS Ke Pl S9 Nr Lq Lo Kl TA Lp Km Z7 Pn Pm AV.trn AV.trns E3 DI Obj.trn J7 fS Dt Ei EX Eh Ce FB Ap lk HY Gt Hs bin lJ YD lM S7 zP zQ pfs AV.cells CF Jq Pg Kk Pk CT Nn Ty.cell1 Iq E4 Dq GK Mx E2 Kb Lk Rc FU HI Nf UI VI Lj KZ Z5 dY S6 Hr Cp HS RV.flat Ty.flat Ty.size St.add upd del Bd Value.oneCell' Lg Ty.dflt Ip QD H9 QO List.take_succ_cons List.take_zero List.length_cons fF fG QN J4 L6 Hm J5 A2h Fz M9 NA NB NC Rv Rw ND JA Vb Option.map_some Option.map_none Option.bind_some Option.getD_some Option.getD_none Option.isNone_none Option.isNone_some Bool.and_true Bool.true_and Bool.and_false Bool.false_and Bool.not_true Bool.not_false if_true if_false List.length_cons List.length_nil and_true true_and and_self List.all_cons List.all_nil List.append_nil List.nil_append List.cons_append List.getElem?_cons_zero List.getElem?_cons_succ List.getElem?_nil List.map_cons List.map_nil List.set_cons_zero List.set_cons_succ List.isEmpty_nil List.isEmpty_cons decide_true decide_false beq_self_eq_true bne_self_eq_false Nat.zero_add Nat.add_zero Nat.sub_zero Int.toNat_natCast Int.toNat_zero Int.toNat_one List.take_length List.length_append List.length_singleton true_or or_true or_self false_or or_false Ty.agg.injEq Ty.slice.injEq Ty.prod.injEq Ty.int.injEq Option.some.injEq beq_iff_eq L4 evMG evMQ opM IB L2 B4 J0 HK QG Jy IA JB Kx LY Ob Nx Oc UO L3 QI QJ Jz Aa Al Op.operands Call.operands List.filterMap_cons List.filterMap_nil List.append_eq Bool.cond_false_right Bool.cond_true_left cond_true cond_false implies_true decide_eq_true_eq beq_true beq_false Bool.or_true Bool.or_false Bool.true_or Bool.false_or Option.isSome_some Array.empty_append List.append_toArray Fk Mz FC Ht Z6 Pj Fq GU GT Iy Hu Kj Ln YE lL Ik inB Kn Ft Gq Jt Ak fH List.drop_zero Df IC aX CP K5 CN AV.fgt AV.fgts Obj.fgt Ar Aj Aa DL Im BJ Gy List.any_cons List.any_nil mM fJ aY fL L9 R1 qs List.flatMap_cons List.flatMap_nil List.cons_append tn bA HV List.take_succ_cons List.drop_succ_cons bE Ga BA qW NI B8 CO Ad FF Kw Bi FE Dw H7 I9 GY H8
attribute [local go_sem] ty1 ty2 ty3 ty4 ty5 ty9 A62 A63 A64 A65 A66 A67 A68 A69 A6a A6b A6c A6d A6e A6f A6g A6h A6i A6j A6k A6l A6m A6n A6o A6p A6q A6r A6s A6t A6u A6v A6w A6x A6y A6z A6A A6B A6C A6D A6E A6F A6G A6H A6I A6J A6K A6L A6M A6N A6O A6P A6Q A6R A6S A6T A6U A6V A6W A6X A6Y A6Z A70 A71 A72 A73 A74 A75 A76 A77 A78 A79 A7a rF rG rH rI rJ rK rO rQ rR rS rT rU rV rW rZ r7 r8 r9 sC sD sE sF sG sH sI sJ sK sL sM sO sP sQ sR sS sT sU sV sW sY sZ s5 s6 s7 s8 s9 tA tB tC tD tE tF tG tH tI tJ tK tL tM tQ tR tS tT tU tV tW tY tZ t4 t5 t6 t7 t8 t9 uA uB uC uD uE uF uG uH uI uJ uK uL uM uN uP uQ uR uS uT uU uV uW uX uY uZ u3 u4 u5 u6 u7 u9 vC vE vF vG vH vI vJ vL vO vP vQ vS vU vV vW vY vZ v5 v6 v7 v8 v9 wA wB wC wD wF wG wH wI wJ wK wL wM wN wP wQ wR wS wT wU wV wW wX wY wZ w5 w6 w9 xA xB xC xE xF xG xH xI xJ xL xM xN xO
set_option maxRecDepth 100000
set_option maxHeartbeats 4000000
theorem LL (p:List Int) (g:List AD):(BP p g).length=p.length+g.length:=by simp[BP,GC]
theorem Tw {p:List Int} {g:List AD} {i:Int} (a:0<=i) (b:i<(p.length:Int)):(BP p g).getD i.toNat (0,[])=(0,[(p.getD i.toNat 0,i+1)]):=by grind [BP,Ep,GC]
theorem Qw {p:List Int} {g:List AD} {y:Int} (a:0<=y) (b:y<(g.length:Int)):(BP p g).getD ((p.length:Int)+y).toNat (0,[])=((g.getD y.toNat (0,[])).1,AY p.length (g.getD y.toNat (0,[])).2):=by
 unfold BP;have e:((p.length:Int)+y).toNat=p.length+y.toNat:=by omega
 rw[e,AS,RW (by rw[Ep];omega),Ep,AEU];rw[<-AS];exact Sc (λx:AD=>(x.1,AY p.length x.2)) (0,[]) (0,[]) (by omega)
theorem LM {p:List Int} {g:List AD} {x:AD} (hx:x∈BP p g):(∃i,i<p.length/\x=(0,[(p.getD i 0,(i:Int)+1)]))\/∃y∈g,x=(y.1,AY p.length y.2):=by
 rcases Is.1 hx with h|h
 .obtain⟨i,hi,rfl⟩:=GO.1 h;exact .inl ⟨i,by simpa using hi,rfl⟩
 obtain⟨y,a,rfl⟩:=GO.1 h;exact .inr ⟨y,a,rfl⟩
theorem Ih {b:Nat} {l:List (Int×Int)} (h:Li l):Li (AY b l):=by
 unfold AY Li;rw[AAe];exact h
theorem Tx {p:List Int} {g:List AD} (hp:p.length<=1000) (c:AN g) (h:0<g.length) (hl:g.length<=10000):AN (BP p g):=by
 have d:=LL p g;refine⟨by omega,λx hx=>?_⟩;rcases LM hx with ⟨i,hi,rfl⟩|⟨y,e,rfl⟩
 .refine⟨by simp,λa ha=>?_⟩;have:a=(p.getD i 0,(i:Int)+1):=by simpa using ha
  subst this;rw[d];simp only;omega
 refine⟨by unfold AY;rw[OR];exact(c.2 y e).1,λa ha=>?_⟩;obtain⟨b,f,rfl⟩:=GO.1 ha;have:=(c.2 y e).2 b f;rw[d];simp only;omega
theorem Si {h:AG} {f:List AD} (vf:VF h f):Ca f f.length [] 0=(List.range f.length).map λ(i:Nat)=>(i:Int):=by
 have p:=vf.pos;have d:=Hf vf.good (r:=0) (by omega) (by omega);have hl:=Ie f 0;have c:=λi=>Id (f:=f) (r:=0) (i:=i);rw[vf.can]at hl;simp only[vf.can]at c;generalize n:Ca f f.length [] 0=o at *;have l:HH h f f (λi=>o.getD i.toNat 0):=by
  refine⟨d.zero.1,λi g j=>d.ok.rng _ (AE o 0 (by omega)),λi g j=>?_,λi g j a ha=>?_⟩
  .rw[c i.toNat (by omega)];exact Fe h _
  rw[AP,c i.toNat (by omega)]at ha;obtain⟨b,e,rfl⟩:=GO.1 ha;have k:=d.cl _ (AE o 0 (by omega)) b e;show Bw (AP f (o.getD i.toNat 0)) b.1=o.getD (Bv o b.2).toNat 0;rw[(DN k).2.2];exact EI (Gi vf.str _) e
 have hu:=XR vf.ro l (XS vf.str);apply iS
 .rw[OR,AEO];omega
 intro i h1 m;rw[AEq,AEt];have:=hu i (i:Int) (by omega) (by omega) (by omega);simp only[RK,id]at this;rw[<-this,AS,AT h1];rfl
theorem Zg {f:List AD} (hf:AN f) (h:Ca f f.length [] 0=(List.range f.length).map λ(i:Nat)=>(i:Int)):AL f 0=f:=by
 unfold AL;generalize hl:Ca f f.length [] 0=l at *;have q:l.length=f.length:=by rw[h];simp
 have b:∀k,(hk:k<l.length)->l[k]=(k:Int):=λk hk=>by subst h;simp
 clear h;have o:l.Nodup:=by
  unfold List.Nodup;rw[RR];intro i j hi n p e;rw[b i hi,b j n]at e;omega
 have m:∀x,0<=x->x<(l.length:Int)->Bv l x=x:=λx r s=>by
  have:=F9 o (i:=x.toNat) (by omega);have e:l.getD x.toNat 0=x:=by
   rw[AS,AT (by omega)];show l[x.toNat]=x;rw[b _ (by omega)];omega
  rw[e]at this;rw[this];omega
 apply iS
 .rw[OR];omega
 intro i h1 c;rw[AEq,b i (by simpa using h1)];have d:f.getD (i:Int).toNat (0,[])=f[i]:=by simp[AS,c]
 unfold Cj;rw[d];have:∀a∈f[i].2,HC l a=a:=λa ha=>by
  have g:=(hf.2 _ (S3 c)).2 a ha;unfold HC;rw[m a.2 g.1 (by omega)]
 rw[RI this,List.map_id']
theorem Uy {Q R:List AD} {ψ:Int->Int} {C:Int->Prop} (h:Iso Q R ψ C) {pre:List Int} (hp:∀i,C i->ψ i∉pre):∀(k:Nat) (t:List Int) (i:Int),(∀x∈t,C x)->C i->Ca R k (pre++t.map ψ) (ψ i)=pre++(Ca Q k t i).map ψ/\∀x∈Ca Q k t i,C x
 | 0,t,i,c,hi=>⟨rfl,c⟩
 | k+1,t,i,c,hi=>by
  have key:∀(l:List (Int×Int)) (t:List Int),(∀a∈l,C a.2)->(∀x∈t,C x) ->
    (l.map λa=>(a.1,ψ a.2)).foldl (AX R k) (pre++t.map ψ)=pre++(l.foldl (AX Q k) t).map ψ/\∀x∈l.foldl (AX Q k) t,C x:=by
   intro l;induction l with
   | nil=>intro t _ c;exact⟨rfl,c⟩
   | cons a l m =>
    intro t hl c;have ha:=hl a (by simp);have hs:AX R k (pre++t.map ψ) (a.1,ψ a.2)=pre++(AX Q k t a).map ψ/\∀x∈AX Q k t a,C x:=by
     unfold AX;by_cases d:a.2∈t
     .rw[BY d,BY (Is.2 (.inr (GO.2 ⟨_,d,rfl⟩)))];exact⟨rfl,c⟩
     have j:¬ψ a.2∈pre++t.map ψ:=by
      intro hh;rcases Is.1 hh with hh|hh
      .exact hp _ ha hh
      obtain⟨x,hx,e⟩:=GO.1 hh;exact d (h.inj x a.2 (c x hx) ha e▸hx)
     rw[As d];simp only[As j];exact Uy h hp k t a.2 c ha
    rw[RS,RE,RE,hs.1];exact m _ (λb g=>hl b (by simp[g])) hs.2
  rw[Bu,Bu];have e:pre++t.map ψ++[ψ i]=pre++(t++[i]).map ψ:=by simp
  have f:(R.getD (ψ i).toNat (0,[])).2=(AP Q i).map λa=>(a.1,ψ a.2):=h.arc i hi;rw[f,e];refine key _ _ (h.cl i hi) λx hx=>?_;rcases Is.1 hx with hx|hx
  .exact c x hx
  have:x=i:=by simpa using hx
  rw[this];exact hi
abbrev Nl (n:Nat):List Int:=(List.range n).map λ(i:Nat)=>(i:Int)
theorem Qx {n:Nat} {x:Int} (h:x∈Nl n):0<=x/\x<(n:Int):=by grind
theorem A1e (n:Nat):Nl (n+1)=Nl n++[(n:Int)]:=by unfold Nl;rw[S5,Sw];rfl
theorem Xa {p:List Int} {g:List AD}:∀(r j:Nat) (k:Nat),j+r=p.length->Ca (BP p g) (r+k) (Nl j) (j:Int)=Ca (BP p g) k (Nl p.length) (p.length:Int)
 | 0,j,k,h=>by rw[show j=p.length by omega,AE4]
 | r+1,j,k,h=>by
  rw[show r+1+k=(r+k)+1 by omega,Bu,Tw (by omega) (by omega),RK];show AX (BP p g) (r+k) (Nl j++[(j:Int)]) (p.getD j 0,(j:Int)+1)=_;rw[<-A1e];unfold AX;rw[As (λa=>by have:=Qx a;simp only at this;omega)];have e:((j:Int)+1)=((j+1:Nat):Int):=by omega
  simp only[e];exact Xa r (j+1) k (by omega)
theorem A1f {h:AG} {p:List Int} {g:List AD} (b:VF h g) (hp:p.length<=1000) (hl:g.length<=10000):AL (BP p g) 0=BP p g:=by
 have f:=b.pos;refine Zg (Tx hp b.good f hl) ?_;rw[LL];have d:=Xa (p:=p) (g:=g) p.length 0 g.length (by omega);rw[show Nl 0=[] from rfl,show ((0:Nat):Int)=0 from rfl]at d;rw[d];have k:Iso g (BP p g) (λi=>(p.length:Int)+i) (λi=>0<=i/\i<(g.length:Int)):=by
  refine⟨λi hi=>?_,λi hi a ha=>Ay b.good ha,λi j hi m e=>by have e:(p.length:Int)+i=(p.length:Int)+j:=e;omega⟩;rw[AP,Qw hi.1 hi.2];show AY p.length (AP g i)=_;unfold AY;refine RI λa _=>?_;show (a.1,a.2+(p.length:Int))=(a.1,(p.length:Int)+a.2);rw[AFn]
 have c:=(Uy k (pre:=Nl p.length) (λi hi l=>by have:=Qx l;omega) g.length [] 0 (λx hx=>by cases hx) ⟨by omega,by omega⟩).1;rw[AEL,Ra,AE7,Si b]at c;rw[c];rw[AFp,Sw,nO,nO];refine AAc _ (RI λi _=>?_);show (p.length:Int)+(i:Int)=((p.length+i:Nat):Int);omega
theorem A4h {h:AG} (h0:0<h.1.length) {p:List Int} {g:List AD} (c:VF h g) (f:FtP h p) (hp:p.length<=1000) (hl:g.length<=10000):VF h (BP p g):=by
 have l:=c.pos;have n:=LL p g;refine⟨Tx hp c.good l hl,by omega,λx hx=>?_,λx hx=>?_,λx hx a ha=>?_,A1f c hp hl,λi o q=>?_⟩
 .rcases LM hx with ⟨i,hi,rfl⟩|⟨y,d,rfl⟩
  .exact⟨by simp,by simp only;omega⟩
  exact c.ty y d
 .rcases LM hx with ⟨i,hi,rfl⟩|⟨y,d,rfl⟩
  .exact AEj _ _
  exact Ih (c.str y d)
 .rcases LM hx with ⟨i,hi,rfl⟩|⟨y,d,rfl⟩
  .have:a=(p.getD i 0,(i:Int)+1):=by simpa using ha
   rw[this];exact f _ (Dg hi)
  obtain⟨b,k,rfl⟩:=GO.1 ha;exact c.ft y d b k
 by_cases hi:i<=(p.length:Int)
 .refine⟨i-1,by omega,by omega,(p.getD (i-1).toNat 0,i-1+1),?_,by simp only;omega⟩;rw[AP,Tw (by omega) (by omega)];exact RM.2 rfl
 obtain⟨j,m,r,x,hx,e⟩:=c.ro (i-p.length) (by omega) (by omega);refine⟨(p.length:Int)+j,by omega,by omega,(x.1,x.2+(p.length:Int)),?_,by simp only;omega⟩;rw[AP,Qw m (by omega)];exact GO.2 ⟨x,hx,rfl⟩
theorem A1g {f:List AD} (hf:AN f) {r:Int} (h:0<=r) (j:r<(f.length:Int)):AN (AL f r)/\0<(AL f r).length:=by
 have c:=Hf hf h j;have hl:=Ie f r;have g:=λi=>Id (f:=f) (r:=r) (i:=i);generalize m:Ca f f.length [] r=o at *;have n:=c.ok.len;have l:=hf.1;have q:=c.zero.2;refine⟨⟨by omega,λx hx=>?_⟩,by omega⟩;obtain⟨i,hi,rfl⟩:=Cu (0,[]) hx;rw[g i (by omega)];have d:o.getD i 0∈o:=AE o 0 (by omega);have p:=c.ok.rng _ d;refine⟨?_,λa ha=>?_⟩
 .show (List.map (HC o) _).length<=_;rw[OR];exact(hf.2 _ (AE f (0,[]) (k:=(o.getD i 0).toNat) (by omega))).1
 obtain⟨b,e,rfl⟩:=GO.1 ha;have:=DN (c.cl _ d b e);rw[hl];exact⟨this.1,this.2.1⟩
theorem A85 {h:AG} {f:List AD} (hf:AN f) (b:Cc h f) {r:Int} (c:0<=r) (d:r<(f.length:Int)):Cc h (AL f r):=by
 have a:=Hf hf c d;intro x hx;obtain⟨n,hn,rfl⟩:=GO.1 hx;have e:=a.ok.rng n hn;exact b (f.getD n.toNat (0,[])) (AE f (0,[]) (k:=n.toNat) (by omega))
def dW (s:ByteArray):Nat->List F4->Int
 | _,[]=>-1
 | k,x :: l=>if Ac x.1 s=true then (k:Int) else dW s (k+1) l
def KN (h:AG) (s:ByteArray):Int:=dW s 0 h.1
def yW (s:ByteArray):Nat->List Wl->Int
 | _,[]=>-1
 | k,x :: l=>if Ac x.1 s=true then (k:Int) else yW s (k+1) l
def YR (h:AG) (s:ByteArray):Int:=yW s 0 h.2
theorem yX (s:ByteArray):∀(l:List F4) (k:Nat),dW s k l=-1\/((k:Int)<=dW s k l/\dW s k l<((k+l.length:Nat):Int))
 | [],_=>.inl rfl
 | x :: l,k=>by
  unfold dW;split
  .exact .inr ⟨ADC _,by simp only[No];omega⟩
  have:=yX s l (k+1);simp only[No];omega
theorem yY (s:ByteArray):∀(l:List Wl) (k:Nat),yW s k l=-1\/((k:Int)<=yW s k l/\yW s k l<((k+l.length:Nat):Int))
 | [],_=>.inl rfl
 | x :: l,k=>by
  unfold yW;split
  .exact .inr ⟨ADC _,by simp only[No];omega⟩
  have:=yY s l (k+1);simp only[No];omega
theorem EJ (h:AG) (s:ByteArray):-1<=KN h s/\KN h s<(h.1.length:Int):=by
 have:=yX s h.1 0;unfold KN;omega
theorem GD (h:AG) (s:ByteArray):-1<=YR h s/\YR h s<(h.2.length:Int):=by
 have:=yY s h.2 0;unfold YR;omega
structure LW where
 list:Int
 cons:Int
 null:Int
 dlist:Int
 first:Int
 rest:Int
 head:Int
 last:Int
def sb (l:List UInt8):ByteArray:=⟨l.toArray⟩
def AR (h:AG):LW:=⟨KN h (sb [108,105,115,116]),KN h (sb [99,111,110,115]),KN h (sb [110,117,108,108]),KN h (sb [100,108,105,115,116]),YR h (sb [70,73,82,83,84]),YR h (sb [82,69,83,84]),YR h (sb [76,73,83,84]),YR h (sb [76,65,83,84])⟩
def Ea (h:AG):Bool:=decide (0<=(AR h).list/\0<=(AR h).cons/\0<=(AR h).null/\0<=(AR h).dlist/\0<=(AR h).first/\0<=(AR h).rest/\0<=(AR h).head/\0<=(AR h).last)&&Av h (AR h).list (AR h).cons&&Av h (AR h).list (AR h).null
def Zh (w:LW) (row:List (Int×Int)):Bool:=decide (Bw row w.first<0)&&decide (Bw row w.rest<0)
def Zi (w:LW) (row:List (Int×Int)):Bool:=decide (0<=Bw row w.first)&&decide (0<=Bw row w.rest)
def o9 (h:AG) (w:LW) (x:AD):Bool:=Av h w.null x.1&&Zh w x.2
def Xb (h:AG) (w:LW) (x:AD):Bool:=Av h w.cons x.1&&Zi w x.2
def Zj (h:AG) (w:LW) (x:AD):Bool:=Av h x.1 w.cons&&Zh w x.2
def Bz (h:AG) (w:LW) (x:AD):Int:=if o9 h w x=true then 1 else if Xb h w x=true then 2 else if Zj h w x=true then 3 else 0
def Zk (h:AG) (w:LW) (f:List AD):Nat->List Int->List Int->Int->List Int×Bool×Int
 | 0,_,_,_=>([],false,6)
 | k+1,a,out,n=>if n∈a then ([],false,6) else
  if Bz h w (f.getD n.toNat (0,[]))=1 then (out,true,0) else if Bz h w (f.getD n.toNat (0,[]))=3 then (out,false,0) else if Bz h w (f.getD n.toNat (0,[]))=0 then ([],false,13)
  else Zk h w f k (a++[n]) (out++[Bw (f.getD n.toNat (0,[])).2 w.first]) (Bw (f.getD n.toNat (0,[])).2 w.rest)
def D9 (h:AG) (f:List AD) (n:Int):List Int×Bool×Int:=if Ea h=true then Zk h (AR h) f (f.length+1) [] [] n else ([],false,5)
theorem Zl {h:AG} {w:LW} {x:AD} (e:Bz h w x=2):0<=Bw x.2 w.first/\0<=Bw x.2 w.rest:=by
 unfold Bz at e;split at e
 .cases e
 split at e
 .rename_i a;unfold Xb Zi at a;simp only[An,Do]at a;exact a.2
 split at e<;>cases e
theorem OJ {h:AG} (e:Ea h=true):(0<=(AR h).first/\0<=(AR h).rest)/\0<=(AR h).cons/\0<=(AR h).null/\0<=(AR h).list/\0<=(AR h).dlist/\0<=(AR h).head/\0<=(AR h).last:=by
 unfold Ea at e;rw[An,An,Do]at e;obtain⟨⟨⟨h1,a,b,c,d,f,g,i⟩,-⟩,-⟩:=e;exact⟨⟨d,f⟩,a,b,h1,c,g,i⟩
section
theorem jY (s:ByteArray) (l:List F4) {k:Nat} (h:k<l.length):dW s k (l.drop k)=if Ac (l.getD k SL).1 s=true then (k:Int) else dW s (k+1) (l.drop (k+1)):=by
 rw[Of h];have e:l.getD k SL=l[k]:=by simp[AS,h]
 rw[e];rfl
theorem jZ (s:ByteArray) (l:List Wl) {k:Nat} (h:k<l.length):yW s k (l.drop k)=if Ac (l.getD k (ByteArray.empty,0)).1 s=true then (k:Int) else yW s (k+1) (l.drop (k+1)):=by
 rw[Of h];have e:l.getD k (ByteArray.empty,0)=l[k]:=by simp[AS,h]
 rw[e];rfl
def Tz:AZ:={ ins:=[Dn,T9],pre:=λ_=>True,out:=λ(h,s,_)=>[.p T3 (KN h s)],lend:=true }
attribute [local go_sem] Tz
theorem yZ:Af Tryz.prog 60 Tz:=by
 refine fK [0,1,2,4,5,10,20] Tryz.func60 Tryz.ntmps60 AH ?_;rintro w0 O0 ⟨⟨a,hf⟩,s,u⟩ e ⟨⟨⟨hl,-⟩,-⟩,-⟩ -;simp only[AO]at hl;simp only[Tz,AM];repeat'(first|exact trivial|apply eS rfl|apply AB|refine rX e ?_ ?_|refine rC ?_ ?_<;>intro b<;>try(cases b;done))
 refine AK (ι:={k:Nat//k<=a.length/\dW s k (a.drop k)=KN (a,hf) s}) (λk=>⟨[(1,.p T9 s),(2,.bp 2 [] 0),(5,.p (.int .i64) (k.1:Int))],[(2,.box 31 true [.p lF a,.p rE hf])]⟩) (λk=>a.length-k.1) ⟨0,NO _,rfl⟩ (eW [(2,.nm 2)]) (λk=>?_)
 obtain⟨k,hk,c⟩:=k;have f:=λh:k<a.length=>jY s a h;simp only;repeat'(first|exact trivial|apply eS rfl|apply AB|refine rX e ?_ ?_|refine rC ?_ ?_<;>intro b<;>try(cases b;done))
 .exact b
 .have d:k<a.length:=by exact eV
  rw[f d,BY b]at c;exact fI e [.tmp 4] (by rw[<-c];exact eR)
 .omega
 .have d:k<a.length:=by exact eV
  rw[f d,As (by rw[b];simp)]at c;exact⟨⟨k+1,by omega,c⟩,by simp only;omega,eW [(2,.nm 2)]⟩
 have d:a.drop k=[]:=RC (by exact eV);rw[d]at c;exact fI e [.tmp 4] (by rw[<-c];first|exact eR|refine Yw ?_;rfl)
def Pb:AZ:={ ins:=[Dn,T9],pre:=λ_=>True,out:=λ(h,s,_)=>[.p T3 (YR h s)],lend:=true }
attribute [local go_sem] Pb
theorem A9V:Af Tryz.prog 70 Pb:=by
 refine fK [0,1,2,4,5,10,20] Tryz.func70 Tryz.ntmps70 AH ?_;rintro w0 O0 ⟨⟨f,hf⟩,s,u⟩ d ⟨⟨-,hl,-⟩,-⟩ -;simp only[AO]at hl;simp only[Pb,AM];repeat'(first|exact trivial|apply eS rfl|apply AB|refine rX d ?_ ?_|refine rC ?_ ?_<;>intro a<;>try(cases a;done))
 refine AK (ι:={k:Nat//k<=hf.length/\yW s k (hf.drop k)=YR (f,hf) s}) (λk=>⟨[(1,.p T9 s),(2,.bp 2 [] 0),(5,.p (.int .i64) (k.1:Int))],[(2,.box 31 true [.p lF f,.p rE hf])]⟩) (λk=>hf.length-k.1) ⟨0,NO _,rfl⟩ (eW [(2,.nm 2)]) (λk=>?_)
 obtain⟨k,hk,b⟩:=k;have e:=λh:k<hf.length=>jZ s hf h;simp only;repeat'(first|exact trivial|apply eS rfl|apply AB|refine rX d ?_ ?_|refine rC ?_ ?_<;>intro a<;>try(cases a;done))
 .exact a
 .have c:k<hf.length:=by exact eV
  rw[e c,BY a]at b;exact fI d [.tmp 4] (by rw[<-b];exact eR)
 .omega
 .have c:k<hf.length:=by exact eV
  rw[e c,As (by rw[a];simp)]at b;exact⟨⟨k+1,by omega,b⟩,by simp only;omega,eW [(2,.nm 2)]⟩
 have c:hf.drop k=[]:=RC (by exact eV);rw[c]at b;exact fI d [.tmp 4] (by rw[<-b];first|exact eR|refine Yw ?_;rfl)
def A4i:AZ:=Pb
attribute [local go_sem] A4i
theorem A9W:Af Tryz.prog 67 Pb:=by
 refine fK [0,1,2,4,5,6,8,9,10,11,20] Tryz.func67 Tryz.ntmps67 AH ?_;rintro w0 O0 ⟨⟨f,hf⟩,s,u⟩ b ⟨⟨-,hl,-⟩,-⟩ -;simp only[AO]at hl;simp only[Pb,AM];repeat'(first|exact trivial|apply eS rfl|apply AB|refine rX b ?_ ?_|refine rC ?_ ?_<;>intro a<;>try(cases a;done))
 refine AK (ι:={k:Nat//k<=hf.length/\yW s k (hf.drop k)=YR (f,hf) s}) (λk=>⟨[(1,.p T9 s),(8,.p rE hf),(9,.p (.int .i64) (hf.length:Int)),(10,.p (.int .i64) (k.1:Int))],[]⟩) (λk=>hf.length-k.1) ⟨0,NO _,rfl⟩ (eW []) (λk=>?_)
 obtain⟨k,hk,c⟩:=k;have e:=λh:k<hf.length=>jZ s hf h;simp only;repeat'(first|exact trivial|apply eS rfl|apply AB|refine rX b ?_ ?_|refine rC ?_ ?_<;>intro a<;>try(cases a;done))
 .exact a
 .refine cP 5 b ?_ ?_
  .trivial
  refine ADQ (j:=.i64) b (by kernel_rfl) ?_;refine rL b ?_ ?_
  .trivial
  repeat'(first|exact trivial|apply eS rfl|apply AB|refine rX b ?_ ?_|refine rC ?_ ?_<;>intro a<;>try(cases a;done))
  .have d:k<hf.length:=by exact eV
   rw[e d,BY a]at c;exact fI b [.tmp 4] (by rw[<-c];exact eR)
  .omega
  have d:k<hf.length:=by exact eV
  rw[e d,As (by rw[a];simp)]at c;exact⟨⟨k+1,by omega,c⟩,by simp only;omega,eW []⟩
 have d:hf.drop k=[]:=RC (by exact eV);rw[d]at c;exact fI b [.tmp 4] (by rw[<-c];first|exact eR|refine Yw ?_;rfl)
theorem A86 (s:ByteArray) (t:F4):A9 Tryz.prog 180 [.p mW t,.bp 1 [] 0] [(1,.box 9 false [.p T9 s])] [1] (λres c=>res=.p .bool (Ac t.1 s)/\c=[(1,.box 9 false [.p T9 s])]):=by
 refine KY [0,1,2,3] [] [] Tryz.func180 Tryz.ntmps180 AH ?_;intro w0 K O0 ρ0 a d e;simp only[Ak];repeat'(first|exact trivial|apply eS rfl|apply AB|refine rX a ?_ ?_|refine rC ?_ ?_<;>intro b<;>try(cases b;done))
 refine Ev.ent (σ':=⟨[(3,.p .bool (Ac t.1 s))],[(1,.box 9 false [.p T9 s])]⟩) ?_ (AC [(1,.nm 1)] rfl rfl ?_ ?_)
 .exact fM a [.tmp 3] (.p .bool (Ac t.1 s)) eT ⟨rfl,rfl⟩
 .exact eN
 exact eN
theorem A1h (l:List F4) (s:ByteArray):A9 Tryz.prog 177 [.p lF l,.clo 180 [1]] [(1,.box 9 false [.p T9 s])] [1] (λres g=>res=.p T3 (dW s 0 l)/\g=[(1,.box 9 false [.p T9 s])]):=by
 refine KY [0,1,4,5,7,8,9,16] [] [] Tryz.func177 Tryz.ntmps177 AH ?_;intro w0 K O0 ρ0 b e i;have hl:l.length<=140737488355328:=e.1.1;simp only[Ak];repeat'(first|exact trivial|apply eS rfl|apply AB|refine rX b ?_ ?_|refine rC ?_ ?_<;>intro a<;>try(cases a;done))
 refine AK (ι:={k:Nat//k<=l.length/\dW s k (l.drop k)=dW s 0 l}) (λk=>⟨[(0,.p lF l),(1,.clo 180 [1]),(7,.p (.int .i64) (l.length:Int)),(8,.p (.int .i64) (k.1:Int))],[(1,.box 9 false [.p T9 s])]⟩) (λk=>l.length-k.1) ⟨0,NO _,rfl⟩ (eW [(1,.nm 1)]) (λk=>?_)
 obtain⟨k,hk,hf⟩:=k;have f:=λh:k<l.length=>jY s l h;simp only;repeat'(first|exact trivial|apply eS rfl|apply AB|refine rX b ?_ ?_|refine rC ?_ ?_<;>intro a<;>try(cases a;done))
 .have c:k<l.length:=IN.1 a;have d:=f c;refine cP 5 b ?_ ?_
  .exact a
  refine rM b (A86 s (l.getD k SL)) [(1,.nm 1)] [] ?_ ?_ ?_
  .exact eN
  .exact eN
  rintro _ _ ⟨rfl,rfl⟩;refine⟨[(1,.nm 1)],.p .bool (Ac (l.getD k SL).1 s),[(1,.box 9 false [.p T9 s])],rfl,rfl,?_,?_,rfl,rfl,BV ?_⟩
  .exact eN
  .exact eN
  repeat'(first|exact trivial|apply eS rfl|apply AB|refine rX b ?_ ?_|refine rC ?_ ?_<;>intro a<;>try(cases a;done))
  .rw[BY a,hf]at d;refine Ev.ent (σ':=⟨[(4,.p (.int .i64) (k:Int))],[(1,.box 9 false [.p T9 s])]⟩) ?_ (AC [(1,.nm 1)] rfl rfl ?_ ?_)
   .exact fM b [.tmp 4] (.p T3 (k:Int)) eT ⟨by rw[d],rfl⟩
   .exact eN
   exact eN
  .omega
  rw[As (by rw[a];simp)]at d;exact⟨⟨k+1,c,d.symm.trans hf⟩,by simp only;omega,eW [(1,.nm 1)]⟩
 have c:l.drop k=[]:=RC (RJ.1 a);rw[c]at hf;have hf:(-1:Int)=dW s 0 l:=hf;refine Ev.ent (σ':=⟨[(4,.p (.int .i64) (-1))],[(1,.box 9 false [.p T9 s])]⟩) ?_ (AC [(1,.nm 1)] rfl rfl ?_ ?_)
 .exact fM b [.tmp 4] (.p T3 (-1)) eT ⟨by rw[hf],rfl⟩
 .exact eN
 exact eN
def y3:AZ:={ ins:=[Dn,T9],pre:=λ_=>True,out:=λ(h,s,_)=>[.p T3 (KN h s)],lend:=true }
attribute [local go_sem] y3
theorem A87:Af Tryz.prog 138 y3:=by
 refine fK [0,1,2,3,4] Tryz.func138 Tryz.ntmps138 AH ?_;rintro w0 O0 ⟨⟨c,hf⟩,s,u⟩ a - -;simp only[y3,AM];refine Ev.ent (σ':=⟨[(0,.p Dn (c,hf)),(1,.p T9 s)],[]⟩) ?_ (AC [] rfl rfl ?_ ?_)
 .repeat'(first|exact trivial|apply eS rfl|apply AB|refine rX a ?_ ?_|refine rC ?_ ?_<;>intro b<;>try(cases b;done))
  refine cP 3 a ?_ ?_
  .trivial
  refine rM a (A1h c s) [(1,.nm 3)] [] ?_ ?_ ?_
  .exact eN
  .exact eN
  rintro _ _ ⟨rfl,rfl⟩;refine⟨[(3,.nm 1)],.p T3 (dW s 0 c),[(3,.box 9 false [.p T9 s])],rfl,rfl,?_,?_,rfl,rfl,?_⟩
  .exact eN
  .exact eN
  refine rL a ?_ ?_
  .trivial
  repeat'(first|exact trivial|apply eS rfl|apply AB|refine rX a ?_ ?_|refine rC ?_ ?_<;>intro b<;>try(cases b;done))
  exact fI a [.tmp 4] (by unfold KN;exact eR)
 .exact eN
 exact eN
theorem cZ (h:AG):KN h ⟨#[108,105,115,116]⟩=(AR h).list/\KN h ⟨#[99,111,110,115]⟩=(AR h).cons/\KN h ⟨#[110,117,108,108]⟩=(AR h).null/\KN h ⟨#[100,108,105,115,116]⟩=(AR h).dlist/\YR h ⟨#[70,73,82,83,84]⟩=(AR h).first/\YR h ⟨#[82,69,83,84]⟩=(AR h).rest/\YR h ⟨#[76,73,83,84]⟩=(AR h).head/\YR h ⟨#[76,65,83,84]⟩=(AR h).last:=⟨rfl,rfl,rfl,rfl,rfl,rfl,rfl,rfl⟩
theorem c5 (h:AG):((AR h).list<(h.1.length:Int)/\(AR h).cons<(h.1.length:Int)/\(AR h).null<(h.1.length:Int)/\(AR h).dlist<(h.1.length:Int))/\(-1<=(AR h).list/\-1<=(AR h).cons/\-1<=(AR h).null/\-1<=(AR h).dlist) :=
 ⟨⟨(EJ h _).2,(EJ h _).2,(EJ h _).2,(EJ h _).2⟩,(EJ h _).1,(EJ h _).1,(EJ h _).1,(EJ h _).1⟩
theorem c6 {α:Type} {f:List α} {n:Int} (h:0<=n/\n<(f.length:Int)):n.toNat<f.length:=by omega
end
section
attribute [local go_sem] y3 A4i Pb Wp cs4 cs5
def wdF (h:AG) (w:LW):WE.den:=(h,w.list,w.cons,w.null,w.dlist,w.first,w.rest,w.head,w.last)
def lwO (w:WE.den):LW:=⟨w.2.1,w.2.2.1,w.2.2.2.1,w.2.2.2.2.1,w.2.2.2.2.2.1,w.2.2.2.2.2.2.1,w.2.2.2.2.2.2.2.1,w.2.2.2.2.2.2.2.2⟩
def Xc:AZ:={ ins:=[DE,T3,T3],pre:=λ(f,n,_)=>AN f/\(0:Int)<=n/\n<(List.length f:Int),out:=λ(f,n,e,_)=>[.p T3 (Bw (List.getD (f:List AD) n.toNat (0,[])).2 e)],lend:=true }
attribute [local go_sem] Xc
theorem Qy:Af Tryz.prog 89 Xc:=by
 refine fK [0,1,2,3,6,8,14,15,16,17,23] Tryz.func89 Tryz.ntmps89 AH ?_;rintro w0 O0 ⟨f,n,e,u⟩ d-⟨g,hn⟩;have g:AN f:=g;have hn:0<=n/\n<(f.length:Int):=hn;simp only[Xc,AM];repeat'(first|exact trivial|apply eS rfl|apply AB|refine rX d ?_ ?_|refine rC ?_ ?_<;>intro a<;>try(cases a;done))
 .exact hn
 have j:=(g.2 _ (AE f (0,[]) (c6 hn))).1;generalize (f.getD n.toNat (0,[])).2=L at *;refine AK (ι:={k:Nat//k<=L.length/\Bw L e=Bw (L.drop k) e}) (λk=>⟨[(2,.p T3 e),(14,.p Cm L),(15,.p (.int .i64) (L.length:Int)),(16,.p (.int .i64) (k.1:Int))],[]⟩) (λk=>L.length-k.1) ⟨0,NO _,rfl⟩ (eW []) (λk=>?_)
 obtain⟨k,hk,b⟩:=k;have i:=λh:k<L.length=>A15 e L h;simp only;repeat'(first|exact trivial|apply eS rfl|apply AB|refine rX d ?_ ?_|refine rC ?_ ?_<;>intro a<;>try(cases a;done))
 .exact a
 .have c:k<L.length:=by exact eV
  rw[i c,BY a]at b;exact fI d [.tmp 6] (by rw[b];exact eR)
 .omega
 .have c:k<L.length:=by exact eV
  rw[i c,As a]at b;exact⟨⟨k+1,by omega,b⟩,by simp only;omega,eW []⟩
 have c:L.drop k=[]:=RC (by exact eV);rw[c]at b;exact fI d [.tmp 6] (by rw[b];first|exact eR|refine Yw ?_;rfl)
def WOk (h:AG) (w:LW):Prop:=(0<=w.cons/\w.cons<(h.1.length:Int))/\(0<=w.null/\w.null<(h.1.length:Int))
def Pc:AZ:={ ins:=[WE,DE,T3],pre:=λ(w,f,n,_)=>WOk w.1 (lwO w)/\AN f/\Cc w.1 f/\(0:Int)<=n/\n<(List.length f:Int),out:=λ(w,f,n,_)=>[.p T3 (Bz w.1 (lwO w) (List.getD (f:List AD) n.toNat (0,[])))],lend:=true }
attribute [local go_sem] Pc
theorem Qz:Af Tryz.prog 91 Pc:=by
 refine fK [0,1,2,3,4,6,7,8,9,28,43,56] Tryz.func91 Tryz.ntmps91 (AF Qy (AF x6 AH)) ?_;rintro w0 O0 ⟨⟨h,l,c,d,dl,a,e,b,la⟩,f,n,u⟩ i-⟨j,k,m,hn⟩;have j:WOk h ⟨l,c,d,dl,a,e,b,la⟩:=j;have k:AN f:=k;have m:Cc h f:=m;have hn:0<=n/\n<(f.length:Int):=hn;have hty:=m _ (AE f (0,[]) (c6 hn));simp only[Pc,AM];repeat'(first|exact trivial|apply eS rfl|apply AB|refine rX i ?_ ?_|refine rC ?_ ?_<;>intro o<;>try(cases o;done))
 .exact hn
 .exact⟨k,hn⟩
 .exact⟨j.2,hty⟩
 .have g:Bz h ⟨l,c,d,dl,a,e,b,la⟩ (f.getD n.toNat (0,[]))=1:=by
   unfold Bz o9 Xb Zj Zh Zi;simp only[An,Do];grind
  exact fI i [.tmp 6] (by rw[show lwO (h,l,c,d,dl,a,e,b,la)=⟨l,c,d,dl,a,e,b,la⟩ from rfl,g];exact eR)
 .exact⟨j.1,hty⟩
 .have g:Bz h ⟨l,c,d,dl,a,e,b,la⟩ (f.getD n.toNat (0,[]))=2:=by
   unfold Bz o9 Xb Zj Zh Zi;simp only[An,Do];grind
  exact fI i [.tmp 6] (by rw[show lwO (h,l,c,d,dl,a,e,b,la)=⟨l,c,d,dl,a,e,b,la⟩ from rfl,g];exact eR)
 .exact⟨hty,j.1⟩
 .have g:Bz h ⟨l,c,d,dl,a,e,b,la⟩ (f.getD n.toNat (0,[]))=3:=by
   unfold Bz o9 Xb Zj Zh Zi;simp only[An,Do];grind
  exact fI i [.tmp 6] (by rw[show lwO (h,l,c,d,dl,a,e,b,la)=⟨l,c,d,dl,a,e,b,la⟩ from rfl,g];exact eR)
 have g:Bz h ⟨l,c,d,dl,a,e,b,la⟩ (f.getD n.toNat (0,[]))=0:=by
  unfold Bz o9 Xb Zj Zh Zi;simp only[An,Do];grind
 exact fI i [.tmp 6] (by rw[show lwO (h,l,c,d,dl,a,e,b,la)=⟨l,c,d,dl,a,e,b,la⟩ from rfl,g];exact eR)
theorem A88 {a b:Int}:(if b<a then b else a)<0↔a<0\/b<0:=by split<;>omega
theorem A89 {a b:Int}:(0<=if b<a then b else a)↔0<=a/\0<=b:=by split<;>omega
def A8Y:WE.den:=(([],[]),0,0,0,0,0,0,0,0)
def Jl:AZ:={ ins:=[Dn],pre:=λ_=>True,out:=λ(h,_)=>[.p WE (if Ea h=true then wdF h (AR h) else A8Y),.p GI (if Ea h=true then 0 else 5)] }
attribute [local go_sem] Jl
theorem KO:Af Tryz.prog 88 Jl:=by
 refine fK [0,1,2,3,4,58] Tryz.func88 Tryz.ntmps88 (AF A87 (AF A9W (AF x6 AH))) ?_;rintro w0 O0 ⟨⟨a,hf⟩,u⟩ b - -;obtain⟨e1,e2,f,g,i,j,k,l⟩:=cZ (a,hf);obtain⟨⟨q,r,s,t⟩,m,n,o,p⟩:=c5 (a,hf);simp only[Jl,AM];repeat'(first|exact trivial|apply eS rfl|apply AB|refine rX b ?_ ?_|refine rC ?_ ?_<;>intro e<;>try(cases e;done))
 all_goals simp only[e1,e2,f,g,i,j,k,l,A88,A89]at *
 .refine⟨λh=>?_,λh=>?_⟩<;>simp only[RH,oN,On,not_or]at h<;>grind
 .have c:Ea (a,hf)=false:=by
   rw[AEb];intro d;unfold Ea at d;simp only[An,Do]at d;grind
  exact fI b [.cell 2 115,.tmp 3] (by simp only[c,iN,ADz,A8Y];exact eR)
 have c:Ea (a,hf)=true:=by
  unfold Ea;simp only[An,Do];grind
 exact fI b [.cell 2 115,.tmp 3] (by simp only[c,ADv,wdF];exact eR)
end
section
attribute [local go_sem] ST IV
def ftR (h:AG) (a:Int×Int):Bool:=decide (a.1<(h.2.length:Int))
def ndR (h:AG) (x:AD):Bool:=decide (x.1<(h.1.length:Int))&&x.2.all (ftR h)
def Hg (h:AG) (f:List AD):Int:=if (A0 f).2≠0 then (A0 f).2 else if f.all (ndR h)=false then 2 else if (CQ f (A0 f).1==0)=false then 3 else 0
def LN:AZ:={ ins:=[Dn,DE],pre:=λ(_,f,_)=>EV f,out:=λ(h,f,_)=>[.p GI (Hg h f)] }
theorem A1k:Af Tryz.prog 33 LN:=by
 refine fK [0,1,2,3,4,5,6,7,8,9,16,22,35,40,52,56] Tryz.func33 Tryz.ntmps33 (AF A3J (AF Qk AH)) ?_;rintro w0 O0 ⟨⟨b,hf⟩,f,u⟩ d-hs;have hs:EV f:=hs;simp only[LN,AM];repeat'(first|exact trivial|apply eS rfl|refine rX d ?_ ?_|refine rC ?_ ?_<;>intro a<;>try(cases a;done))
 .exact hs.2
 .have h1:Hg (b,hf) f=(A0 f).2:=by unfold Hg;rw[BY a]
  exact fI d [.tmp 4] (by rw[h1];exact eR)
 have t:(A0 f).2=0:=by simpa using a
 have q:=iQ hs.2;have w:=hs.1;have g:Hg (b,hf) f=if f.all (ndR (b,hf))=false then 2 else if (CQ f (A0 f).1==0)=false then 3 else 0:=by unfold Hg;rw[As (by rw[t];simp)]
 refine AK (ι:={i:Nat//i<=f.length/\(f.take i).all (ndR (b,hf))=true}) (λi=>⟨[(2,.bp 2 [] 0),(3,.bp 3 [] 0),(5,.bp 5 [] 0),(7,.p (.int .i64) (i.1:Int))],[(2,.box 31 true [.p lF b,.p rE hf]),(3,.box 25 true [.p G2 f]),(5,.box 25 true [.p G2 (A0 f).1])]⟩) (λi=>f.length-i.1) ⟨0,by simp⟩ (eW [(2,.nm 2),(3,.nm 3),(5,.nm 5)]) (λi=>?_)
 obtain⟨i,hi,l⟩:=i;have r:=λh:i<f.length=>KB f (0,[]) (ndR (b,hf)) h;simp only;repeat'(first|exact trivial|apply eS rfl|refine rX d ?_ ?_|refine rC ?_ ?_<;>intro a<;>try(cases a;done))
 .exact a
 .have c:i<f.length:=IN.1 (by assumption);have e:f.all (ndR (b,hf))=false:=by
   rw[AEA];refine⟨_,AE f (0,[]) c,?_⟩;unfold ndR;rw[AEK (AE3.2 a)];simp
  rw[BY e]at g;exact fI d [.tmp 4] (by rw[g];exact eR)
 .have c:i<f.length:=IN.1 (by assumption);have n:=AE f (0,[]) c;have o:ndR (b,hf) (f.getD i (0,[]))=(f.getD i (0,[])).2.all (ftR (b,hf)):=by
   unfold ndR;rw[AEF (show (f.getD i (0,[])).1<(b.length:Int) from a)];rfl
  have v:(f.getD i (0,[])).2.length<=100000:=hs.2 _ n;refine AK (ι:={k:Nat//k<=(f.getD i (0,[])).2.length/\((f.getD i (0,[])).2.take k).all (ftR (b,hf))=true}) (λk=>⟨[(2,.bp 2 [] 0),(3,.bp 3 [] 0),(5,.bp 5 [] 0),(7,.p (.int .i64) (i:Int)),(8,.bp 8 [] 0),(9,.p (.int .i64) (k.1:Int))],[(2,.box 31 true [.p lF b,.p rE hf]),(3,.box 25 true [.p G2 f]),(5,.box 25 true [.p G2 (A0 f).1]),(8,.box 93 true [.p T3 (f.getD i (0,[])).1,.p Cm (f.getD i (0,[])).2])]⟩) (λk=>(f.getD i (0,[])).2.length-k.1) ⟨0,by simp⟩ (eW [(2,.nm 2),(3,.nm 3),(5,.nm 5),(8,.nm 8)]) (λk=>?_)
  obtain⟨k,hk,m⟩:=k;have s:=λh:k<(f.getD i (0,[])).2.length=>KB (f.getD i (0,[])).2 (0,0) (ftR (b,hf)) h;simp only;repeat'(first|exact trivial|apply eS rfl|apply AB|refine rX d ?_ ?_|refine rC ?_ ?_<;>intro a<;>try(cases a;done))
  .exact a
  .have j:k<(f.getD i (0,[])).2.length:=IN.1 (by assumption);have e:f.all (ndR (b,hf))=false:=by
    rw[AEA];refine⟨_,n,?_⟩;rw[o,AEA.2 ⟨_,AE (f.getD i (0,[])).2 (0,0) j,by unfold ftR;rw[AEK (AE3.2 a)];simp⟩];simp
   rw[BY e]at g;exact fI d [.tmp 4] (by rw[g];exact eR)
  .exact eV
  .have j:k<(f.getD i (0,[])).2.length:=IN.1 (by assumption);refine⟨⟨k+1,j,?_⟩,by simp only;omega,AC [(2,.nm 2),(3,.nm 3),(5,.nm 5),(8,.nm 8)] rfl rfl ?_ ?_⟩
   .rw[s j,m];unfold ftR;exact AEF a
   .exact eN
   exact eN
  .exact eV
  have j:(f.getD i (0,[])).2.take k=(f.getD i (0,[])).2:=At (RJ.1 a);rw[j]at m;refine⟨⟨i+1,c,?_⟩,by simp only;omega,AC [(2,.nm 2),(3,.nm 3),(5,.nm 5)] rfl rfl ?_ ?_⟩
  .rw[r c,l,o,m];rfl
  .exact eN
  exact eN
 .exact⟨hs,q⟩
 .have c:f.take i=f:=At (RJ.1 (by assumption));rw[c]at l;rw[As (by rw[l];simp),BY (by simpa using a)]at g;exact fI d [.tmp 4] (by rw[g];exact eR)
 have c:f.take i=f:=At (RJ.1 (by assumption));rw[c]at l;rw[As (by rw[l];simp),As (by rw[a];simp)]at g;exact fI d [.tmp 4] (by rw[g];exact eR)
def Jm (h:AG) (f:List AD):Bool:=HO f&&Hg h f==0
end
section
attribute [local go_sem] KE MT SM LN
def Uz (d:List AJ):AG:=if d.length<=12/\(A1 d).2=0 then (A1 d).1 else (A1 KD).1
def c7:AZ:={ ins:=[T3],pre:=λ_=>True,out:=λ(t,_)=>[.p DE [(t,[])]] }
theorem A4j:Af Tryz.prog 142 c7:=by
 refine fK [0,2] Tryz.func142 Tryz.ntmps142 AH ?_;rintro w0 O0 ⟨t,u⟩ a - -;simp only[c7,AM];repeat'(first|exact trivial|apply eS rfl|apply AB|refine rX a ?_ ?_|refine rC ?_ ?_<;>intro b<;>try(cases b;done))
 exact fI a [.cell 2 25]
end
section
attribute [local go_sem] x7
def j5 (f:Int):List (Int×Int)->Int×Bool
 | []=>(0,false)
 | x :: l=>if x.1=f then (x.2,true) else j5 f l
def A9X (h:AG) (t:Int):List (Int×Int):=(h.1.getD t.toNat SL).2.2.2
def EZ (h:AG) (t f:Int):Int×Bool:=j5 f (A9X h t)
abbrev Y1:=List Int×List Int
def HQ (h:AG) (s:Y1) (n t:Int):Option Y1 :=
 if (Ba h (s.1.getD n.toNat 0) t).2=true then some (if (Ba h (s.1.getD n.toNat 0) t).1=s.1.getD n.toNat 0 then s else (s.1.set n.toNat (Ba h (s.1.getD n.toNat 0) t).1,s.2++[n])) else none
end
section
attribute [local go_sem] HB iL
theorem A4k {α:Type} (d:α) {l:List α} {k:Nat} (h:k<l.length):l.drop k=l.getD k d :: l.drop (k+1):=by
 rw[Of h];have e:l.getD k d=l[k]:=by simp[AS,h]
 rw[e]
end
section
attribute [local go_sem] HB iL Qo
def j6 (l:List (Int×Int)):List (Int×Bool):=l.foldl (λm a=>Fl T3 .bool a.1 true m) []
theorem Xd {a:Ty} (x k:Int) (v:a.den) (m:List (Int×a.den)):BT T3 a x (Fl T3 a k v m)=if x=k then some v else BT T3 a x m:=by
 induction m with
 | nil=>simp[Fl,BT,Ik]
 | cons y m f =>
  simp only[Fl];by_cases b:Ik T3 k y.1=true
  .rw[BY b];have c:k=y.1:=by simpa[Ik] using b
   simp only[BT,Ik,S1];by_cases hx:x=k
   .rw[BY hx,BY hx]
   rw[As hx,As hx,As (by rw[<-c];exact hx)]
  rw[As b];have c:¬k=y.1:=by simpa[Ik] using b
  simp only[BT];by_cases hx:Ik T3 x y.1=true
  .have d:x=y.1:=by simpa[Ik] using hx
   rw[BY hx,BY hx,As (by rw[d];exact λe=>c e.symm)]
  rw[As hx,As hx,f]
theorem A1l (x:Int) (l:List (Int×Int)):(BT T3 .bool x (j6 l)).getD false=l.any λy=>y.1==x:=by
 induction l using EO with
 | h0=>rfl
 | h1 l a c =>
  have e:j6 (l++[a])=Fl T3 .bool a.1 true (j6 l):=by unfold j6;rw[AEl];rfl
  rw[e,Xd,AEM,<-c];by_cases h:x=a.1
  .rw[BY h,h];simp
  rw[As h];have b:¬a.1=x:=λe=>h e.symm;simp[b]
def GE (x:AD) (n:Int):Int:=if x.1<0 then 2 else GP x.2 n
def Xe:AZ:={ ins:=[Hd,T3],pre:=λ_=>True,out:=λ(x,n,_)=>[.p GI (GE x n)] }
attribute [local go_sem] Xe
theorem pA:Af Tryz.prog 148 Xe:=by
 refine fK [0,1,2,4,5,7,10,13,14,15,16,32,36] Tryz.func148 Tryz.ntmps148 AH ?_;rintro w0 O0 ⟨⟨t,l⟩,n,u⟩ d ⟨⟨-,⟨hl,-⟩⟩,-⟩ -;simp only[AO]at hl;simp only[Xe,AM];repeat'(first|exact trivial|apply eS rfl|refine rX d ?_ ?_|refine rC ?_ ?_<;>intro b<;>try(cases b;done))
 .have h1:GE (t,l) n=2:=BY b;exact fI d [.tmp 4] (by rw[h1];exact eR)
 have h0:GE (t,l) n=F6 n [] l:=As (AE3.2 b);rw[h0];refine AK (ι:={k:Nat//k<=List.length l/\F6 n [] l=F6 n ((l:List (Int×Int)).take k) ((l:List (Int×Int)).drop k)}) (λk=>⟨[(1,.p T3 n),(5,.mp 11),(13,.p Cm l),(14,.p (.int .i64) (List.length l:Int)),(15,.p (.int .i64) (k.1:Int))],[(11,.mapo T3 .bool (j6 ((l:List (Int×Int)).take k.1)))]⟩) (λk=>List.length l-k.1) ⟨0,NO _,rfl⟩ (AC [(11,.nm 11)] rfl rfl ?_ ?_) (λk=>?_)
 .refine eM ?_;rfl
 .exact eN
 obtain⟨k,hk,f⟩:=k;have g:=λh:k<l.length=>PP n l h;have o:=λh:k<l.length=>KF (λ(m:List (Int×Bool)) (a:Int×Int)=>Fl T3 .bool a.1 true m) l (0,0) [] h;have i:=λx=>A1l x (List.take k (l:List (Int×Int)));simp only;repeat'(first|exact trivial|apply eS rfl|apply AB|refine rX d ?_ ?_|refine rC ?_ ?_<;>intro b<;>try(cases b;done))
 .exact b
 .have c:k<List.length l:=by exact eV
  have e:F6 n [] l=2:=by rw[f,g c,BY (by omega)]
  exact fI d [.tmp 4] (by rw[e];exact eR)
 .have c:k<List.length l:=by exact eV
  rw[i]at b;have e:F6 n [] l=4:=by rw[f,g c,As (by omega),BY b]
  exact fI d [.tmp 4] (by rw[e];exact eR)
 .exact eV
 .have c:k<List.length l:=by exact eV
  rw[i]at b;refine⟨⟨k+1,c,by rw[f,g c,As (by omega),As (by rw[b];simp)]⟩,by simp only;omega,AC [(11,.nm 11)] rfl rfl ?_ ?_⟩
  .refine eM ?_;exact(o c).symm
  exact eN
 have j:List.drop k (l:List (Int×Int))=[]:=RC (by exact eV);have e:F6 n [] l=0:=by rw[f,j];rfl
 exact fI d [.tmp 4] (by rw[e];exact eR)
theorem j7 {n:Int}:∀ {l seen:List (Int×Int)},F6 n seen l=0->(∀a∈l,∀b∈seen,b.1≠a.1)/\NdA l
 | [],_,_=>⟨λa ha=>(by cases ha),List.Pairwise.nil⟩
 | x :: l,seen,h=>by
  simp only[F6]at h;split at h
  .cases h
  split at h
  .cases h
  rename_i h1 g;obtain⟨c,f⟩:=j7 h;refine⟨λa ha b d=>?_,Rb.2 ⟨λa ha e=>c a ha x (by simp) e,f⟩⟩;rcases DO.1 ha with rfl|ha
  .intro e;exact g (RT.2 ⟨b,d,by simp[e]⟩)
  exact c a ha b (by simp[d])
theorem j8 {m:Int}:∀ {f:List AD},GQ m f=0->∀x∈f,NdA x.2
 | [],_,x,hx=>by cases hx
 | y :: f,h,x,hx=>by
  simp only[GQ]at h;split at h
  .cases h
  split at h
  .rename_i h1 a;exact absurd h a
  rename_i h1 a;have a:GP y.2 m=0:=FT a;rcases DO.1 hx with rfl|hx
  .exact(j7 a).2
  exact j8 h x hx
def EK (f:List AD):Prop:=∀x∈f,x.2.length<=200
theorem j9 {f:List AD} (h:CE f=0) (hs:EK f):NdF f:=by
 unfold CE at h;split at h
 .cases h
 split at h
 .cases h
 exact λx hx=>⟨j8 h x hx,hs x hx⟩
def LO:AZ:={ ins:=[DE],pre:=λ(f,_)=>EK f,out:=λ(f,_)=>[.p DE (A0 f).1,.p GI (A0 f).2] }
attribute [local go_sem] LO
theorem Sj:Af Tryz.prog 107 LO:=by
 refine fK [0,1,2,3,5,6,10,15,18,19,20,21,30] Tryz.func107 Tryz.ntmps107 (AF pA (AF SX AH)) ?_;rintro w0 O0 ⟨f,u⟩ c ⟨⟨n,-⟩,-⟩ hs;simp only[AO]at n;have hs:EK f:=hs;have l:SS f:=λx hx=>RG (hs x hx) (by omega);simp only[LO,AM];repeat'(first|exact trivial|apply eS rfl|refine rX c ?_ ?_|refine rC ?_ ?_<;>intro a<;>try(cases a;done))
 .have h1:CE f=1:=by
   have h:f.length=0:=by exact eV
   unfold CE;rw[BY h]
  have e:A0 f=([],1):=by unfold A0;rw[h1];rfl
  exact fI c [.cell 2 25,.tmp 3] (by rw[e];exact eR)
 .have h1:CE f=7:=by
   have h:¬f.length=0:=by exact eV
   have i:4096<f.length:=by exact eV
   unfold CE;rw[As h,BY i]
  have e:A0 f=([],7):=by unfold A0;rw[h1];rfl
  exact fI c [.cell 2 25,.tmp 3] (by rw[e];exact eR)
 have h1:CE f=GQ f.length f:=by
  have h:¬f.length=0:=by exact eV
  have i:¬4096<f.length:=by exact eV
  unfold CE;rw[As h,As i]
 have j:0<f.length:=by exact eV
 refine AK (ι:={k:Nat//k<=f.length/\GQ f.length (f.drop k)=CE f}) (λk=>⟨[(1,.bp 1 [] 0),(2,.bp 2 [] 0),(18,.p G2 f),(19,.p (.int .i64) (f.length:Int)),(20,.p (.int .i64) (k.1:Int))],[(1,.box 25 true [.p G2 f]),(2,.box 25 true [.raw (.slice none 0 0)])]⟩) (λk=>f.length-k.1) ⟨0,by simp[h1]⟩ (eW [(1,.nm 1),(2,.nm 2)]) (λk=>?_)
 obtain⟨k,hk,hf⟩:=k;simp only;repeat'(first|exact trivial|apply eS rfl|apply AB|refine rX c ?_ ?_|refine rC ?_ ?_<;>intro a<;>try(cases a;done))
 .exact a
 .have g:k<f.length:=by exact eV
  have a:¬GE (f.getD k (0,[])) f.length=0:=a;have m:CE f=GE (f.getD k (0,[])) f.length:=by
   rw[<-hf,IW _ _ g];unfold GE at a ⊢;by_cases b:(f.getD k (0,[])).1<0
   .rw[BY b,BY b]
   rw[As b]at a;rw[As b,As b,BY a]
  have e:A0 f=([],GE (f.getD k (0,[])) f.length):=by unfold A0;rw[m,As a]
  exact fI c [.cell 2 25,.tmp 3] (by rw[e];exact eR)
 .exact eV
 .have g:k<f.length:=by exact eV
  have a:GE (f.getD k (0,[])) f.length=0:=by simpa using a
  refine⟨⟨k+1,g,?_⟩,by simp only;omega,AC [(1,.nm 1),(2,.nm 2)] rfl rfl ?_ ?_⟩
  .rw[<-hf,IW _ _ g];unfold GE at a;by_cases b:(f.getD k (0,[])).1<0
   .rw[BY b]at a;cases a
   rw[As b]at a;rw[As b,As (by rw[a];simp)]
  .exact eN
  exact eN
 .have d:CE f=0:=by rw[<-hf,RC (by exact eV)];rfl
  exact⟨(IY d l).1,j9 d hs,IN.2 j⟩
 have d:CE f=0:=by rw[<-hf,RC (by exact eV)];rfl
 have e:A0 f=(AL (Di f) 0,0):=by unfold A0;rw[BY d,i7 (IY d l).1 (j9 d hs) (ADC 0) (IN.2 j)]
 exact fI c [.cell 2 25,.tmp 3] (by rw[e];exact eR)
end
def Q0 (h:AG) (f:Int):Int:=(h.2.getD f.toNat (ByteArray.empty,0)).2
def Xf (h:AG) (n:Int):List (Int×Int)->Y1->Option Y1
 | [],s=>some s
 | a :: l,s=>(HQ h s n (Q0 h a.1)).bind (Xf h n l)
def YS (h:AG) (n:Int):List (Int×Int)->Y1->Option Y1
 | [],s=>some s
 | a :: l,s=>if (EZ h (s.1.getD n.toNat 0) a.1).2=true then (HQ h s a.2 (EZ h (s.1.getD n.toNat 0) a.1).1).bind (YS h n l) else none
def UA (h:AG) (f:List AD) (n:Int) (s:Y1):Option Y1:=(Xf h n (f.getD n.toNat (0,[])).2 s).bind (YS h n (f.getD n.toNat (0,[])).2)
def wlF (h:AG) (f:List AD):Nat->Nat->Y1->Option (List Int)
 | 0,_,_=>none
 | k+1,i,s=>if i<s.2.length then (UA h f (s.2.getD i 0) s).bind (wlF h f k (i+1)) else some s.1
def Dk (f:List AD):List Int:=f.map λx=>x.1
def UB (f:List AD):List Int:=(List.range f.length).map λi:Nat=>(i:Int)
def Fg (f:List AD) (ty:List Int):List AD:=(List.range f.length).map λi=>(ty.getD i 0,(f.getD i (0,[])).2)
structure HFt (h:AG):Prop where
 int:∀x∈h.2,0<=x.2/\x.2<(h.1.length:Int)
 val:∀t∈h.1,∀p∈t.2.2.2,0<=p.2/\p.2<(h.1.length:Int)
structure Q1 (h:AG) (m:Nat) (s:Y1):Prop where
 len:s.1.length=m
 ty:∀t∈s.1,0<=t/\t<(h.1.length:Int)
 wt:∀n∈s.2,0<=n/\n<(m:Int)
theorem Q1.get {h:AG} {m:Nat} {s:Y1} (hs:Q1 h m s) {n:Int} (n0:0<=n) (n1:n<(m:Int)):0<=s.1.getD n.toNat 0/\s.1.getD n.toNat 0<(h.1.length:Int):=by
 have hl:n.toNat<s.1.length:=by rw[hs.len];omega
 rw[AS,AT hl];exact hs.ty _ (S3 hl)
def A1m (h:AG) (t:Int):Nat:=((List.range h.1.length).filter λi:Nat=>Av h t (i:Int)).length
def y4 (h:AG) (ty:List Int):Nat:=(ty.map (A1m h)).sum
theorem Zm {α:Type} {p q:α->Bool}:∀ {l:List α},(∀x∈l,q x=true->p x=true)->(∃b∈l,p b=true/\q b=false)->(l.filter q).length<(l.filter p).length
 | [],_,⟨b,c,_⟩=>by cases c
 | x :: l,h1,⟨b,c,f,g⟩=>by
  have h:∀ {l:List α},(∀x∈l,q x=true->p x=true)->(l.filter q).length<=(l.filter p).length:=by
   intro l hl;induction l with
   | nil=>exact If _
   | cons y l i =>
    have e:=i λz d=>hl z (IF _ d);rw[AAf,AAf];by_cases a:q y=true
    .rw[BY a,BY (hl y (by simp) a)];simp only[No];omega
    rw[As a];split
    .simp only[No];omega
    exact e
  rw[AAf,AAf];rcases DO.1 c with rfl|c
  .rw[As (by rw[g];simp),BY f];have:=h λz d=>h1 z (IF _ d);simp only[No];omega
  have e:=Zm (λz d=>h1 z (IF _ d)) ⟨b,c,f,g⟩;by_cases a:q x=true
  .rw[BY a,BY (h1 x (by simp) a)];simp only[No];omega
  rw[As a];split
  .simp only[No];omega
  exact e
theorem U0 {h:AG} (hk:HX h) {a:Int} (b:0<=a) (c:a<(h.1.length:Int)):Av h a a=true:=(Be hk b c b c).2 λ_ h=>h
theorem LP {h:AG} (hk:HX h) {a b c:Int} (d:0<=a) (e:a<(h.1.length:Int)) (f:0<=b) (b1:b<(h.1.length:Int)) (c0:0<=c) (c1:c<(h.1.length:Int)) (h1:Av h a b=true) (g:Av h b c=true):Av h a c=true :=
 (Be hk d e c0 c1).2 λi hi=>(Be hk d e f b1).1 h1 i ((Be hk f b1 c0 c1).1 g i hi)
theorem A8a {h:AG} (hk:HX h) (hi:Nk h) {a m:Int} (b:0<=a) (c:a<(h.1.length:Int)) (d:0<=m) (f:m<(h.1.length:Int)) (hs:Av h a m=true) (g:m≠a):A1m h m<A1m h a:=by
 refine Zm (λx hx e=>?_) ⟨a.toNat,RY.2 (by omega),?_,?_⟩
 .have hx:=RY.1 hx;exact LP hk b c d f (ADD _) (by omega) hs e
 .rw[AEa b];exact U0 hk b c
 rw[AEa b];cases e:Av h m a with
 | false=>rfl
 | true=>exact absurd (hi m a d f b c e hs) g
theorem y5 {α:Type} (g:α->Nat) (d:α):∀ {l:List α} {i:Nat} {v:α},i<l.length->((l.set i v).map g).sum+g (l.getD i d)=(l.map g).sum+g v
 | [],i,v,h=>by simp at h
 | x :: l,0,v,h=>by simp only[AEV,RS,List.sum_cons,List.getD_cons_zero];omega
 | x :: l,i+1,v,h=>by
  have:=y5 g d (l:=l) (i:=i) (v:=v) (by simpa using h);simp only[AFg,RS,List.sum_cons,List.getD_cons_succ];omega
theorem Gk {h:AG} (hk:HX h) (hi:Nk h) {m:Nat} {s a:Y1} (hs:Q1 h m s) {n t:Int} (n0:0<=n) (n1:n<(m:Int)) (k:0<=t) (l:t<(h.1.length:Int)) (e:HQ h s n t=some a) :
  Q1 h m a/\y4 h a.1+a.2.length<=y4 h s.1+s.2.length/\s.2.length<=a.2.length:=by
 obtain⟨b,c⟩:=hs.get n0 n1;unfold HQ at e;split at e
 .rename_i g;obtain⟨d,f,j,p⟩:=(IU hk b c k l).1 g;generalize (Ba h (s.1.getD n.toNat 0) t).1=v at *;injection e with e
  split at e
  .subst e;exact⟨hs,If _,If _⟩
  rename_i i;subst e;have o:=A8a hk hi b c d f j i;have hl:n.toNat<s.1.length:=by rw[hs.len];omega
  have hp:=y5 (A1m h) 0 (v:=v) hl;refine⟨⟨by simp only[aT];exact hs.len,λx hx=>?_,λx hx=>?_⟩,?_,by simp⟩
  .rcases AEc hx with hx|rfl
   .exact hs.ty x hx
   exact⟨d,f⟩
  .rcases Is.1 hx with hx|hx
   .exact hs.wt x hx
   rw[RM.1 hx];exact⟨n0,n1⟩
  unfold y4;simp only[By,IS];omega
 cases e
def Mm (h:AG) (m:Nat) (a:Int×Int):Prop:=(0<=a.1/\a.1<(h.2.length:Int))/\0<=a.2/\a.2<(m:Int)
theorem Q2 {h:AG} (hf:HFt h) {f:Int} (a:0<=f) (b:f<(h.2.length:Int)):0<=Q0 h f/\Q0 h f<(h.1.length:Int):=by
 have hl:f.toNat<h.2.length:=by omega
 unfold Q0;rw[AS,AT hl];exact hf.int _ (S3 hl)
theorem Zn {f:Int}:∀ {l:List (Int×Int)},(j5 f l).2=true->(f,(j5 f l).1)∈l
 | [],h=>by cases h
 | x :: l,h=>by
  unfold j5 at h ⊢;split
  .rename_i e;rw[<-e];simp
  rename_i e;rw[As e]at h;exact IF _ (Zn h)
theorem A1n {h:AG} {t:Int} (a:0<=t) (b:t<(h.1.length:Int)):h.1.getD t.toNat SL∈h.1:=AE h.1 SL (by omega)
theorem Mn {h:AG} (hf:HFt h) {t f:Int} (a:0<=t) (b:t<(h.1.length:Int)) (e:(EZ h t f).2=true):0<=(EZ h t f).1/\(EZ h t f).1<(h.1.length:Int) :=
 hf.val _ (A1n a b) _ (Zn e)
theorem Q3 {h:AG} (hk:HX h) (hi:Nk h) (hf:HFt h) {m:Nat} {n:Int} (n0:0<=n) (n1:n<(m:Int)):∀ {l:List (Int×Int)} {s c:Y1},(∀a∈l,Mm h m a)->Q1 h m s->Xf h n l s=some c ->
  Q1 h m c/\y4 h c.1+c.2.length<=y4 h s.1+s.2.length/\s.2.length<=c.2.length
 | [],s,c,_,hs,e=>by
  injection e with e
  subst e;exact⟨hs,If _,If _⟩
 | a :: l,s,c,hl,hs,e=>by
  unfold Xf at e;cases e1:HQ h s n (Q0 h a.1) with
  | none=>rw[e1]at e;cases e
  | some s1 =>
   rw[e1]at e;obtain⟨⟨d,f⟩,-⟩:=hl a (by simp);obtain⟨j,k⟩:=Q2 hf d f;obtain⟨g,p,q⟩:=Gk hk hi hs n0 n1 j k e1;obtain⟨o,r,t⟩:=Q3 hk hi hf n0 n1 (λb i=>hl b (by simp[i])) g e;exact⟨o,by omega,by omega⟩
theorem VA {h:AG} (hk:HX h) (hi:Nk h) (hf:HFt h) {m:Nat} {n:Int} (n0:0<=n) (n1:n<(m:Int)):∀ {l:List (Int×Int)} {s c:Y1},(∀a∈l,Mm h m a)->Q1 h m s->YS h n l s=some c ->
  Q1 h m c/\y4 h c.1+c.2.length<=y4 h s.1+s.2.length/\s.2.length<=c.2.length
 | [],s,c,_,hs,e=>by
  injection e with e
  subst e;exact⟨hs,If _,If _⟩
 | a :: l,s,c,hl,hs,e=>by
  unfold YS at e;split at e
  .rename_i j;obtain⟨g,d⟩:=hs.get n0 n1;obtain⟨k,o⟩:=Mn hf g d j;cases e1:HQ h s a.2 (EZ h (s.1.getD n.toNat 0) a.1).1 with
   | none=>rw[e1]at e;cases e
   | some s1 =>
    rw[e1]at e;obtain⟨-,f,b1⟩:=hl a (by simp);obtain⟨d,q,r⟩:=Gk hk hi hs f b1 k o e1;obtain⟨p,t,u⟩:=VA hk hi hf n0 n1 (λb i=>hl b (by simp[i])) d e;exact⟨p,by omega,by omega⟩
  cases e
def Xg (h:AG) (f:List AD):Prop:=∀x∈f,∀a∈x.2,Mm h f.length a
theorem Q4 {h:AG} {f:List AD} (ha:Xg h f) {n:Int} (n0:0<=n) (n1:n<(f.length:Int)):∀a∈(f.getD n.toNat (0,[])).2,Mm h f.length a:=ha _ (AE f (0,[]) (by omega))
theorem kA {h:AG} (hk:HX h) (hi:Nk h) (hf:HFt h) {f:List AD} (ha:Xg h f) {n:Int} (n0:0<=n) (n1:n<(f.length:Int)) {s a:Y1} (hs:Q1 h f.length s) (e:UA h f n s=some a) :
  Q1 h f.length a/\y4 h a.1+a.2.length<=y4 h s.1+s.2.length/\s.2.length<=a.2.length:=by
 unfold UA at e;cases e1:Xf h n (f.getD n.toNat (0,[])).2 s with
 | none=>rw[e1]at e;cases e
 | some s1 =>
  rw[e1]at e;obtain⟨b,d,g⟩:=Q3 hk hi hf n0 n1 (Q4 ha n0 n1) hs e1;obtain⟨c,i,j⟩:=VA hk hi hf n0 n1 (Q4 ha n0 n1) b e;exact⟨c,by omega,by omega⟩
theorem A8b (h:AG) (t:Int):A1m h t<=h.1.length:=by
 unfold A1m;exact RG (AAw _ _) (by simp)
theorem A4l (h:AG):∀ty:List Int,y4 h ty<=ty.length*h.1.length
 | []=>by simp[y4]
 | t :: ty=>by
  have h1:=A4l h ty;have a:=A8b h t;unfold y4 at h1 ⊢;simp only[RS,List.sum_cons,No,AF0,Nat.one_mul];omega
def Zo (h:AG) (f:List AD):Nat:=f.length*h.1.length+f.length+1
def Jn (h:AG) (f:List AD):Option (List Int):=wlF h f (Zo h f) 0 (Dk f,UB f)
def Sk (h:AG) (f:List AD):List AD×Bool:=match Jn h f with
 | some ty=>(Fg f ty,true)
 | none=>([],false)
theorem A91 {h:AG} {f:List AD} (a:∀x∈f,0<=x.1/\x.1<(h.1.length:Int)):Q1 h f.length (Dk f,UB f):=by
 refine⟨by simp[Dk],λt h1=>?_,λn hn=>?_⟩
 .obtain⟨x,hx,rfl⟩:=GO.1 h1;exact a x hx
 obtain⟨i,hi,rfl⟩:=GO.1 hn;have:=RY.1 hi;omega
theorem A9Y (h:AG) (f:List AD):y4 h (Dk f)+(UB f).length+1<=Zo h f:=by
 have:=A4l h (Dk f);unfold Zo;rw[show (Dk f).length=f.length by simp[Dk]]at this;rw[show (UB f).length=f.length by simp[UB]];omega
section
attribute [local go_sem] LO Wp
end
section
attribute [local go_sem] Wp
def Sl (h:AG) (f:List AD) (t:Int):List (Int×Int)->Int
 | []=>0
 | a :: l=>if (EZ h t a.1).2=false then 10 else if Av h (EZ h t a.1).1 (f.getD a.2.toNat (0,[])).1=false then 11 else Sl h f t l
def Mo (h:AG) (f:List AD):List AD->Int
 | []=>0
 | x :: l=>if Sl h f x.1 x.2=0 then Mo h f l else Sl h f x.1 x.2
def c8 (h:AG) (f:List AD):Int:=if Hg h f=0 then Mo h f f else Hg h f
end
section
attribute [local go_sem] LN QV
theorem A4m {h:AG} (hk:HX h) {a b:Int} (c:0<=a) (d:a<(h.1.length:Int)) (e:0<=b) (b1:b<(h.1.length:Int)):Eu (BQ h b) (BQ h a)=Av h a b:=by
 have f:=hk.1.wds _ (Br c d);have g:=hk.1.wds _ (Br e b1);rw[AEN,Wk g f];exact(Be hk c d e b1).symm
def c9:AZ:={ ins:=[Dn,T3,T3],pre:=λ(h,a,b,_)=>(((0:Int)<=a/\a<(List.length (h:AG).1:Int))/\((0:Int)<=b/\b<(List.length (h:AG).1:Int)))/\HX h,out:=λ(h,a,b,_)=>[.p .bool (Av h a b)],lend:=true }
attribute [local go_sem] c9
theorem A4n:Af Tryz.prog 104 c9:=by
 refine fK [0,1,2,3,6] Tryz.func104 Tryz.ntmps104 (AF SA AH) ?_;rintro w0 O0 ⟨⟨e,hf⟩,a,b,u⟩ d-⟨⟨ha,c⟩,hk⟩;have hk:HX (e,hf):=hk;have f:=A4m hk ha.1 ha.2 c.1 c.2;have g:(BQ (e,hf) b).length<=100000:=RG (hk.1.wid _ (Br c.1 c.2)) (by omega);simp only[c9,AM];repeat'(first|exact trivial|apply eS rfl|refine rX d ?_ ?_)
 .exact⟨c,ha,g⟩
 exact fI d [.tmp 6] (by rw[<-f];unfold BQ;exact eR)
end
section
open Go
end
theorem ER (f:List AD) (ty:List Int):(Fg f ty).length=f.length:=by simp[Fg]
theorem KP (f:List AD) (ty:List Int) {i:Nat} (h:i<f.length):(Fg f ty).getD i (0,[])=(ty.getD i 0,(f.getD i (0,[])).2):=by
 unfold Fg;simp[AS,h]
section
open Go
end
structure MI (m:List (Int×Bool)) (l:List Bool):Prop where
 nd:(m.map (·.1)).Nodup
 get:∀k:Int,BT T3 .bool k m=if 0<=k/\l.getD k.toNat false=true then some true else none
theorem y6 (k:Int) (v:Bool):∀ {m:List (Int×Bool)},(m.map (·.1)).Nodup->((Fl T3 .bool k v m).map (·.1)).Nodup/\∀x,x∈(Fl T3 .bool k v m).map (·.1)->x=k\/x∈m.map (·.1)
 | [],_=>by simp[Fl]
 | y :: m,h=>by
  rw[RS,TO]at h;unfold Fl;split
  .rename_i e;have e:k=y.1:=by simpa[Ik] using e
   refine⟨?_,λx hx=>?_⟩
   .rw[RS,TO,e];exact h
   rcases DO.1 hx with hx|hx
   .exact .inl hx
   exact .inr (IF _ hx)
  rename_i e;have e:¬k=y.1:=by simpa[Ik] using e
  obtain⟨b,a⟩:=y6 k v h.2;refine⟨?_,λx hx=>?_⟩
  .rw[RS,TO];refine⟨λc=>?_,b⟩;rcases a _ c with hx|hx
   .exact e hx.symm
   exact h.1 hx
  rcases DO.1 hx with hx|hx
  .exact .inr (by rw[hx];simp)
  exact(a x hx).imp id λg=>IF _ g
theorem kB (k:Int):∀m:List (Int×Bool),(mT T3 .bool k m).Sublist m
 | []=>List.Sublist.refl _
 | y :: m=>by
  unfold mT;split
  .exact List.sublist_cons_self _ _
  exact(kB k m).cons_cons _
theorem Zp {x:Int}:∀ {m:List (Int×Bool)},x∉m.map (·.1)->BT T3 .bool x m=none
 | [],_=>rfl
 | y :: m,h=>by
  unfold BT;rw[As (by
   intro e;have e:x=y.1:=by simpa[Ik] using e
   exact h (by rw[e];simp))]
  exact Zp λa=>h (IF _ a)
theorem Zq (x k:Int):∀ {m:List (Int×Bool)},(m.map (·.1)).Nodup->BT T3 .bool x (mT T3 .bool k m)=if x=k then none else BT T3 .bool x m
 | [],_=>by simp[mT,BT]
 | y :: m,h=>by
  rw[RS,TO]at h;unfold mT;split
  .rename_i e;have e:k=y.1:=by simpa[Ik] using e
   by_cases hx:x=k
   .rw[BY hx,hx,e];exact Zp h.1
   rw[As hx];have b:¬x=y.1:=by rw[<-e];exact hx
   simp[BT,Ik,b]
  rename_i e;have e:¬k=y.1:=by simpa[Ik] using e
  have d:=Zq x k h.2;by_cases a:x=y.1
  .have c:¬x=k:=by rw[a];exact λg=>e g.symm
   rw[As c];simp[BT,Ik,a]
  have hn:¬Ik T3 x y.1=true:=by simpa[Ik] using a
  simp only[BT];rw[As hn,As hn,d]
theorem MI.zero:MI [] (List.replicate 0 true):=⟨List.nodup_nil,λk=>by simp[BT]⟩
theorem MI.put {m:List (Int×Bool)} {i:Nat} (h:MI m (List.replicate i true)):MI (Fl T3 .bool (i:Int) true m) (List.replicate (i+1) true):=by
 refine⟨(y6 _ _ h.nd).1,λ(k:Int)=>?_⟩;rw[Xd,h.get];by_cases hk:k=(i:Int)
 .rw[BY hk,BY];subst hk;refine⟨ADD _,?_⟩;simp[AS,AEk]
 rw[As hk];have e:(0<=k/\(List.replicate i true).getD k.toNat false=true)↔(0<=k/\(List.replicate (i+1) true).getD k.toNat false=true):=by
  simp only[AS,AEk];constructor
  .rintro⟨a,b⟩;refine⟨a,?_⟩;split at b
   .rw[BY (by omega)];rfl
   simp at b
  rintro⟨a,b⟩;refine⟨a,?_⟩;split at b
  .rw[BY (by omega)];rfl
  simp at b
 by_cases c:0<=k/\(List.replicate i true).getD k.toNat false=true
 .rw[BY c,BY (e.1 c)]
 rw[As c,As λg=>c (e.2 g)]
theorem MI.del {m:List (Int×Bool)} {l:List Bool} (h:MI m l) (i:Nat):MI (mT T3 .bool (i:Int) m) (l.set i false):=by
 refine⟨h.nd.sublist ((kB _ m).map _),λ(k:Int)=>?_⟩;rw[Zq _ _ h.nd,h.get];by_cases hk:k=(i:Int)
 .subst hk;rw[BY rfl,As];rintro⟨-,b⟩;rw[RK]at b;simp only[AS,ADt]at b;rw[BY trivial]at b;split at b<;>simp at b
 rw[As hk];by_cases a:0<=k
 .have c:¬i=k.toNat:=by omega
  simp only[AS,ADt];rw[As c]
 rw[As λg=>a g.1,As λg=>a g.1]
theorem NZ {x:Int}:∀ {m:List (Int×Bool)},x∈m.map (·.1)->BT T3 .bool x m≠none
 | y :: m,h=>by
  unfold BT;split
  .simp
  rename_i e;rcases DO.1 h with h|h
  .exact absurd (by simp[Ik,h]) e
  exact NZ h
theorem MI.len {m:List (Int×Bool)} {l:List Bool} (h:MI m l):m.length<=l.length:=by
 have h1:((m.map (·.1)).map Int.toNat).Nodup:=by
  rw[List.Nodup,AAe];refine h.nd.imp_of_mem λ{a b:Int} ha d i e=>i ?_;have h1:=NZ ha;have c:=NZ d;rw[h.get]at h1 c;have k:0<=a:=FT λg=>h1 (As λq=>g q.1);have n:0<=b:=FT λg=>c (As λq=>g q.1);omega
 have:=EM l.length _ h1 (λj f=>by
  obtain⟨x,hx,rfl⟩:=GO.1 f;have h1:=NZ hx;rw[h.get]at h1;refine FT λhn=>h1 (As λg=>?_);have:=g.2;rw[AS,RP (by omega)]at this;cases this)
 simpa using this
section
open Go
end
def A1o (N:List AD) (i:Nat) (v:Int×Int):List AD:=N.set i ((N.getD i (0,[])).1,(N.getD i (0,[])).2++[(v.1,(N.length:Int))])++[(v.2,[])]
theorem A4o (N:List AD) (i:Nat) (v:Int×Int):(A1o N i v).length=N.length+1:=by simp[A1o]
structure TI2 (h:AG) (m i k:Nat) (N:List AD):Prop where
 len:N.length<=m
 ty:∀x∈N,0<=x.1/\x.1<(h.1.length:Int)
 lo:∀j,j<i->(N.getD j (0,[])).2.length<=200
 at':(N.getD i (0,[])).2.length<=100+k
 hi:∀j,i<j->(N.getD j (0,[])).2.length<=100
theorem A4p {α:Type} (l:List α) (x d:α) (j:Nat):(l++[x]).getD j d=if j<l.length then l.getD j d else if j=l.length then x else d:=by
 simp only[AS];by_cases h:j<l.length
 .rw[BY h,RZ h]
 rw[As h,RW (by omega)];by_cases e:j=l.length
 .rw[BY e,e,AE5];rfl
 rw[As e,RP (by simp only[IS];omega)];rfl
theorem Na {α:Type} (l:List α) (x d:α) {i:Nat} (h:i<l.length) (j:Nat):(l.set i x).getD j d=if j=i then x else l.getD j d:=by
 simp only[AS,ADt];by_cases e:i=j
 .rw[BY e,BY h,BY e.symm];rfl
 rw[As e,As (show ¬j=i by omega)]
theorem A4q {N:List AD} {i:Nat} (h:i<N.length) (v:Int×Int) (j:Nat):(A1o N i v).getD j (0,[])=if j=i then ((N.getD i (0,[])).1,(N.getD i (0,[])).2++[(v.1,(N.length:Int))]) else if j=N.length then (v.2,[]) else N.getD j (0,[]):=by
 unfold A1o;rw[A4p,Na _ _ _ h,aT];by_cases e1:j=i
 .rw[BY e1,BY (by omega),BY e1]
 rw[As e1,As e1];by_cases e2:j<N.length
 .rw[BY e2,As (by omega)]
 rw[As e2];by_cases a:j=N.length
 .rw[BY a,BY a]
 rw[As a,As a,AS,RP (by omega)];rfl
theorem TI2.add {h:AG} {m i k:Nat} {N:List AD} (a:TI2 h m i k N) (hi:i<N.length) (d:4096<=m) (hl:N.length<4096) {v:Int×Int} (v0:0<=v.2) (v1:v.2<(h.1.length:Int)):TI2 h m i (k+1) (A1o N i v):=by
 have b:=λj=>A4q hi v j;refine⟨by rw[A4o];omega,λx hx=>?_,λj c=>?_,?_,λj c=>?_⟩
 .unfold A1o at hx;rcases Is.1 hx with hx|hx
  .rcases AEc hx with hx|rfl
   .exact a.ty x hx
   exact(a.ty (N.getD i (0,[])) (AE N (0,[]) hi) :)
  rw[RM.1 hx];exact⟨v0,v1⟩
 .rw[b,As (by omega),As (by omega)];exact a.lo j c
 .rw[b,BY rfl];have:=a.at';simp only[By,IS];omega
 rw[b,As (by omega)];split
 .simp
 exact a.hi j c
theorem TI2.skip {h:AG} {m i k:Nat} {N:List AD} (a:TI2 h m i k N):TI2 h m i (k+1) N:=⟨a.len,a.ty,a.lo,by have:=a.at';omega,a.hi⟩
theorem TI2.next {h:AG} {m i k:Nat} {N:List AD} (a:TI2 h m i k N) (hk:k<=100):TI2 h m (i+1) 0 N:=⟨a.len,a.ty,λj b=>by
 by_cases e:j=i
 .have:=a.at';rw[e];omega
 exact a.lo j (by omega),a.hi (i+1) (by omega),λj b=>a.hi j (by omega)⟩
section
attribute [local go_sem] LO
attribute [local go_sem] A2L AAJ ne_eq not_false_eq_true
end
section
attribute [local go_sem] KE MT SM LN
end
theorem pB (d:List AJ):Nd ((A1 d).1.1.map λt=>t.2.1):=by
 unfold A1;split
 .exact⟨.nil,λc h=>(by cases h)⟩
 rename_i a;have a:(BX d).2=0:=FT a;have g:BW d=0:=by
  unfold BX at a;split at a
  .rename_i h;exact absurd a h
  rename_i h;exact FT h
 obtain⟨l,-,-⟩:=Cg g;obtain⟨f,n,-⟩:=Bq l;have hf:Nd (A6 (Ah d)):=cQ (Za f);have e:((G9 d).1.map λt=>t.2.1)=(A2 d).map λx=>x.2:=by
  show ((FH _ _ _).map λt=>t.2.1)=_;unfold FH;rw[nO];apply iS
  .simp
  intro i h1 m;simp[AS,show i<(A2 d).length by simpa using h1]
 show Nd ((G9 d).1.map λt=>t.2.1);rw[e];refine⟨Mi (by simpa using hf.nd),λc k=>?_⟩;obtain⟨x,hx,rfl⟩:=GO.1 k;obtain⟨b,j,rfl⟩:=D5.1 hx;exact hf.nrm b j
section
open Go
end
structure CI (n:Nat) (o:List Int) (ar:List (List (Int×Int))) (W:List (Int×Int)):Prop where
 lo:o.length=n
 la:ar.length=n
 rep:∀k:Nat,k<n->0<=o.getD k 0/\o.getD k 0<=(k:Int)/\o.getD (o.getD k 0).toNat 0=o.getD k 0
 wr:∀w∈W,(0<=w.1/\w.1<(n:Int))/\(0<=w.2/\w.2<(n:Int))
 ta:∀k,∀a∈ar.getD k [],0<=a.2/\a.2<(n:Int)
theorem CI.rng {n:Nat} {o:List Int} {ar:List (List (Int×Int))} {W:List (Int×Int)} (h:CI n o ar W) {x:Int} (c:0<=x) (d:x<(n:Int)):0<=o.getD x.toNat 0/\o.getD x.toNat 0<(n:Int)/\o.getD (o.getD x.toNat 0).toNat 0=o.getD x.toNat 0:=by
 obtain⟨h1,b,a⟩:=h.rep x.toNat (by omega);exact⟨h1,by omega,a⟩
section
variable {n:Nat} {o:List Int} {ar:List (List (Int×Int))} {W:List (Int×Int)} {x y:Int}
end
section
attribute [local go_sem] WJ A31
def JN (b:List Int):List F4->Nat->Int×Bool
 | [],_=>(0,false)
 | t :: r,k=>if t.2.1=b then ((k:Int),true) else JN b r (k+1)
def pC:AZ:={ ins:=[Dn,BG],pre:=λ_=>True,out:=λ(h,b,_)=>[.p T3 (JN b (h:AG).1 0).1,.p .bool (JN b (h:AG).1 0).2],lend:=true }
attribute [local go_sem] pC
theorem A4r:Af Tryz.prog 115 pC:=by
 refine fK [0,1,2,4,5,6,11,21] Tryz.func115 Tryz.ntmps115 (AF bJ AH) ?_;rintro w0 O0 ⟨⟨l,hf⟩,b,u⟩ d ⟨⟨⟨hl,-⟩,-⟩,-⟩ -;simp only[AO]at hl;simp only[pC,AM];repeat'(first|exact trivial|apply eS rfl|refine rX d ?_ ?_)
 refine AK (ι:={k:Nat//k<=List.length l/\JN b (List.drop k l) k=JN b l 0}) (λk=>⟨[(1,.p BG b),(2,.bp 2 [] 0),(6,.p (.int .i64) (k.1:Int))],[(2,.box 31 true [.p lF l,.p rE hf])]⟩) (λk=>List.length l-k.1) ⟨0,by simp⟩ (eW [(2,.nm 2)]) (λk=>?_)
 obtain⟨k,hk,a⟩:=k;have f:k<List.length l->(if (List.getD l k SL).2.1=b then ((k:Int),true) else JN b (List.drop (k+1) l) (k+1))=JN b l 0:=λh=>by
  rw[Of h]at a;rw[AS,AT h];exact a
 repeat'(first|exact trivial|apply eS rfl|apply AB|refine rX d ?_ ?_|refine rC ?_ ?_<;>intro c<;>try(cases c;done))
 .exact eV
 .have e:k<List.length l:=by exact eV
  have a:=f e;have c:(List.getD l k SL).2.1=b:=by simpa[IJ] using c
  rw[BY c]at a;exact fI d [.tmp 4,.tmp 5] (by rw[<-a];exact eR)
 .exact eV
 .have e:k<List.length l:=by exact eV
  have a:=f e;have c:¬(List.getD l k SL).2.1=b:=by simpa[IJ] using c
  rw[As c]at a;exact⟨⟨k+1,by omega,a⟩,by simp only;omega,eW [(2,.nm 2)]⟩
 have hk:List.drop k l=[]:=RC (by exact eV);rw[hk]at a;have a:(0,false)=JN b l 0:=a;exact fI d [.tmp 4,.tmp 5] (by rw[<-a];exact eR)
def Dl (h:AG) (a b:Int):Int×Bool:=JN (GJ (BQ h a) (BQ h b)) h.1 0
def Sm:AZ:={ ins:=[Dn,T3,T3],pre:=λ(h,a,b,_)=>((0:Int)<=a/\a<(List.length (h:AG).1:Int))/\((0:Int)<=b/\b<(List.length (h:AG).1:Int))/\(∀x∈(h:AG).1,x.2.1.length<=100000),out:=λ(h,a,b,_)=>[.p T3 (Dl h a b).1,.p .bool (Dl h a b).2],lend:=true }
attribute [local go_sem] Sm
theorem A4s:Af Tryz.prog 59 Sm:=by
 refine fK [0,1,2,3,6,7] Tryz.func59 Tryz.ntmps59 (AF A4r (AF nB AH)) ?_;rintro w0 O0 ⟨⟨c,hf⟩,a,b,u⟩ d-⟨ha,f,hx⟩;simp only[Sm,AM];have g:∀x:Int,0<=x/\x<(List.length c:Int)->List.length (BQ (c,hf) x)<=100000:=λx h1=>by
  have e:Int.toNat x<List.length c:=(AFD h1.1).2 h1.2;exact hx _ (AE (c:List F4) SL e)
 repeat'(first|exact trivial|apply eS rfl|refine rX d ?_ ?_)
 .refine⟨ha,f,?_⟩;exact g a ha
 exact fI d [.tmp 6,.tmp 7] (by unfold Dl BQ;exact eR)
end
section
attribute [local go_sem] Sm
def ADi (h:AG) (l:List AD) (c:List Int):Nat->Option (List Int)
 | 0=>some (List.replicate l.length 0)
 | i+1=>match ADi h l c i with
  | none=>none
  | some o=>if (Dl h (o.getD (c.getD i 0).toNat 0) (l.getD i (0,[])).1).2=true then some (o.set (c.getD i 0).toNat (Dl h (o.getD (c.getD i 0).toNat 0) (l.getD i (0,[])).1).1) else none
def A4t (h:AG) (l:List AD) (c:List Int):List Int×Bool:=match ADi h l c l.length with
 | none=>([],false)
 | some o=>((List.range l.length).map λ(k:Nat)=>o.getD (c.getD k 0).toNat 0,true)
def ADT (n:Nat) (c:List Int):Prop:=c.length=n/\∀k:Nat,k<n->0<=c.getD k 0/\c.getD k 0<=(k:Int)/\c.getD (c.getD k 0).toNat 0=c.getD k 0
def A4u:AZ:={ ins:=[Dn,G2,F1],pre:=λ(h,l,c,_)=>ADT (List.length l) c/\Cc h l/\0<List.length (h:AG).1/\List.length l<=100000/\(∀x∈(h:AG).1,x.2.1.length<=100000),out:=λ(h,l,c,_)=>[.p F1 (A4t h l c).1,.p .bool (A4t h l c).2] }
attribute [local go_sem] A4u
end
section
attribute [local go_sem] ZP
attribute [local go_sem] A2L AAJ ne_eq not_false_eq_true
end
inductive EQ (n:Nat) (o:List Int) (W:List (Int×Int)):Int->Int->Prop
 | cls {x y:Int} (x0:0<=x) (x1:x<(n:Int)) (y0:0<=y) (y1:y<(n:Int)) (h:o.getD x.toNat 0=o.getD y.toNat 0):EQ n o W x y
 | wt {x y:Int} (h:(x,y)∈W):EQ n o W x y
 | symm {x y:Int} (h:EQ n o W x y):EQ n o W y x
 | trans {x y z:Int} (h:EQ n o W x y) (g:EQ n o W y z):EQ n o W x z
theorem EQ.mono {n:Nat} {o b:List Int} {W a:List (Int×Int)} (h1:∀x y,0<=x->x<(n:Int)->0<=y->y<(n:Int)->o.getD x.toNat 0=o.getD y.toNat 0->EQ n b a x y) (c:∀x y,(x,y)∈W->EQ n b a x y) {x y:Int} (h:EQ n o W x y):EQ n b a x y:=by
 induction h with
 | cls g i j k h=>exact h1 _ _ g i j k h
 | wt h=>exact c _ _ h
 | symm _ d=>exact .symm d
 | trans _ _ e f=>exact .trans e f
theorem EQ.nil {n:Nat} {o:List Int} {x y:Int} (h:EQ n o [] x y):o.getD x.toNat 0=o.getD y.toNat 0:=by
 induction h with
 | cls _ _ _ _ h=>exact h
 | wt h=>cases h
 | symm _ a=>exact a.symm
 | trans _ _ b c=>exact b.trans c
section
variable {h:AG} {N:List AD} {P:List (Int×Int)} {o:List Int} {ar:List (List (Int×Int))} {W:List (Int×Int)} {w:Int×Int}
end
def pD (h:AG):Prop:=∀t∈h.1,Nrm t.2.1
theorem Xh {b:List Int}:∀ {l:List F4} {k:Nat},(JN b l k).2=true->∃j:Nat,j<l.length/\(JN b l k).1=((k+j:Nat):Int)/\(l.getD j SL).2.1=b
 | [],k,h=>by cases h
 | t :: r,k,h=>by
  unfold JN at h ⊢;by_cases e:t.2.1=b
  .rw[BY e];exact⟨0,by simp,by simp,by simpa using e⟩
  rw[As e]at h ⊢;obtain⟨j,h1,a,c⟩:=Xh h;exact⟨j+1,by simp only[No];omega,by rw[a];congr 1;omega,by simpa using c⟩
theorem kC {b:List Int}:∀ {l:List F4} {k:Nat},(∃t∈l,t.2.1=b)->(JN b l k).2=true
 | [],k,⟨t,a,_⟩=>by cases a
 | t :: r,k,⟨u,hu,e⟩=>by
  unfold JN;by_cases e2:t.2.1=b
  .rw[BY e2]
  rw[As e2];rcases DO.1 hu with rfl|hu
  .exact absurd e e2
  exact kC ⟨u,hu,e⟩
theorem A1p {h:AG} (hk:HX h) (hn:pD h) {a b:Int} (g:0<=a) (k:a<(h.1.length:Int)) (l:0<=b) (b1:b<(h.1.length:Int)) :
  ((Dl h a b).2=true->0<=(Dl h a b).1/\(Dl h a b).1<(h.1.length:Int)/\∀i,yB h (Dl h a b).1 i=(yB h a i&&yB h b i))/\((∃i,yB h a i=true/\yB h b i=true)->(Dl h a b).2=true):=by
 have d:=hk.1.wds _ (Br g k);have f:=hk.1.wds _ (Br l b1);refine⟨λo=>?_,λhi=>?_⟩
 .obtain⟨j,h1,c,n⟩:=Xh o;have c:(Dl h a b).1=((0+j:Nat):Int):=c;refine⟨by omega,by omega,λi=>?_⟩;have e:BQ h (Dl h a b).1=GJ (BQ h a) (BQ h b):=by
   rw[<-n];unfold BQ;rw[c];simp
  unfold yB;rw[e,Um d f]
 obtain⟨t,m,e⟩:=hk.1.meet _ (Br g k) _ (Br l b1) hi;obtain⟨x,hx,rfl⟩:=GO.1 m;exact kC ⟨x,hx,A48 (hk.1.wds _ m) (b7 d f) (hn x hx) (PY _) λi=>by rw[e i,Um d f]⟩
theorem A1q {h:AG} (hk:HX h) (hn:pD h) {a b:Int} (l:0<=a) (m:a<(h.1.length:Int)) (n:0<=b) (b1:b<(h.1.length:Int)) :
  ((Dl h a b).2=true->0<=(Dl h a b).1/\(Dl h a b).1<(h.1.length:Int)/\Av h a (Dl h a b).1=true/\Av h b (Dl h a b).1=true) /\
  ∀x,0<=x->x<(h.1.length:Int)->Av h a x=true->Av h b x=true->(Dl h a b).2=true/\Av h (Dl h a b).1 x=true:=by
 obtain⟨r,u⟩:=A1p hk hn l m n b1;refine⟨λe=>?_,λx g k s t=>?_⟩
 .obtain⟨c,d,f⟩:=r e;refine⟨c,d,(Be hk l m c d).2 λi hi=>?_,(Be hk n b1 c d).2 λi hi=>?_⟩
  .rw[f i,An]at hi;exact hi.1
  rw[f i,An]at hi;exact hi.2
 have o:=(Be hk l m g k).1 s;have p:=(Be hk n b1 g k).1 t;obtain⟨i,hi⟩:=hk.1.some _ (Br g k);have e:=u ⟨i,o i hi,p i hi⟩;obtain⟨c,d,f⟩:=r e;refine⟨e,(Be hk c d g k).2 λj q=>?_⟩;rw[f j,An];exact⟨o j q,p j q⟩
section
variable {h:AG} {N:List AD} {c:List Int}
end
section
variable {d:List AJ}
end
structure HAp (h:AG):Prop where
 iff:∀t f,0<=t->t<(h.1.length:Int)->0<=f->f<(h.2.length:Int)->((EZ h t f).2=true↔Av h (Q0 h f) t=true)
 mono:∀t t' f,0<=t->t<(h.1.length:Int)->0<=t'->t'<(h.1.length:Int)->0<=f->f<(h.2.length:Int)->Av h t t'=true->(EZ h t f).2=true->Av h (EZ h t f).1 (EZ h t' f).1=true
def VB (h:AG) (m:Nat) (u:List Int):Prop:=u.length=m/\∀t∈u,0<=t/\t<(h.1.length:Int)
theorem VB.get {h:AG} {m:Nat} {u:List Int} (hu:VB h m u) {n:Nat} (n1:n<m):0<=u.getD n 0/\u.getD n 0<(h.1.length:Int):=by
 have hl:n<u.length:=by rw[hu.1];exact n1
 rw[AS,AT hl];exact hu.2 _ (S3 hl)
theorem Q1.tyl {h:AG} {m:Nat} {s:Y1} (hs:Q1 h m s):VB h m s.1:=⟨hs.len,hs.ty⟩
def Rf (h:AG) (m:Nat) (u v:List Int):Prop:=∀i,i<m->Av h (u.getD i 0) (v.getD i 0)=true
def pE (h:AG) (u:List Int) (n:Int) (l:List (Int×Int)):Prop:=∀a∈l,(EZ h (u.getD n.toNat 0) a.1).2=true/\Av h (EZ h (u.getD n.toNat 0) a.1).1 (u.getD a.2.toNat 0)=true
def WTy (h:AG) (f:List AD) (u:List Int):Prop:=∀i,i<f.length->pE h u (i:Int) (f.getD i (0,[])).2
theorem Rf.refl {h:AG} (hk:HX h) {m:Nat} {u:List Int} (hu:VB h m u):Rf h m u u:=λi hi=>U0 hk (hu.get hi).1 (hu.get hi).2
theorem Rf.trans {h:AG} (hk:HX h) {m:Nat} {u v w:List Int} (hu:VB h m u) (a:VB h m v) (b:VB h m w) (h1:Rf h m u v) (c:Rf h m v w):Rf h m u w:=λi hi =>
 LP hk (hu.get hi).1 (hu.get hi).2 (a.get hi).1 (a.get hi).2 (b.get hi).1 (b.get hi).2 (h1 i hi) (c i hi)
theorem Rf.anti {h:AG} (hi:Nk h) {m:Nat} {u v:List Int} (hu:VB h m u) (b:VB h m v) (h1:Rf h m u v) (d:Rf h m v u):u=v:=by
 refine iS (by rw[hu.1,b.1]) λi c e=>?_;have a:i<m:=by rw[<-hu.1];exact c
 have:=hi _ _ (hu.get a).1 (hu.get a).2 (b.get a).1 (b.get a).2 (h1 i a) (d i a)
 rwa [AS,AT c,AS,AT e]at this
structure y7 (h:AG) (m:Nat) (s s':Y1):Prop where
 up:Rf h m s.1 s'.1
 pre:s.2 <+: s'.2
 ch:∀k:Nat,k<m->s'.1.getD k 0=s.1.getD k 0\/(k:Int)∈s'.2.drop s.2.length
theorem y7.refl {h:AG} (hk:HX h) {m:Nat} {s:Y1} (hs:Q1 h m s):y7 h m s s:=⟨Rf.refl hk hs.tyl,ADy _,λ_ _=>.inl rfl⟩
theorem Sn {l l':List Int} (hp:l <+: l') {n:Nat} {x:Int} (h:x∈l.drop n):x∈l'.drop n:=by
 obtain⟨r,rfl⟩:=hp;rw[AFz];exact S2 _ h
theorem Q5 {l:List Int} {a b:Nat} (c:a<=b) {x:Int} (h:x∈l.drop b):x∈l.drop a:=by
 have:l.drop b=(l.drop a).drop (b-a):=by rw[AER];congr 1;omega
 rw[this]at h;exact AEi h
theorem y7.trans {h:AG} (hk:HX h) {m:Nat} {a b c:Y1} (ha:Q1 h m a) (f:Q1 h m b) (g:Q1 h m c) (h1:y7 h m a b) (d:y7 h m b c):y7 h m a c:=by
 refine⟨h1.up.trans hk ha.tyl f.tyl g.tyl d.up,h1.pre.trans d.pre,λk e=>?_⟩;rcases d.ch k e with e2|e2
 .rcases h1.ch k e with e1|e1
  .exact .inl (e2.trans e1)
  exact .inr (Sn d.pre e1)
 exact .inr (Q5 h1.pre.length_le e2)
theorem So {h:AG} (hk:HX h) (hi:Nk h) {m:Nat} {s c:Y1} (hs:Q1 h m s) {n t:Int} (n0:0<=n) (n1:n<(m:Int)) (f:0<=t) (g:t<(h.1.length:Int)) (e:HQ h s n t=some c) :
  y7 h m s c/\Av h t (c.1.getD n.toNat 0)=true:=by
 have q:=(Gk hk hi hs n0 n1 f g e).1;obtain⟨i,j⟩:=hs.get n0 n1;unfold HQ at e;split at e
 .rename_i l;obtain⟨r,u,p,d⟩:=(IU hk i j f g).1 l;generalize (Ba h (s.1.getD n.toNat 0) t).1=v at *;injection e with e
  split at e
  .rename_i o;subst e;exact⟨y7.refl hk hs,by rw[<-o];exact d⟩
  subst e;have hl:n.toNat<s.1.length:=by rw[hs.len];omega
  have a:∀k:Nat,(s.1.set n.toNat v).getD k 0=if k=n.toNat then v else s.1.getD k 0:=λk=>Na _ _ _ hl k
  refine⟨⟨λk b=>?_,AFh _ _,λk b=>?_⟩,?_⟩
  .simp only;rw[a];split
   .rename_i e;rw[e];exact p
   exact U0 hk (hs.tyl.get b).1 (hs.tyl.get b).2
  .simp only;rw[a];split
   .rename_i e;right;rw[AFz,AE5,To];exact AEf _ (by simp;omega)
   exact .inl rfl
  simp only;rw[a,BY rfl];exact d
 cases e
theorem Zr {h:AG} (hk:HX h) (hi:Nk h) {m:Nat} {s:Y1} (hs:Q1 h m s) {n t:Int} (n0:0<=n) (n1:n<(m:Int)) (o:0<=t) (p:t<(h.1.length:Int)) {u:List Int} (hu:VB h m u) (a:Rf h m s.1 u) (i:Av h t (u.getD n.toNat 0)=true) :
  ∃c,HQ h s n t=some c/\Rf h m c.1 u:=by
 obtain⟨d,f⟩:=hs.get n0 n1;have b:n.toNat<m:=by omega
 obtain⟨q,r⟩:=hu.get b;obtain⟨j,l⟩:=(IU hk d f o p).2 _ q r (a _ b) i;unfold HQ;rw[BY j];refine⟨_,rfl,?_⟩;split
 .exact a
 intro k g;have hl:n.toNat<s.1.length:=by rw[hs.len];omega
 simp only;rw[Na _ _ _ hl k];split
 .rename_i e;rw[e];exact l
 exact a k g
section
variable {h:AG} (hk:HX h) (hi:Nk h) (hf:HFt h) (hap:HAp h) {m:Nat} {n:Int} (n0:0<=n) (n1:n<(m:Int))
include hk hi hf n0 n1
theorem dA:∀ {l:List (Int×Int)} {s c:Y1},(∀a∈l,Mm h m a)->Q1 h m s->Xf h n l s=some c->y7 h m s c/\∀a∈l,Av h (Q0 h a.1) (c.1.getD n.toNat 0)=true
 | [],s,c,_,hs,e=>by
  injection e with e
  subst e;exact⟨y7.refl hk hs,λa ha=>by cases ha⟩
 | a :: l,s,c,hl,hs,e=>by
  unfold Xf at e;cases e1:HQ h s n (Q0 h a.1) with
  | none=>rw[e1]at e;cases e
  | some s1 =>
   rw[e1]at e;obtain⟨⟨p,q⟩,-⟩:=hl a (by simp);obtain⟨i,j⟩:=Q2 hf p q;obtain⟨d,-,-⟩:=Gk hk hi hs n0 n1 i j e1;obtain⟨t,u⟩:=So hk hi hs n0 n1 i j e1;have k:∀b∈l,Mm h m b:=λb f=>hl b (IF _ f);have e:Xf h n l s1=some c:=e;obtain⟨o,r⟩:=dA k d e;have g:=(Q3 hk hi hf n0 n1 k d e).1;refine⟨t.trans hk hs d g o,λb f=>?_⟩;rcases DO.1 f with rfl|f
   .exact LP hk i j (d.get n0 n1).1 (d.get n0 n1).2 (g.get n0 n1).1 (g.get n0 n1).2 u (o.up _ (by omega))
   exact r b f
theorem y8:∀ {l:List (Int×Int)} {s c:Y1},(∀a∈l,Mm h m a)->Q1 h m s->YS h n l s=some c->y7 h m s c/\(n∈c.2.drop s.2.length\/(c.1.getD n.toNat 0=s.1.getD n.toNat 0/\∀a∈l,(EZ h (s.1.getD n.toNat 0) a.1).2=true/\Av h (EZ h (s.1.getD n.toNat 0) a.1).1 (c.1.getD a.2.toNat 0)=true))
 | [],s,c,_,hs,e=>by
  injection e with e
  subst e;exact⟨y7.refl hk hs,.inr ⟨rfl,λa ha=>by cases ha⟩⟩
 | a :: l,s,c,hl,hs,e=>by
  unfold YS at e;split at e
  .rename_i t;obtain⟨u,v⟩:=hs.get n0 n1;obtain⟨k,o⟩:=Mn hf u v t;cases e1:HQ h s a.2 (EZ h (s.1.getD n.toNat 0) a.1).1 with
   | none=>rw[e1]at e;cases e
   | some s1 =>
    rw[e1]at e;obtain⟨-,d,b1⟩:=hl a (by simp);obtain⟨g,-,-⟩:=Gk hk hi hs d b1 k o e1;obtain⟨q,y⟩:=So hk hi hs d b1 k o e1;have r:∀b∈l,Mm h m b:=λb f=>hl b (IF _ f);have e:YS h n l s1=some c:=e;obtain⟨p,i⟩:=y8 r g e;have j:=(VA hk hi hf n0 n1 r g e).1;refine⟨q.trans hk hs g j p,?_⟩;have w:((n.toNat:Nat):Int)=n:=AEa n0;rcases q.ch n.toNat (by omega) with c1|c1
    .rcases i with i|⟨i,x⟩
     .exact .inl (Q5 q.pre.length_le i)
     refine .inr ⟨i.trans c1,λb f=>?_⟩;rcases DO.1 f with rfl|f
     .exact⟨t,LP hk k o (g.get d b1).1 (g.get d b1).2 (j.get d b1).1 (j.get d b1).2 y (p.up _ (by omega))⟩
     have:=x b f
     rwa [c1]at this
    rw[w]at c1;exact .inl (Sn p.pre c1)
  cases e
include hap
theorem y9 {u:List Int} (hu:VB h m u):∀ {l:List (Int×Int)} {s:Y1},(∀a∈l,Mm h m a)->Q1 h m s->Rf h m s.1 u->(∀a∈l,(EZ h (u.getD n.toNat 0) a.1).2=true)->∃c,Xf h n l s=some c/\Rf h m c.1 u
 | [],s,_,_,e,_=>⟨s,rfl,e⟩
 | a :: l,s,hl,hs,e,i=>by
  obtain⟨⟨f,g⟩,-⟩:=hl a (by simp);obtain⟨j,k⟩:=Q2 hf f g;obtain⟨q,r⟩:=hu.get (show n.toNat<m by omega);obtain⟨s1,e1,h1⟩:=Zr hk hi hs n0 n1 j k hu e ((hap.iff _ _ q r f g).1 (i a (by simp)));obtain⟨o,-,-⟩:=Gk hk hi hs n0 n1 j k e1;obtain⟨c,e2,p⟩:=y9 hu (λb d=>hl b (IF _ d)) o h1 λb d=>i b (IF _ d);exact⟨c,by unfold Xf;rw[e1];exact e2,p⟩
theorem zA {u:List Int} (hu:VB h m u):∀ {l:List (Int×Int)} {s:Y1},(∀a∈l,Mm h m a)->Q1 h m s->Rf h m s.1 u->(∀a∈l,Av h (Q0 h a.1) (s.1.getD n.toNat 0)=true)->pE h u n l->∃j,YS h n l s=some j/\Rf h m j.1 u
 | [],s,_,_,f,_,_=>⟨s,rfl,f⟩
 | a :: l,s,hl,hs,f,w,x=>by
  obtain⟨⟨r,t⟩,k,b1⟩:=hl a (by simp);obtain⟨d,e⟩:=hs.get n0 n1;have o:n.toNat<m:=by omega
  have v:a.2.toNat<m:=by omega
  obtain⟨y,z⟩:=hu.get o;have p:=(hap.iff _ _ d e r t).2 (w a (by simp));obtain⟨g,i⟩:=Mn hf d e p;obtain⟨F,G⟩:=x a (by simp);obtain⟨v0,v1⟩:=Mn hf y z F;have B:=hap.mono _ _ a.1 d e y z r t (f _ o) p;obtain⟨s1,e1,h1⟩:=Zr hk hi hs k b1 g i hu f (LP hk g i v0 v1 (hu.get v).1 (hu.get v).2 B G);obtain⟨q,-,-⟩:=Gk hk hi hs k b1 g i e1;obtain⟨E,-⟩:=So hk hi hs k b1 g i e1;obtain⟨j,e2,A⟩:=zA hu (λb c=>hl b (IF _ c)) q h1 (λb c=>by
   obtain⟨⟨c0,c1⟩,-⟩:=hl b (IF _ c);obtain⟨C,D⟩:=Q2 hf c0 c1;exact LP hk C D d e (q.get n0 n1).1 (q.get n0 n1).2 (w b (IF _ c)) (E.up _ o)) λb c=>x b (IF _ c)
  exact⟨j,by unfold YS;rw[BY p,e1];exact e2,A⟩
end
section
variable {h:AG} (hk:HX h) (hi:Nk h) (hf:HFt h) (hap:HAp h) {f:List AD} (ha:Xg h f)
include hk hi hf hap ha
theorem A4v {n:Int} (n0:0<=n) (n1:n<(f.length:Int)) {s c:Y1} (hs:Q1 h f.length s) (e:UA h f n s=some c):y7 h f.length s c/\(n∈c.2.drop s.2.length\/pE h c.1 n (f.getD n.toNat (0,[])).2):=by
 have _:=hap;have d:=Q4 ha n0 n1;unfold UA at e;cases e1:Xf h n (f.getD n.toNat (0,[])).2 s with
 | none=>rw[e1]at e;cases e
 | some s1 =>
  rw[e1]at e;have g:=(Q3 hk hi hf n0 n1 d hs e1).1;obtain⟨i,-⟩:=dA hk hi hf n0 n1 d hs e1;have e:YS h n (f.getD n.toNat (0,[])).2 s1=some c:=e;have j:=(VA hk hi hf n0 n1 d g e).1;obtain⟨k,b⟩:=y8 hk hi hf n0 n1 d g e;refine⟨i.trans hk hs g j k,?_⟩;rcases b with b|⟨b,l⟩
  .exact .inl (Q5 i.pre.length_le b)
  refine .inr λa ha=>?_;rw[b];exact l a ha
theorem A4w {n:Int} (n0:0<=n) (n1:n<(f.length:Int)) {s:Y1} (hs:Q1 h f.length s) {u:List Int} (hu:VB h f.length u) (c:pE h u n (f.getD n.toNat (0,[])).2) (g:Rf h f.length s.1 u):∃d,UA h f n s=some d/\Rf h f.length d.1 u:=by
 have b:=Q4 ha n0 n1;obtain⟨s1,e1,h1⟩:=y9 hk hi hf hap n0 n1 hu b hs g λa ha=>(c a ha).1;have i:=(Q3 hk hi hf n0 n1 b hs e1).1;obtain⟨-,j⟩:=dA hk hi hf n0 n1 b hs e1;obtain⟨s2,e2,e⟩:=zA hk hi hf hap n0 n1 hu b i h1 j c;exact⟨s2,by unfold UA;rw[e1];exact e2,e⟩
def ADk (h:AG) (f:List AD) (i:Nat) (s:Y1):Prop:=∀n:Nat,n<f.length->pE h s.1 (n:Int) (f.getD n (0,[])).2\/(n:Int)∈s.2.drop i
theorem A8d {n:Nat} (hn:n<f.length) {s d:Y1} (hs:Q1 h f.length s) (i:Q1 h f.length d) (j:y7 h f.length s d) (p:pE h s.1 (n:Int) (f.getD n (0,[])).2):pE h d.1 (n:Int) (f.getD n (0,[])).2\/(n:Int)∈d.2.drop s.2.length:=by
 have _:=hap;have _:=hi;have o:∀a∈(f.getD n (0,[])).2,Mm h f.length a:=ha _ (AE f (0,[]) hn);rcases j.ch n hn with c|c
 .left;intro a g;obtain⟨e,k⟩:=p a g;obtain⟨-,b,b1⟩:=o a g;rw[RK]at e k ⊢;rw[c];obtain⟨l,m⟩:=hs.tyl.get hn;obtain⟨q,r⟩:=Mn hf l m e;exact⟨e,LP hk q r (hs.get b b1).1 (hs.get b b1).2 (i.get b b1).1 (i.get b b1).2 k (j.up _ (by omega))⟩
 exact .inr c
theorem zB:∀ {k i:Nat} {s:Y1} {ty:List Int},Q1 h f.length s->ADk h f i s->wlF h f k i s=some ty->WTy h f ty/\Rf h f.length s.1 ty/\VB h f.length ty
 | 0,_,_,_,_,_,e=>by cases e
 | k+1,i,s,ty,hs,hp,e=>by
  unfold wlF at e;split at e
  .rename_i hl;have m:=AE s.2 (0:Int) hl;obtain⟨n0,n1⟩:=hs.wt _ m;generalize hn:s.2.getD i 0=n at *;cases e1:UA h f n s with
   | none=>rw[e1]at e;cases e
   | some s1 =>
    rw[e1]at e;have c:=(kA hk hi hf ha n0 n1 hs e1).1;obtain⟨d,b⟩:=A4v hk hi hf hap ha n0 n1 hs e1;have p:ADk h f (i+1) s1:=by
     intro j g;rcases hp j g with o|a
     .rcases A8d hk hi hf hap ha g hs c d o with h1|h1
      .exact .inl h1
      exact .inr (Q5 (by omega) h1)
     have q:s.2.drop i=n :: s.2.drop (i+1):=by
      rw[Of hl,<-hn,AS,AT hl];rfl
     rw[q]at a;rcases DO.1 a with a|a
     .rcases b with b|b
      .exact .inr (by rw[a];exact Q5 (by omega) b)
      left;rw[a];have:n.toNat=j:=by omega
      rw[this]at b;exact b
     exact .inr (Sn d.pre a)
    have e:wlF h f k (i+1) s1=some ty:=e;obtain⟨r,t,l⟩:=zB c p e;exact⟨r,d.up.trans hk hs.tyl c.tyl l t,l⟩
  rename_i hl;injection e with e
  subst e;refine⟨λn hn=>?_,Rf.refl hk hs.tyl,hs.tyl⟩;rcases hp n hn with h1|h1
  .exact h1
  rw[RC (by omega)]at h1;cases h1
theorem A4x {u:List Int} (hu:VB h f.length u) (b:WTy h f u):∀ {k i:Nat} {s:Y1},Q1 h f.length s->i<=s.2.length->y4 h s.1+s.2.length+1<=k+i->Rf h f.length s.1 u->∃ty,wlF h f k i s=some ty/\Rf h f.length ty u
 | 0,i,s,hs,e,g,a=>by omega
 | k+1,i,s,hs,e,g,a=>by
  unfold wlF;by_cases hl:i<s.2.length
  .rw[BY hl];obtain⟨n0,n1⟩:=hs.wt _ (AE s.2 (0:Int) hl);have c:=b (s.2.getD i 0).toNat (by omega);rw[AEa n0]at c;obtain⟨s1,e1,h1⟩:=A4w hk hi hf hap ha n0 n1 hs hu c a;obtain⟨d,j,l⟩:=kA hk hi hf ha n0 n1 hs e1;rw[e1];exact A4x hu b d (by omega) (by omega) h1
  rw[As hl];exact⟨s.1,rfl,a⟩
theorem pF (a:∀x∈f,0<=x.1/\x.1<(h.1.length:Int)) {ty:List Int} (e:Jn h f=some ty):WTy h f ty/\Rf h f.length (Dk f) ty/\VB h f.length ty:=by
 have e:wlF h f (Zo h f) 0 (Dk f,UB f)=some ty:=e;refine zB hk hi hf hap ha (k:=Zo h f) (i:=0) (s:=(Dk f,UB f)) (A91 a) (λn hn=>.inr ?_) e;rw[To];exact GO.2 ⟨n,RY.2 hn,rfl⟩
theorem kD (b:∀x∈f,0<=x.1/\x.1<(h.1.length:Int)) {u:List Int} (hu:VB h f.length u) (c:WTy h f u) (a:Rf h f.length (Dk f) u):∃ty,Jn h f=some ty/\Rf h f.length ty u :=
 A4x hk hi hf hap ha hu c (k:=Zo h f) (i:=0) (s:=(Dk f,UB f)) (A91 b) (NO _) (A9Y h f) a
end
section
variable {d:List AJ}
end
section
variable {d:List AJ}
end
theorem Mp (d:List AJ):(A1 d).1.1.length<=256/\(A1 d).1.2.length<=64:=by
 unfold A1;split
 .exact⟨by simp,by simp⟩
 rename_i a;have a:(BX d).2=0:=FT a;have b:BW d=0:=by
  unfold BX at a;split at a
  .rename_i h;exact absurd a h
  rename_i h;exact FT h
 obtain⟨f,c,-⟩:=Cg b;obtain⟨-,e,-⟩:=Bq f;refine⟨?_,?_⟩
 .show (FH _ _ _).length<=256;rw[NS,IT];exact e
 show (Dh d).1.length<=64;unfold Dh;rw[As (by rw[b];simp)];show ((DV d).map (Tr d)).length<=64;rw[OR];exact c
theorem kE {H:AG} (o:H.1.length<=256) (p:H.2.length<=64) {f:List AD} (h:Jm H f=true):AN f/\Io f/\0<f.length/\Cc H f/\D8 f=true/\f.length<=12/\∀x∈f,∀a∈x.2,0<=a.1/\a.1<(H.2.length:Int):=by
 unfold Jm at h;rw[An,S1]at h;obtain⟨hl,c⟩:=h;unfold Hg at c;split at c
 .rename_i h1;exact absurd c h1
 rename_i h1;split at c
 .cases c
 rename_i d;split at c
 .cases c
 rename_i g;have h1:(A0 f).2=0:=FT h1;have d:f.all (ndR H)=true:=by simpa using d
 have g:CQ f (A0 f).1=0:=by simpa using g
 have j:D8 f=true:=by
  unfold D8;simp only[An,S1];refine⟨⟨hl,?_⟩,h1,?_⟩
  .rw[ON]at d ⊢;intro x hx;have:=d x hx;unfold ndR at this;rw[An,Do,ON]at this;unfold ndB;rw[An,Do,ON];refine⟨by omega,λa ha=>?_⟩;have:=this.2 a ha;unfold ftR at this;rw[Do]at this;unfold ftB;rw[Do];omega
  rw[<-Mc g];exact Jj f
 obtain⟨l,m,n,-⟩:=Md j;have e:CE f=0:=by
  unfold A0 at h1;split at h1
  .rename_i hh;exact hh
  exact h1
 have k:GQ (f.length:Int) f=0:=by
  unfold CE at e;split at e
  .cases e
  split at e
  .cases e
  exact e
 refine⟨l,m,n,λx hx=>?_,j,(MZ hl).1,λx hx a ha=>?_⟩
 .have b:=ON.1 d x hx;unfold ndR at b;rw[An,Do]at b;exact⟨(LF k x hx).1,b.1⟩
 have b:=ON.1 d x hx;unfold ndR at b;rw[An,ON]at b;have i:=b.2 a ha;unfold ftR at i;rw[Do]at i;exact⟨((LF k x hx).2 a ha).1,i⟩
theorem Xi {f:List AD} (hf:AN f):EV f:=⟨hf.1,λx hx=>(hf.2 x hx).1⟩
structure H14 (h:AG):Prop where
 ok:HX h
 inj:Nk h
 ft:HFt h
 nrm:pD h
 ap:HAp h
 b1:h.1.length<=256
 b2:h.2.length<=64
theorem Sp {f:List AD} {ty:List Int} {x:AD} (hx:x∈Fg f ty):∃i,i<f.length/\x=(ty.getD i 0,(f.getD i (0,[])).2):=by
 obtain⟨i,hi,rfl⟩:=List.getElem_of_mem hx;have a:i<f.length:=by rw[ER]at hi;exact hi
 refine⟨i,a,?_⟩;rw[<-KP f ty a,AS,AT hi];rfl
theorem KQ {α:Type} {f:List α} {i:Nat} (h:i<f.length) (d:α):f.getD i d∈f:=by
 rw[AS,AT h];exact S3 _
theorem A9Z {f:List AD} (hf:AN f) (hs:Io f) (h0:0<f.length) (a:D8 f=true):RO f:=by
 have h1:=A7Q hf hs h0 (λ_ _=>true)
 rwa [oX a λ_ _ _ _=>rfl]at h1
theorem A4y {h:AG} (j:h.1.length<=256) (k:h.2.length<=64) {f:List AD} (l:Jm h f=true):VF h f/\f.length<=12:=by
 obtain⟨a,b,c,e,d,g,i⟩:=kE j k l;exact⟨⟨a,c,e,λx hx=>(Mb _).1 (b x hx).1,i,OI d,A9Z a b c d⟩,g⟩
theorem VF.srt {h:AG} (hu:HU h) {f:List AD} (a:VF h f):Io f:=λx hx=>by
 have:=cU (a.str x hx) (a.ft64 hu x hx);exact⟨(Mb _).2 (a.str x hx),by omega⟩
theorem VF.small {h:AG} {f:List AD} (a:VF h f):EV f:=Xi a.good
theorem Q6 {h:AG} (a b:List AD):(∃c,Jk h a b c/\BK h a b=(c,true))\/(BK h a b=([],false)/\∀c,¬Jk h a b c):=by
 unfold BK;by_cases H:∃c,Jk h a b c
 .left;rw[dif_pos H];exact⟨_,H.choose_spec,rfl⟩
 right;rw[dif_neg H];exact⟨rfl,λc d=>H ⟨c,d⟩⟩
theorem A4z {h:AG} {a b:List AD} (c:VF h b) {m:Int->Int} (e:HH h a b m):Jk h a b b :=
 ⟨c,⟨m,e⟩,⟨id,XS c.str⟩,λX _ _ _ f d=>⟨f,d⟩,by omega⟩
theorem Ii (f:List AD) (ty:List Int) (n:Nat):((Fg f ty).getD n (0,[])).2=(f.getD n (0,[])).2:=by
 by_cases h:n<f.length
 .rw[KP f ty h]
 rw[AS,RP (by rw[ER];omega),AS,RP (by omega)]
theorem kF {f g:List AD} (h:∀n:Nat,(f.getD n (0,[])).2=(g.getD n (0,[])).2):∀(k:Nat) (o:List Int) (n:Int),Ca f k o n=Ca g k o n
 | 0,_,_=>rfl
 | k+1,o,n=>by
  have e:AX f k=AX g k:=by
   funext o a;unfold AX;rw[kF h k o a.2]
  rw[Bu,Bu,h,e]
theorem pG {f:List AD} (hf:AN f) (h0:0<f.length) (a:AL f 0=f):jJ f:=by
 have:=(cR hf (r:=0) (by omega) (by omega)).2
 rwa [a]at this
theorem A4A {h:AG} {f:List AD} (a:VF h f) {ty:List Int} (d:VB h f.length ty):VF h (Fg f ty):=by
 have hl:=ER f ty;have c:AN (Fg f ty):=by
  refine⟨by rw[hl];exact a.good.1,λx hx=>?_⟩;obtain⟨i,hi,rfl⟩:=Sp hx;rw[hl];exact a.good.2 (f.getD i (0,[])) (KQ hi (0,[]))
 have hp:∀x∈Fg f ty,∃y∈f,x.2=y.2:=λx hx=>by
  obtain⟨i,hi,rfl⟩:=Sp hx;exact⟨_,KQ hi (0,[]),rfl⟩
 refine⟨c,by rw[hl];exact a.pos,λx hx=>?_,λx hx=>?_,λx hx=>?_,XQ c ?_,λi g k=>?_⟩
 .obtain⟨i,hi,rfl⟩:=Sp hx;exact d.get hi
 .obtain⟨y,b,e⟩:=hp x hx;rw[e];exact a.str y b
 .obtain⟨y,b,e⟩:=hp x hx;rw[e];exact a.ft y b
 .have:=pG a.good a.pos a.can;unfold jJ at this ⊢;rw[hl,kF (Ii f ty)];exact this
 obtain⟨j,l,m,x,hx,e⟩:=a.ro i g (by rw[<-hl];exact k);exact⟨j,l,m,x,by show x∈((Fg f ty).getD j.toNat (0,[])).2;rw[Ii];exact hx,e⟩
theorem EA (f:List AD) (i:Nat):(Dk f).getD i 0=(f.getD i (0,[])).1:=by
 unfold Dk;rw[AS,gO,AS];cases f[i]?<;>rfl
theorem pH {f:List AD} {ty:List Int} (hl:ty.length=f.length):Dk (Fg f ty)=ty:=by
 refine iS (by simp[Dk,ER,hl]) λi a b=>?_;have:=EA (Fg f ty) i;rw[KP f ty (by omega)]at this;simpa[AS,a,b] using this
theorem UC {h:AG} {f:List AD} {t:Int}:∀ {l:List (Int×Int)},Sl h f t l=0↔∀a∈l,(EZ h t a.1).2=true/\Av h (EZ h t a.1).1 (f.getD a.2.toNat (0,[])).1=true
 | []=>⟨λ_ a ha=>(by cases ha),λ_=>rfl⟩
 | a :: l=>by
  unfold Sl;rw[List.forall_mem_cons,<-UC (l:=l)];cases h1:(EZ h t a.1).2
  .simp
  cases b:Av h (EZ h t a.1).1 (f.getD a.2.toNat (0,[])).1<;>simp
theorem OK {h:AG} {f:List AD}:∀ {l:List AD},Mo h f l=0↔∀x∈l,∀a∈x.2,(EZ h x.1 a.1).2=true/\Av h (EZ h x.1 a.1).1 (f.getD a.2.toNat (0,[])).1=true
 | []=>⟨λ_ a ha=>(by cases ha),λ_=>rfl⟩
 | x :: l=>by
  unfold Mo;rw[List.forall_mem_cons,<-OK (l:=l),<-UC];by_cases h1:Sl h f x.1 x.2=0
  .simp[h1]
  simp[h1]
theorem A8e {h:AG} {f:List AD}:Mo h f f=0↔WTy h f (Dk f):=by
 rw[OK];constructor
 .intro h1 i hi a ha;have:=h1 _ (KQ hi (0,[])) a ha
  rwa [EA,EA,RK]
 intro h1 x hx a ha;obtain⟨i,hi,rfl⟩:=Cu (0,[]) hx;have:=h1 i hi a ha
 rwa [EA,EA,RK]at this
theorem kG {n:Int}:∀ {l seen:List (Int×Int)},(∀a∈l,0<=a.1/\0<=a.2/\a.2<n)->(l.map (·.1)).Nodup->(∀y∈seen,∀x∈l,y.1≠x.1)->F6 n seen l=0
 | [],_,_,_,_=>rfl
 | x :: l,seen,h,hp,hs=>by
  rw[RS,TO]at hp;have h1:=h x (by simp);have d:(seen.any λy=>y.1==x.1)=false:=by
   rw[AEz];intro y b;have:=hs y b x (by simp);simpa using this
  unfold F6;rw[As (by omega),As (by rw[d];simp)];refine kG (λa ha=>h a (by simp[ha])) hp.2 λy b z c=>?_;rcases Is.1 b with b|b
  .exact hs y b z (by simp[c])
  rw[RM.1 b];exact λe=>hp.1 (GO.2 ⟨z,c,e.symm⟩)
theorem A4B {m:Int} {l:List (Int×Int)} (hs:(l.map (·.1)).Nodup) (h:∀a∈l,0<=a.1/\0<=a.2/\a.2<m):GP l m=0:=kG h hs λy b=>by cases b
theorem pI {m:Int} {l:List (Int×Int)} (hs:Li l) (h:∀a∈l,0<=a.1/\0<=a.2/\a.2<m):GP l m=0:=A4B (by rw[List.Nodup,AAe];exact hs.imp λh e=>by omega) h
theorem kH {m:Int}:∀ {l:List AD},(∀x∈l,0<=x.1/\GP x.2 m=0)->GQ m l=0
 | [],_=>rfl
 | x :: l,h=>by
  have:=h x (by simp);unfold GQ;rw[As (by omega),As (by rw[this.2];simp)];exact kH λy a=>h y (by simp[a])
theorem A4C {h:AG} (hu:HU h) {f:List AD} (b:VF h f) (hl:f.length<=4096):A0 f=(f,0):=by
 have c:CE f=0:=by
  unfold CE;rw[As (by have:=b.pos;omega),As (by omega)];refine kH λx hx=>⟨(b.ty x hx).1,pI (b.str x hx) λa ha=>⟨(b.ft x hx a ha).1,((b.good.2 x hx).2 a ha)⟩⟩
 unfold A0;rw[BY c,Ia b.good (b.srt hu) (by omega) (by have:=b.pos;omega),b.can]
section
variable {h:AG} (hh:H14 h)
include hh
theorem H14.hu:HU h:=⟨hh.ok,hh.inj,hh.b2⟩
omit hh in
theorem zC {f:List AD} (b:VF h f):Xg h f:=λx hx a ha=>⟨b.ft x hx a ha,(b.good.2 x hx).2 a ha⟩
theorem kI {f:List AD} (a:VF h f) {ty:List Int} (e:Jn h f=some ty):VF h (Fg f ty)/\WTy h f ty/\VB h f.length ty/\HH h f (Fg f ty) id:=by
 obtain⟨h1,g,d⟩:=pF hh.ok hh.inj hh.ft hh.ap (zC a) a.ty e;refine⟨A4A a d,h1,d,rfl,λi b c=>⟨b,by rw[ER];exact c⟩,λi b c=>?_,λi b c x hx=>?_⟩
 .have:=g i.toNat (by omega);rw[EA]at this;show Av h _ ((Fg f ty).getD i.toNat (0,[])).1=true
  rwa [KP f ty (by omega)]
 show Bw ((Fg f ty).getD i.toNat (0,[])).2 x.1=x.2;rw[Ii];exact A9K (a.srt hh.hu) hx
theorem zD {f g:List AD} (n:VF h f) (p:VF h g) (B:WTy h g (Dk g)) {m:Int->Int} (c:HH h f g m):∃ty,Jn h f=some ty/\HH h (Fg f ty) g m:=by
 have E:=p.pos
 let u:List Int:=(List.range f.length).map λi:Nat=>(g.getD (m (i:Int)).toNat (0,[])).1
 have k:∀i:Nat,i<f.length->u.getD i 0=(g.getD (m (i:Int)).toNat (0,[])).1:=λi hi=>by
  simp[u,AS,hi]
 have q:∀i:Nat,i<f.length->(m (i:Int)).toNat<g.length/\0<=m (i:Int):=λi hi=>by
  have:=c.rng (i:Int) (by omega) (by omega);omega
 have A:VB h f.length u:=⟨by simp[u],λt z=>by
  obtain⟨i,hi,rfl⟩:=GO.1 z;exact p.ty _ (KQ (q i (RY.1 hi)).1 (0,[]))⟩
 have C:WTy h f u:=λi hi a ha=>by
  have v:a∈AP f (i:Int):=by show a∈(f.getD (i:Int).toNat (0,[])).2;rwa [RK]
  have h1:=c.arc (i:Int) (by omega) (by omega) a v;obtain⟨r,D⟩:=(n.good.2 _ (KQ hi (0,[]))).2 a ha;have s:=c.rng a.2 r D;obtain⟨b,w,e1,e2⟩:=Ic (l:=AP g (m (i:Int))) (e:=a.1) (by rw[h1];exact s.1);have o:=B _ (q i hi).1 b (by exact w);rw[EA,EA,e1,e2,h1,RK]at o;rw[RK,k i hi,k a.2.toNat (by omega),AEa r];exact o
 obtain⟨ty,e,y⟩:=kD hh.ok hh.inj hh.ft hh.ap (zC n) n.ty A C λi hi=>by
  rw[EA,k i hi];have:=c.ty (i:Int) (by omega) (by omega)
  rwa [RK]at this
 refine⟨ty,e,c.zero,λi j d=>c.rng i j (by rw[ER]at d;exact d),λi j d=>?_,λi j d x hx=>?_⟩
 .rw[ER]at d;have:=y i.toNat (by omega);rw[k _ (by omega),AEa j]at this
  rwa [KP f ty (by omega)]
 rw[ER]at d;exact c.arc i j d x (by rw[AP,Ii]at hx;exact hx)
omit hh in
theorem A1r {f:List AD} (e:c8 h f=0):WTy h f (Dk f):=by
 unfold c8 at e
 split at e
 .exact A8e.1 e
 rename_i hn;exact absurd e hn
end
theorem UD {h:AG} {f:List AD} {ty:List Int} (e:Jn h f=some ty):Sk h f=(Fg f ty,true):=by unfold Sk;rw[e]
theorem UE {h:AG} {f:List AD} (e:Jn h f=none):Sk h f=([],false):=by unfold Sk;rw[e]
theorem VB.set {h:AG} {m:Nat} {u:List Int} (hu:VB h m u) {t:Int} (a:0<=t) (b:t<(h.1.length:Int)) (i:Nat):VB h m (u.set i t):=⟨by rw[aT];exact hu.1,λx hx=>by
 rcases AEc hx with hx|rfl
 .exact hu.2 x hx
 exact⟨a,b⟩⟩
theorem Rf.set {h:AG} (hk:HX h) {m:Nat} {u:List Int} (hu:VB h m u) {t:Int} {i:Nat} (hi:i<m) (hs:Av h (u.getD i 0) t=true):Rf h m u (u.set i t):=λk a=>by
 rw[Na _ _ _ (by rw[hu.1];exact hi) k];split
 .rename_i e;rw[e];exact hs
 exact U0 hk (hu.get a).1 (hu.get a).2
section
variable {h:AG} (hk:HX h) (hn:pD h) (hi:Nk h) (hf:HFt h) (hap:HAp h) {m:Nat}
include hk hn hi hf hap
end
section
variable {h:AG} (hk:HX h) (hn:pD h) (hi:Nk h) (hf:HFt h) (hap:HAp h) {f:List AD} (ha:Xg h f)
include hk hn hi hf hap ha
end
section
attribute [local go_sem] Sm
end
section
open Go
end
section
noncomputable def Mq:AZ:={ ins:=[Dn,DE,DE],pre:=λ(h,a,b,_)=>HU h/\VF h a/\VF h b/\List.length a+List.length b<=10000,out:=λ(h,a,b,_)=>[.p DE (BK h a b).1,.p .bool (BK h a b).2] }
attribute [local go_sem] Mq
theorem kJ:Af Tryz.prog 35 Mq:=by
 refine fK [0,1,2,3,4,5,6,7,8,25] Tryz.func35 Tryz.ntmps35 AH ?_;rintro w0 O0 ⟨h,a,b,u⟩ c-⟨hu,va,e,F⟩;simp only[Mq,AM];repeat'(first|exact trivial|apply eS rfl|refine rX c ?_ ?_)
 refine cP 3 c ?_ ?_
 .trivial
 refine rM c (XI h [] [] [] a va.good (by simp) rfl rfl) [(1,.nm 11),(2,.nil),(3,.nil),(4,.nil)] [] ?_ ?_ ?_
 .exact eN
 .simp only[Tu];exact eN
 rintro _ _ ⟨rfl,rfl⟩;refine⟨[(11,.nm 1),(102,.nm 2),(103,.nm 3),(104,.nm 4)],.raw (.tuple #[]),[(11,.box 111 true [.p Dn h,.sr 102 T3 0 (BN 0 a.length).length,.sr 103 T3 0 (Bm a a.length).length,.sr 104 Cm 0 (DP 0 a a.length).length]),(102,.arr 3 T3 (BN 0 a.length)),(103,.arr 3 T3 (Bm a a.length)),(104,.arr 91 Cm (DP 0 a a.length))],rfl,rfl,?_,?_,rfl,rfl,BV ?_⟩
 .simp only[Tu];exact eN
 .exact eN
 have la:(BN 0 a.length).length=a.length:=Gh 0 a.length;have lt:(Bm a a.length).length=a.length:=by unfold Bm;rw[OR,RD]
 have I:(DP 0 a a.length).length=a.length:=by unfold DP;rw[OR,RD]
 repeat' apply eS rfl
 refine cP 3 c ?_ ?_
 .trivial
 refine rM c (XI h (BN 0 a.length) (Bm a a.length) (DP 0 a a.length) b e.good (by omega) (by omega) (by omega)) [(1,.nm 11),(2,.nm 102),(3,.nm 103),(4,.nm 104)] [102,103,104] ?_ ?_ ?_
 .exact eN
 .simp only[Tu];exact eN
 rintro _ _ ⟨rfl,rfl⟩;rw[la,Sf,XU,Zb];rw[show a.length+b.length=(Ag a b).length from (CG a b).symm];have E:=CG a b;have t:=FP va.good e.good (by omega);have y:=Ux t (KK va.ty e.ty) (Gj va.str e.str);have n:=KL (va.ft64 hu) (e.ft64 hu);have H:=XV (N:=Ag a b) λx hx=>cU (Gj va.str e.str x hx) (n x hx);have hap:=va.pos;have G:=e.pos;have B:=λp ty ar w j=>yS va e (p:=p) (ty:=ty) (ar:=ar) w j;have z:=A19 va e;generalize BN 0 (Ag a b).length=p0 at *;generalize Dj (Ag a b)=q at *;generalize Ff (Ag a b)=o at *;refine⟨[(11,.nm 1),(102,.nm 2),(103,.nm 3),(104,.nm 4)],.raw (.tuple #[]),[(11,.box 111 true [.p Dn h,.sr 102 T3 0 p0.length,.sr 103 T3 0 q.length,.sr 104 Cm 0 o.length]),(102,.arr 3 T3 p0),(103,.arr 3 T3 q),(104,.arr 91 Cm o)],rfl,rfl,?_,?_,rfl,rfl,BV ?_⟩
 .simp only[Tu];exact eN
 .exact eN
 repeat' apply eS rfl
 refine cP 4 c ?_ ?_
 .trivial
 refine rM c (Uw h hu.ok y (a:=0) (b:=(a.length:Int)) (by omega) (by omega) (by omega) (by omega)) [(101,.nm 11),(102,.nm 102),(103,.nm 103),(104,.nm 104)] [102,103,104] ?_ ?_ ?_
 .exact eN
 .simp only[Uv];exact eN
 rintro res D (⟨rfl,f,i,g,rfl,d⟩|⟨rfl,⟨f,i,g,rfl⟩,A⟩)
 .have j:=Qu d (by omega) n;have m:=HD hu (B f i g d j);refine⟨[(11,.nm 101),(102,.nm 102),(103,.nm 103),(104,.nm 104)],.p .bool true,[(11,.box 111 true [.p Dn h,.sr 102 T3 0 f.length,.sr 103 T3 0 i.length,.sr 104 Cm 0 g.length]),(102,.arr 3 T3 f),(103,.arr 3 T3 i),(104,.arr 91 Cm g)],rfl,rfl,?_,?_,rfl,rfl,?_⟩
  .simp only[Uv];exact eN
  .exact eN
  refine rL c ?_ ?_
  .trivial
  repeat'(first|apply eS rfl|refine rC ?_ ?_<;>intro l<;>try(cases l;done))
  refine cP 1 c ?_ ?_
  .trivial
  refine rM c (jG h d.fo j (by rw[d.lt,d.lp]) (by rw[d.la,d.lp]) (λk x hx=>by rw[d.lp];exact(d.arr k x hx).1) (r:=0) (by omega) (by rw[d.lp];omega)) [(101,.nm 11),(102,.nm 102),(103,.nm 103),(104,.nm 104)] [11,102,103,104] ?_ ?_ ?_
  .exact eN
  .simp only[Uv];exact eN
  rintro _ D rfl;refine⟨[],.p DE (AL (quo f i g) (ED f 0)),[],rfl,rfl,?_,?_,rfl,rfl,?_⟩
  .exact eN
  .exact eN
  refine rL c ?_ ?_
  .trivial
  repeat' apply eS rfl
  exact fI c [.cell 6 25,.tmp 7] (by rw[m];exact eR)
 have m:=z (λX v s C=>A X v s C);refine⟨[(11,.nm 101),(102,.nm 102),(103,.nm 103),(104,.nm 104)],.p .bool false,[(11,.box 111 true [.p Dn h,.sr 102 T3 0 f.length,.sr 103 T3 0 i.length,.sr 104 Cm 0 g.length]),(102,.arr 3 T3 f),(103,.arr 3 T3 i),(104,.arr 91 Cm g)],rfl,rfl,?_,?_,rfl,rfl,?_⟩
 .simp only[Uv];exact eN
 .exact eN
 refine rL c ?_ ?_
 .trivial
 repeat'(first|exact trivial|apply eS rfl|refine rX c ?_ ?_|refine rC ?_ ?_<;>intro l<;>try(cases l;done))
 exact fI c [.cell 6 25,.tmp 7] (by rw[m];exact eR)
end
section
open Go
end
section
open Go
end
section
variable {h:AG} {N:List AD} {P:List (Int×Int)} {c p:List Int} {g:List AD}
end
section
variable {h:AG} {a b:List AD}
end
section
open Go
end
section
attribute [local go_sem] A4u
end
section
attribute [local go_sem] Mq
noncomputable def dB (h:AG) (a b:List AD):List AD×Bool:=if (BK h a b).2=true then Sk h (BK h a b).1 else ([],false)
end
theorem A4D {h:AG} (hk:HX h) {N:List AD} {P:List (Int×Int)}:∀(k:Nat) (p ty:List Int) (ar:List (List (Int×Int))) (W:List (Int×Int)),JI h N P p ty ar W->nR p*((Cw N).length+1)+W.length<=k ->
  (∃D F o,JI h N P D F o [])\/(∀X v,Cc h X->¬LI h N P X v):=by
 intro k;induction k with
 | zero =>
  intro p ty ar W c g;have:W=[]:=RQ (by omega);subst this;exact .inl ⟨p,ty,ar,c⟩
 | succ k l =>
  intro p ty ar W c g;cases j:W.getLast? with
  | none =>
   have:W=[]:=List.getLast?_eq_none_iff.1 j;subst this;exact .inl ⟨p,ty,ar,c⟩
  | some w =>
   have r:W=W.dropLast++[w]:=by
    obtain⟨J,e⟩:=List.getLast?_eq_some_iff.1 j;rw[e];simp
   obtain⟨s,t⟩:=w;rw[r]at c g;rw[By,IS]at g;generalize W.dropLast=V at *;obtain⟨⟨m,s1⟩,n,E⟩:=c.wr (s,t) (by simp);simp only at m s1 n E;obtain⟨L,fo⟩:=c.fo;have lp:=c.lp;obtain⟨a,ha,G,H⟩:=fo.root m (by omega);obtain⟨b,d,q,b1⟩:=fo.root n (by omega);by_cases f:a=b
   .subst f;exact l p ty ar V (cK c ha d) (by omega)
   cases i:(Ba h (ty.getD a.toNat 0) (ty.getD b.toNat 0)).2 with
   | false =>
    right;intro X v u C;have:=(Uu hk c ha d u C).2.1;rw[i]at this;cases this
   | true =>
    have z:=XJ hk c ha d f i;refine l _ _ _ _ z ?_;have B:=yN (a:=a) q b1 d.root f;have A:=cL (c.srt a.toNat) (λx hx=>(c.arr a.toNat x hx).2);have K:=RG (Qs (x:=ar.getD a.toNat []) (y:=ar.getD b.toNat [])) A;have I:nR p*((Cw N).length+1)=nR (p.set b.toNat a)*((Cw N).length+1)+((Cw N).length+1):=by rw[<-B,AF0,Nat.one_mul]
    rw[By];omega
theorem Zs {h:AG} (hk:HX h) {N:List AD}:∀(R P:List (Int×Int)) (p ty:List Int) (ar:List (List (Int×Int))),(∀q∈R,(0<=q.1/\q.1<(N.length:Int))/\(0<=q.2/\q.2<(N.length:Int)))->JI h N P p ty ar [] ->
  (∃l r g,JI h N (P++R) l r g [])\/(∀X v,Cc h X->¬LI h N (P++R) X v)
 | [],P,p,ty,ar,f,e=>.inl ⟨p,ty,ar,by rw[Ra];exact e⟩
 | q :: R,P,p,ty,ar,f,e=>by
  obtain⟨a,b⟩:=q;have c:=f (a,b) (by simp);have i:P++(a,b) :: R=P++[(a,b)]++R:=by simp
  rw[i];rcases A4D hk _ _ _ _ _ (XK e c.1 c.2) (If _) with ⟨m,o,n,h1⟩|k
  .exact Zs hk R (P++[(a,b)]) m o n (λq c=>f q (by simp[c])) h1
  exact .inr λX v j d=>k X v j ⟨d.rng,d.ty,d.arc,λq c=>d.eq q (S2 _ c)⟩
theorem dC {h:AG} (hu:HU h) {a b X:List AD} (va:VF h a) (c:VF h b) (hl:a.length+b.length<=100000) (j:Cc h X) {m n:Int->Int} (h1:HH h a X m) (f:HH h b X n):∃i,Jk h a b i:=by
 have o:=CG a b;have hap:=va.pos;have r:=c.pos;have k:=FP va.good c.good hl;rcases Zs hu.ok (N:=Ag a b) [(0,(a.length:Int))] [] _ _ _ (λq d=>by
  have e:q=(0,(a.length:Int)):=by simpa using d
  subst e;simp only;omega) (Ux k (KK va.ty c.ty) (Gj va.str c.str)) with ⟨p,ty,ar,g⟩|l
 .exact⟨_,yS va c g (Qu g (by omega) (KL (va.ft64 hu) (c.ft64 hu)))⟩
 exfalso;refine l X _ j (cO (Mh va.good c.good (Db h1) (Db f)) λq d=>?_);have e:q=(0,(a.length:Int)):=by simpa using d
 subst e;try simp only
 rw[BY (by omega),As (by omega),AFl,h1.zero,f.zero]
structure H11 (h:AG):Prop where
 hu:HU h
 top:XY h
 b1:h.1.length<=256
theorem UF (d:List AJ):H11 (A1 d).1:=⟨⟨MV d,jI d,(Mp d).2⟩,jR d,(Mp d).1⟩
section
attribute [local go_sem] Mq c7 KE cs1 cs3
end
section
attribute [local go_sem] ZQ
end
def EB:AG:=([(ByteArray.mk #[116,111,112],[8191],[],[]),(ByteArray.mk #[105,110,100,101,120],[60],[0],[]),(ByteArray.mk #[108,105,115,116],[193],[0],[]),(ByteArray.mk #[99,111,110,115],[1],[2],[(2,0),(10,2)]),(ByteArray.mk #[100,108,105,115,116],[2],[0],[(6,2),(7,2)]),(ByteArray.mk #[101,110,116,105,116,121],[4],[1],[]),(ByteArray.mk #[101,118,101,110,116],[8],[1],[]),(ByteArray.mk #[104,97,110,100,108,101],[16],[1],[]),(ByteArray.mk #[110,117,108,108],[128],[2],[]),(ByteArray.mk #[113,101,113],[256],[0],[(3,7),(8,7)]),(ByteArray.mk #[114,101,108],[512],[0],[(5,7)]),(ByteArray.mk #[115,101,109],[1024],[0],[(1,4),(4,1),(9,4),(12,7)]),(ByteArray.mk #[115,105,103,110],[2048],[0],[(0,2),(11,11)])],[(ByteArray.mk #[65,82,71,83],12),(ByteArray.mk #[67,79,78,83],11),(ByteArray.mk #[70,73,82,83,84],3),(ByteArray.mk #[72,73,71,72],9),(ByteArray.mk #[73,78,68,69,88],11),(ByteArray.mk #[76,65,66,69,76],10),(ByteArray.mk #[76,65,83,84],4),(ByteArray.mk #[76,73,83,84],4),(ByteArray.mk #[76,79,87],9),(ByteArray.mk #[82,69,76,83],11),(ByteArray.mk #[82,69,83,84],3),(ByteArray.mk #[83,69,77],12),(ByteArray.mk #[84,79,80],11)])
instance baDec:DecidableEq ByteArray:=λa b =>
 if h:a.data.toList=b.data.toList then isTrue (by
  cases a
  cases b
  exact AAc ByteArray.mk (Array.toList_inj.1 h))
 else isFalse λe=>h (by rw[e])
theorem A4E:((Uz []).1:List (ByteArray×List Int×List Int×List (Int×Int)))=EB.1:=by decide +kernel
theorem A4F:((Uz []).2:List (ByteArray×Int))=EB.2:=by decide +kernel
theorem A8f:Uz []=EB:=Prod.ext A4E A4F
section
attribute [local go_sem] ZQ IV
end
section
attribute [local go_sem] IV
end
abbrev Wt (h:AG) (f:List AD):Prop:=VF h f/\WTy h f (Dk f)
def zE (h:AG) (l:List (List AD)) (X:List AD):Prop:=∀x∈l,∃m,HH h x X m
structure TU (h:AG) (l:List (List AD)) (U:List AD):Prop where
 wt:Wt h U
 hom:zE h l U
 least:∀X,Wt h X->zE h l X->∃m,HH h U X m
def Mr (h:AG) (l:List (List AD)) (r:List AD×Bool):Prop:=(r.2=true/\TU h l r.1)\/(r=([],false)/\∀X,Wt h X->¬zE h l X)
theorem Mr.congr {h:AG} {l l':List (List AD)} {r:List AD×Bool} (H:Mr h l r) (d:∀X,Wt h X->(zE h l X↔zE h l' X)):Mr h l' r:=by
 rcases H with ⟨h1,a⟩|⟨h1,a⟩
 .exact .inl ⟨h1,a.wt,(d _ a.wt).1 a.hom,λX b c=>a.least X b ((d X b).2 c)⟩
 exact .inr ⟨h1,λX b c=>a X b ((d X b).2 c)⟩
theorem A4G {h:AG} (hk:HX h) {l:List (List AD)} (hl:∀x∈l,VF h x) {a X:List AD} (b:VF h a) (c:VF h X) (d:zE h l a) {m:Int->Int} (e:HH h a X m):zE h l X:=λx hx=>by
 obtain⟨k,q⟩:=d x hx;exact⟨_,Mj hk (hl x hx).good (hl x hx).ty b.ty c.ty q e⟩
theorem Hh {h:AG} {x X:List AD}:zE h [x] X↔∃m,HH h x X m:=by simp[zE]
theorem Xj {h:AG} {x X:List AD} {l:List (List AD)}:zE h (x :: l) X↔(∃m,HH h x X m)/\zE h l X:=by simp[zE]
section
variable {h:AG} (hh:H14 h)
include hh
theorem AA0 {f:List AD} (c:VF h f) {ty:List Int} (e:Jn h f=some ty):Wt h (Fg f ty):=by
 obtain⟨h1,a,b,-⟩:=kI hh c e;refine⟨h1,?_⟩;rw[pH b.1];intro i hi;rw[Ii];exact a i (by rw[<-ER f ty];exact hi)
theorem A8g {f:List AD} (c:VF h f):Mr h [f] (Sk h f):=by
 cases e:Jn h f with
 | some ty =>
  rw[UD e];refine .inl ⟨rfl,AA0 hh c e,Hh.2 ⟨_,(kI hh c e).2.2.2⟩,λX b d=>?_⟩;obtain⟨m,g⟩:=Hh.1 d;obtain⟨i,a,q⟩:=zD hh c b.1 b.2 g;rw[e]at a;cases a;exact⟨m,q⟩
 | none =>
  rw[UE e];refine .inr ⟨rfl,λX b d=>?_⟩;obtain⟨m,g⟩:=Hh.1 d;obtain⟨i,a,q⟩:=zD hh c b.1 b.2 g;rw[e]at a;cases a
theorem A8h {a b:List AD} (va:VF h a) (k:VF h b) (hl:a.length+b.length<=10000):Mr h [a,b] (dB h a b):=by
 unfold dB;rcases Q6 (h:=h) a b with ⟨l,c,e⟩|⟨e,p⟩
 .rw[e,BY rfl];refine(A8g hh c.vf).congr λX g=>?_;rw[Hh,Xj,Hh];constructor
  .rintro⟨m,o⟩;obtain⟨i,d⟩:=c.left;obtain⟨j,f⟩:=c.right;exact⟨⟨_,Mj hh.ok va.good va.ty c.vf.ty g.1.ty d o⟩,_,Mj hh.ok k.good k.ty c.vf.ty g.1.ty f o⟩
  rintro⟨⟨i,d⟩,j,f⟩;exact c.least X g.1.ty i d j f
 rw[e,As Bool.false_ne_true];refine .inr ⟨rfl,λX g n=>?_⟩;rw[Xj,Hh]at n;obtain⟨⟨i,d⟩,j,f⟩:=n;obtain⟨l,c⟩:=dC hh.hu va k (by omega) g.1.ty d f;exact p l c
omit hh in
theorem A4H {l l':List (List AD)} (hp:∀x,x∈l↔x∈l') (X:List AD):zE h l X↔zE h l' X:=⟨λa x hx=>a x ((hp x).2 hx),λa x hx=>a x ((hp x).1 hx)⟩
omit hh in
theorem Mr.perm {l l':List (List AD)} {r:List AD×Bool} (H:Mr h l r) (hp:∀x,x∈l↔x∈l'):Mr h l' r:=H.congr λX _=>A4H hp X
omit hh in
theorem zF {a b:List AD}:(dB h a b).1.length<=a.length+b.length:=by
 unfold dB
 split
 .rename_i e
  have:=(HE e).len
  cases c:Jn h (BK h a b).1 with
  | none=>rw[UE c];simp
  | some ty=>rw[UD c,ER];exact this
 simp
omit hh in
theorem Mr.vf {l:List (List AD)} {r:List AD×Bool} (H:Mr h l r) (e:r.2=true):TU h l r.1:=by
 rcases H with ⟨-,b⟩|⟨a,-⟩
 .exact b
 rw[a]at e;cases e
end
structure PF (h:AG) (S:List AD):Prop where
 good:AN S
 pos:0<S.length
 ty:Cc h S
 str:∀x∈S,Li x.2
 ft:∀x∈S,∀a∈x.2,0<=a.1/\a.1<(h.2.length:Int)
theorem VF.pf {h:AG} {f:List AD} (v:VF h f):PF h f:=⟨v.good,v.pos,v.ty,v.str,v.ft⟩
theorem kK {S:List AD} (a:AN S) {r:Int} (b:0<=r) (c:r<(S.length:Int)):∀x∈AL S r,∃n∈Ca S S.length [] r,(0<=n/\n<(S.length:Int))/\x=Cj S (Ca S S.length [] r) n:=λx hx=>by
 obtain⟨n,hn,rfl⟩:=GO.1 hx;exact⟨n,hn,(Hf a b c).ok.rng n hn,rfl⟩
theorem A8i {S:List AD} (b:AN S) {r:Int} (c:0<=r) (d:r<(S.length:Int)):RO (AL S r):=by
 have k:=Hf b c d;have h:=Qp b S.length [] r (F8 _) c d (by simp);have n:=Ie S r;have g:=λi=>Id (f:=S) (r:=r) (i:=i);generalize AL S r=C at *;generalize Ca S S.length [] r=o at *;intro i l m;obtain⟨j,p,a,ha,e⟩:=h i.toNat (by simp only[AAg];omega) (by omega);refine⟨(j:Int),by omega,by omega,HC o a,?_,?_⟩
 .rw[AP,RK,g j (by omega)];exact GO.2 ⟨a,ha,rfl⟩
 show Bv o a.2=i;rw[e,F9 k.ok.nd (by omega)];omega
theorem pJ {h:AG} {S:List AD} (p:PF h S) {r:Int} (c:0<=r) (d:r<(S.length:Int)):VF h (AL S r):=by
 have e:=A1g p.good c d;refine⟨e.1,e.2,A85 p.good p.ty c d,λx hx=>?_,λx hx a ha=>?_,jK p.good c d,A8i p.good c d⟩
 .obtain⟨n,-,hn,rfl⟩:=kK p.good c d x hx;show List.Pairwise _ (List.map _ _);rw[AAe];exact(Gi p.str n).imp λh=>h
 obtain⟨n,-,hn,rfl⟩:=kK p.good c d x hx;obtain⟨b,f,rfl⟩:=GO.1 ha;exact p.ft _ (AE S (0,[]) (by omega)) b f
theorem Q7 {h:AG} {g c:List AD} (E:AN g) (H:0<g.length) (G:RO g) (y:PF h c) {v:Int->Int} (p:LI h g [] c v):HH h g (AL c (v 0)) λi=>Bv (Ca c c.length [] (v 0)) (v i):=by
 have s:=p.rng 0 (by omega) (by omega);have m:=Hf y.good s.1 s.2;have I:=Ie c (v 0);have z:=λi=>Id (f:=c) (r:=v 0) (i:=i);have cs:=(pJ y s.1 s.2).str;generalize AL c (v 0)=C at *;generalize Ca c c.length [] (v 0)=o at *;have q:∀(n:Nat) (i:Int),i.toNat<=n->0<=i->i<(g.length:Int)->v i∈o:=by
  intro n;induction n with
  | zero =>
   intro i q k d;rw[show i=0 by omega,<-m.zero.1];exact AE o 0 m.zero.2
  | succ n B =>
   intro i q k d;by_cases J:i=0
   .exact B i (by omega) k d
   obtain⟨j,D,K,x,hx,e⟩:=G i (by omega) d;have F:=B j (by omega) D (by omega);have ha:=p.arc j D (by omega) x hx;have u:=p.rng i k d;obtain⟨b,t,e1,e2⟩:=Ic (l:=AP c (v j)) (e:=x.1) (by rw[ha,e];exact u.1);have:=m.cl _ F b t;rw[e2,ha,e]at this;exact this
 refine⟨?_,λi k d=>?_,λi k d=>?_,λi k d x hx=>?_⟩
 .have:=F9 m.ok.nd m.zero.2;rw[m.zero.1]at this;exact this
 .have:=DN (q _ i (If _) k d);try simp only
  omega
 .have w:=DN (q _ i (If _) k d);try simp only
  rw[z _ (by omega)];show Av h _ (c.getD (o.getD (Bv o (v i)).toNat 0).toNat (0,[])).1=true;rw[w.2.2];exact p.ty i k d
 have w:=DN (q _ i (If _) k d);have ha:=p.arc i k d x hx;have A:=Ay E hx;have u:=p.rng x.2 A.1 A.2;obtain⟨b,t,e1,e2⟩:=Ic (l:=AP c (v i)) (e:=x.1) (by rw[ha];exact u.1);try simp only
 rw[<-ha,<-e2,<-e1];refine EI (a:=HC o b) (Gi cs _) ?_;rw[AP,z _ (by omega),w.2.2];exact GO.2 ⟨b,t,rfl⟩
theorem A4I {h:AG} {f:List AD} (hf:PF h f) {r:Int} (k:0<=r) (l:r<(f.length:Int)):LI h (AL f r) [] f (λi=>(Ca f f.length [] r).getD i.toNat 0)/\(Ca f f.length [] r).getD 0 0=r:=by
 have a:=Hf hf.good k l;have m:=Ie f r;have d:=λi=>Id (f:=f) (r:=r) (i:=i);generalize AL f r=C at *;generalize Ca f f.length [] r=o at *;refine⟨⟨λi e g=>a.ok.rng _ (AE o 0 (by omega)),λi e g=>?_,λi e g x hx=>?_,λq j=>by cases j⟩,a.zero.1⟩
 .rw[d _ (by omega)];exact Fe h _
 rw[AP,d _ (by omega)]at hx;obtain⟨b,c,rfl⟩:=GO.1 hx;show Bw _ b.1=o.getD (Bv o b.2).toNat 0;rw[(DN (a.cl _ (AE o 0 (by omega)) b c)).2.2];exact EI (Gi hf.str _) c
theorem dF {h:AG} {f:List AD} (a:Cc h f) {i:Int} (b:0<=i) (c:i<(f.length:Int)):0<=(f.getD i.toNat (0,[])).1/\(f.getD i.toNat (0,[])).1<(h.1.length:Int):=a _ (AE f (0,[]) (by omega))
theorem Xk {h:AG} (hk:HX h) {a b c:List AD} (r:AN a) (ta:Cc h a) (tb:Cc h b) (z:Cc h c) {v w:Int->Int} (h1:LI h a [] b v) (j:LI h b [] c w):LI h a [] c λi=>w (v i):=by
 refine⟨λi f g=>?_,λi f g=>?_,λi f g x hx=>?_,λq s=>by cases s⟩
 .have:=h1.rng i f g;exact j.rng _ this.1 this.2
 .have d:=h1.rng i f g;have p:=j.rng _ d.1 d.2;have m:=dF ta f g;have n:=dF tb d.1 d.2;have o:=dF z p.1 p.2;exact LH hk m.1 m.2 n.1 n.2 o.1 o.2 (h1.ty i f g) (j.ty _ d.1 d.2)
 have d:=h1.rng i f g;have k:=Ay r hx;have u:=h1.rng x.2 k.1 k.2;have ha:=h1.arc i f g x hx;obtain⟨y,t,e1,e2⟩:=Ic (l:=AP b (v i)) (e:=x.1) (by rw[ha];exact u.1);have:=j.arc _ d.1 d.2 y t;rw[e1,e2,ha]at this;exact this
def ADm (f:List AD) (e:Int):List (Int×Int):=(f.getD 0 (0,[])).2.filter λa=>a.1 != e
def ADn (f:List AD) (e:Int):List AD:=((f.getD 0 (0,[])).1,AY 1 (ADm f e)) :: f.map λx=>(x.1,AY 1 x.2)
def A92 (f:List AD) (e:Int):List AD:=AL (ADn f e) 0
theorem Cy {b:Nat} {l:List (Int×Int)} {a:Int×Int}:a∈AY b l↔∃x∈l,a=(x.1,x.2+(b:Int)):=by
 unfold AY;rw[GO];exact⟨λ⟨x,h1,c⟩=>⟨x,h1,c.symm⟩,λ⟨x,h1,c⟩=>⟨x,h1,c.symm⟩⟩
def Nb (b:Nat) (g:List AD) (i:Nat):List AD:=(g.take i).map λx:AD=>(x.1,AY b x.2)
theorem kL (b:Nat) (g:List AD) {i:Nat} (h:i<g.length):Nb b g (i+1)=Nb b g i++[((g.getD i (0,[])).1,AY b (g.getD i (0,[])).2)]:=by
 unfold Nb;rw[Au g (0,[]) h,Sw];rfl
theorem JO (b:Nat) (g:List AD):Nb b g g.length=g.map λx:AD=>(x.1,AY b x.2):=by
 unfold Nb;rw[RD]
theorem Hi (b:Nat) (g:List AD) {i:Nat} (h:i<=g.length):(Nb b g i).length=i:=by
 unfold Nb;rw[OR,OS];omega
def dG:AZ:={ ins:=[F1,DE],pre:=λ(p,g,_)=>List.length p<=1000/\AN g,out:=λ(p,g,_)=>[.p DE (BP p g)] }
theorem A4J:Af Tryz.prog 141 dG:=by
 refine fKP [0,1,3,4,5,6,7,9,10,12,13,14,15,16,33,34,35,36,43,44,45,46] [26] [] Tryz.func141 Tryz.ntmps141 AH ?_;rintro w0 O0 ⟨p,g,u⟩ e-⟨hp,f⟩;have I:=f.1;simp only[dG,AM];repeat'(first|exact trivial|apply eS rfl|apply AB|refine rX e ?_ ?_|refine rC ?_ ?_<;>intro b<;>try(cases b;done))
 refine AK (ι:={k:Nat//k<=p.length}) (λk=>⟨[(0,.p F1 p),(3,.bp 3 [] 0),(4,.bp 4 [] 0),(5,.bp 5 [] 0),(13,.p F1 p),(14,.p (.int .i64) (p.length:Int)),(15,.p (.int .i64) (k.1:Int))],[(3,.box 25 true [.p G2 g]),(4,.box 25 true [.raw (.slice none 0 0)]),(5,.box 25 true [.sr 29 Hd 0 (GC p k.1).length]),(29,.arr 93 Hd (GC p k.1))]⟩) (λk=>p.length-k.1) ⟨0,NO _⟩ (AC [(3,.nm 3),(4,.nm 4),(5,.nm 5),(29,.nil)] rfl rfl ?_ ?_) (λk=>?_)
 .first|exact eN|refine eM ?_
  exact⟨rfl,rfl⟩
 .first|exact eN|refine eM ?_
 obtain⟨k,hk⟩:=k;have B:=Ep p k;repeat'(first|exact trivial|apply eS rfl|apply AB|refine rX e ?_ ?_|refine rC ?_ ?_<;>intro b<;>try(cases b;done))
 .exact b
 .have n:k<p.length:=IN.1 b;refine⟨⟨by omega,by omega⟩,?_⟩;rw[B];simp only[AO];omega
 .omega
 .have n:k<p.length:=IN.1 b;have hs:=jS p k;refine⟨⟨k+1,n⟩,by simp only;omega,AC [(3,.nm 3),(4,.nm 4),(5,.nm 5),(29,.nm 29)] rfl rfl ?_ ?_⟩
  .simp only[hs];first|exact eN|refine eM ?_
  first|exact eN|refine eM ?_
 have D:k=p.length:=by
  have:=RJ.1 b;omega
 subst D;obtain⟨t,m⟩:∃c,GC p p.length=c:=⟨_,rfl⟩;have A:=Ep p p.length;have s:t++g.map (λx:AD=>(x.1,AY p.length x.2))=BP p g:=by rw[<-m];rfl
 generalize GC p p.length=ch at *;subst m;refine AK (ι:={i:Nat//i<=g.length}) (λi=>⟨[(0,.p F1 p),(3,.bp 3 [] 0),(4,.bp 4 [] 0),(5,.bp 5 [] 0),(33,.p G2 g),(34,.p (.int .i64) (g.length:Int)),(35,.p (.int .i64) (i.1:Int))],[(3,.box 25 true [.p G2 g]),(4,.box 25 true [.raw (.slice none 0 0)]),(5,.box 25 true [.sr 29 Hd 0 (ch++Nb p.length g i.1).length]),(29,.arr 93 Hd (ch++Nb p.length g i.1))]⟩) (λi=>g.length-i.1) ⟨0,NO _⟩ (AC [(3,.nm 3),(4,.nm 4),(5,.nm 5),(29,.nm 29)] rfl rfl ?_ ?_) (λi=>?_)
 .have v:ch++Nb p.length g 0=ch:=by simp[Nb]
  simp only[v];first|exact eN|refine eM ?_
 .first|exact eN|refine eM ?_
 obtain⟨i,hi⟩:=i;have E:=Hi p.length g hi;have r:=λh:i<g.length=>kL p.length g h;simp only;generalize o:Nb p.length g i=os at *;repeat'(first|exact trivial|apply eS rfl|apply AB|refine rX e ?_ ?_|refine rC ?_ ?_<;>intro b<;>try(cases b;done))
 .exact b
 .have l:i<g.length:=IN.1 b;have q:=KI f i;have G:(g.getD i (0,[])).2.length<=100000:=(f.2 _ (AE g (0,[]) l)).1;generalize hx:g.getD i (0,[])=x at *;obtain⟨H,xs⟩:=x;simp only at q G r ⊢;refine AK (ι:={j:Nat//j<=xs.length}) (λj=>⟨[(0,.p F1 p),(3,.bp 3 [] 0),(4,.bp 4 [] 0),(5,.bp 5 [] 0),(10,.bp 10 [] 0),(33,.p G2 g),(34,.p (.int .i64) (g.length:Int)),(35,.p (.int .i64) (i:Int)),(43,.p Cm xs),(44,.p (.int .i64) (xs.length:Int)),(45,.p (.int .i64) (j.1:Int))],[(3,.box 25 true [.p G2 g]),(4,.box 25 true [.raw (.slice none 0 0)]),(5,.box 25 true [.sr 29 Hd 0 (ch++os).length]),(29,.arr 93 Hd (ch++os)),(10,.box 93 true [.p T3 H,.sr 60 AU 0 (AY p.length (xs.take j.1)).length]),(60,.arr 106 AU (AY p.length (xs.take j.1)))]⟩) (λj=>xs.length-j.1) ⟨0,NO _⟩ (AC [(3,.nm 3),(4,.nm 4),(5,.nm 5),(29,.nm 29),(10,.nm 10),(60,.nil)] rfl rfl ?_ ?_) (λj=>?_)
  .first|exact eN|refine eM ?_
   exact⟨rfl,rfl⟩
  .first|exact eN|refine eM ?_
  obtain⟨j,J⟩:=j;have w:(AY p.length (xs.take j)).length=j:=by unfold AY;rw[OR,OS];omega
  have y:=λh:j<xs.length=>CL (λa:Int×Int=>(a.1,a.2+(p.length:Int))) xs (0,0) h;simp only;repeat'(first|exact trivial|apply eS rfl|apply AB|refine rX e ?_ ?_|refine rC ?_ ?_<;>intro b<;>try(cases b;done))
  .exact b
  .have d:j<xs.length:=IN.1 b;have K:=q _ (AE xs (0,0) d);refine⟨⟨by omega,by omega⟩,?_⟩;rw[w];simp only[AO];omega
  .omega
  .have d:j<xs.length:=IN.1 b;have z:AY p.length (xs.take (j+1))=AY p.length (xs.take j)++[((xs.getD j (0,0)).1,(xs.getD j (0,0)).2+(p.length:Int))]:=y d;refine⟨⟨j+1,d⟩,by simp only;omega,AC [(3,.nm 3),(4,.nm 4),(5,.nm 5),(29,.nm 29),(10,.nm 10),(60,.nm 60)] rfl rfl ?_ ?_⟩
   .simp only[z];first|exact eN|refine eM ?_
   first|exact eN|refine eM ?_
  .rw[A,E];simp only[AO];omega
  .omega
  have d:xs.take j=xs:=At (RJ.1 b);have F:=r l;rw[d];refine⟨⟨i+1,l⟩,by simp only;omega,AC [(3,.nm 3),(4,.nm 4),(5,.nm 5),(29,.nm 29)] rfl rfl ?_ ?_⟩
  .simp only[F,<-RN];first|exact eN|refine eM ?_
  first|exact eN|refine eM ?_
 have C:i=g.length:=by
  have:=RJ.1 b;omega
 subst C;rw[JO]at o;rw[o]at s;exact fI e [.cell 4 25] (by rw[<-s];exact eR)
def Fh (l:List (Int×Int)) (e:Int):Int×Bool:=match l with
 | []=>(0,false)
 | a :: l=>if a.1=e then (a.2,true) else Fh l e
theorem Xl (e:Int) (l:List (Int×Int)) {k:Nat} (h:k<l.length):Fh (l.drop k) e=if (l.getD k (0,0)).1=e then ((l.getD k (0,0)).2,true) else Fh (l.drop (k+1)) e:=by
 rw[Of h];have e:l.getD k (0,0)=l[k]:=by simp[AS,h]
 rw[e];rfl
def A4K:AZ:={ ins:=[DE,T3,T3],pre:=λ(f,n,_,_)=>EV f/\0<=n/\n<(List.length f:Int),out:=λ(f,n,e,_)=>[.p T3 (Fh (List.getD f n.toNat (0,[])).2 e).1,.p .bool (Fh (List.getD f n.toNat (0,[])).2 e).2] }
theorem A8j:Af Tryz.prog 123 A4K:=by
 refine fK [0,1,2,3,6,7,9,15,16,17,18,24] Tryz.func123 Tryz.ntmps123 AH ?_;rintro w0 O0 ⟨f,n,e,u⟩ c-⟨hf,h0,h1⟩;simp only[A4K,AM];repeat'(first|exact trivial|apply eS rfl|apply AB|refine rX c ?_ ?_|refine rC ?_ ?_<;>intro a<;>try(cases a;done))
 .exact⟨h0,h1⟩
 generalize hx:(f.getD n.toNat (0,[])).2=xs at *;have g:xs.length<=100000:=by
  rw[<-hx];have hn:n.toNat<f.length:=by
   have h0:(0:Int)<=n:=h0;have h1:(n:Int)<(List.length f:Int):=h1;exact(AFD h0).2 h1
  exact hf.2 _ (AE f (0,[]) hn)
 refine AK (ι:={k:Nat//k<=xs.length/\Fh xs e=Fh (xs.drop k) e}) (λk=>⟨[(2,.p T3 e),(15,.p Cm xs),(16,.p (.int .i64) (xs.length:Int)),(17,.p (.int .i64) (k.1:Int))],[]⟩) (λk=>xs.length-k.1) ⟨0,NO _,rfl⟩ (AC [] rfl rfl ?_ ?_) (λk=>?_)
 .first|exact eN|refine eM ?_
 .first|exact eN|refine eM ?_
 obtain⟨k,hk,d⟩:=k;repeat'(first|exact trivial|apply eS rfl|apply AB|refine rX c ?_ ?_|refine rC ?_ ?_<;>intro a<;>try(cases a;done))
 .exact a
 .have b:k<xs.length:=IN.1 (by assumption);have h:=Xl e xs b;rw[BY a]at h;rw[d,h];exact fI c [.tmp 6,.tmp 7]
 .omega
 .have b:k<xs.length:=IN.1 (by assumption);have h:=Xl e xs b;rw[As a]at h;refine⟨⟨k+1,b,d.trans h⟩,by simp only;omega,AC [] rfl rfl ?_ ?_⟩
  .first|exact eN|refine eM ?_
  first|exact eN|refine eM ?_
 have b:xs.drop k=[]:=RC (RJ.1 a);rw[b]at d;rw[d];exact fI c [.tmp 6,.tmp 7] (by first|exact eR|refine Yw ?_;exact⟨rfl,rfl⟩)
section
attribute [local go_sem] A4K
def KR (f:List AD):Int->List Int->Int×Bool
 | n,[]=>(n,true)
 | n,e :: p=>if (Fh (AP f n) e).2=true then KR f (Fh (AP f n) e).1 p else (0,false)
theorem Zt {p:List Int} {k:Nat} (h:k<p.length):p.drop k=p.getD k 0 :: p.drop (k+1):=by
 rw[Of h];simp[AS,h]
theorem kM {l:List (Int×Int)} {e:Int} (h:(Fh l e).2=true):∃a∈l,a.1=e/\a.2=(Fh l e).1:=by
 induction l with
 | nil=>simp[Fh]at h
 | cons a l f =>
  simp only[Fh]at h ⊢;split
  .rename_i e1;exact⟨a,by simp,e1,rfl⟩
  rename_i e1;rw[As e1]at h;obtain⟨b,d,h1,c⟩:=f h;exact⟨b,by simp[d],h1,c⟩
theorem A1s {l:List (Int×Int)} (hs:Li l) (hn:∀a∈l,0<=a.2) (e:Int):Fh l e=if lI l e<0 then (0,false) else (lI l e,true):=by
 cases h:(Fh l e).2 with
 | true =>
  obtain⟨a,ha,e1,e2⟩:=kM h;have d:=yL hs ha;rw[e1]at d;have:=hn a ha;rw[As (by omega),d,e2,<-h]
 | false =>
  have c:∀a∈l,a.1≠e:=by
   intro a ha e1;clear hs hn;induction l with
   | nil=>cases ha
   | cons b l f =>
    simp only[Fh]at h;split at h
    .cases h
    rename_i g;rcases DO.1 ha with rfl|ha
    .exact g e1
    exact f h ha
  have d:lI l e=-1:=by
   unfold lI;clear hs hn h;generalize (-1:Int)=t;induction l with
   | nil=>rfl
   | cons b l f =>
    rw[RE,As (c b (by simp))];exact f (λa ha=>c a (by simp[ha]))
  have h0:(Fh l e).1=0:=by
   clear hs hn d;induction l with
   | nil=>rfl
   | cons b l f =>
    simp only[Fh];rw[As (c b (by simp))];refine f ?_ (λa ha=>c a (by simp[ha]));simp only[Fh]at h
    rwa [As (c b (by simp))]at h
  rw[d,BY (by decide),<-h0,<-h]
theorem Xm {f:List AD} (hf:AN f) (hs:∀x∈f,Li x.2):∀(p:List Int) (n:Int),KR f n p=match B2 f n p with|some m=>(m,true)|none=>(0,false)
 | [],n=>rfl
 | e :: p,n=>by
  have h:=A1s (Gi hs n) (λa ha=>(Ay hf ha).1) e;simp only[KR,B2];rw[h];by_cases b:lI (AP f n) e<0
  .rw[BY b,BY b];rfl
  rw[As b,As b];exact Xm hf hs p _
def atS:AZ:={ ins:=[DE,F1],pre:=λ(f,_,_)=>AN f/\0<List.length f,out:=λ(f,p,_)=>[.p T3 (KR f 0 p).1,.p .bool (KR f 0 p).2] }
attribute [local go_sem] atS
theorem ADo:Af Tryz.prog 68 atS:=by
 refine fK [0,1,2,4,5,6,8,9,10,11,12,13,14,25] Tryz.func68 Tryz.ntmps68 (AF A8j AH) ?_;rintro w0 O0 ⟨f,p,u⟩ e ⟨-,⟨h,-⟩,-⟩ ⟨hf,h0⟩;simp only[AO]at h;simp only[atS,AM];have i:EV f:=⟨hf.1,λx hx=>(hf.2 x hx).1⟩;have h0:0<f.length:=h0;repeat'(first|exact trivial|apply eS rfl|apply AB|refine rX e ?_ ?_|refine rC ?_ ?_<;>intro b<;>try(cases b;done))
 refine AK (ι:={s:Nat×Int//s.1<=p.length/\(0<=s.2/\s.2<(f.length:Int))/\KR f 0 p=KR f s.2 (p.drop s.1)}) (λs=>⟨[(2,.bp 2 [] 0),(6,.p T3 s.1.2),(11,.p F1 p),(12,.p (.int .i64) (p.length:Int)),(13,.p (.int .i64) (s.1.1:Int))],[(2,.box 25 true [.p G2 f])]⟩) (λs=>p.length-s.1.1) ⟨(0,0),NO _,⟨ADC 0,by show (0:Int)<_;omega⟩,rfl⟩ (AC [(2,.nm 2)] rfl rfl ?_ ?_) (λs=>?_)
 .first|exact eN|refine eM ?_
 .first|exact eN|refine eM ?_
 obtain⟨⟨k,n⟩,hk,hn,d⟩:=s;simp only at hk hn d ⊢;repeat'(first|exact trivial|apply eS rfl|apply AB|refine rX e ?_ ?_|refine rC ?_ ?_<;>intro b<;>try(cases b;done))
 .exact b
 .exact⟨i,hn⟩
 .have c:k<p.length:=IN.1 (by assumption);have h1:KR f 0 p=(0,false):=by
   rw[d,Zt c];simp only[KR];rw[As (by rw[b];simp)]
  exact fI e [.tmp 4,.tmp 5] (by rw[h1];exact eR)
 .omega
 .have c:k<p.length:=IN.1 (by assumption);have h1:=d;rw[Zt c]at h1;simp only[KR]at h1;rw[BY b]at h1;obtain⟨a,ha,-,e2⟩:=kM b;have g:=Ay hf ha;rw[e2]at g;refine⟨⟨(k+1,(Fh (f.getD n.toNat (0,[])).2 (p.getD k 0)).1),c,g,h1⟩,by simp only;omega,AC [(2,.nm 2)] rfl rfl ?_ ?_⟩
  .first|exact eN|refine eM ?_
  first|exact eN|refine eM ?_
 have c:p.drop k=[]:=RC (RJ.1 b);rw[c]at d;exact fI e [.tmp 4,.tmp 5] (by rw[d];first|exact eR|refine Yw ?_;exact⟨rfl,rfl⟩)
end
def kN (h:AG):Int:=YR h (sb [65,82,71,83])
def pK (h:AG) (i:Nat):List Int:=kN h :: (List.replicate i (AR h).rest++[(AR h).first])
theorem A8k (h:AG) (i:Nat):(pK h i).length=i+2:=by simp[pK]
def Ij (pl:Nat->List Int):Nat->List (List AD)->List (List AD)
 | _,[]=>[]
 | i,k :: l=>BP (pl i) k :: Ij pl (i+1) l
noncomputable def Gl (h:AG) (pl:Nat->List Int):Nat->List AD->List (List AD)->List AD×Bool
 | _,f,[]=>(f,true)
 | i,f,k :: l=>if (dB h f (BP (pl i) k)).2=true then Gl h pl (i+1) (dB h f (BP (pl i) k)).1 l else ([],false)
theorem Xn {pl:Nat->List Int} {x:List AD}:∀ {l:List (List AD)} {i:Nat},x∈Ij pl i l->∃j,j<l.length/\x=BP (pl (i+j)) (l.getD j [])
 | k :: l,i,h=>by
  rcases DO.1 h with rfl|h
  .exact⟨0,by simp,rfl⟩
  obtain⟨j,a,rfl⟩:=Xn h;exact⟨j+1,by simpa using a,by rw[show i+(j+1)=i+1+j by omega];rfl⟩
theorem Xo {h:AG} {pl:Nat->List Int}:∀ {l:List (List AD)} {i:Nat} {f:List AD},(∀x∈Ij pl i l,x.length<=100)->(Gl h pl i f l).1.length<=f.length+100*l.length
 | [],i,f,_=>If _
 | k :: l,i,f,hx=>by
  unfold Gl;split
  .have h1:=zF (h:=h) (a:=f) (b:=BP (pl i) k);have d:=hx _ (AAj (a:=BP (pl i) k) (l:=Ij pl (i+1) l));have e:=Xo (h:=h) (pl:=pl) (l:=l) (i:=i+1) (f:=(dB h f (BP (pl i) k)).1) λx c=>hx x (IF _ c);simp only[No];omega
  simp
section
variable {h:AG} (hh:H14 h)
include hh
theorem Xp {pl:Nat->List Int}:∀(l:List (List AD)) (i:Nat) (f:List AD) (L:List (List AD)),Mr h L (f,true)->(∀x∈L,VF h x)->(∀x∈Ij pl i l,VF h x/\x.length<=100)->f.length+100*l.length<=10000->Mr h (L++Ij pl i l) (Gl h pl i f l)
 | [],i,f,L,H,o,hx,hl=>by
  show Mr h (L++[]) (f,true);rw[Ra];exact H
 | k :: l,i,f,L,H,o,hx,hl=>by
  have hu:=hx _ (AAj (a:=BP (pl i) k) (l:=Ij pl (i+1) l));have g:=H.vf rfl;simp only[No]at hl;have t:=zF (h:=h) (a:=f) (b:=BP (pl i) k);have hs:Mr h (L++[BP (pl i) k]) (dB h f (BP (pl i) k)):=by
   refine(A8h hh g.wt.1 hu.1 (by have:=hu.2;show f.length+_<=10000;omega)).congr λX j=>?_;rw[Xj,Hh];constructor
   .rintro⟨⟨m,d⟩,q⟩ x r;rcases Is.1 r with c|c
    .exact A4G hh.ok o g.wt.1 j.1 g.hom d x c
    rw[RM.1 c];exact q
   intro n;exact⟨g.least X j λx d=>n x (S2 _ d),n _ (AEf _ (RM.2 rfl))⟩
  show Mr h (L++BP (pl i) k :: Ij pl (i+1) l) (Gl h pl i f (k :: l));unfold Gl;split
  .rename_i p;have:=Xp l (i+1) (dB h f (BP (pl i) k)).1 (L++[BP (pl i) k]) (by rw[<-p];exact hs) (λx d=>by
    rcases Is.1 d with c|c
    .exact o x c
    rw[RM.1 c];exact hu.1) (λx d=>hx x (IF _ d)) (by omega)
   rwa [RN,List.singleton_append]at this
  rename_i p;refine .inr ⟨rfl,λX j n=>?_⟩;rcases hs with ⟨e,-⟩|⟨-,s⟩
  .exact p e
  refine s X j λx d=>n x ?_;rcases Is.1 d with c|c
  .exact S2 _ c
  exact AEf _ (by rw[RM.1 c];exact AAj)
omit hh in
theorem A1t {f:List AD} (a:Wt h f):Mr h [f] (f,true):=.inl ⟨rfl,a,Hh.2 ⟨id,XS a.1.str⟩,λ_ _ b=>Hh.1 b⟩
end
theorem AA1 {h:AG} (e:Ea h=true) (ha:0<=kN h) (i:Nat):FtP h (pK h i):=by
 obtain⟨⟨h1,a⟩,-⟩:=OJ e;have b:=GD h (sb [70,73,82,83,84]);have c:=GD h (sb [82,69,83,84]);have d:=GD h (sb [65,82,71,83]);intro x hx;rcases DO.1 hx with rfl|hx
 .exact⟨ha,d.2⟩
 rcases Is.1 hx with hx|hx
 .rw[(List.mem_replicate.1 hx).2];exact⟨a,c.2⟩
 rw[RM.1 hx];exact⟨h1,b.2⟩
structure AA2 (h:AG) (ar:Int) (f:List AD):Prop where
 arb:1<=ar/\ar<=2
 chk:c8 h f=0
 args:0<=kN h
 lw:Ea h=true
 walk:∀i:Nat,(i:Int)<ar->∃n,B2 f 0 (pK h i)=some n
section
attribute [local go_sem] Jl Pc Xc
def BD (h:AG) (w:LW):Obj:=.box 115 true [.p Dn h,.p T3 w.list,.p T3 w.cons,.p T3 w.null,.p T3 w.dlist,.p T3 w.first,.p T3 w.rest,.p T3 w.head,.p T3 w.last]
theorem kO (h:AG) (w:LW) (f:List AD) (n:Int):A9 Tryz.prog 90 [.p WE (wdF h w),.p DE f,.p T3 n] [] [] (λres c=>res=.clo 139 [5,3,4]/\c=[(5,.box 3 false [.p T3 n]),(4,.box 25 true [.p G2 f]),(3,BD h w)]):=by
 refine KY [0,1,2,3,4,5,6] [] [] Tryz.func90 Tryz.ntmps90 AH ?_;intro w0 K O0 ρ0 a d e;simp only[Ak,wdF];repeat'(first|exact trivial|apply eS rfl|apply AB|refine rX a ?_ ?_|refine rC ?_ ?_<;>intro b<;>try(cases b;done))
 exact fM a [.tmp 6] (.clo 139 [5,3,4]) eT ⟨rfl,rfl⟩
abbrev WS:=List Int×List Int×Bool×Int
def Cz (f:List AD) (n:Int):AD:=f.getD n.toNat (0,[])
def Ms (h:AG) (w:LW) (f:List AD) (s:WS):WS:=(s.1++[s.2.2.2],if Bz h w (Cz f s.2.2.2)=2 then s.2.1++[Bw (Cz f s.2.2.2).2 w.first] else s.2.1,decide (Bz h w (Cz f s.2.2.2)=1),Bw (Cz f s.2.2.2).2 w.rest)
def Ao (h:AG) (w:LW) (f:List AD) (n:Int):Nat->WS
 | 0=>([],[],false,n)
 | i+1=>Ms h w f (Ao h w f n i)
def WGo (h:AG) (w:LW) (f:List AD) (n:Int) (i:Nat):Prop:=∀j,j<i->Bz h w (Cz f (Ao h w f n j).2.2.2)=2/\(Ao h w f n j).2.2.2∉(Ao h w f n j).1
theorem A1u (h:AG) (w:LW) (x:AD):Bz h w x=0\/Bz h w x=1\/Bz h w x=2\/Bz h w x=3:=by
 unfold Bz;split
 .exact .inr (.inl rfl)
 split
 .exact .inr (.inr (.inl rfl))
 split
 .exact .inr (.inr (.inr rfl))
 exact .inl rfl
theorem LQ {h:AG} {w:LW} {f:List AD} {n:Int} (hf:AN f) (n0:0<=n) (n1:n<(f.length:Int)):∀i,WGo h w f n i->Ji f (Ao h w f n i).1/\(Ao h w f n i).1.length=i/\(0<=(Ao h w f n i).2.2.2/\(Ao h w f n i).2.2.2<(f.length:Int))/\(Ao h w f n i).2.1.length=i
 | 0,_=>⟨F8 f,rfl,⟨n0,n1⟩,rfl⟩
 | i+1,c=>by
  obtain⟨h1,d,a,e⟩:=LQ hf n0 n1 i (λj k=>c j (by omega));obtain⟨b,g⟩:=c i (by omega);have hk:=Zl b;refine⟨h1.snoc a.1 a.2 g,?_,⟨hk.2,?_⟩,?_⟩
  .show ((Ao h w f n i).1++_).length=_;rw[By,d];rfl
  .exact Us (by omega) _ λx hx=>(Ay hf (n:=(Ao h w f n i).2.2.2) hx).2
  show (if _ then _ else _:List Int).length=_;rw[BY b,By,e];rfl
theorem kP {h:AG} {w:LW} {f:List AD} {n:Int} (k:Nat):∀i,WGo h w f n i->Zk h w f (k+i) [] [] n=Zk h w f k (Ao h w f n i).1 (Ao h w f n i).2.1 (Ao h w f n i).2.2.2
 | 0,_=>rfl
 | i+1,b=>by
  have e:=kP (h:=h) (w:=w) (f:=f) (n:=n) (k+1) i (λj g=>b j (by omega));obtain⟨a,d⟩:=b i (by omega);rw[show k+(i+1)=k+1+i by omega,e];have c:Bz h w (f.getD (Ao h w f n i).2.2.2.toNat (0,[]))=2:=a;show (if _ then _ else _)=_;rw[As d,c,As (by decide),As (by decide),As (by decide)];show _=Zk h w f k (Ms h w f (Ao h w f n i)).1 (Ms h w f (Ao h w f n i)).2.1 (Ms h w f (Ao h w f n i)).2.2.2;unfold Ms;rw[BY a];rfl
theorem A4L {h:AG} {f:List AD} {n:Int} (hf:AN f) (j:Ea h=true) (n0:0<=n) (n1:n<(f.length:Int)) {i:Nat} (c:WGo h (AR h) f n i) :
  ((Ao h (AR h) f n i).2.2.2∈(Ao h (AR h) f n i).1->D9 h f n=([],false,6)) /\
  ((Ao h (AR h) f n i).2.2.2∉(Ao h (AR h) f n i).1->Bz h (AR h) (Cz f (Ao h (AR h) f n i).2.2.2)=0->D9 h f n=([],false,13)) /\
  ((Ao h (AR h) f n i).2.2.2∉(Ao h (AR h) f n i).1->Bz h (AR h) (Cz f (Ao h (AR h) f n i).2.2.2)≠0->Bz h (AR h) (Cz f (Ao h (AR h) f n i).2.2.2)≠2->D9 h f n=((Ao h (AR h) f n (i+1)).2.1,(Ao h (AR h) f n (i+1)).2.2.1,0)):=by
 obtain⟨h1,k,l,-⟩:=LQ hf n0 n1 i c;have hl:=h1.len;have e:D9 h f n=Zk h (AR h) f ((f.length-i)+1) (Ao h (AR h) f n i).1 (Ao h (AR h) f n i).2.1 (Ao h (AR h) f n i).2.2.2:=by
  unfold D9;rw[BY j,<-kP _ _ c,show f.length-i+1+i=f.length+1 by omega]
 rw[e];show (_->(if _ then _ else _)=_)/\(_->_->(if _ then _ else _)=_)/\(_->_->_->(if _ then _ else _)=_);refine⟨λq=>BY q,λb a=>?_,λb a d=>?_⟩
 .have a:Bz h (AR h) (f.getD (Ao h (AR h) f n i).2.2.2.toNat (0,[]))=0:=a;rw[As b,a];rfl
 have hk:=A1u h (AR h) (Cz f (Ao h (AR h) f n i).2.2.2);have hs:(Ao h (AR h) f n (i+1)).2.1=(Ao h (AR h) f n i).2.1:=As d;have g:(Ao h (AR h) f n (i+1)).2.2.1=decide (Bz h (AR h) (Cz f (Ao h (AR h) f n i).2.2.2)=1):=rfl;rw[As b,hs,g];show (if Bz h (AR h) (Cz f (Ao h (AR h) f n i).2.2.2)=1 then _ else if Bz h (AR h) (Cz f (Ao h (AR h) f n i).2.2.2)=3 then _ else _)=_;rcases hk with hk|hk|hk|hk
 .exact absurd hk a
 .rw[hk];rfl
 .exact absurd hk d
 rw[hk];rfl
def wE:List (Nat×AV):=[(4,.bp 4 [] 0),(6,.bp 6 [] 0),(7,.bp 7 [] 0),(8,.bp 8 [] 0),(9,.bp 9 [] 0),(11,.bp 11 [] 0),(12,.bp 12 [] 0),(13,.bp 13 [] 0)]
def wO (h:AG) (w:LW) (f:List AD) (L:Go.Loop) (a:Array Value) (s:WS) (m e:Int):List (Nat×Obj):=[(50,.box 3 false [.p T3 m]),(51,BD h w),(52,.box 25 true [.p G2 f]),(101,.loop L),(102,.frame a wE),(6,.box 61 false [.raw (.slice none 0 0)]),(7,.box 4 false [.p .bool false]),(8,.box 35 false [.p GI e]),(9,BD h w),(4,.box 25 true [.p G2 f]),(11,.box 61 false [.sr 60 T3 0 s.2.1.length]),(60,.arr 3 T3 s.2.1),(12,.box 4 false [.p .bool s.2.2.1]),(13,.box 119 false [.mp 24]),(24,.mapo T3 .bool (Fd s.1))]
def DF (L:Go.Loop):Go.Loop:={ L with state:=.done,pending:=some .ret }
def WRd (h:AG) (w:LW) (f:List AD) (n:Int) (L:Go.Loop) (a:Array Value) (i:Nat) (b:Bool) (O:List (Nat×Obj)):Prop :=
 ((Ao h w f n i).2.2.2∈(Ao h w f n i).1/\b=false/\O=wO h w f (DF L) a (Ao h w f n i) (Ao h w f n i).2.2.2 6) \/
 ((Ao h w f n i).2.2.2∉(Ao h w f n i).1/\Bz h w (Cz f (Ao h w f n i).2.2.2)=0/\b=false/\O=wO h w f (DF L) a (Ao h w f n i) (Ao h w f n i).2.2.2 13) \/
 ((Ao h w f n i).2.2.2∉(Ao h w f n i).1/\Bz h w (Cz f (Ao h w f n i).2.2.2)≠0/\b=true/\O=wO h w f L a (Ao h w f n (i+1)) (Ao h w f n i).2.2.2 0)
theorem A1v (h:AG) (w:LW) (f:List AD) (n:Int) (E:WOk h w) (hf:AN f) (D:Cc h f) (n0:0<=n) (n1:n<(f.length:Int)) (L:Go.Loop) (d:Array Value)
  (m:∀i,WGo h w f n i->V0 Tryz.prog 101 [.p T3 (Ao h w f n i).2.2.2] (wO h w f L d (Ao h w f n i) (Ao h w f n i).2.2.2 0) [50,51,52,101,102,6,7,8,9,4,11,12,13,24] (λres k=>∃b,res=.p .bool b/\WRd h w f n L d i b k)) :
  A9 Tryz.prog 139 [.yl 101,.bp 50 [] 0,.bp 51 [] 0,.bp 52 [] 0] (wO h w f L d (Ao h w f n 0) n 0) [50,51,52,101,102,6,7,8,9,4,11,12,13,24] (λres k=>res=.raw (.tuple #[])/\∃i b,WGo h w f n i/\WRd h w f n L d i b k/\(b=true->Bz h w (Cz f (Ao h w f n i).2.2.2)≠2)):=by
 refine KY [0,1,2,3,14] [] [] Tryz.func139 Tryz.ntmps139 (AF Qz (AF Qy AH)) ?_;intro w0 K O0 ρ0 a B C;simp only[Ak,wO,BD];have t:=m;clear m;repeat'(first|exact trivial|apply eS rfl|apply AB|refine rX a ?_ ?_|refine rC ?_ ?_<;>intro c<;>try(cases c;done))
 refine AK (ι:={i:Nat//WGo h w f n i}) (λi=>⟨[(0,.yl 101),(1,.bp 50 [] 0),(2,.bp 51 [] 0),(3,.bp 52 [] 0)],wO h w f L d (Ao h w f n i.1) (Ao h w f n i.1).2.2.2 0⟩) (λi=>f.length+1-i.1) ⟨0,λj o=>by omega⟩ (AC [(50,.nm 50),(51,.nm 51),(52,.nm 52),(101,.nm 101),(102,.nm 102),(6,.nm 6),(7,.nm 7),(8,.nm 8),(9,.nm 9),(4,.nm 4),(11,.nm 11),(60,.nm 60),(12,.nm 12),(13,.nm 13),(24,.nm 24)] rfl rfl ?_ ?_) (λi=>?_)
 .simp only[wO,BD,wE,Ao];first|exact eN|refine eM ?_
 .simp only[wO,BD,wE,Ao];first|exact eN|refine eM ?_
 obtain⟨i,hi⟩:=i;obtain⟨q,x,r,y⟩:=LQ hf n0 n1 i hi;have u:=t i hi;have z:=q.len;have A:Ao h w f n (i+1)=Ms h w f (Ao h w f n i):=rfl;simp only[wO,BD,wE];repeat'(first|exact trivial|apply eS rfl|apply AB|refine rX a ?_ ?_|refine rC ?_ ?_<;>intro c<;>try(cases c;done))
 refine cG 2 a ?_ ?_
 .trivial
 refine rY 101 101 a (u) [(50,.nm 50),(51,.nm 51),(52,.nm 52),(101,.nm 101),(102,.nm 102),(6,.nm 6),(7,.nm 7),(8,.nm 8),(9,.nm 9),(4,.nm 4),(11,.nm 11),(60,.nm 60),(12,.nm 12),(13,.nm 13),(24,.nm 24)] [60] ?_ ?_ ?_
 .first|exact eN|refine eM ?_
 .simp only[wO,BD,wE];first|exact eN|refine eM ?_
 rintro _ _ ⟨b,rfl,g⟩;have s:=g;rcases s with ⟨l,rfl,rfl⟩|⟨l,v,rfl,rfl⟩|⟨l,v,rfl,rfl⟩
 .refine⟨[(50,.nm 50),(51,.nm 51),(52,.nm 52),(101,.nm 101),(102,.nm 102),(6,.nm 6),(7,.nm 7),(8,.nm 8),(9,.nm 9),(4,.nm 4),(11,.nm 11),(60,.nm 60),(12,.nm 12),(13,.nm 13),(24,.nm 24)],.p .bool false,wO h w f (DF L) d (Ao h w f n i) (Ao h w f n i).2.2.2 6,rfl,rfl,?_,?_,rfl,rfl,?_⟩
  .simp only[wO,BD,wE];first|exact eN|refine eM ?_
  .first|exact eN|refine eM ?_
  simp only[wO,BD,wE];refine rL a ?_ ?_
  .trivial
  repeat'(first|exact trivial|apply eS rfl|apply AB|refine rX a ?_ ?_|refine rC ?_ ?_<;>intro c<;>try(cases c;done))
  refine Ev.ent (σ':=⟨[],wO h w f (DF L) d (Ao h w f n i) (Ao h w f n i).2.2.2 6⟩) ?_ (AC [(50,.nm 50),(51,.nm 51),(52,.nm 52),(101,.nm 101),(102,.nm 102),(6,.nm 6),(7,.nm 7),(8,.nm 8),(9,.nm 9),(4,.nm 4),(11,.nm 11),(60,.nm 60),(12,.nm 12),(13,.nm 13),(24,.nm 24)] rfl rfl ?_ ?_)
  .exact fM a [] (.raw (.tuple #[])) rfl ⟨rfl,i,false,hi,g,λe=>by cases e⟩
  .simp only[wO,BD,wE];first|exact eN|refine eM ?_
  first|exact eN|refine eM ?_
 .refine⟨[(50,.nm 50),(51,.nm 51),(52,.nm 52),(101,.nm 101),(102,.nm 102),(6,.nm 6),(7,.nm 7),(8,.nm 8),(9,.nm 9),(4,.nm 4),(11,.nm 11),(60,.nm 60),(12,.nm 12),(13,.nm 13),(24,.nm 24)],.p .bool false,wO h w f (DF L) d (Ao h w f n i) (Ao h w f n i).2.2.2 13,rfl,rfl,?_,?_,rfl,rfl,?_⟩
  .simp only[wO,BD,wE];first|exact eN|refine eM ?_
  .first|exact eN|refine eM ?_
  simp only[wO,BD,wE];refine rL a ?_ ?_
  .trivial
  repeat'(first|exact trivial|apply eS rfl|apply AB|refine rX a ?_ ?_|refine rC ?_ ?_<;>intro c<;>try(cases c;done))
  refine Ev.ent (σ':=⟨[],wO h w f (DF L) d (Ao h w f n i) (Ao h w f n i).2.2.2 13⟩) ?_ (AC [(50,.nm 50),(51,.nm 51),(52,.nm 52),(101,.nm 101),(102,.nm 102),(6,.nm 6),(7,.nm 7),(8,.nm 8),(9,.nm 9),(4,.nm 4),(11,.nm 11),(60,.nm 60),(12,.nm 12),(13,.nm 13),(24,.nm 24)] rfl rfl ?_ ?_)
  .exact fM a [] (.raw (.tuple #[])) rfl ⟨rfl,i,false,hi,g,λe=>by cases e⟩
  .simp only[wO,BD,wE];first|exact eN|refine eM ?_
  first|exact eN|refine eM ?_
 refine⟨[(50,.nm 50),(51,.nm 51),(52,.nm 52),(101,.nm 101),(102,.nm 102),(6,.nm 6),(7,.nm 7),(8,.nm 8),(9,.nm 9),(4,.nm 4),(11,.nm 11),(60,.nm 60),(12,.nm 12),(13,.nm 13),(24,.nm 24)],.p .bool true,wO h w f L d (Ao h w f n (i+1)) (Ao h w f n i).2.2.2 0,rfl,rfl,?_,?_,rfl,rfl,?_⟩
 .simp only[wO,BD,wE];first|exact eN|refine eM ?_
 .first|exact eN|refine eM ?_
 simp only[wO,BD,wE];refine rL a ?_ ?_
 .trivial
 repeat'(first|exact trivial|apply eS rfl|apply AB|refine rX a ?_ ?_|refine rC ?_ ?_<;>intro c<;>try(cases c;done))
 .exact⟨hf,r⟩
 .refine⟨⟨i+1,λj o=>(Nat.lt_succ_iff_lt_or_eq.1 o).elim (hi j) λe=>by rw[e];exact⟨c,l⟩⟩,by simp only;omega,AC [(50,.nm 50),(51,.nm 51),(52,.nm 52),(101,.nm 101),(102,.nm 102),(6,.nm 6),(7,.nm 7),(8,.nm 8),(9,.nm 9),(4,.nm 4),(11,.nm 11),(60,.nm 60),(12,.nm 12),(13,.nm 13),(24,.nm 24)] rfl rfl ?_ ?_⟩
  .simp only[wO,BD,wE];first|exact eN|refine eM ?_
   rfl
  first|exact eN|refine eM ?_
 refine Ev.ent (σ':=⟨[],wO h w f L d (Ao h w f n (i+1)) (Ao h w f n i).2.2.2 0⟩) ?_ (AC [(50,.nm 50),(51,.nm 51),(52,.nm 52),(101,.nm 101),(102,.nm 102),(6,.nm 6),(7,.nm 7),(8,.nm 8),(9,.nm 9),(4,.nm 4),(11,.nm 11),(60,.nm 60),(12,.nm 12),(13,.nm 13),(24,.nm 24)] rfl rfl ?_ ?_)
 .exact fM a [] (.raw (.tuple #[])) rfl ⟨rfl,i,true,hi,g,λ_=>c⟩
 .simp only[wO,BD,wE];first|exact eN|refine eM ?_
 first|exact eN|refine eM ?_
end
section
attribute [local go_sem] Jl Pc Xc
theorem A1w (h:AG) (f:List AD) (n:Int) (k:AN f) (G:Cc h f) (n0:0<=n) (n1:n<(f.length:Int)):A9 Tryz.prog 54 [.p Dn h,.p DE f,.p T3 n] [] [] (λres ai=>res=.tup [.p F1 (D9 h f n).1,.p .bool (D9 h f n).2.1,.p GI (D9 h f n).2.2]):=by
 refine fKR [0,1,2,3,4,6,7,8,9,10,11,12,13,14,15,22,28,29,34,38,41] [50] [] Tryz.func54 Tryz.ntmps54 (AF KO (AF Qz (AF Qy AH))) ?_;intro w0 K O0 ρ0 a ad ae;simp only[Ak];have R:(h.1,h.2)=h:=rfl;repeat'(first|exact trivial|apply eS rfl|apply AB|refine rX a ?_ ?_|refine rC ?_ ?_<;>intro c<;>try(cases c;done))
 all_goals simp only[R]at *
 .have l:Ea h=false:=by
   cases d:Ea h with
   | true=>rw[d]at c;exact absurd rfl c
   | false=>rfl
  have j:D9 h f n=([],false,5):=by unfold D9;rw[l,As (by simp)]
  simp only[l,iN,ADz,j];exact R5 a [.cell 6 61,.cell 7 4,.cell 8 35] rfl (.inl rfl) (.tup [.p F1 [],.p .bool false,.p GI 5]) eT rfl
 have l:Ea h=true:=by
  cases d:Ea h with
  | false=>rw[d]at c;exact absurd c (by decide)
  | true=>rfl
 simp only[l,ADv,wdF];have C:=OJ l;have B:=c5 h;have H:WOk h (AR h):=⟨⟨C.2.1,B.1.2.1⟩,C.2.2.1,B.1.2.2.1⟩;have v:=λ(i:Nat) (hi:WGo h (AR h) f n i)=>A4L k l n0 n1 hi;have Q:=λ(i:Nat) (hi:WGo h (AR h) f n i)=>LQ k n0 n1 i hi;generalize aa:AR h=w at *;refine Ev.ent (σ':=⟨[(2,.p T3 n),(4,.bp 4 [] 0),(6,.bp 6 [] 0),(7,.bp 7 [] 0),(8,.bp 8 [] 0),(9,.bp 9 [] 0),(11,.bp 11 [] 0),(12,.bp 12 [] 0),(13,.bp 13 [] 0)],[(6,.box 61 false [.raw (.slice none 0 0)]),(7,.box 4 false [.p .bool false]),(8,.box 35 false [.p GI 0]),(9,BD h w),(4,.box 25 true [.p G2 f]),(11,.box 61 false [.raw (.slice none 0 0)]),(12,.box 4 false [.p .bool false]),(13,.box 119 false [.mp 24]),(24,.mapo T3 .bool [])]⟩) ?_ (AC [(6,.nm 6),(7,.nm 7),(8,.nm 8),(9,.nm 9),(4,.nm 4),(11,.nm 11),(12,.nm 12),(13,.nm 13),(24,.nm 24)] rfl rfl ?_ ?_)
 .simp only[BD];refine cP 3 a ?_ ?_
  .trivial
  refine rM a (kO h w f n) [] [] ?_ ?_ ?_
  .simp only[wdF];first|exact eN|refine eM ?_
  .first|exact eN|refine eM ?_
  rintro _ _ ⟨rfl,rfl⟩;refine⟨[(50,.nm 5),(52,.nm 4),(51,.nm 3)],.clo 139 [50,51,52],[(50,.box 3 false [.p T3 n]),(52,.box 25 true [.p G2 f]),(51,BD h w)],rfl,rfl,?_,?_,rfl,rfl,BV ?_⟩
  .simp only[BD];first|exact eN|refine eM ?_
  .first|exact eN|refine eM ?_
  simp only[BD];repeat'(first|exact trivial|apply eS rfl|apply AB|refine rX a ?_ ?_|refine rC ?_ ?_<;>intro c<;>try(cases c;done))
  refine WB a rfl rfl (by simp only[go_sem,Nat.reduceEqDiff,reduceCtorEq,Nat.reduceAdd,Nat.reduceSub,Nat.reduceMul,Nat.reduceLeDiff,Nat.reduceLT,Int.reduceLE,Int.reduceToNat,Int.reduceNeg,↓reduceIte];rfl) 101 103 102 rfl rfl rfl rfl ?_;intro L e r u J M N O V;refine⟨_,wO h w f L e (Ao h w f n 0) n 0,[50,51,52,101,102,6,7,8,9,4,11,12,13,24],_,[(50,.nm 50),(51,.nm 51),(52,.nm 52),(101,.nm 101),(102,.nm 102),(6,.nm 6),(7,.nm 7),(8,.nm 8),(9,.nm 9),(4,.nm 4),(11,.nm 11),(60,.nil),(12,.nm 12),(13,.nm 13),(24,.nm 24)],[60],A1v h w f n H k G n0 n1 L e ?_,rfl,rfl,?_,?_,rfl,?_⟩
  .intro i hi;obtain⟨I,Y,A,Z⟩:=Q i hi;have ab:=I.len;have t:=yK (Ao h w f n i).1 (Ao h w f n i).2.2.2;have U:lwO (h,w.list,w.cons,w.null,w.dlist,w.first,w.rest,w.head,w.last)=w:=rfl;have D:Fd (Ao h w f n (i+1)).1=Fl T3 .bool (Ao h w f n i).2.2.2 true (Fd (Ao h w f n i).1):=by
    show Fd ((Ao h w f n i).1++[(Ao h w f n i).2.2.2])=_;simp[Fd]
   have E:(Ao h w f n (i+1)).2.2.1=(Bz h w (f.getD (Ao h w f n i).2.2.2.toNat (0,[]))==1):=by
    show decide (Bz h w (Cz f (Ao h w f n i).2.2.2)=1)=_;rw[AEN];simp[Cz]
   have hT:=a.T;have hF:=a.F;refine WA (fr:=102) rfl rfl r M N O J V rfl (by kernel_rfl) (by simp) rfl rfl (by kernel_rfl) (by kernel_rfl) hT hF ?_;intro aj W X ak ah a af ag d;simp only[wO,BD,wE,Ga];repeat'(first|exact trivial|apply eS rfl|apply AB|refine rX a ?_ ?_|refine rC ?_ ?_<;>intro c<;>try(cases c;done))
   refine⟨rfl,?_⟩;repeat'(first|exact trivial|apply eS rfl|apply AB|refine rX a ?_ ?_|refine rC ?_ ?_<;>intro c<;>try(cases c;done))
   all_goals try simp only[U]at *
   .exact⟨H,k,G,A⟩
   .rw[t]at c;have S:(Ao h w f n i).2.2.2∈(Ao h w f n i).1:=by simpa[inF] using c
    refine Ev.ent (σ':=⟨[],wO h w f { L with state:=.busy } e (Ao h w f n i) (Ao h w f n i).2.2.2 6⟩) ?_ (AC [(50,.nm 50),(51,.nm 51),(52,.nm 52),(101,.nm 101),(102,.nm 102),(6,.nm 6),(7,.nm 7),(8,.nm 8),(9,.nm 9),(4,.nm 4),(11,.nm 11),(60,.nm 60),(12,.nm 12),(13,.nm 13),(24,.nm 24)] rfl rfl ?_ ?_)
    .refine Hn a (yn:=101) rfl rfl (by simp) d ⟨false,rfl,.inl ⟨S,rfl,?_⟩⟩;simp only[wO,BD,wE,DF,go_sem,Nat.reduceEqDiff,reduceCtorEq,Nat.reduceAdd,Nat.reduceSub,Nat.reduceMul,Nat.reduceLeDiff,Nat.reduceLT,Int.reduceLE,Int.reduceToNat,Int.reduceNeg,↓reduceIte]
    .simp only[wO,BD,wE];first|exact eN|refine eM ?_
    first|exact eN|refine eM ?_
   .have o:(Ao h w f n i).2.2.2∉(Ao h w f n i).1:=by
     have g:(BT T3 .bool (Ao h w f n i).2.2.2 (Fd (Ao h w f n i).1)).getD false=false:=by assumption
     rw[t]at g;intro m;have:=AEz.1 g _ m;simp at this
    refine Ev.ent (σ':=⟨[],wO h w f { L with state:=.busy } e (Ao h w f n i) (Ao h w f n i).2.2.2 13⟩) ?_ (AC [(50,.nm 50),(51,.nm 51),(52,.nm 52),(101,.nm 101),(102,.nm 102),(6,.nm 6),(7,.nm 7),(8,.nm 8),(9,.nm 9),(4,.nm 4),(11,.nm 11),(60,.nm 60),(12,.nm 12),(13,.nm 13),(24,.nm 24)] rfl rfl ?_ ?_)
    .refine Hn a (yn:=101) rfl rfl (by simp) d ⟨false,rfl,.inr (.inl ⟨o,c,rfl,?_⟩)⟩;simp only[wO,BD,wE,DF,go_sem,Nat.reduceEqDiff,reduceCtorEq,Nat.reduceAdd,Nat.reduceSub,Nat.reduceMul,Nat.reduceLeDiff,Nat.reduceLT,Int.reduceLE,Int.reduceToNat,Int.reduceNeg,↓reduceIte]
    .simp only[wO,BD,wE];first|exact eN|refine eM ?_
    first|exact eN|refine eM ?_
   .refine⟨⟨k,A⟩,?_⟩;have:=k.1;simp only[AO];omega
   .have x:Bz h w (Cz f (Ao h w f n i).2.2.2)≠0:=by assumption
    have o:(Ao h w f n i).2.2.2∉(Ao h w f n i).1:=by
     have g:(BT T3 .bool (Ao h w f n i).2.2.2 (Fd (Ao h w f n i).1)).getD false=false:=by assumption
     rw[t]at g;intro m;have:=AEz.1 g _ m;simp at this
    have y:(Ao h w f n (i+1)).2.1=(Ao h w f n i).2.1++[Bw (f.getD (Ao h w f n i).2.2.2.toNat (0,[])).2 w.first]:=BY c;refine Ev.ent (σ':=⟨[],wO h w f { L with state:=.busy } e (Ao h w f n (i+1)) (Ao h w f n i).2.2.2 0⟩) ?_ (AC [(50,.nm 50),(51,.nm 51),(52,.nm 52),(101,.nm 101),(102,.nm 102),(6,.nm 6),(7,.nm 7),(8,.nm 8),(9,.nm 9),(4,.nm 4),(11,.nm 11),(60,.nm 60),(12,.nm 12),(13,.nm 13),(24,.nm 24)] rfl rfl ?_ ?_)
    .refine NH a (yn:=101) rfl rfl (by simp) d ⟨true,rfl,.inr (.inr ⟨o,x,rfl,?_⟩)⟩;simp only[wO,BD,wE,go_sem,Nat.reduceEqDiff,reduceCtorEq,Nat.reduceAdd,Nat.reduceSub,Nat.reduceMul,Nat.reduceLeDiff,Nat.reduceLT,Int.reduceLE,Int.reduceToNat,Int.reduceNeg,↓reduceIte,Qn r u]
    .simp only[wO,BD,wE,D,E,y];first|exact eN|refine eM ?_
    first|exact eN|refine eM ?_
   have x:Bz h w (Cz f (Ao h w f n i).2.2.2)≠0:=by assumption
   have o:(Ao h w f n i).2.2.2∉(Ao h w f n i).1:=by
    have g:(BT T3 .bool (Ao h w f n i).2.2.2 (Fd (Ao h w f n i).1)).getD false=false:=by assumption
    rw[t]at g;intro m;have:=AEz.1 g _ m;simp at this
   have y:(Ao h w f n (i+1)).2.1=(Ao h w f n i).2.1:=As c;refine Ev.ent (σ':=⟨[],wO h w f { L with state:=.busy } e (Ao h w f n (i+1)) (Ao h w f n i).2.2.2 0⟩) ?_ (AC [(50,.nm 50),(51,.nm 51),(52,.nm 52),(101,.nm 101),(102,.nm 102),(6,.nm 6),(7,.nm 7),(8,.nm 8),(9,.nm 9),(4,.nm 4),(11,.nm 11),(60,.nm 60),(12,.nm 12),(13,.nm 13),(24,.nm 24)] rfl rfl ?_ ?_)
   .refine NH a (yn:=101) rfl rfl (by simp) d ⟨true,rfl,.inr (.inr ⟨o,x,rfl,?_⟩)⟩;simp only[wO,BD,wE,go_sem,Nat.reduceEqDiff,reduceCtorEq,Nat.reduceAdd,Nat.reduceSub,Nat.reduceMul,Nat.reduceLeDiff,Nat.reduceLT,Int.reduceLE,Int.reduceToNat,Int.reduceNeg,↓reduceIte,Qn r u]
   .simp only[wO,BD,wE,D,E,y];first|exact eN|refine eM ?_
   first|exact eN|refine eM ?_
  .simp only[BA,wO,BD,wE,Ao];first|exact eN|refine eM ?_
  .simp only[BA,wO,BD,wE,Ao];first|exact eN|refine eM ?_
   rfl
  rintro _ _ ⟨rfl,i,b,hi,P,d⟩;rcases P with ⟨q,rfl,rfl⟩|⟨q,z,rfl,rfl⟩|⟨q,z,rfl,rfl⟩
  .have j:=(v i hi).1 q;refine⟨[(50,.nm 50),(51,.nm 51),(52,.nm 52),(101,.nm 101),(102,.nm 102),(6,.nm 6),(7,.nm 7),(8,.nm 8),(9,.nm 9),(4,.nm 4),(11,.nm 11),(60,.nm 60),(12,.nm 12),(13,.nm 13),(24,.nm 24)],wO h w f (DF L) e (Ao h w f n i) (Ao h w f n i).2.2.2 6,DF L,rfl,rfl,?_,rfl,rfl,rfl,rfl,?_⟩
   .simp only[wO,BD,wE];first|exact eN|refine eM ?_
   intro b;simp only[DF,EvJ,wO,BD,wE,BA,go_sem,Nat.reduceEqDiff,reduceCtorEq,Nat.reduceAdd,Nat.reduceSub,Nat.reduceMul,Nat.reduceLeDiff,Nat.reduceLT,Int.reduceLE,Int.reduceToNat,Int.reduceNeg,↓reduceIte];replace a:=Ho (dn:=103) (b:=b) a;repeat'(first|exact trivial|apply eS rfl|apply AB|refine rX a ?_ ?_|refine rC ?_ ?_<;>intro c<;>try(cases c;done))
   refine Ev.ent (σ':=⟨[(6,.bp 6 [] 0),(7,.bp 7 [] 0),(8,.bp 8 [] 0)],[(6,.box 61 false [.p F1 []]),(7,.box 4 false [.p .bool false]),(8,.box 35 false [.p GI 6]),(103,.dfr)]⟩) ?_ (AC [(6,.nm 6),(7,.nm 7),(8,.nm 8),(103,.nm 103)] rfl rfl ?_ ?_)
   .rw[j];exact J8 a [.cell 6 61,.cell 7 4,.cell 8 35] rfl (.inl rfl) rfl rfl (.tup [.p F1 [],.p .bool false,.p GI 6]) eT rfl
   .first|exact eN|refine eM ?_
   first|exact eN|refine eM ?_
  .have j:=(v i hi).2.1 q z;refine⟨[(50,.nm 50),(51,.nm 51),(52,.nm 52),(101,.nm 101),(102,.nm 102),(6,.nm 6),(7,.nm 7),(8,.nm 8),(9,.nm 9),(4,.nm 4),(11,.nm 11),(60,.nm 60),(12,.nm 12),(13,.nm 13),(24,.nm 24)],wO h w f (DF L) e (Ao h w f n i) (Ao h w f n i).2.2.2 13,DF L,rfl,rfl,?_,rfl,rfl,rfl,rfl,?_⟩
   .simp only[wO,BD,wE];first|exact eN|refine eM ?_
   intro b;simp only[DF,EvJ,wO,BD,wE,BA,go_sem,Nat.reduceEqDiff,reduceCtorEq,Nat.reduceAdd,Nat.reduceSub,Nat.reduceMul,Nat.reduceLeDiff,Nat.reduceLT,Int.reduceLE,Int.reduceToNat,Int.reduceNeg,↓reduceIte];replace a:=Ho (dn:=103) (b:=b) a;repeat'(first|exact trivial|apply eS rfl|apply AB|refine rX a ?_ ?_|refine rC ?_ ?_<;>intro c<;>try(cases c;done))
   refine Ev.ent (σ':=⟨[(6,.bp 6 [] 0),(7,.bp 7 [] 0),(8,.bp 8 [] 0)],[(6,.box 61 false [.p F1 []]),(7,.box 4 false [.p .bool false]),(8,.box 35 false [.p GI 13]),(103,.dfr)]⟩) ?_ (AC [(6,.nm 6),(7,.nm 7),(8,.nm 8),(103,.nm 103)] rfl rfl ?_ ?_)
   .rw[j];exact J8 a [.cell 6 61,.cell 7 4,.cell 8 35] rfl (.inl rfl) rfl rfl (.tup [.p F1 [],.p .bool false,.p GI 13]) eT rfl
   .first|exact eN|refine eM ?_
   first|exact eN|refine eM ?_
  have j:=(v i hi).2.2 q z (d rfl);refine⟨[(50,.nm 50),(51,.nm 51),(52,.nm 52),(101,.nm 101),(102,.nm 102),(6,.nm 6),(7,.nm 7),(8,.nm 8),(9,.nm 9),(4,.nm 4),(11,.nm 11),(60,.nm 60),(12,.nm 12),(13,.nm 13),(24,.nm 24)],wO h w f L e (Ao h w f n (i+1)) (Ao h w f n i).2.2.2 0,L,rfl,rfl,?_,rfl,rfl,rfl,by rw[r];rfl,?_⟩
  .simp only[wO,BD,wE];first|exact eN|refine eM ?_
  intro b;rw[u];generalize Ao h w f n (i+1)=s at *;simp only[EvJ,wO,BD,wE,BA,go_sem,Nat.reduceEqDiff,reduceCtorEq,Nat.reduceAdd,Nat.reduceSub,Nat.reduceMul,Nat.reduceLeDiff,Nat.reduceLT,Int.reduceLE,Int.reduceToNat,Int.reduceNeg,↓reduceIte];replace a:=Ho (dn:=103) (b:=b) a;refine F0 [60] ?_;repeat'(first|exact trivial|apply eS rfl|apply AB|refine rP a ?_ ?_|fail)
  refine CA drawsAny a 3 [([0],2)] [1] (by kernel_rfl) (KX ?_ ?_)
  .trivial
  refine NJ a [] ?_ ?_
  .trivial
  refine Re a ?_ ?_ ?_
  .trivial
  .trivial
  repeat'(first|exact trivial|apply eS rfl|apply AB|refine rX a ?_ ?_|refine rC ?_ ?_<;>intro c<;>try(cases c;done))
  refine Ev.ent (σ':=⟨[(6,.bp 6 [] 0),(7,.bp 7 [] 0),(8,.bp 8 [] 0)],[(6,.box 61 false [.p F1 s.2.1]),(7,.box 4 false [.p .bool s.2.2.1]),(8,.box 35 false [.p GI 0]),(103,.dfr)]⟩) ?_ (AC [(6,.nm 6),(7,.nm 7),(8,.nm 8),(103,.nm 103)] rfl rfl ?_ ?_)
  .rw[j];exact J8 a [.cell 6 61,.cell 7 4,.cell 8 35] rfl (.inl rfl) rfl rfl (.tup [.p F1 s.2.1,.p .bool s.2.2.1,.p GI 0]) eT rfl
  .first|exact eN|refine eM ?_
  first|exact eN|refine eM ?_
 .simp only[BD];first|exact eN|refine eM ?_
 first|exact eN|refine eM ?_
end
section
attribute [local go_sem] Tz Pb c9 cs4 cs5
def HF:AZ:={ ins:=[Dn],pre:=λ(h,_)=>HX h,out:=λ(h,_)=>[.p .bool (Ea h)],lend:=true }
attribute [local go_sem] HF
theorem pL:Af Tryz.prog 47 HF:=by
 refine fK [0,1,2,3,4,5,26,44] Tryz.func47 Tryz.ntmps47 (AF yZ (AF A9V (AF A4n AH))) ?_;rintro w0 O0 ⟨⟨a,hf⟩,u⟩ d-hk;have hk:HX (a,hf):=hk;obtain⟨e1,e2,f,g,h,i,j,k⟩:=cZ (a,hf);obtain⟨⟨p,q,r,s⟩,l,m,n,o⟩:=c5 (a,hf);simp only[HF,AM];repeat'(first|exact trivial|apply eS rfl|apply AB|refine rX d ?_ ?_|refine rC ?_ ?_<;>intro e<;>try(cases e;done))
 all_goals simp only[e1,e2,f,g,h,i,j,k]at *
 .have c:Ea (a,hf)=false:=by
   rw[AEb];intro b;unfold Ea at b;simp only[An,Do]at b;omega
  exact fI d [.tmp 2] (by rw[c];exact eR)
 .have c:Ea (a,hf)=false:=by
   rw[AEb];intro b;unfold Ea at b;simp only[An,Do]at b;omega
  exact fI d [.tmp 2] (by rw[c];exact eR)
 .grind
 have c:Ea (a,hf)=(Av (a,hf) (AR (a,hf)).list (AR (a,hf)).cons&&Av (a,hf) (AR (a,hf)).list (AR (a,hf)).null):=by
  unfold Ea;rw[AEF (by omega),AF8]
 exact fI d [.tmp 2] (by rw[c];exact eR)
def pM:AZ:={ ins:=[Dn,DE,T3,T9],pre:=λ(_,f,n,_)=>AN f/\(0:Int)<=n/\n<(List.length f:Int),out:=λ(h,f,n,s,_)=>[.p T3 (Bw (List.getD (f:List AD) n.toNat (0,[])).2 (YR h s))],lend:=true }
attribute [local go_sem] pM
def dH:AZ:={ ins:=[Dn,DE,T3],pre:=λ(h,f,n,_)=>(Ea h=true/\HX h)/\AN f/\Cc h f/\(0:Int)<=n/\n<(List.length f:Int),out:=λ(h,f,n,_)=>[.p .bool (o9 h (AR h) (List.getD (f:List AD) n.toNat (0,[])))],lend:=true }
attribute [local go_sem] dH
def dI:AZ:={ ins:=[Dn,DE,T3],pre:=λ(h,f,n,_)=>(Ea h=true/\HX h)/\AN f/\Cc h f/\(0:Int)<=n/\n<(List.length f:Int),out:=λ(h,f,n,_)=>[.p .bool (Xb h (AR h) (List.getD (f:List AD) n.toNat (0,[])))],lend:=true }
attribute [local go_sem] dI
def Xq:AZ:={ ins:=[Dn,DE,T3],pre:=λ(h,f,n,_)=>(Ea h=true/\HX h)/\AN f/\Cc h f/\(0:Int)<=n/\n<(List.length f:Int),out:=λ(h,f,n,_)=>[.p .bool (!o9 h (AR h) (List.getD (f:List AD) n.toNat (0,[]))&&Zj h (AR h) (List.getD (f:List AD) n.toNat (0,[])))],lend:=true }
attribute [local go_sem] Xq
def A4M:AZ:={ ins:=[F1,T3],pre:=λ_=>True,out:=λ(l,n,_)=>[.p .bool (inF l n)],lend:=true }
attribute [local go_sem] A4M
end
section
attribute [local go_sem] HF pM dH dI Xq A4M cs4 cs5
end
section
open Go
end
section
attribute [local go_sem] dG Mq atS Cb
theorem VF.h0 {h:AG} {f:List AD} (vf:VF h f):0<h.1.length:=by
 have hp:=vf.pos;have:=vf.ty _ (AE f (0,[]) (k:=0) (by omega));omega
end
noncomputable def pN (h:AG) (ar:Int) (f:List AD) (A:List (List AD)):List AD×Bool :=
 if (A.length:Int)≠ar then ([],false) else if (Gl h (pK h) 0 f A).2=true then (A92 (Gl h (pK h) 0 f A).1 (kN h),true) else ([],false)
structure RA (h:AG) (ar:Int) (f:List AD) (A:List (List AD)):Prop where
 hh:H14 h
 top:XY h
 vf:VF h f
 lf:f.length<=12
 ok:AA2 h ar f
 va:∀x∈A,VF h x/\x.length<=12
 la:A.length<=3
theorem RA.wt {h:AG} {ar:Int} {f:List AD} {A:List (List AD)} (r:RA h ar f A):Wt h f:=⟨r.vf,A1r r.ok.chk⟩
theorem RA.un {h:AG} {ar:Int} {f:List AD} {A:List (List AD)} (r:RA h ar f A):∀x∈Ij (pK h) 0 A,VF h x/\x.length<=100:=λx hx=>by
 obtain⟨j,a,rfl⟩:=Xn hx;have hp:=A8k h (0+j);have hk:=r.va _ (AE A [] a);have hl:=r.la;exact⟨A4h r.vf.h0 hk.1 (AA1 r.ok.lw r.ok.args _) (by omega) (by omega),by rw[LL];omega⟩
theorem RA.all {h:AG} {ar:Int} {f:List AD} {A:List (List AD)} (r:RA h ar f A):Mr h (f :: Ij (pK h) 0 A) (Gl h (pK h) 0 f A) :=
 Xp r.hh A 0 f [f] (A1t r.wt) (by simp[r.vf]) r.un (by have:=r.lf;have:=r.la;omega)
theorem RA.len {h:AG} {ar:Int} {f:List AD} {A:List (List AD)} (r:RA h ar f A):(Gl h (pK h) 0 f A).1.length<=312:=by
 have:=Xo (h:=h) (pl:=pK h) (l:=A) (i:=0) (f:=f) λx hx=>(r.un x hx).2;have:=r.lf;have:=r.la;omega
theorem RA.res {h:AG} {ar:Int} {f:List AD} {A:List (List AD)} (r:RA h ar f A) (a:(pN h ar f A).2=true):(A.length:Int)=ar/\TU h (f :: Ij (pK h) 0 A) (Gl h (pK h) 0 f A).1/\pN h ar f A=(A92 (Gl h (pK h) 0 f A).1 (kN h),true):=by
 unfold pN at a ⊢;by_cases h1:(A.length:Int)≠ar
 .rw[BY h1]at a;cases a
 rw[As h1]at a ⊢;by_cases b:(Gl h (pK h) 0 f A).2=true
 .rw[BY b];exact⟨by omega,r.all.vf b,rfl⟩
 rw[As b]at a;cases a
section
open Go
end
section
attribute [local go_sem] A4i Pb Cb cs4 cs5
end
section
attribute [local go_sem] A4i Pb cs4 cs5
theorem A8m {h:AG} {f:List AD} (vf:VF h f) (p:List Int) (e:(KR f 0 p).2=true):0<=(KR f 0 p).1/\(KR f 0 p).1<(f.length:Int):=by
 have ha:=Xm vf.good vf.str p 0;cases a:B2 f 0 p with
 | none=>rw[a]at ha;rw[ha]at e;cases e
 | some n =>
  rw[a]at ha;rw[ha];exact jU vf.good vf.pos p n a
end
section
attribute [local go_sem] A4i Pb atS cs4 cs5
end
section
attribute [local go_sem] Pb LN ZP cs4 cs5
end
section
attribute [local go_sem] Cb ZP IV
def Q8:AZ:={ ins:=[Dn,DE,T3],pre:=λ(h,f,n,_)=>AN f/\Cc h f/\(0:Int)<=n/\n<(List.length f:Int),out:=λ(h,f,n,_)=>[.p F1 (D9 h f n).1,.p .bool (D9 h f n).2.1,.p GI (D9 h f n).2.2] }
theorem pO:Af Tryz.prog 54 Q8:=by
 refine N0 ⟨_,Tryz.func54,by kernel_rfl,by kernel_rfl⟩ (λds hp=>?_) (λds r a=>?_)
 .obtain⟨h,f,n,u⟩:=ds;obtain⟨h1,b,c,d⟩:=hp;refine⟨[.p Dn h,.p DE f,.p T3 n],λw O s e=>?_,A1w h f n h1 b c d⟩;obtain⟨v1,m,rfl,g,k,o,rfl,i,l,q,rfl,j,rfl⟩:=e;exact⟨v1,_,rfl,J9 g,k,_,rfl,J9 i,l,_,rfl,J9 j,rfl⟩
 simp only[Q8,DO,oS,AEI]at a;rcases a with rfl|rfl|rfl
 .exact⟨_,_,rfl⟩
 .exact⟨_,_,rfl⟩
 exact⟨_,_,rfl⟩
def OL (f:List AD) (l:List Int):List (List AD):=l.map λn=>AL f n
theorem A1x (f:List AD) {l:List Int} {k:Nat} (hk:k<l.length):OL f (l.take (k+1))=OL f (l.take k)++[AL f (l.getD k 0)]:=by
 unfold OL;rw[AFs,Sw,AS,AT hk];rfl
theorem A4N (f:List AD) {l:List Int} {k:Nat} (hk:k<=l.length):(OL f (l.take k)).length=k:=by
 unfold OL;rw[OR,OS,AEd hk]
def Sq:AZ:={ ins:=[DE,F1],pre:=λ(f,l,_)=>AN f/\Io f/\List.length l<=200000/\∀n∈(l:List Int),0<=n/\n<(List.length f:Int),out:=λ(f,l,_)=>[.p Ni (OL f l)] }
attribute [local go_sem] Sq
theorem A4O:Af Tryz.prog 96 Sq:=by
 refine fKP [0,1,2,4,5,7,8,9,10,11] [18] [] Tryz.func96 Tryz.ntmps96 (AF A9I AH) ?_;rintro w0 O0 ⟨f,l,u⟩ d-⟨h1,c,hl,e⟩;have h1:AN f:=h1;have c:Io f:=c;simp only[Sq,AM];repeat'(first|exact trivial|apply eS rfl|apply AB|refine rX d ?_ ?_|refine rC ?_ ?_<;>intro a<;>try(cases a;done))
 refine AK (ι:={k:Nat//k<=List.length l}) (λk=>⟨[(2,.bp 2 [] 0),(5,.sr 19 DE 0 k.1),(8,.p F1 l),(9,.p (.int .i64) (List.length l:Int)),(10,.p (.int .i64) (k.1:Int))],[(2,.box 25 true [.p G2 f]),(19,.arr 25 DE (OL f (List.take k.1 l)))]⟩) (λk=>List.length l-k.1) ⟨0,NO _⟩ (AC [(2,.nm 2),(19,.nil)] rfl rfl ?_ ?_) (λk=>?_)
 .first|exact eN|refine eM ?_
  rfl
 .first|exact eN|refine eM ?_
 obtain⟨k,hk⟩:=k;have h:=A4N f hk;have g:k<List.length l->List.getD l k 0∈(l:List Int):=λb=>by
  rw[AS,AT b];exact S3 b
 simp only;repeat'(first|exact trivial|apply eS rfl|apply AB|refine rX d ?_ ?_|refine rC ?_ ?_<;>intro a<;>try(cases a;done))
 .exact a
 .exact⟨⟨h1,c,e _ (g (IN.1 a))⟩,by simp only[AO];omega⟩
 .omega
 .have b:k<List.length l:=IN.1 a;have hs:=A1x f b;refine⟨⟨k+1,b⟩,by simp only;omega,AC [(2,.nm 2),(19,.nm 19)] rfl rfl ?_ ?_⟩
  .simp only[hs];first|exact eN|refine eM ?_
   rw[At (Nat.le_of_eq h)]
  first|exact eN|refine eM ?_
 have b:k=List.length l:=ADO hk (RJ.1 a);subst b;refine F0 [19] ?_;exact fI d [.tmp 4] (by first|exact eR|refine Yw ?_;exact At (by unfold OL;rw[OR];exact If _))
def dJ:AZ:={ ins:=[DE,F1],pre:=λ(f,l,_)=>AN f/\Io f/\List.length l<=200000/\∀n∈(l:List Int),0<=n/\n<(List.length f:Int),out:=λ(f,l,_)=>[.p Ni (OL f l)] }
def UW:List (List AD)->List (List AD)->Bool
 | [],[]=>true
 | x :: l,y :: r=>(CQ x y==0)&&UW l r
 | _,_=>false
theorem zG:∀ {l r:List (List AD)},UW l r=true->l.length=r.length
 | [],[],_=>rfl
 | _ :: l,_ :: r,h=>by
  have:=zG (l:=l) (r:=r) (by unfold UW at h;simp only[An]at h;exact h.2);simp[this]
 | [],_ :: _,h=>by cases h
 | _ :: _,[],h=>by cases h
theorem kQ {l r:List (List AD)} {k:Nat} (h1:k<l.length) (a:k<r.length):UW (l.drop k) (r.drop k)=((CQ (l.getD k []) (r.getD k [])==0)&&UW (l.drop (k+1)) (r.drop (k+1))):=by
 rw[Of h1,Of a,AS,AS,AT h1,AT a];rfl
def A4P:AZ:={ ins:=[Ni,Ni],pre:=λ(l,r,_)=>(∀x∈(l:List (List AD)),EV x)/\∀x∈(r:List (List AD)),EV x,out:=λ(l,r,_)=>[.p .bool (UW l r)],lend:=true }
attribute [local go_sem] A4P
theorem AA3:Af Tryz.prog 43 A4P:=by
 refine fK [0,1,4,5,10,14,26] Tryz.func43 Tryz.ntmps43 (AF Qk AH) ?_;rintro w0 O0 ⟨l,r,u⟩ c j ⟨h1,h⟩;have i:List.length l<=AO:=j.1.1;simp only[AO]at i;simp only[A4P,AM];repeat'(first|exact trivial|apply eS rfl|apply AB|refine rX c ?_ ?_|refine rC ?_ ?_<;>intro b<;>try(cases b;done))
 .have d:UW l r=false:=by
   rw[AEb];exact λq=>b (AAc Int.ofNat (zG q))
  exact fI c [.tmp 4] (by rw[d];exact eR)
 have hl:List.length l=List.length r:=Int.ofNat_inj.1 (by simpa using b);refine AK (ι:={k:Nat//k<=List.length l/\UW l r=UW (List.drop k l) (List.drop k r)}) (λk=>⟨[(0,.p Ni l),(1,.p Ni r),(5,.p (.int .i64) (k.1:Int))],[]⟩) (λk=>List.length l-k.1) ⟨0,NO _,rfl⟩ (AC [] rfl rfl ?_ ?_) (λk=>?_)
 .first|exact eN|refine eM ?_
 .first|exact eN|refine eM ?_
 obtain⟨k,hk,e⟩:=k;have g:∀ {x:List (List AD)},k<List.length x->List.getD x k []∈x:=λf=>by
  rw[AS,AT f];exact S3 f
 simp only;repeat'(first|exact trivial|apply eS rfl|apply AB|refine rX c ?_ ?_|refine rC ?_ ?_<;>intro b<;>try(cases b;done))
 .have a:k<List.length l:=IN.1 b;exact⟨b,IN.2 (hl▸a),h1 _ (g a),h _ (g (hl▸a))⟩
 .have a:k<List.length l:=IN.1 (by assumption);have d:UW l r=false:=by
   rw[e,kQ a (hl▸a),show (CQ (List.getD l k []) (List.getD r k [])==0)=false by simpa using b];rfl
  exact fI c [.tmp 4] (by rw[d];exact eR)
 .omega
 .have a:k<List.length l:=IN.1 (by assumption);refine⟨⟨k+1,a,by rw[e,kQ a (hl▸a),b];rfl⟩,by simp only;omega,AC [] rfl rfl ?_ ?_⟩
  .first|exact eN|refine eM ?_
  first|exact eN|refine eM ?_
 have a:k=List.length l:=ADO hk (RJ.1 b);have d:UW l r=true:=by
  rw[e,a,AEh,hl,AEh];rfl
 exact fI c [.tmp 4] (by rw[d];exact eR)
end
section
attribute [local go_sem] Q8 Sq dJ
end
section
attribute [local go_sem] Jl Pc Xc
def kR (h:AG) (w:LW) (f:List AD) (la:Int) (a out:List Int) (m:Int):Option (List Int×Int) :=
 if m=la then some (if Bz h w (Cz f m)=3 then (out,0) else ([],13)) else if m∈a then some ([],6) else if Bz h w (Cz f m)=2 then none else some ([],13)
def GF (h:AG) (w:LW) (f:List AD) (la:Int):Nat->List Int->List Int->Int->List Int×Int
 | 0,_,_,_=>([],6)
 | k+1,a,out,m=>match kR h w f la a out m with
  | some r=>r
  | none=>GF h w f la k (a++[m]) (out++[Bw (Cz f m).2 w.first]) (Bw (Cz f m).2 w.rest)
def Az (h:AG) (f:List AD) (n:Int):List Int×Int :=
 if Ea h=true then
  if Bw (Cz f n).2 (AR h).head<0\/Bw (Cz f n).2 (AR h).last<0 then ([],13)
  else GF h (AR h) f (Bw (Cz f n).2 (AR h).last) (f.length+1) [] [] (Bw (Cz f n).2 (AR h).head)
 else ([],5)
def OM (h:AG) (w:LW) (f:List AD) (la:Int) (s:WS):Option (List Int×Int):=kR h w f la s.1 s.2.1 s.2.2.2
def DGo (h:AG) (w:LW) (f:List AD) (la n:Int) (i:Nat):Prop:=∀j,j<i->OM h w f la (Ao h w f n j)=none
theorem KS {h:AG} {w:LW} {f:List AD} {la:Int} {a out:List Int} {m:Int} (e:kR h w f la a out m=none):m≠la/\m∉a/\Bz h w (Cz f m)=2:=by
 unfold kR at e;split at e
 .cases e
 split at e
 .cases e
 split at e
 .exact⟨by assumption,by assumption,by assumption⟩
 cases e
theorem dL {h:AG} {w:LW} {f:List AD} {la n:Int} {i:Nat} (a:DGo h w f la n i):WGo h w f n i:=λj b=>⟨(KS (a j b)).2.2,(KS (a j b)).2.1⟩
theorem Zu {h:AG} {w:LW} {f:List AD} {la n:Int} (k:Nat):∀i,DGo h w f la n i->GF h w f la (k+i) [] [] n=GF h w f la k (Ao h w f n i).1 (Ao h w f n i).2.1 (Ao h w f n i).2.2.2
 | 0,_=>rfl
 | i+1,b=>by
  have c:=Zu (h:=h) (w:=w) (f:=f) (la:=la) (n:=n) (k+1) i (λj d=>b j (by omega));have a:kR h w f la (Ao h w f n i).1 (Ao h w f n i).2.1 (Ao h w f n i).2.2.2=none:=b i (by omega);rw[show k+(i+1)=k+1+i by omega,c];rw[GF,a];show _=GF h w f la k (Ms h w f (Ao h w f n i)).1 (Ms h w f (Ao h w f n i)).2.1 (Ms h w f (Ao h w f n i)).2.2.2;unfold Ms;rw[BY (KS a).2.2]
theorem Zv {h:AG} {w:LW} {f:List AD} {la n:Int} (hf:AN f) (n0:0<=n) (n1:n<(f.length:Int)) {i:Nat} (a:DGo h w f la n i) {r:List Int×Int} (b:OM h w f la (Ao h w f n i)=some r):GF h w f la (f.length+1) [] [] n=r:=by
 obtain⟨h1,c,d,-⟩:=LQ hf n0 n1 i (dL a);have hl:=h1.len;rw[show f.length+1=(f.length-i)+1+i by omega,Zu _ _ a,GF,show kR h w f la (Ao h w f n i).1 (Ao h w f n i).2.1 (Ao h w f n i).2.2.2=some r from b]
def dE:List (Nat×AV):=[(4,.bp 4 [] 0),(6,.bp 6 [] 0),(7,.bp 7 [] 0),(8,.bp 8 [] 0),(11,.bp 11 [] 0),(12,.bp 12 [] 0),(13,.bp 13 [] 0)]
def dO (h:AG) (w:LW) (f:List AD) (L:Go.Loop) (a:Array Value) (la:Int) (s:WS) (m:Int) (c:AV) (e:Int):List (Nat×Obj):=[(50,.box 3 false [.p T3 m]),(51,BD h w),(52,.box 25 true [.p G2 f]),(101,.loop L),(102,.frame a dE),(6,.box 61 false [c]),(7,.box 35 false [.p GI e]),(8,BD h w),(4,.box 25 true [.p G2 f]),(11,.box 3 false [.p T3 la]),(12,.box 61 false [.sr 60 T3 0 s.2.1.length]),(60,.arr 3 T3 s.2.1),(13,.box 119 false [.mp 24]),(24,.mapo T3 .bool (Fd s.1))]
def DRd (h:AG) (w:LW) (f:List AD) (la n:Int) (L:Go.Loop) (a:Array Value) (i:Nat) (b:Bool) (O:List (Nat×Obj)):Prop :=
 (OM h w f la (Ao h w f n i)=some ((Ao h w f n i).2.1,0)/\b=false/\O=dO h w f (DF L) a la (Ao h w f n i) (Ao h w f n i).2.2.2 (.sr 60 T3 0 (Ao h w f n i).2.1.length) 0) \/
 (∃e,OM h w f la (Ao h w f n i)=some ([],e)/\b=false/\O=dO h w f (DF L) a la (Ao h w f n i) (Ao h w f n i).2.2.2 (.raw (.slice none 0 0)) e) \/
 (OM h w f la (Ao h w f n i)=none/\b=true/\O=dO h w f L a la (Ao h w f n (i+1)) (Ao h w f n i).2.2.2 (.raw (.slice none 0 0)) 0)
theorem A1y (h:AG) (w:LW) (f:List AD) (la n:Int) (D:WOk h w) (hf:AN f) (C:Cc h f) (n0:0<=n) (n1:n<(f.length:Int)) (L:Go.Loop) (d:Array Value)
  (m:∀i,DGo h w f la n i->V0 Tryz.prog 101 [.p T3 (Ao h w f n i).2.2.2] (dO h w f L d la (Ao h w f n i) (Ao h w f n i).2.2.2 (.raw (.slice none 0 0)) 0) [50,51,52,101,102,6,7,8,4,11,12,13,24] (λres l=>∃b,res=.p .bool b/\DRd h w f la n L d i b l)) :
  A9 Tryz.prog 139 [.yl 101,.bp 50 [] 0,.bp 51 [] 0,.bp 52 [] 0] (dO h w f L d la (Ao h w f n 0) n (.raw (.slice none 0 0)) 0) [50,51,52,101,102,6,7,8,4,11,12,13,24] (λres l=>res=.raw (.tuple #[])/\∃i,DGo h w f la n i/\DRd h w f la n L d i false l):=by
 refine KY [0,1,2,3,14] [] [] Tryz.func139 Tryz.ntmps139 (AF Qz (AF Qy AH)) ?_;intro w0 K O0 ρ0 a A B;simp only[Ak,dO,BD];have t:=m;clear m;repeat'(first|exact trivial|apply eS rfl|apply AB|refine rX a ?_ ?_|refine rC ?_ ?_<;>intro c<;>try(cases c;done))
 refine AK (ι:={i:Nat//DGo h w f la n i}) (λi=>⟨[(0,.yl 101),(1,.bp 50 [] 0),(2,.bp 51 [] 0),(3,.bp 52 [] 0)],dO h w f L d la (Ao h w f n i.1) (Ao h w f n i.1).2.2.2 (.raw (.slice none 0 0)) 0⟩) (λi=>f.length+1-i.1) ⟨0,λj o=>by omega⟩ (AC [(50,.nm 50),(51,.nm 51),(52,.nm 52),(101,.nm 101),(102,.nm 102),(6,.nm 6),(7,.nm 7),(8,.nm 8),(4,.nm 4),(11,.nm 11),(60,.nm 60),(12,.nm 12),(13,.nm 13),(24,.nm 24)] rfl rfl ?_ ?_) (λi=>?_)
 .simp only[dO,BD,dE,Ao];first|exact eN|refine eM ?_
 .simp only[dO,BD,dE,Ao];first|exact eN|refine eM ?_
 obtain⟨i,hi⟩:=i;obtain⟨q,v,r,x⟩:=LQ hf n0 n1 i (dL hi);have u:=t i hi;have y:=q.len;have z:Ao h w f n (i+1)=Ms h w f (Ao h w f n i):=rfl;simp only[dO,BD,dE];repeat'(first|exact trivial|apply eS rfl|apply AB|refine rX a ?_ ?_|refine rC ?_ ?_<;>intro c<;>try(cases c;done))
 refine cG 2 a ?_ ?_
 .trivial
 refine rY 101 101 a (u) [(50,.nm 50),(51,.nm 51),(52,.nm 52),(101,.nm 101),(102,.nm 102),(6,.nm 6),(7,.nm 7),(8,.nm 8),(4,.nm 4),(11,.nm 11),(60,.nm 60),(12,.nm 12),(13,.nm 13),(24,.nm 24)] [60] ?_ ?_ ?_
 .first|exact eN|refine eM ?_
 .simp only[dO,BD,dE];first|exact eN|refine eM ?_
 rintro _ _ ⟨b,rfl,k⟩;have s:=k;rcases s with ⟨g,rfl,rfl⟩|⟨e,g,rfl,rfl⟩|⟨g,rfl,rfl⟩
 .refine⟨[(50,.nm 50),(51,.nm 51),(52,.nm 52),(101,.nm 101),(102,.nm 102),(6,.nm 6),(7,.nm 7),(8,.nm 8),(4,.nm 4),(11,.nm 11),(60,.nm 60),(12,.nm 12),(13,.nm 13),(24,.nm 24)],.p .bool false,dO h w f (DF L) d la (Ao h w f n i) (Ao h w f n i).2.2.2 (.sr 60 T3 0 (Ao h w f n i).2.1.length) 0,rfl,rfl,?_,?_,rfl,rfl,?_⟩
  .simp only[dO,BD,dE];first|exact eN|refine eM ?_
  .first|exact eN|refine eM ?_
  simp only[dO,BD,dE];refine rL a ?_ ?_
  .trivial
  repeat'(first|exact trivial|apply eS rfl|apply AB|refine rX a ?_ ?_|refine rC ?_ ?_<;>intro c<;>try(cases c;done))
  refine Ev.ent (σ':=⟨[],dO h w f (DF L) d la (Ao h w f n i) (Ao h w f n i).2.2.2 (.sr 60 T3 0 (Ao h w f n i).2.1.length) 0⟩) ?_ (AC [(50,.nm 50),(51,.nm 51),(52,.nm 52),(101,.nm 101),(102,.nm 102),(6,.nm 6),(7,.nm 7),(8,.nm 8),(4,.nm 4),(11,.nm 11),(60,.nm 60),(12,.nm 12),(13,.nm 13),(24,.nm 24)] rfl rfl ?_ ?_)
  .exact fM a [] (.raw (.tuple #[])) rfl ⟨rfl,i,hi,k⟩
  .simp only[dO,BD,dE];first|exact eN|refine eM ?_
  first|exact eN|refine eM ?_
 .refine⟨[(50,.nm 50),(51,.nm 51),(52,.nm 52),(101,.nm 101),(102,.nm 102),(6,.nm 6),(7,.nm 7),(8,.nm 8),(4,.nm 4),(11,.nm 11),(60,.nm 60),(12,.nm 12),(13,.nm 13),(24,.nm 24)],.p .bool false,dO h w f (DF L) d la (Ao h w f n i) (Ao h w f n i).2.2.2 (.raw (.slice none 0 0)) e,rfl,rfl,?_,?_,rfl,rfl,?_⟩
  .simp only[dO,BD,dE];first|exact eN|refine eM ?_
  .first|exact eN|refine eM ?_
  simp only[dO,BD,dE];refine rL a ?_ ?_
  .trivial
  repeat'(first|exact trivial|apply eS rfl|apply AB|refine rX a ?_ ?_|refine rC ?_ ?_<;>intro c<;>try(cases c;done))
  refine Ev.ent (σ':=⟨[],dO h w f (DF L) d la (Ao h w f n i) (Ao h w f n i).2.2.2 (.raw (.slice none 0 0)) e⟩) ?_ (AC [(50,.nm 50),(51,.nm 51),(52,.nm 52),(101,.nm 101),(102,.nm 102),(6,.nm 6),(7,.nm 7),(8,.nm 8),(4,.nm 4),(11,.nm 11),(60,.nm 60),(12,.nm 12),(13,.nm 13),(24,.nm 24)] rfl rfl ?_ ?_)
  .exact fM a [] (.raw (.tuple #[])) rfl ⟨rfl,i,hi,k⟩
  .simp only[dO,BD,dE];first|exact eN|refine eM ?_
  first|exact eN|refine eM ?_
 have hk:=KS g;refine⟨[(50,.nm 50),(51,.nm 51),(52,.nm 52),(101,.nm 101),(102,.nm 102),(6,.nm 6),(7,.nm 7),(8,.nm 8),(4,.nm 4),(11,.nm 11),(60,.nm 60),(12,.nm 12),(13,.nm 13),(24,.nm 24)],.p .bool true,dO h w f L d la (Ao h w f n (i+1)) (Ao h w f n i).2.2.2 (.raw (.slice none 0 0)) 0,rfl,rfl,?_,?_,rfl,rfl,?_⟩
 .simp only[dO,BD,dE];first|exact eN|refine eM ?_
 .first|exact eN|refine eM ?_
 simp only[dO,BD,dE];refine rL a ?_ ?_
 .trivial
 repeat'(first|exact trivial|apply eS rfl|apply AB|refine rX a ?_ ?_|refine rC ?_ ?_<;>intro c<;>try(cases c;done))
 .exact⟨hf,r⟩
 .refine⟨⟨i+1,λj o=>(Nat.lt_succ_iff_lt_or_eq.1 o).elim (hi j) λe=>by rw[e];exact g⟩,by simp only;omega,AC [(50,.nm 50),(51,.nm 51),(52,.nm 52),(101,.nm 101),(102,.nm 102),(6,.nm 6),(7,.nm 7),(8,.nm 8),(4,.nm 4),(11,.nm 11),(60,.nm 60),(12,.nm 12),(13,.nm 13),(24,.nm 24)] rfl rfl ?_ ?_⟩
  .simp only[dO,BD,dE];first|exact eN|refine eM ?_
   rfl
  first|exact eN|refine eM ?_
 exact absurd hk.2.2 c
end
section
attribute [local go_sem] Jl Pc Xc
theorem pP (h:AG) (f:List AD) (n:Int) (k:AN f) (H:Cc h f) (n0:0<=n) (n1:n<(f.length:Int)):A9 Tryz.prog 38 [.p Dn h,.p DE f,.p T3 n] [] [] (λres al=>res=.tup [.p F1 (Az h f n).1,.p GI (Az h f n).2]):=by
 refine fKR [0,1,2,3,4,6,7,8,9,10,11,12,13,14,15,22,39,44,45,50,59,63,67] [78] [] Tryz.func38 Tryz.ntmps38 (AF KO (AF Qz (AF Qy AH))) ?_;intro w0 K O0 ρ0 c ag ah;simp only[Ak];have S:(h.1,h.2)=h:=rfl;repeat'(first|exact trivial|apply eS rfl|apply AB|refine rX c ?_ ?_|refine rC ?_ ?_<;>intro d<;>try(cases d;done))
 all_goals simp only[S]at *
 .have l:Ea h=false:=by
   cases j:Ea h with
   | true=>rw[j]at d;exact absurd rfl d
   | false=>rfl
  have s:Az h f n=([],5):=by unfold Az;rw[l,As (by simp)]
  simp only[l,iN,ADz,s];exact R5 c [.cell 6 61,.cell 7 35] rfl (.inl rfl) (.tup [.p F1 [],.p GI 5]) eT rfl
 .exact⟨k,n0,n1⟩
 .have l:Ea h=true:=by
   have q:((if Ea h=true then (0:Int) else 5) != 0)=false:=by assumption
   cases j:Ea h with
   | false=>rw[j]at q;exact absurd q (by decide)
   | true=>rfl
  simp only[BY l,wdF]at *;have s:Az h f n=([],13):=by unfold Az;rw[BY l];exact BY d
  rw[s];exact R5 c [.cell 6 61,.cell 7 35] rfl (.inl rfl) (.tup [.p F1 [],.p GI 13]) eT rfl
 have l:Ea h=true:=by
  have q:((if Ea h=true then (0:Int) else 5) != 0)=false:=by assumption
  cases j:Ea h with
  | false=>rw[j]at q;exact absurd q (by decide)
  | true=>rfl
 simp only[BY l,wdF]at *;have E:=OJ l;have D:=c5 h;have I:WOk h (AR h):=⟨⟨E.2.1,D.1.2.1⟩,E.2.2.1,D.1.2.2.1⟩;have C:Az h f n=GF h (AR h) f (Bw (Cz f n).2 (AR h).last) (f.length+1) [] [] (Bw (Cz f n).2 (AR h).head):=by
  unfold Az;rw[BY l];exact As (λq=>q.elim (λq=>absurd d.1 (AFG.2 q)) λq=>absurd d.2 (AFG.2 q))
 have u:Bw (Cz f n).2 (AR h).head<(f.length:Int):=Us (by omega) _ λx hx=>(KI k n.toNat x hx).2;have t:0<=Bw (Cz f n).2 (AR h).head:=d.1;have G:f.getD n.toNat (0,[])=Cz f n:=rfl;simp only[G]at *;rw[C];generalize ae:AR h=w at *;generalize Bw (Cz f n).2 w.head=a at *;generalize Bw (Cz f n).2 w.last=la at *;clear G C d n0 n1;refine Ev.ent (σ':=⟨[(10,.p T3 a),(4,.bp 4 [] 0),(6,.bp 6 [] 0),(7,.bp 7 [] 0),(8,.bp 8 [] 0),(11,.bp 11 [] 0),(12,.bp 12 [] 0),(13,.bp 13 [] 0)],[(6,.box 61 false [.raw (.slice none 0 0)]),(7,.box 35 false [.p GI 0]),(8,BD h w),(4,.box 25 true [.p G2 f]),(11,.box 3 false [.p T3 la]),(12,.box 61 false [.raw (.slice none 0 0)]),(13,.box 119 false [.mp 24]),(24,.mapo T3 .bool [])]⟩) ?_ (AC [(6,.nm 6),(7,.nm 7),(8,.nm 8),(4,.nm 4),(11,.nm 11),(12,.nm 12),(13,.nm 13),(24,.nm 40)] rfl rfl ?_ ?_)
 .simp only[BD];refine cP 3 c ?_ ?_
  .trivial
  refine rM c (kO h w f a) [] [] ?_ ?_ ?_
  .simp only[wdF];first|exact eN|refine eM ?_
  .first|exact eN|refine eM ?_
  rintro _ _ ⟨rfl,rfl⟩;refine⟨[(50,.nm 5),(52,.nm 4),(51,.nm 3)],.clo 139 [50,51,52],[(50,.box 3 false [.p T3 a]),(52,.box 25 true [.p G2 f]),(51,BD h w)],rfl,rfl,?_,?_,rfl,rfl,BV ?_⟩
  .simp only[BD];first|exact eN|refine eM ?_
  .first|exact eN|refine eM ?_
  simp only[BD];repeat'(first|exact trivial|apply eS rfl|apply AB|refine rX c ?_ ?_|refine rC ?_ ?_<;>intro d<;>try(cases d;done))
  refine WB c rfl rfl (by simp only[go_sem,Nat.reduceEqDiff,reduceCtorEq,Nat.reduceAdd,Nat.reduceSub,Nat.reduceMul,Nat.reduceLeDiff,Nat.reduceLT,Int.reduceLE,Int.reduceToNat,Int.reduceNeg,↓reduceIte];rfl) 101 103 102 rfl rfl rfl rfl ?_;intro L o B M N O P Q Y;refine⟨_,dO h w f L o la (Ao h w f a 0) a (.raw (.slice none 0 0)) 0,[50,51,52,101,102,6,7,8,4,11,12,13,24],_,[(50,.nm 50),(51,.nm 51),(52,.nm 52),(101,.nm 101),(102,.nm 102),(6,.nm 6),(7,.nm 7),(8,.nm 8),(4,.nm 4),(11,.nm 11),(60,.nil),(12,.nm 12),(13,.nm 13),(24,.nm 24)],[60],A1y h w f la a I k H t u L o ?_,rfl,rfl,?_,?_,rfl,?_⟩
  .intro i hi;obtain⟨J,ab,A,ad⟩:=LQ k t u i (dL hi);have af:=J.len;have v:=yK (Ao h w f a i).1 (Ao h w f a i).2.2.2;have V:lwO (h,w.list,w.cons,w.null,w.dlist,w.first,w.rest,w.head,w.last)=w:=rfl;have W:Fd (Ao h w f a (i+1)).1=Fl T3 .bool (Ao h w f a i).2.2.2 true (Fd (Ao h w f a i).1):=by
    show Fd ((Ao h w f a i).1++[(Ao h w f a i).2.2.2])=_;simp[Fd]
   have hT:=c.T;have hF:=c.F;refine WA (fr:=102) rfl rfl B O P Q N Y rfl (by kernel_rfl) (by simp) rfl rfl (by kernel_rfl) (by kernel_rfl) hT hF ?_;intro am Z aa an ak c ai aj j;simp only[dO,BD,dE,Ga];repeat'(first|exact trivial|apply eS rfl|apply AB|refine rX c ?_ ?_|refine rC ?_ ?_<;>intro d<;>try(cases d;done))
   refine⟨rfl,?_⟩;repeat'(first|exact trivial|apply eS rfl|apply AB|refine rX c ?_ ?_|refine rC ?_ ?_<;>intro d<;>try(cases d;done))
   all_goals try simp only[V]at *
   all_goals try simp only[show ∀m:Int,f.getD m.toNat (0,[])=Cz f m from λ_=>rfl]at *
   .exact⟨I,k,H,A⟩
   .have g:OM h w f la (Ao h w f a i)=some ((Ao h w f a i).2.1,0):=(BY d.1).trans (by rw[BY d.2]);refine Ev.ent (σ':=⟨[],dO h w f { L with state:=.busy } o la (Ao h w f a i) (Ao h w f a i).2.2.2 (.sr 60 T3 0 (Ao h w f a i).2.1.length) 0⟩) ?_ (AC [(50,.nm 50),(51,.nm 51),(52,.nm 52),(101,.nm 101),(102,.nm 102),(6,.nm 6),(7,.nm 7),(8,.nm 8),(4,.nm 4),(11,.nm 11),(60,.nm 60),(12,.nm 12),(13,.nm 13),(24,.nm 24)] rfl rfl ?_ ?_)
    .refine Hn c (yn:=101) rfl rfl (by simp) j ⟨false,rfl,.inl ⟨g,rfl,?_⟩⟩;simp only[dO,BD,dE,DF,go_sem,Nat.reduceEqDiff,reduceCtorEq,Nat.reduceAdd,Nat.reduceSub,Nat.reduceMul,Nat.reduceLeDiff,Nat.reduceLT,Int.reduceLE,Int.reduceToNat,Int.reduceNeg,↓reduceIte]
    .simp only[dO,BD,dE];first|exact eN|refine eM ?_
    first|exact eN|refine eM ?_
   .have g:OM h w f la (Ao h w f a i)=some ([],13):=(BY (by assumption)).trans (by rw[As (d (by assumption))]);refine Ev.ent (σ':=⟨[],dO h w f { L with state:=.busy } o la (Ao h w f a i) (Ao h w f a i).2.2.2 (.raw (.slice none 0 0)) 13⟩) ?_ (AC [(50,.nm 50),(51,.nm 51),(52,.nm 52),(101,.nm 101),(102,.nm 102),(6,.nm 6),(7,.nm 7),(8,.nm 8),(4,.nm 4),(11,.nm 11),(60,.nm 60),(12,.nm 12),(13,.nm 13),(24,.nm 24)] rfl rfl ?_ ?_)
    .refine Hn c (yn:=101) rfl rfl (by simp) j ⟨false,rfl,.inr (.inl ⟨13,g,rfl,?_⟩)⟩;simp only[dO,BD,dE,DF,go_sem,Nat.reduceEqDiff,reduceCtorEq,Nat.reduceAdd,Nat.reduceSub,Nat.reduceMul,Nat.reduceLeDiff,Nat.reduceLT,Int.reduceLE,Int.reduceToNat,Int.reduceNeg,↓reduceIte]
    .simp only[dO,BD,dE];first|exact eN|refine eM ?_
    first|exact eN|refine eM ?_
   .have U:(Ao h w f a i).2.2.2∈(Ao h w f a i).1:=by
     have r:(BT T3 .bool (Ao h w f a i).2.2.2 (Fd (Ao h w f a i).1)).getD false=true:=by assumption
     rw[v]at r;simpa[inF] using r
    have g:OM h w f la (Ao h w f a i)=some ([],6):=(As (by assumption)).trans (BY U);refine Ev.ent (σ':=⟨[],dO h w f { L with state:=.busy } o la (Ao h w f a i) (Ao h w f a i).2.2.2 (.raw (.slice none 0 0)) 6⟩) ?_ (AC [(50,.nm 50),(51,.nm 51),(52,.nm 52),(101,.nm 101),(102,.nm 102),(6,.nm 6),(7,.nm 7),(8,.nm 8),(4,.nm 4),(11,.nm 11),(60,.nm 60),(12,.nm 12),(13,.nm 13),(24,.nm 24)] rfl rfl ?_ ?_)
    .refine Hn c (yn:=101) rfl rfl (by simp) j ⟨false,rfl,.inr (.inl ⟨6,g,rfl,?_⟩)⟩;simp only[dO,BD,dE,DF,go_sem,Nat.reduceEqDiff,reduceCtorEq,Nat.reduceAdd,Nat.reduceSub,Nat.reduceMul,Nat.reduceLeDiff,Nat.reduceLT,Int.reduceLE,Int.reduceToNat,Int.reduceNeg,↓reduceIte]
    .simp only[dO,BD,dE];first|exact eN|refine eM ?_
    first|exact eN|refine eM ?_
   .have z:(Ao h w f a i).2.2.2∉(Ao h w f a i).1:=by
     have r:(BT T3 .bool (Ao h w f a i).2.2.2 (Fd (Ao h w f a i).1)).getD false=false:=by assumption
     rw[v]at r;intro y;have:=AEz.1 r _ y;simp at this
    have g:OM h w f la (Ao h w f a i)=some ([],13):=(As (by assumption)).trans ((As z).trans (As (by assumption)));refine Ev.ent (σ':=⟨[],dO h w f { L with state:=.busy } o la (Ao h w f a i) (Ao h w f a i).2.2.2 (.raw (.slice none 0 0)) 13⟩) ?_ (AC [(50,.nm 50),(51,.nm 51),(52,.nm 52),(101,.nm 101),(102,.nm 102),(6,.nm 6),(7,.nm 7),(8,.nm 8),(4,.nm 4),(11,.nm 11),(60,.nm 60),(12,.nm 12),(13,.nm 13),(24,.nm 24)] rfl rfl ?_ ?_)
    .refine Hn c (yn:=101) rfl rfl (by simp) j ⟨false,rfl,.inr (.inl ⟨13,g,rfl,?_⟩)⟩;simp only[dO,BD,dE,DF,go_sem,Nat.reduceEqDiff,reduceCtorEq,Nat.reduceAdd,Nat.reduceSub,Nat.reduceMul,Nat.reduceLeDiff,Nat.reduceLT,Int.reduceLE,Int.reduceToNat,Int.reduceNeg,↓reduceIte]
    .simp only[dO,BD,dE];first|exact eN|refine eM ?_
    first|exact eN|refine eM ?_
   .refine⟨⟨k,A⟩,?_⟩;have:=k.1;simp only[AO];omega
   have z:(Ao h w f a i).2.2.2∉(Ao h w f a i).1:=by
    have r:(BT T3 .bool (Ao h w f a i).2.2.2 (Fd (Ao h w f a i).1)).getD false=false:=by assumption
    rw[v]at r;intro y;have:=AEz.1 r _ y;simp at this
   have hk:Bz h w (Cz f (Ao h w f a i).2.2.2)=2:=by simpa using d
   have g:OM h w f la (Ao h w f a i)=none:=(As (by assumption)).trans ((As z).trans (BY hk));have X:(Ao h w f a (i+1)).2.1=(Ao h w f a i).2.1++[Bw (Cz f (Ao h w f a i).2.2.2).2 w.first]:=BY hk;refine Ev.ent (σ':=⟨[],dO h w f { L with state:=.busy } o la (Ao h w f a (i+1)) (Ao h w f a i).2.2.2 (.raw (.slice none 0 0)) 0⟩) ?_ (AC [(50,.nm 50),(51,.nm 51),(52,.nm 52),(101,.nm 101),(102,.nm 102),(6,.nm 6),(7,.nm 7),(8,.nm 8),(4,.nm 4),(11,.nm 11),(60,.nm 60),(12,.nm 12),(13,.nm 13),(24,.nm 24)] rfl rfl ?_ ?_)
   .refine NH c (yn:=101) rfl rfl (by simp) j ⟨true,rfl,.inr (.inr ⟨g,rfl,?_⟩)⟩;simp only[dO,BD,dE,go_sem,Nat.reduceEqDiff,reduceCtorEq,Nat.reduceAdd,Nat.reduceSub,Nat.reduceMul,Nat.reduceLeDiff,Nat.reduceLT,Int.reduceLE,Int.reduceToNat,Int.reduceNeg,↓reduceIte,Qn B M]
   .simp only[dO,BD,dE,W,X];first|exact eN|refine eM ?_
   first|exact eN|refine eM ?_
  .simp only[BA,dO,BD,dE,Ao];first|exact eN|refine eM ?_
  .simp only[BA,dO,BD,dE,Ao];first|exact eN|refine eM ?_
   rfl
  rintro _ _ ⟨rfl,i,hi,R⟩;rcases R with ⟨g,-,rfl⟩|⟨e,g,-,rfl⟩|⟨g,q,rfl⟩
  .have s:=Zv k t u hi g;refine⟨[(50,.nm 50),(51,.nm 51),(52,.nm 52),(101,.nm 101),(102,.nm 102),(6,.nm 6),(7,.nm 7),(8,.nm 8),(4,.nm 4),(11,.nm 11),(60,.nm 60),(12,.nm 12),(13,.nm 13),(24,.nm 24)],dO h w f (DF L) o la (Ao h w f a i) (Ao h w f a i).2.2.2 (.sr 60 T3 0 (Ao h w f a i).2.1.length) 0,DF L,rfl,rfl,?_,rfl,rfl,rfl,rfl,?_⟩
   .simp only[dO,BD,dE];first|exact eN|refine eM ?_
   intro b;simp only[DF,EvJ,dO,BD,dE,BA,go_sem,Nat.reduceEqDiff,reduceCtorEq,Nat.reduceAdd,Nat.reduceSub,Nat.reduceMul,Nat.reduceLeDiff,Nat.reduceLT,Int.reduceLE,Int.reduceToNat,Int.reduceNeg,↓reduceIte];replace c:=Ho (dn:=103) (b:=b) c;refine F0 [60] ?_;repeat'(first|exact trivial|apply eS rfl|apply AB|refine rX c ?_ ?_|refine rC ?_ ?_<;>intro d<;>try(cases d;done))
   refine Ev.ent (σ':=⟨[(6,.bp 6 [] 0),(7,.bp 7 [] 0)],[(6,.box 61 false [.p F1 (Ao h w f a i).2.1]),(7,.box 35 false [.p GI 0]),(103,.dfr)]⟩) ?_ (AC [(6,.nm 6),(7,.nm 7),(103,.nm 103)] rfl rfl ?_ ?_)
   .rw[s];exact J8 c [.cell 6 61,.cell 7 35] rfl (.inl rfl) rfl rfl (.tup [.p F1 (Ao h w f a i).2.1,.p GI 0]) eT rfl
   .first|exact eN|refine eM ?_
   first|exact eN|refine eM ?_
  .have s:=Zv k t u hi g;refine⟨[(50,.nm 50),(51,.nm 51),(52,.nm 52),(101,.nm 101),(102,.nm 102),(6,.nm 6),(7,.nm 7),(8,.nm 8),(4,.nm 4),(11,.nm 11),(60,.nm 60),(12,.nm 12),(13,.nm 13),(24,.nm 24)],dO h w f (DF L) o la (Ao h w f a i) (Ao h w f a i).2.2.2 (.raw (.slice none 0 0)) e,DF L,rfl,rfl,?_,rfl,rfl,rfl,rfl,?_⟩
   .simp only[dO,BD,dE];first|exact eN|refine eM ?_
   intro b;simp only[DF,EvJ,dO,BD,dE,BA,go_sem,Nat.reduceEqDiff,reduceCtorEq,Nat.reduceAdd,Nat.reduceSub,Nat.reduceMul,Nat.reduceLeDiff,Nat.reduceLT,Int.reduceLE,Int.reduceToNat,Int.reduceNeg,↓reduceIte];replace c:=Ho (dn:=103) (b:=b) c;repeat'(first|exact trivial|apply eS rfl|apply AB|refine rX c ?_ ?_|refine rC ?_ ?_<;>intro d<;>try(cases d;done))
   refine Ev.ent (σ':=⟨[(6,.bp 6 [] 0),(7,.bp 7 [] 0)],[(6,.box 61 false [.p F1 []]),(7,.box 35 false [.p GI e]),(103,.dfr)]⟩) ?_ (AC [(6,.nm 6),(7,.nm 7),(103,.nm 103)] rfl rfl ?_ ?_)
   .rw[s];exact J8 c [.cell 6 61,.cell 7 35] rfl (.inl rfl) rfl rfl (.tup [.p F1 [],.p GI e]) eT rfl
   .first|exact eN|refine eM ?_
   first|exact eN|refine eM ?_
  cases q
 .simp only[BD];first|exact eN|refine eM ?_
 first|exact eN|refine eM ?_
end
section
attribute [local go_sem] HF pM dH dI Xq A4M Sq dJ cs4 cs5
def KT:AZ:={ ins:=[Dn,DE,T3],pre:=λ(h,f,n,_)=>AN f/\Cc h f/\(0:Int)<=n/\n<(List.length f:Int),out:=λ(h,f,n,_)=>[.p F1 (Az h f n).1,.p GI (Az h f n).2] }
attribute [local go_sem] KT
theorem UG:Af Tryz.prog 38 KT:=by
 refine N0 ⟨_,Tryz.func38,by kernel_rfl,by kernel_rfl⟩ (λds hp=>?_) (λds r a=>?_)
 .obtain⟨h,f,n,u⟩:=ds;obtain⟨h1,b,c,d⟩:=hp;refine⟨[.p Dn h,.p DE f,.p T3 n],λw O s e=>?_,pP h f n h1 b c d⟩;obtain⟨v1,m,rfl,g,k,o,rfl,i,l,q,rfl,j,rfl⟩:=e;exact⟨v1,_,rfl,J9 g,k,_,rfl,J9 i,l,_,rfl,J9 j,rfl⟩
 simp only[KT,DO,oS,AEI]at a;rcases a with rfl|rfl
 .exact⟨_,_,rfl⟩
 exact⟨_,_,rfl⟩
end
section
attribute [local go_sem] KT Sq dJ
theorem Zw {h:AG} {w:LW} {f:List AD} {la:Int} (hf:AN f):∀(k:Nat) (b out:List Int) (n:Int),(∀x∈out,0<=x/\x<(f.length:Int))->(∀x∈(GF h w f la k b out n).1,0<=x/\x<(f.length:Int))/\(GF h w f la k b out n).1.length<=out.length+k/\((GF h w f la k b out n).2≠0->(GF h w f la k b out n).1=[])
 | 0,_,_,_,_=>⟨λx hx=>(by cases hx),NO _,λ_=>rfl⟩
 | k+1,b,out,n,g=>by
  have c:∀e:Int,(∀x∈(([],e):List Int×Int).1,0<=x/\x<(f.length:Int))/\(([],e):List Int×Int).1.length<=out.length+(k+1)/\((([],e):List Int×Int).2≠0->(([],e):List Int×Int).1=[]):=λe=>⟨λx hx=>(by cases hx),NO _,λ_=>rfl⟩;rw[GF];cases a:kR h w f la b out n with
  | some r =>
   unfold kR at a;simp only;split at a
   .cases a;split
    .exact⟨g,Nat.le_add_right _ _,λq=>absurd rfl q⟩
    exact c 13
   split at a
   .cases a;exact c 6
   split at a
   .cases a
   cases a;exact c 13
  | none =>
   have hk:=(KS a).2.2;have i:0<=Bw (Cz f n).2 w.first/\Bw (Cz f n).2 w.first<(f.length:Int):=by
    have hp:=(Zl hk).1;have j:f.length≠0:=by
     intro q;have:f=[]:=List.length_eq_zero_iff.1 q;subst this;simp[Bw,Cz]at hp
    exact⟨hp,Us (by omega) _ λx hx=>(KI hf n.toNat x hx).2⟩
   have d:=Zw (h:=h) (w:=w) (la:=la) hf k (b++[n]) (out++[Bw (Cz f n).2 w.first]) (Bw (Cz f n).2 w.rest) (λx hx=>by
    rcases Is.1 hx with q|q
    .exact g x q
    rw[RM.1 q];exact i)
   refine⟨d.1,?_,d.2.2⟩;have:=d.2.1;rw[By,IS]at this;simp only;omega
theorem kS {h:AG} {f:List AD} (hf:AN f) (n:Int):((∀x∈(Az h f n).1,0<=x/\x<(f.length:Int))/\(Az h f n).1.length<=200000)/\((Az h f n).2≠0->(Az h f n).1=[]):=by
 unfold Az;split
 .split
  .exact⟨⟨λx hx=>(by cases hx),NO _⟩,λ_=>rfl⟩
  have:=Zw (h:=h) (w:=AR h) (la:=Bw (Cz f n).2 (AR h).last) hf (f.length+1) [] [] (Bw (Cz f n).2 (AR h).head) (λx hx=>by cases hx);have hl:=hf.1;refine⟨⟨this.1,?_⟩,this.2.2⟩;have:=this.2.1;simp only[AAg]at this;omega
 exact⟨⟨λx hx=>(by cases hx),NO _⟩,λ_=>rfl⟩
def VC (h:AG) (f:List AD):List (List AD)×Int:=(OL f (Az h f 0).1,(Az h f 0).2)
def Mt:AZ:={ ins:=[Dn,DE],pre:=λ(h,f,_)=>AN f/\Io f/\Cc h f/\0<List.length f,out:=λ(h,f,_)=>[.p Ni (VC h f).1,.p GI (VC h f).2] }
attribute [local go_sem] Mt
theorem pQ:Af Tryz.prog 40 Mt:=by
 refine fK [0,1,2,3,4,5,6,7] Tryz.func40 Tryz.ntmps40 (AF UG (AF A4O AH)) ?_;rintro w0 O0 ⟨h,f,u⟩ c-⟨h1,a,b,g⟩;have h1:AN f:=h1;have a:Io f:=a;have b:Cc h f:=b;have d:=(kS (h:=h) h1 0).1;have i:(h.1,h.2)=h:=rfl;simp only[Mt,AM];repeat'(first|exact trivial|apply eS rfl|apply AB|refine rX c ?_ ?_|refine rC ?_ ?_<;>intro e<;>try(cases e;done))
 all_goals try simp only[i]at *
 .exact⟨h1,b,IN.2 g⟩
 .exact⟨h1,a,d.2,d.1⟩
 exact fI c [.tmp 4,.tmp 5] (by unfold VC;exact eR)
end
theorem VD (l b:List AD) (g:AN b) (hl:l.length<=200000):A9 Tryz.prog 98 [.sr 50 Hd 0 l.length,.p G2 b] [(50,.arr 93 Hd l)] [] (λres y=>res=.sr 50 Hd 0 (l++Nb l.length b b.length).length/\y=[(50,.arr 93 Hd (l++Nb l.length b b.length))]):=by
 refine KY [0,1,4,5,7,8,10,13,14,15,16,23,24,25,26] [38] [] Tryz.func98 Tryz.ntmps98 AH ?_;intro w0 K O0 ρ0 e C D;simp only[Ak];have B:=g.1;repeat'(first|exact trivial|apply eS rfl|apply AB|refine rX e ?_ ?_|refine rC ?_ ?_<;>intro c<;>try(cases c;done))
 refine AK (ι:={i:Nat//i<=b.length}) (λi=>⟨[(0,.sr 50 Hd 0 (l++Nb l.length b i.1).length),(5,.p (.int .i64) (l.length:Int)),(13,.p G2 b),(14,.p (.int .i64) (b.length:Int)),(15,.p (.int .i64) (i.1:Int))],[(50,.arr 93 Hd (l++Nb l.length b i.1))]⟩) (λi=>b.length-i.1) ⟨0,NO _⟩ (AC [(50,.nm 50)] rfl rfl ?_ ?_) (λi=>?_)
 .have f:l++Nb l.length b 0=l:=by simp[Nb]
  simp only[f];first|exact eN|refine eM ?_
 .have f:l++Nb l.length b 0=l:=by simp[Nb]
  simp only[f];first|exact eN|refine eM ?_
 obtain⟨i,hi⟩:=i;have v:=Hi l.length b hi;have o:=λh:i<b.length=>kL l.length b h;simp only;generalize m:Nb l.length b i=os at *;repeat'(first|exact trivial|apply eS rfl|apply AB|refine rX e ?_ ?_|refine rC ?_ ?_<;>intro c<;>try(cases c;done))
 .exact c
 .have k:i<b.length:=IN.1 c;have n:=KI g i;have w:(b.getD i (0,[])).2.length<=100000:=(g.2 _ (AE b (0,[]) k)).1;generalize hx:b.getD i (0,[])=x at *;obtain⟨z,xs⟩:=x;simp only at n w o ⊢;refine AK (ι:={j:Nat//j<=xs.length}) (λj=>⟨[(0,.sr 50 Hd 0 (l++os).length),(5,.p (.int .i64) (l.length:Int)),(13,.p G2 b),(14,.p (.int .i64) (b.length:Int)),(15,.p (.int .i64) (i:Int)),(8,.bp 8 [] 0),(23,.p Cm xs),(24,.p (.int .i64) (xs.length:Int)),(25,.p (.int .i64) (j.1:Int))],[(50,.arr 93 Hd (l++os)),(8,.box 93 true [.p T3 z,.sr 39 AU 0 (AY l.length (xs.take j.1)).length]),(39,.arr 106 AU (AY l.length (xs.take j.1)))]⟩) (λj=>xs.length-j.1) ⟨0,NO _⟩ (AC [(50,.nm 50),(8,.nm 8),(39,.nil)] rfl rfl ?_ ?_) (λj=>?_)
  .first|exact eN|refine eM ?_
   try exact⟨rfl,rfl⟩
  .first|exact eN|refine eM ?_
  obtain⟨j,A⟩:=j;have r:(AY l.length (xs.take j)).length=j:=by unfold AY;rw[OR,OS];omega
  have s:=λh:j<xs.length=>CL (λa:Int×Int=>(a.1,a.2+(l.length:Int))) xs (0,0) h;simp only;repeat'(first|exact trivial|apply eS rfl|apply AB|refine rX e ?_ ?_|refine rC ?_ ?_<;>intro c<;>try(cases c;done))
  .exact c
  .have d:j<xs.length:=IN.1 c;have E:=n _ (AE xs (0,0) d);refine⟨⟨by omega,by omega⟩,?_⟩;rw[r];simp only[AO];omega
  .omega
  .have d:j<xs.length:=IN.1 c;have t:AY l.length (xs.take (j+1))=AY l.length (xs.take j)++[((xs.getD j (0,0)).1,(xs.getD j (0,0)).2+(l.length:Int))]:=s d;refine⟨⟨j+1,d⟩,by simp only;omega,AC [(50,.nm 50),(8,.nm 8),(39,.nm 39)] rfl rfl ?_ ?_⟩
   .simp only[t];first|exact eN|refine eM ?_
   first|exact eN|refine eM ?_
  .simp only[By,v,AO];omega
  .omega
  have d:xs.take j=xs:=At (RJ.1 c);have q:=o k;rw[d];refine⟨⟨i+1,k⟩,by simp only;omega,AC [(50,.nm 50)] rfl rfl ?_ ?_⟩
  .simp only[q,<-RN];first|exact eN|refine eM ?_
  simp only[q,<-RN];first|exact eN|refine eM ?_
 have u:i=b.length:=by
  have:=RJ.1 c;omega
 subst u;refine Ev.ent (σ':=⟨[(4,.sr 50 Hd 0 (l++os).length)],[(50,.arr 93 Hd (l++os))]⟩) ?_ (AC [(50,.nm 50)] rfl rfl ?_ ?_)
 .exact fM e [.tmp 4] (.sr 50 Hd 0 (l++os).length) eT ⟨by rw[m],by rw[m]⟩
 .first|exact eN|refine eM ?_
 first|exact eN|refine eM ?_
section
def E1:List (List AD)->Int->Bool
 | [],_=>true
 | x :: l,m=>if 4096<m+(1+(x.length:Int)) then false else E1 l (m+(1+(x.length:Int)))
def Xr:AZ:={ ins:=[Ni,T3],pre:=λ(l,m,_)=>(∀x∈(l:List (List AD)),x.length<=100000)/\0<=m/\m<=4096,out:=λ(l,m,_)=>[.p .bool (E1 l m)],lend:=true }
attribute [local go_sem] Xr
theorem Xs:Af Tryz.prog 105 Xr:=by
 refine fK [0,1,4,6,7,8,9,10,20] Tryz.func105 Tryz.ntmps105 AH ?_;rintro w0 O0 ⟨l,m,u⟩ d q ⟨h1,h,i⟩;have o:List.length l<=AO:=q.1.1;simp only[AO]at o;have h:(0:Int)<=m:=h;have i:(m:Int)<=4096:=i;simp only[Xr,AM];repeat'(first|exact trivial|apply eS rfl|apply AB|refine rX d ?_ ?_|refine rC ?_ ?_<;>intro a<;>try(cases a;done))
 refine AK (ι:={k:Nat×Int//k.1<=List.length l/\E1 l m=E1 (List.drop k.1 l) k.2/\0<=k.2/\k.2<=4096}) (λk=>⟨[(1,.p T3 k.1.2),(7,.p Ni l),(8,.p (.int .i64) (List.length l:Int)),(9,.p (.int .i64) (k.1.1:Int))],[]⟩) (λk=>List.length l-k.1.1) ⟨(0,m),NO _,rfl,h,i⟩ (AC [] rfl rfl ?_ ?_) (λk=>?_)
 .first|exact eN|refine eM ?_
 .first|exact eN|refine eM ?_
 obtain⟨⟨k,c⟩,hk,f,c0,c1⟩:=k;simp only at hk f c0 c1 ⊢;have j:k<List.length l->List.length (List.getD l k [])<=100000/\E1 (List.drop k l) c=if 4096<c+(1+(List.length (List.getD l k []):Int)) then false else E1 (List.drop (k+1) l) (c+(1+(List.length (List.getD l k []):Int))):=λb=>by
  have e:List.getD l k []=l[k]:=by rw[AS,AT b];rfl
  refine⟨by rw[e];exact h1 _ (S3 b),?_⟩;rw[Of b,e];rfl
 repeat'(first|exact trivial|apply eS rfl|apply AB|refine rX d ?_ ?_|refine rC ?_ ?_<;>intro a<;>try(cases a;done))
 .exact a
 .have g:=(j (IN.1 a)).1;omega
 .have g:=(j (IN.1 (by assumption))).2;have n:E1 l m=false:=by rw[f,g,BY a]
  exact fI d [.tmp 4] (by rw[n];exact eR)
 .omega
 .have b:k<List.length l:=IN.1 (by assumption);have g:=(j b).2;refine⟨⟨(k+1,c+(1+(List.length (List.getD l k []):Int))),b,by rw[f,g,As (AE3.2 a)],by simp only;omega,a⟩,by simp only;omega,AC [] rfl rfl ?_ ?_⟩
  .first|exact eN|refine eM ?_
  first|exact eN|refine eM ?_
 have b:k=List.length l:=ADO hk (RJ.1 a);have n:E1 l m=true:=by rw[f,b,AEh];rfl
 exact fI d [.tmp 4] (by rw[n];exact eR)
def B5 (c a b:Int) (N x:List AD):List AD:=(N++[(c,[(a,(N.length:Int)+1),(b,(N.length:Int)+1+(x.length:Int))])])++Nb (N.length+1) x x.length
def Rg (c a b:Int) (l:List (List AD)):List AD:=l.foldl (B5 c a b) []
theorem A4Q (c a b:Int) {l:List (List AD)} {k:Nat} (hk:k<l.length):Rg c a b (l.take (k+1))=B5 c a b (Rg c a b (l.take k)) (l.getD k []):=by
 unfold Rg;rw[AFs,AT hk,AS,AT hk];rw[AEl];rfl
theorem Gm (c a b:Int) (N x:List AD):(B5 c a b N x).length=N.length+1+x.length:=by
 unfold B5;rw[By,By,Hi _ _ (If _)];rfl
def C0 (c a b t:Int) (l:List (List AD)):List AD:=Rg c a b l++[(t,[])]
def Q9:AZ:={ ins:=[WE,Ni,T3],pre:=λ(_,l,_)=>(∀x∈(l:List (List AD)),AN x)/\∀k,(Rg 0 0 0 (List.take k l)).length<=100000,out:=λ(W,l,t,_)=>[.p DE (C0 W.2.2.1 W.2.2.2.2.2.1 W.2.2.2.2.2.2.1 t l),.p T3 ((C0 W.2.2.1 W.2.2.2.2.2.1 W.2.2.2.2.2.2.1 t l).length-1:Int)] }
attribute [local go_sem] Q9
theorem dM (c a b:Int) (l:List (List AD)):(Rg c a b l).length=(Rg 0 0 0 l).length:=by
 have key:∀(l:List (List AD)) (N M:List AD),N.length=M.length->(l.foldl (B5 c a b) N).length=(l.foldl (B5 0 0 0) M).length:=by
  intro l;induction l with
  | nil=>exact λ_ _ h=>h
  | cons x l d=>exact λN M h=>d _ _ (by rw[Gm,Gm,h])
 exact key l [] [] rfl
theorem Sr:Af Tryz.prog 106 Q9:=by
 refine fKP [0,1,2,3,6,7,8,10,11,12,13,14,15] [39,41,55] [] Tryz.func106 Tryz.ntmps106 AH ?_;rintro w0 O0 ⟨⟨h,w,c,y,z,d,e,A,B⟩,l,t,u⟩ a r ⟨h1,j⟩;have q:List.length l<=AO:=r.2.1.1;simp only[AO]at q;simp only[Q9,AM];repeat'(first|exact trivial|apply eS rfl|apply AB|refine rX a ?_ ?_|refine rC ?_ ?_<;>intro b<;>try(cases b;done))
 refine AK (ι:={k:Nat//k<=List.length l}) (λk=>⟨[(2,.p T3 t),(3,.bp 3 [] 0),(6,.bp 6 [] 0),(8,.bp 8 [] 0),(12,.p Ni l),(13,.p (.int .i64) (List.length l:Int)),(14,.p (.int .i64) (k.1:Int))],[(3,.box 115 true [.p Dn h,.p T3 w,.p T3 c,.p T3 y,.p T3 z,.p T3 d,.p T3 e,.p T3 A,.p T3 B]),(6,.box 25 true [.raw (.slice none 0 0)]),(8,.box 25 true [.sr 42 Hd 0 (Rg c d e (List.take k.1 l)).length]),(42,.arr 93 Hd (Rg c d e (List.take k.1 l)))]⟩) (λk=>List.length l-k.1) ⟨0,NO _⟩ (AC [(3,.nm 3),(6,.nm 6),(8,.nm 8),(42,.nil)] rfl rfl ?_ ?_) (λk=>?_)
 .first|exact eN|refine eM ?_
  exact⟨rfl,rfl⟩
 .first|exact eN|refine eM ?_
 obtain⟨k,hk⟩:=k;have v:=λh=>A4Q c d e (l:=l) (k:=k) h;have i:k<List.length l->AN (List.getD l k []):=λf=>by
  rw[AS,AT f];exact h1 _ (S3 f)
 have n:=j k;rw[<-dM c d e]at n;simp only;generalize m:Rg c d e (List.take k l)=N at *;repeat'(first|exact trivial|apply eS rfl|apply AB|refine rP a ?_ ?_|refine rC ?_ ?_<;>intro b<;>try(cases b;done))
 .exact b
 .have f:=i (IN.1 b);have:=f.1;simp only[AO];omega
 .have f:k<List.length l:=IN.1 b;have o:=i f;have hs:=v f;generalize hx:List.getD l k []=x at *;have C:=Hi (N.length+1) x (If _);have g:=VD (N++[(c,[(d,(N.length:Int)+1),(e,(N.length:Int)+1+(x.length:Int))])]) x o (by rw[By,IS];omega);rw[show (N++[(c,[(d,(N.length:Int)+1),(e,(N.length:Int)+1+(x.length:Int))])]).length=N.length+1 by rw[By,IS]]at g;refine cP 4 a ?_ ?_
  .trivial
  refine rM a (g) [(50,.nm 42)] [42] ?_ ?_ ?_
  .exact eN
  .exact eN
  rintro _ _ ⟨rfl,rfl⟩;refine⟨[(42,.nm 50)],.sr 42 Hd 0 (Rg c d e (List.take (k+1) l)).length,[(42,.arr 93 Hd (Rg c d e (List.take (k+1) l)))],rfl,rfl,?_,?_,rfl,rfl,?_⟩
  .rw[hs];unfold B5;exact eN
  .rw[hs];unfold B5;exact eN
  refine rL a ?_ ?_
  .trivial
  repeat'(first|exact trivial|apply eS rfl|apply AB|refine rX a ?_ ?_|refine rC ?_ ?_<;>intro b<;>try(cases b;done))
  .omega
  refine⟨⟨k+1,f⟩,by simp only;omega,AC [(3,.nm 3),(6,.nm 6),(8,.nm 8),(42,.nm 42)] rfl rfl ?_ ?_⟩
  .first|exact eN|refine eM ?_
  first|exact eN|refine eM ?_
 .simp only[AO];omega
 have f:k=List.length l:=ADO hk (RJ.1 b);have s:C0 c d e t l=N++[(t,[])]:=by
  unfold C0;rw[<-m,f,RD]
 refine F0 [42] ?_;repeat'(first|exact trivial|apply eS rfl|apply AB|refine rP a ?_ ?_|fail)
 refine CA drawsAny a 6 [([0],5)] [1,2,3,4] (by kernel_rfl) (KX ?_ ?_)
 .omega
 refine NJ a [] ?_ ?_
 .trivial
 refine Re a ?_ ?_ ?_
 .omega
 .trivial
 repeat'(first|exact trivial|apply eS rfl|apply AB|refine rX a ?_ ?_|refine rC ?_ ?_<;>intro b<;>try(cases b;done))
 exact fI a [.cell 6 25,.tmp 7] (by
  rw[s,show (((N++[(t,[])]:List AD).length:Int)-1)=(N.length:Int)+1-1 by rw[By];rfl];first|exact eR|refine Yw ?_)
end
section
attribute [local go_sem] Jl Xr Q9 LO
def AA4:AZ:={ ins:=[WE],pre:=λ_=>True,out:=λ(W,_)=>[.p T3 W.2.2.2.1],lend:=true }
attribute [local go_sem] AA4
theorem AA5:Af Tryz.prog 109 AA4:=by
 refine fK [0,1,2] Tryz.func109 Tryz.ntmps109 AH ?_;rintro w0 O0 ⟨⟨h,f,c,g,i,d,e,j,k⟩,u⟩ a - -;simp only[AA4,AM];repeat'(first|exact trivial|apply eS rfl|apply AB|refine rX a ?_ ?_|refine rC ?_ ?_<;>intro b<;>try(cases b;done))
 exact fI a [.tmp 2]
def AA6:AZ:={ ins:=[WE],pre:=λ_=>True,out:=λ(W,_)=>[.p T3 W.2.1],lend:=true }
attribute [local go_sem] AA6
theorem AA7:Af Tryz.prog 112 AA6:=by
 refine fK [0,1,2] Tryz.func112 Tryz.ntmps112 AH ?_;rintro w0 O0 ⟨⟨h,f,c,g,i,d,e,j,k⟩,u⟩ a - -;simp only[AA6,AM];repeat'(first|exact trivial|apply eS rfl|apply AB|refine rX a ?_ ?_|refine rC ?_ ?_<;>intro b<;>try(cases b;done))
 exact fI a [.tmp 2]
theorem kT:∀ {l:List (List AD)} {m:Int} {N:List AD},E1 l m=true->m<=4096->(N.length:Int)+1<=m->∀k,((((l.take k).foldl (B5 0 0 0) N).length:Nat):Int)+1<=4096
 | [],m,N,_,h1,a,k=>by
  rw[List.take_nil];exact ADL a h1
 | x :: l,m,N,h,h1,a,0=>ADL a h1
 | x :: l,m,N,h,h1,a,k+1=>by
  unfold E1 at h;split at h
  .cases h
  rename_i b;exact kT (l:=l) h (by omega) (by rw[Gm];omega) k
theorem VE {l:List (List AD)} {m:Int} (h:E1 l m=true) (h1:1<=m) (a:m<=4096) (k:Nat):(Rg 0 0 0 (l.take k)).length<=4095:=by
 have:=kT (N:=[]) h a h1 k;unfold Rg;omega
theorem A4R {b:Nat} {x:List AD} (h:EK x) (n:Nat):EK (Nb b x n):=by
 intro y a;obtain⟨z,c,rfl⟩:=GO.1 a;show (AY b z.2).length<=200;unfold AY;rw[OR];exact h z (S4 c)
theorem A4S (c b d:Int):∀(l:List (List AD)) (N:List AD),(∀x∈l,EK x)->EK N->EK (l.foldl (B5 c b d) N)
 | [],_,_,h=>h
 | x :: l,N,hl,h=>by
  refine A4S c b d l _ (λy a=>hl y (IF _ a)) ?_;intro y a;unfold B5 at a;rcases Is.1 a with q|q
  .rcases Is.1 q with q|q
   .exact h y q
   rw[RM.1 q];show 2<=200;omega
  exact A4R (hl x (by simp)) _ y q
theorem Ss (c a d t:Int) {l:List (List AD)} (hl:∀x∈l,EK x):EK (C0 c a d t l):=by
 intro y b;unfold C0 at b;rcases Is.1 b with q|q
 .exact A4S c a d l [] hl (λz e=>by cases e) y q
 rw[RM.1 q];show 0<=200;omega
def Cd (h:AG) (t:Int) (l:List (List AD)):List AD×Int :=
 if Ea h=true then if E1 l 1=true then A0 (C0 (AR h).cons (AR h).first (AR h).rest t l) else ([],7) else ([],5)
theorem AA8 (h:AG) (l:List (List AD)) (hl:∀x∈l,AN x/\EK x):A9 Tryz.prog 108 [.p Dn h,.p Ni l,.fn 109] [] [] (λres o=>res=.tup [.p DE (Cd h (AR h).null l).1,.p GI (Cd h (AR h).null l).2]):=by
 refine KY [0,1,2,3,6,7,8,9,10,18,23] [] [] Tryz.func108 Tryz.ntmps108 (AF KO (AF Xs (AF AA5 (AF Sr (AF Sj AH))))) ?_;intro w0 K O0 ρ0 a m n;simp only[Ak];have i:(h.1,h.2)=h:=rfl;repeat'(first|exact trivial|apply eS rfl|apply AB|refine rP a ?_ ?_|refine rA a ?_ ?_|refine rC ?_ ?_<;>intro f<;>try(cases f;done))
 all_goals try simp only[i]at *
 .have b:Ea h=false:=by
   cases c:Ea h with
   | true=>rw[c]at f;exact absurd rfl f
   | false=>rfl
  have d:Cd h (AR h).null l=([],5):=by unfold Cd;rw[b,As (by simp)]
  simp only[b,iN,ADz,d];exact fM a [.cell 6 25,.tmp 7] (.tup [.p DE [],.p GI 5]) eT rfl
 .exact λx hx=>(hl x hx).1.1
 .have b:Ea h=true:=by
   have q:((if Ea h=true then (0:Int) else 5) != 0)=false:=by assumption
   cases c:Ea h with
   | false=>rw[c]at q;exact absurd q (by decide)
   | true=>rfl
  have e:E1 l 1=false:=by assumption
  have d:Cd h (AR h).null l=([],7):=by unfold Cd;rw[BY b,e];rfl
  rw[d];exact fM a [.cell 6 25,.tmp 7] (.tup [.p DE [],.p GI 7]) eT rfl
 have b:Ea h=true:=by
  have q:((if Ea h=true then (0:Int) else 5) != 0)=false:=by assumption
  cases c:Ea h with
  | false=>rw[c]at q;exact absurd q (by decide)
  | true=>rfl
 have e:E1 l 1=true:=by assumption
 simp only[BY b,wdF]at *;have d:Cd h (AR h).null l=A0 (C0 (AR h).cons (AR h).first (AR h).rest (AR h).null l):=by unfold Cd;rw[BY b,BY e]
 have j:=Ss (AR h).cons (AR h).first (AR h).rest (AR h).null (λx hx=>(hl x hx).2);have g:(∀x∈l,AN x)/\∀k:Nat,(Rg 0 0 0 (List.take k l)).length<=100000:=⟨λx hx=>(hl x hx).1,λk=>RG (VE e (by decide) (by decide) k) (by decide)⟩;repeat'(first|exact trivial|apply eS rfl|apply AB|refine rP a ?_ ?_|fail)
 refine CA drawsAny a 11 [([0,1,2,3,4,5,6,7,9],10)] [8] (by kernel_rfl) (KX ?_ ?_)
 .exact g
 refine NJ a [] ?_ ?_
 .trivial
 refine Re a ?_ ?_ ?_
 .trivial
 .trivial
 repeat'(first|exact trivial|apply eS rfl|apply AB|refine rP a ?_ ?_|refine rA a ?_ ?_)
 .exact j
 rw[d];exact fM a [.cell 6 25,.tmp 7] (.tup [.p DE (A0 (C0 (AR h).cons (AR h).first (AR h).rest (AR h).null l)).1,.p GI (A0 (C0 (AR h).cons (AR h).first (AR h).rest (AR h).null l)).2]) eT rfl
theorem AA9 (h:AG) (l:List (List AD)) (hl:∀x∈l,AN x/\EK x):A9 Tryz.prog 108 [.p Dn h,.p Ni l,.fn 112] [] [] (λres o=>res=.tup [.p DE (Cd h (AR h).list l).1,.p GI (Cd h (AR h).list l).2]):=by
 refine KY [0,1,2,3,6,7,8,9,10,18,23] [] [] Tryz.func108 Tryz.ntmps108 (AF KO (AF Xs (AF AA7 (AF Sr (AF Sj AH))))) ?_;intro w0 K O0 ρ0 a m n;simp only[Ak];have i:(h.1,h.2)=h:=rfl;repeat'(first|exact trivial|apply eS rfl|apply AB|refine rP a ?_ ?_|refine rA a ?_ ?_|refine rC ?_ ?_<;>intro f<;>try(cases f;done))
 all_goals try simp only[i]at *
 .have b:Ea h=false:=by
   cases c:Ea h with
   | true=>rw[c]at f;exact absurd rfl f
   | false=>rfl
  have d:Cd h (AR h).list l=([],5):=by unfold Cd;rw[b,As (by simp)]
  simp only[b,iN,ADz,d];exact fM a [.cell 6 25,.tmp 7] (.tup [.p DE [],.p GI 5]) eT rfl
 .exact λx hx=>(hl x hx).1.1
 .have b:Ea h=true:=by
   have q:((if Ea h=true then (0:Int) else 5) != 0)=false:=by assumption
   cases c:Ea h with
   | false=>rw[c]at q;exact absurd q (by decide)
   | true=>rfl
  have e:E1 l 1=false:=by assumption
  have d:Cd h (AR h).list l=([],7):=by unfold Cd;rw[BY b,e];rfl
  rw[d];exact fM a [.cell 6 25,.tmp 7] (.tup [.p DE [],.p GI 7]) eT rfl
 have b:Ea h=true:=by
  have q:((if Ea h=true then (0:Int) else 5) != 0)=false:=by assumption
  cases c:Ea h with
  | false=>rw[c]at q;exact absurd q (by decide)
  | true=>rfl
 have e:E1 l 1=true:=by assumption
 simp only[BY b,wdF]at *;have d:Cd h (AR h).list l=A0 (C0 (AR h).cons (AR h).first (AR h).rest (AR h).list l):=by unfold Cd;rw[BY b,BY e]
 have j:=Ss (AR h).cons (AR h).first (AR h).rest (AR h).list (λx hx=>(hl x hx).2);have g:(∀x∈l,AN x)/\∀k:Nat,(Rg 0 0 0 (List.take k l)).length<=100000:=⟨λx hx=>(hl x hx).1,λk=>RG (VE e (by decide) (by decide) k) (by decide)⟩;repeat'(first|exact trivial|apply eS rfl|apply AB|refine rP a ?_ ?_|fail)
 refine CA drawsAny a 11 [([0,1,2,3,4,5,6,7,9],10)] [8] (by kernel_rfl) (KX ?_ ?_)
 .exact g
 refine NJ a [] ?_ ?_
 .trivial
 refine Re a ?_ ?_ ?_
 .trivial
 .trivial
 repeat'(first|exact trivial|apply eS rfl|apply AB|refine rP a ?_ ?_|refine rA a ?_ ?_)
 .exact j
 rw[d];exact fM a [.cell 6 25,.tmp 7] (.tup [.p DE (A0 (C0 (AR h).cons (AR h).first (AR h).rest (AR h).list l)).1,.p GI (A0 (C0 (AR h).cons (AR h).first (AR h).rest (AR h).list l)).2]) eT rfl
def Su:AZ:={ ins:=[Dn,Ni],pre:=λ(_,l,_)=>∀x∈(l:List (List AD)),AN x/\EK x,out:=λ(h,l,_)=>[.p DE (Cd h (AR h).null l).1,.p GI (Cd h (AR h).null l).2] }
attribute [local go_sem] Su
theorem kU:Af Tryz.prog 49 Su:=by
 refine fK [0,1,2,4,5] Tryz.func49 Tryz.ntmps49 AH ?_;rintro w0 O0 ⟨h,l,u⟩ a-hl;have hl:∀x∈(l:List (List AD)),AN x/\EK x:=hl;have e:(h.1,h.2)=h:=rfl;have hn:=AA8 h l hl;simp only[Su,AM];generalize f:Cd h (AR h).null l=r at *;obtain⟨c,d⟩:=r;repeat'(first|exact trivial|apply eS rfl|apply AB|refine rP a ?_ ?_|fail)
 refine cP 2 a ?_ ?_
 .trivial
 refine rM a (hn) [] [] ?_ ?_ ?_
 .first|exact eN|refine eM ?_
 .first|exact eN|refine eM ?_
 rintro _ g rfl;refine⟨[],.tup [.p DE c,.p GI d],[],rfl,rfl,?_,?_,rfl,rfl,?_⟩
 .first|exact eN|refine eM ?_
 .first|exact eN|refine eM ?_
 refine rL a ?_ ?_
 .trivial
 repeat'(first|exact trivial|apply eS rfl|apply AB|refine rX a ?_ ?_|refine rC ?_ ?_<;>intro b<;>try(cases b;done))
 exact fI a [.cell 4 25,.tmp 5]
def kV:AZ:={ ins:=[Dn,Ni],pre:=λ(_,l,_)=>∀x∈(l:List (List AD)),AN x/\EK x,out:=λ(h,l,_)=>[.p DE (Cd h (AR h).list l).1,.p GI (Cd h (AR h).list l).2] }
attribute [local go_sem] kV
theorem A8n:Af Tryz.prog 51 kV:=by
 refine fK [0,1,2,4,5] Tryz.func51 Tryz.ntmps51 AH ?_;rintro w0 O0 ⟨h,l,u⟩ a-hl;have hl:∀x∈(l:List (List AD)),AN x/\EK x:=hl;have e:(h.1,h.2)=h:=rfl;have hn:=AA9 h l hl;simp only[kV,AM];generalize f:Cd h (AR h).list l=r at *;obtain⟨c,d⟩:=r;repeat'(first|exact trivial|apply eS rfl|apply AB|refine rP a ?_ ?_|fail)
 refine cP 2 a ?_ ?_
 .trivial
 refine rM a (hn) [] [] ?_ ?_ ?_
 .first|exact eN|refine eM ?_
 .first|exact eN|refine eM ?_
 rintro _ g rfl;refine⟨[],.tup [.p DE c,.p GI d],[],rfl,rfl,?_,?_,rfl,rfl,?_⟩
 .first|exact eN|refine eM ?_
 .first|exact eN|refine eM ?_
 refine rL a ?_ ?_
 .trivial
 repeat'(first|exact trivial|apply eS rfl|apply AB|refine rX a ?_ ?_|refine rC ?_ ?_<;>intro b<;>try(cases b;done))
 exact fI a [.cell 4 25,.tmp 5]
end
section
attribute [local go_sem] Jl Xr Q9 LO
def LR (d a la:Int) (f:List AD):List AD:=[(d,[(a,1),(la,1+((f.length:Int)-1))])]++Nb 1 f f.length
theorem A4T (d b la:Int) {f:List AD} (h:EK f):EK (LR d b la f):=by
 intro y a;unfold LR at a;rcases Is.1 a with q|q
 .rw[RM.1 q];show 2<=200;omega
 exact A4R h _ y q
def Jo (h:AG) (l:List (List AD)):List AD×Int :=
 if Ea h=true then if E1 l 2=true then A0 (LR (AR h).dlist (AR h).head (AR h).last (C0 (AR h).cons (AR h).first (AR h).rest (AR h).list l)) else ([],7) else ([],5)
theorem Pd (c a b t:Int) (l:List (List AD)):(C0 c a b t l).length=(Rg 0 0 0 l).length+1:=by
 unfold C0;rw[By,dM];rfl
theorem A4U {b m:Nat} {x:List AD} (h:AN x) (g:b+x.length<=m):∀y∈Nb b x x.length,y.2.length<=100000/\∀a∈y.2,0<=a.2/\a.2<(m:Int):=by
 intro y d;rw[JO]at d;obtain⟨z,f,rfl⟩:=GO.1 d;have c:=h.2 z f;refine⟨by show (AY b z.2).length<=_;unfold AY;rw[OR];exact c.1,λa ha=>?_⟩;obtain⟨w,e,rfl⟩:=Cy.1 ha;have:=c.2 w e;simp only;omega
theorem kW (c b d:Int) {M:Nat}:∀(l:List (List AD)) (N:List AD),(∀x∈l,AN x)->(l.foldl (B5 c b d) N).length+1<=M->(∀y∈N,y.2.length<=100000/\∀a∈y.2,0<=a.2/\a.2<(M:Int))->∀y∈l.foldl (B5 c b d) N,y.2.length<=100000/\∀a∈y.2,0<=a.2/\a.2<(M:Int)
 | [],_,_,_,h=>h
 | x :: l,N,hl,f,h=>by
  have g:∀(l:List (List AD)) (N:List AD),N.length<=(l.foldl (B5 c b d) N).length:=by
   intro l;induction l with
   | nil=>exact λ_=>If _
   | cons y l i=>exact λN=>RG (by rw[Gm];omega) (i _)
  have h1:=g l (B5 c b d N x);rw[Gm]at h1;have j:(l.foldl (B5 c b d) (B5 c b d N x)).length+1<=M:=f;refine kW c b d l _ (λy e=>hl y (IF _ e)) f ?_;intro y e;unfold B5 at e;rcases Is.1 e with q|q
  .rcases Is.1 q with q|q
   .exact h y q
   rw[RM.1 q];refine⟨by show 2<=_;omega,λa ha=>?_⟩;have ha:a∈[(b,(N.length:Int)+1),(d,(N.length:Int)+1+(x.length:Int))]:=ha;simp only[DO,oS,AEI]at ha;rcases ha with rfl|rfl
   .simp only;omega
   simp only;omega
  exact A4U (hl x (by simp)) (by omega) y q
theorem kX (c b d t:Int) {l:List (List AD)} (hl:∀x∈l,AN x) (hn:(Rg 0 0 0 l).length<=99999):AN (C0 c b d t l):=by
 refine⟨by rw[Pd];omega,λy e=>?_⟩;rw[Pd];unfold C0 at e;rcases Is.1 e with q|q
 .exact kW c b d l [] hl (by rw[show (l.foldl (B5 c b d) []).length=(Rg c b d l).length from rfl,dM];exact If _) (λz f=>by cases f) y q
 rw[RM.1 q];exact⟨NO _,λa ha=>by cases ha⟩
def Xt:AZ:={ ins:=[Dn,Ni],pre:=λ(_,l,_)=>∀x∈(l:List (List AD)),AN x/\EK x,out:=λ(h,l,_)=>[.p DE (Jo h l).1,.p GI (Jo h l).2] }
attribute [local go_sem] Xt
theorem A4V:Af Tryz.prog 48 Xt:=by
 refine fKP [0,1,2,4,5,6,7,8,9,10,17,22] [42] [] Tryz.func48 Tryz.ntmps48 (AF KO (AF Xs (AF Sr (AF Sj AH)))) ?_;rintro w0 O0 ⟨h,l,u⟩ a-hl;have hl:∀x∈(l:List (List AD)),AN x/\EK x:=hl;have m:(h.1,h.2)=h:=rfl;simp only[Xt,AM];repeat'(first|exact trivial|apply eS rfl|apply AB|refine rX a ?_ ?_|refine rC ?_ ?_<;>intro e<;>try(cases e;done))
 all_goals try simp only[m]at *
 .have b:Ea h=false:=by
   cases i:Ea h with
   | true=>rw[i]at e;exact absurd rfl e
   | false=>rfl
  have c:Jo h l=([],5):=by unfold Jo;rw[b,As (by simp)]
  simp only[b,iN,ADz,c];exact fI a [.cell 4 25,.tmp 5]
 .exact λx hx=>(hl x hx).1.1
 .have b:Ea h=true:=by
   have q:((if Ea h=true then (0:Int) else 5) != 0)=false:=by assumption
   cases i:Ea h with
   | false=>rw[i]at q;exact absurd q (by decide)
   | true=>rfl
  have d:E1 l 2=false:=by assumption
  have c:Jo h l=([],7):=by unfold Jo;rw[BY b,d];rfl
  rw[c];exact fI a [.cell 4 25,.tmp 5]
 .have d:E1 l 2=true:=by assumption
  exact⟨λx hx=>(hl x hx).1,λk=>RG (VE d (by decide) (by decide) k) (by decide)⟩
 have b:Ea h=true:=by
  have q:((if Ea h=true then (0:Int) else 5) != 0)=false:=by assumption
  cases i:Ea h with
  | false=>rw[i]at q;exact absurd q (by decide)
  | true=>rfl
 have d:E1 l 2=true:=by assumption
 simp only[BY b,wdF]at *;have p:(Rg 0 0 0 l).length<=4095:=by
  have:=VE d (by decide) (by decide) (List.length l)
  rwa [RD]at this
 have n:=kX (AR h).cons (AR h).first (AR h).rest (AR h).list (λx hx=>(hl x hx).1) (by omega);have r:=Pd (AR h).cons (AR h).first (AR h).rest (AR h).list l;have c:Jo h l=A0 (LR (AR h).dlist (AR h).head (AR h).last (C0 (AR h).cons (AR h).first (AR h).rest (AR h).list l)):=by unfold Jo;rw[BY b,BY d]
 have o:=A4T (AR h).dlist (AR h).head (AR h).last (Ss (AR h).cons (AR h).first (AR h).rest (AR h).list (λx hx=>(hl x hx).2));rw[c];clear c;generalize C0 (AR h).cons (AR h).first (AR h).rest (AR h).list l=f at *;have j:=VD [((AR h).dlist,[((AR h).head,1),((AR h).last,1+((f.length:Int)-1))])] f n (by simp);simp only[IS]at j;refine cP 15 a ?_ ?_
 .omega
 refine rM a (j) [(50,.nm 44)] [44] ?_ ?_ ?_
 .first|exact eN|refine eM ?_
 .first|exact eN|refine eM ?_
 rintro _ _ ⟨rfl,rfl⟩;refine⟨[(44,.nm 50)],.sr 44 Hd 0 (LR (AR h).dlist (AR h).head (AR h).last f).length,[(44,.arr 93 Hd (LR (AR h).dlist (AR h).head (AR h).last f))],rfl,rfl,?_,?_,rfl,rfl,?_⟩
 .unfold LR;first|exact eN|refine eM ?_
 .unfold LR;first|exact eN|refine eM ?_
 generalize LR (AR h).dlist (AR h).head (AR h).last f=g at *;refine rL a ?_ ?_
 .trivial
 refine F0 [44] ?_;repeat'(first|exact trivial|apply eS rfl|apply AB|refine rX a ?_ ?_|refine rC ?_ ?_<;>intro e<;>try(cases e;done))
 .exact o
 exact fI a [.cell 4 25,.tmp 5]
end
def BI (c e1 e2:Int) (a b:List AD):List AD:=([((c:Int),[(e1,1),(e2,1+(a.length:Int))])]++Nb 1 a a.length)++Nb (1+a.length) b b.length
theorem CX (c e1 e2:Int) (a b:List AD):(BI c e1 e2 a b).length=1+a.length+b.length:=by
 unfold BI;rw[By,By,Hi _ _ (If _),Hi _ _ (If _)];rfl
theorem Nc (c e1 e2:Int) (a b:List AD):(BI c e1 e2 a b).getD (0:Int).toNat (0,[])=(c,[(e1,1),(e2,1+(a.length:Int))]):=rfl
theorem zH (k:Nat) (a:List AD) {i:Nat} (hi:i<a.length):(Nb k a a.length)[i]?=some ((a.getD i (0,[])).1,AY k (a.getD i (0,[])).2):=by
 rw[JO,gO,AT hi,AS,AT hi];rfl
theorem JP (c e1 e2:Int) {a:List AD} (b:List AD) {i:Int} (d:0<=i) (e:i<(a.length:Int)):(BI c e1 e2 a b).getD ((1:Int)+i).toNat (0,[])=((a.getD i.toNat (0,[])).1,AY 1 (a.getD i.toNat (0,[])).2):=by
 have hl:=Hi 1 a (If a.length);rw[AS];unfold BI;rw[RZ (by rw[By,hl,IS];omega),RW (by rw[IS];omega),IS,show ((1:Int)+i).toNat-1=i.toNat by omega,zH 1 a (by omega)];rfl
theorem JQ (c e1 e2:Int) (a:List AD) {b:List AD} {i:Int} (d:0<=i) (e:i<(b.length:Int)):(BI c e1 e2 a b).getD (((1+a.length:Nat):Int)+i).toNat (0,[])=((b.getD i.toNat (0,[])).1,AY (1+a.length) (b.getD i.toNat (0,[])).2):=by
 have hl:=Hi 1 a (If a.length);rw[AS];unfold BI;rw[RW (by rw[By,hl,IS];omega),By,hl,IS,show (((1+a.length:Nat):Int)+i).toNat-(1+a.length)=i.toNat by omega,zH (1+a.length) b (by omega)];rfl
theorem KU {c e1 e2:Int} {a b:List AD} {x:AD} (hx:x∈BI c e1 e2 a b):x=(c,[(e1,1),(e2,1+(a.length:Int))])\/(∃y∈a,x=(y.1,AY 1 y.2))\/∃y∈b,x=(y.1,AY (1+a.length) y.2):=by
 unfold BI at hx;rw[JO,JO]at hx;rcases Is.1 hx with hx|hx
 .rcases Is.1 hx with hx|hx
  .exact .inl (RM.1 hx)
  obtain⟨y,d,rfl⟩:=GO.1 hx;exact .inr (.inl ⟨y,d,rfl⟩)
 obtain⟨y,d,rfl⟩:=GO.1 hx;exact .inr (.inr ⟨y,d,rfl⟩)
theorem Xu {c e1 e2:Int} {a b:List AD} (h:AN a) (i:AN b) (j:0<a.length) (k:0<b.length) (hl:a.length+b.length<=10000):AN (BI c e1 e2 a b):=by
 refine⟨by rw[CX];omega,λx hx=>?_⟩;rw[CX];rcases KU hx with rfl|⟨y,g,rfl⟩|⟨y,g,rfl⟩
 .refine⟨by show 2<=100000;omega,λc d=>?_⟩;have d:c∈[(e1,(1:Int)),(e2,1+(a.length:Int))]:=d;simp only[DO,oS,AEI]at d;rcases d with rfl|rfl
  .simp only;omega
  simp only;omega
 .have e:=h.2 y g;refine⟨by show (AY 1 y.2).length<=_;unfold AY;rw[OR];exact e.1,λc d=>?_⟩;obtain⟨w,f,rfl⟩:=Cy.1 d;have:=e.2 w f;simp only;omega
 have e:=i.2 y g;refine⟨by show (AY (1+a.length) y.2).length<=_;unfold AY;rw[OR];exact e.1,λc d=>?_⟩;obtain⟨w,f,rfl⟩:=Cy.1 d;have:=e.2 w f;simp only;omega
theorem A1z {h:AG} {c e1 e2:Int} {a b:List AD} (va:VF h a) (f:VF h b) (hl:a.length+b.length<=10000):AL (BI c e1 e2 a b) 0=BI c e1 e2 a b:=by
 have l:=va.pos;have m:=f.pos;refine Zg (Xu va.good f.good l m hl) ?_;rw[CX,show 1+a.length+b.length=(a.length+b.length)+1 by omega,Bu,Nc];have s:Iso a (BI c e1 e2 a b) (λi=>(1:Int)+i) (λi=>0<=i/\i<(a.length:Int)):=by
  refine⟨λi hi=>?_,λi hi x hx=>Ay va.good hx,λi j hi r e=>by have e:(1:Int)+i=(1:Int)+j:=e;omega⟩;rw[AP,JP c e1 e2 b hi.1 hi.2];show AY 1 (AP a i)=_;unfold AY;refine RI λc _=>?_;show (c.1,c.2+((1:Nat):Int))=(c.1,(1:Int)+c.2);rw[AFn];rfl
 have t:Iso b (BI c e1 e2 a b) (λi=>((1+a.length:Nat):Int)+i) (λi=>0<=i/\i<(b.length:Int)):=by
  refine⟨λi hi=>?_,λi hi x hx=>Ay f.good hx,λi j hi r e=>by have e:((1+a.length:Nat):Int)+i=((1+a.length:Nat):Int)+j:=e;omega⟩;rw[AP,JQ c e1 e2 a hi.1 hi.2];show AY (1+a.length) (AP b i)=_;unfold AY;refine RI λc _=>?_;show (c.1,c.2+((1+a.length:Nat):Int))=(c.1,((1+a.length:Nat):Int)+c.2);rw[AFn]
 have g:=(Uy s (pre:=[0]) (λi hi d=>by have:=RM.1 d;omega) (a.length+b.length) [] 0 (λx hx=>by cases hx) ⟨by omega,by omega⟩).1;have p:=Me va.good (n:=0) (by omega) (by omega) b.length;rw[AEL,Ra,AE7,p,Si va]at g;have o:([0]++((List.range a.length).map λ(i:Nat)=>(i:Int)).map (λi=>(1:Int)+i))=Nl (1+a.length):=by
  unfold Nl;rw[AFp,Sw,nO,nO];refine AAc _ (RI λi _=>?_);show (1:Int)+(i:Int)=((1+i:Nat):Int);omega
 rw[o]at g;have k:=(Uy t (pre:=Nl (1+a.length)) (λi hi d=>by have:=Qx d;omega) (a.length+b.length) [] 0 (λx hx=>by cases hx) ⟨by omega,by omega⟩).1;have q:=Me f.good (n:=0) (by omega) (by omega) a.length;rw[AEL,Ra,AE7,show a.length+b.length=b.length+a.length by omega,q,Si f]at k;simp only[RE,AFq,ADP];have s1:AX (BI c e1 e2 a b) (a.length+b.length) [0] (e1,1)=Nl (1+a.length):=by
  unfold AX;rw[As (by simp)];exact g
 rw[s1];have s2:AX (BI c e1 e2 a b) (a.length+b.length) (Nl (1+a.length)) (e2,1+(a.length:Int))=Ca (BI c e1 e2 a b) (a.length+b.length) (Nl (1+a.length)) ((1+a.length:Nat):Int):=by
  unfold AX;have e:(1:Int)+(a.length:Int)=((1+a.length:Nat):Int):=by omega
  rw[e,As (λd=>by have:=Qx d;simp only at this;omega)]
 rw[s2,show a.length+b.length=b.length+a.length by omega,k,show b.length+a.length+1=(1+a.length)+b.length by omega];unfold Nl;rw[AFp (n:=1+a.length),Sw,nO,nO];refine AAc _ (RI λi _=>?_);show ((1+a.length:Nat):Int)+(i:Int)=((1+a.length+i:Nat):Int);omega
theorem KV {h:AG} {c e1 e2:Int} (f:0<=c/\c<(h.1.length:Int)) (p:e1<e2) (r:0<=e1/\e1<(h.2.length:Int)) (s:0<=e2/\e2<(h.2.length:Int)) {a b:List AD} (va:VF h a) (g:VF h b) (hl:a.length+b.length<=10000):VF h (BI c e1 e2 a b):=by
 have n:=va.pos;have o:=g.pos;have t:=CX c e1 e2 a b;refine⟨Xu va.good g.good n o hl,by omega,λx hx=>?_,λx hx=>?_,λx hx c f=>?_,A1z va g hl,λi u v=>?_⟩
 .rcases KU hx with rfl|⟨y,d,rfl⟩|⟨y,d,rfl⟩
  .exact f
  .exact va.ty y d
  exact g.ty y d
 .rcases KU hx with rfl|⟨y,d,rfl⟩|⟨y,d,rfl⟩
  .exact Rb.2 ⟨λc f=>by rw[RM.1 f];exact p,AEj _ _⟩
  .exact Ih (va.str y d)
  exact Ih (g.str y d)
 .rcases KU hx with rfl|⟨y,d,rfl⟩|⟨y,d,rfl⟩
  .have f:c∈[(e1,(1:Int)),(e2,1+(a.length:Int))]:=f;simp only[DO,oS,AEI]at f;rcases f with rfl|rfl
   .exact r
   exact s
  .obtain⟨w,k,rfl⟩:=Cy.1 f;exact va.ft y d w k
  obtain⟨w,k,rfl⟩:=Cy.1 f;exact g.ft y d w k
 have m:AP (BI c e1 e2 a b) 0=[(e1,1),(e2,1+(a.length:Int))]:=rfl;by_cases ha:i<=(a.length:Int)
 .by_cases h1:i=1
  .exact⟨0,by omega,by omega,(e1,1),by rw[m];simp,by rw[h1]⟩
  obtain⟨j,l,q,x,hx,e⟩:=va.ro (i-1) (by omega) (by omega);refine⟨1+j,by omega,by omega,(x.1,x.2+((1:Nat):Int)),?_,by simp only;omega⟩;rw[AP,JP c e1 e2 b l (by omega)];exact GO.2 ⟨x,hx,rfl⟩
 by_cases h1:i=1+(a.length:Int)
 .exact⟨0,by omega,by omega,(e2,1+(a.length:Int)),by rw[m];simp,by rw[h1]⟩
 obtain⟨j,l,q,x,hx,e⟩:=g.ro (i-1-a.length) (by omega) (by omega);refine⟨((1+a.length:Nat):Int)+j,by omega,by omega,(x.1,x.2+((1+a.length:Nat):Int)),?_,by simp only;omega⟩;rw[AP,JQ c e1 e2 a l (by omega)];exact GO.2 ⟨x,hx,rfl⟩
theorem kY {h:AG} {c e1 e2:Int} {a b X:List AD} (m:AN a) (n:AN b) (u:0<a.length) (v:0<b.length) {va g:Int->Int} (ha:LI h a [] X va) (j:LI h b [] X g) {x:Int} (t:0<=x/\x<(X.length:Int)) (s:Av h c (X.getD x.toNat (0,[])).1=true) (h1:Bw (AP X x) e1=va 0) (o:Bw (AP X x) e2=g 0) :
  LI h (BI c e1 e2 a b) [] X λi=>if i=0 then x else if i<=(a.length:Int) then va (i-1) else g (i-1-(a.length:Int)):=by
 have hl:=CX c e1 e2 a b;refine⟨λi k l=>?_,λi k l=>?_,λi k l y d=>?_,λq p=>by cases p⟩
 .try simp only
  split
  .exact t
  split
  .exact ha.rng _ (by omega) (by omega)
  exact j.rng _ (by omega) (by omega)
 .try simp only
  split
  .rename_i e;subst e;rw[Nc];exact s
  split
  .have:=ha.ty (i-1) (by omega) (by omega);rw[show i.toNat=((1:Int)+(i-1)).toNat by omega,JP c e1 e2 b (by omega) (by omega)];exact this
  have:=j.ty (i-1-(a.length:Int)) (by omega) (by omega);rw[show i.toNat=(((1+a.length:Nat):Int)+(i-1-(a.length:Int))).toNat by omega,JQ c e1 e2 a (by omega) (by omega)];exact this
 try simp only
 split
 .rename_i e;subst e;rw[AP,Nc]at d;have d:y∈[(e1,(1:Int)),(e2,1+(a.length:Int))]:=d;simp only[DO,oS,AEI]at d;rcases d with rfl|rfl
  .try simp only
   rw[As (by omega),BY (by omega),h1];rfl
  try simp only
  rw[As (by omega),As (by omega),o];exact AAc g (by omega)
 split
 .rw[AP,show i.toNat=((1:Int)+(i-1)).toNat by omega,JP c e1 e2 b (by omega) (by omega)]at d;obtain⟨z,f,rfl⟩:=Cy.1 d;have r:=Ay m f;have:=ha.arc (i-1) (by omega) (by omega) z f;try simp only
  rw[As (by omega),BY (by omega),this];exact AAc va (by omega)
 rw[AP,show i.toNat=(((1+a.length:Nat):Int)+(i-1-(a.length:Int))).toNat by omega,JQ c e1 e2 a (by omega) (by omega)]at d;obtain⟨z,f,rfl⟩:=Cy.1 d;have r:=Ay n f;have:=j.arc (i-1-(a.length:Int)) (by omega) (by omega) z f;try simp only
 rw[As (by omega),As (by omega),this];exact AAc g (by omega)
theorem RB {h:AG} {c e1 e2:Int} {a b X:List AD} (k:e1<e2) {v:Int->Int} (d:LI h (BI c e1 e2 a b) [] X v):LI h a [] X (λi=>v (1+i))/\LI h b [] X (λi=>v (((1+a.length:Nat):Int)+i)) /\
  Av h c (X.getD (v 0).toNat (0,[])).1=true/\Bw (AP X (v 0)) e1=v 1/\Bw (AP X (v 0)) e2=v ((1+a.length:Nat):Int):=by
 have hl:=CX c e1 e2 a b;have h0:AP (BI c e1 e2 a b) 0=[(e1,1),(e2,1+(a.length:Int))]:=rfl;refine⟨⟨λi e f=>d.rng _ (by omega) (by omega),λi e f=>?_,λi e f y j=>?_,λq g=>by cases g⟩,⟨λi e f=>d.rng _ (by omega) (by omega),λi e f=>?_,λi e f y j=>?_,λq g=>by cases g⟩,?_,?_,?_⟩
 .have:=d.ty (1+i) (by omega) (by omega);rw[JP c e1 e2 b e f]at this;exact this
 .have:=d.arc (1+i) (by omega) (by omega) (y.1,y.2+((1:Nat):Int)) (by rw[AP,JP c e1 e2 b e f];exact Cy.2 ⟨y,j,rfl⟩);rw[this];exact AAc v (by show y.2+((1:Nat):Int)=1+y.2;omega)
 .have:=d.ty (((1+a.length:Nat):Int)+i) (by omega) (by omega);rw[JQ c e1 e2 a e f]at this;exact this
 .have:=d.arc (((1+a.length:Nat):Int)+i) (by omega) (by omega) (y.1,y.2+((1+a.length:Nat):Int)) (by rw[AP,JQ c e1 e2 a e f];exact Cy.2 ⟨y,j,rfl⟩);rw[this];exact AAc v (by show y.2+((1+a.length:Nat):Int)=((1+a.length:Nat):Int)+y.2;omega)
 .have:=d.ty 0 (by omega) (by omega);rw[Nc]at this;exact this
 .exact d.arc 0 (by omega) (by omega) (e1,1) (by rw[h0];simp)
 have:=d.arc 0 (by omega) (by omega) (e2,1+(a.length:Int)) (by rw[h0];simp);rw[this];exact AAc v (by omega)
def dN (c e1 e2 t:Int):List (List AD)->List AD
 | []=>[(t,[])]
 | x :: l=>BI c e1 e2 x (dN c e1 e2 t l)
theorem pR (a b:Nat) (l:List (Int×Int)):AY a (AY b l)=AY (a+b) l:=by
 unfold AY;rw[nO];refine RI λx _=>?_;show (x.1,x.2+(b:Int)+(a:Int))=(x.1,x.2+((a+b:Nat):Int));rw[show x.2+(b:Int)+(a:Int)=x.2+((a+b:Nat):Int) by omega]
def Nm (k:Nat) (N:List AD):List AD:=N.map λx=>(x.1,AY k x.2)
theorem A8o (k:Nat) (N:List AD):(Nm k N).length=N.length:=OR _
theorem zI (a b:Nat) (N:List AD):Nm a (Nm b N)=Nm (a+b) N:=by
 unfold Nm;rw[nO];refine RI λx _=>?_;show (x.1,AY a (AY b x.2))=_;rw[pR]
theorem dP (k:Nat) (M N:List AD):Nm k (M++N)=Nm k M++Nm k N:=Sw
theorem A1A (c a b:Int) (N x:List AD):B5 c a b N x=N++Nm N.length (B5 c a b [] x):=by
 unfold B5;rw[JO,JO];have e:Nm N.length (([]:List AD)++[(c,[(a,(([]:List AD).length:Int)+1),(b,(([]:List AD).length:Int)+1+(x.length:Int))])]++Nm (([]:List AD).length+1) x)=[(c,[(a,(N.length:Int)+1),(b,(N.length:Int)+1+(x.length:Int))])]++Nm (N.length+1) x:=by
  rw[ADP,dP,zI];refine AAc (·++_) ?_;show [(c,[(a,(0:Int)+1+(N.length:Int)),(b,(0:Int)+1+(x.length:Int)+(N.length:Int))])]=_;rw[show (0:Int)+1+(N.length:Int)=(N.length:Int)+1 by omega,show (0:Int)+1+(x.length:Int)+(N.length:Int)=(N.length:Int)+1+(x.length:Int) by omega]
 rw[RN];exact AAc (N++·) e.symm
theorem Xv (c a b:Int):∀(l:List (List AD)) (N:List AD),l.foldl (B5 c a b) N=N++Nm N.length (Rg c a b l)
 | [],N=>(Ra N).symm
 | x :: l,N=>by
  have e:Rg c a b (x :: l)=B5 c a b [] x++Nm (B5 c a b [] x).length (Rg c a b l):=Xv c a b l _;rw[e,RE,Xv c a b l,dP,zI,A1A c a b N,By,A8o,RN]
theorem Xw (c a b t:Int):∀l:List (List AD),C0 c a b t l=dN c a b t l
 | []=>rfl
 | x :: l=>by
  have e:Rg c a b (x :: l)=B5 c a b [] x++Nm (B5 c a b [] x).length (Rg c a b l):=Xv c a b l _;have hl:(B5 c a b [] x).length=1+x.length:=by rw[Gm];simp
  show Rg c a b (x :: l)++[(t,[])]=BI c a b x (dN c a b t l);rw[e,<-Xw c a b t l,hl];unfold BI C0 B5;rw[JO _ (Rg c a b l++[(t,[])]),RN];have e2:([]:List AD)++[(c,[(a,(([]:List AD).length:Int)+1),(b,(([]:List AD).length:Int)+1+(x.length:Int))])]=[(c,[(a,1),(b,1+(x.length:Int))])]:=by
   show [(c,[(a,(0:Int)+1),(b,(0:Int)+1+(x.length:Int))])]=_;rw[AFC]
  rw[e2];refine AAc (HAppend.hAppend (α:=List AD) (β:=List AD) _) ?_;show _++[(t,[])]=Nm (1+x.length) (Rg c a b l++[(t,[])]);rw[dP];rfl
theorem A8p {h:AG} {t:Int} (c:0<=t/\t<(h.1.length:Int)):VF h [(t,[])]:=by
 refine⟨⟨by simp,λx hx=>?_⟩,by simp,λx hx=>?_,λx hx=>?_,λx hx a ha=>?_,rfl,λi d b=>?_⟩
 .rw[RM.1 hx];exact⟨by simp,λa ha=>by cases ha⟩
 .rw[RM.1 hx];exact c
 .rw[RM.1 hx];exact List.Pairwise.nil
 .rw[RM.1 hx]at ha;cases ha
 simp only[IS]at b;omega
structure CW (h:AG) (c e1 e2:Int):Prop where
 c:0<=c/\c<(h.1.length:Int)
 lt:e1<e2
 e1:0<=e1/\e1<(h.2.length:Int)
 e2:0<=e2/\e2<(h.2.length:Int)
theorem Xx {h:AG} {c e1 e2 t:Int} (cw:CW h c e1 e2) (a:0<=t/\t<(h.1.length:Int)):∀ {l:List (List AD)},(∀x∈l,VF h x/\x.length<=100)->l.length<=40->VF h (dN c e1 e2 t l)/\(dN c e1 e2 t l).length<=101*l.length+1
 | [],_,_=>⟨A8p a,If _⟩
 | x :: l,hx,hl=>by
  rw[No]at hl ⊢;obtain⟨v1,e⟩:=Xx cw a (l:=l) (λy b=>hx y (IF _ b)) (by omega);obtain⟨d,f⟩:=hx x AAj;have hp:=CX c e1 e2 x (dN c e1 e2 t l);refine⟨KV cw.c cw.lt cw.e1 cw.e2 d v1 (by omega),?_⟩;show (BI c e1 e2 x (dN c e1 e2 t l)).length<=_;omega
theorem A8q {h:AG} (hu:HU h) {a b M:List AD} (va:VF h a) (r:VF h b) (f:VF h M) (hl:a.length+b.length<=100000) {i j:Int->Int} (h1:HH h a M i) (g:HH h b M j)
  (o:∀X,VF h X->∀d,HH h a X d->∀e,HH h b X e->∃m,HH h M X m):BK h a b=(M,true):=by
 obtain⟨k,c⟩:=dC hu va r hl f.ty h1 g;rw[HD hu c];obtain⟨d,l⟩:=c.left;obtain⟨e,n⟩:=c.right;obtain⟨m,p⟩:=o k c.vf d l e n;obtain⟨s,q⟩:=c.least M f.ty i h1 j g;rw[A4a hu c.vf f q p]
theorem kZ {h:AG} (hk:HX h) {a b g X:List AD} (va:VF h a) (f:VF h b) (d:Jk h a b g) (c:PF h X) {v w:Int->Int} (h1:LI h a [] X v) (j:LI h b [] X w) (e:v 0=w 0):∃u,LI h g [] X u/\u 0=v 0:=by
 have ap:=va.pos;have r:=h1.rng 0 (ADC _) (by omega);have c1:=Q7 va.good va.pos va.ro c h1;have c2:=Q7 f.good f.pos f.ro c j;rw[<-e]at c2;have vc:=pJ c r.1 r.2;obtain⟨m,i⟩:=d.least _ vc.ty _ c1 _ c2;obtain⟨k,l⟩:=A4I c r.1 r.2;refine⟨_,Xk hk d.vf.good d.vf.ty vc.ty c.ty (Db i) k,?_⟩;simp only[i.zero];exact l
theorem zJ {h:AG} {a X:List AD} {v:Int->Int} (b:LI h a [] X v) (h0:v 0=0):HH h a X v:=⟨h0,b.rng,b.ty,b.arc⟩
theorem zK {h:AG} (hu:HU h) {a b X:List AD} (va:VF h a) (c:VF h b) (hl:a.length+b.length<=100000) (d:PF h X) {v w:Int->Int} (h1:LI h a [] X v) (g:LI h b [] X w) (e:v 0=w 0):∃f,Jk h a b f:=by
 have ap:=va.pos;have r:=h1.rng 0 (ADC _) (by omega);have c1:=Q7 va.good va.pos va.ro d h1;have c2:=Q7 c.good c.pos c.ro d g;rw[<-e]at c2;exact dC hu va c hl (pJ d r.1 r.2).ty c1 c2
theorem A4W (h:AG) (c e1 e2:Int) {A:List AD} (g:∀x∈A,Li x.2) (B:List AD):LI h A [] (BI c e1 e2 A B) λi=>1+i:=by
 have hl:=CX c e1 e2 A B;refine⟨λi b d=>by omega,λi b d=>?_,λi b d y f=>?_,λq e=>by cases e⟩
 .try simp only
  rw[JP c e1 e2 B b d];exact Fe h _
 try simp only
 rw[AP,JP c e1 e2 B b d,show 1+y.2=y.2+((1:Nat):Int) by omega];exact EI (a:=(y.1,y.2+((1:Nat):Int))) (Ih (Gi g i)) (Cy.2 ⟨y,f,rfl⟩)
theorem A4X (h:AG) (c e1 e2:Int) (A:List AD) {B:List AD} (g:∀x∈B,Li x.2):LI h B [] (BI c e1 e2 A B) λi=>((1+A.length:Nat):Int)+i:=by
 have hl:=CX c e1 e2 A B;refine⟨λi b d=>by omega,λi b d=>?_,λi b d y f=>?_,λq e=>by cases e⟩
 .try simp only
  rw[JQ c e1 e2 A b d];exact Fe h _
 try simp only
 rw[AP,JQ c e1 e2 A b d,show ((1+A.length:Nat):Int)+y.2=y.2+((1+A.length:Nat):Int) by omega];exact EI (a:=(y.1,y.2+((1+A.length:Nat):Int))) (Ih (Gi g i)) (Cy.2 ⟨y,f,rfl⟩)
theorem k4 {h:AG} (hk:HX h) {c e1 e2:Int} {a b A B:List AD} (cw:CW h c e1 e2) (va:VF h a) (e:VF h b) (f:VF h A) (g:VF h B) {p q:Int->Int} (h1:HH h a A p) (i:HH h b B q):∃m,HH h (BI c e1 e2 a b) (BI c e1 e2 A B) m:=by
 have hl:=CX c e1 e2 A B;have k:=A4W h c e1 e2 f.str B;have l:=A4X h c e1 e2 A g.str;have j:Cc h (BI c e1 e2 A B):=λx hx=>by
  rcases KU hx with rfl|⟨y,d,rfl⟩|⟨y,d,rfl⟩
  .exact cw.c
  .exact f.ty y d
  exact g.ty y d
 have n:=Xk hk va.good va.ty f.ty j (Db h1) k;have o:=Xk hk e.good e.ty g.ty j (Db i) l;have h0:AP (BI c e1 e2 A B) 0=[(e1,1),(e2,1+(A.length:Int))]:=rfl;have hs:Li [(e1,(1:Int)),(e2,1+(A.length:Int))]:=Rb.2 ⟨λy d=>by rw[RM.1 d];exact cw.lt,AEj _ _⟩;refine⟨_,zJ (kY va.good e.good va.pos e.pos n o (x:=0) ⟨ADC _,by omega⟩ (by rw[Nc];exact Fe h c) ?_ ?_) (BY rfl)⟩
 .rw[h0,h1.zero];exact EI (a:=(e1,1)) hs (by simp)
 rw[h0,i.zero];refine(EI (a:=(e2,1+(A.length:Int))) hs (by simp)).trans ?_;show 1+(A.length:Int)=((1+A.length:Nat):Int)+0;omega
theorem pS {h:AG} (hu:HU h) {c e1 e2:Int} (cw:CW h c e1 e2) {a f b b' A B:List AD} (va:VF h a) (k:VF h f) (l:VF h b) (m:VF h b') (d:Jk h a f A) (e:Jk h b b' B) (hl:a.length+f.length+b.length+b'.length<=9000):BK h (BI c e1 e2 a b) (BI c e1 e2 f b')=(BI c e1 e2 A B,true):=by
 have O:=CX c e1 e2 a b;have P:=CX c e1 e2 f b';have Q:=d.len;have R:=e.len;obtain⟨K,t⟩:=d.left;obtain⟨L,v⟩:=d.right;obtain⟨b1,y⟩:=e.left;obtain⟨b2,z⟩:=e.right;obtain⟨S,h1⟩:=k4 hu.ok cw va l d.vf e.vf t y;obtain⟨T,s⟩:=k4 hu.ok cw k m d.vf e.vf v z;refine A8q hu (KV cw.c cw.lt cw.e1 cw.e2 va l (by omega)) (KV cw.c cw.lt cw.e1 cw.e2 k m (by omega)) (KV cw.c cw.lt cw.e1 cw.e2 d.vf e.vf (by omega)) (by omega) h1 s λX j M n N o=>?_;obtain⟨E,F,p,g,i⟩:=RB cw.lt (Db n);obtain⟨G,H,I,q,r⟩:=RB cw.lt (Db o);rw[n.zero]at p g i;rw[o.zero]at I q r;obtain⟨u,C,J⟩:=kZ hu.ok va k d j.pf E G (by simp only[AE7];rw[<-g,q]);obtain⟨w,D,w0⟩:=kZ hu.ok l m e j.pf F H (by simp only[AE7];rw[<-i,r]);have U:=j.pos;exact⟨_,zJ (kY d.vf.good e.vf.good d.vf.pos e.vf.pos C D (x:=0) ⟨ADC _,by omega⟩ p (by rw[J,g];rfl) (by rw[w0,i];simp only[AE7])) (BY rfl)⟩
theorem YT {h:AG} (hu:HU h) {c e1 e2:Int} (cw:CW h c e1 e2) {a d b b':List AD} (va:VF h a) (t:VF h d) (u:VF h b) (v:VF h b') (hl:a.length+d.length+b.length+b'.length<=9000) (m:(BK h (BI c e1 e2 a b) (BI c e1 e2 d b')).2=true):(∃A,Jk h a d A)/\∃B,Jk h b b' B:=by
 have e:=HE m;generalize (BK h (BI c e1 e2 a b) (BI c e1 e2 d b')).1=w at *;obtain⟨x,f⟩:=e.left;obtain⟨y,g⟩:=e.right;obtain⟨n,o,p,i,j⟩:=RB cw.lt (Db f);obtain⟨q,r,s,k,l⟩:=RB cw.lt (Db g);rw[f.zero]at p i j;rw[g.zero]at s k l;exact⟨zK hu va t (by omega) e.vf.pf n q (by simp only[AE7];rw[<-i,k]),zK hu u v (by omega) e.vf.pf o r (by simp only[AE7];rw[<-j,l])⟩
noncomputable def DA (h:AG):List (List AD)->List (List AD)->List (List AD)×Bool
 | [],k=>(k,true)
 | _ :: _,[]=>([],false)
 | x :: l,y :: k=>if (BK h x y).2=true/\(DA h l k).2=true then ((BK h x y).1 :: (DA h l k).1,true) else ([],false)
theorem A8r {h:AG} {a b:List AD} (h1:(BK h a b).2≠true):BK h a b=([],false):=by
 rcases Q6 (h:=h) a b with ⟨U,-,e⟩|⟨e,-⟩
 .rw[e]at h1;exact absurd rfl h1
 exact e
theorem Jk.of {h:AG} (hu:HU h) {a b c:List AD} {o:Bool} (e:BK h a b=(c,o)) (d:o=true):Jk h a b c:=by
 have:=HE (h:=h) (a:=a) (b:=b) (by rw[e];exact d);rw[e]at this;exact this
theorem k6 {h:AG} {c e1 e2 t:Int} (e:0<=t/\t<(h.1.length:Int)) (cw:CW h c e1 e2) (hk:HX h) (i:(Ba h c t).2=false) (x b:List AD) (X:List AD) (l:Cc h X) {j k:Int->Int} (h1:HH h [(t,[])] X j) (d:HH h (BI c e1 e2 x b) X k):False:=by
 have r:=h1.rng 0 (ADC _) (by simp);have f:=h1.ty 0 (ADC _) (by simp);have a:=d.ty 0 (ADC _) (by rw[CX];omega);rw[Nc]at a;rw[h1.zero]at f r;rw[d.zero]at a;have g:=dF l r.1 r.2;have:=((IU hk cw.c.1 cw.c.2 e.1 e.2).2 _ g.1 g.2 a f).1;rw[i]at this;cases this
theorem Mu {h:AG} (hu:HU h) {c e1 e2 t a:Int} (cw:CW h c e1 e2) (v:0<=t/\t<(h.1.length:Int)) (hn:0<=a/\a<(h.1.length:Int)) (u:(Ba h c a).2=false) (G:Av h t a=true)
  (E:t=a\/Av h t c=true):∀(l k:List (List AD)),(∀x∈l,VF h x/\x.length<=30)->(∀x∈k,VF h x/\x.length<=30)->l.length<=20->k.length<=20 ->
  BK h (dN c e1 e2 t l) (dN c e1 e2 a k)=if (DA h l k).2=true/\(t=a->l.length=k.length) then (dN c e1 e2 a (DA h l k).1,true) else ([],false)
 | [],k,hl,hk,w,C=>by
  have f:=Xx cw hn (l:=k) (λx q=>⟨(hk x q).1,by have:=(hk x q).2;omega⟩) (by omega);have h0:dN c e1 e2 t []=[(t,[])]:=rfl;have Q:DA h [] k=(k,true):=by cases k<;>rfl
  rw[Q,h0];by_cases g:Av h t ((dN c e1 e2 a k).getD 0 (0,[])).1=true/\(t=a->k.length=0)
  .rw[BY ⟨rfl,λq=>(g.2 q).symm⟩];have V:=f.1.pos;refine HD hu (A4z f.1 (m:=λ_=>0) ⟨rfl,λi I j=>⟨ADC _,by omega⟩,λi I j=>?_,λi I j y H=>?_⟩)
   .simp only[IS]at j;rw[show i=0 by omega];exact g.1
   simp only[IS]at j;rw[show i=0 by omega]at H;cases H
  have O:t=a/\∃y r,k=y :: r:=by
   cases k with
   | nil=>exact absurd ⟨G,λ_=>rfl⟩ g
   | cons y r =>
    refine⟨?_,y,r,rfl⟩;rcases E with q|q
    .exact q
    refine FT λb=>g ⟨q,λU=>absurd U b⟩
  obtain⟨rfl,y,r,rfl⟩:=O;rw[As (λq=>by have:=q.2 rfl;simp at this)];exact Mk λX D S n T o=>k6 v cw hu.ok u _ _ X D n o
 | x :: l,[],hl,hk,w,C=>by
  rw[As (λq=>by have:=q.1;cases this)];exact Mk λX D S n T o=>k6 hn cw hu.ok u _ _ X D o n
 | x :: l,y :: k,hl,hk,w,C=>by
  rw[No]at w C;have K:=hl x AAj;have L:=hk y AAj;have s:∀z∈l,VF h z/\z.length<=30:=λz q=>hl z (IF _ q);have p:∀z∈k,VF h z/\z.length<=30:=λz q=>hk z (IF _ q);have J:=Xx cw v (l:=l) (λz q=>⟨(s z q).1,by have:=(s z q).2;omega⟩) (by omega);have f:=Xx cw hn (l:=k) (λz q=>⟨(p z q).1,by have:=(p z q).2;omega⟩) (by omega);have e:=Mu hu cw v hn u G E l k s p (by omega) (by omega);have F:x.length+y.length+(dN c e1 e2 t l).length+(dN c e1 e2 a k).length<=9000:=by omega
  show BK h (BI c e1 e2 x (dN c e1 e2 t l)) (BI c e1 e2 y (dN c e1 e2 a k))=_;have R:DA h (x :: l) (y :: k)=if (BK h x y).2=true/\(DA h l k).2=true then ((BK h x y).1 :: (DA h l k).1,true) else ([],false):=rfl
  rw[R];by_cases d:((BK h x y).2=true/\(DA h l k).2=true)/\(t=a->l.length=k.length)
  .rw[BY d.1,BY ⟨rfl,λq=>by rw[No,No,d.2 q]⟩];rw[BY ⟨d.1.2,d.2⟩]at e;exact pS hu cw K.1 L.1 J.1 f.1 (HE d.1.1) (Jk.of hu e rfl) F
  have P:(BK h (BI c e1 e2 x (dN c e1 e2 t l)) (BI c e1 e2 y (dN c e1 e2 a k))).2≠true:=λq=>by
   obtain⟨⟨A,M⟩,B,N⟩:=YT hu cw K.1 L.1 J.1 f.1 F q;have e1:=HD hu M;rw[HD hu N]at e;split at e
   .rename_i b;exact d ⟨⟨by rw[e1],b.1⟩,b.2⟩
   cases e
  rw[A8r P];by_cases hi:(BK h x y).2=true/\(DA h l k).2=true
  .rw[BY hi,As (λb=>d ⟨hi,λq=>by have:=b.2 q;simpa using this⟩)]
  rw[As hi,As (λb=>by cases b.1)]
section
attribute [local go_sem] KE MT
def Zx:AZ:={ ins:=[E8],pre:=λ_=>True,out:=λ(d,_)=>[.p Dn (GN d)] }
theorem zL:Af Tryz.prog 17 Zx:=by
 refine fK [0,2,3,4,5,9,16] Tryz.func17 Tryz.ntmps17 (AF n8 (AF n6 AH)) ?_;rintro w0 O0 ⟨d,u⟩ a - -;simp only[Zx,AM];repeat'(first|exact trivial|apply eS rfl|apply AB|refine rX a ?_ ?_|refine rC ?_ ?_<;>intro b<;>try(cases b;done))
 .have h1:GN d=(A1 d).1:=by unfold GN;rw[BY ⟨by exact eV,b⟩]
  exact fI a [.cell 2 31] (by rw[h1];exact eR)
 .have h1:GN d=(A1 KD).1:=by unfold GN;rw[As (λh=>b h.2)]
  exact fI a [.cell 2 31] (by rw[h1];exact eR)
 have h1:GN d=(A1 KD).1:=by
  unfold GN;rw[As];intro h;have:=h.1;exact eV
 exact fI a [.cell 2 31] (by rw[h1];exact eR)
end
theorem A4Y:∀(x y:List UInt8),Op.bytesLess x y=true↔x<y
 | _,[]=>by
  unfold Op.bytesLess;simp
 | [],b :: y=>by
  unfold Op.bytesLess;simp
 | a :: x,b :: y=>by
  unfold Op.bytesLess;rw[Sx,An,A4Y x y,List.cons_lt_cons_iff];simp
theorem Gn {x y:ByteArray}:Cf x y=true↔x.toList<y.toList:=A4Y _ _
theorem UH {x y z:ByteArray} (h1:Cf x y=true) (a:Cf y z=true):Cf x z=true:=Gn.2 (List.lt_trans (Gn.1 h1) (Gn.1 a))
theorem A4Z {x y:ByteArray} (h1:¬Cf x y=true) (c:¬Ac x y=true):Cf y x=true:=by
 refine Gn.2 ?_;have a:¬x.toList<y.toList:=λq=>h1 (Gn.2 q);have b:¬x.toList=y.toList:=λq=>c (by unfold Ac;rw[q];exact beq_self_eq_true _);exact FT λq=>b (List.le_antisymm (List.not_lt.1 q) (List.not_lt.1 a))
def pT (l:List ByteArray):Prop:=l.Pairwise λa b=>Cf a b=true
theorem A50 {l:List ByteArray} (hl:pT l) (s:ByteArray):pT (Dx l s):=by
 unfold Dx;split
 .exact hl
 rename_i hn;have h:l.take (YB l s)=l.takeWhile λx=>Cf x s:=by
  unfold YB;exact(List.prefix_iff_eq_take.1 (List.takeWhile_prefix _)).symm
 have h1:∀x∈l.take (YB l s),Cf x s=true:=λx hx=>by
  rw[h]at hx;have:=List.all_takeWhile (p:=λx=>Cf x s) (l:=l);rw[ON]at this;exact this x hx
 have f:∀x∈l.drop (YB l s),Cf s x=true:=by
  by_cases c:YB l s<l.length
  .have g:=Of c;have e:l.getD (YB l s) ByteArray.empty=l[YB l s]:=by simp[AS,c]
   have hh:Cf s l[YB l s]=true:=by
    refine A4Z (λq=>?_) λq=>hn ?_
    .have:=(nA (λx=>Cf x s) ByteArray.empty l (YB l s) (If _)).1 ⟨c,by rw[e];exact q⟩;exact absurd this (by unfold YB;omega)
    rw[An,Do,e];exact⟨c,q⟩
   intro x hx;have hp:(l.drop (YB l s)).Pairwise λa b=>Cf a b=true:=hl.drop;rw[g]at hx hp;rcases DO.1 hx with rfl|hx
   .exact hh
   exact UH hh ((Rb.1 hp).1 x hx)
  rw[RC (by omega)];exact λx hx=>by cases hx
 show List.Pairwise _ _;rw[RN,ADB];refine⟨hl.take,Rb.2 ⟨f,hl.drop⟩,λa ha b d=>?_⟩;rcases DO.1 d with rfl|d
 .exact h1 a ha
 exact UH (h1 a ha) (f b d)
theorem A1B (d:List AJ):pT (DV d):=by
 have b:∀(l:List (ByteArray×ByteArray)) (o:List ByteArray),pT o->pT (l.foldl OD o):=by
  intro l;induction l with
  | nil=>exact λo h=>h
  | cons x l a=>exact λo h=>a _ (A50 h x.1)
 have c:∀(l:List AJ) (o:List ByteArray),pT o->pT (l.foldl Ou o):=by
  intro l;induction l with
  | nil=>exact λo h=>h
  | cons x l a=>exact λo h=>a _ (b x.2.2 o h)
 exact c d [] .nil
def A8s (h:AG):Prop:=h.2.Pairwise λa b=>Cf a.1 b.1=true
theorem k7 (d:List AJ):A8s (A1 d).1:=by
 unfold A1;split
 .exact .nil
 show List.Pairwise _ (Dh d).1;unfold Dh;split
 .exact .nil
 show List.Pairwise _ ((DV d).map (Tr d));rw[AAe];exact A1B d
theorem A51 (d:List AJ):A8s (GN d):=by
 unfold GN;split<;>exact k7 _
theorem Xy (s:ByteArray):∀(l:List Wl) (k:Nat),0<=yW s k l->∃i,i<l.length/\yW s k l=((k+i:Nat):Int)/\∃x,l[i]?=some x/\Ac x.1 s=true
 | [],k,h=>absurd h (by unfold yW;decide)
 | x :: l,k,h=>by
  unfold yW at h ⊢;split
  .rename_i e;exact⟨0,by simp,by omega,x,rfl,e⟩
  rename_i e;rw[As e]at h;obtain⟨i,h1,a,y,b,c⟩:=Xy s l (k+1) h;exact⟨i+1,by simp only[No];omega,by rw[a];omega,y,by rw[List.getElem?_cons_succ];exact b,c⟩
theorem ADp {h:AG} (hs:A8s h) {s t:ByteArray} (e:Cf s t=true) (h1:0<=YR h s) (m:0<=YR h t):YR h s<YR h t:=by
 obtain⟨i,d,o,x,f,p⟩:=Xy s h.2 0 h1;obtain⟨j,g,r,y,a,u⟩:=Xy t h.2 0 m;have ex:x.1.toList=s.toList:=S1.1 p;have b:y.1.toList=t.toList:=S1.1 u;have c:=Gn.1 e;unfold YR;rw[o,r];by_cases v:i<j
 .omega
 exfalso;by_cases n:i=j
 .subst n;rw[f]at a;injection a with a
  subst a;rw[ex]at b;rw[b]at c;exact List.lt_irrefl _ c
 have hp:=RR.1 hs j i g d (by omega);have k:h.2[i]=x:=by have:=AT d;rw[f]at this;injection this with q;exact q.symm
 have l:h.2[j]=y:=by have:=AT g;rw[a]at this;injection this with q;exact q.symm
 rw[k,l]at hp;have hp:=Gn.1 hp;rw[ex,b]at hp;exact List.lt_irrefl _ (List.lt_trans hp c)
theorem Xz (s:ByteArray):∀(l:List F4) (k:Nat),0<=dW s k l->∃i,i<l.length/\dW s k l=((k+i:Nat):Int)/\∃x,l[i]?=some x/\Ac x.1 s=true
 | [],k,h=>absurd h (by unfold dW;decide)
 | x :: l,k,h=>by
  unfold dW at h ⊢;split
  .rename_i e;exact⟨0,by simp,by omega,x,rfl,e⟩
  rename_i e;rw[As e]at h;obtain⟨i,h1,a,y,b,c⟩:=Xz s l (k+1) h;exact⟨i+1,by simp only[No];omega,by rw[a];omega,y,by rw[List.getElem?_cons_succ];exact b,c⟩
theorem ADq {h:AG} {s t:ByteArray} (e:Ac s t=false) (h1:0<=KN h s):KN h s≠KN h t:=λq=>by
 obtain⟨i,l,c,x,d,f⟩:=Xz s h.1 0 h1;obtain⟨j,m,g,y,a,k⟩:=Xz t h.1 0 (show 0<=KN h t by rw[<-q];exact h1);have e2:((0+i:Nat):Int)=((0+j:Nat):Int):=c.symm.trans (q.trans g);have:i=j:=by omega
 subst this;rw[d]at a;injection a with a
 subst a;have ex:x.1.toList=s.toList:=S1.1 f;have b:x.1.toList=t.toList:=S1.1 k;have:Ac s t=true:=by
  unfold Ac;rw[<-ex,<-b];exact beq_self_eq_true _
 rw[e]at this;cases this
structure k8 (h:AG):Prop where
 lw:Ea h=true
 srt:A8s h
theorem k8.first_rest {h:AG} (l:k8 h):(AR h).first<(AR h).rest:=ADp l.srt (by decide +kernel) (OJ l.lw).1.1 (OJ l.lw).1.2
theorem k8.ne {h:AG} (l:k8 h):(AR h).list≠(AR h).null:=ADq (by decide +kernel) (OJ l.lw).2.2.2.1
theorem k8.rng {h:AG} (l:k8 h):((AR h).list<(h.1.length:Int)/\(AR h).cons<(h.1.length:Int)/\(AR h).null<(h.1.length:Int)/\(AR h).dlist<(h.1.length:Int))/\(AR h).first<(h.2.length:Int)/\(AR h).rest<(h.2.length:Int)/\(AR h).head<(h.2.length:Int)/\(AR h).last<(h.2.length:Int) :=
 ⟨⟨(EJ h _).2,(EJ h _).2,(EJ h _).2,(EJ h _).2⟩,(GD h _).2,(GD h _).2,(GD h _).2,(GD h _).2⟩
theorem k8.sub {h:AG} (l:k8 h):Av h (AR h).list (AR h).cons=true/\Av h (AR h).list (AR h).null=true:=by
 have e:=l.lw;unfold Ea at e;rw[An,An]at e;exact⟨e.1.2,e.2⟩
section
attribute [local go_sem] Tz Pb cs4 cs5
def A8t (b:Nat) (c a d:Int) (N x:List AD):List AD:=(N++[(c,[(a,(b:Int)+(N.length:Int)+1),(d,(b:Int)+(N.length:Int)+1+(x.length:Int))])])++Nb (b+N.length+1) x x.length
def chB (b:Nat) (c a d:Int) (l:List (List AD)):List AD:=l.foldl (A8t b c a d) []
def X0:AZ:={ ins:=[Dn,Ni,T3,T9],pre:=λ(_,l,b,_,_)=>(∀x∈(l:List (List AD)),AN x/\x.length<=100)/\List.length l<=10/\0<=b/\b<=10,out:=λ(h,l,b,s,_)=>[.p G2 (chB (Int.toNat b) (AR h).cons (AR h).first (AR h).rest l++[(KN h s,[])]),.p T3 (b+((chB (Int.toNat b) (AR h).cons (AR h).first (AR h).rest l).length:Int))] }
attribute [local go_sem] X0
end
section
attribute [local go_sem] Tz Pb HF X0 ST cs4 cs5
def A93 (l:List AD):List AD×Int:=if 4096<l.length then ([],7) else A0 l
def A94:AZ:={ ins:=[G2],pre:=λ(l,_)=>SS l,out:=λ(l,_)=>[.p DE (A93 l).1,.p GI (A93 l).2] }
attribute [local go_sem] A94
end
section
attribute [local go_sem] Tz Pb HF X0 ST A94 cs4 cs5
end
section
attribute [local go_sem] Cb
def HR (f:List AD) (o:List Int):List (Nat×Obj):=[(1,.box 61 false [.sr 5 T3 0 o.length]),(2,.box 177 false [.mp 6]),(3,.box 23 false [.p G2 f]),(4,.box 178 false [.clo 143 [1,2,3,4]]),(5,.arr 3 T3 o),(6,.mapo T3 T3 (lG o))]
theorem A1C (f:List AD) (hf:AN f):∀(k:Nat) (o:List Int) (n:Int),Ji f o->0<=n->n<f.length->n∉o->f.length-o.length<=k ->
  A9 Tryz.prog 143 [.p T3 n,.bp 1 [] 0,.bp 2 [] 0,.bp 3 [] 0,.bp 4 [] 0] (HR f o) [1,2,3,4,6] (λres J=>res=.raw (.tuple #[])/\J=HR f (Ca f k o n)):=by
 intro k;induction k with
 | zero =>
  intro o n h0 h1 z A M;have:=(h0.snoc h1 z A).len;simp only[By,IS]at this;omega
 | succ k I =>
  intro o n B m q v hk;have t:=B.snoc m q v;have E:=t.len;simp only[By,IS]at E;have O:=hf.1;refine KY [0,1,2,3,4,7,9,22,23,24,25,36] [16] [] Tryz.func143 Tryz.ntmps143 AH ?_;intro w0 K O0 ρ0 d P Q;simp only[HR,Ak];repeat'(first|exact trivial|apply eS rfl|apply AB|refine rX d ?_ ?_|refine rC ?_ ?_<;>intro b<;>try(cases b;done))
  .simp only[AO];omega
  .exact⟨m,q⟩
  rw[iU v];have s:=λa (ha:a∈(f.getD n.toNat (0,[])).2)=>Ay hf ha;have C:Ca f (k+1) o n=(f.getD n.toNat (0,[])).2.foldl (AX f k) (o++[n]):=Bu f k o n;have N:=(hf.2 _ (AE f (0,[]) (c6 ⟨m,q⟩))).1;generalize (f.getD n.toNat (0,[])).2=L at *;have H:∀i,Ji f ((L.take i).foldl (AX f k) (o++[n]))/\o++[n] <+: (L.take i).foldl (AX f k) (o++[n]):=λi=>EH (DW hf k) _ _ (λa ha=>s a (S4 ha)) t;generalize F:o++[n]=l at *;have G:l.length=o.length+1:=by rw[<-F];simp
  rw[<-G];refine AK (ι:={i:Nat//i<=L.length}) (λi=>⟨[(0,.p T3 n),(1,.bp 1 [] 0),(2,.bp 2 [] 0),(3,.bp 3 [] 0),(4,.bp 4 [] 0),(22,.p Cm L),(23,.p (.int .i64) (L.length:Int)),(24,.p (.int .i64) (i.1:Int))],HR f ((L.take i.1).foldl (AX f k) l)⟩) (λi=>L.length-i.1) ⟨0,by omega⟩ (AC [(1,.nm 1),(2,.nm 2),(3,.nm 3),(4,.nm 4),(5,.nm 5),(6,.nm 6)] rfl rfl ?_ ?_) (λi=>?_)
  .simp only[HR,ADl,AFq];first|exact eN|refine eM ?_
  .first|exact eN|refine eM ?_
  obtain⟨i,hi⟩:=i;obtain⟨u,x⟩:=H i;have r:=λ(h:i<L.length)=>KF (AX f k) L (0,0) l h;have D:=x.length_le;generalize w:(L.take i).foldl (AX f k) l=c at u x r D;simp only[HR];repeat'(first|exact trivial|apply eS rfl|apply AB|refine rX d ?_ ?_|refine rC ?_ ?_<;>intro b<;>try(cases b;done))
  .exact b
  .have g:i<L.length:=IN.1 (by assumption);have y:=s _ (AE L (0,0) g);have j:(L.getD i (0,0)).2∉c:=by rw[LG]at b;simpa using b
   have e:AX f k c (L.getD i (0,0))=Ca f k c (L.getD i (0,0)).2:=As j;refine cP 3 d ?_ ?_
   .trivial
   refine rM d (I c (L.getD i (0,0)).2 u y.1 y.2 j (by omega)) [(1,.nm 1),(2,.nm 2),(3,.nm 3),(4,.nm 4),(5,.nm 5),(6,.nm 6)] [5] ?_ ?_ ?_
   .first|exact eN|refine eM ?_
   .simp only[HR];first|exact eN|refine eM ?_
   rintro _ _ ⟨rfl,rfl⟩;refine⟨[(1,.nm 1),(2,.nm 2),(3,.nm 3),(4,.nm 4),(5,.nm 5),(6,.nm 6)],.raw (.tuple #[]),HR f (Ca f k c (L.getD i (0,0)).2),rfl,rfl,?_,?_,rfl,rfl,BV ?_⟩
   .simp only[HR];first|exact eN|refine eM ?_
   .first|exact eN|refine eM ?_
   simp only[HR];repeat'(first|exact trivial|apply eS rfl|apply AB|refine rX d ?_ ?_|refine rC ?_ ?_<;>intro b<;>try(cases b;done))
   .omega
   refine⟨⟨i+1,by omega⟩,by simp only;omega,AC [(1,.nm 1),(2,.nm 2),(3,.nm 3),(4,.nm 4),(5,.nm 5),(6,.nm 6)] rfl rfl ?_ ?_⟩
   .simp only[r g,e];first|exact eN|refine eM ?_
   first|exact eN|refine eM ?_
  .omega
  .have g:i<L.length:=IN.1 (by assumption);have j:(L.getD i (0,0)).2∈c:=by rw[LG]at b;simpa using b
   have e:AX f k c (L.getD i (0,0))=c:=BY j;refine⟨⟨i+1,by omega⟩,by simp only;omega,AC [(1,.nm 1),(2,.nm 2),(3,.nm 3),(4,.nm 4),(5,.nm 5),(6,.nm 6)] rfl rfl ?_ ?_⟩
   .simp only[r g,e];first|exact eN|refine eM ?_
   first|exact eN|refine eM ?_
  have hk:L.take i=L:=At (RJ.1 b);rw[hk]at w;rw[C,w];exact fM d [] (.raw (.tuple #[])) rfl ⟨rfl,rfl⟩
def pU:AZ:={ ins:=[G2,T3],pre:=λ(f,n,_)=>AN f/\0<=n/\n<(List.length f:Int),out:=λ(f,n,_)=>[.p DE (AL f n)] }
theorem A52:Af Tryz.prog 100 pU:=by
 refine fKP [0,1,2,4,5,6,7,8,10,11,13,19,20,21,22,35,36,37,38] [50] [] Tryz.func100 Tryz.ntmps100 AH ?_;rintro w0 O0 ⟨f,root,u⟩ b-⟨hf,n,q⟩;have hf:AN f:=hf;simp only[pU,AM];have F:=hf.1;have k:Ji f []:=⟨by simp,λx hx=>by cases hx⟩;obtain⟨l,I⟩:=DW hf f.length [] root k n q (by simp);have w:AL f root=(Ca f f.length [] root).map (Cj f (Ca f f.length [] root)):=rfl;rw[w];repeat'(first|exact trivial|apply eS rfl|apply AB|refine rX b ?_ ?_|refine rC ?_ ?_<;>intro a<;>try(cases a;done))
 refine cP 2 b ?_ ?_
 .trivial
 refine rM b (A1C f hf (List.length f) [] root k n q (by simp) (by simp)) [(1,.nm 6),(2,.nm 5),(3,.nm 2),(4,.nm 7),(5,.nil),(6,.nm 14)] [] ?_ ?_ ?_
 .first|exact eN|refine eM ?_
 .simp only[HR];first|exact eN|refine eM ?_
  try rfl
 rintro _ _ ⟨rfl,rfl⟩;refine⟨[(6,.nm 1),(5,.nm 2),(2,.nm 3),(7,.nm 4),(101,.nm 5),(14,.nm 6)],.raw (.tuple #[]),[(6,.box 61 false [.sr 101 T3 0 (Ca f (List.length f) [] root).length]),(5,.box 177 false [.mp 14]),(2,.box 23 false [.p G2 f]),(7,.box 178 false [.clo 143 [6,5,2,7]]),(101,.arr 3 T3 (Ca f (List.length f) [] root)),(14,.mapo T3 T3 (lG (Ca f (List.length f) [] root)))],rfl,rfl,?_,?_,rfl,rfl,BV ?_⟩
 .simp only[HR];first|exact eN|refine eM ?_
 .first|exact eN|refine eM ?_
 generalize Ca f (List.length f) [] root=o at *;have H:=l.len;repeat'(first|exact trivial|apply eS rfl|apply AB|refine rX b ?_ ?_|refine rC ?_ ?_<;>intro a<;>try(cases a;done))
 refine AK (ι:={i:Nat//i<=o.length}) (λi=>⟨[(2,.bp 2 [] 0),(4,.bp 4 [] 0),(5,.bp 5 [] 0),(8,.bp 8 [] 0),(19,.sr 101 T3 0 o.length),(20,.p (.int .i64) (o.length:Int)),(21,.p (.int .i64) (i.1:Int))],[(8,.box 25 true [.sr 58 Hd 0 ((o.take i.1).map (Cj f o)).length]),(58,.arr 93 Hd ((o.take i.1).map (Cj f o))),(5,.box 177 false [.mp 14]),(2,.box 23 false [.p G2 f]),(101,.arr 3 T3 o),(14,.mapo T3 T3 (lG o)),(4,.box 25 true [.raw (.slice none 0 0)])]⟩) (λi=>o.length-i.1) ⟨0,by omega⟩ (AC [(8,.nm 8),(58,.nil),(5,.nm 5),(2,.nm 2),(101,.nm 101),(14,.nm 14),(4,.nm 4)] rfl rfl ?_ ?_) (λi=>?_)
 .first|exact eN|refine eM ?_
  try exact⟨rfl,rfl⟩
 .first|exact eN|refine eM ?_
 obtain⟨i,hi⟩:=i;have C:((o.take i).map (Cj f o)).length=i:=by rw[OR,OS];omega
 have D:=λh:i<o.length=>CL (Cj f o) o 0 h;have e:=λh:i<o.length=>l.rng _ (AE o 0 h);simp only;generalize m:(o.take i).map (Cj f o)=os at *;repeat'(first|exact trivial|apply eS rfl|apply AB|refine rX b ?_ ?_|refine rC ?_ ?_<;>intro a<;>try(cases a;done))
 .exact a
 .exact e (IN.1 a)
 .exact e (IN.1 a)
 .have d:i<o.length:=IN.1 a;have B:=e d;have g:=D d;have r:=(hf.2 _ (AE f (0,[]) (c6 B))).1;have A:Cj f o (o.getD i 0)=((List.getD f (Int.toNat (o.getD i 0)) (0,[])).1,(List.getD f (Int.toNat (o.getD i 0)) (0,[])).2.map (HC o)):=rfl;rw[A]at g;generalize List.getD f (Int.toNat (o.getD i 0)) (0,[])=x at *;obtain⟨E,xs⟩:=x;simp only at r g ⊢;refine AK (ι:={j:Nat//j<=xs.length}) (λj=>⟨[(2,.bp 2 [] 0),(4,.bp 4 [] 0),(5,.bp 5 [] 0),(8,.bp 8 [] 0),(11,.bp 11 [] 0),(19,.sr 101 T3 0 o.length),(20,.p (.int .i64) (o.length:Int)),(21,.p (.int .i64) (i:Int)),(35,.p Cm xs),(36,.p (.int .i64) (xs.length:Int)),(37,.p (.int .i64) (j.1:Int))],[(8,.box 25 true [.sr 58 Hd 0 os.length]),(58,.arr 93 Hd os),(5,.box 177 false [.mp 14]),(2,.box 23 false [.p G2 f]),(101,.arr 3 T3 o),(14,.mapo T3 T3 (lG o)),(4,.box 25 true [.raw (.slice none 0 0)]),(11,.box 93 true [.p T3 E,.sr 51 AU 0 ((xs.take j.1).map (HC o)).length]),(51,.arr 106 AU ((xs.take j.1).map (HC o)))]⟩) (λj=>xs.length-j.1) ⟨0,NO _⟩ (AC [(8,.nm 8),(58,.nm 58),(5,.nm 5),(2,.nm 2),(101,.nm 101),(14,.nm 14),(4,.nm 4),(11,.nm 11),(51,.nil)] rfl rfl ?_ ?_) (λj=>?_)
  .first|exact eN|refine eM ?_
   try exact⟨rfl,rfl⟩
  .first|exact eN|refine eM ?_
  obtain⟨j,G⟩:=j;have s:((xs.take j).map (HC o)).length=j:=by rw[OR,OS];omega
  have t:=λh:j<xs.length=>CL (HC o) xs (0,0) h;have z:=yE o;simp only;repeat'(first|exact trivial|apply eS rfl|apply AB|refine rX b ?_ ?_|refine rC ?_ ?_<;>intro a<;>try(cases a;done))
  .exact a
  .rw[s];simp only[AO];omega
  .omega
  .have c:j<xs.length:=IN.1 a;have v:=t c;refine⟨⟨j+1,c⟩,by simp only;omega,AC [(8,.nm 8),(58,.nm 58),(5,.nm 5),(2,.nm 2),(101,.nm 101),(14,.nm 14),(4,.nm 4),(11,.nm 11),(51,.nm 51)] rfl rfl ?_ ?_⟩
   .simp only[v,HC];simp only[<-z];first|exact eN|refine eM ?_
   first|exact eN|refine eM ?_
  .rw[C];simp only[AO];omega
  .omega
  have c:xs.take j=xs:=At (RJ.1 a);rw[c];refine⟨⟨i+1,d⟩,by simp only;omega,AC [(8,.nm 8),(58,.nm 58),(5,.nm 5),(2,.nm 2),(101,.nm 101),(14,.nm 14),(4,.nm 4)] rfl rfl ?_ ?_⟩
  .simp only[g];first|exact eN|refine eM ?_
  first|exact eN|refine eM ?_
 have y:i=o.length:=by
  have:=RJ.1 a;omega
 subst y;rw[RD]at m;rw[m];exact fI b [.cell 4 25]
end
end Go.Proofs.YtapkhdkbkodbjaaGreat.Fw
