/- Contracts of the program's and the reference's functions, and the plain laws of what they compute: U8 U9 U10 U11 U12 N8 N9 V1 V2 V4 V5 V6 V9 V10 T19 T20 T22 T24 W6 T26 U14 W7 T27 T21 T23 T25 U13 V3 SN V11 V7 V8 T28 U17 H4 V14 T17 T18 L21 T30 W10 J1 H2 H3 J2 I4 I6 I5 I7 V15 V16 J3 T29 K1 K2 K3 K4 O1 O2 O3 O4 O5 O6 O7 O8 O9 O10 O18 O19 O20 O12 O11. -/
import Derived.Test.YtapkhdkbkodbjaaGreatCYB
import Derived.Test.YtapkhdkbkodbjaaGreatCYA
import Derived.Test.YtapkhdkbkodbjaaGreatCZI
import Derived.Laws.Strings
set_option linter.unusedVariables false
set_option linter.unusedSimpArgs false
namespace Go.Proofs.YtapkhdkbkodbjaaGreat.Fw
open Go
attribute [local irreducible] Ev
attribute [local go_sem] i5 AM List.toList_toArray Br evG evK Yy Et Kw G9 F5 IA Sv OI DK DS NE Cc Cr frz oC Gz DR A5 Fu Bb AV.frz AV.frzs AV.drp AV.drps AV.names AV.namess aq G2 Le Km Tw JW Bc Bh Jw EZ Iz Ea I8 I0 I9 VV P0 HO Ko Fy ET VW Re qUn Jx JA Ly FO Dn Ja Kp Eb Tx DZ Ec FD Rf JB OG FZ OE P6 Rg Lz Jb Kq Ed Dp HZ Dr H9 Da FE Db Ee F0 Cc Cp Py Rd Oj Gw JZ JY Kn QC Ss OH L4 L2 Kt Su L3 Ku cF QE QD AV.trn AV.trns E7 DJ Obj.trn KC jL Dq Eg EU Ef Cg FF Aq lk He G0 H6 bin oB Y4 oE Sq zf1 zfs pfs AV.cells CH Jv Pz Ks QB CZ OD Ty.cell1 Iy E8 Dm GQ ND E6 Kl Lx RZ FY HN Nu Tu VU Lw Kj cD g9 Sp H5 Cq HY RV.flat Ty.flat Ty.size St.add upd del Bd Value.oneCell' Ls Ty.dflt Ix QX IK Qj List.take_succ_cons List.take_zero List.length_cons jC jD Qi J9 ML Hw KA A3z F6 NQ NR NS NT Rq Rr NU JH Vl Option.map_some Option.map_none Option.bind_some Option.getD_some Option.getD_none Option.isNone_none Option.isNone_some Bool.and_true Bool.true_and Bool.and_false Bool.false_and Bool.not_true Bool.not_false if_true if_false List.length_cons List.length_nil and_true true_and and_self List.all_cons List.all_nil List.append_nil List.nil_append List.cons_append List.getElem?_cons_zero List.getElem?_cons_succ List.getElem?_nil List.map_cons List.map_nil List.set_cons_zero List.set_cons_succ List.isEmpty_nil List.isEmpty_cons decide_true decide_false beq_self_eq_true bne_self_eq_false Nat.zero_add Nat.add_zero Nat.sub_zero Int.toNat_natCast Int.toNat_zero Int.toNat_one List.take_length List.length_append List.length_singleton true_or or_true or_self false_or or_false Ty.agg.injEq Ty.slice.injEq Ty.prod.injEq Ty.int.injEq Option.some.injEq beq_iff_eq MJ evMG evMQ opM IM MF B5 J8 HP Qa J6 IL JJ K9 Lj Oz OO PI UB MG Qc Qd J7 Ab Ak Op.operands Call.operands List.filterMap_cons List.filterMap_nil List.append_eq Bool.cond_false_right Bool.cond_true_left cond_true cond_false implies_true decide_eq_true_eq beq_true beq_false Bool.or_true Bool.or_false Bool.true_or Bool.false_or Option.isSome_some Array.empty_append List.append_toArray Fv NF FG H7 cE QA Fz GZ GY JC H8 Kr L1 Y5 oD Ir inB Kv F1 Gx Jy Aj jE List.drop_zero Dg X1 dF CT LD CR AV.fgt AV.fgts Obj.fgt Aw Ah Ab DM Iv BM HA List.any_cons List.any_nil pB jF dG jG MO Rx qs List.flatMap_cons List.flatMap_nil List.cons_append tn dJ Hb List.take_succ_cons List.drop_succ_cons dP Gf BB t8 NZ B9 CS Ae FJ K8 Bj FI Dt II JG Gd IJ
attribute [local go_sem] ty1 ty2 ty3 ty4 ty5 ty9 A7p A7q A7r A7s A7t A7u A7v A7w A7x A7y A7z A7A A7B A7C A7D A7E A7F A7G A7H A7I A7J A7K A7L A7M A7N A7O A7P A7Q A7R A7S A7T A7U A7V A7W A7X A7Y A7Z A80 A81 A82 A83 A84 A85 A86 A87 A88 A89 A8a A8b A8c A8d A8e A8f A8g A8h A8i A8j A8k A8l A8m A8n A8o A8p A8q A8r A8s A8t A8u A8v A8w A8x uF uG uH uI uJ uK uL uM uN uP uQ uR uS uT uU uV uW uX uY uZ u3 u4 u5 u6 u7 u9 vC vE vF vG vH vI vJ vL vM vO vP vQ vS vU vV vW vX vY vZ v4 v5 v6 v7 v8 v9 wA wB wC wD wF wG wH wI wJ wK wL wM wN wP wQ wR wS wT wU wV wW wX wY wZ w5 w6 w9 xA xB xC xE xF xG xH xI xJ xL xM xN xO xP xQ xR xS xT xV xW xX xY xZ x5 x6 x7 x8 x9 yA yB yC yD yE yF yG yH yI yJ yK yL yM yN yO yP yQ yR yS yT yU yV yW yX yY yZ y3 y4 y5 y6 y7 y8 y9 zA zB zC zD zE zF zG zH zI zJ zK zL zM zN zO zP zQ zR zS zT zU zV zW zX zY zZ z0
set_option maxRecDepth 100000
set_option maxHeartbeats 4000000
def uO (h:AG) (p ty:List Int) (ar:List (List (Int×Int))) (M:List Int) (out:List AC):List (Nat×Obj):=[(101,.box 111 true [.p Du h,.sr 102 T3 0 p.length,.sr 103 T3 0 ty.length,.sr 104 DF 0 ar.length]),(102,.arr 3 T3 p),(103,.arr 3 T3 ty),(104,.arr 91 DF ar),(105,.box 108 false [.bp 101 [] 0]),(106,.box 61 false [.sr 107 T3 0 M.length]),(107,.arr 3 T3 M),(108,.box 25 true [.sr 109 GR 0 out.length]),(109,.arr 93 GR out),(110,.box 174 false [.clo 137 [105,106,108,110]])]
def ABq (h:AG) (p0 ty:List Int) (ar:List (List (Int×Int))) (k:Nat):Prop:=∀(p o:List Int) (out:List AC) (n:Int),(∃b,Fo p b)->Em p0 p->Iw (quo p0 ty ar) o->out.length=o.length->0<=n->n<(p0.length:Int)->p0.length-o.length<=k ->
 BA Tryz.prog 137 [.p T3 n,.bp 105 [] 0,.bp 106 [] 0,.bp 108 [] 0,.bp 110 [] 0] (uO h p ty ar (LX p0.length o) out) [101,105,106,108,110]
  (λres c=>∃a,(∃b,Fo a b)/\Em p0 a/\res=.p T3 (BE (AY (quo p0 ty ar) k o (0,EH p0 n)) (EH p0 n))/\c=uO h a ty ar (LX p0.length (AY (quo p0 ty ar) k o (0,EH p0 n))) (out++HW (quo p0 ty ar) o (AY (quo p0 ty ar) k o (0,EH p0 n))))
theorem mF (h:AG) {p0 ty:List Int} {ar:List (List (Int×Int))} (ai:∃m,Fo p0 m) (v:AN (quo p0 ty ar)) (aw:ty.length=p0.length) (ae:ar.length=p0.length) (ag:∀k,∀a∈ar.getD k [],0<=a.2/\a.2<(p0.length:Int)) (k:Nat) (ay:∀j,k=j+1->ABq h p0 ty ar j):ABq h p0 ty ar k:=by
 intro p o out n aj F O y n0 n1 hk;obtain⟨m,fo⟩:=aj;obtain⟨bj,L⟩:=ai;have U:=Po L n0 n1;have d:=GI L n0 n1 U;have hp:=v.1;rw[E2]at hp;have C:=Xc p0.length o;generalize bd:EH p0 n=b at *;refine Ki [0,1,2,3,4,6,7,8,10,18,49,50,51,52] [] [] Tryz.func137 Tryz.ntmps137 AH ?_;intro w0 K O0 ρ0 f be bf;simp only[uO,Aj];repeat'(first|exact trivial|apply eS rfl|refine rX f ?_ ?_)
 refine cP 2 f ?_ ?_
 .trivial
 refine rM f (fO h ty ar m fo n0 (by rw[<-F.1];exact n1)) [(1,.nm 101),(2,.nm 102),(3,.nm 103),(4,.nm 104)] [102,103,104] ?_ ?_ ?_
 .exact eN
 .simp only[Y2];exact eN
 rintro _ _ ⟨u,bi,rfl,rfl,M,bc,ba⟩;have aa:=F.trans bc;have e:=((F.2 n b n0 n1).1 U).det ba;subst e;refine⟨[(101,.nm 1),(102,.nm 2),(103,.nm 3),(104,.nm 4)],.p T3 b,[(101,.box 111 true [.p Du h,.sr 102 T3 0 u.length,.sr 103 T3 0 ty.length,.sr 104 DF 0 ar.length]),(102,.arr 3 T3 u),(103,.arr 3 T3 ty),(104,.arr 91 DF ar)],rfl,rfl,?_,?_,rfl,rfl,?_⟩
 .simp only[Y2];exact eN
 .exact eN
 refine rL f ?_ ?_
 .trivial
 repeat'(first|exact trivial|apply eS rfl|refine rX f ?_ ?_|refine rC ?_ ?_<;>intro l<;>try(cases l;done))
 .exact⟨d.1,by rw[C];exact d.2⟩
 .exact⟨d.1,by rw[C];exact d.2⟩
 .rw[Xd d.1 d.2]at l;have B:b∈o:=If λe=>by rw[As e]at l;omega
  have W:AY (quo p0 ty ar) k o (0,b)=o:=Bq B;have A:BE o b=(LX p0.length o).getD b.toNat 0:=by
   rw[Xd d.1 d.2,Bq B];unfold BE;rw[Bq B]
  refine Ev.ent (σ':=⟨[(6,.p T3 (BE o b))],uO h u ty ar (LX p0.length o) out⟩) ?_ (AD [(101,.nm 101),(102,.nm 102),(103,.nm 103),(104,.nm 104),(105,.nm 105),(106,.nm 106),(107,.nm 107),(108,.nm 108),(109,.nm 109),(110,.nm 110)] rfl rfl ?_ ?_)
  .refine fM f [.tmp 6] (.p T3 (BE o b)) eT ⟨u,⟨m,M⟩,aa,by rw[W],?_⟩;rw[W,bL,Uh];rfl
  .unfold uO;exact eN
  refine eM ?_;exact A.symm
 .exact⟨d.1,by rw[C];exact d.2⟩
 .refine⟨⟨d.1,by rw[aw];exact d.2⟩,?_⟩;have:=O.len;rw[E2]at this;simp only[AQ];omega
 .exact⟨d.1,by rw[ae];exact d.2⟩
 rw[Xd d.1 d.2]at l;have w:b∉o:=λe=>by rw[Bq e]at l;omega
 have N:=O.snoc d.1 (by rw[E2];exact d.2) w;have an:=N.len;rw[E2,BY,IS]at an;obtain⟨j,rfl⟩:∃j,k=j+1:=⟨k-1,by omega⟩;have am:=ay j rfl;have x:=Np (p:=p0) (ty:=ty) (ar:=ar) d.1 d.2;have ax:=λa (ha:a∈ar.getD b.toNat [])=>ag b.toNat a ha;have bg:(ar.getD b.toNat []).length<=100000:=by
  have:=(v.2 _ (AE (quo p0 ty ar) (0,[]) (k:=b.toNat) (by rw[E2];omega))).1;rw[x,OF]at this;exact this
 have ad:∀a∈((ar.getD b.toNat []).map λa=>(a.1,EH p0 a.2)),0<=a.2/\a.2<((quo p0 ty ar).length:Int):=λa ha=>by
  refine Au v (n:=b) ?_;rw[x];exact ha
 obtain⟨c,g⟩:∃c,AEP (quo p0 ty ar) (o++[b]) ((ar.getD b.toNat []).map λa=>(a.1,EH p0 a.2)) j c:=⟨_,A9s v (j:=j) ad N (by rw[E2,BY,IS];omega)⟩;have G:AY (quo p0 ty ar) (j+1) o (0,b)=((ar.getD b.toNat []).map λa=>(a.1,EH p0 a.2)).foldl (AY (quo p0 ty ar) j) (o++[b]):=by
  unfold AY;rw[As w];show CG (quo p0 ty ar) (j+1) o b=_;rw[Bv,x];rfl
 rw[<-g.last,OF]at G;have ap:=λ(i:Nat) (hi:i<(ar.getD b.toNat []).length)=>show (((ar.getD b.toNat []).map λa=>(a.1,EH p0 a.2)).getD i (0,0))=(((ar.getD b.toNat []).getD i (0,0)).1,EH p0 ((ar.getD b.toNat []).getD i (0,0)).2) by
  exact Sa (λa:Int×Int=>(a.1,EH p0 a.2)) (0,0) (0,0) hi
 rw[y,A5v d.1 d.2 w];generalize bh:ar.getD b.toNat []=xs at *;refine AK (ι:={s:Nat×List Int//s.1<=xs.length/\(∃m,Fo s.2 m)/\Em p0 s.2}) (λs=>⟨[(0,.p T3 b),(1,.bp 105 [] 0),(2,.bp 106 [] 0),(3,.bp 108 [] 0),(4,.bp 110 [] 0),(7,.p (.int .i64) (o.length:Int)),(8,.sr 64 AW 0 ((xs.take s.1.1).map λa=>(a.1,BE (c s.1.1) (EH p0 a.2))).length),(49,.p DF xs),(50,.p (.int .i64) (xs.length:Int)),(51,.p (.int .i64) (s.1.1:Int))],uO h s.1.2 ty ar (LX p0.length (c s.1.1)) (out++[(ty.getD b.toNat 0,[])]++HW (quo p0 ty ar) (o++[b]) (c s.1.1))++[(64,.arr 106 AW ((xs.take s.1.1).map λa=>(a.1,BE (c s.1.1) (EH p0 a.2))))]⟩) (λs=>xs.length-s.1.1) ⟨(0,u),Is _,⟨m,M⟩,aa⟩ (AD [(101,.nm 101),(102,.nm 102),(103,.nm 103),(104,.nm 104),(105,.nm 105),(106,.nm 106),(107,.nm 107),(108,.nm 108),(109,.nm 109),(110,.nm 110),(64,.nil)] rfl rfl ?_ ?_) (λs=>?_)
 .unfold uO;simp only[g.zero,bL,Uh];refine eM ?_;exact⟨by rw[Xc,Xc],y.symm⟩
 .exact eN
 obtain⟨⟨i,q⟩,hi,⟨Z,P⟩,V⟩:=s;have E:=g.pre i;have z:=g.dok i;have au:=E.length_le;have ah:=z.len;rw[BY,IS]at au;rw[E2]at ah;have R:(out++[(ty.getD b.toNat 0,[])]++HW (quo p0 ty ar) (o++[b]) (c i)).length=(c i).length:=by
  unfold HW;simp only[BY,IS,OF,YY];omega
 have S:out.length+1+(HW (quo p0 ty ar) (o++[b]) (c i)).length=(c i).length:=by
  rw[<-R,BY,BY,IS]
 simp only[uO];repeat'(first|exact trivial|apply eS rfl|refine rX f ?_ ?_|refine rC ?_ ?_<;>intro l<;>try(cases l;done))
 .exact l
 .have r:i<xs.length:=Do.1 l;have Y:=ax _ (AE xs (0,0) r);have X:=g.succ i (by rw[OF];exact r);rw[ap i r]at X;have af:=A5w E (g.nxt i) (g.cls i) z.nd;have av:=g.pre (i+1);have T:out.length+1+(HW (quo p0 ty ar) (o++[b]) (c (i+1))).length=(c (i+1)).length:=by
   have h1:=av.length_le;rw[BY,IS]at h1;unfold HW;simp only[BY,IS,OF,YY];omega
  have J:((xs.take i).map λa=>(a.1,BE (c i) (EH p0 a.2)))++[((xs.getD i (0,0)).1,BE (c (i+1)) (EH p0 (xs.getD i (0,0)).2))]=(xs.take (i+1)).map λa=>(a.1,BE (c (i+1)) (EH p0 a.2)):=by
   rw[B4 _ xs (0,0) r]
   congr 1
   refine Of λa ha=>?_;obtain⟨t,H⟩:=g.nxt i;rw[<-H,Xf (g.tgt i (a.1,EH p0 a.2) (by rw[<-List.map_take];exact IF.2 ⟨a,ha,rfl⟩))]
  rw[S];refine CJ drawsAny f 10 [([3,4,5],6),([1,2],7),([],8),([0],9)] [] (by kernel_rfl) (LF ?_ ?_)
  .trivial
  refine mxC f (am q (c i) (out++[(ty.getD b.toNat 0,[])]++HW (quo p0 ty ar) (o++[b]) (c i)) (xs.getD i (0,0)).2 ⟨Z,P⟩ V z R Y.1 Y.2 (by omega)) [(101,.nm 101),(102,.nm 102),(103,.nm 103),(104,.nm 104),(105,.nm 105),(106,.nm 106),(107,.nm 107),(108,.nm 108),(109,.nm 109),(110,.nm 110)] [102,103,104,107,109] ?_ ?_ ?_
  .exact eN
  .simp only[uO];refine eM ?_;exact S.symm
  rintro _ _ ⟨I,⟨az,ab⟩,bb,rfl,rfl⟩;rw[<-X,UT _ _ (HW _ (c i) _),af];refine⟨[(101,.nm 101),(102,.nm 102),(103,.nm 103),(104,.nm 104),(105,.nm 105),(106,.nm 106),(107,.nm 107),(108,.nm 108),(109,.nm 109),(110,.nm 110)],.p T3 (BE (c (i+1)) (EH p0 (xs.getD i (0,0)).2)),[(101,.box 111 true [.p Du h,.sr 102 T3 0 I.length,.sr 103 T3 0 ty.length,.sr 104 DF 0 ar.length]),(102,.arr 3 T3 I),(103,.arr 3 T3 ty),(104,.arr 91 DF ar),(105,.box 108 false [.bp 101 [] 0]),(106,.box 61 false [.sr 107 T3 0 (LX p0.length (c (i+1))).length]),(107,.arr 3 T3 (LX p0.length (c (i+1)))),(108,.box 25 true [.sr 109 GR 0 (c (i+1)).length]),(109,.arr 93 GR (out++[(ty.getD b.toNat 0,[])]++HW (quo p0 ty ar) (o++[b]) (c (i+1)))),(110,.box 174 false [.clo 137 [105,106,108,110]])],rfl,rfl,?_,?_,rfl,rfl,rfl,?_⟩
  .simp only[uO];refine eM ?_;exact T
  .exact eN
  refine LF ?_ ?_
  .trivial
  refine Nx f [] ?_ ?_
  .trivial
  refine LF ?_ ?_
  .trivial
  refine Nx f [] ?_ ?_
  .trivial
  refine LF ?_ ?_
  .trivial
  refine Nx f [64] ?_ ?_
  .rw[OF,OS];simp only[AQ];omega
  refine R1 f ?_ ?_ ?_
  .trivial
  .trivial
  repeat'(first|apply eS rfl|apply AB|refine rX f ?_ ?_)
  .exact eV
  refine⟨⟨(i+1,I),r,⟨az,ab⟩,bb⟩,by simp only;omega,AD [(101,.nm 101),(102,.nm 102),(103,.nm 103),(104,.nm 104),(105,.nm 105),(106,.nm 106),(107,.nm 107),(108,.nm 108),(109,.nm 109),(110,.nm 110),(64,.nm 64)] rfl rfl ?_ ?_⟩
  .simp only[uO,<-J];refine eM ?_;exact T.symm
  simp only[<-J];exact eN
 .exact Do.2 (by omega)
 have al:i=xs.length:=by
  have:=US.1 l;omega
 subst al;obtain⟨t,H⟩:=E;have A:BE (c xs.length) b=(o.length:Int):=by
  rw[<-H,Xf (by simp)];unfold BE;rw[Bq (by simp),Xe w]
 have aq:CL (quo p0 ty ar) (c xs.length) b=(ty.getD b.toNat 0,xs.map λa=>(a.1,BE (c xs.length) (EH p0 a.2))):=by
  unfold CL;rw[x];simp only[YU];rfl
 have ak:(out++[(ty.getD b.toNat 0,([]:List (Int×Int)))]++HW (quo p0 ty ar) (o++[b]) (c xs.length)).getD o.length (0,[])=(ty.getD b.toNat 0,[]):=by
  rw[<-y];simp[AS]
 have D:=A2x (Q:=quo p0 ty ar) (g.pre xs.length);rw[aq]at D;rw[UO,ak,A9t out _ _ _ y.symm,<-D];have ao:out.length+1+(HW (quo p0 ty ar) (o++[b]) (c xs.length)).length=(out++HW (quo p0 ty ar) o (c xs.length)).length:=by
  rw[D];simp only[BY,No];omega
 rw[ao];refine Ev.ent (σ':=⟨[(6,.p T3 (BE (c xs.length) b))],uO h q ty ar (LX p0.length (c xs.length)) (out++HW (quo p0 ty ar) o (c xs.length))⟩) ?_ (AD [(101,.nm 101),(102,.nm 102),(103,.nm 103),(104,.nm 104),(105,.nm 105),(106,.nm 106),(107,.nm 107),(108,.nm 108),(109,.nm 109),(110,.nm 110)] rfl rfl ?_ ?_)
 .exact fM f [.tmp 6] (.p T3 (BE (c xs.length) b)) eT ⟨q,⟨Z,P⟩,V,by rw[G],by rw[G];rfl⟩
 .unfold uO;exact eN
 refine eM ?_;exact A.symm
theorem A5x (h:AG) {p0 ty:List Int} {ar:List (List (Int×Int))} (f:∃i,Fo p0 i) (b:AN (quo p0 ty ar)) (g:ty.length=p0.length) (c:ar.length=p0.length) (d:∀k,∀a∈ar.getD k [],0<=a.2/\a.2<(p0.length:Int)):∀k,ABq h p0 ty ar k
 | 0=>mF h f b g c d 0 (λj e=>by cases e)
 | k+1=>mF h f b g c d (k+1) (λj e=>by cases e;exact A5x h f b g c d k)
theorem A5y (len:Nat):LX len []=List.replicate len (-1):=by
 unfold LX;apply Yd
 .simp
 intro i h1 a;simp
theorem A5z {α:Type} (x y:α) {n i:Nat} (h:i<n):(List.replicate i x++List.replicate (n-i) y).set i x=List.replicate (i+1) x++List.replicate (n-(i+1)) y:=by
 obtain⟨m,a⟩:∃m,n-i=m+1:=⟨n-i-1,by omega⟩;have b:n-(i+1)=m:=by omega
 rw[a,b,AFc _ _ (by simp),AFM,AAz,AFW,AFE,List.replicate_succ',UT];rfl
theorem A5A (h:AG) {p ty:List Int} {ar:List (List (Int×Int))} (g:∃w,Fo p w) (f:AN (quo p ty ar)) (t:ty.length=p.length) (m:ar.length=p.length) (n:∀k,∀a∈ar.getD k [],0<=a.2/\a.2<(p.length:Int)) {r:Int} (u:0<=r) (v:r<(p.length:Int)) :
  BA Tryz.prog 87 [.bp 101 [] 0,.p T3 r] (bJ h p ty ar) [101]
  (λres _=>res=.p DC (AI (quo p ty ar) (EH p r))):=by
 have d:=A5x h g f t m n p.length p [] [] r g (Em.refl p) ⟨by simp,λx hx=>by cases hx⟩ rfl u v (by simp);have o:HW (quo p ty ar) [] (AY (quo p ty ar) p.length [] (0,EH p r))=AI (quo p ty ar) (EH p r):=by
  have e:AY (quo p ty ar) p.length [] (0,EH p r)=CG (quo p ty ar) p.length [] (EH p r):=As (by simp);rw[e];unfold HW AI;rw[E2];rfl
 rw[aT,o,A5y]at d;have s:=f.1;rw[E2]at s;generalize AI (quo p ty ar) (EH p r)=G at *;generalize BE _ _=z at d;generalize LX _ _=M at d;refine Ki [0,1,2,4,5,6,7,8,16,17,18] [] [] Tryz.func87 Tryz.ntmps87 AH ?_;intro w0 K O0 ρ0 b A B;simp only[bJ,Aj];repeat'(first|exact trivial|apply eS rfl|refine rX b ?_ ?_)
 .simp only[AQ];omega
 refine AK (ι:={i:Nat//i<=p.length}) (λi=>⟨[(0,.bp 101 [] 0),(1,.p T3 r),(2,.bp 2 [] 0),(4,.bp 4 [] 0),(5,.bp 5 [] 0),(16,.p (.int .i64) (p.length:Int)),(17,.p (.int .i64) (i.1:Int))],[(5,.box 61 false [.sr 14 T3 0 p.length]),(14,.arr 3 T3 (List.replicate i.1 (-1)++List.replicate (p.length-i.1) 0)),(4,.box 25 true [.raw (.slice none 0 0)]),(2,.box 108 false [.bp 101 [] 0]),(101,.box 111 true [.p Du h,.sr 102 T3 0 p.length,.sr 103 T3 0 ty.length,.sr 104 DF 0 ar.length]),(102,.arr 3 T3 p),(103,.arr 3 T3 ty),(104,.arr 91 DF ar)]⟩) (λi=>p.length-i.1) ⟨0,by omega⟩ (AD [(5,.nm 5),(14,.nm 14),(4,.nm 4),(2,.nm 2),(101,.nm 101),(102,.nm 102),(103,.nm 103),(104,.nm 104)] rfl rfl ?_ ?_) (λi=>?_)
 .refine eM ?_;rfl
 .exact eN
 obtain⟨i,hi⟩:=i;simp only;repeat'(first|exact trivial|apply eS rfl|apply AB|refine rX b ?_ ?_|refine rC ?_ ?_<;>intro c<;>try(cases c;done))
 .exact c
 .exact eV
 .have j:i<p.length:=Do.1 c;refine⟨⟨i+1,j⟩,by simp only;omega,AD [(5,.nm 5),(14,.nm 14),(4,.nm 4),(2,.nm 2),(101,.nm 101),(102,.nm 102),(103,.nm 103),(104,.nm 104)] rfl rfl ?_ ?_⟩
  .refine eM ?_;exact A5z _ _ j
  exact eN
 have q:i=p.length:=by
  have:=US.1 c;omega
 subst q;rw[AAz,List.replicate_zero,Uh];refine cP 2 b ?_ ?_
 .trivial
 refine rM b (d) [(101,.nm 101),(102,.nm 102),(103,.nm 103),(104,.nm 104),(105,.nm 2),(106,.nm 5),(107,.nm 14),(108,.nm 7),(109,.nil),(110,.nm 8)] [102,103,104,14] ?_ ?_ ?_
 .exact eN
 .simp only[uO];refine eM ?_;exact AFM.symm
 rintro _ _ ⟨l,y,C,rfl,rfl⟩;refine⟨[(101,.nm 101),(102,.nm 102),(103,.nm 103),(104,.nm 104),(2,.nm 105),(5,.nm 106),(14,.nm 107),(7,.nm 108),(120,.nm 109),(8,.nm 110)],.p T3 z,[(101,.box 111 true [.p Du h,.sr 102 T3 0 l.length,.sr 103 T3 0 ty.length,.sr 104 DF 0 ar.length]),(102,.arr 3 T3 l),(103,.arr 3 T3 ty),(104,.arr 91 DF ar),(2,.box 108 false [.bp 101 [] 0]),(5,.box 61 false [.sr 14 T3 0 M.length]),(14,.arr 3 T3 M),(7,.box 25 true [.sr 120 GR 0 G.length]),(120,.arr 93 GR G),(8,.box 174 false [.clo 137 [2,5,7,8]])],rfl,rfl,?_,?_,rfl,rfl,Bk ?_⟩
 .simp only[uO];exact eN
 .exact eN
 refine Fl [120] ?_;repeat'(first|exact trivial|apply eS rfl|refine rX b ?_ ?_)
 exact fM b [.cell 4 25] (.p DC G) eT rfl
structure AEQ (f:List AC) (r:Int) (o:List Int):Prop where
 ok:Iw f o
 zero:o.getD 0 0=r/\0<o.length
 cl:∀n∈o,∀a∈AP f n,a.2∈o
theorem Ho {f:List AC} (hf:AN f) {r:Int} (b:0<=r) (c:r<(f.length:Int)):AEQ f r (CG f f.length [] r):=by
 have h1:=DV hf f.length [] r (GG f) b c (by simp);have d:=Id hf f.length [] r (GG f) b c (by simp) (by simp);have e:[r] <+: CG f f.length [] r:=by
  obtain⟨k,hk⟩:∃k,f.length=k+1:=⟨f.length-1,by omega⟩;rw[hk,Bv];exact(EF (DV hf k) _ _ (λa ha=>Au hf ha) ((GG f).snoc b c (by simp))).2
 refine⟨h1.1,?_,λn hn a ha=>?_⟩
 .obtain⟨t,g⟩:=e;rw[<-g];exact⟨rfl,by simp⟩
 rcases d.2 n hn with h|h
 .cases h
 exact h a ha
theorem Ij {f:List AC} {r:Int} {i:Nat} (hi:i<(CG f f.length [] r).length):(AI f r).getD i (0,[])=CL f (CG f f.length [] r) ((CG f f.length [] r).getD i 0):=by
 unfold AI;simp[AS,hi]
theorem Ik (f:List AC) (r:Int):(AI f r).length=(CG f f.length [] r).length:=by simp[AI]
def Al (f g:List AC):List AC:=f++g.map λx=>(x.1,AR f.length x.2)
theorem Cb (f g:List AC):(Al f g).length=f.length+g.length:=by simp[Al]
theorem Pp {f g:List AC} {x:Int} (a:0<=x) (b:x<(f.length:Int)):(Al f g).getD x.toNat (0,[])=f.getD x.toNat (0,[]):=by
 unfold Al;rw[AS,AS,Ug (by omega)]
theorem Mz {f g:List AC} {y:Int} (a:0<=y) (b:y<(g.length:Int)):(Al f g).getD ((f.length:Int)+y).toNat (0,[])=((g.getD y.toNat (0,[])).1,AR f.length (g.getD y.toNat (0,[])).2):=by
 unfold Al;have e:((f.length:Int)+y).toNat=f.length+y.toNat:=by omega
 rw[e,AS,Ud (by omega),AFD];rw[<-AS];exact Sa (λx:AC=>(x.1,AR f.length x.2)) (0,[]) (0,[]) (by omega)
theorem A0y {n:Nat} {p:List Int} {x y:Int} (h:EG n p [] x y):EH p x=EH p y:=by
 induction h with
 | cls _ _ _ _ h g=>rw[fS h,fS g]
 | wt h=>cases h
 | symm _ a=>exact a.symm
 | trans _ _ b c=>exact b.trans c
noncomputable abbrev N0 (p ty:List Int) (ar:List (List (Int×Int))):List Int:=CG (quo p ty ar) (quo p ty ar).length [] (EH p 0)
structure AAr (h:AG) (N:List AC) (P:List (Int×Int)) (U:List AC) (v:Int->Int):Prop where
 good:AN U
 pos:0<U.length
 str:∀x∈U,Lv x.2
 feat:∀x∈U,∀a∈x.2,a.1∈C0 N
 ty:CP h U
 ro:RO U
 zero:v 0=0
 proj:Rb h N P U v
 least:∀X w,CP h X->Rb h N P X w->w 0=0->∃m,It h U X m
 len:U.length<=N.length
section
variable {h:AG} {N:List AC} {P:List (Int×Int)} {p ty:List Int} {ar:List (List (Int×Int))}
theorem Sb (a:JI h N P p ty ar []) (b:AN (quo p ty ar)) (c:0<N.length):AEQ (quo p ty ar) (EH p 0) (N0 p ty ar):=by
 obtain⟨d,fo⟩:=a.fo;have lp:=a.lp;have:=GI fo (x:=0) (by omega) (by omega) (Po fo (by omega) (by omega));exact Ho b this.1 (by rw[E2];exact this.2)
theorem Pq (d:JI h N P p ty ar []) (c:AN (quo p ty ar)) (b:0<N.length):EH p 0∈N0 p ty ar:=by
 have a:=Sb d c b;have:=AE (N0 p ty ar) 0 a.zero.2;rw[a.zero.1]at this;exact this
theorem Xg (a:JI h N P p ty ar []) {x y:Int} (b:(x,y)∈P) (hx:EH p x∈N0 p ty ar):EH p y∈N0 p ty ar:=by
 rw[<-A0y (a.sp (x,y) b)];exact hx
theorem r7 (b:JI h N P p ty ar []) (f:AN (quo p ty ar)) (e:0<N.length) {x:Int} (c:0<=x) (j:x<(N.length:Int)) (hx:EH p x∈N0 p ty ar) {a:Int×Int} (ha:a∈AP N x):EH p a.2∈N0 p ty ar:=by
 obtain⟨k,fo⟩:=b.fo;have lp:=b.lp;obtain⟨t,i,g⟩:=b.sa x _ c j (Po fo c (by omega)) a ha;rw[A0y g];have d:=GI fo c (by omega) (Po fo c (by omega));refine(Sb b f e).cl _ hx (a.1,EH p t) ?_;rw[AP,Np d.1 d.2];exact IF.2 ⟨(a.1,t),i,rfl⟩
def fT (N:List AC) (k:Nat) (g:List AC):Prop:=∀i:Int,0<=i->i<(g.length:Int)->(k:Int)+i<(N.length:Int)/\N.getD ((k:Int)+i).toNat (0,[])=((g.getD i.toNat (0,[])).1,AR k (g.getD i.toNat (0,[])).2)
theorem Il (m:JI h N P p ty ar []) (f:AN (quo p ty ar)) (e:0<N.length) {k:Nat} {g:List AC} (l:fT N k g) (r:RO g) (hk:EH p (k:Int)∈N0 p ty ar):∀(n:Nat) (i:Int),i.toNat<=n->0<=i->i<(g.length:Int)->EH p ((k:Int)+i)∈N0 p ty ar:=by
 intro n;induction n with
 | zero =>
  intro i hn o c;have:i=0:=by omega
  subst this;rw[ABR];exact hk
 | succ n q =>
  intro i hn o c;by_cases hi:i=0
  .subst hi;rw[ABR];exact hk
  obtain⟨j,d,s,a,ha,rfl⟩:=r i (by omega) c;have b:=l j d (by omega);have:=r7 m f e (x:=(k:Int)+j) (by omega) b.1 (q j (by omega) d (by omega)) (a:=(a.1,a.2+(k:Int))) (by
   rw[AP,b.2];exact IF.2 ⟨a,ha,rfl⟩)
  rw[AF5];exact this
end
theorem M0 {h:AG} {N:List AC} {P:List (Int×Int)} {e:List AC} {v:Int->Int} (hx:Rb h N P e v) {k:Nat} {g:List AC} (d:fT N k g) (f:v (k:Int)=0):It h g e λi=>v ((k:Int)+i):=by
 refine⟨by show v ((k:Int)+0)=0;rw[ABR];exact f,λi b c=>?_,λi b c=>?_,λi b c a ha=>?_⟩
 .exact hx.rng _ (by omega) (d i b c).1
 .have:=hx.ty _ (by omega) (d i b c).1;rw[(d i b c).2]at this;exact this
 have:=hx.arc _ (by omega) (d i b c).1 (a.1,a.2+(k:Int)) (by
  rw[AP,(d i b c).2];exact IF.2 ⟨a,ha,rfl⟩)
 rw[AF5 (k:Int) a.2];exact this
theorem Hq {h:AG} {g X:List AC} {m:Int->Int} (a:It h g X m):Rb h g [] X m:=⟨a.rng,a.ty,a.arc,λq b=>by cases b⟩
theorem RN {h:AG} {f g X:List AC} (hf:AN f) (k:AN g) {v w:Int->Int} (h1:Rb h f [] X v) (e:Rb h g [] X w):Rb h (Al f g) [] X (λx=>if x<(f.length:Int) then v x else w (x-(f.length:Int))):=by
 have hl:=Cb f g;refine⟨λx c d=>?_,λx c d=>?_,λx c d a ha=>?_,λq l=>by cases l⟩
 .rw[hl]at d;show _/\_;try simp only
  split
  .exact h1.rng x c (by assumption)
  exact e.rng _ (by omega) (by omega)
 .rw[hl]at d;try simp only
  by_cases hx:x<(f.length:Int)
  .rw[Bq hx,Pp c hx];exact h1.ty x c hx
  rw[As hx];have:=Mz (f:=f) (g:=g) (y:=x-(f.length:Int)) (by omega) (by omega);rw[show (f.length:Int)+(x-(f.length:Int))=x by omega]at this;rw[this];exact e.ty _ (by omega) (by omega)
 rw[hl]at d;try simp only
 by_cases hx:x<(f.length:Int)
 .rw[Bq hx];rw[AP,Pp c hx]at ha;have j:=Au hf ha;rw[Bq j.2];exact h1.arc x c hx a ha
 rw[As hx];have:=Mz (f:=f) (g:=g) (y:=x-(f.length:Int)) (by omega) (by omega);rw[show (f.length:Int)+(x-(f.length:Int))=x by omega]at this;rw[AP,this]at ha;obtain⟨b,i,rfl⟩:=IF.1 ha;have j:=Au k i;rw[As (by simp only;omega)];try simp only
 rw[show b.2+(f.length:Int)-(f.length:Int)=b.2 by omega];exact e.arc _ (by omega) (by omega) b i
theorem r8 {h:AG} {N X:List AC} {P:List (Int×Int)} {v:Int->Int} (h1:Rb h N [] X v) (a:∀q∈P,v q.1=v q.2):Rb h N P X v:=⟨h1.rng,h1.ty,h1.arc,a⟩
theorem KT {N f g:List AC} {k:Nat} (h:fT f k N):fT (Al f g) k N:=by
 intro i a b;have:=h i a b;rw[Cb,Pp (by omega) this.1];exact⟨by omega,this.2⟩
theorem Sc {f:List AC}:fT f 0 f:=by
 intro i c b;rw[show ((0:Nat):Int)+i=i by omega];refine⟨b,?_⟩;have:AR 0 (f.getD i.toNat (0,[])).2=(f.getD i.toNat (0,[])).2:=by
  unfold AR;rw[Of (g:=id) (λa _=>by show (a.1,a.2+((0:Nat):Int))=a;rw[Int.natCast_zero,ABR]),List.map_id]
 rw[this]
theorem LY {f g:List AC}:fT (Al f g) f.length g:=by
 intro i a b;rw[Cb,Mz a b];exact⟨by omega,rfl⟩
set_option maxHeartbeats 1000000 in
theorem A5B {h:AG} {N:List AC} {P:List (Int×Int)} {p ty:List Int} {ar:List (List (Int×Int))} (K:JI h N P p ty ar []) (D:AN (quo p ty ar)) (M:0<N.length) (G:∀x,0<=x->x<(N.length:Int)->EH p x∈N0 p ty ar) :
  AAr h N P (AI (quo p ty ar) (EH p 0)) (λx=>BE (N0 p ty ar) (EH p x)):=by
 have n:=Sb K D M
 have ae:=Pq K D M
 obtain⟨nty,⟨au,fo⟩,lp,lt,la,wr,tyr,arr,srt,sp,st,sa,co⟩:=K
 have ai:=E2 p ty ar
 have u:=λ{x:Int} (B:0<=x) (C:x<(N.length:Int))=>Po fo B (by rw[lp];exact C)
 have I:=λ{x:Int} (B:0<=x) (C:x<(N.length:Int))=>GI fo B (by rw[lp];exact C) (u B C)
 have J:=Ik (quo p ty ar) (EH p 0)
 have Z:=λi=>Ij (f:=quo p ty ar) (r:=EH p 0) (i:=i)
 have L:∀x:Int,0<=x->x<(N.length:Int)->AP (quo p ty ar) x=(ar.getD x.toNat []).map λa=>(a.1,EH p a.2):=λx B C=>by
  rw[AP,Np B (by rw[lp];exact C)]
 have s:∀x∈N0 p ty ar,(0<=x/\x<(N.length:Int))/\EM p x=x:=by
  have af:rS (quo p ty ar) (quo p ty ar) id (λx=>(0<=x/\x<(N.length:Int))/\EM p x=x):=by
   refine⟨λi _=>by simp,λi hi a ha=>?_,λi j _ _ e=>e⟩
   rw[L i hi.1.1 hi.1.2]at ha
   obtain⟨b,l,rfl⟩:=List.mem_map.1 ha
   have c:=(arr _ b l).1
   have:=I c.1 c.2
   rw[lp]at this
   exact⟨this,(u c.1 c.2).root⟩
  have Q:=I (x:=0) (by omega) (by omega)
  rw[lp]at Q
  exact(RH af _ [] _ (λx hx=>by cases hx) ⟨Q,(u (x:=0) (by omega) (by omega)).root⟩).2
 have ag:=λ(q:Nat)=>RI D (quo p ty ar).length [] (EH p 0) (GG _) (I (x:=0) (by omega) (by omega)).1 (by rw[ai];exact(I (x:=0) (by omega) (by omega)).2) (by simp) q
 unfold N0 at n ae G s ⊢
 generalize an:AI (quo p ty ar) (EH p 0)=E at *
 generalize ap:CG (quo p ty ar) (quo p ty ar).length [] (EH p 0)=o at *
 have w:∀i:Int,0<=i->i<(o.length:Int)->o.getD i.toNat 0∈o/\BE o (o.getD i.toNat 0)=i:=λi d g=>by
  refine⟨AE o 0 (by omega),?_⟩
  rw[FL n.ok.nd (by omega)]
  omega
 have z:∀x∈o,E.getD (BE o x).toNat (0,[])=(ty.getD x.toNat 0,(ar.getD x.toNat []).map λa=>(a.1,BE o (EH p a.2))):=λx hx=>by
  have al:=BX hx
  have c:=(s x hx).1
  rw[Z _ (by omega),al.2.2]
  unfold CL
  rw[Np c.1 (by rw[lp];exact c.2),List.map_map]
  rfl
 have O:∀x∈o,∀a∈ar.getD x.toNat [],EH p a.2∈o:=λx hx a ha=>by
  have c:=(s x hx).1
  exact n.cl x hx (a.1,EH p a.2) (by rw[L x c.1 c.2];exact List.mem_map.2 ⟨a,ha,rfl⟩)
 have R:∀k,Lv ((ar.getD k []).map λa=>(a.1,BE o (EH p a.2))):=λk=>by
  unfold Lv
  rw[List.pairwise_map]
  exact srt k
 have F:∀x∈E,∃y∈o,x=(ty.getD y.toNat 0,(ar.getD y.toNat []).map λa=>(a.1,BE o (EH p a.2))):=λx hx=>by
  obtain⟨i,hi,rfl⟩:=Cw (0,[]) hx
  have h1:=w (i:Int) (by omega) (by omega)
  refine⟨_,h1.1,?_⟩
  rw[<-z _ h1.1,h1.2]
  rw[Int.toNat_natCast]
 have ad:BE o (EH p 0)=0:=by
  have:=FL n.ok.nd n.zero.2
  rw[n.zero.1]at this
  exact this
 have ao:=n.ok.len
 have am:=D.1
 refine⟨⟨by omega,λx hx=>?_⟩,by rw[J];exact n.zero.2,λx hx=>?_,λx hx a ha=>?_,λx hx=>?_,λi d g=>?_,ad,⟨λi d g=>?_,λi d g=>?_,λi d g a ha=>?_,λq ah=>?_⟩,λX v aa S ak=>?_,by omega⟩
 .obtain⟨y,A,rfl⟩:=F x hx
  have c:=(s y A).1
  refine⟨?_,λa ha=>?_⟩
  .have:=(D.2 _ (AE (quo p ty ar) (0,[]) (k:=y.toNat) (by omega))).1
   rw[Np c.1 (by rw[lp];exact c.2),List.length_map]at this
   simp only[List.length_map]
   exact this
  obtain⟨b,l,rfl⟩:=List.mem_map.1 ha
  have:=BX (O y A b l)
  rw[J]
  exact⟨this.1,this.2.1⟩
 .obtain⟨y,A,rfl⟩:=F x hx
  exact R _
 .obtain⟨y,A,rfl⟩:=F x hx
  obtain⟨b,l,rfl⟩:=List.mem_map.1 ha
  exact(arr _ b l).2
 .obtain⟨y,A,rfl⟩:=F x hx
  have c:=(s y A).1
  exact tyr y c.1 c.2
 . -- in order
  obtain⟨j,aq,a,ha,e⟩:=ag i.toNat (by simp only[List.length_nil];omega) (by omega)
  have h1:=w (j:Int) (by omega) (by omega)
  have V:=w i (by omega) (by omega)
  rw[Int.toNat_natCast]at h1
  have c:=(s _ h1.1).1
  rw[L _ c.1 c.2]at ha
  obtain⟨b,l,rfl⟩:=List.mem_map.1 ha
  refine⟨(j:Int),by omega,by omega,(b.1,BE o (EH p b.2)),?_,?_⟩
  .have:=z _ h1.1
   rw[h1.2]at this
   rw[AP,this]
   exact List.mem_map.2 ⟨b,l,rfl⟩
  show BE o (EH p b.2)=i
  simp only at e
  rw[e,V.2]
 .have:=BX (G i d g)
  rw[J]
  exact⟨this.1,this.2.1⟩
 .show A1 h _ (E.getD (BE o (EH p i)).toNat (0,[])).1=true
  rw[z _ (G i d g)]
  exact st i _ d g (u d g)
 .obtain⟨t,aj,ab⟩:=sa i _ d g (u d g) a ha
  have e:=A0y ab
  show Ao (AP E (BE o (EH p i))) a.1=BE o (EH p a.2)
  rw[e,AP,z _ (G i d g)]
  exact FM (R _) (a:=(a.1,BE o (EH p t))) (List.mem_map.2 ⟨(a.1,t),aj,rfl⟩)
 .show BE o (EH p q.1)=BE o (EH p q.2)
  rw[A0y (sp q ah)]
 obtain⟨c1,c2,T,U⟩:=co X v aa S
 refine⟨λi=>v (o.getD i.toNat 0),?_,λi d g=>?_,λi d g=>?_,λi d g a ha=>?_⟩
 .show v (o.getD 0 0)=0
  rw[n.zero.1,<-c1 0 _ (by omega) (by omega) (u (by omega) (by omega))]
  exact ak
 .have m:=w i d (by omega)
  have c:=(s _ m.1).1
  exact S.rng _ c.1 c.2
 .have m:=w i d (by omega)
  have c:=s _ m.1
  have hn:=z _ m.1
  rw[m.2]at hn
  rw[hn]
  exact T _ c.1.1 c.1.2 c.2
 have m:=w i d (by omega)
 have c:=s _ m.1
 have hn:=z _ m.1
 rw[m.2]at hn
 rw[AP,hn]at ha
 obtain⟨b,l,rfl⟩:=List.mem_map.1 ha
 have W:=U _ c.1.1 c.1.2 c.2 b l
 have H:=(arr _ b l).1
 have Y:=BX (O _ m.1 b l)
 simp only
 rw[Y.2.2,<-c1 b.2 _ H.1 H.2 (u H.1 H.2)]
 exact W
structure VF (h:AG) (f:List AC):Prop where
 good:AN f
 pos:0<f.length
 ty:CP h f
 str:∀x∈f,Lv x.2
 ft:∀x∈f,∀a∈x.2,0<=a.1/\a.1<(h.2.length:Int)
 can:AI f 0=f
 ro:RO f
structure HU (h:AG):Prop where
 ok:Hn h
 inj:Nz h
 ft:h.2.length<=64
def mG (U:List AC):Prop:=(CG U U.length [] 0).length=U.length/\∀k,(hk:k<(CG U U.length [] 0).length)->(CG U U.length [] 0)[k]=(k:Int)
theorem fU {Q:List AC} (m:AN Q) {r:Int} (K:0<=r) (L:r<(Q.length:Int)):AN (AI Q r)/\mG (AI Q r):=by
 have d:=Ho m K L;have C:=Ik Q r;have B:=λi=>Ij (f:=Q) (r:=r) (i:=i);generalize N:AI Q r=c at *;generalize G:CG Q Q.length [] r=o at *;have P:=d.ok.len;have M:=m.1;have g:∀i:Int,0<=i->i<(o.length:Int)->o.getD i.toNat 0∈o/\BE o (o.getD i.toNat 0)=i:=λi I J=>by
  refine⟨AE o 0 (by omega),?_⟩;rw[FL d.ok.nd (by omega)];omega
 have p:∀i:Int,0<=i->i<(o.length:Int)->AP c i=(AP Q (o.getD i.toNat 0)).map (Gm o):=λi I J=>by
  rw[AP,B i.toNat (by omega)];rfl
 have E:rS c Q (λi=>o.getD i.toNat 0) (λi=>0<=i/\i<(o.length:Int)):=by
  refine⟨λi hi=>?_,λi hi a ha=>?_,λi j hi A e=>?_⟩
  .rw[p i hi.1 hi.2,YU];have:∀a∈AP Q (o.getD i.toNat 0),((λa:Int×Int=>(a.1,o.getD a.2.toNat 0))∘Gm o) a=a:=λa ha=>by
    show (a.1,o.getD (BE o a.2).toNat 0)=a;rw[(BX (d.cl _ (g i hi.1 hi.2).1 a ha)).2.2]
   rw[Of this,AGr]
  .rw[p i hi.1 hi.2]at ha;obtain⟨b,q,rfl⟩:=IF.1 ha;have:=BX (d.cl _ (g i hi.1 hi.2).1 b q);exact⟨this.1,this.2.1⟩
  have h1:=(g i hi.1 hi.2).2;have h:=(g j A.1 A.2).2;have e:o.getD i.toNat 0=o.getD j.toNat 0:=e;rw[<-h1,<-h,e]
 have h0:(0:Int)<(o.length:Int):=by have:=d.zero.2;omega
 have u:AN c:=by
  refine⟨by omega,λx hx=>?_⟩;obtain⟨i,hi,rfl⟩:=Cw (0,[]) hx;have h1:=p (i:Int) (by omega) (by omega);rw[AP,UQ]at h1;rw[h1];have t:=g (i:Int) (by omega) (by omega);rw[UQ]at t;have R:=d.ok.rng _ t.1;refine⟨?_,λa ha=>?_⟩
  .rw[OF];exact(m.2 _ (AE Q (0,[]) (k:=(o.getD i 0).toNat) (by omega))).1
  obtain⟨b,q,rfl⟩:=IF.1 ha;have:=BX (d.cl _ t.1 b q);rw[C];exact⟨this.1,this.2.1⟩
 have s:=RH E Q.length [] 0 (λx hx=>by cases hx) ⟨by omega,h0⟩;have H:o.getD (0:Int).toNat 0=r:=d.zero.1;rw[AFe,H,G]at s;have y:=KR u (n:=0) (by omega) (by omega) (Q.length-c.length);rw[show c.length+(Q.length-c.length)=Q.length by omega]at y;rw[y]at s;unfold mG;refine⟨u,?_⟩;generalize CG c c.length [] 0=l at *;obtain⟨w,D⟩:=s;have O:l.length=o.length:=by
  have:=Yp List.length w;rw[OF]at this;exact this.symm
 have F:∀k,(hk:k<l.length)->l[k]=(k:Int):=λk hk=>by
  have v:=D l[k] (YZ hk);have h1:=(g l[k] v.1 v.2).2;have h:=(g (k:Int) (by omega) (by omega)).2;have e:o.getD k 0=o.getD (l[k]).toNat 0:=by
   exact(Yp (λz:List Int=>z.getD k 0) w).trans (by simp[AS,hk])
  rw[UQ,e]at h;rw[<-h1,h]
 exact⟨by omega,F⟩
theorem Xh {b:List AC} (g:AN b) (k:mG b):AI b 0=b:=by
 unfold AI;obtain⟨q,c⟩:=k;generalize CG b b.length [] 0=l at *;have o:l.Nodup:=by
  unfold List.Nodup;rw[UX];intro i j hi n p e;rw[c i hi,c j n]at e;omega
 have m:∀x,0<=x->x<(l.length:Int)->BE l x=x:=λx r s=>by
  have:=FL o (i:=x.toNat) (by omega);have e:l.getD x.toNat 0=x:=by
   rw[AS,AT (by omega)];show l[x.toNat]=x;rw[c _ (by omega)];omega
  rw[e]at this;rw[this];omega
 apply Yd
 .rw[OF];omega
 intro i h1 d;rw[AAn,c i (by simpa using h1)];have f:b.getD (i:Int).toNat (0,[])=b[i]:=by simp[AS,d]
 unfold CL;rw[f];have:∀a∈b[i].2,Gm l a=a:=λa ha=>by
  have h:=(g.2 _ (YZ d)).2 a ha;unfold Gm;rw[m a.2 h.1 (by omega)]
 rw[Of this,AGr]
theorem mH {Q:List AC} (a:AN Q) {r:Int} (b:0<=r) (c:r<(Q.length:Int)):AI (AI Q r) 0=AI Q r :=
 Xh (fU a b c).1 (fU a b c).2
theorem Xi {h:AG} {a X:List AC} (f:RO a) {m e:Int->Int} (h1:It h a X m) (b:It h a X e):∀(k:Nat) (i:Int),i.toNat<=k->0<=i->i<(a.length:Int)->m i=e i:=by
 intro k;induction k with
 | zero =>
  intro i hk g d;have:i=0:=by omega
  subst this;rw[h1.zero,b.zero]
 | succ k l =>
  intro i hk g d;by_cases hi:i=0
  .subst hi;rw[h1.zero,b.zero]
  obtain⟨j,c,n,x,hx,rfl⟩:=f i (by omega) d;rw[<-h1.arc j c (by omega) x hx,<-b.arc j c (by omega) x hx,l j (by omega) c (by omega)]
theorem M2 {h:AG} (hk:Hn h) {a b c:List AC} (t:AN a) (ta:CP h a) (tb:CP h b) (v:CP h c) {m n:Int->Int} (h1:It h a b m) (j:It h b c n):It h a c λi=>n (m i):=by
 refine⟨by show n (m 0)=0;rw[h1.zero,j.zero],λi f g=>?_,λi f g=>?_,λi f g x hx=>?_⟩
 .have:=h1.rng i f g;exact j.rng _ this.1 this.2
 .have d:=h1.rng i f g;have w:=j.rng _ d.1 d.2;have q:=ta _ (AE a (0,[]) (k:=i.toNat) (by omega));have r:=tb _ (AE b (0,[]) (k:=(m i).toNat) (by omega));have s:=v _ (AE c (0,[]) (k:=(n (m i)).toNat) (by omega));exact LV hk q.1 q.2 r.1 r.2 s.1 s.2 (h1.ty i f g) (j.ty _ d.1 d.2)
 have d:=h1.rng i f g;have p:=Au t hx;have o:=h1.arc i f g x hx;obtain⟨y,u,e1,e2⟩:=KS (l:=AP b (m i)) (e:=x.1) (by rw[o];exact(h1.rng _ p.1 p.2).1);have:=j.arc (m i) d.1 d.2 y u;rw[e1,e2,o]at this;exact this
theorem Im {a:List AC} (hs:∀x∈a,Lv x.2) (n:Int):Lv (AP a n):=by
 unfold AP;by_cases h:n.toNat<a.length
 .exact hs _ (AE a (0,[]) h)
 rw[AS,UV (by omega)];exact .nil
theorem Xj {h:AG} {a:List AC} (hs:∀x∈a,Lv x.2):It h a a id :=
 ⟨rfl,λi b c=>⟨b,c⟩,λi _ _=>Fj h _,λi _ _ x hx=>FM (Im hs i) hx⟩
theorem A0z:∀ {l m:List (Int×Int)},Lv l->Lv m->(∀x,x∈l↔x∈m)->l=m
 | [],[],_,_,_=>rfl
 | [],b :: m,_,_,h=>by have:=(h b).2 (by simp);cases this
 | a :: l,[],_,_,h=>by have:=(h a).1 (by simp);cases this
 | a :: l,b :: m,h1,f,h=>by
  obtain⟨c,d⟩:=Uf.1 h1;obtain⟨b1,b2⟩:=Uf.1 f;have e:a=b:=by
   rcases By.1 ((h a).1 (by simp)) with e|e
   .exact e
   rcases By.1 ((h b).2 (by simp)) with e2|e2
   .exact e2.symm
   have:=c b e2;have:=b1 a e;omega
  subst e;refine Yp _ (A0z d b2 λx=>⟨λhx=>?_,λhx=>?_⟩)
  .rcases By.1 ((h x).1 (by simp[hx])) with e|e
   .subst e;have:=c x hx;omega
   exact e
  rcases By.1 ((h x).2 (by simp[hx])) with e|e
  .subst e;have:=b1 x hx;omega
  exact e
theorem AER {h:AG} (hu:HU h) {c V:List AC} (b:VF h c) (d:VF h V) {m o:Int->Int} (h1:It h c V m) (n:It h V c o):c=V:=by
 have key:∀ {c V:List AC},VF h c->VF h V->∀ {m o:Int->Int},It h c V m->It h V c o->c.length<=V.length->c=V:=by
  clear b d h1 n;intro c V b d m o h1 n H;have c1:=M2 hu.ok b.good b.ty d.ty b.ty h1 n;have c2:=M2 hu.ok d.good d.ty b.ty d.ty n h1;have e1:∀i,0<=i->i<(c.length:Int)->o (m i)=i:=λi r s=>Xi b.ro c1 (Xj b.str) i.toNat i (NO _) r s;have e2:∀i,0<=i->i<(V.length:Int)->m (o i)=i:=λi r s=>Xi d.ro c2 (Xj d.str) i.toNat i (NO _) r s;have w:∀ {A B:List AC} {f:Int->Int},AN A->It h A B f->∀i,0<=i->i<(A.length:Int)->∀x∈AP A i,(x.1,f x.2)∈AP B (f i):=λ{A B f} F hf i r s x hx=>by
   have q:=Au F hx;have C:=hf.arc i r s x hx;obtain⟨y,v,u,t⟩:=KS (l:=AP B (f i)) (e:=x.1) (by rw[C];exact(hf.rng _ q.1 q.2).1);rw[<-u,<-C,<-t];exact v
  have G:rS c V m (λi=>0<=i/\i<(c.length:Int)):=by
   refine⟨λi hi=>?_,λi hi a ha=>Au b.good ha,λi j hi z e=>?_⟩
   .have p:=h1.rng i hi.1 hi.2;refine A0z (Im d.str _) ?_ λx=>⟨λhx=>?_,λhx=>?_⟩
    .unfold Lv;rw[Yh];exact Im b.str i
    .have g:=w d.good n (m i) p.1 p.2 x hx;rw[e1 i hi.1 hi.2]at g;refine IF.2 ⟨_,g,?_⟩;have q:=Au d.good hx;show (x.1,m (o x.2))=x;rw[e2 x.2 q.1 q.2]
    obtain⟨y,v,rfl⟩:=IF.1 hx;exact w b.good h1 i hi.1 hi.2 y v
   rw[<-e1 i hi.1 hi.2,<-e1 j z.1 z.2,e]
  have I:=b.pos;have:=ZM G b.good ⟨by omega,by omega⟩ h1.zero b.pos H λi hi=>by
   have p:=h1.rng i hi.1 hi.2;have u:=h1.ty i hi.1 hi.2;have t:=n.ty (m i) p.1 p.2;rw[e1 i hi.1 hi.2]at t;have D:=b.ty _ (AE c (0,[]) (k:=i.toNat) (by omega));have E:=d.ty _ (AE V (0,[]) (k:=(m i).toNat) (by omega));exact hu.inj _ _ E.1 E.2 D.1 D.2 t u
  rw[d.can,b.can]at this;exact this.symm
 rcases Nat.le_total c.length V.length with hl|hl
 .exact key b d h1 n hl
 exact(key d b n h1 hl).symm
structure fV (h:AG) (a b U:List AC):Prop where
 vf:VF h U
 left:∃m,It h a U m
 right:∃m,It h b U m
 least:∀X,CP h X->∀m1,It h a X m1->∀m2,It h b X m2->∃m,It h U X m
 len:U.length<=a.length+b.length
open Classical in
noncomputable def Js (h:AG) (a b:List AC):List AC×Bool:=if H:∃U,fV h a b U then (H.choose,true) else ([],false)
theorem Tk {h:AG} {a b:List AC} (h1:(Js h a b).2=true):fV h a b (Js h a b).1:=by
 unfold Js at h1 ⊢;split at h1
 .rename_i H;rw[dif_pos H];exact H.choose_spec
 cases h1
theorem Xk {f:List AC} {e:Int} (h:e∈C0 f):∃x∈f,∃a∈x.2,a.1=e:=by
 unfold C0 at h;obtain⟨x,hx,b⟩:=List.mem_flatMap.1 h;obtain⟨a,ha,e⟩:=IF.1 b;exact⟨x,hx,a,ha,e⟩
theorem A5C {h:AG} {N:List AC} {P:List (Int×Int)} {p ty:List Int} {ar:List (List (Int×Int))} (d:JI h N P p ty ar []) (g:AN (quo p ty ar)) (l:0<N.length) (j:∀x∈N,∀a∈x.2,0<=a.1/\a.1<(h.2.length:Int)) {v:Int->Int} (c:AAr h N P (AI (quo p ty ar) (EH p 0)) v):VF h (AI (quo p ty ar) (EH p 0)):=by
 have f:0<=EH p 0/\EH p 0<((quo p ty ar).length:Int):=by
  obtain⟨m,fo⟩:=d.fo;have:=d.lp;have:=GI fo (x:=0) (by omega) (by omega) (Po fo (by omega) (by omega));rw[E2];exact this
 refine⟨c.good,c.pos,c.ty,c.str,λx hx a ha=>?_,mH g f.1 f.2,c.ro⟩;obtain⟨y,k,b,i,e⟩:=Xk (c.feat x hx a ha);rw[<-e];exact j y k b i
theorem A2y {h:AG} {f g:List AC} (hf:VF h f) (d:VF h g):∀x∈Al f g,∀a∈x.2,0<=a.1/\a.1<(h.2.length:Int):=by
 intro x hx;unfold Al at hx;rcases IN.1 hx with hx|hx
 .exact hf.ft x hx
 obtain⟨y,e,rfl⟩:=IF.1 hx;intro a ha;obtain⟨b,c,rfl⟩:=IF.1 ha;exact d.ft y e b c
theorem A9u {h:AG} {f g:List AC} (hf:VF h f) (i:VF h g) {p ty:List Int} {ar:List (List (Int×Int))} (b:JI h (Al f g) [(0,(f.length:Int))] p ty ar []) (d:AN (quo p ty ar)):fV h f g (AI (quo p ty ar) (EH p 0)):=by
 have t:=hf.pos;have hl:=Cb f g;have c:0<(Al f g).length:=by omega
 have h0:=Pq b d c;have l:=Il b d c (KT (g:=g) Sc) hf.ro h0;have n:=Il b d c (LY (f:=f)) i.ro (Xg b (by simp) h0);have a:=A5B b d c λx s u=>by
  by_cases hx:x<(f.length:Int)
  .have:=l x.toNat x (NO _) s hx
   rwa [show ((0:Nat):Int)+x=x by omega]at this
  have:=n _ (x-(f.length:Int)) (NO _) (by omega) (by omega)
  rwa [show (f.length:Int)+(x-(f.length:Int))=x by omega]at this
 refine⟨A5C b d c (A2y hf i) a,⟨_,M0 a.proj (KT (g:=g) Sc) a.zero⟩,⟨_,M0 a.proj (LY (f:=f)) (by rw[<-a.proj.eq (0,(f.length:Int)) (by simp)];exact a.zero)⟩,λX k o h1 r j=>?_,by have:=a.len;omega⟩;refine a.least X _ k (r8 (RN hf.good i.good (Hq h1) (Hq j)) λq m=>?_) ?_
 .have e:q=(0,(f.length:Int)):=by simpa using m
  subst e;try simp only
  rw[Bq (by omega),As (by omega),AGt,h1.zero,j.zero]
 show (if (0:Int)<(f.length:Int) then o 0 else r (0-(f.length:Int)))=0;rw[Bq (by omega)];exact h1.zero
theorem mI (l:List (Int×Int)):AR 0 l=l:=by
 unfold AR;rw[Of (g:=id) (λa _=>by show (a.1,a.2+((0:Nat):Int))=a;rw[Int.natCast_zero,ABR]),List.map_id]
theorem bM (a b:Nat):Bg 0 a++Bg a b=Bg 0 (a+b):=by
 unfold Bg;rw[AGb,UZ,YU]
 congr 1
 refine Of λi _=>?_;show ((a+i:Nat):Int)=((0+(a+i):Nat):Int);rw[tO]
theorem A2z {n k:Nat} (h:k<n):(Bg 0 n).getD k 0=(k:Int):=by
 unfold Bg;rw[AS,Yc,oS h];show ((0+k:Nat):Int)=k;rw[tO]
theorem M3 {n:Nat} {x:Int} (a:0<=x) (b:x<(n:Int)):EM (Bg 0 n) x=x:=by
 unfold EM;rw[A2z (by omega)];omega
def D6 (N:List AC):List Int:=N.map (·.1)
def GJ (N:List AC):List (List (Int×Int)):=N.map (·.2)
theorem Pr (N:List AC) (k:Nat):(D6 N).getD k 0=(N.getD k (0,[])).1:=by
 unfold D6;rw[AS,Yc,AS];cases N[k]?<;>rfl
theorem Nq (N:List AC) (k:Nat):(GJ N).getD k []=(N.getD k (0,[])).2:=by
 unfold GJ;rw[AS,Yc,AS];cases N[k]?<;>rfl
theorem r9 (f g:List AC):CX f f.length++CX g g.length=D6 (Al f g):=by
 unfold CX D6 Al;rw[UO,UO,UZ,YU];rfl
theorem A2A (f g:List AC):EX 0 f f.length++EX f.length g g.length=GJ (Al f g):=by
 unfold EX GJ Al;rw[UO,UO,UZ,YU]
 congr 1
 exact Of λx _=>mI x.2
theorem fW {n:Nat} {x r:Int} (a:0<=x) (b:x<(n:Int)) (h:Rt (Bg 0 n) x r):r=x:=h.det (.base (M3 a b))
theorem fX {h:AG} {N:List AC} (j:AN N) (l:CP h N) (hs:∀x∈N,Lv x.2):JI h N [] (Bg 0 N.length) (D6 N) (GJ N) []:=by
 have hl:(Bg 0 N.length).length=N.length:=H0 0 N.length;refine⟨l,⟨λ_=>0,λn n0 n1=>?_,λn n0 n1 hn=>?_⟩,hl,by simp[D6],by simp[GJ],λw f=>(by cases f),λx c d=>?_,λk a ha=>?_,λk=>?_,λq o=>(by cases o),λx r c d e=>?_,λx r c d e a ha=>?_,λX v p m=>?_⟩
 .rw[hl]at n1 ⊢;rw[M3 n0 n1];exact⟨n0,n1⟩
 .rw[hl]at n1;exact absurd (M3 n0 n1) hn
 .rw[Pr];exact l _ (AE N (0,[]) (by omega))
 .rw[Nq]at ha;refine⟨EC j k a ha,?_⟩;by_cases hk:k<N.length
  .exact List.mem_flatMap.2 ⟨_,AE N (0,[]) hk,IF.2 ⟨a,ha,rfl⟩⟩
  rw[AS,UV (by omega)]at ha;cases ha
 .rw[Nq];have:=Im hs (k:Int)
  rwa [AP,UQ]at this
 .rw[fW c d e,Pr];exact Fj h _
 .rw[fW c d e,Nq];have b:=Au j ha;exact⟨a.2,ha,.cls b.1 b.2 b.1 b.2 (.base (M3 b.1 b.2)) (.base (M3 b.1 b.2))⟩
 refine⟨λx r c d e=>by rw[fW c d e],λw f=>(by cases f),λr g i _=>?_,λr g i _ a ha=>?_⟩
 .rw[Pr];exact m.ty r g i
 rw[Nq]at ha;exact m.arc r g i a ha
theorem Gr {f g:List AC} (hf:AN f) (c:AN g) (hl:f.length+g.length<=100000):AN (Al f g):=by
 have h:=Cb f g;refine⟨by omega,λx hx=>?_⟩;unfold Al at hx;rcases IN.1 hx with hx|hx
 .refine⟨(hf.2 x hx).1,λa ha=>?_⟩;have:=(hf.2 x hx).2 a ha;omega
 obtain⟨y,d,rfl⟩:=IF.1 hx;refine⟨by simp only[AR,OF];exact(c.2 y d).1,λa ha=>?_⟩;obtain⟨b,e,rfl⟩:=IF.1 ha;have:=(c.2 y d).2 b e;simp only;omega
theorem KU {f g:List AC} (hf:∀x∈f,Lv x.2) (a:∀x∈g,Lv x.2):∀x∈Al f g,Lv x.2:=by
 intro x hx;unfold Al at hx;rcases IN.1 hx with hx|hx
 .exact hf x hx
 obtain⟨y,b,rfl⟩:=IF.1 hx;unfold Lv AR;rw[Yh];exact a y b
theorem M4 {h:AG} {f g:List AC} (hf:CP h f) (a:CP h g):CP h (Al f g):=by
 intro x hx;unfold Al at hx;rcases IN.1 hx with hx|hx
 .exact hf x hx
 obtain⟨y,b,rfl⟩:=IF.1 hx;exact a y b
def mJ (N:List AC):Prop:=∀x∈N,∀a∈x.2,0<=a.1/\a.1<64
theorem M5 {f g:List AC} (hf:mJ f) (d:mJ g):mJ (Al f g):=by
 intro x hx;unfold Al at hx;rcases IN.1 hx with hx|hx
 .exact hf x hx
 obtain⟨y,e,rfl⟩:=IF.1 hx;intro a ha;obtain⟨b,c,rfl⟩:=IF.1 ha;exact d y e b c
theorem sC {l:List (Int×Int)} (h:Lv l) (hf:∀a∈l,0<=a.1/\a.1<64):l.length<=64:=by
 have:=fQ h (S:=(List.range 64).map λ(i:Nat)=>(i:Int)) (λa ha=>IF.2 ⟨a.1.toNat,Ue.2 (by have:=hf a ha;omega),by have:=hf a ha;omega⟩)
 rwa [OF,AFl]at this
theorem sD {N:List AC} (h:∀x∈N,x.2.length<=64):(C0 N).length<=64*N.length:=by
 induction N with
 | nil=>simp[C0]
 | cons x N b =>
  have h1:=h x (by simp);have c:=b λy a=>h y (by simp[a]);have e:C0 (x :: N)=x.2.map (·.1)++C0 N:=rfl;rw[e,BY,OF,No];omega
theorem A2B {N:List AC} (h:mJ N) {e:Int} (b:e∈C0 N):0<=e/\e<64:=by
 obtain⟨x,hx,a,ha,rfl⟩:=Xk b;exact h x hx a ha
theorem Xl {h:AG} {N:List AC} {P:List (Int×Int)} {p ty:List Int} {ar:List (List (Int×Int))} (c:JI h N P p ty ar []) (g:N.length<=100000) (hf:mJ N):AN (quo p ty ar):=by
 have hl:=E2 p ty ar;obtain⟨j,fo⟩:=c.fo;have lp:=c.lp;refine⟨by omega,λx hx=>?_⟩;obtain⟨i,hi,rfl⟩:=Cw (0,[]) hx;have e:=Np (p:=p) (ty:=ty) (ar:=ar) (n:=(i:Int)) (by omega) (by omega);rw[UQ]at e;rw[e];refine⟨?_,λa ha=>?_⟩
 .simp only[OF];have:=sC (c.srt i) (λa ha=>A2B hf (c.arr i a ha).2);omega
 obtain⟨b,f,rfl⟩:=IF.1 ha;have d:=(c.arr i b f).1;have:=GI fo (x:=b.2) d.1 (by omega) (Po fo d.1 (by omega));rw[hl];exact this
theorem VF.ft64 {h:AG} {f:List AC} (b:VF h f) (hu:HU h):mJ f:=λx hx a ha=>by
 have h1:=b.ft x hx a ha;have c:=hu.ft;omega
def AES (d:List AL) (o:List ByteArray) (i:Nat):Prop:=∀j,j<i->∀x∈d,Af x.2.1 (o.getD j ByteArray.empty)=true->Af o x.1=true
theorem A5D {c:ByteArray} {o:List ByteArray} {x:AL} (h:Af x.2.1 c=true):Af (Fs c o x) x.1=true:=by grind [Fs,PT,Y1]
theorem bN {c:ByteArray} {x:AL} (h:Af x.2.1 c=true):∀ {l:List AL} {o:List ByteArray},x∈l->Af (l.foldl (Fs c) o) x.1=true
 | [],_,hx=>by cases hx
 | y :: l,o,hx=>by
  rw[UN];rcases By.1 hx with rfl|hx
  .grind [Nh,Nf,A5D]
  exact bN h hx
theorem mK {d:List AL}:∀ {n i:Nat} {o:List ByteArray},gX d o->d.length<=n+i->AES d o i->i<=o.length->∃m,AES d (Dx d n i o) m/\(Dx d n i o).length<=m
 | 0,i,o,ha,c,a,hi=>⟨i,a,by
  have:=ha.len;show o.length<=i;omega⟩
 | n+1,i,o,ha,c,a,hi=>by
  unfold Dx;split
  .rename_i p;obtain⟨b,g⟩:=WX (o.getD i ByteArray.empty) (l:=d) (o:=o) (λ_ h=>h) ha;refine mK b (by omega) (λj k x hx hs=>?_) (by omega);rw[R9 _ (by omega)]at hs;by_cases e:j=i
   .subst e;exact bN hs hx
   exact Nh (λz f=>Nf f) (a j (by omega) x hx hs)
  exact⟨i,a,by omega⟩
theorem Sd {α:Type} {p:α->Bool}:∀ {l:List α},l.countP p=1->∀x∈l,p x=true->∀y∈l,p y=true->x=y
 | [],h,x,hx,_,_,_,_=>by cases hx
 | z :: l,h,x,hx,c,y,a,d=>by
  rw[ABQ]at h;by_cases b:p z=true
  .rw[Bq b]at h;grind
  rw[As b]at h;have hx:x∈l:=by grind
  have a:y∈l:=by grind
  exact Sd (by omega) x hx c y a d
theorem Xm (s:ByteArray):∀(l:List AL) (k:Nat),0<=Cv s k l->∃x∈l,Ac x.1 s=true
 | [],k,h=>by
  simp only[Cv]at h;omega
 | y :: l,k,h=>by
  simp only[Cv]at h;split at h
  .rename_i e;exact⟨y,by simp,e⟩
  obtain⟨x,hx,e⟩:=Xm s l (k+1) h;exact⟨x,by simp[hx],e⟩
theorem sE {d:List AL} (l:BT d=0):∃r∈d,∀x∈d,Af (Dy d r.1) x.1=true:=by
 obtain⟨hs,F,h1,hn,hl⟩:=BF l;have v:0<d.countP λx=>x.2.1.length==0:=by grind [IX]
 obtain⟨r,b,h⟩:=List.countP_pos_iff.1 v;refine⟨r,b,?_⟩;have A:=FU b;have p:gX d [r.1]:=⟨λs hs=>by
  have:s=r.1:=by simpa using hs
  rw[this];exact A,by simp⟩
 obtain⟨m,u,G⟩:=mK (d:=d) (n:=d.length) (i:=0) p (by omega) (λj t=>by omega) (by omega);have g:r.1∈Dx d d.length 0 [r.1]:=Pd (by simp);have q:Dy d r.1=Ma (Dx d d.length 0 [r.1]):=by unfold Dy;rw[As (by omega)]
 rw[q];generalize Dx d d.length 0 [r.1]=o at *;have key:∀(k:Nat) (x:AL),x∈d->IZ d x.1<=k->Af o x.1=true:=by
  intro k;induction k with
  | zero =>
   intro x hx hk;by_cases c:x.2.1.length=0
   .have e:=Sd h1 x hx (by simpa using c) r b h;rw[e];exact Ng g
   obtain⟨s,a⟩:∃s,s∈x.2.1:=AFQ (by omega);have:=Pc hn hl hx (Ng a);omega
  | succ k E =>
   intro x hx hk;by_cases c:x.2.1.length=0
   .have e:=Sd h1 x hx (by simpa using c) r b h;rw[e];exact Ng g
   obtain⟨s,a⟩:∃s,s∈x.2.1:=AFQ (by omega);have B:=Pc hn hl hx (Ng a);obtain⟨y,D,e⟩:=Xm s d 0 (hs x hx s a);rw[<-Pb d e]at B;obtain⟨z,f,e2⟩:=Ua.1 (E y D (by omega));obtain⟨j,t,rfl⟩:=Cw ByteArray.empty f;refine u j (by omega) x hx ?_;exact Ua.2 ⟨s,a,FT (DN e2 e)⟩
 intro x hx;obtain⟨z,f,e⟩:=Ua.1 (key _ x hx (NO _));obtain⟨w,C,e2⟩:=Ua.1 (Wg (o:=[]) f);exact Ua.2 ⟨w,C,DN e2 e⟩
abbrev cnt (c:List Int):Nat:=(IU c).length
theorem A5E {w:Int} (a:U64 w) {r:Nat} (d:r<64):A4j w (r:Int)=w.toNat.testBit r:=by
 have h0:=a.1;have h1:=a.2;have b:w.toNat / 2 ^ r<=w.toNat:=Nat.div_le_self _ _;have e:Y3 .u64 w (r:Int)=((w.toNat / 2 ^ r:Nat):Int):=by
  unfold Y3;have c:min ((r:Int)).toNat IntKind.u64.bits=r:=by
   show min ((r:Int)).toNat 64=r;omega
  grind
 unfold A4j;rw[Nat.testBit_eq_decide_div_mod_eq,e];generalize w.toNat / 2 ^ r=z at *;rw[IY ⟨by omega,by omega⟩ ⟨by decide,by decide⟩,UQ,show (1:Int).toNat=1 from rfl,Nat.and_one_is_mod,AFj,YV,DO];omega
theorem A0A {b:List Int} (a:JQ b) (i:Nat):WT b (i:Int)=BW b i:=by
 have e1:Int.tdiv (i:Int) 64=((i / 64:Nat):Int):=by rw[Yq (by omega)];omega
 have e2:Int.tmod (i:Int) 64=((i % 64:Nat):Int):=by rw[ABP (by omega)];omega
 unfold WT BW;rw[e1,e2,UQ];by_cases hk:i / 64<b.length
 .rw[As (by rw[Ub,DO,DO];omega),A5E (BG a _) (by omega)]
 rw[Bq (by rw[Ub,DO,DO];omega),HJ hk];simp
theorem mL (c:List Int):(IU c).Nodup:=by
 unfold IU OV List.Nodup;rw[Yh];refine List.Pairwise.imp (λh e=>h ?_) (List.Pairwise.filter _ List.nodup_range);exact AGk e
theorem bO {c:List Int} (b:JQ c) {x:Int}:x∈IU c↔∃i:Nat,x=(i:Int)/\BW c i=true:=by
 unfold IU OV;rw[IF];constructor
 .grind [A0A]
 rintro⟨i,rfl,a⟩;refine⟨i,AAh.2 ⟨Ue.2 ?_,by rw[A0A b];exact a⟩,rfl⟩;refine If λd=>?_;unfold BW at a;rw[HJ (by omega)]at a;simp at a
theorem ABr {a b:List Int} (ha:JQ a) (c:JQ b) (h:∀i,BW a i=true->BW b i=true) (d:cnt b<=cnt a) (i:Nat) (hi:BW b i=true):BW a i=true:=by
 refine If λhn=>?_;have hx:(i:Int)∉IU a:=λe=>by grind [bO]
 have:=SZ (l:=(i:Int) :: IU a) (l':=IU b) (YT.2 ⟨hx,mL a⟩) λx hx=>by grind [bO]
 grind
theorem Xn (x:AU) (out:List AU):∀n,(Ff x out n=0->n=0\/F8 x (out.getD 0 c0)=true)/\∀k,Ff x out n=k+1->F8 x (out.getD k c0)=false
 | 0=>⟨λ_=>.inl rfl,λk h=>by simp[Ff]at h⟩
 | n+1=>by
  obtain⟨h1,a⟩:=Xn x out n;grind [Ff]
theorem mM {a b:AU} (h:F8 a b=true):cnt b.2<=cnt a.2:=by
 unfold F8 at h;grind
theorem fY {a b:AU} (h:F8 a b=false):cnt a.2<=cnt b.2:=by
 unfold F8 at h;grind
def HM (out:List AU):Prop:=∀y∈out,cnt y.2<=cnt (out.getD 0 c0).2
theorem A9v {out:List AU} (h:HM out) (x:AU):HM (eF out x):=by
 obtain⟨s1,s2⟩:=Xn x out out.length;have c:=kM x out out.length;intro y a;rw[kQ]at a;unfold eF;cases hk:Ff x out out.length with
 | zero =>
  rw[ZR,Ye,aT];have e:([x]++out).getD 0 c0=x:=rfl;rw[e];rcases a with rfl|a
  .exact NO _
  have h1:=h y a;rcases s1 hk with e|e
  .grind
  exact UR h1 (mM e)
 | succ k =>
  have b:=fY (s2 k hk);rw[hk]at c;have e:(out.take (k+1)++[x]++out.drop (k+1)).getD 0 c0=out.getD 0 c0:=by grind
  rw[e];rcases a with rfl|a
  .exact UR b (h _ (Dh (by omega)))
  exact h y a
theorem mN {d:List AL}:∀ {l:List (List Int)} {o:List AU},HM o->HM (l.foldl (SE d) o)
 | [],_,h=>h
 | b :: l,o,h=>by
  rw[UN];exact mN (A9v h _)
def In (n:Nat) (c:List Int):Prop:=JQ c/\∀i,BW c i=true->i<n
theorem ABs (n:Nat):In n []:=⟨λx hx=>(by cases hx),λi hi=>by unfold BW at hi;simp at hi⟩
theorem ABt {n:Nat} {a b:List Int} (ha:In n a) (c:In n b):In n (Gh a b) :=
 ⟨A0l ha.1 c.1,λi hi=>by
  rw[A0k ha.1 c.1,An]at hi;exact ha.2 i hi.1⟩
theorem A9w {n:Nat} {l:List (List Int)} (h:∀c∈l,In n c) (k:Nat):In n (l.getD k []):=by grind [Dh,aZ,ABs]
theorem A9x {n:Nat} {l:List (List Int)} (h:∀c∈l,In n c) (i k:Nat):∀c∈HQ l i k,In n c:=by grind [HQ,Gh,ABt,A9w]
theorem A0B {q i:Nat}:∀ {n k:Nat} {l:List (List Int)},(∀c∈l,In q c)->∀c∈HR i n k l,In q c
 | 0,_,_,h=>h
 | n+1,k,l,h=>by
  unfold HR;split
  .exact A0B (A9x h i k)
  exact h
theorem A0C {q:Nat}:∀ {n i:Nat} {l:List (List Int)},(∀c∈l,In q c)->∀c∈Jl n i l,In q c
 | 0,_,_,h=>h
 | n+1,i,l,h=>by
  unfold Jl;split
  .exact A0C (A0B h)
  exact h
def Xo (h:AG):Prop:=∀t,0<=t->t<(h.1.length:Int)->A1 h 0 t=true
theorem mO (d:List AL):Xo (BD d).1:=by
 have hk:=Ms d;unfold BD at hk ⊢;split
 .intro t h0 h1;simp at h1;omega
 rename_i g;rw[As g]at hk;have g:(Bm d).2=0:=If g;have A:Be d=0:=by grind [Bm]
 obtain⟨K,-,-⟩:=DP A;obtain⟨j,N,-⟩:=CA K;obtain⟨-,z,-,hn,hl⟩:=BF j;have G:=FQ d d.length;rw[UO]at G;have k:(AX d).length<=4096:=by omega
 obtain⟨r,H,M⟩:=sE j;have a:∀c∈BC (Ai d),In (AX d).length c:=A0C λc f=>by
  obtain⟨s,hs,rfl⟩:=IF.1 f;exact⟨(Ek (d:=d) k s 0).2.1,λi hi=>((Ek (d:=d) k s i).1.1 hi).1⟩
 obtain⟨s,hs,L⟩:=Ua.1 (Wi H);have I:s=r.1:=by grind [Gj,kH]
 subst I;have n:Hc d (AX d) r.1∈BC (Ai d):=by
  have hp:Ai d <+: BC (Ai d):=XL 257 0 (Ai d);exact hp.subset (IF.2 ⟨_,hs,rfl⟩)
 have l:∀i,i<(AX d).length->BW (Hc d (AX d) r.1) i=true:=λi hi=>by grind [Ek,Gj,Dh]
 have B:HM (A8 d):=mN λy J=>by cases J
 have q:=El.2 ⟨_,n,rfl⟩;have u:0<(A8 d).length:=List.length_pos_of_mem q;have p:=B _ q;obtain⟨b,m,h⟩:=El.1 (Dh (d:=c0) u);rw[h]at p;have E:=ABr (a b m).1 (a _ n).1 (λi hi=>l i ((a b m).2 i hi)) p;have D:Bn (Ic d) 0=b:=by
  show ((F9 (A8 d) _ _).getD 0 Y0).2.1=b;have:(F9 (A8 d) (Bm d).1 (A8 d).length).getD 0 Y0=(((A8 d).getD 0 c0).1,((A8 d).getD 0 c0).2,kT (A8 d) ((0:Nat):Int),(Bm d).1.getD 0 []):=by
   unfold F9;rw[AS,Yc,oS u];rfl
  rw[this,h]
 have O:(Ic d).1.length=(A8 d).length:=Ni _ _ _;intro t v w;refine(Ci hk (by omega) (by show (0:Int)<((Ic d).1.length:Int);omega) v w).2 λi hi=>?_;show BW (Bn (Ic d) 0) i=true;rw[D];refine E i (l i ?_);have C:=Cz v w;have F:Bn (Ic d) t∈BC (Ai d):=by
  have e:((Ic d).1.map λt=>t.2.1)=(A8 d).map λx=>x.2:=by
   show ((F9 _ _ _).map λt=>t.2.1)=_;unfold F9;rw[YU];apply Yd
   .simp
   intro i h1 z;simp[AS,show i<(A8 d).length by simpa using h1]
  have o:Bn (Ic d) t∈(Ic d).1.map λt=>t.2.1:=C;rw[e]at o;obtain⟨x,hx,ex⟩:=IF.1 o;obtain⟨c,f,rfl⟩:=El.1 hx;rw[<-ex];exact f
 exact(a _ F).2 i hi
section
open Go
end
section
open Go
end
structure CI (n:Nat) (o:List Int) (ar:List (List (Int×Int))) (W:List (Int×Int)):Prop where
 lo:o.length=n
 la:ar.length=n
 rep:∀k:Nat,k<n->0<=o.getD k 0/\o.getD k 0<=(k:Int)/\o.getD (o.getD k 0).toNat 0=o.getD k 0
 wr:∀w∈W,(0<=w.1/\w.1<(n:Int))/\(0<=w.2/\w.2<(n:Int))
 ta:∀k,∀a∈ar.getD k [],0<=a.2/\a.2<(n:Int)
theorem CI.rng {n:Nat} {o:List Int} {ar:List (List (Int×Int))} {W:List (Int×Int)} (h:CI n o ar W) {x:Int} (c:0<=x) (d:x<(n:Int)):0<=o.getD x.toNat 0/\o.getD x.toNat 0<(n:Int)/\o.getD (o.getD x.toNat 0).toNat 0=o.getD x.toNat 0:=by
 obtain⟨h1,b,a⟩:=h.rep x.toNat (by omega);exact⟨h1,by omega,a⟩
section
variable {n:Nat} {o:List Int} {ar:List (List (Int×Int))} {W:List (Int×Int)} {x y:Int}
end
section
attribute [local go_sem] WU A4m
def AAt (b:List Int):List Hd->Nat->Int×Bool
 | [],_=>(0,false)
 | t :: r,k=>if t.2.1=b then ((k:Int),true) else AAt b r (k+1)
def A5F (h:AG) (a b:Int):Int×Bool:=AAt (Gh (Bn h a) (Bn h b)) h.1 0
end
section
def AET (h:AG) (l:List AC) (c:List Int):Nat->Option (List Int)
 | 0=>some (List.replicate l.length 0)
 | i+1=>match AET h l c i with
  | none=>none
  | some o=>if (A5F h (o.getD (c.getD i 0).toNat 0) (l.getD i (0,[])).1).2=true then some (o.set (c.getD i 0).toNat (A5F h (o.getD (c.getD i 0).toNat 0) (l.getD i (0,[])).1).1) else none
def A5G (h:AG) (l:List AC) (c:List Int):List Int×Bool:=match AET h l c l.length with
 | none=>([],false)
 | some o=>((List.range l.length).map λ(k:Nat)=>o.getD (c.getD k 0).toNat 0,true)
def AFr (n:Nat) (c:List Int):Prop:=c.length=n/\∀k:Nat,k<n->0<=c.getD k 0/\c.getD k 0<=(k:Int)/\c.getD (c.getD k 0).toNat 0=c.getD k 0
def A5H:AZ:={ ins:=[Du,Fq,Ft],pre:=λ(h,l,c,_)=>AFr (List.length l) c/\CP h l/\0<List.length (h:AG).1/\List.length l<=100000/\(∀x∈(h:AG).1,x.2.1.length<=100000),out:=λ(h,l,c,_)=>[.p Ft (A5G h l c).1,.p .bool (A5G h l c).2] }
attribute [local go_sem] A5H
end
section
attribute [local go_sem] aN
attribute [local go_sem] A47 ACj ne_eq not_false_eq_true
end
inductive EQ (n:Nat) (o:List Int) (W:List (Int×Int)):Int->Int->Prop
 | cls {x y:Int} (x0:0<=x) (x1:x<(n:Int)) (y0:0<=y) (y1:y<(n:Int)) (h:o.getD x.toNat 0=o.getD y.toNat 0):EQ n o W x y
 | wt {x y:Int} (h:(x,y)∈W):EQ n o W x y
 | symm {x y:Int} (h:EQ n o W x y):EQ n o W y x
 | trans {x y z:Int} (h:EQ n o W x y) (g:EQ n o W y z):EQ n o W x z
theorem EQ.mono {n:Nat} {o b:List Int} {W a:List (Int×Int)} (h1:∀x y,0<=x->x<(n:Int)->0<=y->y<(n:Int)->o.getD x.toNat 0=o.getD y.toNat 0->EQ n b a x y) (c:∀x y,(x,y)∈W->EQ n b a x y) {x y:Int} (h:EQ n o W x y):EQ n b a x y:=by
 induction h with
 | cls g i j k h=>exact h1 _ _ g i j k h
 | wt h=>exact c _ _ h
 | symm _ d=>exact .symm d
 | trans _ _ e f=>exact .trans e f
theorem EQ.nil {n:Nat} {o:List Int} {x y:Int} (h:EQ n o [] x y):o.getD x.toNat 0=o.getD y.toNat 0:=by
 induction h with
 | cls _ _ _ _ h=>exact h
 | wt h=>cases h
 | symm _ a=>exact a.symm
 | trans _ _ b c=>exact b.trans c
section
variable {h:AG} {N:List AC} {P:List (Int×Int)} {o:List Int} {ar:List (List (Int×Int))} {W:List (Int×Int)} {w:Int×Int}
end
def ABu (h:AG):Prop:=∀t∈h.1,Nrm t.2.1
section
variable {h:AG} {N:List AC} {c:List Int}
end
section
variable {d:List AL}
end
structure HAp (h:AG):Prop where
 iff:∀t f,0<=t->t<(h.1.length:Int)->0<=f->f<(h.2.length:Int)->((EW h t f).2=true↔A1 h (RC h f) t=true)
 mono:∀t t' f,0<=t->t<(h.1.length:Int)->0<=t'->t'<(h.1.length:Int)->0<=f->f<(h.2.length:Int)->A1 h t t'=true->(EW h t f).2=true->A1 h (EW h t f).1 (EW h t' f).1=true
def VJ (h:AG) (m:Nat) (u:List Int):Prop:=u.length=m/\∀t∈u,0<=t/\t<(h.1.length:Int)
theorem VJ.get {h:AG} {m:Nat} {u:List Int} (hu:VJ h m u) {n:Nat} (n1:n<m):0<=u.getD n 0/\u.getD n 0<(h.1.length:Int):=by
 have hl:n<u.length:=by rw[hu.1];exact n1
 rw[AS,AT hl];exact hu.2 _ (YZ hl)
theorem RD.tyl {h:AG} {m:Nat} {s:FW} (hs:RD h m s):VJ h m s.1:=⟨hs.len,hs.ty⟩
def Rc (h:AG) (m:Nat) (u v:List Int):Prop:=∀i,i<m->A1 h (u.getD i 0) (v.getD i 0)=true
def sF (h:AG) (u:List Int) (n:Int) (l:List (Int×Int)):Prop:=∀a∈l,(EW h (u.getD n.toNat 0) a.1).2=true/\A1 h (EW h (u.getD n.toNat 0) a.1).1 (u.getD a.2.toNat 0)=true
def WTy (h:AG) (f:List AC) (u:List Int):Prop:=∀i,i<f.length->sF h u (i:Int) (f.getD i (0,[])).2
theorem Rc.refl {h:AG} (hk:Hn h) {m:Nat} {u:List Int} (hu:VJ h m u):Rc h m u u:=λi hi=>VE hk (hu.get hi).1 (hu.get hi).2
theorem Rc.trans {h:AG} (hk:Hn h) {m:Nat} {u v w:List Int} (hu:VJ h m u) (a:VJ h m v) (b:VJ h m w) (h1:Rc h m u v) (c:Rc h m v w):Rc h m u w:=λi hi =>
 LT hk (hu.get hi).1 (hu.get hi).2 (a.get hi).1 (a.get hi).2 (b.get hi).1 (b.get hi).2 (h1 i hi) (c i hi)
theorem Rc.anti {h:AG} (hi:Nz h) {m:Nat} {u v:List Int} (hu:VJ h m u) (b:VJ h m v) (h1:Rc h m u v) (d:Rc h m v u):u=v:=by
 refine Yd (by rw[hu.1,b.1]) λi c e=>?_;have a:i<m:=by rw[<-hu.1];exact c
 have:=hi _ _ (hu.get a).1 (hu.get a).2 (b.get a).1 (b.get a).2 (h1 i a) (d i a)
 rwa [AS,AT c,AS,AT e]at this
structure Stp (h:AG) (m:Nat) (s s':FW):Prop where
 up:Rc h m s.1 s'.1
 pre:s.2 <+: s'.2
 ch:∀k:Nat,k<m->s'.1.getD k 0=s.1.getD k 0\/(k:Int)∈s'.2.drop s.2.length
theorem Stp.refl {h:AG} (hk:Hn h) {m:Nat} {s:FW} (hs:RD h m s):Stp h m s s:=⟨Rc.refl hk hs.tyl,iF _,λ_ _=>.inl rfl⟩
theorem Se {l l':List Int} (hp:l <+: l') {n:Nat} {x:Int} (h:x∈l.drop n):x∈l'.drop n:=by
 obtain⟨r,rfl⟩:=hp;rw[AGp];exact YW _ h
theorem RP {l:List Int} {a b:Nat} (c:a<=b) {x:Int} (h:x∈l.drop b):x∈l.drop a:=by
 have:l.drop b=(l.drop a).drop (b-a):=by rw[AFp];congr 1;omega
 rw[this]at h;exact AB4 h
theorem Stp.trans {h:AG} (hk:Hn h) {m:Nat} {a b c:FW} (ha:RD h m a) (f:RD h m b) (g:RD h m c) (h1:Stp h m a b) (d:Stp h m b c):Stp h m a c:=by
 refine⟨h1.up.trans hk ha.tyl f.tyl g.tyl d.up,h1.pre.trans d.pre,λk e=>?_⟩;rcases d.ch k e with e2|e2
 .rcases h1.ch k e with e1|e1
  .exact .inl (e2.trans e1)
  exact .inr (Se d.pre e1)
 exact .inr (RP h1.pre.length_le e2)
theorem Sf {h:AG} (hk:Hn h) (hi:Nz h) {m:Nat} {s c:FW} (hs:RD h m s) {n t:Int} (n0:0<=n) (n1:n<(m:Int)) (f:0<=t) (g:t<(h.1.length:Int)) (e:HV h s n t=some c) :
  Stp h m s c/\A1 h t (c.1.getD n.toNat 0)=true:=by
 have q:=(Gq hk hi hs n0 n1 f g e).1;obtain⟨i,j⟩:=hs.get n0 n1;unfold HV at e;split at e
 .rename_i l;obtain⟨r,u,p,d⟩:=(Mt hk i j f g).1 l;generalize (Bx h (s.1.getD n.toNat 0) t).1=v at *;injection e with e
  split at e
  .rename_i o;subst e;exact⟨Stp.refl hk hs,by rw[<-o];exact d⟩
  subst e;have hl:n.toNat<s.1.length:=by rw[hs.len];omega
  have a:∀k:Nat,(s.1.set n.toNat v).getD k 0=if k=n.toNat then v else s.1.getD k 0:=λk=>Nm _ _ _ hl k
  refine⟨⟨λk b=>?_,AG3 _ _,λk b=>?_⟩,?_⟩
  .simp only;rw[a];split
   .rename_i e;rw[e];exact p
   exact VE hk (hs.tyl.get b).1 (hs.tyl.get b).2
  .simp only;rw[a];split
   .rename_i e;right;rw[AGp,AAz,Ye];exact AB1 _ (by simp;omega)
   exact .inl rfl
  simp only;rw[a,Bq rfl];exact d
 cases e
theorem bP {h:AG} (hk:Hn h) (hi:Nz h) {m:Nat} {s:FW} (hs:RD h m s) {n t:Int} (n0:0<=n) (n1:n<(m:Int)) (o:0<=t) (p:t<(h.1.length:Int)) {u:List Int} (hu:VJ h m u) (a:Rc h m s.1 u) (i:A1 h t (u.getD n.toNat 0)=true) :
  ∃c,HV h s n t=some c/\Rc h m c.1 u:=by
 obtain⟨d,f⟩:=hs.get n0 n1;have b:n.toNat<m:=by omega
 obtain⟨q,r⟩:=hu.get b;obtain⟨j,l⟩:=(Mt hk d f o p).2 _ q r (a _ b) i;unfold HV;rw[Bq j];refine⟨_,rfl,?_⟩;split
 .exact a
 intro k g;have hl:n.toNat<s.1.length:=by rw[hs.len];omega
 simp only;rw[Nm _ _ _ hl k];split
 .rename_i e;rw[e];exact l
 exact a k g
section
variable {h:AG} (hk:Hn h) (hi:Nz h) (hf:HFt h) (hap:HAp h) {m:Nat} {n:Int} (n0:0<=n) (n1:n<(m:Int))
include hk hi hf n0 n1
theorem fZ:∀ {l:List (Int×Int)} {s c:FW},(∀a∈l,Mu h m a)->RD h m s->XU h n l s=some c->Stp h m s c/\∀a∈l,A1 h (RC h a.1) (c.1.getD n.toNat 0)=true
 | [],s,c,_,hs,e=>by
  injection e with e
  subst e;exact⟨Stp.refl hk hs,λa ha=>by cases ha⟩
 | a :: l,s,c,hl,hs,e=>by
  unfold XU at e;cases e1:HV h s n (RC h a.1) with
  | none=>rw[e1]at e;cases e
  | some s1 =>
   rw[e1]at e;obtain⟨⟨p,q⟩,-⟩:=hl a (by simp);obtain⟨i,j⟩:=RE hf p q;obtain⟨d,-,-⟩:=Gq hk hi hs n0 n1 i j e1;obtain⟨t,u⟩:=Sf hk hi hs n0 n1 i j e1;have k:∀b∈l,Mu h m b:=λb f=>hl b (GO _ f);have e:XU h n l s1=some c:=e;obtain⟨o,r⟩:=fZ k d e;have g:=(RF hk hi hf n0 n1 k d e).1;refine⟨t.trans hk hs d g o,λb f=>?_⟩;rcases By.1 f with rfl|f
   .exact LT hk i j (d.get n0 n1).1 (d.get n0 n1).2 (g.get n0 n1).1 (g.get n0 n1).2 u (o.up _ (by omega))
   exact r b f
theorem A0E:∀ {l:List (Int×Int)} {s c:FW},(∀a∈l,Mu h m a)->RD h m s->ZK h n l s=some c->Stp h m s c/\(n∈c.2.drop s.2.length\/(c.1.getD n.toNat 0=s.1.getD n.toNat 0/\∀a∈l,(EW h (s.1.getD n.toNat 0) a.1).2=true/\A1 h (EW h (s.1.getD n.toNat 0) a.1).1 (c.1.getD a.2.toNat 0)=true))
 | [],s,c,_,hs,e=>by
  injection e with e
  subst e;exact⟨Stp.refl hk hs,.inr ⟨rfl,λa ha=>by cases ha⟩⟩
 | a :: l,s,c,hl,hs,e=>by
  unfold ZK at e;split at e
  .rename_i t;obtain⟨u,v⟩:=hs.get n0 n1;obtain⟨k,o⟩:=Mv hf u v t;cases e1:HV h s a.2 (EW h (s.1.getD n.toNat 0) a.1).1 with
   | none=>rw[e1]at e;cases e
   | some s1 =>
    rw[e1]at e;obtain⟨-,d,b1⟩:=hl a (by simp);obtain⟨g,-,-⟩:=Gq hk hi hs d b1 k o e1;obtain⟨q,y⟩:=Sf hk hi hs d b1 k o e1;have r:∀b∈l,Mu h m b:=λb f=>hl b (GO _ f);have e:ZK h n l s1=some c:=e;obtain⟨p,i⟩:=A0E r g e;have j:=(VG hk hi hf n0 n1 r g e).1;refine⟨q.trans hk hs g j p,?_⟩;have w:((n.toNat:Nat):Int)=n:=bY n0;rcases q.ch n.toNat (by omega) with c1|c1
    .rcases i with i|⟨i,x⟩
     .exact .inl (RP q.pre.length_le i)
     refine .inr ⟨i.trans c1,λb f=>?_⟩;rcases By.1 f with rfl|f
     .exact⟨t,LT hk k o (g.get d b1).1 (g.get d b1).2 (j.get d b1).1 (j.get d b1).2 y (p.up _ (by omega))⟩
     have:=x b f
     rwa [c1]at this
    rw[w]at c1;exact .inl (Se p.pre c1)
  cases e
include hap
theorem A0F {u:List Int} (hu:VJ h m u):∀ {l:List (Int×Int)} {s:FW},(∀a∈l,Mu h m a)->RD h m s->Rc h m s.1 u->(∀a∈l,(EW h (u.getD n.toNat 0) a.1).2=true)->∃c,XU h n l s=some c/\Rc h m c.1 u
 | [],s,_,_,e,_=>⟨s,rfl,e⟩
 | a :: l,s,hl,hs,e,i=>by
  obtain⟨⟨f,g⟩,-⟩:=hl a (by simp);obtain⟨j,k⟩:=RE hf f g;obtain⟨q,r⟩:=hu.get (show n.toNat<m by omega);obtain⟨s1,e1,h1⟩:=bP hk hi hs n0 n1 j k hu e ((hap.iff _ _ q r f g).1 (i a (by simp)));obtain⟨o,-,-⟩:=Gq hk hi hs n0 n1 j k e1;obtain⟨c,e2,p⟩:=A0F hu (λb d=>hl b (GO _ d)) o h1 λb d=>i b (GO _ d);exact⟨c,by unfold XU;rw[e1];exact e2,p⟩
theorem A0G {u:List Int} (hu:VJ h m u):∀ {l:List (Int×Int)} {s:FW},(∀a∈l,Mu h m a)->RD h m s->Rc h m s.1 u->(∀a∈l,A1 h (RC h a.1) (s.1.getD n.toNat 0)=true)->sF h u n l->∃j,ZK h n l s=some j/\Rc h m j.1 u
 | [],s,_,_,f,_,_=>⟨s,rfl,f⟩
 | a :: l,s,hl,hs,f,w,x=>by
  obtain⟨⟨r,t⟩,k,b1⟩:=hl a (by simp);obtain⟨d,e⟩:=hs.get n0 n1;have o:n.toNat<m:=by omega
  have v:a.2.toNat<m:=by omega
  obtain⟨y,z⟩:=hu.get o;have p:=(hap.iff _ _ d e r t).2 (w a (by simp));obtain⟨g,i⟩:=Mv hf d e p;obtain⟨F,G⟩:=x a (by simp);obtain⟨v0,v1⟩:=Mv hf y z F;have B:=hap.mono _ _ a.1 d e y z r t (f _ o) p;obtain⟨s1,e1,h1⟩:=bP hk hi hs k b1 g i hu f (LT hk g i v0 v1 (hu.get v).1 (hu.get v).2 B G);obtain⟨q,-,-⟩:=Gq hk hi hs k b1 g i e1;obtain⟨E,-⟩:=Sf hk hi hs k b1 g i e1;obtain⟨j,e2,A⟩:=A0G hu (λb c=>hl b (GO _ c)) q h1 (λb c=>by
   obtain⟨⟨c0,c1⟩,-⟩:=hl b (GO _ c);obtain⟨C,D⟩:=RE hf c0 c1;exact LT hk C D d e (q.get n0 n1).1 (q.get n0 n1).2 (w b (GO _ c)) (E.up _ o)) λb c=>x b (GO _ c)
  exact⟨j,by unfold ZK;rw[Bq p,e1];exact e2,A⟩
end
section
variable {h:AG} (hk:Hn h) (hi:Nz h) (hf:HFt h) (hap:HAp h) {f:List AC} (ha:XV h f)
include hk hi hf hap ha
theorem A5I {n:Int} (n0:0<=n) (n1:n<(f.length:Int)) {s c:FW} (hs:RD h f.length s) (e:Th h f n s=some c):Stp h f.length s c/\(n∈c.2.drop s.2.length\/sF h c.1 n (f.getD n.toNat (0,[])).2):=by
 have _:=hap;have d:=RG ha n0 n1;unfold Th at e;cases e1:XU h n (f.getD n.toNat (0,[])).2 s with
 | none=>rw[e1]at e;cases e
 | some s1 =>
  rw[e1]at e;have g:=(RF hk hi hf n0 n1 d hs e1).1;obtain⟨i,-⟩:=fZ hk hi hf n0 n1 d hs e1;have e:ZK h n (f.getD n.toNat (0,[])).2 s1=some c:=e;have j:=(VG hk hi hf n0 n1 d g e).1;obtain⟨k,b⟩:=A0E hk hi hf n0 n1 d g e;refine⟨i.trans hk hs g j k,?_⟩;rcases b with b|⟨b,l⟩
  .exact .inl (RP i.pre.length_le b)
  refine .inr λa ha=>?_;rw[b];exact l a ha
theorem A5J {n:Int} (n0:0<=n) (n1:n<(f.length:Int)) {s:FW} (hs:RD h f.length s) {u:List Int} (hu:VJ h f.length u) (c:sF h u n (f.getD n.toNat (0,[])).2) (g:Rc h f.length s.1 u):∃d,Th h f n s=some d/\Rc h f.length d.1 u:=by
 have b:=RG ha n0 n1;obtain⟨s1,e1,h1⟩:=A0F hk hi hf hap n0 n1 hu b hs g λa ha=>(c a ha).1;have i:=(RF hk hi hf n0 n1 b hs e1).1;obtain⟨-,j⟩:=fZ hk hi hf n0 n1 b hs e1;obtain⟨s2,e2,e⟩:=A0G hk hi hf hap n0 n1 hu b i h1 j c;exact⟨s2,by unfold Th;rw[e1];exact e2,e⟩
def AEV (h:AG) (f:List AC) (i:Nat) (s:FW):Prop:=∀n:Nat,n<f.length->sF h s.1 (n:Int) (f.getD n (0,[])).2\/(n:Int)∈s.2.drop i
theorem A9y {n:Nat} (hn:n<f.length) {s d:FW} (hs:RD h f.length s) (i:RD h f.length d) (j:Stp h f.length s d) (p:sF h s.1 (n:Int) (f.getD n (0,[])).2):sF h d.1 (n:Int) (f.getD n (0,[])).2\/(n:Int)∈d.2.drop s.2.length:=by
 have _:=hap;have _:=hi;have o:∀a∈(f.getD n (0,[])).2,Mu h f.length a:=ha _ (AE f (0,[]) hn);rcases j.ch n hn with c|c
 .left;intro a g;obtain⟨e,k⟩:=p a g;obtain⟨-,b,b1⟩:=o a g;rw[UQ]at e k ⊢;rw[c];obtain⟨l,m⟩:=hs.tyl.get hn;obtain⟨q,r⟩:=Mv hf l m e;exact⟨e,LT hk q r (hs.get b b1).1 (hs.get b b1).2 (i.get b b1).1 (i.get b b1).2 k (j.up _ (by omega))⟩
 exact .inr c
theorem A0H:∀ {k i:Nat} {s:FW} {ty:List Int},RD h f.length s->AEV h f i s->wlF h f k i s=some ty->WTy h f ty/\Rc h f.length s.1 ty/\VJ h f.length ty
 | 0,_,_,_,_,_,e=>by cases e
 | k+1,i,s,ty,hs,hp,e=>by
  unfold wlF at e;split at e
  .rename_i hl;have m:=AE s.2 (0:Int) hl;obtain⟨n0,n1⟩:=hs.wt _ m;generalize hn:s.2.getD i 0=n at *;cases e1:Th h f n s with
   | none=>rw[e1]at e;cases e
   | some s1 =>
    rw[e1]at e;have c:=(lX hk hi hf ha n0 n1 hs e1).1;obtain⟨d,b⟩:=A5I hk hi hf hap ha n0 n1 hs e1;have p:AEV h f (i+1) s1:=by
     intro j g;rcases hp j g with o|a
     .rcases A9y hk hi hf hap ha g hs c d o with h1|h1
      .exact .inl h1
      exact .inr (RP (by omega) h1)
     have q:s.2.drop i=n :: s.2.drop (i+1):=by
      rw[On hl,<-hn,AS,AT hl];rfl
     rw[q]at a;rcases By.1 a with a|a
     .rcases b with b|b
      .exact .inr (by rw[a];exact RP (by omega) b)
      left;rw[a];have:n.toNat=j:=by omega
      rw[this]at b;exact b
     exact .inr (Se d.pre a)
    have e:wlF h f k (i+1) s1=some ty:=e;obtain⟨r,t,l⟩:=A0H c p e;exact⟨r,d.up.trans hk hs.tyl c.tyl l t,l⟩
  rename_i hl;injection e with e
  subst e;refine⟨λn hn=>?_,Rc.refl hk hs.tyl,hs.tyl⟩;rcases hp n hn with h1|h1
  .exact h1
  rw[TO (by omega)]at h1;cases h1
theorem A5K {u:List Int} (hu:VJ h f.length u) (b:WTy h f u):∀ {k i:Nat} {s:FW},RD h f.length s->i<=s.2.length->pot h s.1+s.2.length+1<=k+i->Rc h f.length s.1 u->∃ty,wlF h f k i s=some ty/\Rc h f.length ty u
 | 0,i,s,hs,e,g,a=>by omega
 | k+1,i,s,hs,e,g,a=>by
  unfold wlF;by_cases hl:i<s.2.length
  .rw[Bq hl];obtain⟨n0,n1⟩:=hs.wt _ (AE s.2 (0:Int) hl);have c:=b (s.2.getD i 0).toNat (by omega);rw[bY n0]at c;obtain⟨s1,e1,h1⟩:=A5J hk hi hf hap ha n0 n1 hs hu c a;obtain⟨d,j,l⟩:=lX hk hi hf ha n0 n1 hs e1;rw[e1];exact A5K hu b d (by omega) (by omega) h1
  rw[As hl];exact⟨s.1,rfl,a⟩
theorem sG (a:∀x∈f,0<=x.1/\x.1<(h.1.length:Int)) {ty:List Int} (e:Jr h f=some ty):WTy h f ty/\Rc h f.length (Dj f) ty/\VJ h f.length ty:=by
 have e:wlF h f (bB h f) 0 (Dj f,Ti f)=some ty:=e;refine A0H hk hi hf hap ha (k:=bB h f) (i:=0) (s:=(Dj f,Ti f)) (AAq a) (λn hn=>.inr ?_) e;rw[Ye];exact IF.2 ⟨n,Ue.2 hn,rfl⟩
theorem mP (b:∀x∈f,0<=x.1/\x.1<(h.1.length:Int)) {u:List Int} (hu:VJ h f.length u) (c:WTy h f u) (a:Rc h f.length (Dj f) u):∃ty,Jr h f=some ty/\Rc h f.length ty u :=
 A5K hk hi hf hap ha hu c (k:=bB h f) (i:=0) (s:=(Dj f,Ti f)) (AAq b) (Is _) (ABj h f) a
end
section
variable {d:List AL}
end
section
variable {d:List AL}
end
theorem M6 (d:List AL):(BD d).1.1.length<=256/\(BD d).1.2.length<=64:=by
 unfold BD;split
 .exact⟨by simp,by simp⟩
 rename_i a;have a:(Bm d).2=0:=If a;have b:Be d=0:=by
  unfold Bm at a;split at a
  .rename_i h;exact absurd a h
  rename_i h;exact If h
 obtain⟨f,c,-⟩:=DP b;obtain⟨-,e,-⟩:=CA f;refine⟨?_,?_⟩
 .show (F9 _ _ _).length<=256;rw[Ni,Ib];exact e
 show (Di d).1.length<=64;unfold Di;rw[As (by rw[b];simp)];show ((DU d).map (Ta d)).length<=64;rw[OF];exact c
theorem mQ {H:AG} (o:H.1.length<=256) (p:H.2.length<=64) {f:List AC} (h:Jq H f=true):AN f/\HS f/\0<f.length/\CP H f/\D0 f=true/\f.length<=12/\∀x∈f,∀a∈x.2,0<=a.1/\a.1<(H.2.length:Int):=by
 unfold Jq at h;rw[An,YV]at h;obtain⟨hl,c⟩:=h;unfold Hm at c;split at c
 .rename_i h1;exact absurd c h1
 rename_i h1;split at c
 .cases c
 rename_i d;split at c
 .cases c
 rename_i g;have h1:(Ax f).2=0:=If h1;have d:f.all (ndR H)=true:=by simpa using d
 have g:CV f (Ax f).1=0:=by simpa using g
 have j:D0 f=true:=by
  unfold D0;simp only[An,YV];refine⟨⟨hl,?_⟩,h1,?_⟩
  .rw[OR]at d ⊢;intro x hx;have:=d x hx;unfold ndR at this;rw[An,DO,OR]at this;unfold ndB;rw[An,DO,OR];refine⟨by omega,λa ha=>?_⟩;have:=this.2 a ha;unfold ftR at this;rw[DO]at this;unfold ftB;rw[DO];omega
  rw[<-Mw g];exact Gy f
 obtain⟨l,m,n,-⟩:=Mx j;have e:B6 f=0:=by
  unfold Ax at h1;split at h1
  .rename_i hh;exact hh
  exact h1
 have k:GX (f.length:Int) f=0:=by
  unfold B6 at e;split at e
  .cases e
  split at e
  .cases e
  exact e
 refine⟨l,m,n,λx hx=>?_,j,(Mq hl).1,λx hx a ha=>?_⟩
 .have b:=OR.1 d x hx;unfold ndR at b;rw[An,DO]at b;exact⟨(LQ k x hx).1,b.1⟩
 have b:=OR.1 d x hx;unfold ndR at b;rw[An,OR]at b;have i:=b.2 a ha;unfold ftR at i;rw[DO]at i;exact⟨((LQ k x hx).2 a ha).1,i⟩
theorem Xp {f:List AC} (hf:AN f):DX f:=⟨hf.1,λx hx=>(hf.2 x hx).1⟩
structure H14 (h:AG):Prop where
 ok:Hn h
 inj:Nz h
 ft:HFt h
 nrm:ABu h
 ap:HAp h
 b1:h.1.length<=256
 b2:h.2.length<=64
theorem Sg {f:List AC} {ty:List Int} {x:AC} (hx:x∈Fi f ty):∃i,i<f.length/\x=(ty.getD i 0,(f.getD i (0,[])).2):=by
 obtain⟨i,hi,rfl⟩:=List.getElem_of_mem hx;have a:i<f.length:=by rw[EL]at hi;exact hi
 refine⟨i,a,?_⟩;rw[<-KQ f ty a,AS,AT hi];rfl
theorem KV {α:Type} {f:List α} {i:Nat} (h:i<f.length) (d:α):f.getD i d∈f:=by
 rw[AS,AT h];exact YZ _
def GK (p:List Int) (n:Nat):List AC:=(List.range n).map λ(i:Nat)=>((0:Int),[(p.getD i 0,(i:Int)+1)])
def BR (p:List Int) (g:List AC):List AC:=GK p p.length++g.map λx=>(x.1,AR p.length x.2)
abbrev Cl (p:List Int):List AC:=BR p [((0:Int),[])]
theorem mR (p:List Int) (n:Nat):GK p (n+1)=GK p n++[((0:Int),[(p.getD n 0,(n:Int)+1)])]:=by simp[GK,Yf]
theorem Eo (p:List Int) (n:Nat):(GK p n).length=n:=by simp[GK]
theorem CK (p:List Int):(Cl p).length=p.length+1:=by simp[BR,GK]
theorem Xq (p:List Int) {i:Int} (a:0<=i) (b:i<(p.length:Int)):(Cl p).getD i.toNat (0,[])=(0,[(p.getD i.toNat 0,i+1)]):=by
 unfold Cl BR;rw[AS,Ug (by rw[Eo];omega)];unfold GK;rw[Yc,oS (by omega)];show ((0:Int),[(p.getD i.toNat 0,((i.toNat:Nat):Int)+1)])=_;rw[bY a]
theorem sH (p:List Int):(Cl p).getD p.length (0,[])=(0,[]):=by
 unfold Cl BR;rw[AS,Ud (by rw[Eo];omega),Eo,AAz];rfl
theorem Ps (p:List Int) {i:Int} (a:0<=i) (b:i<((Cl p).length:Int)):(i<(p.length:Int)/\(Cl p).getD i.toNat (0,[])=(0,[(p.getD i.toNat 0,i+1)]))\/(i=(p.length:Int)/\(Cl p).getD i.toNat (0,[])=(0,[])):=by
 rw[CK]at b;by_cases h:i<(p.length:Int)
 .exact .inl ⟨h,Xq p a h⟩
 have e:i=(p.length:Int):=by omega
 subst e;right;rw[UQ];exact⟨rfl,sH p⟩
theorem Nr (p:List Int) {x:AC} (hx:x∈Cl p):x=(0,[])\/∃i,i<p.length/\x=(0,[(p.getD i 0,(i:Int)+1)]):=by
 obtain⟨i,hi,rfl⟩:=Cw (0,[]) hx;rcases Ps p (i:=(i:Int)) (by omega) (by omega) with ⟨h1,a⟩|⟨h1,a⟩
 .rw[UQ]at a;exact .inr ⟨i,by omega,a⟩
 rw[UQ]at a;exact .inl a
def FtP (h:AG) (p:List Int):Prop:=∀e∈p,0<=e/\e<(h.2.length:Int)
theorem KW {h:AG} {p:List Int} (hp:FtP h p):∀x∈Cl p,∀a∈x.2,0<=a.1/\a.1<(h.2.length:Int):=by
 intro x hx a ha;rcases Nr p hx with rfl|⟨i,hi,rfl⟩
 .cases ha
 have:a=(p.getD i 0,(i:Int)+1):=by simpa using ha
 rw[this];exact hp _ (Dh hi)
theorem FX {p:List Int} (hp:p.length<=1000):AN (Cl p):=by
 have hl:=CK p;refine⟨by omega,λx hx=>?_⟩;rcases Nr p hx with rfl|⟨i,hi,rfl⟩
 .exact⟨by simp,λa ha=>by cases ha⟩
 refine⟨by simp,λa ha=>?_⟩;have:a=(p.getD i 0,(i:Int)+1):=by simpa using ha
 rw[this,hl];simp only;omega
theorem Ns (p:List Int):∀x∈Cl p,Lv x.2:=by
 intro x hx;rcases Nr p hx with rfl|⟨i,hi,rfl⟩
 .exact .nil
 exact iS _ _
theorem RQ {h:AG} (h0:0<h.1.length) (p:List Int):CP h (Cl p):=by
 intro x hx;rcases Nr p hx with rfl|⟨i,hi,rfl⟩
 .exact⟨by simp,by simp only;omega⟩
 exact⟨by simp,by simp only;omega⟩
theorem mS (p:List Int):RO (Cl p):=by
 intro i b a;rw[CK]at a;refine⟨i-1,by omega,by omega,(p.getD (i-1).toNat 0,i-1+1),?_,by simp only;omega⟩;rw[AP,Xq p (by omega) (by omega)];exact UM.2 rfl
theorem ABv {l:List (Int×Int)} (h:Lv l) {e:Int} (b:0<=Ao l e):oA l e=Ao l e:=by
 obtain⟨a,ha,e1,e2⟩:=KS b;rw[<-e1,A0v h ha,FM h ha]
theorem mT {f:List AC} (hf:AN f) (h0:0<f.length) (p:List Int):∀n,B2 f 0 p=some n->0<=n/\n<(f.length:Int):=by
 induction p using EK with
 | h0 =>
  intro n h;simp only[B2,ZQ]at h;omega
 | h1 p e b =>
  intro n h;obtain⟨x,hx,a,ha,e1,e2⟩:=bF h;rw[<-e2];exact Au hf ha
theorem A5M {f:List AC} {p:List Int} {n:Int} (h:B2 f 0 p=some n) (k:Nat):∃m,B2 f 0 (p.take k)=some m:=by
 cases hh:B2 f 0 (p.take k) with
 | none =>
  have:=SW (p.take k) 0 (p.drop k) hh;rw[AAT,h]at this;cases this
 | some m=>exact⟨m,rfl⟩
theorem mU {h:AG} (t:Xo h) {X:List AC} (q:AN X) (z:0<X.length) (y:CP h X) (w:∀x∈X,Lv x.2) {p:List Int} {n:Int} (l:B2 X 0 p=some n):∃m,It h (Cl p) X m/\m (p.length:Int)=n:=by
 have g:∀k,B2 X 0 (p.take k)=some ((B2 X 0 (p.take k)).getD 0):=λk=>by
  obtain⟨m,s⟩:=A5M l k;rw[s];rfl
 have j:=λk=>mT q z (p.take k) _ (g k);refine⟨λi=>(B2 X 0 (p.take i.toNat)).getD 0,⟨rfl,λi d f=>j i.toNat,λi d f=>?_,λi d f a ha=>?_⟩,?_⟩
 .have e:((Cl p).getD i.toNat (0,[])).1=0:=by
   rcases Ps p d f with ⟨-,c⟩|⟨-,c⟩<;>rw[c]
  rw[e];have A:=j i.toNat;have:=y _ (AE X (0,[]) (k:=((B2 X 0 (p.take i.toNat)).getD 0).toNat) (by omega));exact t _ this.1 this.2
 .rcases Ps p d f with ⟨h1,c⟩|⟨-,c⟩
  .rw[AP,c]at ha;have e:a=(p.getD i.toNat 0,i+1):=by simpa using ha
   subst e;have hs:=Av p 0 (k:=i.toNat) (by omega);have o:=g (i.toNat+1);rw[hs]at o;obtain⟨x,hx,b,r,e1,e2⟩:=bF o;have u:=g i.toNat;rw[hx]at u;have v:x=(B2 X 0 (p.take i.toNat)).getD 0:=by rw[hx];rfl
   show Ao (AP X ((B2 X 0 (p.take i.toNat)).getD 0)) (p.getD i.toNat 0)=(B2 X 0 (p.take (i+1).toNat)).getD 0;rw[<-v,show (i+1).toNat=i.toNat+1 by omega,hs,<-e2,<-e1];exact FM (Im w x) r
  rw[AP,c]at ha;cases ha
 show (B2 X 0 (p.take ((p.length:Nat):Int).toNat)).getD 0=n;rw[UQ,UO,l];rfl
theorem mV {h:AG} {X:List AC} (e:AN X) (f:0<X.length) (d:∀x∈X,Lv x.2) {p:List Int} {m:Int->Int} (a:It h (Cl p) X m):B2 X 0 p=some (m (p.length:Int)):=by
 have key:∀k,k<=p.length->B2 X 0 (p.take k)=some (m (k:Int)):=by
  intro k;induction k with
  | zero =>
   intro _;rw[ZR];show some (0:Int)=some (m 0);rw[a.zero]
  | succ k c =>
   intro hk;have hi:=c (by omega);have hn:=Xq p (i:=(k:Int)) (by omega) (by omega);have hl:=CK p;have ha:=a.arc (k:Int) (by omega) (by omega) (p.getD k 0,(k:Int)+1) (by
    rw[AP,hn,UQ];exact UM.2 rfl)
   have b:=a.rng ((k:Int)+1) (by omega) (by omega);rw[Av p 0 (by omega),Pn X _ 0 _ _ hi];simp only at ha;rw[ABv (Im d _) (by rw[ha];exact b.1),ha,As (by omega)];rfl
 have:=key p.length (NO _)
 rwa [UO]at this
structure mW (h:AG) (f:List AC) (p q:List Int) (U:List AC):Prop where
 vf:VF h U
 left:∃m,It h f U m
 eq:∃n,B2 U 0 p=some n/\B2 U 0 q=some n
 least:∀X,VF h X->∀m1,It h f X m1->∀n,B2 X 0 p=some n->B2 X 0 q=some n->∃m,It h U X m
 len:U.length<=f.length+p.length+q.length+2
theorem A9z {h:AG} (hu:HU h) {f b V:List AC} {p q:List Int} (h1:mW h f p q b) (a:mW h f p q V):b=V:=by
 obtain⟨k,e⟩:=a.left;obtain⟨n1,c,b1⟩:=a.eq;obtain⟨l,g⟩:=h1.left;obtain⟨n,d,b2⟩:=h1.eq;obtain⟨m,i⟩:=h1.least V a.vf k e n1 c b1;obtain⟨o,j⟩:=a.least b h1.vf l g n d b2;exact AER hu h1.vf a.vf i j
open Classical in
noncomputable def Sh (h:AG) (f:List AC) (p q:List Int):List AC×Bool:=if H:∃U,mW h f p q U then (H.choose,true) else ([],false)
theorem bQ {h:AG} (hu:HU h) {f U:List AC} {p q:List Int} (h1:mW h f p q U):Sh h f p q=(U,true):=by
 unfold Sh;have H:∃U,mW h f p q U:=⟨U,h1⟩;rw[dif_pos H,A9z hu H.choose_spec h1]
theorem bR {h:AG} {f:List AC} {p q:List Int} (h1:∀X,VF h X->∀d,It h f X d->∀n,B2 X 0 p=some n->B2 X 0 q≠some n):Sh h f p q=([],false):=by
 unfold Sh;rw[dif_neg];rintro⟨e,c⟩;obtain⟨d,g⟩:=c.left;obtain⟨n,a,b⟩:=c.eq;exact h1 e c.vf d g n a b
theorem A2C {h:AG} {f:List AC} {p q:List Int} (h1:(Sh h f p q).2=true):mW h f p q (Sh h f p q).1:=by
 unfold Sh at h1 ⊢;split at h1
 .rename_i H;rw[dif_pos H];exact H.choose_spec
 cases h1
abbrev eqN (f:List AC) (p q:List Int):List AC:=Al (Al f (Cl p)) (Cl q)
abbrev eqP (f:List AC) (p q:List Int):List (Int×Int):=[(0,(f.length:Int)),((f.length:Int),((f.length+(p.length+1):Nat):Int)),(((f.length+p.length:Nat):Int),((f.length+(p.length+1)+q.length:Nat):Int))]
theorem f5 (f:List AC) (p q:List Int):(eqN f p q).length=f.length+(p.length+1)+(q.length+1):=by
 rw[Cb,Cb,CK,CK]
theorem f6 {h:AG} (i:Xo h) {f:List AC} {p q:List Int} (hf:VF h f) (hp:p.length<=1000) (t:q.length<=1000) (hl:f.length<=10000) {X:List AC} (c:VF h X) {j:Int->Int} (h1:It h f X j) {n:Int} (o:B2 X 0 p=some n) (s:B2 X 0 q=some n):∃v,Rb h (eqN f p q) (eqP f p q) X v/\v 0=0:=by
 obtain⟨a,ha,k⟩:=mU i c.good c.pos c.ty c.str o;obtain⟨b,e,l⟩:=mU i c.good c.pos c.ty c.str s;have u:=hf.pos;have d:=Cb f (Cl p);rw[CK]at d;have m:=Gr hf.good (FX hp) (by rw[CK];omega);refine⟨_,r8 (RN m (FX t) (RN hf.good (FX hp) (Hq h1) (Hq ha)) (Hq e)) λr g=>?_,?_⟩
 .simp only[By,YX,ABN]at g;rcases g with rfl|rfl|rfl
  .simp only;rw[d,Bq (by omega),Bq (by omega),Bq (by omega),As (by omega),AGt,h1.zero,ha.zero]
  .simp only;rw[d,Bq (by omega),As (by omega),As (by omega),AGt,ha.zero,show ((f.length+(p.length+1):Nat):Int)-((f.length+(p.length+1):Nat):Int)=0 by omega,e.zero]
  simp only;rw[d,Bq (by omega),As (by omega),As (by omega),show ((f.length+p.length:Nat):Int)-(f.length:Int)=(p.length:Int) by omega,k,show ((f.length+(p.length+1)+q.length:Nat):Int)-((f.length+(p.length+1):Nat):Int)=(q.length:Int) by omega,l]
 show (if (0:Int)<((Al f (Cl p)).length:Int) then (if (0:Int)<(f.length:Int) then j 0 else a (0-(f.length:Int))) else b (0-((Al f (Cl p)).length:Int)))=0;rw[d,Bq (by omega),Bq (by omega)];exact h1.zero
theorem A5N {h:AG} (E:Xo h) {f:List AC} {p q:List Int} (hf:VF h f) (s:FtP h p) (t:FtP h q) (hp:p.length<=1000) (D:q.length<=1000) (hl:f.length<=10000) {P ty:List Int} {ar:List (List (Int×Int))} (d:JI h (eqN f p q) (eqP f p q) P ty ar []) (j:AN (quo P ty ar)):mW h f p q (AI (quo P ty ar) (EH P 0)):=by
 have O:=hf.pos;have o:=Cb f (Cl p);rw[CK]at o;have S:=f5 f p q;have i:0<(eqN f p q).length:=by omega
 have h0:=Pq d j i;have c1:fT (eqN f p q) 0 f:=KT (KT Sc);have c2:fT (eqN f p q) f.length (Cl p):=KT LY;have l:fT (eqN f p q) (f.length+(p.length+1)) (Cl q):=by
  have:=LY (f:=Al f (Cl p)) (g:=Cl q);rw[o]at this;exact this
 have I:=Il d j i c1 hf.ro h0;have e1:EH P (f.length:Int)∈N0 P ty ar:=Xg d (x:=0) (by simp) h0;have J:=Il d j i c2 (mS p) e1;have e2:EH P ((f.length+(p.length+1):Nat):Int)∈N0 P ty ar:=Xg d (x:=(f.length:Int)) (by simp) e1;have K:=Il d j i l (mS q) e2;have c:=A5B d j i λx L U=>by
  by_cases hx:x<(f.length:Int)
  .have:=I x.toNat x (NO _) L hx
   rwa [show ((0:Nat):Int)+x=x by omega]at this
  by_cases R:x<((f.length+(p.length+1):Nat):Int)
  .have:=J _ (x-(f.length:Int)) (NO _) (by omega) (by rw[CK];omega)
   rwa [show (f.length:Int)+(x-(f.length:Int))=x by omega]at this
  have:=K _ (x-((f.length+(p.length+1):Nat):Int)) (NO _) (by omega) (by rw[CK];omega)
  rwa [show ((f.length+(p.length+1):Nat):Int)+(x-((f.length+(p.length+1):Nat):Int))=x by omega]at this
 generalize Q:(λx=>BE (N0 P ty ar) (EH P x))=v at c;have z:∀x∈eqN f p q,∀a∈x.2,0<=a.1/\a.1<(h.2.length:Int):=by
  have key:∀ {g k:List AC},(∀x∈g,∀a∈x.2,0<=a.1/\a.1<(h.2.length:Int))->(∀x∈k,∀a∈x.2,0<=a.1/\a.1<(h.2.length:Int))->∀x∈Al g k,∀a∈x.2,0<=a.1/\a.1<(h.2.length:Int):=by
   intro g k A hk x hx;unfold Al at hx;rcases IN.1 hx with hx|hx
   .exact A x hx
   obtain⟨y,H,rfl⟩:=IF.1 hx;intro a ha;obtain⟨b,u,rfl⟩:=IF.1 ha;exact hk y H b u
  exact key (key hf.ft (KW s)) (KW t)
 have e:=A5C d j i z c;have r:v (f.length:Int)=0:=by rw[<-c.proj.eq (0,(f.length:Int)) (by simp)];exact c.zero
 have M:v ((f.length+(p.length+1):Nat):Int)=0:=by rw[<-c.proj.eq ((f.length:Int),((f.length+(p.length+1):Nat):Int)) (by simp)];exact r
 have N:v ((f.length+p.length:Nat):Int)=v ((f.length+(p.length+1)+q.length:Nat):Int):=c.proj.eq (((f.length+p.length:Nat):Int),((f.length+(p.length+1)+q.length:Nat):Int)) (by simp);refine⟨e,⟨_,M0 c.proj c1 c.zero⟩,⟨v ((f.length+p.length:Nat):Int),?_,?_⟩,λX m T h1 n B C=>?_,by have:=c.len;omega⟩
 .have:=mV e.good e.pos e.str (M0 c.proj c2 r);rw[this]
  congr 2
 .have:=mV e.good e.pos e.str (M0 c.proj l M);rw[this,N]
  congr 2
 obtain⟨w,F,G⟩:=f6 E hf hp D hl m h1 B C;exact c.least X w m.ty F G
theorem ABx {f:List AC} (hf:AN f) (hs:HS f) (h0:0<f.length) (a:D0 f=true):RO f:=by
 have h1:=A9n hf hs h0 (λ_ _=>true)
 rwa [rR a λ_ _ _ _=>rfl]at h1
theorem A5O {h:AG} (j:h.1.length<=256) (k:h.2.length<=64) {f:List AC} (l:Jq h f=true):VF h f/\f.length<=12:=by
 obtain⟨a,b,c,e,d,g,i⟩:=mQ j k l;exact⟨⟨a,c,e,λx hx=>(HH _).1 (b x hx).1,i,Oe d,ABx a b c d⟩,g⟩
theorem VF.srt {h:AG} (hu:HU h) {f:List AC} (a:VF h f):HS f:=λx hx=>by
 have:=sC (a.str x hx) (a.ft64 hu x hx);exact⟨(HH _).2 (a.str x hx),by omega⟩
theorem VF.small {h:AG} {f:List AC} (a:VF h f):DX f:=Xp a.good
theorem A5P {h:AG} {a b:List AC} (ha:VF h a) (c:VF h b):Wv h a b=true↔∃m,It h a b m :=
 ⟨λg=>ABm ha.good ha.pos c.good c.pos g,λ⟨m,d⟩=>A9m ha.good ha.pos ha.ro d⟩
theorem f7 {h:AG} (a b:List AC):(∃c,fV h a b c/\Js h a b=(c,true))\/(Js h a b=([],false)/\∀c,¬fV h a b c):=by
 unfold Js;by_cases H:∃c,fV h a b c
 .left;rw[dif_pos H];exact⟨_,H.choose_spec,rfl⟩
 right;rw[dif_neg H];exact⟨rfl,λc d=>H ⟨c,d⟩⟩
theorem Io (f:List AC) (ty:List Int) (n:Nat):((Fi f ty).getD n (0,[])).2=(f.getD n (0,[])).2:=by
 by_cases h:n<f.length
 .rw[KQ f ty h]
 rw[AS,UV (by rw[EL];omega),AS,UV (by omega)]
theorem mX {f g:List AC} (h:∀n:Nat,(f.getD n (0,[])).2=(g.getD n (0,[])).2):∀(k:Nat) (o:List Int) (n:Int),CG f k o n=CG g k o n
 | 0,_,_=>rfl
 | k+1,o,n=>by
  have e:AY f k=AY g k:=by
   funext o a;unfold AY;rw[mX h k o a.2]
  rw[Bv,Bv,h,e]
theorem sI {f:List AC} (hf:AN f) (h0:0<f.length) (a:AI f 0=f):mG f:=by
 have:=(fU hf (r:=0) (by omega) (by omega)).2
 rwa [a]at this
theorem A5Q {h:AG} {f:List AC} (a:VF h f) {ty:List Int} (d:VJ h f.length ty):VF h (Fi f ty):=by
 have hl:=EL f ty;have c:AN (Fi f ty):=by
  refine⟨by rw[hl];exact a.good.1,λx hx=>?_⟩;obtain⟨i,hi,rfl⟩:=Sg hx;rw[hl];exact a.good.2 (f.getD i (0,[])) (KV hi (0,[]))
 have hp:∀x∈Fi f ty,∃y∈f,x.2=y.2:=λx hx=>by
  obtain⟨i,hi,rfl⟩:=Sg hx;exact⟨_,KV hi (0,[]),rfl⟩
 refine⟨c,by rw[hl];exact a.pos,λx hx=>?_,λx hx=>?_,λx hx=>?_,Xh c ?_,λi g k=>?_⟩
 .obtain⟨i,hi,rfl⟩:=Sg hx;exact d.get hi
 .obtain⟨y,b,e⟩:=hp x hx;rw[e];exact a.str y b
 .obtain⟨y,b,e⟩:=hp x hx;rw[e];exact a.ft y b
 .have:=sI a.good a.pos a.can;unfold mG at this ⊢;rw[hl,mX (Io f ty)];exact this
 obtain⟨j,l,m,x,hx,e⟩:=a.ro i g (by rw[<-hl];exact k);exact⟨j,l,m,x,by show x∈((Fi f ty).getD j.toNat (0,[])).2;rw[Io];exact hx,e⟩
theorem D7 (f:List AC) (i:Nat):(Dj f).getD i 0=(f.getD i (0,[])).1:=by
 unfold Dj;rw[AS,Yc,AS];cases f[i]?<;>rfl
theorem sJ {f:List AC} {ty:List Int} (hl:ty.length=f.length):Dj (Fi f ty)=ty:=by
 refine Yd (by simp[Dj,EL,hl]) λi a b=>?_;have:=D7 (Fi f ty) i;rw[KQ f ty (by omega)]at this;simpa[AS,a,b] using this
theorem Tl {h:AG} {f:List AC} {t:Int}:∀ {l:List (Int×Int)},SV h f t l=0↔∀a∈l,(EW h t a.1).2=true/\A1 h (EW h t a.1).1 (f.getD a.2.toNat (0,[])).1=true
 | []=>⟨λ_ a ha=>(by cases ha),λ_=>rfl⟩
 | a :: l=>by
  unfold SV;rw[List.forall_mem_cons,<-Tl (l:=l)];cases h1:(EW h t a.1).2
  .simp
  cases b:A1 h (EW h t a.1).1 (f.getD a.2.toNat (0,[])).1<;>simp
theorem Og {h:AG} {f:List AC}:∀ {l:List AC},My h f l=0↔∀x∈l,∀a∈x.2,(EW h x.1 a.1).2=true/\A1 h (EW h x.1 a.1).1 (f.getD a.2.toNat (0,[])).1=true
 | []=>⟨λ_ a ha=>(by cases ha),λ_=>rfl⟩
 | x :: l=>by
  unfold My;rw[List.forall_mem_cons,<-Og (l:=l),<-Tl];by_cases h1:SV h f x.1 x.2=0
  .simp[h1]
  simp[h1]
theorem A9A {h:AG} {f:List AC}:My h f f=0↔WTy h f (Dj f):=by
 rw[Og];constructor
 .intro h1 i hi a ha;have:=h1 _ (KV hi (0,[])) a ha
  rwa [D7,D7,UQ]
 intro h1 x hx a ha;obtain⟨i,hi,rfl⟩:=Cw (0,[]) hx;have:=h1 i hi a ha
 rwa [D7,D7,UQ]at this
theorem mY {n:Int}:∀ {l seen:List (Int×Int)},(∀a∈l,0<=a.1/\0<=a.2/\a.2<n)->(l.map (·.1)).Nodup->(∀y∈seen,∀x∈l,y.1≠x.1)->GD n seen l=0
 | [],_,_,_,_=>rfl
 | x :: l,seen,h,hp,hs=>by
  rw[UY,YT]at hp;have h1:=h x (by simp);have d:(seen.any λy=>y.1==x.1)=false:=by
   rw[AEW];intro y b;have:=hs y b x (by simp);simpa using this
  unfold GD;rw[As (by omega),As (by rw[d];simp)];refine mY (λa ha=>h a (by simp[ha])) hp.2 λy b z c=>?_;rcases IN.1 b with b|b
  .exact hs y b z (by simp[c])
  rw[UM.1 b];exact λe=>hp.1 (IF.2 ⟨z,c,e.symm⟩)
theorem mZ {m:Int} {l:List (Int×Int)} (hs:(l.map (·.1)).Nodup) (h:∀a∈l,0<=a.1/\0<=a.2/\a.2<m):GW l m=0:=mY h hs λy b=>by cases b
theorem sK {m:Int} {l:List (Int×Int)} (hs:Lv l) (h:∀a∈l,0<=a.1/\0<=a.2/\a.2<m):GW l m=0:=mZ (by rw[List.Nodup,Yh];exact hs.imp λh e=>by omega) h
theorem Xr {m:Int}:∀ {l:List AC},(∀x∈l,0<=x.1/\GW x.2 m=0)->GX m l=0
 | [],_=>rfl
 | x :: l,h=>by
  have:=h x (by simp);unfold GX;rw[As (by omega),As (by rw[this.2];simp)];exact Xr λy a=>h y (by simp[a])
theorem A5R {h:AG} (hu:HU h) {f:List AC} (b:VF h f) (hl:f.length<=4096):Ax f=(f,0):=by
 have c:B6 f=0:=by
  unfold B6;rw[As (by have:=b.pos;omega),As (by omega)];refine Xr λx hx=>⟨(b.ty x hx).1,sK (b.str x hx) λa ha=>⟨(b.ft x hx a ha).1,((b.good.2 x hx).2 a ha)⟩⟩
 unfold Ax;rw[Bq c,Ie b.good (b.srt hu) (by omega) (by have:=b.pos;omega),b.can]
section
variable {h:AG} (hh:H14 h)
include hh
theorem H14.hu:HU h:=⟨hh.ok,hh.inj,hh.b2⟩
omit hh in
theorem A0I {f:List AC} (b:VF h f):XV h f:=λx hx a ha=>⟨b.ft x hx a ha,(b.good.2 x hx).2 a ha⟩
theorem m8 {f:List AC} (a:VF h f) {ty:List Int} (e:Jr h f=some ty):VF h (Fi f ty)/\WTy h f ty/\VJ h f.length ty/\It h f (Fi f ty) id:=by
 obtain⟨h1,g,d⟩:=sG hh.ok hh.inj hh.ft hh.ap (A0I a) a.ty e;refine⟨A5Q a d,h1,d,rfl,λi b c=>⟨b,by rw[EL];exact c⟩,λi b c=>?_,λi b c x hx=>?_⟩
 .have:=g i.toNat (by omega);rw[D7]at this;show A1 h _ ((Fi f ty).getD i.toNat (0,[])).1=true
  rwa [KQ f ty (by omega)]
 show Ao ((Fi f ty).getD i.toNat (0,[])).2 x.1=x.2;rw[Io];exact ABl (a.srt hh.hu) hx
theorem A0J {f g:List AC} (n:VF h f) (p:VF h g) (B:WTy h g (Dj g)) {m:Int->Int} (c:It h f g m):∃ty,Jr h f=some ty/\It h (Fi f ty) g m:=by
 have E:=p.pos
 let u:List Int:=(List.range f.length).map λi:Nat=>(g.getD (m (i:Int)).toNat (0,[])).1
 have k:∀i:Nat,i<f.length->u.getD i 0=(g.getD (m (i:Int)).toNat (0,[])).1:=λi hi=>by
  simp[u,AS,hi]
 have q:∀i:Nat,i<f.length->(m (i:Int)).toNat<g.length/\0<=m (i:Int):=λi hi=>by
  have:=c.rng (i:Int) (by omega) (by omega);omega
 have A:VJ h f.length u:=⟨by simp[u],λt z=>by
  obtain⟨i,hi,rfl⟩:=IF.1 z;exact p.ty _ (KV (q i (Ue.1 hi)).1 (0,[]))⟩
 have C:WTy h f u:=λi hi a ha=>by
  have v:a∈AP f (i:Int):=by show a∈(f.getD (i:Int).toNat (0,[])).2;rwa [UQ]
  have h1:=c.arc (i:Int) (by omega) (by omega) a v;obtain⟨r,D⟩:=(n.good.2 _ (KV hi (0,[]))).2 a ha;have s:=c.rng a.2 r D;obtain⟨b,w,e1,e2⟩:=KS (l:=AP g (m (i:Int))) (e:=a.1) (by rw[h1];exact s.1);have o:=B _ (q i hi).1 b (by exact w);rw[D7,D7,e1,e2,h1,UQ]at o;rw[UQ,k i hi,k a.2.toNat (by omega),bY r];exact o
 obtain⟨ty,e,y⟩:=mP hh.ok hh.inj hh.ft hh.ap (A0I n) n.ty A C λi hi=>by
  rw[D7,k i hi];have:=c.ty (i:Int) (by omega) (by omega)
  rwa [UQ]at this
 refine⟨ty,e,c.zero,λi j d=>c.rng i j (by rw[EL]at d;exact d),λi j d=>?_,λi j d x hx=>?_⟩
 .rw[EL]at d;have:=y i.toNat (by omega);rw[k _ (by omega),bY j]at this
  rwa [KQ f ty (by omega)]
 rw[EL]at d;exact c.arc i j d x (by rw[AP,Io]at hx;exact hx)
omit hh in
theorem A2E {f:List AC} (e:fJ h f=0):WTy h f (Dj f):=by
 unfold fJ at e
 split at e
 .exact A9A.1 e
 rename_i hn;exact absurd e hn
end
theorem Tm {h:AG} {f:List AC} {ty:List Int} (e:Jr h f=some ty):SU h f=(Fi f ty,true):=by unfold SU;rw[e]
theorem Tn {h:AG} {f:List AC} (e:Jr h f=none):SU h f=([],false):=by unfold SU;rw[e]
theorem VJ.set {h:AG} {m:Nat} {u:List Int} (hu:VJ h m u) {t:Int} (a:0<=t) (b:t<(h.1.length:Int)) (i:Nat):VJ h m (u.set i t):=⟨by rw[Ya];exact hu.1,λx hx=>by
 rcases AAy hx with hx|rfl
 .exact hu.2 x hx
 exact⟨a,b⟩⟩
theorem Rc.set {h:AG} (hk:Hn h) {m:Nat} {u:List Int} (hu:VJ h m u) {t:Int} {i:Nat} (hi:i<m) (hs:A1 h (u.getD i 0) t=true):Rc h m u (u.set i t):=λk a=>by
 rw[Nm _ _ _ (by rw[hu.1];exact hi) k];split
 .rename_i e;rw[e];exact hs
 exact VE hk (hu.get a).1 (hu.get a).2
section
variable {h:AG} (hk:Hn h) (hn:ABu h) (hi:Nz h) (hf:HFt h) (hap:HAp h) {m:Nat}
include hk hn hi hf hap
end
section
variable {h:AG} (hk:Hn h) (hn:ABu h) (hi:Nz h) (hf:HFt h) (hap:HAp h) {f:List AC} (ha:XV h f)
include hk hn hi hf hap ha
end
section
open Go
end
section
open Go
end
section
open Go
end
section
open Go
end
section
open Go
end
section
variable {h:AG} {N:List AC} {P:List (Int×Int)} {c p:List Int} {g:List AC}
end
section
variable {h:AG} {a b:List AC}
end
section
open Go
end
section
attribute [local go_sem] A5H
end
noncomputable def f8 (h:AG) (a b:List AC):List AC×Bool:=if (Js h a b).2=true then SU h (Js h a b).1 else ([],false)
theorem A5S {h:AG} (hk:Hn h) {N:List AC} {P:List (Int×Int)}:∀(k:Nat) (p ty:List Int) (ar:List (List (Int×Int))) (W:List (Int×Int)),JI h N P p ty ar W->nR p*((C0 N).length+1)+W.length<=k ->
  (∃D F o,JI h N P D F o [])\/(∀X v,CP h X->¬Rb h N P X v):=by
 intro k;induction k with
 | zero =>
  intro p ty ar W c g;have:W=[]:=UW (by omega);subst this;exact .inl ⟨p,ty,ar,c⟩
 | succ k l =>
  intro p ty ar W c g;cases j:W.getLast? with
  | none =>
   have:W=[]:=List.getLast?_eq_none_iff.1 j;subst this;exact .inl ⟨p,ty,ar,c⟩
  | some w =>
   have r:W=W.dropLast++[w]:=by
    obtain⟨J,e⟩:=List.getLast?_eq_some_iff.1 j;rw[e];simp
   obtain⟨s,t⟩:=w;rw[r]at c g;rw[BY,IS]at g;generalize W.dropLast=V at *;obtain⟨⟨m,s1⟩,n,E⟩:=c.wr (s,t) (by simp);simp only at m s1 n E;obtain⟨L,fo⟩:=c.fo;have lp:=c.lp;obtain⟨a,ha,G,H⟩:=fo.root m (by omega);obtain⟨b,d,q,b1⟩:=fo.root n (by omega);by_cases f:a=b
   .subst f;exact l p ty ar V (fP c ha d) (by omega)
   cases i:(Bx h (ty.getD a.toNat 0) (ty.getD b.toNat 0)).2 with
   | false =>
    right;intro X v u C;have:=(VI hk c ha d u C).2.1;rw[i]at this;cases this
   | true =>
    have z:=Xa hk c ha d f i;refine l _ _ _ _ z ?_;have B:=A0x (a:=a) q b1 d.root f;have A:=fQ (c.srt a.toNat) (λx hx=>(c.arr a.toNat x hx).2);have K:=UR (RL (x:=ar.getD a.toNat []) (y:=ar.getD b.toNat [])) A;have I:nR p*((C0 N).length+1)=nR (p.set b.toNat a)*((C0 N).length+1)+((C0 N).length+1):=by rw[<-B,AFK,Nat.one_mul]
    rw[BY];omega
theorem bS {h:AG} (hk:Hn h) {N:List AC}:∀(R P:List (Int×Int)) (p ty:List Int) (ar:List (List (Int×Int))),(∀q∈R,(0<=q.1/\q.1<(N.length:Int))/\(0<=q.2/\q.2<(N.length:Int)))->JI h N P p ty ar [] ->
  (∃l r g,JI h N (P++R) l r g [])\/(∀X v,CP h X->¬Rb h N (P++R) X v)
 | [],P,p,ty,ar,f,e=>.inl ⟨p,ty,ar,by rw[Uh];exact e⟩
 | q :: R,P,p,ty,ar,f,e=>by
  obtain⟨a,b⟩:=q;have c:=f (a,b) (by simp);have i:P++(a,b) :: R=P++[(a,b)]++R:=by simp
  rw[i];rcases A5S hk _ _ _ _ _ (Xb e c.1 c.2) (NO _) with ⟨m,o,n,h1⟩|k
  .exact bS hk R (P++[(a,b)]) m o n (λq c=>f q (by simp[c])) h1
  exact .inr λX v j d=>k X v j ⟨d.rng,d.ty,d.arc,λq c=>d.eq q (YW _ c)⟩
theorem A9B {h:AG} (hu:HU h) {a b X:List AC} (va:VF h a) (c:VF h b) (hl:a.length+b.length<=100000) (j:CP h X) {m n:Int->Int} (h1:It h a X m) (f:It h b X n):∃i,fV h a b i:=by
 have o:=Cb a b;have hap:=va.pos;have r:=c.pos;have k:=Gr va.good c.good hl;rcases bS hu.ok (N:=Al a b) [(0,(a.length:Int))] [] _ _ _ (λq d=>by
  have e:q=(0,(a.length:Int)):=by simpa using d
  subst e;simp only;omega) (fX k (M4 va.ty c.ty) (KU va.str c.str)) with ⟨p,ty,ar,g⟩|l
 .exact⟨_,A9u va c g (Xl g (by omega) (M5 (va.ft64 hu) (c.ft64 hu)))⟩
 exfalso;refine l X _ j (r8 (RN va.good c.good (Hq h1) (Hq f)) λq d=>?_);have e:q=(0,(a.length:Int)):=by simpa using d
 subst e;try simp only
 rw[Bq (by omega),As (by omega),AGt,h1.zero,f.zero]
structure H11 (h:AG):Prop where
 hu:HU h
 top:Xo h
 b1:h.1.length<=256
theorem Tp (d:List AL):H11 (BD d).1:=⟨⟨Ms d,lQ d,(M6 d).2⟩,mO d,(M6 d).1⟩
section
attribute [local go_sem] fE KK cs1 cs3
end
section
attribute [local go_sem] aR
end
def D8:AG:=([(ByteArray.mk #[116,111,112],[8191],[],[]),(ByteArray.mk #[105,110,100,101,120],[60],[0],[]),(ByteArray.mk #[108,105,115,116],[193],[0],[]),(ByteArray.mk #[99,111,110,115],[1],[2],[(2,0),(10,2)]),(ByteArray.mk #[100,108,105,115,116],[2],[0],[(6,2),(7,2)]),(ByteArray.mk #[101,110,116,105,116,121],[4],[1],[]),(ByteArray.mk #[101,118,101,110,116],[8],[1],[]),(ByteArray.mk #[104,97,110,100,108,101],[16],[1],[]),(ByteArray.mk #[110,117,108,108],[128],[2],[]),(ByteArray.mk #[113,101,113],[256],[0],[(3,7),(8,7)]),(ByteArray.mk #[114,101,108],[512],[0],[(5,7)]),(ByteArray.mk #[115,101,109],[1024],[0],[(1,4),(4,1),(9,4),(12,7)]),(ByteArray.mk #[115,105,103,110],[2048],[0],[(0,2),(11,11)])],[(ByteArray.mk #[65,82,71,83],12),(ByteArray.mk #[67,79,78,83],11),(ByteArray.mk #[70,73,82,83,84],3),(ByteArray.mk #[72,73,71,72],9),(ByteArray.mk #[73,78,68,69,88],11),(ByteArray.mk #[76,65,66,69,76],10),(ByteArray.mk #[76,65,83,84],4),(ByteArray.mk #[76,73,83,84],4),(ByteArray.mk #[76,79,87],9),(ByteArray.mk #[82,69,76,83],11),(ByteArray.mk #[82,69,83,84],3),(ByteArray.mk #[83,69,77],12),(ByteArray.mk #[84,79,80],11)])
instance baDec:DecidableEq ByteArray:=λa b =>
 if h:a.data.toList=b.data.toList then isTrue (by
  cases a
  cases b
  exact Yp ByteArray.mk (Array.toList_inj.1 h))
 else isFalse λe=>h (by rw[e])
theorem A5T:((VD []).1:List (ByteArray×List Int×List Int×List (Int×Int)))=D8.1:=by decide +kernel
theorem A5U:((VD []).2:List (ByteArray×Int))=D8.2:=by decide +kernel
theorem A9C:VD []=D8:=Prod.ext A5T A5U
section
attribute [local go_sem] aR Jp
end
section
attribute [local go_sem] Jp
end
abbrev Wt (h:AG) (f:List AC):Prop:=VF h f/\WTy h f (Dj f)
def Bds (h:AG) (l:List (List AC)) (X:List AC):Prop:=∀x∈l,∃m,It h x X m
structure TU (h:AG) (l:List (List AC)) (U:List AC):Prop where
 wt:Wt h U
 hom:Bds h l U
 least:∀X,Wt h X->Bds h l X->∃m,It h U X m
def M7 (h:AG) (l:List (List AC)) (r:List AC×Bool):Prop:=(r.2=true/\TU h l r.1)\/(r=([],false)/\∀X,Wt h X->¬Bds h l X)
theorem M7.congr {h:AG} {l l':List (List AC)} {r:List AC×Bool} (H:M7 h l r) (d:∀X,Wt h X->(Bds h l X↔Bds h l' X)):M7 h l' r:=by
 rcases H with ⟨h1,a⟩|⟨h1,a⟩
 .exact .inl ⟨h1,a.wt,(d _ a.wt).1 a.hom,λX b c=>a.least X b ((d X b).2 c)⟩
 exact .inr ⟨h1,λX b c=>a X b ((d X b).2 c)⟩
theorem A5V {h:AG} (hk:Hn h) {l:List (List AC)} (hl:∀x∈l,VF h x) {a X:List AC} (b:VF h a) (c:VF h X) (d:Bds h l a) {m:Int->Int} (e:It h a X m):Bds h l X:=λx hx=>by
 obtain⟨k,q⟩:=d x hx;exact⟨_,M2 hk (hl x hx).good (hl x hx).ty b.ty c.ty q e⟩
theorem Hr {h:AG} {x X:List AC}:Bds h [x] X↔∃m,It h x X m:=by simp[Bds]
theorem Xs {h:AG} {x X:List AC} {l:List (List AC)}:Bds h (x :: l) X↔(∃m,It h x X m)/\Bds h l X:=by simp[Bds]
section
variable {h:AG} (hh:H14 h)
include hh
theorem ABy {f:List AC} (c:VF h f) {ty:List Int} (e:Jr h f=some ty):Wt h (Fi f ty):=by
 obtain⟨h1,a,b,-⟩:=m8 hh c e;refine⟨h1,?_⟩;rw[sJ b.1];intro i hi;rw[Io];exact a i (by rw[<-EL f ty];exact hi)
theorem A9D {f:List AC} (c:VF h f):M7 h [f] (SU h f):=by
 cases e:Jr h f with
 | some ty =>
  rw[Tm e];refine .inl ⟨rfl,ABy hh c e,Hr.2 ⟨_,(m8 hh c e).2.2.2⟩,λX b d=>?_⟩;obtain⟨m,g⟩:=Hr.1 d;obtain⟨i,a,q⟩:=A0J hh c b.1 b.2 g;rw[e]at a;cases a;exact⟨m,q⟩
 | none =>
  rw[Tn e];refine .inr ⟨rfl,λX b d=>?_⟩;obtain⟨m,g⟩:=Hr.1 d;obtain⟨i,a,q⟩:=A0J hh c b.1 b.2 g;rw[e]at a;cases a
theorem A9E {a b:List AC} (va:VF h a) (k:VF h b) (hl:a.length+b.length<=10000):M7 h [a,b] (f8 h a b):=by
 unfold f8;rcases f7 (h:=h) a b with ⟨l,c,e⟩|⟨e,p⟩
 .rw[e,Bq rfl];refine(A9D hh c.vf).congr λX g=>?_;rw[Hr,Xs,Hr];constructor
  .rintro⟨m,o⟩;obtain⟨i,d⟩:=c.left;obtain⟨j,f⟩:=c.right;exact⟨⟨_,M2 hh.ok va.good va.ty c.vf.ty g.1.ty d o⟩,_,M2 hh.ok k.good k.ty c.vf.ty g.1.ty f o⟩
  rintro⟨⟨i,d⟩,j,f⟩;exact c.least X g.1.ty i d j f
 rw[e,As Bool.false_ne_true];refine .inr ⟨rfl,λX g n=>?_⟩;rw[Xs,Hr]at n;obtain⟨⟨i,d⟩,j,f⟩:=n;obtain⟨l,c⟩:=A9B hh.hu va k (by omega) g.1.ty d f;exact p l c
omit hh in
theorem A5W {l l':List (List AC)} (hp:∀x,x∈l↔x∈l') (X:List AC):Bds h l X↔Bds h l' X:=⟨λa x hx=>a x ((hp x).2 hx),λa x hx=>a x ((hp x).1 hx)⟩
omit hh in
theorem M7.perm {l l':List (List AC)} {r:List AC×Bool} (H:M7 h l r) (hp:∀x,x∈l↔x∈l'):M7 h l' r:=H.congr λX _=>A5W hp X
omit hh in
theorem A0L {a b:List AC}:(f8 h a b).1.length<=a.length+b.length:=by
 unfold f8
 split
 .rename_i e
  have:=(Tk e).len
  cases c:Jr h (Js h a b).1 with
  | none=>rw[Tn c];simp
  | some ty=>rw[Tm c,EL];exact this
 simp
omit hh in
theorem M7.vf {l:List (List AC)} {r:List AC×Bool} (H:M7 h l r) (e:r.2=true):TU h l r.1:=by
 rcases H with ⟨-,b⟩|⟨a,-⟩
 .exact b
 rw[a]at e;cases e
end
theorem LZ (p:List Int) (g:List AC):(BR p g).length=p.length+g.length:=by simp[BR,GK]
theorem Tq {p:List Int} {g:List AC} {i:Int} (a:0<=i) (b:i<(p.length:Int)):(BR p g).getD i.toNat (0,[])=(0,[(p.getD i.toNat 0,i+1)]):=by grind [BR,Eo,GK]
theorem RR {p:List Int} {g:List AC} {y:Int} (a:0<=y) (b:y<(g.length:Int)):(BR p g).getD ((p.length:Int)+y).toNat (0,[])=((g.getD y.toNat (0,[])).1,AR p.length (g.getD y.toNat (0,[])).2):=by
 unfold BR;have e:((p.length:Int)+y).toNat=p.length+y.toNat:=by omega
 rw[e,AS,Ud (by rw[Eo];omega),Eo,AFD];rw[<-AS];exact Sa (λx:AC=>(x.1,AR p.length x.2)) (0,[]) (0,[]) (by omega)
theorem La {p:List Int} {g:List AC} {x:AC} (hx:x∈BR p g):(∃i,i<p.length/\x=(0,[(p.getD i 0,(i:Int)+1)]))\/∃y∈g,x=(y.1,AR p.length y.2):=by
 rcases IN.1 hx with h|h
 .obtain⟨i,hi,rfl⟩:=IF.1 h;exact .inl ⟨i,by simpa using hi,rfl⟩
 obtain⟨y,a,rfl⟩:=IF.1 h;exact .inr ⟨y,a,rfl⟩
theorem Ep {b:Nat} {l:List (Int×Int)} (h:Lv l):Lv (AR b l):=by
 unfold AR Lv;rw[Yh];exact h
theorem Tr {p:List Int} {g:List AC} (hp:p.length<=1000) (c:AN g) (h:0<g.length) (hl:g.length<=10000):AN (BR p g):=by
 have d:=LZ p g;refine⟨by omega,λx hx=>?_⟩;rcases La hx with ⟨i,hi,rfl⟩|⟨y,e,rfl⟩
 .refine⟨by simp,λa ha=>?_⟩;have:a=(p.getD i 0,(i:Int)+1):=by simpa using ha
  subst this;rw[d];simp only;omega
 refine⟨by unfold AR;rw[OF];exact(c.2 y e).1,λa ha=>?_⟩;obtain⟨b,f,rfl⟩:=IF.1 ha;have:=(c.2 y e).2 b f;rw[d];simp only;omega
theorem Si {h:AG} {f:List AC} (vf:VF h f):CG f f.length [] 0=(List.range f.length).map λ(i:Nat)=>(i:Int):=by
 have p:=vf.pos;have d:=Ho vf.good (r:=0) (by omega) (by omega);have hl:=Ik f 0;have c:=λi=>Ij (f:=f) (r:=0) (i:=i);rw[vf.can]at hl;simp only[vf.can]at c;generalize n:CG f f.length [] 0=o at *;have l:It h f f (λi=>o.getD i.toNat 0):=by
  refine⟨d.zero.1,λi g j=>d.ok.rng _ (AE o 0 (by omega)),λi g j=>?_,λi g j a ha=>?_⟩
  .rw[c i.toNat (by omega)];exact Fj h _
  rw[AP,c i.toNat (by omega)]at ha;obtain⟨b,e,rfl⟩:=IF.1 ha;have k:=d.cl _ (AE o 0 (by omega)) b e;show Ao (AP f (o.getD i.toNat 0)) b.1=o.getD (BE o b.2).toNat 0;rw[(BX k).2.2];exact FM (Im vf.str _) e
 have hu:=Xi vf.ro l (Xj vf.str);apply Yd
 .rw[OF,AFl];omega
 intro i h1 m;rw[AAn,AAj];have:=hu i (i:Int) (by omega) (by omega) (by omega);simp only[UQ,id]at this;rw[<-this,AS,AT h1];rfl
theorem bT {f:List AC} (hf:AN f) (h:CG f f.length [] 0=(List.range f.length).map λ(i:Nat)=>(i:Int)):AI f 0=f:=by
 unfold AI;generalize hl:CG f f.length [] 0=l at *;have q:l.length=f.length:=by rw[h];simp
 have b:∀k,(hk:k<l.length)->l[k]=(k:Int):=λk hk=>by subst h;simp
 clear h;have o:l.Nodup:=by
  unfold List.Nodup;rw[UX];intro i j hi n p e;rw[b i hi,b j n]at e;omega
 have m:∀x,0<=x->x<(l.length:Int)->BE l x=x:=λx r s=>by
  have:=FL o (i:=x.toNat) (by omega);have e:l.getD x.toNat 0=x:=by
   rw[AS,AT (by omega)];show l[x.toNat]=x;rw[b _ (by omega)];omega
  rw[e]at this;rw[this];omega
 apply Yd
 .rw[OF];omega
 intro i h1 c;rw[AAn,b i (by simpa using h1)];have d:f.getD (i:Int).toNat (0,[])=f[i]:=by simp[AS,c]
 unfold CL;rw[d];have:∀a∈f[i].2,Gm l a=a:=λa ha=>by
  have g:=(hf.2 _ (YZ c)).2 a ha;unfold Gm;rw[m a.2 g.1 (by omega)]
 rw[Of this,AGr]
theorem VK {Q R:List AC} {ψ:Int->Int} {C:Int->Prop} (h:rS Q R ψ C) {pre:List Int} (hp:∀i,C i->ψ i∉pre):∀(k:Nat) (t:List Int) (i:Int),(∀x∈t,C x)->C i->CG R k (pre++t.map ψ) (ψ i)=pre++(CG Q k t i).map ψ/\∀x∈CG Q k t i,C x
 | 0,t,i,c,hi=>⟨rfl,c⟩
 | k+1,t,i,c,hi=>by
  have key:∀(l:List (Int×Int)) (t:List Int),(∀a∈l,C a.2)->(∀x∈t,C x) ->
    (l.map λa=>(a.1,ψ a.2)).foldl (AY R k) (pre++t.map ψ)=pre++(l.foldl (AY Q k) t).map ψ/\∀x∈l.foldl (AY Q k) t,C x:=by
   intro l;induction l with
   | nil=>intro t _ c;exact⟨rfl,c⟩
   | cons a l m =>
    intro t hl c;have ha:=hl a (by simp);have hs:AY R k (pre++t.map ψ) (a.1,ψ a.2)=pre++(AY Q k t a).map ψ/\∀x∈AY Q k t a,C x:=by
     unfold AY;by_cases d:a.2∈t
     .rw[Bq d,Bq (IN.2 (.inr (IF.2 ⟨_,d,rfl⟩)))];exact⟨rfl,c⟩
     have j:¬ψ a.2∈pre++t.map ψ:=by
      intro hh;rcases IN.1 hh with hh|hh
      .exact hp _ ha hh
      obtain⟨x,hx,e⟩:=IF.1 hh;exact d (h.inj x a.2 (c x hx) ha e▸hx)
     rw[As d];simp only[As j];exact VK h hp k t a.2 c ha
    rw[UY,UN,UN,hs.1];exact m _ (λb g=>hl b (by simp[g])) hs.2
  rw[Bv,Bv];have e:pre++t.map ψ++[ψ i]=pre++(t++[i]).map ψ:=by simp
  have f:(R.getD (ψ i).toNat (0,[])).2=(AP Q i).map λa=>(a.1,ψ a.2):=h.arc i hi;rw[f,e];refine key _ _ (h.cl i hi) λx hx=>?_;rcases IN.1 hx with hx|hx
  .exact c x hx
  have:x=i:=by simpa using hx
  rw[this];exact hi
abbrev OA (n:Nat):List Int:=(List.range n).map λ(i:Nat)=>(i:Int)
theorem RS {n:Nat} {x:Int} (h:x∈OA n):0<=x/\x<(n:Int):=by grind
theorem A2F (n:Nat):OA (n+1)=OA n++[(n:Int)]:=by unfold OA;rw[Yf,UZ];rfl
theorem Xt {p:List Int} {g:List AC}:∀(r j:Nat) (k:Nat),j+r=p.length->CG (BR p g) (r+k) (OA j) (j:Int)=CG (BR p g) k (OA p.length) (p.length:Int)
 | 0,j,k,h=>by rw[show j=p.length by omega,tO]
 | r+1,j,k,h=>by
  rw[show r+1+k=(r+k)+1 by omega,Bv,Tq (by omega) (by omega),UQ];show AY (BR p g) (r+k) (OA j++[(j:Int)]) (p.getD j 0,(j:Int)+1)=_;rw[<-A2F];unfold AY;rw[As (λa=>by have:=RS a;simp only at this;omega)];have e:((j:Int)+1)=((j+1:Nat):Int):=by omega
  simp only[e];exact Xt r (j+1) k (by omega)
theorem A2G {h:AG} {p:List Int} {g:List AC} (b:VF h g) (hp:p.length<=1000) (hl:g.length<=10000):AI (BR p g) 0=BR p g:=by
 have f:=b.pos;refine bT (Tr hp b.good f hl) ?_;rw[LZ];have d:=Xt (p:=p) (g:=g) p.length 0 g.length (by omega);rw[show OA 0=[] from rfl,show ((0:Nat):Int)=0 from rfl]at d;rw[d];have k:rS g (BR p g) (λi=>(p.length:Int)+i) (λi=>0<=i/\i<(g.length:Int)):=by
  refine⟨λi hi=>?_,λi hi a ha=>Au b.good ha,λi j hi m e=>by have e:(p.length:Int)+i=(p.length:Int)+j:=e;omega⟩;rw[AP,RR hi.1 hi.2];show AR p.length (AP g i)=_;unfold AR;refine Of λa _=>?_;show (a.1,a.2+(p.length:Int))=(a.1,(p.length:Int)+a.2);rw[AF5]
 have c:=(VK k (pre:=OA p.length) (λi hi l=>by have:=RS l;omega) g.length [] 0 (λx hx=>by cases hx) ⟨by omega,by omega⟩).1;rw[AFe,Uh,ABR,Si b]at c;rw[c];rw[AGb,UZ,YU,YU];refine Yp _ (Of λi _=>?_);show (p.length:Int)+(i:Int)=((p.length+i:Nat):Int);omega
theorem A5X {h:AG} (h0:0<h.1.length) {p:List Int} {g:List AC} (c:VF h g) (f:FtP h p) (hp:p.length<=1000) (hl:g.length<=10000):VF h (BR p g):=by
 have l:=c.pos;have n:=LZ p g;refine⟨Tr hp c.good l hl,by omega,λx hx=>?_,λx hx=>?_,λx hx a ha=>?_,A2G c hp hl,λi o q=>?_⟩
 .rcases La hx with ⟨i,hi,rfl⟩|⟨y,d,rfl⟩
  .exact⟨by simp,by simp only;omega⟩
  exact c.ty y d
 .rcases La hx with ⟨i,hi,rfl⟩|⟨y,d,rfl⟩
  .exact iS _ _
  exact Ep (c.str y d)
 .rcases La hx with ⟨i,hi,rfl⟩|⟨y,d,rfl⟩
  .have:a=(p.getD i 0,(i:Int)+1):=by simpa using ha
   rw[this];exact f _ (Dh hi)
  obtain⟨b,k,rfl⟩:=IF.1 ha;exact c.ft y d b k
 by_cases hi:i<=(p.length:Int)
 .refine⟨i-1,by omega,by omega,(p.getD (i-1).toNat 0,i-1+1),?_,by simp only;omega⟩;rw[AP,Tq (by omega) (by omega)];exact UM.2 rfl
 obtain⟨j,m,r,x,hx,e⟩:=c.ro (i-p.length) (by omega) (by omega);refine⟨(p.length:Int)+j,by omega,by omega,(x.1,x.2+(p.length:Int)),?_,by simp only;omega⟩;rw[AP,RR m (by omega)];exact IF.2 ⟨x,hx,rfl⟩
theorem A2H {f:List AC} (hf:AN f) {r:Int} (h:0<=r) (j:r<(f.length:Int)):AN (AI f r)/\0<(AI f r).length:=by
 have c:=Ho hf h j;have hl:=Ik f r;have g:=λi=>Ij (f:=f) (r:=r) (i:=i);generalize m:CG f f.length [] r=o at *;have n:=c.ok.len;have l:=hf.1;have q:=c.zero.2;refine⟨⟨by omega,λx hx=>?_⟩,by omega⟩;obtain⟨i,hi,rfl⟩:=Cw (0,[]) hx;rw[g i (by omega)];have d:o.getD i 0∈o:=AE o 0 (by omega);have p:=c.ok.rng _ d;refine⟨?_,λa ha=>?_⟩
 .show (List.map (Gm o) _).length<=_;rw[OF];exact(hf.2 _ (AE f (0,[]) (k:=(o.getD i 0).toNat) (by omega))).1
 obtain⟨b,e,rfl⟩:=IF.1 ha;have:=BX (c.cl _ d b e);rw[hl];exact⟨this.1,this.2.1⟩
theorem A9F {h:AG} {f:List AC} (hf:AN f) (b:CP h f) {r:Int} (c:0<=r) (d:r<(f.length:Int)):CP h (AI f r):=by
 have a:=Ho hf c d;intro x hx;obtain⟨n,hn,rfl⟩:=IF.1 hx;have e:=a.ok.rng n hn;exact b (f.getD n.toNat (0,[])) (AE f (0,[]) (k:=n.toNat) (by omega))
structure PF (h:AG) (S:List AC):Prop where
 good:AN S
 pos:0<S.length
 ty:CP h S
 str:∀x∈S,Lv x.2
 ft:∀x∈S,∀a∈x.2,0<=a.1/\a.1<(h.2.length:Int)
theorem VF.pf {h:AG} {f:List AC} (v:VF h f):PF h f:=⟨v.good,v.pos,v.ty,v.str,v.ft⟩
theorem m9 {S:List AC} (a:AN S) {r:Int} (b:0<=r) (c:r<(S.length:Int)):∀x∈AI S r,∃n∈CG S S.length [] r,(0<=n/\n<(S.length:Int))/\x=CL S (CG S S.length [] r) n:=λx hx=>by
 obtain⟨n,hn,rfl⟩:=IF.1 hx;exact⟨n,hn,(Ho a b c).ok.rng n hn,rfl⟩
theorem A9G {S:List AC} (b:AN S) {r:Int} (c:0<=r) (d:r<(S.length:Int)):RO (AI S r):=by
 have k:=Ho b c d;have h:=RI b S.length [] r (GG _) c d (by simp);have n:=Ik S r;have g:=λi=>Ij (f:=S) (r:=r) (i:=i);generalize AI S r=C at *;generalize CG S S.length [] r=o at *;intro i l m;obtain⟨j,p,a,ha,e⟩:=h i.toNat (by simp only[Yo];omega) (by omega);refine⟨(j:Int),by omega,by omega,Gm o a,?_,?_⟩
 .rw[AP,UQ,g j (by omega)];exact IF.2 ⟨a,ha,rfl⟩
 show BE o a.2=i;rw[e,FL k.ok.nd (by omega)];omega
theorem A5Y {h:AG} {S:List AC} (p:PF h S) {r:Int} (c:0<=r) (d:r<(S.length:Int)):VF h (AI S r):=by
 have e:=A2H p.good c d;refine⟨e.1,e.2,A9F p.good p.ty c d,λx hx=>?_,λx hx a ha=>?_,mH p.good c d,A9G p.good c d⟩
 .obtain⟨n,-,hn,rfl⟩:=m9 p.good c d x hx;show List.Pairwise _ (List.map _ _);rw[Yh];exact(Im p.str n).imp λh=>h
 obtain⟨n,-,hn,rfl⟩:=m9 p.good c d x hx;obtain⟨b,f,rfl⟩:=IF.1 ha;exact p.ft _ (AE S (0,[]) (by omega)) b f
theorem sL {h:AG} {f:List AC} (a:CP h f) {i:Int} (b:0<=i) (c:i<(f.length:Int)):0<=(f.getD i.toNat (0,[])).1/\(f.getD i.toNat (0,[])).1<(h.1.length:Int):=a _ (AE f (0,[]) (by omega))
theorem nA {h:AG} (hk:Hn h) {a b c:List AC} (r:AN a) (ta:CP h a) (tb:CP h b) (z:CP h c) {v w:Int->Int} (h1:Rb h a [] b v) (j:Rb h b [] c w):Rb h a [] c λi=>w (v i):=by
 refine⟨λi f g=>?_,λi f g=>?_,λi f g x hx=>?_,λq s=>by cases s⟩
 .have:=h1.rng i f g;exact j.rng _ this.1 this.2
 .have d:=h1.rng i f g;have p:=j.rng _ d.1 d.2;have m:=sL ta f g;have n:=sL tb d.1 d.2;have o:=sL z p.1 p.2;exact LV hk m.1 m.2 n.1 n.2 o.1 o.2 (h1.ty i f g) (j.ty _ d.1 d.2)
 have d:=h1.rng i f g;have k:=Au r hx;have u:=h1.rng x.2 k.1 k.2;have ha:=h1.arc i f g x hx;obtain⟨y,t,e1,e2⟩:=KS (l:=AP b (v i)) (e:=x.1) (by rw[ha];exact u.1);have:=j.arc _ d.1 d.2 y t;rw[e1,e2,ha]at this;exact this
theorem GL {Q R:List AC} {ψ:Int->Int} {C:Int->Prop} (h:rS Q R ψ C) (j:AN Q) {r:Int} (g:C r) (l:0<=r) (m:r<(Q.length:Int)) (p:Q.length<=R.length)
  (hty:∀i,C i->(R.getD (ψ i).toNat (0,[])).1=(Q.getD i.toNat (0,[])).1):AI R (ψ r)=AI Q r:=by
 have c:CG R R.length [] (ψ r)=(CG Q Q.length [] r).map ψ/\∀x∈CG Q Q.length [] r,C x:=by
  have h1:=RH h R.length [] r (λx hx=>by cases hx) g;have d:=KR j (n:=r) l m (R.length-Q.length);rw[show Q.length+(R.length-Q.length)=R.length by omega]at d;rw[d]at h1;exact h1
 unfold AI;rw[c.1];generalize CG Q Q.length [] r=o at *;rw[YU];refine Of λi hi=>?_;have b:=c.2 i hi;show CL R (o.map ψ) (ψ i)=CL Q o i;unfold CL;have f:(R.getD (ψ i).toNat (0,[])).2=(AP Q i).map λa=>(a.1,ψ a.2):=h.arc i b;rw[hty i b,f,YU];refine Yp _ (Of λa ha=>?_);show (a.1,BE (o.map ψ) (ψ a.2))=(a.1,BE o a.2);rw[l9 λy k e=>h.inj y a.2 (c.2 y k) (h.cl i b a ha) e]
def AEX (f:List AC) (e:Int):List (Int×Int):=(f.getD 0 (0,[])).2.filter λa=>a.1 != e
def AEY (f:List AC) (e:Int):List AC:=((f.getD 0 (0,[])).1,AR 1 (AEX f e)) :: f.map λx=>(x.1,AR 1 x.2)
def AAu (f:List AC) (e:Int):List AC:=AI (AEY f e) 0
theorem DA {b:Nat} {l:List (Int×Int)} {a:Int×Int}:a∈AR b l↔∃x∈l,a=(x.1,x.2+(b:Int)):=by
 unfold AR;rw[IF];exact⟨λ⟨x,h1,c⟩=>⟨x,h1,c.symm⟩,λ⟨x,h1,c⟩=>⟨x,h1,c.symm⟩⟩
def Jt (b:Nat) (g:List AC) (i:Nat):List AC:=(g.take i).map λx:AC=>(x.1,AR b x.2)
theorem Xu (b:Nat) (g:List AC) {i:Nat} (h:i<g.length):Jt b g (i+1)=Jt b g i++[((g.getD i (0,[])).1,AR b (g.getD i (0,[])).2)]:=by
 unfold Jt;rw[Av g (0,[]) h,UZ];rfl
theorem E3 (b:Nat) (g:List AC):Jt b g g.length=g.map λx:AC=>(x.1,AR b x.2):=by
 unfold Jt;rw[UO]
theorem GM (b:Nat) (g:List AC) {i:Nat} (h:i<=g.length):(Jt b g i).length=i:=by
 unfold Jt;rw[OF,OS];omega
def f9:AZ:={ ins:=[Ft,DC],pre:=λ(p,g,_)=>List.length p<=1000/\AN g,out:=λ(p,g,_)=>[.p DC (BR p g)] }
theorem A5Z:Ad Tryz.prog 141 f9:=by
 refine fKP [0,1,3,4,5,6,7,9,10,12,13,14,15,16,33,34,35,36,43,44,45,46] [26] [] Tryz.func141 Tryz.ntmps141 AH ?_;rintro w0 O0 ⟨p,g,u⟩ e-⟨hp,f⟩;have I:=f.1;simp only[f9,AM];repeat'(first|exact trivial|apply eS rfl|apply AB|refine rX e ?_ ?_|refine rC ?_ ?_<;>intro b<;>try(cases b;done))
 refine AK (ι:={k:Nat//k<=p.length}) (λk=>⟨[(0,.p Ft p),(3,.bp 3 [] 0),(4,.bp 4 [] 0),(5,.bp 5 [] 0),(13,.p Ft p),(14,.p (.int .i64) (p.length:Int)),(15,.p (.int .i64) (k.1:Int))],[(3,.box 25 true [.p Fq g]),(4,.box 25 true [.raw (.slice none 0 0)]),(5,.box 25 true [.sr 29 GR 0 (GK p k.1).length]),(29,.arr 93 GR (GK p k.1))]⟩) (λk=>p.length-k.1) ⟨0,Is _⟩ (AD [(3,.nm 3),(4,.nm 4),(5,.nm 5),(29,.nil)] rfl rfl ?_ ?_) (λk=>?_)
 .first|exact eN|refine eM ?_
  exact⟨rfl,rfl⟩
 .first|exact eN|refine eM ?_
 obtain⟨k,hk⟩:=k;have B:=Eo p k;repeat'(first|exact trivial|apply eS rfl|apply AB|refine rX e ?_ ?_|refine rC ?_ ?_<;>intro b<;>try(cases b;done))
 .exact b
 .have n:k<p.length:=Do.1 b;refine⟨⟨by omega,by omega⟩,?_⟩;rw[B];simp only[AQ];omega
 .omega
 .have n:k<p.length:=Do.1 b;have hs:=mR p k;refine⟨⟨k+1,n⟩,by simp only;omega,AD [(3,.nm 3),(4,.nm 4),(5,.nm 5),(29,.nm 29)] rfl rfl ?_ ?_⟩
  .simp only[hs];first|exact eN|refine eM ?_
  first|exact eN|refine eM ?_
 have D:k=p.length:=by
  have:=US.1 b;omega
 subst D;obtain⟨t,m⟩:∃c,GK p p.length=c:=⟨_,rfl⟩;have A:=Eo p p.length;have s:t++g.map (λx:AC=>(x.1,AR p.length x.2))=BR p g:=by rw[<-m];rfl
 generalize GK p p.length=ch at *;subst m;refine AK (ι:={i:Nat//i<=g.length}) (λi=>⟨[(0,.p Ft p),(3,.bp 3 [] 0),(4,.bp 4 [] 0),(5,.bp 5 [] 0),(33,.p Fq g),(34,.p (.int .i64) (g.length:Int)),(35,.p (.int .i64) (i.1:Int))],[(3,.box 25 true [.p Fq g]),(4,.box 25 true [.raw (.slice none 0 0)]),(5,.box 25 true [.sr 29 GR 0 (ch++Jt p.length g i.1).length]),(29,.arr 93 GR (ch++Jt p.length g i.1))]⟩) (λi=>g.length-i.1) ⟨0,Is _⟩ (AD [(3,.nm 3),(4,.nm 4),(5,.nm 5),(29,.nm 29)] rfl rfl ?_ ?_) (λi=>?_)
 .have v:ch++Jt p.length g 0=ch:=by simp[Jt]
  simp only[v];first|exact eN|refine eM ?_
 .first|exact eN|refine eM ?_
 obtain⟨i,hi⟩:=i;have E:=GM p.length g hi;have r:=λh:i<g.length=>Xu p.length g h;simp only;generalize o:Jt p.length g i=os at *;repeat'(first|exact trivial|apply eS rfl|apply AB|refine rX e ?_ ?_|refine rC ?_ ?_<;>intro b<;>try(cases b;done))
 .exact b
 .have l:i<g.length:=Do.1 b;have q:=EC f i;have G:(g.getD i (0,[])).2.length<=100000:=(f.2 _ (AE g (0,[]) l)).1;generalize hx:g.getD i (0,[])=x at *;obtain⟨H,xs⟩:=x;simp only at q G r ⊢;refine AK (ι:={j:Nat//j<=xs.length}) (λj=>⟨[(0,.p Ft p),(3,.bp 3 [] 0),(4,.bp 4 [] 0),(5,.bp 5 [] 0),(10,.bp 10 [] 0),(33,.p Fq g),(34,.p (.int .i64) (g.length:Int)),(35,.p (.int .i64) (i:Int)),(43,.p DF xs),(44,.p (.int .i64) (xs.length:Int)),(45,.p (.int .i64) (j.1:Int))],[(3,.box 25 true [.p Fq g]),(4,.box 25 true [.raw (.slice none 0 0)]),(5,.box 25 true [.sr 29 GR 0 (ch++os).length]),(29,.arr 93 GR (ch++os)),(10,.box 93 true [.p T3 H,.sr 60 AW 0 (AR p.length (xs.take j.1)).length]),(60,.arr 106 AW (AR p.length (xs.take j.1)))]⟩) (λj=>xs.length-j.1) ⟨0,Is _⟩ (AD [(3,.nm 3),(4,.nm 4),(5,.nm 5),(29,.nm 29),(10,.nm 10),(60,.nil)] rfl rfl ?_ ?_) (λj=>?_)
  .first|exact eN|refine eM ?_
   exact⟨rfl,rfl⟩
  .first|exact eN|refine eM ?_
  obtain⟨j,J⟩:=j;have w:(AR p.length (xs.take j)).length=j:=by unfold AR;rw[OF,OS];omega
  have y:=λh:j<xs.length=>B4 (λa:Int×Int=>(a.1,a.2+(p.length:Int))) xs (0,0) h;simp only;repeat'(first|exact trivial|apply eS rfl|apply AB|refine rX e ?_ ?_|refine rC ?_ ?_<;>intro b<;>try(cases b;done))
  .exact b
  .have d:j<xs.length:=Do.1 b;have K:=q _ (AE xs (0,0) d);refine⟨⟨by omega,by omega⟩,?_⟩;rw[w];simp only[AQ];omega
  .omega
  .have d:j<xs.length:=Do.1 b;have z:AR p.length (xs.take (j+1))=AR p.length (xs.take j)++[((xs.getD j (0,0)).1,(xs.getD j (0,0)).2+(p.length:Int))]:=y d;refine⟨⟨j+1,d⟩,by simp only;omega,AD [(3,.nm 3),(4,.nm 4),(5,.nm 5),(29,.nm 29),(10,.nm 10),(60,.nm 60)] rfl rfl ?_ ?_⟩
   .simp only[z];first|exact eN|refine eM ?_
   first|exact eN|refine eM ?_
  .rw[A,E];simp only[AQ];omega
  .omega
  have d:xs.take j=xs:=At (US.1 b);have F:=r l;rw[d];refine⟨⟨i+1,l⟩,by simp only;omega,AD [(3,.nm 3),(4,.nm 4),(5,.nm 5),(29,.nm 29)] rfl rfl ?_ ?_⟩
  .simp only[F,<-UT];first|exact eN|refine eM ?_
  first|exact eN|refine eM ?_
 have C:i=g.length:=by
  have:=US.1 b;omega
 subst C;rw[E3]at o;rw[o]at s;exact fI e [.cell 4 25] (by rw[<-s];exact eR)
def Fk (l:List (Int×Int)) (e:Int):Int×Bool:=match l with
 | []=>(0,false)
 | a :: l=>if a.1=e then (a.2,true) else Fk l e
theorem Xv (e:Int) (l:List (Int×Int)) {k:Nat} (h:k<l.length):Fk (l.drop k) e=if (l.getD k (0,0)).1=e then ((l.getD k (0,0)).2,true) else Fk (l.drop (k+1)) e:=by
 rw[On h];have e:l.getD k (0,0)=l[k]:=by simp[AS,h]
 rw[e];rfl
def A60:AZ:={ ins:=[DC,T3,T3],pre:=λ(f,n,_,_)=>DX f/\0<=n/\n<(List.length f:Int),out:=λ(f,n,e,_)=>[.p T3 (Fk (List.getD f n.toNat (0,[])).2 e).1,.p .bool (Fk (List.getD f n.toNat (0,[])).2 e).2] }
theorem A9H:Ad Tryz.prog 123 A60:=by
 refine fK [0,1,2,3,6,7,9,15,16,17,18,24] Tryz.func123 Tryz.ntmps123 AH ?_;rintro w0 O0 ⟨f,n,e,u⟩ c-⟨hf,h0,h1⟩;simp only[A60,AM];repeat'(first|exact trivial|apply eS rfl|apply AB|refine rX c ?_ ?_|refine rC ?_ ?_<;>intro a<;>try(cases a;done))
 .exact⟨h0,h1⟩
 generalize hx:(f.getD n.toNat (0,[])).2=xs at *;have g:xs.length<=100000:=by
  rw[<-hx];have hn:n.toNat<f.length:=by
   have h0:(0:Int)<=n:=h0;have h1:(n:Int)<(List.length f:Int):=h1;exact(Int.toNat_lt h0).2 h1
  exact hf.2 _ (AE f (0,[]) hn)
 refine AK (ι:={k:Nat//k<=xs.length/\Fk xs e=Fk (xs.drop k) e}) (λk=>⟨[(2,.p T3 e),(15,.p DF xs),(16,.p (.int .i64) (xs.length:Int)),(17,.p (.int .i64) (k.1:Int))],[]⟩) (λk=>xs.length-k.1) ⟨0,Is _,rfl⟩ (AD [] rfl rfl ?_ ?_) (λk=>?_)
 .first|exact eN|refine eM ?_
 .first|exact eN|refine eM ?_
 obtain⟨k,hk,d⟩:=k;repeat'(first|exact trivial|apply eS rfl|apply AB|refine rX c ?_ ?_|refine rC ?_ ?_<;>intro a<;>try(cases a;done))
 .exact a
 .have b:k<xs.length:=Do.1 (by assumption);have h:=Xv e xs b;rw[Bq a]at h;rw[d,h];exact fI c [.tmp 6,.tmp 7]
 .omega
 .have b:k<xs.length:=Do.1 (by assumption);have h:=Xv e xs b;rw[As a]at h;refine⟨⟨k+1,b,d.trans h⟩,by simp only;omega,AD [] rfl rfl ?_ ?_⟩
  .first|exact eN|refine eM ?_
  first|exact eN|refine eM ?_
 have b:xs.drop k=[]:=TO (US.1 a);rw[b]at d;rw[d];exact fI c [.tmp 6,.tmp 7] (by first|exact eR|refine Uv ?_;exact⟨rfl,rfl⟩)
section
attribute [local go_sem] A60
def KX (f:List AC):Int->List Int->Int×Bool
 | n,[]=>(n,true)
 | n,e :: p=>if (Fk (AP f n) e).2=true then KX f (Fk (AP f n) e).1 p else (0,false)
theorem bU {p:List Int} {k:Nat} (h:k<p.length):p.drop k=p.getD k 0 :: p.drop (k+1):=by
 rw[On h];simp[AS,h]
theorem nB {l:List (Int×Int)} {e:Int} (h:(Fk l e).2=true):∃a∈l,a.1=e/\a.2=(Fk l e).1:=by
 induction l with
 | nil=>simp[Fk]at h
 | cons a l f =>
  simp only[Fk]at h ⊢;split
  .rename_i e1;exact⟨a,by simp,e1,rfl⟩
  rename_i e1;rw[As e1]at h;obtain⟨b,d,h1,c⟩:=f h;exact⟨b,by simp[d],h1,c⟩
theorem A2I {l:List (Int×Int)} (hs:Lv l) (hn:∀a∈l,0<=a.2) (e:Int):Fk l e=if oA l e<0 then (0,false) else (oA l e,true):=by
 cases h:(Fk l e).2 with
 | true =>
  obtain⟨a,ha,e1,e2⟩:=nB h;have d:=A0v hs ha;rw[e1]at d;have:=hn a ha;rw[As (by omega),d,e2,<-h]
 | false =>
  have c:∀a∈l,a.1≠e:=by
   intro a ha e1;clear hs hn;induction l with
   | nil=>cases ha
   | cons b l f =>
    simp only[Fk]at h;split at h
    .cases h
    rename_i g;rcases By.1 ha with rfl|ha
    .exact g e1
    exact f h ha
  have d:oA l e=-1:=by
   unfold oA;clear hs hn h;generalize (-1:Int)=t;induction l with
   | nil=>rfl
   | cons b l f =>
    rw[UN,As (c b (by simp))];exact f (λa ha=>c a (by simp[ha]))
  have h0:(Fk l e).1=0:=by
   clear hs hn d;induction l with
   | nil=>rfl
   | cons b l f =>
    simp only[Fk];rw[As (c b (by simp))];refine f ?_ (λa ha=>c a (by simp[ha]));simp only[Fk]at h
    rwa [As (c b (by simp))]at h
  rw[d,Bq (by decide),<-h0,<-h]
theorem Xw {f:List AC} (hf:AN f) (hs:∀x∈f,Lv x.2):∀(p:List Int) (n:Int),KX f n p=match B2 f n p with|some m=>(m,true)|none=>(0,false)
 | [],n=>rfl
 | e :: p,n=>by
  have h:=A2I (Im hs n) (λa ha=>(Au hf ha).1) e;simp only[KX,B2];rw[h];by_cases b:oA (AP f n) e<0
  .rw[Bq b,Bq b];rfl
  rw[As b,As b];exact Xw hf hs p _
def atS:AZ:={ ins:=[DC,Ft],pre:=λ(f,_,_)=>AN f/\0<List.length f,out:=λ(f,p,_)=>[.p T3 (KX f 0 p).1,.p .bool (KX f 0 p).2] }
attribute [local go_sem] atS
theorem AEZ:Ad Tryz.prog 68 atS:=by
 refine fK [0,1,2,4,5,6,8,9,10,11,12,13,14,25] Tryz.func68 Tryz.ntmps68 (AF A9H AH) ?_;rintro w0 O0 ⟨f,p,u⟩ e ⟨-,⟨h,-⟩,-⟩ ⟨hf,h0⟩;simp only[AQ]at h;simp only[atS,AM];have i:DX f:=⟨hf.1,λx hx=>(hf.2 x hx).1⟩;have h0:0<f.length:=h0;repeat'(first|exact trivial|apply eS rfl|apply AB|refine rX e ?_ ?_|refine rC ?_ ?_<;>intro b<;>try(cases b;done))
 refine AK (ι:={s:Nat×Int//s.1<=p.length/\(0<=s.2/\s.2<(f.length:Int))/\KX f 0 p=KX f s.2 (p.drop s.1)}) (λs=>⟨[(2,.bp 2 [] 0),(6,.p T3 s.1.2),(11,.p Ft p),(12,.p (.int .i64) (p.length:Int)),(13,.p (.int .i64) (s.1.1:Int))],[(2,.box 25 true [.p Fq f])]⟩) (λs=>p.length-s.1.1) ⟨(0,0),Is _,⟨ZV 0,by show (0:Int)<_;omega⟩,rfl⟩ (AD [(2,.nm 2)] rfl rfl ?_ ?_) (λs=>?_)
 .first|exact eN|refine eM ?_
 .first|exact eN|refine eM ?_
 obtain⟨⟨k,n⟩,hk,hn,d⟩:=s;simp only at hk hn d ⊢;repeat'(first|exact trivial|apply eS rfl|apply AB|refine rX e ?_ ?_|refine rC ?_ ?_<;>intro b<;>try(cases b;done))
 .exact b
 .exact⟨i,hn⟩
 .have c:k<p.length:=Do.1 (by assumption);have h1:KX f 0 p=(0,false):=by
   rw[d,bU c];simp only[KX];rw[As (by rw[b];simp)]
  exact fI e [.tmp 4,.tmp 5] (by rw[h1];exact eR)
 .omega
 .have c:k<p.length:=Do.1 (by assumption);have h1:=d;rw[bU c]at h1;simp only[KX]at h1;rw[Bq b]at h1;obtain⟨a,ha,-,e2⟩:=nB b;have g:=Au hf ha;rw[e2]at g;refine⟨⟨(k+1,(Fk (f.getD n.toNat (0,[])).2 (p.getD k 0)).1),c,g,h1⟩,by simp only;omega,AD [(2,.nm 2)] rfl rfl ?_ ?_⟩
  .first|exact eN|refine eM ?_
  first|exact eN|refine eM ?_
 have c:p.drop k=[]:=TO (US.1 b);rw[c]at d;exact fI e [.tmp 4,.tmp 5] (by rw[d];first|exact eR|refine Uv ?_;exact⟨rfl,rfl⟩)
end
def nC (h:AG):Int:=ZE h (sb [65,82,71,83])
def sM (h:AG) (i:Nat):List Int:=nC h :: (List.replicate i (AO h).rest++[(AO h).first])
theorem A9I (h:AG) (i:Nat):(sM h i).length=i+2:=by simp[sM]
def Ip (pl:Nat->List Int):Nat->List (List AC)->List (List AC)
 | _,[]=>[]
 | i,k :: l=>BR (pl i) k :: Ip pl (i+1) l
noncomputable def Gt (h:AG) (pl:Nat->List Int):Nat->List AC->List (List AC)->List AC×Bool
 | _,f,[]=>(f,true)
 | i,f,k :: l=>if (f8 h f (BR (pl i) k)).2=true then Gt h pl (i+1) (f8 h f (BR (pl i) k)).1 l else ([],false)
theorem Xx {pl:Nat->List Int} {x:List AC}:∀ {l:List (List AC)} {i:Nat},x∈Ip pl i l->∃j,j<l.length/\x=BR (pl (i+j)) (l.getD j [])
 | k :: l,i,h=>by
  rcases By.1 h with rfl|h
  .exact⟨0,by simp,rfl⟩
  obtain⟨j,a,rfl⟩:=Xx h;exact⟨j+1,by simpa using a,by rw[show i+(j+1)=i+1+j by omega];rfl⟩
theorem Xy {h:AG} {pl:Nat->List Int}:∀ {l:List (List AC)} {i:Nat} {f:List AC},(∀x∈Ip pl i l,x.length<=100)->(Gt h pl i f l).1.length<=f.length+100*l.length
 | [],i,f,_=>NO _
 | k :: l,i,f,hx=>by
  unfold Gt;split
  .have h1:=A0L (h:=h) (a:=f) (b:=BR (pl i) k);have d:=hx _ (Ys (a:=BR (pl i) k) (l:=Ip pl (i+1) l));have e:=Xy (h:=h) (pl:=pl) (l:=l) (i:=i+1) (f:=(f8 h f (BR (pl i) k)).1) λx c=>hx x (GO _ c);simp only[No];omega
  simp
section
variable {h:AG} (hh:H14 h)
include hh
theorem Xz {pl:Nat->List Int}:∀(l:List (List AC)) (i:Nat) (f:List AC) (L:List (List AC)),M7 h L (f,true)->(∀x∈L,VF h x)->(∀x∈Ip pl i l,VF h x/\x.length<=100)->f.length+100*l.length<=10000->M7 h (L++Ip pl i l) (Gt h pl i f l)
 | [],i,f,L,H,o,hx,hl=>by
  show M7 h (L++[]) (f,true);rw[Uh];exact H
 | k :: l,i,f,L,H,o,hx,hl=>by
  have hu:=hx _ (Ys (a:=BR (pl i) k) (l:=Ip pl (i+1) l));have g:=H.vf rfl;simp only[No]at hl;have t:=A0L (h:=h) (a:=f) (b:=BR (pl i) k);have hs:M7 h (L++[BR (pl i) k]) (f8 h f (BR (pl i) k)):=by
   refine(A9E hh g.wt.1 hu.1 (by have:=hu.2;show f.length+_<=10000;omega)).congr λX j=>?_;rw[Xs,Hr];constructor
   .rintro⟨⟨m,d⟩,q⟩ x r;rcases IN.1 r with c|c
    .exact A5V hh.ok o g.wt.1 j.1 g.hom d x c
    rw[UM.1 c];exact q
   intro n;exact⟨g.least X j λx d=>n x (YW _ d),n _ (AB1 _ (UM.2 rfl))⟩
  show M7 h (L++BR (pl i) k :: Ip pl (i+1) l) (Gt h pl i f (k :: l));unfold Gt;split
  .rename_i p;have:=Xz l (i+1) (f8 h f (BR (pl i) k)).1 (L++[BR (pl i) k]) (by rw[<-p];exact hs) (λx d=>by
    rcases IN.1 d with c|c
    .exact o x c
    rw[UM.1 c];exact hu.1) (λx d=>hx x (GO _ d)) (by omega)
   rwa [UT,List.singleton_append]at this
  rename_i p;refine .inr ⟨rfl,λX j n=>?_⟩;rcases hs with ⟨e,-⟩|⟨-,s⟩
  .exact p e
  refine s X j λx d=>n x ?_;rcases IN.1 d with c|c
  .exact YW _ c
  exact AB1 _ (by rw[UM.1 c];exact Ys)
omit hh in
theorem A2J {f:List AC} (a:Wt h f):M7 h [f] (f,true):=.inl ⟨rfl,a,Hr.2 ⟨id,Xj a.1.str⟩,λ_ _ b=>Hr.1 b⟩
end
theorem ABz {h:AG} (e:EE h=true) (ha:0<=nC h) (i:Nat):FtP h (sM h i):=by
 obtain⟨⟨h1,a⟩,-⟩:=JS e;have b:=GB h (sb [70,73,82,83,84]);have c:=GB h (sb [82,69,83,84]);have d:=GB h (sb [65,82,71,83]);intro x hx;rcases By.1 hx with rfl|hx
 .exact⟨ha,d.2⟩
 rcases IN.1 hx with hx|hx
 .rw[(AG4.1 hx).2];exact⟨a,c.2⟩
 rw[UM.1 hx];exact⟨h1,b.2⟩
structure ABA (h:AG) (ar:Int) (f:List AC):Prop where
 arb:1<=ar/\ar<=2
 chk:fJ h f=0
 args:0<=nC h
 lw:EE h=true
 walk:∀i:Nat,(i:Int)<ar->∃n,B2 f 0 (sM h i)=some n
section
attribute [local go_sem] Jo Pk Wx
def BH (h:AG) (w:LW):Obj:=.box 115 true [.p Du h,.p T3 w.list,.p T3 w.cons,.p T3 w.null,.p T3 w.dlist,.p T3 w.first,.p T3 w.rest,.p T3 w.head,.p T3 w.last]
theorem nD (h:AG) (w:LW) (f:List AC) (n:Int):BA Tryz.prog 90 [.p WO (wdF h w),.p DC f,.p T3 n] [] [] (λres c=>res=.clo 139 [5,3,4]/\c=[(5,.box 3 false [.p T3 n]),(4,.box 25 true [.p Fq f]),(3,BH h w)]):=by
 refine Ki [0,1,2,3,4,5,6] [] [] Tryz.func90 Tryz.ntmps90 AH ?_;intro w0 K O0 ρ0 a d e;simp only[Aj,wdF];repeat'(first|exact trivial|apply eS rfl|apply AB|refine rX a ?_ ?_|refine rC ?_ ?_<;>intro b<;>try(cases b;done))
 exact fM a [.tmp 6] (.clo 139 [5,3,4]) eT ⟨rfl,rfl⟩
abbrev WS:=List Int×List Int×Bool×Int
def A3 (f:List AC) (n:Int):AC:=f.getD n.toNat (0,[])
def M8 (h:AG) (w:LW) (f:List AC) (s:WS):WS:=(s.1++[s.2.2.2],if A2 h w (A3 f s.2.2.2)=2 then s.2.1++[Ao (A3 f s.2.2.2).2 w.first] else s.2.1,decide (A2 h w (A3 f s.2.2.2)=1),Ao (A3 f s.2.2.2).2 w.rest)
def Ap (h:AG) (w:LW) (f:List AC) (n:Int):Nat->WS
 | 0=>([],[],false,n)
 | i+1=>M8 h w f (Ap h w f n i)
def WGo (h:AG) (w:LW) (f:List AC) (n:Int) (i:Nat):Prop:=∀j,j<i->A2 h w (A3 f (Ap h w f n j).2.2.2)=2/\(Ap h w f n j).2.2.2∉(Ap h w f n j).1
theorem bV (h:AG) (w:LW) (x:AC):A2 h w x=0\/A2 h w x=1\/A2 h w x=2\/A2 h w x=3:=by
 unfold A2;split
 .exact .inr (.inl rfl)
 split
 .exact .inr (.inr (.inl rfl))
 split
 .exact .inr (.inr (.inr rfl))
 exact .inl rfl
theorem Lb {h:AG} {w:LW} {f:List AC} {n:Int} (hf:AN f) (n0:0<=n) (n1:n<(f.length:Int)):∀i,WGo h w f n i->Iw f (Ap h w f n i).1/\(Ap h w f n i).1.length=i/\(0<=(Ap h w f n i).2.2.2/\(Ap h w f n i).2.2.2<(f.length:Int))/\(Ap h w f n i).2.1.length=i
 | 0,_=>⟨GG f,rfl,⟨n0,n1⟩,rfl⟩
 | i+1,c=>by
  obtain⟨h1,d,a,e⟩:=Lb hf n0 n1 i (λj k=>c j (by omega));obtain⟨b,g⟩:=c i (by omega);have hk:=Nj b;refine⟨h1.snoc a.1 a.2 g,?_,⟨hk.2,?_⟩,?_⟩
  .show ((Ap h w f n i).1++_).length=_;rw[BY,d];rfl
  .exact LN (by omega) _ λx hx=>(Au hf (n:=(Ap h w f n i).2.2.2) hx).2
  show (if _ then _ else _:List Int).length=_;rw[Bq b,BY,e];rfl
theorem nE {h:AG} {w:LW} {f:List AC} {n:Int} (k:Nat):∀i,WGo h w f n i->Lo h w f (k+i) [] [] n=Lo h w f k (Ap h w f n i).1 (Ap h w f n i).2.1 (Ap h w f n i).2.2.2
 | 0,_=>rfl
 | i+1,b=>by
  have e:=nE (h:=h) (w:=w) (f:=f) (n:=n) (k+1) i (λj g=>b j (by omega));obtain⟨a,d⟩:=b i (by omega);rw[show k+(i+1)=k+1+i by omega,e];have c:A2 h w (f.getD (Ap h w f n i).2.2.2.toNat (0,[]))=2:=a;show (if _ then _ else _)=_;rw[As d,c,As (by decide),As (by decide),As (by decide)];show _=Lo h w f k (M8 h w f (Ap h w f n i)).1 (M8 h w f (Ap h w f n i)).2.1 (M8 h w f (Ap h w f n i)).2.2.2;unfold M8;rw[Bq a];rfl
theorem A61 {h:AG} {f:List AC} {n:Int} (hf:AN f) (j:EE h=true) (n0:0<=n) (n1:n<(f.length:Int)) {i:Nat} (c:WGo h (AO h) f n i) :
  ((Ap h (AO h) f n i).2.2.2∈(Ap h (AO h) f n i).1->CE h f n=([],false,6)) /\
  ((Ap h (AO h) f n i).2.2.2∉(Ap h (AO h) f n i).1->A2 h (AO h) (A3 f (Ap h (AO h) f n i).2.2.2)=0->CE h f n=([],false,13)) /\
  ((Ap h (AO h) f n i).2.2.2∉(Ap h (AO h) f n i).1->A2 h (AO h) (A3 f (Ap h (AO h) f n i).2.2.2)≠0->A2 h (AO h) (A3 f (Ap h (AO h) f n i).2.2.2)≠2->CE h f n=((Ap h (AO h) f n (i+1)).2.1,(Ap h (AO h) f n (i+1)).2.2.1,0)):=by
 obtain⟨h1,k,l,-⟩:=Lb hf n0 n1 i c;have hl:=h1.len;have e:CE h f n=Lo h (AO h) f ((f.length-i)+1) (Ap h (AO h) f n i).1 (Ap h (AO h) f n i).2.1 (Ap h (AO h) f n i).2.2.2:=by
  unfold CE;rw[Bq j,<-nE _ _ c,show f.length-i+1+i=f.length+1 by omega]
 rw[e];show (_->(if _ then _ else _)=_)/\(_->_->(if _ then _ else _)=_)/\(_->_->_->(if _ then _ else _)=_);refine⟨λq=>Bq q,λb a=>?_,λb a d=>?_⟩
 .have a:A2 h (AO h) (f.getD (Ap h (AO h) f n i).2.2.2.toNat (0,[]))=0:=a;rw[As b,a];rfl
 have hk:=bV h (AO h) (A3 f (Ap h (AO h) f n i).2.2.2);have hs:(Ap h (AO h) f n (i+1)).2.1=(Ap h (AO h) f n i).2.1:=As d;have g:(Ap h (AO h) f n (i+1)).2.2.1=decide (A2 h (AO h) (A3 f (Ap h (AO h) f n i).2.2.2)=1):=rfl;rw[As b,hs,g];show (if A2 h (AO h) (A3 f (Ap h (AO h) f n i).2.2.2)=1 then _ else if A2 h (AO h) (A3 f (Ap h (AO h) f n i).2.2.2)=3 then _ else _)=_;rcases hk with hk|hk|hk|hk
 .exact absurd hk a
 .rw[hk];rfl
 .exact absurd hk d
 rw[hk];rfl
def wE:List (Nat×AV):=[(4,.bp 4 [] 0),(6,.bp 6 [] 0),(7,.bp 7 [] 0),(8,.bp 8 [] 0),(9,.bp 9 [] 0),(11,.bp 11 [] 0),(12,.bp 12 [] 0),(13,.bp 13 [] 0)]
def wO (h:AG) (w:LW) (f:List AC) (L:Go.Loop) (a:Array Value) (s:WS) (m e:Int):List (Nat×Obj):=[(50,.box 3 false [.p T3 m]),(51,BH h w),(52,.box 25 true [.p Fq f]),(101,.loop L),(102,.frame a wE),(6,.box 61 false [.raw (.slice none 0 0)]),(7,.box 4 false [.p .bool false]),(8,.box 35 false [.p Fm e]),(9,BH h w),(4,.box 25 true [.p Fq f]),(11,.box 61 false [.sr 60 T3 0 s.2.1.length]),(60,.arr 3 T3 s.2.1),(12,.box 4 false [.p .bool s.2.2.1]),(13,.box 119 false [.mp 24]),(24,.mapo T3 .bool (Fh s.1))]
def DG (L:Go.Loop):Go.Loop:={ L with state:=.done,pending:=some .ret }
def WRd (h:AG) (w:LW) (f:List AC) (n:Int) (L:Go.Loop) (a:Array Value) (i:Nat) (b:Bool) (O:List (Nat×Obj)):Prop :=
 ((Ap h w f n i).2.2.2∈(Ap h w f n i).1/\b=false/\O=wO h w f (DG L) a (Ap h w f n i) (Ap h w f n i).2.2.2 6) \/
 ((Ap h w f n i).2.2.2∉(Ap h w f n i).1/\A2 h w (A3 f (Ap h w f n i).2.2.2)=0/\b=false/\O=wO h w f (DG L) a (Ap h w f n i) (Ap h w f n i).2.2.2 13) \/
 ((Ap h w f n i).2.2.2∉(Ap h w f n i).1/\A2 h w (A3 f (Ap h w f n i).2.2.2)≠0/\b=true/\O=wO h w f L a (Ap h w f n (i+1)) (Ap h w f n i).2.2.2 0)
theorem A2K (h:AG) (w:LW) (f:List AC) (n:Int) (E:WOk h w) (hf:AN f) (D:CP h f) (n0:0<=n) (n1:n<(f.length:Int)) (L:Go.Loop) (d:Array Value)
  (m:∀i,WGo h w f n i->WJ Tryz.prog 101 [.p T3 (Ap h w f n i).2.2.2] (wO h w f L d (Ap h w f n i) (Ap h w f n i).2.2.2 0) [50,51,52,101,102,6,7,8,9,4,11,12,13,24] (λres k=>∃b,res=.p .bool b/\WRd h w f n L d i b k)) :
  BA Tryz.prog 139 [.yl 101,.bp 50 [] 0,.bp 51 [] 0,.bp 52 [] 0] (wO h w f L d (Ap h w f n 0) n 0) [50,51,52,101,102,6,7,8,9,4,11,12,13,24] (λres k=>res=.raw (.tuple #[])/\∃i b,WGo h w f n i/\WRd h w f n L d i b k/\(b=true->A2 h w (A3 f (Ap h w f n i).2.2.2)≠2)):=by
 refine Ki [0,1,2,3,14] [] [] Tryz.func139 Tryz.ntmps139 (AF Q4 (AF Q3 AH)) ?_;intro w0 K O0 ρ0 a B C;simp only[Aj,wO,BH];have t:=m;clear m;repeat'(first|exact trivial|apply eS rfl|apply AB|refine rX a ?_ ?_|refine rC ?_ ?_<;>intro c<;>try(cases c;done))
 refine AK (ι:={i:Nat//WGo h w f n i}) (λi=>⟨[(0,.yl 101),(1,.bp 50 [] 0),(2,.bp 51 [] 0),(3,.bp 52 [] 0)],wO h w f L d (Ap h w f n i.1) (Ap h w f n i.1).2.2.2 0⟩) (λi=>f.length+1-i.1) ⟨0,λj o=>by omega⟩ (AD [(50,.nm 50),(51,.nm 51),(52,.nm 52),(101,.nm 101),(102,.nm 102),(6,.nm 6),(7,.nm 7),(8,.nm 8),(9,.nm 9),(4,.nm 4),(11,.nm 11),(60,.nm 60),(12,.nm 12),(13,.nm 13),(24,.nm 24)] rfl rfl ?_ ?_) (λi=>?_)
 .simp only[wO,BH,wE,Ap];first|exact eN|refine eM ?_
 .simp only[wO,BH,wE,Ap];first|exact eN|refine eM ?_
 obtain⟨i,hi⟩:=i;obtain⟨q,x,r,y⟩:=Lb hf n0 n1 i hi;have u:=t i hi;have z:=q.len;have A:Ap h w f n (i+1)=M8 h w f (Ap h w f n i):=rfl;simp only[wO,BH,wE];repeat'(first|exact trivial|apply eS rfl|apply AB|refine rX a ?_ ?_|refine rC ?_ ?_<;>intro c<;>try(cases c;done))
 refine cG 2 a ?_ ?_
 .trivial
 refine rY 101 101 a (u) [(50,.nm 50),(51,.nm 51),(52,.nm 52),(101,.nm 101),(102,.nm 102),(6,.nm 6),(7,.nm 7),(8,.nm 8),(9,.nm 9),(4,.nm 4),(11,.nm 11),(60,.nm 60),(12,.nm 12),(13,.nm 13),(24,.nm 24)] [60] ?_ ?_ ?_
 .first|exact eN|refine eM ?_
 .simp only[wO,BH,wE];first|exact eN|refine eM ?_
 rintro _ _ ⟨b,rfl,g⟩;have s:=g;rcases s with ⟨l,rfl,rfl⟩|⟨l,v,rfl,rfl⟩|⟨l,v,rfl,rfl⟩
 .refine⟨[(50,.nm 50),(51,.nm 51),(52,.nm 52),(101,.nm 101),(102,.nm 102),(6,.nm 6),(7,.nm 7),(8,.nm 8),(9,.nm 9),(4,.nm 4),(11,.nm 11),(60,.nm 60),(12,.nm 12),(13,.nm 13),(24,.nm 24)],.p .bool false,wO h w f (DG L) d (Ap h w f n i) (Ap h w f n i).2.2.2 6,rfl,rfl,?_,?_,rfl,rfl,?_⟩
  .simp only[wO,BH,wE];first|exact eN|refine eM ?_
  .first|exact eN|refine eM ?_
  simp only[wO,BH,wE];refine rL a ?_ ?_
  .trivial
  repeat'(first|exact trivial|apply eS rfl|apply AB|refine rX a ?_ ?_|refine rC ?_ ?_<;>intro c<;>try(cases c;done))
  refine Ev.ent (σ':=⟨[],wO h w f (DG L) d (Ap h w f n i) (Ap h w f n i).2.2.2 6⟩) ?_ (AD [(50,.nm 50),(51,.nm 51),(52,.nm 52),(101,.nm 101),(102,.nm 102),(6,.nm 6),(7,.nm 7),(8,.nm 8),(9,.nm 9),(4,.nm 4),(11,.nm 11),(60,.nm 60),(12,.nm 12),(13,.nm 13),(24,.nm 24)] rfl rfl ?_ ?_)
  .exact fM a [] (.raw (.tuple #[])) rfl ⟨rfl,i,false,hi,g,λe=>by cases e⟩
  .simp only[wO,BH,wE];first|exact eN|refine eM ?_
  first|exact eN|refine eM ?_
 .refine⟨[(50,.nm 50),(51,.nm 51),(52,.nm 52),(101,.nm 101),(102,.nm 102),(6,.nm 6),(7,.nm 7),(8,.nm 8),(9,.nm 9),(4,.nm 4),(11,.nm 11),(60,.nm 60),(12,.nm 12),(13,.nm 13),(24,.nm 24)],.p .bool false,wO h w f (DG L) d (Ap h w f n i) (Ap h w f n i).2.2.2 13,rfl,rfl,?_,?_,rfl,rfl,?_⟩
  .simp only[wO,BH,wE];first|exact eN|refine eM ?_
  .first|exact eN|refine eM ?_
  simp only[wO,BH,wE];refine rL a ?_ ?_
  .trivial
  repeat'(first|exact trivial|apply eS rfl|apply AB|refine rX a ?_ ?_|refine rC ?_ ?_<;>intro c<;>try(cases c;done))
  refine Ev.ent (σ':=⟨[],wO h w f (DG L) d (Ap h w f n i) (Ap h w f n i).2.2.2 13⟩) ?_ (AD [(50,.nm 50),(51,.nm 51),(52,.nm 52),(101,.nm 101),(102,.nm 102),(6,.nm 6),(7,.nm 7),(8,.nm 8),(9,.nm 9),(4,.nm 4),(11,.nm 11),(60,.nm 60),(12,.nm 12),(13,.nm 13),(24,.nm 24)] rfl rfl ?_ ?_)
  .exact fM a [] (.raw (.tuple #[])) rfl ⟨rfl,i,false,hi,g,λe=>by cases e⟩
  .simp only[wO,BH,wE];first|exact eN|refine eM ?_
  first|exact eN|refine eM ?_
 refine⟨[(50,.nm 50),(51,.nm 51),(52,.nm 52),(101,.nm 101),(102,.nm 102),(6,.nm 6),(7,.nm 7),(8,.nm 8),(9,.nm 9),(4,.nm 4),(11,.nm 11),(60,.nm 60),(12,.nm 12),(13,.nm 13),(24,.nm 24)],.p .bool true,wO h w f L d (Ap h w f n (i+1)) (Ap h w f n i).2.2.2 0,rfl,rfl,?_,?_,rfl,rfl,?_⟩
 .simp only[wO,BH,wE];first|exact eN|refine eM ?_
 .first|exact eN|refine eM ?_
 simp only[wO,BH,wE];refine rL a ?_ ?_
 .trivial
 repeat'(first|exact trivial|apply eS rfl|apply AB|refine rX a ?_ ?_|refine rC ?_ ?_<;>intro c<;>try(cases c;done))
 .exact⟨hf,r⟩
 .refine⟨⟨i+1,λj o=>(Nat.lt_succ_iff_lt_or_eq.1 o).elim (hi j) λe=>by rw[e];exact⟨c,l⟩⟩,by simp only;omega,AD [(50,.nm 50),(51,.nm 51),(52,.nm 52),(101,.nm 101),(102,.nm 102),(6,.nm 6),(7,.nm 7),(8,.nm 8),(9,.nm 9),(4,.nm 4),(11,.nm 11),(60,.nm 60),(12,.nm 12),(13,.nm 13),(24,.nm 24)] rfl rfl ?_ ?_⟩
  .simp only[wO,BH,wE];first|exact eN|refine eM ?_
   rfl
  first|exact eN|refine eM ?_
 refine Ev.ent (σ':=⟨[],wO h w f L d (Ap h w f n (i+1)) (Ap h w f n i).2.2.2 0⟩) ?_ (AD [(50,.nm 50),(51,.nm 51),(52,.nm 52),(101,.nm 101),(102,.nm 102),(6,.nm 6),(7,.nm 7),(8,.nm 8),(9,.nm 9),(4,.nm 4),(11,.nm 11),(60,.nm 60),(12,.nm 12),(13,.nm 13),(24,.nm 24)] rfl rfl ?_ ?_)
 .exact fM a [] (.raw (.tuple #[])) rfl ⟨rfl,i,true,hi,g,λ_=>c⟩
 .simp only[wO,BH,wE];first|exact eN|refine eM ?_
 first|exact eN|refine eM ?_
end
section
attribute [local go_sem] Jo Pk Wx
theorem A2L (h:AG) (f:List AC) (n:Int) (k:AN f) (G:CP h f) (n0:0<=n) (n1:n<(f.length:Int)):BA Tryz.prog 54 [.p Du h,.p DC f,.p T3 n] [] [] (λres ai=>res=.tup [.p Ft (CE h f n).1,.p .bool (CE h f n).2.1,.p Fm (CE h f n).2.2]):=by
 refine fKR [0,1,2,3,4,6,7,8,9,10,11,12,13,14,15,22,28,29,34,38,41] [50] [] Tryz.func54 Tryz.ntmps54 (AF KN (AF Q4 (AF Q3 AH))) ?_;intro w0 K O0 ρ0 a ad ae;simp only[Aj];have R:(h.1,h.2)=h:=rfl;repeat'(first|exact trivial|apply eS rfl|apply AB|refine rX a ?_ ?_|refine rC ?_ ?_<;>intro c<;>try(cases c;done))
 all_goals simp only[R]at *
 .have l:EE h=false:=by
   cases d:EE h with
   | true=>rw[d]at c;exact absurd rfl c
   | false=>rfl
  have j:CE h f n=([],false,5):=by unfold CE;rw[l,As (by simp)]
  simp only[l,Yg,iN,j];exact R2 a [.cell 6 61,.cell 7 4,.cell 8 35] rfl (.inl rfl) (.tup [.p Ft [],.p .bool false,.p Fm 5]) eT rfl
 have l:EE h=true:=by
  cases d:EE h with
  | false=>rw[d]at c;exact absurd c (by decide)
  | true=>rfl
 simp only[l,ZU,wdF];have C:=JS l;have B:=eY h;have H:WOk h (AO h):=⟨⟨C.2.1,B.1.2.1⟩,C.2.2.1,B.1.2.2.1⟩;have v:=λ(i:Nat) (hi:WGo h (AO h) f n i)=>A61 k l n0 n1 hi;have Q:=λ(i:Nat) (hi:WGo h (AO h) f n i)=>Lb k n0 n1 i hi;generalize aa:AO h=w at *;refine Ev.ent (σ':=⟨[(2,.p T3 n),(4,.bp 4 [] 0),(6,.bp 6 [] 0),(7,.bp 7 [] 0),(8,.bp 8 [] 0),(9,.bp 9 [] 0),(11,.bp 11 [] 0),(12,.bp 12 [] 0),(13,.bp 13 [] 0)],[(6,.box 61 false [.raw (.slice none 0 0)]),(7,.box 4 false [.p .bool false]),(8,.box 35 false [.p Fm 0]),(9,BH h w),(4,.box 25 true [.p Fq f]),(11,.box 61 false [.raw (.slice none 0 0)]),(12,.box 4 false [.p .bool false]),(13,.box 119 false [.mp 24]),(24,.mapo T3 .bool [])]⟩) ?_ (AD [(6,.nm 6),(7,.nm 7),(8,.nm 8),(9,.nm 9),(4,.nm 4),(11,.nm 11),(12,.nm 12),(13,.nm 13),(24,.nm 24)] rfl rfl ?_ ?_)
 .simp only[BH];refine cP 3 a ?_ ?_
  .trivial
  refine rM a (nD h w f n) [] [] ?_ ?_ ?_
  .simp only[wdF];first|exact eN|refine eM ?_
  .first|exact eN|refine eM ?_
  rintro _ _ ⟨rfl,rfl⟩;refine⟨[(50,.nm 5),(52,.nm 4),(51,.nm 3)],.clo 139 [50,51,52],[(50,.box 3 false [.p T3 n]),(52,.box 25 true [.p Fq f]),(51,BH h w)],rfl,rfl,?_,?_,rfl,rfl,Bk ?_⟩
  .simp only[BH];first|exact eN|refine eM ?_
  .first|exact eN|refine eM ?_
  simp only[BH];repeat'(first|exact trivial|apply eS rfl|apply AB|refine rX a ?_ ?_|refine rC ?_ ?_<;>intro c<;>try(cases c;done))
  refine WL a rfl rfl (by simp only[go_sem,Nat.reduceEqDiff,reduceCtorEq,Nat.reduceAdd,Nat.reduceSub,Nat.reduceMul,Nat.reduceLeDiff,Nat.reduceLT,Int.reduceLE,Int.reduceToNat,Int.reduceNeg,↓reduceIte];rfl) 101 103 102 rfl rfl rfl rfl ?_;intro L e r u J M N O V;refine⟨_,wO h w f L e (Ap h w f n 0) n 0,[50,51,52,101,102,6,7,8,9,4,11,12,13,24],_,[(50,.nm 50),(51,.nm 51),(52,.nm 52),(101,.nm 101),(102,.nm 102),(6,.nm 6),(7,.nm 7),(8,.nm 8),(9,.nm 9),(4,.nm 4),(11,.nm 11),(60,.nil),(12,.nm 12),(13,.nm 13),(24,.nm 24)],[60],A2K h w f n H k G n0 n1 L e ?_,rfl,rfl,?_,?_,rfl,?_⟩
  .intro i hi;obtain⟨I,Y,A,Z⟩:=Q i hi;have ab:=I.len;have t:=A0i (Ap h w f n i).1 (Ap h w f n i).2.2.2;have U:lwO (h,w.list,w.cons,w.null,w.dlist,w.first,w.rest,w.head,w.last)=w:=rfl;have D:Fh (Ap h w f n (i+1)).1=Fx T3 .bool (Ap h w f n i).2.2.2 true (Fh (Ap h w f n i).1):=by
    show Fh ((Ap h w f n i).1++[(Ap h w f n i).2.2.2])=_;simp[Fh]
   have E:(Ap h w f n (i+1)).2.2.1=(A2 h w (f.getD (Ap h w f n i).2.2.2.toNat (0,[]))==1):=by
    show decide (A2 h w (A3 f (Ap h w f n i).2.2.2)=1)=_;rw[AFj];simp[A3]
   have hT:=a.T;have hF:=a.F;refine WK (fr:=102) rfl rfl r M N O J V rfl (by kernel_rfl) (by simp) rfl rfl (by kernel_rfl) (by kernel_rfl) hT hF ?_;intro aj W X ak ah a af ag d;simp only[wO,BH,wE,Gf];repeat'(first|exact trivial|apply eS rfl|apply AB|refine rX a ?_ ?_|refine rC ?_ ?_<;>intro c<;>try(cases c;done))
   refine⟨rfl,?_⟩;repeat'(first|exact trivial|apply eS rfl|apply AB|refine rX a ?_ ?_|refine rC ?_ ?_<;>intro c<;>try(cases c;done))
   all_goals try simp only[U]at *
   .exact⟨H,k,G,A⟩
   .rw[t]at c;have S:(Ap h w f n i).2.2.2∈(Ap h w f n i).1:=by simpa[inF] using c
    refine Ev.ent (σ':=⟨[],wO h w f { L with state:=.busy } e (Ap h w f n i) (Ap h w f n i).2.2.2 6⟩) ?_ (AD [(50,.nm 50),(51,.nm 51),(52,.nm 52),(101,.nm 101),(102,.nm 102),(6,.nm 6),(7,.nm 7),(8,.nm 8),(9,.nm 9),(4,.nm 4),(11,.nm 11),(60,.nm 60),(12,.nm 12),(13,.nm 13),(24,.nm 24)] rfl rfl ?_ ?_)
    .refine Hx a (yn:=101) rfl rfl (by simp) d ⟨false,rfl,.inl ⟨S,rfl,?_⟩⟩;simp only[wO,BH,wE,DG,go_sem,Nat.reduceEqDiff,reduceCtorEq,Nat.reduceAdd,Nat.reduceSub,Nat.reduceMul,Nat.reduceLeDiff,Nat.reduceLT,Int.reduceLE,Int.reduceToNat,Int.reduceNeg,↓reduceIte]
    .simp only[wO,BH,wE];first|exact eN|refine eM ?_
    first|exact eN|refine eM ?_
   .have o:(Ap h w f n i).2.2.2∉(Ap h w f n i).1:=by
     have g:(BU T3 .bool (Ap h w f n i).2.2.2 (Fh (Ap h w f n i).1)).getD false=false:=by assumption
     rw[t]at g;intro m;have:=AEW.1 g _ m;simp at this
    refine Ev.ent (σ':=⟨[],wO h w f { L with state:=.busy } e (Ap h w f n i) (Ap h w f n i).2.2.2 13⟩) ?_ (AD [(50,.nm 50),(51,.nm 51),(52,.nm 52),(101,.nm 101),(102,.nm 102),(6,.nm 6),(7,.nm 7),(8,.nm 8),(9,.nm 9),(4,.nm 4),(11,.nm 11),(60,.nm 60),(12,.nm 12),(13,.nm 13),(24,.nm 24)] rfl rfl ?_ ?_)
    .refine Hx a (yn:=101) rfl rfl (by simp) d ⟨false,rfl,.inr (.inl ⟨o,c,rfl,?_⟩)⟩;simp only[wO,BH,wE,DG,go_sem,Nat.reduceEqDiff,reduceCtorEq,Nat.reduceAdd,Nat.reduceSub,Nat.reduceMul,Nat.reduceLeDiff,Nat.reduceLT,Int.reduceLE,Int.reduceToNat,Int.reduceNeg,↓reduceIte]
    .simp only[wO,BH,wE];first|exact eN|refine eM ?_
    first|exact eN|refine eM ?_
   .refine⟨⟨k,A⟩,?_⟩;have:=k.1;simp only[AQ];omega
   .have x:A2 h w (A3 f (Ap h w f n i).2.2.2)≠0:=by assumption
    have o:(Ap h w f n i).2.2.2∉(Ap h w f n i).1:=by
     have g:(BU T3 .bool (Ap h w f n i).2.2.2 (Fh (Ap h w f n i).1)).getD false=false:=by assumption
     rw[t]at g;intro m;have:=AEW.1 g _ m;simp at this
    have y:(Ap h w f n (i+1)).2.1=(Ap h w f n i).2.1++[Ao (f.getD (Ap h w f n i).2.2.2.toNat (0,[])).2 w.first]:=Bq c;refine Ev.ent (σ':=⟨[],wO h w f { L with state:=.busy } e (Ap h w f n (i+1)) (Ap h w f n i).2.2.2 0⟩) ?_ (AD [(50,.nm 50),(51,.nm 51),(52,.nm 52),(101,.nm 101),(102,.nm 102),(6,.nm 6),(7,.nm 7),(8,.nm 8),(9,.nm 9),(4,.nm 4),(11,.nm 11),(60,.nm 60),(12,.nm 12),(13,.nm 13),(24,.nm 24)] rfl rfl ?_ ?_)
    .refine NY a (yn:=101) rfl rfl (by simp) d ⟨true,rfl,.inr (.inr ⟨o,x,rfl,?_⟩)⟩;simp only[wO,BH,wE,go_sem,Nat.reduceEqDiff,reduceCtorEq,Nat.reduceAdd,Nat.reduceSub,Nat.reduceMul,Nat.reduceLeDiff,Nat.reduceLT,Int.reduceLE,Int.reduceToNat,Int.reduceNeg,↓reduceIte,Q6 r u]
    .simp only[wO,BH,wE,D,E,y];first|exact eN|refine eM ?_
    first|exact eN|refine eM ?_
   have x:A2 h w (A3 f (Ap h w f n i).2.2.2)≠0:=by assumption
   have o:(Ap h w f n i).2.2.2∉(Ap h w f n i).1:=by
    have g:(BU T3 .bool (Ap h w f n i).2.2.2 (Fh (Ap h w f n i).1)).getD false=false:=by assumption
    rw[t]at g;intro m;have:=AEW.1 g _ m;simp at this
   have y:(Ap h w f n (i+1)).2.1=(Ap h w f n i).2.1:=As c;refine Ev.ent (σ':=⟨[],wO h w f { L with state:=.busy } e (Ap h w f n (i+1)) (Ap h w f n i).2.2.2 0⟩) ?_ (AD [(50,.nm 50),(51,.nm 51),(52,.nm 52),(101,.nm 101),(102,.nm 102),(6,.nm 6),(7,.nm 7),(8,.nm 8),(9,.nm 9),(4,.nm 4),(11,.nm 11),(60,.nm 60),(12,.nm 12),(13,.nm 13),(24,.nm 24)] rfl rfl ?_ ?_)
   .refine NY a (yn:=101) rfl rfl (by simp) d ⟨true,rfl,.inr (.inr ⟨o,x,rfl,?_⟩)⟩;simp only[wO,BH,wE,go_sem,Nat.reduceEqDiff,reduceCtorEq,Nat.reduceAdd,Nat.reduceSub,Nat.reduceMul,Nat.reduceLeDiff,Nat.reduceLT,Int.reduceLE,Int.reduceToNat,Int.reduceNeg,↓reduceIte,Q6 r u]
   .simp only[wO,BH,wE,D,E,y];first|exact eN|refine eM ?_
   first|exact eN|refine eM ?_
  .simp only[BB,wO,BH,wE,Ap];first|exact eN|refine eM ?_
  .simp only[BB,wO,BH,wE,Ap];first|exact eN|refine eM ?_
   rfl
  rintro _ _ ⟨rfl,i,b,hi,P,d⟩;rcases P with ⟨q,rfl,rfl⟩|⟨q,z,rfl,rfl⟩|⟨q,z,rfl,rfl⟩
  .have j:=(v i hi).1 q;refine⟨[(50,.nm 50),(51,.nm 51),(52,.nm 52),(101,.nm 101),(102,.nm 102),(6,.nm 6),(7,.nm 7),(8,.nm 8),(9,.nm 9),(4,.nm 4),(11,.nm 11),(60,.nm 60),(12,.nm 12),(13,.nm 13),(24,.nm 24)],wO h w f (DG L) e (Ap h w f n i) (Ap h w f n i).2.2.2 6,DG L,rfl,rfl,?_,rfl,rfl,rfl,rfl,?_⟩
   .simp only[wO,BH,wE];first|exact eN|refine eM ?_
   intro b;simp only[DG,EvJ,wO,BH,wE,BB,go_sem,Nat.reduceEqDiff,reduceCtorEq,Nat.reduceAdd,Nat.reduceSub,Nat.reduceMul,Nat.reduceLeDiff,Nat.reduceLT,Int.reduceLE,Int.reduceToNat,Int.reduceNeg,↓reduceIte];replace a:=Hy (dn:=103) (b:=b) a;repeat'(first|exact trivial|apply eS rfl|apply AB|refine rX a ?_ ?_|refine rC ?_ ?_<;>intro c<;>try(cases c;done))
   refine Ev.ent (σ':=⟨[(6,.bp 6 [] 0),(7,.bp 7 [] 0),(8,.bp 8 [] 0)],[(6,.box 61 false [.p Ft []]),(7,.box 4 false [.p .bool false]),(8,.box 35 false [.p Fm 6]),(103,.dfr)]⟩) ?_ (AD [(6,.nm 6),(7,.nm 7),(8,.nm 8),(103,.nm 103)] rfl rfl ?_ ?_)
   .rw[j];exact KD a [.cell 6 61,.cell 7 4,.cell 8 35] rfl (.inl rfl) rfl rfl (.tup [.p Ft [],.p .bool false,.p Fm 6]) eT rfl
   .first|exact eN|refine eM ?_
   first|exact eN|refine eM ?_
  .have j:=(v i hi).2.1 q z;refine⟨[(50,.nm 50),(51,.nm 51),(52,.nm 52),(101,.nm 101),(102,.nm 102),(6,.nm 6),(7,.nm 7),(8,.nm 8),(9,.nm 9),(4,.nm 4),(11,.nm 11),(60,.nm 60),(12,.nm 12),(13,.nm 13),(24,.nm 24)],wO h w f (DG L) e (Ap h w f n i) (Ap h w f n i).2.2.2 13,DG L,rfl,rfl,?_,rfl,rfl,rfl,rfl,?_⟩
   .simp only[wO,BH,wE];first|exact eN|refine eM ?_
   intro b;simp only[DG,EvJ,wO,BH,wE,BB,go_sem,Nat.reduceEqDiff,reduceCtorEq,Nat.reduceAdd,Nat.reduceSub,Nat.reduceMul,Nat.reduceLeDiff,Nat.reduceLT,Int.reduceLE,Int.reduceToNat,Int.reduceNeg,↓reduceIte];replace a:=Hy (dn:=103) (b:=b) a;repeat'(first|exact trivial|apply eS rfl|apply AB|refine rX a ?_ ?_|refine rC ?_ ?_<;>intro c<;>try(cases c;done))
   refine Ev.ent (σ':=⟨[(6,.bp 6 [] 0),(7,.bp 7 [] 0),(8,.bp 8 [] 0)],[(6,.box 61 false [.p Ft []]),(7,.box 4 false [.p .bool false]),(8,.box 35 false [.p Fm 13]),(103,.dfr)]⟩) ?_ (AD [(6,.nm 6),(7,.nm 7),(8,.nm 8),(103,.nm 103)] rfl rfl ?_ ?_)
   .rw[j];exact KD a [.cell 6 61,.cell 7 4,.cell 8 35] rfl (.inl rfl) rfl rfl (.tup [.p Ft [],.p .bool false,.p Fm 13]) eT rfl
   .first|exact eN|refine eM ?_
   first|exact eN|refine eM ?_
  have j:=(v i hi).2.2 q z (d rfl);refine⟨[(50,.nm 50),(51,.nm 51),(52,.nm 52),(101,.nm 101),(102,.nm 102),(6,.nm 6),(7,.nm 7),(8,.nm 8),(9,.nm 9),(4,.nm 4),(11,.nm 11),(60,.nm 60),(12,.nm 12),(13,.nm 13),(24,.nm 24)],wO h w f L e (Ap h w f n (i+1)) (Ap h w f n i).2.2.2 0,L,rfl,rfl,?_,rfl,rfl,rfl,by rw[r];rfl,?_⟩
  .simp only[wO,BH,wE];first|exact eN|refine eM ?_
  intro b;rw[u];generalize Ap h w f n (i+1)=s at *;simp only[EvJ,wO,BH,wE,BB,go_sem,Nat.reduceEqDiff,reduceCtorEq,Nat.reduceAdd,Nat.reduceSub,Nat.reduceMul,Nat.reduceLeDiff,Nat.reduceLT,Int.reduceLE,Int.reduceToNat,Int.reduceNeg,↓reduceIte];replace a:=Hy (dn:=103) (b:=b) a;refine Fl [60] ?_;repeat'(first|exact trivial|apply eS rfl|apply AB|refine rP a ?_ ?_|fail)
  refine CJ drawsAny a 3 [([0],2)] [1] (by kernel_rfl) (LF ?_ ?_)
  .trivial
  refine Nx a [] ?_ ?_
  .trivial
  refine R1 a ?_ ?_ ?_
  .trivial
  .trivial
  repeat'(first|exact trivial|apply eS rfl|apply AB|refine rX a ?_ ?_|refine rC ?_ ?_<;>intro c<;>try(cases c;done))
  refine Ev.ent (σ':=⟨[(6,.bp 6 [] 0),(7,.bp 7 [] 0),(8,.bp 8 [] 0)],[(6,.box 61 false [.p Ft s.2.1]),(7,.box 4 false [.p .bool s.2.2.1]),(8,.box 35 false [.p Fm 0]),(103,.dfr)]⟩) ?_ (AD [(6,.nm 6),(7,.nm 7),(8,.nm 8),(103,.nm 103)] rfl rfl ?_ ?_)
  .rw[j];exact KD a [.cell 6 61,.cell 7 4,.cell 8 35] rfl (.inl rfl) rfl rfl (.tup [.p Ft s.2.1,.p .bool s.2.2.1,.p Fm 0]) eT rfl
  .first|exact eN|refine eM ?_
  first|exact eN|refine eM ?_
 .simp only[BH];first|exact eN|refine eM ?_
 first|exact eN|refine eM ?_
end
section
attribute [local go_sem] Ww Pj fL cs4 cs5
def Iq:AZ:={ ins:=[Du],pre:=λ(h,_)=>Hn h,out:=λ(h,_)=>[.p .bool (EE h)],lend:=true }
attribute [local go_sem] Iq
theorem Pt:Ad Tryz.prog 47 Iq:=by
 refine fK [0,1,2,3,4,5,26,44] Tryz.func47 Tryz.ntmps47 (AF eX (AF qQ (AF A5k AH))) ?_;rintro w0 O0 ⟨⟨a,hf⟩,u⟩ d-hk;have hk:Hn (a,hf):=hk;obtain⟨e1,e2,f,g,h,i,j,k⟩:=Mn (a,hf);obtain⟨⟨p,q,r,s⟩,l,m,n,o⟩:=eY (a,hf);simp only[Iq,AM];repeat'(first|exact trivial|apply eS rfl|apply AB|refine rX d ?_ ?_|refine rC ?_ ?_<;>intro e<;>try(cases e;done))
 all_goals simp only[e1,e2,f,g,h,i,j,k]at *
 .have c:EE (a,hf)=false:=by
   rw[AAv];intro b;unfold EE at b;simp only[An,DO]at b;omega
  exact fI d [.tmp 2] (by rw[c];exact eR)
 .have c:EE (a,hf)=false:=by
   rw[AAv];intro b;unfold EE at b;simp only[An,DO]at b;omega
  exact fI d [.tmp 2] (by rw[c];exact eR)
 .grind
 have c:EE (a,hf)=(A1 (a,hf) (AO (a,hf)).list (AO (a,hf)).cons&&A1 (a,hf) (AO (a,hf)).list (AO (a,hf)).null):=by
  unfold EE;rw[ABT (by omega),AFT]
 exact fI d [.tmp 2] (by rw[c];exact eR)
def sO:AZ:={ ins:=[Du,DC,T3,T9],pre:=λ(_,f,n,_)=>AN f/\(0:Int)<=n/\n<(List.length f:Int),out:=λ(h,f,n,s,_)=>[.p T3 (Ao (List.getD (f:List AC) n.toNat (0,[])).2 (ZE h s))],lend:=true }
attribute [local go_sem] sO
def gC:AZ:={ ins:=[Du,DC,T3],pre:=λ(h,f,n,_)=>(EE h=true/\Hn h)/\AN f/\CP h f/\(0:Int)<=n/\n<(List.length f:Int),out:=λ(h,f,n,_)=>[.p .bool (ZF h (AO h) (List.getD (f:List AC) n.toNat (0,[])))],lend:=true }
attribute [local go_sem] gC
def gE:AZ:={ ins:=[Du,DC,T3],pre:=λ(h,f,n,_)=>(EE h=true/\Hn h)/\AN f/\CP h f/\(0:Int)<=n/\n<(List.length f:Int),out:=λ(h,f,n,_)=>[.p .bool (Oc h (AO h) (List.getD (f:List AC) n.toNat (0,[])))],lend:=true }
attribute [local go_sem] gE
def X0:AZ:={ ins:=[Du,DC,T3],pre:=λ(h,f,n,_)=>(EE h=true/\Hn h)/\AN f/\CP h f/\(0:Int)<=n/\n<(List.length f:Int),out:=λ(h,f,n,_)=>[.p .bool (!ZF h (AO h) (List.getD (f:List AC) n.toNat (0,[]))&&Tc h (AO h) (List.getD (f:List AC) n.toNat (0,[])))],lend:=true }
attribute [local go_sem] X0
def A62:AZ:={ ins:=[Ft,T3],pre:=λ_=>True,out:=λ(l,n,_)=>[.p .bool (inF l n)],lend:=true }
attribute [local go_sem] A62
end
section
attribute [local go_sem] Iq sO gC gE X0 A62 cs4 cs5
end
section
open Go
end
section
attribute [local go_sem] f9 atS Ce
theorem VF.h0 {h:AG} {f:List AC} (vf:VF h f):0<h.1.length:=by
 have hp:=vf.pos;have:=vf.ty _ (AE f (0,[]) (k:=0) (by omega));omega
end
noncomputable def sP (h:AG) (ar:Int) (f:List AC) (A:List (List AC)):List AC×Bool :=
 if (A.length:Int)≠ar then ([],false) else if (Gt h (sM h) 0 f A).2=true then (AAu (Gt h (sM h) 0 f A).1 (nC h),true) else ([],false)
structure RA (h:AG) (ar:Int) (f:List AC) (A:List (List AC)):Prop where
 hh:H14 h
 top:Xo h
 vf:VF h f
 lf:f.length<=12
 ok:ABA h ar f
 va:∀x∈A,VF h x/\x.length<=12
 la:A.length<=3
theorem RA.wt {h:AG} {ar:Int} {f:List AC} {A:List (List AC)} (r:RA h ar f A):Wt h f:=⟨r.vf,A2E r.ok.chk⟩
theorem RA.un {h:AG} {ar:Int} {f:List AC} {A:List (List AC)} (r:RA h ar f A):∀x∈Ip (sM h) 0 A,VF h x/\x.length<=100:=λx hx=>by
 obtain⟨j,a,rfl⟩:=Xx hx;have hp:=A9I h (0+j);have hk:=r.va _ (AE A [] a);have hl:=r.la;exact⟨A5X r.vf.h0 hk.1 (ABz r.ok.lw r.ok.args _) (by omega) (by omega),by rw[LZ];omega⟩
theorem RA.all {h:AG} {ar:Int} {f:List AC} {A:List (List AC)} (r:RA h ar f A):M7 h (f :: Ip (sM h) 0 A) (Gt h (sM h) 0 f A) :=
 Xz r.hh A 0 f [f] (A2J r.wt) (by simp[r.vf]) r.un (by have:=r.lf;have:=r.la;omega)
theorem RA.len {h:AG} {ar:Int} {f:List AC} {A:List (List AC)} (r:RA h ar f A):(Gt h (sM h) 0 f A).1.length<=312:=by
 have:=Xy (h:=h) (pl:=sM h) (l:=A) (i:=0) (f:=f) λx hx=>(r.un x hx).2;have:=r.lf;have:=r.la;omega
theorem RA.res {h:AG} {ar:Int} {f:List AC} {A:List (List AC)} (r:RA h ar f A) (a:(sP h ar f A).2=true):(A.length:Int)=ar/\TU h (f :: Ip (sM h) 0 A) (Gt h (sM h) 0 f A).1/\sP h ar f A=(AAu (Gt h (sM h) 0 f A).1 (nC h),true):=by
 unfold sP at a ⊢;by_cases h1:(A.length:Int)≠ar
 .rw[Bq h1]at a;cases a
 rw[As h1]at a ⊢;by_cases b:(Gt h (sM h) 0 f A).2=true
 .rw[Bq b];exact⟨by omega,r.all.vf b,rfl⟩
 rw[As b]at a;cases a
section
open Go
end
section
attribute [local go_sem] A4U Pj Ce cs4 cs5
end
section
attribute [local go_sem] A4U Pj cs4 cs5
theorem A9K {h:AG} {f:List AC} (vf:VF h f) (p:List Int) (e:(KX f 0 p).2=true):0<=(KX f 0 p).1/\(KX f 0 p).1<(f.length:Int):=by
 have ha:=Xw vf.good vf.str p 0;cases a:B2 f 0 p with
 | none=>rw[a]at ha;rw[ha]at e;cases e
 | some n =>
  rw[a]at ha;rw[ha];exact mT vf.good vf.pos p n a
end
section
attribute [local go_sem] A4U Pj atS cs4 cs5
end
section
attribute [local go_sem] Pj LR aN cs4 cs5
end
section
attribute [local go_sem] Ce aN Jp
def RT:AZ:={ ins:=[Du,DC,T3],pre:=λ(h,f,n,_)=>AN f/\CP h f/\(0:Int)<=n/\n<(List.length f:Int),out:=λ(h,f,n,_)=>[.p Ft (CE h f n).1,.p .bool (CE h f n).2.1,.p Fm (CE h f n).2.2] }
theorem X2:Ad Tryz.prog 54 RT:=by
 refine OT ⟨_,Tryz.func54,by kernel_rfl,by kernel_rfl⟩ (λds hp=>?_) (λds r a=>?_)
 .obtain⟨h,f,n,u⟩:=ds;obtain⟨h1,b,c,d⟩:=hp;refine⟨[.p Du h,.p DC f,.p T3 n],λw O s e=>?_,A2L h f n h1 b c d⟩;obtain⟨v1,m,rfl,g,k,o,rfl,i,l,q,rfl,j,rfl⟩:=e;exact⟨v1,_,rfl,KE g,k,_,rfl,KE i,l,_,rfl,KE j,rfl⟩
 simp only[RT,By,YX,ABN]at a;rcases a with rfl|rfl|rfl
 .exact⟨_,_,rfl⟩
 .exact⟨_,_,rfl⟩
 exact⟨_,_,rfl⟩
def KY (f:List AC) (l:List Int):List (List AC):=l.map λn=>AI f n
theorem A2M (f:List AC) {l:List Int} {k:Nat} (hk:k<l.length):KY f (l.take (k+1))=KY f (l.take k)++[AI f (l.getD k 0)]:=by
 unfold KY;rw[AGe,UZ,AS,AT hk];rfl
theorem A63 (f:List AC) {l:List Int} {k:Nat} (hk:k<=l.length):(KY f (l.take k)).length=k:=by
 unfold KY;rw[OF,OS,AAS hk]
def Sj:AZ:={ ins:=[DC,Ft],pre:=λ(f,l,_)=>AN f/\HS f/\List.length l<=200000/\∀n∈(l:List Int),0<=n/\n<(List.length f:Int),out:=λ(f,l,_)=>[.p MT (KY f l)] }
attribute [local go_sem] Sj
theorem nF:Ad Tryz.prog 96 Sj:=by
 refine fKP [0,1,2,4,5,7,8,9,10,11] [18] [] Tryz.func96 Tryz.ntmps96 (AF ABf AH) ?_;rintro w0 O0 ⟨f,l,u⟩ d-⟨h1,c,hl,e⟩;have h1:AN f:=h1;have c:HS f:=c;simp only[Sj,AM];repeat'(first|exact trivial|apply eS rfl|apply AB|refine rX d ?_ ?_|refine rC ?_ ?_<;>intro a<;>try(cases a;done))
 refine AK (ι:={k:Nat//k<=List.length l}) (λk=>⟨[(2,.bp 2 [] 0),(5,.sr 19 DC 0 k.1),(8,.p Ft l),(9,.p (.int .i64) (List.length l:Int)),(10,.p (.int .i64) (k.1:Int))],[(2,.box 25 true [.p Fq f]),(19,.arr 25 DC (KY f (List.take k.1 l)))]⟩) (λk=>List.length l-k.1) ⟨0,Is _⟩ (AD [(2,.nm 2),(19,.nil)] rfl rfl ?_ ?_) (λk=>?_)
 .first|exact eN|refine eM ?_
  rfl
 .first|exact eN|refine eM ?_
 obtain⟨k,hk⟩:=k;have h:=A63 f hk;have g:k<List.length l->List.getD l k 0∈(l:List Int):=λb=>by
  rw[AS,AT b];exact YZ b
 simp only;repeat'(first|exact trivial|apply eS rfl|apply AB|refine rX d ?_ ?_|refine rC ?_ ?_<;>intro a<;>try(cases a;done))
 .exact a
 .exact⟨⟨h1,c,e _ (g (Do.1 a))⟩,by simp only[AQ];omega⟩
 .omega
 .have b:k<List.length l:=Do.1 a;have hs:=A2M f b;refine⟨⟨k+1,b⟩,by simp only;omega,AD [(2,.nm 2),(19,.nm 19)] rfl rfl ?_ ?_⟩
  .simp only[hs];first|exact eN|refine eM ?_
   rw[At (Nat.le_of_eq h)]
  first|exact eN|refine eM ?_
 have b:k=List.length l:=AAg hk (US.1 a);subst b;refine Fl [19] ?_;exact fI d [.tmp 4] (by first|exact eR|refine Uv ?_;exact At (by unfold KY;rw[OF];exact NO _))
def gF:AZ:={ ins:=[DC,Ft],pre:=λ(f,l,_)=>AN f/\HS f/\List.length l<=200000/\∀n∈(l:List Int),0<=n/\n<(List.length f:Int),out:=λ(f,l,_)=>[.p MT (KY f l)] }
def RU:List (List AC)->List (List AC)->Bool
 | [],[]=>true
 | x :: l,y :: r=>(CV x y==0)&&RU l r
 | _,_=>false
theorem A0M:∀ {l r:List (List AC)},RU l r=true->l.length=r.length
 | [],[],_=>rfl
 | _ :: l,_ :: r,h=>by
  have:=A0M (l:=l) (r:=r) (by unfold RU at h;simp only[An]at h;exact h.2);simp[this]
 | [],_ :: _,h=>by cases h
 | _ :: _,[],h=>by cases h
theorem nG {l r:List (List AC)} {k:Nat} (h1:k<l.length) (a:k<r.length):RU (l.drop k) (r.drop k)=((CV (l.getD k []) (r.getD k [])==0)&&RU (l.drop (k+1)) (r.drop (k+1))):=by
 rw[On h1,On a,AS,AS,AT h1,AT a];rfl
def A2N:AZ:={ ins:=[MT,MT],pre:=λ(l,r,_)=>(∀x∈(l:List (List AC)),DX x)/\∀x∈(r:List (List AC)),DX x,out:=λ(l,r,_)=>[.p .bool (RU l r)],lend:=true }
attribute [local go_sem] A2N
theorem A64:Ad Tryz.prog 43 A2N:=by
 refine fK [0,1,4,5,10,14,26] Tryz.func43 Tryz.ntmps43 (AF Q9 AH) ?_;rintro w0 O0 ⟨l,r,u⟩ c j ⟨h1,h⟩;have i:List.length l<=AQ:=j.1.1;simp only[AQ]at i;simp only[A2N,AM];repeat'(first|exact trivial|apply eS rfl|apply AB|refine rX c ?_ ?_|refine rC ?_ ?_<;>intro b<;>try(cases b;done))
 .have d:RU l r=false:=by
   rw[AAv];exact λq=>b (Yp Int.ofNat (A0M q))
  exact fI c [.tmp 4] (by rw[d];exact eR)
 have hl:List.length l=List.length r:=Int.ofNat_inj.1 (by simpa using b);refine AK (ι:={k:Nat//k<=List.length l/\RU l r=RU (List.drop k l) (List.drop k r)}) (λk=>⟨[(0,.p MT l),(1,.p MT r),(5,.p (.int .i64) (k.1:Int))],[]⟩) (λk=>List.length l-k.1) ⟨0,Is _,rfl⟩ (AD [] rfl rfl ?_ ?_) (λk=>?_)
 .first|exact eN|refine eM ?_
 .first|exact eN|refine eM ?_
 obtain⟨k,hk,e⟩:=k;have g:∀ {x:List (List AC)},k<List.length x->List.getD x k []∈x:=λf=>by
  rw[AS,AT f];exact YZ f
 simp only;repeat'(first|exact trivial|apply eS rfl|apply AB|refine rX c ?_ ?_|refine rC ?_ ?_<;>intro b<;>try(cases b;done))
 .have a:k<List.length l:=Do.1 b;exact⟨b,Do.2 (hl▸a),h1 _ (g a),h _ (g (hl▸a))⟩
 .have a:k<List.length l:=Do.1 (by assumption);have d:RU l r=false:=by
   rw[e,nG a (hl▸a),show (CV (List.getD l k []) (List.getD r k [])==0)=false by simpa using b];rfl
  exact fI c [.tmp 4] (by rw[d];exact eR)
 .omega
 .have a:k<List.length l:=Do.1 (by assumption);refine⟨⟨k+1,a,by rw[e,nG a (hl▸a),b];rfl⟩,by simp only;omega,AD [] rfl rfl ?_ ?_⟩
  .first|exact eN|refine eM ?_
  first|exact eN|refine eM ?_
 have a:k=List.length l:=AAg hk (US.1 b);have d:RU l r=true:=by
  rw[e,a,AAo,hl,AAo];rfl
 exact fI c [.tmp 4] (by rw[d];exact eR)
end
section
attribute [local go_sem] RT Sj gF
theorem bW {h:AG} {w:LW} {f:List AC} (hf:AN f):∀(k:Nat) (a out:List Int) (n:Int),(∀x∈out,0<=x/\x<(f.length:Int))->(∀x∈(Lo h w f k a out n).1,0<=x/\x<(f.length:Int))/\(Lo h w f k a out n).1.length<=out.length+k
 | 0,_,_,_,_=>⟨λx hx=>(by cases hx),Is _⟩
 | k+1,a,out,n,b=>by
  unfold Lo;split
  .exact⟨λx hx=>(by cases hx),Is _⟩
  split
  .exact⟨b,by simp only;omega⟩
  split
  .exact⟨b,by simp only;omega⟩
  split
  .exact⟨λx hx=>(by cases hx),Is _⟩
  rename_i h1 d e g;have hk:A2 h w (f.getD n.toNat (0,[]))=2:=by
   rcases bV h w (f.getD n.toNat (0,[])) with q|q|q|q
   .exact absurd q g
   .exact absurd q d
   .exact q
   exact absurd q e
  have i:0<=Ao (f.getD n.toNat (0,[])).2 w.first/\Ao (f.getD n.toNat (0,[])).2 w.first<(f.length:Int):=by
   have hp:=(Nj hk).1;have j:f.length≠0:=by
    intro q;have:f=[]:=AFF.1 q;subst this;simp[Ao]at hp
   exact⟨hp,LN (by omega) _ λx hx=>(EC hf n.toNat x hx).2⟩
  have c:=bW (h:=h) (w:=w) hf k (a++[n]) (out++[Ao (f.getD n.toNat (0,[])).2 w.first]) (Ao (f.getD n.toNat (0,[])).2 w.rest) (λx hx=>by
   rcases IN.1 hx with q|q
   .exact b x q
   rw[UM.1 q];exact i)
  refine⟨c.1,?_⟩;have:=c.2;rw[BY,IS]at this;omega
theorem sQ {h:AG} {f:List AC} (hf:AN f) (n:Int):(∀x∈(CE h f n).1,0<=x/\x<(f.length:Int))/\(CE h f n).1.length<=200000:=by
 unfold CE;split
 .have:=bW (h:=h) (w:=AO h) hf (f.length+1) [] [] n (λx hx=>by cases hx);have hl:=hf.1;refine⟨this.1,?_⟩;have:=this.2;simp only[Yo]at this;omega
 exact⟨λx hx=>(by cases hx),Is _⟩
def Sk (h:AG) (f:List AC):List (List AC)×Bool×Int:=(KY f (CE h f 0).1,(CE h f 0).2.1,(CE h f 0).2.2)
def RW:AZ:={ ins:=[Du,DC],pre:=λ(h,f,_)=>AN f/\HS f/\CP h f/\0<List.length f,out:=λ(h,f,_)=>[.p MT (Sk h f).1,.p .bool (Sk h f).2.1,.p Fm (Sk h f).2.2] }
attribute [local go_sem] RW
theorem A2O:Ad Tryz.prog 56 RW:=by
 refine fK [0,1,2,3,4,5,6,7,8,9] Tryz.func56 Tryz.ntmps56 (AF X2 (AF nF AH)) ?_;rintro w0 O0 ⟨h,f,u⟩ c-⟨h1,a,b,g⟩;have h1:AN f:=h1;have a:HS f:=a;have b:CP h f:=b;have d:=sQ (h:=h) h1 0;have i:(h.1,h.2)=h:=rfl;simp only[RW,AM];repeat'(first|exact trivial|apply eS rfl|apply AB|refine rX c ?_ ?_|refine rC ?_ ?_<;>intro e<;>try(cases e;done))
 all_goals try simp only[i]at *
 .exact⟨h1,b,Do.2 g⟩
 .exact⟨h1,a,d.2,d.1⟩
 exact fI c [.tmp 4,.tmp 5,.tmp 6] (by unfold Sk;exact eR)
end
section
attribute [local go_sem] Jo Pk Wx
def ZN (h:AG) (w:LW) (f:List AC) (la:Int) (a out:List Int) (m:Int):Option (List Int×Int) :=
 if m=la then some (if A2 h w (A3 f m)=3 then (out,0) else ([],13)) else if m∈a then some ([],6) else if A2 h w (A3 f m)=2 then none else some ([],13)
def Eq (h:AG) (w:LW) (f:List AC) (la:Int):Nat->List Int->List Int->Int->List Int×Int
 | 0,_,_,_=>([],6)
 | k+1,a,out,m=>match ZN h w f la a out m with
  | some r=>r
  | none=>Eq h w f la k (a++[m]) (out++[Ao (A3 f m).2 w.first]) (Ao (A3 f m).2 w.rest)
def Az (h:AG) (f:List AC) (n:Int):List Int×Int :=
 if EE h=true then
  if Ao (A3 f n).2 (AO h).head<0\/Ao (A3 f n).2 (AO h).last<0 then ([],13)
  else Eq h (AO h) f (Ao (A3 f n).2 (AO h).last) (f.length+1) [] [] (Ao (A3 f n).2 (AO h).head)
 else ([],5)
def Oh (h:AG) (w:LW) (f:List AC) (la:Int) (s:WS):Option (List Int×Int):=ZN h w f la s.1 s.2.1 s.2.2.2
def DGo (h:AG) (w:LW) (f:List AC) (la n:Int) (i:Nat):Prop:=∀j,j<i->Oh h w f la (Ap h w f n j)=none
theorem KZ {h:AG} {w:LW} {f:List AC} {la:Int} {a out:List Int} {m:Int} (e:ZN h w f la a out m=none):m≠la/\m∉a/\A2 h w (A3 f m)=2:=by
 unfold ZN at e;split at e
 .cases e
 split at e
 .cases e
 split at e
 .exact⟨by assumption,by assumption,by assumption⟩
 cases e
theorem gG {h:AG} {w:LW} {f:List AC} {la n:Int} {i:Nat} (a:DGo h w f la n i):WGo h w f n i:=λj b=>⟨(KZ (a j b)).2.2,(KZ (a j b)).2.1⟩
theorem bX {h:AG} {w:LW} {f:List AC} {la n:Int} (k:Nat):∀i,DGo h w f la n i->Eq h w f la (k+i) [] [] n=Eq h w f la k (Ap h w f n i).1 (Ap h w f n i).2.1 (Ap h w f n i).2.2.2
 | 0,_=>rfl
 | i+1,b=>by
  have c:=bX (h:=h) (w:=w) (f:=f) (la:=la) (n:=n) (k+1) i (λj d=>b j (by omega));have a:ZN h w f la (Ap h w f n i).1 (Ap h w f n i).2.1 (Ap h w f n i).2.2.2=none:=b i (by omega);rw[show k+(i+1)=k+1+i by omega,c];rw[Eq,a];show _=Eq h w f la k (M8 h w f (Ap h w f n i)).1 (M8 h w f (Ap h w f n i)).2.1 (M8 h w f (Ap h w f n i)).2.2.2;unfold M8;rw[Bq (KZ a).2.2]
theorem bZ {h:AG} {w:LW} {f:List AC} {la n:Int} (hf:AN f) (n0:0<=n) (n1:n<(f.length:Int)) {i:Nat} (a:DGo h w f la n i) {r:List Int×Int} (b:Oh h w f la (Ap h w f n i)=some r):Eq h w f la (f.length+1) [] [] n=r:=by
 obtain⟨h1,c,d,-⟩:=Lb hf n0 n1 i (gG a);have hl:=h1.len;rw[show f.length+1=(f.length-i)+1+i by omega,bX _ _ a,Eq,show ZN h w f la (Ap h w f n i).1 (Ap h w f n i).2.1 (Ap h w f n i).2.2.2=some r from b]
def dE:List (Nat×AV):=[(4,.bp 4 [] 0),(6,.bp 6 [] 0),(7,.bp 7 [] 0),(8,.bp 8 [] 0),(11,.bp 11 [] 0),(12,.bp 12 [] 0),(13,.bp 13 [] 0)]
def dO (h:AG) (w:LW) (f:List AC) (L:Go.Loop) (a:Array Value) (la:Int) (s:WS) (m:Int) (c:AV) (e:Int):List (Nat×Obj):=[(50,.box 3 false [.p T3 m]),(51,BH h w),(52,.box 25 true [.p Fq f]),(101,.loop L),(102,.frame a dE),(6,.box 61 false [c]),(7,.box 35 false [.p Fm e]),(8,BH h w),(4,.box 25 true [.p Fq f]),(11,.box 3 false [.p T3 la]),(12,.box 61 false [.sr 60 T3 0 s.2.1.length]),(60,.arr 3 T3 s.2.1),(13,.box 119 false [.mp 24]),(24,.mapo T3 .bool (Fh s.1))]
def DRd (h:AG) (w:LW) (f:List AC) (la n:Int) (L:Go.Loop) (a:Array Value) (i:Nat) (b:Bool) (O:List (Nat×Obj)):Prop :=
 (Oh h w f la (Ap h w f n i)=some ((Ap h w f n i).2.1,0)/\b=false/\O=dO h w f (DG L) a la (Ap h w f n i) (Ap h w f n i).2.2.2 (.sr 60 T3 0 (Ap h w f n i).2.1.length) 0) \/
 (∃e,Oh h w f la (Ap h w f n i)=some ([],e)/\b=false/\O=dO h w f (DG L) a la (Ap h w f n i) (Ap h w f n i).2.2.2 (.raw (.slice none 0 0)) e) \/
 (Oh h w f la (Ap h w f n i)=none/\b=true/\O=dO h w f L a la (Ap h w f n (i+1)) (Ap h w f n i).2.2.2 (.raw (.slice none 0 0)) 0)
theorem A2P (h:AG) (w:LW) (f:List AC) (la n:Int) (D:WOk h w) (hf:AN f) (C:CP h f) (n0:0<=n) (n1:n<(f.length:Int)) (L:Go.Loop) (d:Array Value)
  (m:∀i,DGo h w f la n i->WJ Tryz.prog 101 [.p T3 (Ap h w f n i).2.2.2] (dO h w f L d la (Ap h w f n i) (Ap h w f n i).2.2.2 (.raw (.slice none 0 0)) 0) [50,51,52,101,102,6,7,8,4,11,12,13,24] (λres l=>∃b,res=.p .bool b/\DRd h w f la n L d i b l)) :
  BA Tryz.prog 139 [.yl 101,.bp 50 [] 0,.bp 51 [] 0,.bp 52 [] 0] (dO h w f L d la (Ap h w f n 0) n (.raw (.slice none 0 0)) 0) [50,51,52,101,102,6,7,8,4,11,12,13,24] (λres l=>res=.raw (.tuple #[])/\∃i,DGo h w f la n i/\DRd h w f la n L d i false l):=by
 refine Ki [0,1,2,3,14] [] [] Tryz.func139 Tryz.ntmps139 (AF Q4 (AF Q3 AH)) ?_;intro w0 K O0 ρ0 a A B;simp only[Aj,dO,BH];have t:=m;clear m;repeat'(first|exact trivial|apply eS rfl|apply AB|refine rX a ?_ ?_|refine rC ?_ ?_<;>intro c<;>try(cases c;done))
 refine AK (ι:={i:Nat//DGo h w f la n i}) (λi=>⟨[(0,.yl 101),(1,.bp 50 [] 0),(2,.bp 51 [] 0),(3,.bp 52 [] 0)],dO h w f L d la (Ap h w f n i.1) (Ap h w f n i.1).2.2.2 (.raw (.slice none 0 0)) 0⟩) (λi=>f.length+1-i.1) ⟨0,λj o=>by omega⟩ (AD [(50,.nm 50),(51,.nm 51),(52,.nm 52),(101,.nm 101),(102,.nm 102),(6,.nm 6),(7,.nm 7),(8,.nm 8),(4,.nm 4),(11,.nm 11),(60,.nm 60),(12,.nm 12),(13,.nm 13),(24,.nm 24)] rfl rfl ?_ ?_) (λi=>?_)
 .simp only[dO,BH,dE,Ap];first|exact eN|refine eM ?_
 .simp only[dO,BH,dE,Ap];first|exact eN|refine eM ?_
 obtain⟨i,hi⟩:=i;obtain⟨q,v,r,x⟩:=Lb hf n0 n1 i (gG hi);have u:=t i hi;have y:=q.len;have z:Ap h w f n (i+1)=M8 h w f (Ap h w f n i):=rfl;simp only[dO,BH,dE];repeat'(first|exact trivial|apply eS rfl|apply AB|refine rX a ?_ ?_|refine rC ?_ ?_<;>intro c<;>try(cases c;done))
 refine cG 2 a ?_ ?_
 .trivial
 refine rY 101 101 a (u) [(50,.nm 50),(51,.nm 51),(52,.nm 52),(101,.nm 101),(102,.nm 102),(6,.nm 6),(7,.nm 7),(8,.nm 8),(4,.nm 4),(11,.nm 11),(60,.nm 60),(12,.nm 12),(13,.nm 13),(24,.nm 24)] [60] ?_ ?_ ?_
 .first|exact eN|refine eM ?_
 .simp only[dO,BH,dE];first|exact eN|refine eM ?_
 rintro _ _ ⟨b,rfl,k⟩;have s:=k;rcases s with ⟨g,rfl,rfl⟩|⟨e,g,rfl,rfl⟩|⟨g,rfl,rfl⟩
 .refine⟨[(50,.nm 50),(51,.nm 51),(52,.nm 52),(101,.nm 101),(102,.nm 102),(6,.nm 6),(7,.nm 7),(8,.nm 8),(4,.nm 4),(11,.nm 11),(60,.nm 60),(12,.nm 12),(13,.nm 13),(24,.nm 24)],.p .bool false,dO h w f (DG L) d la (Ap h w f n i) (Ap h w f n i).2.2.2 (.sr 60 T3 0 (Ap h w f n i).2.1.length) 0,rfl,rfl,?_,?_,rfl,rfl,?_⟩
  .simp only[dO,BH,dE];first|exact eN|refine eM ?_
  .first|exact eN|refine eM ?_
  simp only[dO,BH,dE];refine rL a ?_ ?_
  .trivial
  repeat'(first|exact trivial|apply eS rfl|apply AB|refine rX a ?_ ?_|refine rC ?_ ?_<;>intro c<;>try(cases c;done))
  refine Ev.ent (σ':=⟨[],dO h w f (DG L) d la (Ap h w f n i) (Ap h w f n i).2.2.2 (.sr 60 T3 0 (Ap h w f n i).2.1.length) 0⟩) ?_ (AD [(50,.nm 50),(51,.nm 51),(52,.nm 52),(101,.nm 101),(102,.nm 102),(6,.nm 6),(7,.nm 7),(8,.nm 8),(4,.nm 4),(11,.nm 11),(60,.nm 60),(12,.nm 12),(13,.nm 13),(24,.nm 24)] rfl rfl ?_ ?_)
  .exact fM a [] (.raw (.tuple #[])) rfl ⟨rfl,i,hi,k⟩
  .simp only[dO,BH,dE];first|exact eN|refine eM ?_
  first|exact eN|refine eM ?_
 .refine⟨[(50,.nm 50),(51,.nm 51),(52,.nm 52),(101,.nm 101),(102,.nm 102),(6,.nm 6),(7,.nm 7),(8,.nm 8),(4,.nm 4),(11,.nm 11),(60,.nm 60),(12,.nm 12),(13,.nm 13),(24,.nm 24)],.p .bool false,dO h w f (DG L) d la (Ap h w f n i) (Ap h w f n i).2.2.2 (.raw (.slice none 0 0)) e,rfl,rfl,?_,?_,rfl,rfl,?_⟩
  .simp only[dO,BH,dE];first|exact eN|refine eM ?_
  .first|exact eN|refine eM ?_
  simp only[dO,BH,dE];refine rL a ?_ ?_
  .trivial
  repeat'(first|exact trivial|apply eS rfl|apply AB|refine rX a ?_ ?_|refine rC ?_ ?_<;>intro c<;>try(cases c;done))
  refine Ev.ent (σ':=⟨[],dO h w f (DG L) d la (Ap h w f n i) (Ap h w f n i).2.2.2 (.raw (.slice none 0 0)) e⟩) ?_ (AD [(50,.nm 50),(51,.nm 51),(52,.nm 52),(101,.nm 101),(102,.nm 102),(6,.nm 6),(7,.nm 7),(8,.nm 8),(4,.nm 4),(11,.nm 11),(60,.nm 60),(12,.nm 12),(13,.nm 13),(24,.nm 24)] rfl rfl ?_ ?_)
  .exact fM a [] (.raw (.tuple #[])) rfl ⟨rfl,i,hi,k⟩
  .simp only[dO,BH,dE];first|exact eN|refine eM ?_
  first|exact eN|refine eM ?_
 have hk:=KZ g;refine⟨[(50,.nm 50),(51,.nm 51),(52,.nm 52),(101,.nm 101),(102,.nm 102),(6,.nm 6),(7,.nm 7),(8,.nm 8),(4,.nm 4),(11,.nm 11),(60,.nm 60),(12,.nm 12),(13,.nm 13),(24,.nm 24)],.p .bool true,dO h w f L d la (Ap h w f n (i+1)) (Ap h w f n i).2.2.2 (.raw (.slice none 0 0)) 0,rfl,rfl,?_,?_,rfl,rfl,?_⟩
 .simp only[dO,BH,dE];first|exact eN|refine eM ?_
 .first|exact eN|refine eM ?_
 simp only[dO,BH,dE];refine rL a ?_ ?_
 .trivial
 repeat'(first|exact trivial|apply eS rfl|apply AB|refine rX a ?_ ?_|refine rC ?_ ?_<;>intro c<;>try(cases c;done))
 .exact⟨hf,r⟩
 .refine⟨⟨i+1,λj o=>(Nat.lt_succ_iff_lt_or_eq.1 o).elim (hi j) λe=>by rw[e];exact g⟩,by simp only;omega,AD [(50,.nm 50),(51,.nm 51),(52,.nm 52),(101,.nm 101),(102,.nm 102),(6,.nm 6),(7,.nm 7),(8,.nm 8),(4,.nm 4),(11,.nm 11),(60,.nm 60),(12,.nm 12),(13,.nm 13),(24,.nm 24)] rfl rfl ?_ ?_⟩
  .simp only[dO,BH,dE];first|exact eN|refine eM ?_
   rfl
  first|exact eN|refine eM ?_
 exact absurd hk.2.2 c
end
section
attribute [local go_sem] Jo Pk Wx
theorem sR (h:AG) (f:List AC) (n:Int) (k:AN f) (H:CP h f) (n0:0<=n) (n1:n<(f.length:Int)):BA Tryz.prog 38 [.p Du h,.p DC f,.p T3 n] [] [] (λres al=>res=.tup [.p Ft (Az h f n).1,.p Fm (Az h f n).2]):=by
 refine fKR [0,1,2,3,4,6,7,8,9,10,11,12,13,14,15,22,39,44,45,50,59,63,67] [78] [] Tryz.func38 Tryz.ntmps38 (AF KN (AF Q4 (AF Q3 AH))) ?_;intro w0 K O0 ρ0 c ag ah;simp only[Aj];have S:(h.1,h.2)=h:=rfl;repeat'(first|exact trivial|apply eS rfl|apply AB|refine rX c ?_ ?_|refine rC ?_ ?_<;>intro d<;>try(cases d;done))
 all_goals simp only[S]at *
 .have l:EE h=false:=by
   cases j:EE h with
   | true=>rw[j]at d;exact absurd rfl d
   | false=>rfl
  have s:Az h f n=([],5):=by unfold Az;rw[l,As (by simp)]
  simp only[l,Yg,iN,s];exact R2 c [.cell 6 61,.cell 7 35] rfl (.inl rfl) (.tup [.p Ft [],.p Fm 5]) eT rfl
 .exact⟨k,n0,n1⟩
 .have l:EE h=true:=by
   have q:((if EE h=true then (0:Int) else 5) != 0)=false:=by assumption
   cases j:EE h with
   | false=>rw[j]at q;exact absurd q (by decide)
   | true=>rfl
  simp only[Bq l,wdF]at *;have s:Az h f n=([],13):=by unfold Az;rw[Bq l];exact Bq d
  rw[s];exact R2 c [.cell 6 61,.cell 7 35] rfl (.inl rfl) (.tup [.p Ft [],.p Fm 13]) eT rfl
 have l:EE h=true:=by
  have q:((if EE h=true then (0:Int) else 5) != 0)=false:=by assumption
  cases j:EE h with
  | false=>rw[j]at q;exact absurd q (by decide)
  | true=>rfl
 simp only[Bq l,wdF]at *;have E:=JS l;have D:=eY h;have I:WOk h (AO h):=⟨⟨E.2.1,D.1.2.1⟩,E.2.2.1,D.1.2.2.1⟩;have C:Az h f n=Eq h (AO h) f (Ao (A3 f n).2 (AO h).last) (f.length+1) [] [] (Ao (A3 f n).2 (AO h).head):=by
  unfold Az;rw[Bq l];exact As (λq=>q.elim (λq=>absurd d.1 (AGg.2 q)) λq=>absurd d.2 (AGg.2 q))
 have u:Ao (A3 f n).2 (AO h).head<(f.length:Int):=LN (by omega) _ λx hx=>(EC k n.toNat x hx).2;have t:0<=Ao (A3 f n).2 (AO h).head:=d.1;have G:f.getD n.toNat (0,[])=A3 f n:=rfl;simp only[G]at *;rw[C];generalize ae:AO h=w at *;generalize Ao (A3 f n).2 w.head=a at *;generalize Ao (A3 f n).2 w.last=la at *;clear G C d n0 n1;refine Ev.ent (σ':=⟨[(10,.p T3 a),(4,.bp 4 [] 0),(6,.bp 6 [] 0),(7,.bp 7 [] 0),(8,.bp 8 [] 0),(11,.bp 11 [] 0),(12,.bp 12 [] 0),(13,.bp 13 [] 0)],[(6,.box 61 false [.raw (.slice none 0 0)]),(7,.box 35 false [.p Fm 0]),(8,BH h w),(4,.box 25 true [.p Fq f]),(11,.box 3 false [.p T3 la]),(12,.box 61 false [.raw (.slice none 0 0)]),(13,.box 119 false [.mp 24]),(24,.mapo T3 .bool [])]⟩) ?_ (AD [(6,.nm 6),(7,.nm 7),(8,.nm 8),(4,.nm 4),(11,.nm 11),(12,.nm 12),(13,.nm 13),(24,.nm 40)] rfl rfl ?_ ?_)
 .simp only[BH];refine cP 3 c ?_ ?_
  .trivial
  refine rM c (nD h w f a) [] [] ?_ ?_ ?_
  .simp only[wdF];first|exact eN|refine eM ?_
  .first|exact eN|refine eM ?_
  rintro _ _ ⟨rfl,rfl⟩;refine⟨[(50,.nm 5),(52,.nm 4),(51,.nm 3)],.clo 139 [50,51,52],[(50,.box 3 false [.p T3 a]),(52,.box 25 true [.p Fq f]),(51,BH h w)],rfl,rfl,?_,?_,rfl,rfl,Bk ?_⟩
  .simp only[BH];first|exact eN|refine eM ?_
  .first|exact eN|refine eM ?_
  simp only[BH];repeat'(first|exact trivial|apply eS rfl|apply AB|refine rX c ?_ ?_|refine rC ?_ ?_<;>intro d<;>try(cases d;done))
  refine WL c rfl rfl (by simp only[go_sem,Nat.reduceEqDiff,reduceCtorEq,Nat.reduceAdd,Nat.reduceSub,Nat.reduceMul,Nat.reduceLeDiff,Nat.reduceLT,Int.reduceLE,Int.reduceToNat,Int.reduceNeg,↓reduceIte];rfl) 101 103 102 rfl rfl rfl rfl ?_;intro L o B M N O P Q Y;refine⟨_,dO h w f L o la (Ap h w f a 0) a (.raw (.slice none 0 0)) 0,[50,51,52,101,102,6,7,8,4,11,12,13,24],_,[(50,.nm 50),(51,.nm 51),(52,.nm 52),(101,.nm 101),(102,.nm 102),(6,.nm 6),(7,.nm 7),(8,.nm 8),(4,.nm 4),(11,.nm 11),(60,.nil),(12,.nm 12),(13,.nm 13),(24,.nm 24)],[60],A2P h w f la a I k H t u L o ?_,rfl,rfl,?_,?_,rfl,?_⟩
  .intro i hi;obtain⟨J,ab,A,ad⟩:=Lb k t u i (gG hi);have af:=J.len;have v:=A0i (Ap h w f a i).1 (Ap h w f a i).2.2.2;have V:lwO (h,w.list,w.cons,w.null,w.dlist,w.first,w.rest,w.head,w.last)=w:=rfl;have W:Fh (Ap h w f a (i+1)).1=Fx T3 .bool (Ap h w f a i).2.2.2 true (Fh (Ap h w f a i).1):=by
    show Fh ((Ap h w f a i).1++[(Ap h w f a i).2.2.2])=_;simp[Fh]
   have hT:=c.T;have hF:=c.F;refine WK (fr:=102) rfl rfl B O P Q N Y rfl (by kernel_rfl) (by simp) rfl rfl (by kernel_rfl) (by kernel_rfl) hT hF ?_;intro am Z aa an ak c ai aj j;simp only[dO,BH,dE,Gf];repeat'(first|exact trivial|apply eS rfl|apply AB|refine rX c ?_ ?_|refine rC ?_ ?_<;>intro d<;>try(cases d;done))
   refine⟨rfl,?_⟩;repeat'(first|exact trivial|apply eS rfl|apply AB|refine rX c ?_ ?_|refine rC ?_ ?_<;>intro d<;>try(cases d;done))
   all_goals try simp only[V]at *
   all_goals try simp only[show ∀m:Int,f.getD m.toNat (0,[])=A3 f m from λ_=>rfl]at *
   .exact⟨I,k,H,A⟩
   .have g:Oh h w f la (Ap h w f a i)=some ((Ap h w f a i).2.1,0):=(Bq d.1).trans (by rw[Bq d.2]);refine Ev.ent (σ':=⟨[],dO h w f { L with state:=.busy } o la (Ap h w f a i) (Ap h w f a i).2.2.2 (.sr 60 T3 0 (Ap h w f a i).2.1.length) 0⟩) ?_ (AD [(50,.nm 50),(51,.nm 51),(52,.nm 52),(101,.nm 101),(102,.nm 102),(6,.nm 6),(7,.nm 7),(8,.nm 8),(4,.nm 4),(11,.nm 11),(60,.nm 60),(12,.nm 12),(13,.nm 13),(24,.nm 24)] rfl rfl ?_ ?_)
    .refine Hx c (yn:=101) rfl rfl (by simp) j ⟨false,rfl,.inl ⟨g,rfl,?_⟩⟩;simp only[dO,BH,dE,DG,go_sem,Nat.reduceEqDiff,reduceCtorEq,Nat.reduceAdd,Nat.reduceSub,Nat.reduceMul,Nat.reduceLeDiff,Nat.reduceLT,Int.reduceLE,Int.reduceToNat,Int.reduceNeg,↓reduceIte]
    .simp only[dO,BH,dE];first|exact eN|refine eM ?_
    first|exact eN|refine eM ?_
   .have g:Oh h w f la (Ap h w f a i)=some ([],13):=(Bq (by assumption)).trans (by rw[As (d (by assumption))]);refine Ev.ent (σ':=⟨[],dO h w f { L with state:=.busy } o la (Ap h w f a i) (Ap h w f a i).2.2.2 (.raw (.slice none 0 0)) 13⟩) ?_ (AD [(50,.nm 50),(51,.nm 51),(52,.nm 52),(101,.nm 101),(102,.nm 102),(6,.nm 6),(7,.nm 7),(8,.nm 8),(4,.nm 4),(11,.nm 11),(60,.nm 60),(12,.nm 12),(13,.nm 13),(24,.nm 24)] rfl rfl ?_ ?_)
    .refine Hx c (yn:=101) rfl rfl (by simp) j ⟨false,rfl,.inr (.inl ⟨13,g,rfl,?_⟩)⟩;simp only[dO,BH,dE,DG,go_sem,Nat.reduceEqDiff,reduceCtorEq,Nat.reduceAdd,Nat.reduceSub,Nat.reduceMul,Nat.reduceLeDiff,Nat.reduceLT,Int.reduceLE,Int.reduceToNat,Int.reduceNeg,↓reduceIte]
    .simp only[dO,BH,dE];first|exact eN|refine eM ?_
    first|exact eN|refine eM ?_
   .have U:(Ap h w f a i).2.2.2∈(Ap h w f a i).1:=by
     have r:(BU T3 .bool (Ap h w f a i).2.2.2 (Fh (Ap h w f a i).1)).getD false=true:=by assumption
     rw[v]at r;simpa[inF] using r
    have g:Oh h w f la (Ap h w f a i)=some ([],6):=(As (by assumption)).trans (Bq U);refine Ev.ent (σ':=⟨[],dO h w f { L with state:=.busy } o la (Ap h w f a i) (Ap h w f a i).2.2.2 (.raw (.slice none 0 0)) 6⟩) ?_ (AD [(50,.nm 50),(51,.nm 51),(52,.nm 52),(101,.nm 101),(102,.nm 102),(6,.nm 6),(7,.nm 7),(8,.nm 8),(4,.nm 4),(11,.nm 11),(60,.nm 60),(12,.nm 12),(13,.nm 13),(24,.nm 24)] rfl rfl ?_ ?_)
    .refine Hx c (yn:=101) rfl rfl (by simp) j ⟨false,rfl,.inr (.inl ⟨6,g,rfl,?_⟩)⟩;simp only[dO,BH,dE,DG,go_sem,Nat.reduceEqDiff,reduceCtorEq,Nat.reduceAdd,Nat.reduceSub,Nat.reduceMul,Nat.reduceLeDiff,Nat.reduceLT,Int.reduceLE,Int.reduceToNat,Int.reduceNeg,↓reduceIte]
    .simp only[dO,BH,dE];first|exact eN|refine eM ?_
    first|exact eN|refine eM ?_
   .have z:(Ap h w f a i).2.2.2∉(Ap h w f a i).1:=by
     have r:(BU T3 .bool (Ap h w f a i).2.2.2 (Fh (Ap h w f a i).1)).getD false=false:=by assumption
     rw[v]at r;intro y;have:=AEW.1 r _ y;simp at this
    have g:Oh h w f la (Ap h w f a i)=some ([],13):=(As (by assumption)).trans ((As z).trans (As (by assumption)));refine Ev.ent (σ':=⟨[],dO h w f { L with state:=.busy } o la (Ap h w f a i) (Ap h w f a i).2.2.2 (.raw (.slice none 0 0)) 13⟩) ?_ (AD [(50,.nm 50),(51,.nm 51),(52,.nm 52),(101,.nm 101),(102,.nm 102),(6,.nm 6),(7,.nm 7),(8,.nm 8),(4,.nm 4),(11,.nm 11),(60,.nm 60),(12,.nm 12),(13,.nm 13),(24,.nm 24)] rfl rfl ?_ ?_)
    .refine Hx c (yn:=101) rfl rfl (by simp) j ⟨false,rfl,.inr (.inl ⟨13,g,rfl,?_⟩)⟩;simp only[dO,BH,dE,DG,go_sem,Nat.reduceEqDiff,reduceCtorEq,Nat.reduceAdd,Nat.reduceSub,Nat.reduceMul,Nat.reduceLeDiff,Nat.reduceLT,Int.reduceLE,Int.reduceToNat,Int.reduceNeg,↓reduceIte]
    .simp only[dO,BH,dE];first|exact eN|refine eM ?_
    first|exact eN|refine eM ?_
   .refine⟨⟨k,A⟩,?_⟩;have:=k.1;simp only[AQ];omega
   have z:(Ap h w f a i).2.2.2∉(Ap h w f a i).1:=by
    have r:(BU T3 .bool (Ap h w f a i).2.2.2 (Fh (Ap h w f a i).1)).getD false=false:=by assumption
    rw[v]at r;intro y;have:=AEW.1 r _ y;simp at this
   have hk:A2 h w (A3 f (Ap h w f a i).2.2.2)=2:=by simpa using d
   have g:Oh h w f la (Ap h w f a i)=none:=(As (by assumption)).trans ((As z).trans (Bq hk));have X:(Ap h w f a (i+1)).2.1=(Ap h w f a i).2.1++[Ao (A3 f (Ap h w f a i).2.2.2).2 w.first]:=Bq hk;refine Ev.ent (σ':=⟨[],dO h w f { L with state:=.busy } o la (Ap h w f a (i+1)) (Ap h w f a i).2.2.2 (.raw (.slice none 0 0)) 0⟩) ?_ (AD [(50,.nm 50),(51,.nm 51),(52,.nm 52),(101,.nm 101),(102,.nm 102),(6,.nm 6),(7,.nm 7),(8,.nm 8),(4,.nm 4),(11,.nm 11),(60,.nm 60),(12,.nm 12),(13,.nm 13),(24,.nm 24)] rfl rfl ?_ ?_)
   .refine NY c (yn:=101) rfl rfl (by simp) j ⟨true,rfl,.inr (.inr ⟨g,rfl,?_⟩)⟩;simp only[dO,BH,dE,go_sem,Nat.reduceEqDiff,reduceCtorEq,Nat.reduceAdd,Nat.reduceSub,Nat.reduceMul,Nat.reduceLeDiff,Nat.reduceLT,Int.reduceLE,Int.reduceToNat,Int.reduceNeg,↓reduceIte,Q6 B M]
   .simp only[dO,BH,dE,W,X];first|exact eN|refine eM ?_
   first|exact eN|refine eM ?_
  .simp only[BB,dO,BH,dE,Ap];first|exact eN|refine eM ?_
  .simp only[BB,dO,BH,dE,Ap];first|exact eN|refine eM ?_
   rfl
  rintro _ _ ⟨rfl,i,hi,R⟩;rcases R with ⟨g,-,rfl⟩|⟨e,g,-,rfl⟩|⟨g,q,rfl⟩
  .have s:=bZ k t u hi g;refine⟨[(50,.nm 50),(51,.nm 51),(52,.nm 52),(101,.nm 101),(102,.nm 102),(6,.nm 6),(7,.nm 7),(8,.nm 8),(4,.nm 4),(11,.nm 11),(60,.nm 60),(12,.nm 12),(13,.nm 13),(24,.nm 24)],dO h w f (DG L) o la (Ap h w f a i) (Ap h w f a i).2.2.2 (.sr 60 T3 0 (Ap h w f a i).2.1.length) 0,DG L,rfl,rfl,?_,rfl,rfl,rfl,rfl,?_⟩
   .simp only[dO,BH,dE];first|exact eN|refine eM ?_
   intro b;simp only[DG,EvJ,dO,BH,dE,BB,go_sem,Nat.reduceEqDiff,reduceCtorEq,Nat.reduceAdd,Nat.reduceSub,Nat.reduceMul,Nat.reduceLeDiff,Nat.reduceLT,Int.reduceLE,Int.reduceToNat,Int.reduceNeg,↓reduceIte];replace c:=Hy (dn:=103) (b:=b) c;refine Fl [60] ?_;repeat'(first|exact trivial|apply eS rfl|apply AB|refine rX c ?_ ?_|refine rC ?_ ?_<;>intro d<;>try(cases d;done))
   refine Ev.ent (σ':=⟨[(6,.bp 6 [] 0),(7,.bp 7 [] 0)],[(6,.box 61 false [.p Ft (Ap h w f a i).2.1]),(7,.box 35 false [.p Fm 0]),(103,.dfr)]⟩) ?_ (AD [(6,.nm 6),(7,.nm 7),(103,.nm 103)] rfl rfl ?_ ?_)
   .rw[s];exact KD c [.cell 6 61,.cell 7 35] rfl (.inl rfl) rfl rfl (.tup [.p Ft (Ap h w f a i).2.1,.p Fm 0]) eT rfl
   .first|exact eN|refine eM ?_
   first|exact eN|refine eM ?_
  .have s:=bZ k t u hi g;refine⟨[(50,.nm 50),(51,.nm 51),(52,.nm 52),(101,.nm 101),(102,.nm 102),(6,.nm 6),(7,.nm 7),(8,.nm 8),(4,.nm 4),(11,.nm 11),(60,.nm 60),(12,.nm 12),(13,.nm 13),(24,.nm 24)],dO h w f (DG L) o la (Ap h w f a i) (Ap h w f a i).2.2.2 (.raw (.slice none 0 0)) e,DG L,rfl,rfl,?_,rfl,rfl,rfl,rfl,?_⟩
   .simp only[dO,BH,dE];first|exact eN|refine eM ?_
   intro b;simp only[DG,EvJ,dO,BH,dE,BB,go_sem,Nat.reduceEqDiff,reduceCtorEq,Nat.reduceAdd,Nat.reduceSub,Nat.reduceMul,Nat.reduceLeDiff,Nat.reduceLT,Int.reduceLE,Int.reduceToNat,Int.reduceNeg,↓reduceIte];replace c:=Hy (dn:=103) (b:=b) c;repeat'(first|exact trivial|apply eS rfl|apply AB|refine rX c ?_ ?_|refine rC ?_ ?_<;>intro d<;>try(cases d;done))
   refine Ev.ent (σ':=⟨[(6,.bp 6 [] 0),(7,.bp 7 [] 0)],[(6,.box 61 false [.p Ft []]),(7,.box 35 false [.p Fm e]),(103,.dfr)]⟩) ?_ (AD [(6,.nm 6),(7,.nm 7),(103,.nm 103)] rfl rfl ?_ ?_)
   .rw[s];exact KD c [.cell 6 61,.cell 7 35] rfl (.inl rfl) rfl rfl (.tup [.p Ft [],.p Fm e]) eT rfl
   .first|exact eN|refine eM ?_
   first|exact eN|refine eM ?_
  cases q
 .simp only[BH];first|exact eN|refine eM ?_
 first|exact eN|refine eM ?_
end
section
attribute [local go_sem] Iq sO gC gE X0 A62 Sj gF cs4 cs5
def Ka:AZ:={ ins:=[Du,DC,T3],pre:=λ(h,f,n,_)=>AN f/\CP h f/\(0:Int)<=n/\n<(List.length f:Int),out:=λ(h,f,n,_)=>[.p Ft (Az h f n).1,.p Fm (Az h f n).2] }
attribute [local go_sem] Ka
theorem Ts:Ad Tryz.prog 38 Ka:=by
 refine OT ⟨_,Tryz.func38,by kernel_rfl,by kernel_rfl⟩ (λds hp=>?_) (λds r a=>?_)
 .obtain⟨h,f,n,u⟩:=ds;obtain⟨h1,b,c,d⟩:=hp;refine⟨[.p Du h,.p DC f,.p T3 n],λw O s e=>?_,sR h f n h1 b c d⟩;obtain⟨v1,m,rfl,g,k,o,rfl,i,l,q,rfl,j,rfl⟩:=e;exact⟨v1,_,rfl,KE g,k,_,rfl,KE i,l,_,rfl,KE j,rfl⟩
 simp only[Ka,By,YX,ABN]at a;rcases a with rfl|rfl
 .exact⟨_,_,rfl⟩
 exact⟨_,_,rfl⟩
end
section
attribute [local go_sem] Ka Sj gF
theorem b4 {h:AG} {w:LW} {f:List AC} {la:Int} (hf:AN f):∀(k:Nat) (b out:List Int) (n:Int),(∀x∈out,0<=x/\x<(f.length:Int))->(∀x∈(Eq h w f la k b out n).1,0<=x/\x<(f.length:Int))/\(Eq h w f la k b out n).1.length<=out.length+k/\((Eq h w f la k b out n).2≠0->(Eq h w f la k b out n).1=[])
 | 0,_,_,_,_=>⟨λx hx=>(by cases hx),Is _,λ_=>rfl⟩
 | k+1,b,out,n,g=>by
  have c:∀e:Int,(∀x∈(([],e):List Int×Int).1,0<=x/\x<(f.length:Int))/\(([],e):List Int×Int).1.length<=out.length+(k+1)/\((([],e):List Int×Int).2≠0->(([],e):List Int×Int).1=[]):=λe=>⟨λx hx=>(by cases hx),Is _,λ_=>rfl⟩;rw[Eq];cases a:ZN h w f la b out n with
  | some r =>
   unfold ZN at a;simp only;split at a
   .cases a;split
    .exact⟨g,Nat.le_add_right _ _,λq=>absurd rfl q⟩
    exact c 13
   split at a
   .cases a;exact c 6
   split at a
   .cases a
   cases a;exact c 13
  | none =>
   have hk:=(KZ a).2.2;have i:0<=Ao (A3 f n).2 w.first/\Ao (A3 f n).2 w.first<(f.length:Int):=by
    have hp:=(Nj hk).1;have j:f.length≠0:=by
     intro q;have:f=[]:=AFF.1 q;subst this;simp[Ao,A3]at hp
    exact⟨hp,LN (by omega) _ λx hx=>(EC hf n.toNat x hx).2⟩
   have d:=b4 (h:=h) (w:=w) (la:=la) hf k (b++[n]) (out++[Ao (A3 f n).2 w.first]) (Ao (A3 f n).2 w.rest) (λx hx=>by
    rcases IN.1 hx with q|q
    .exact g x q
    rw[UM.1 q];exact i)
   refine⟨d.1,?_,d.2.2⟩;have:=d.2.1;rw[BY,IS]at this;simp only;omega
theorem nH {h:AG} {f:List AC} (hf:AN f) (n:Int):((∀x∈(Az h f n).1,0<=x/\x<(f.length:Int))/\(Az h f n).1.length<=200000)/\((Az h f n).2≠0->(Az h f n).1=[]):=by
 unfold Az;split
 .split
  .exact⟨⟨λx hx=>(by cases hx),Is _⟩,λ_=>rfl⟩
  have:=b4 (h:=h) (w:=AO h) (la:=Ao (A3 f n).2 (AO h).last) hf (f.length+1) [] [] (Ao (A3 f n).2 (AO h).head) (λx hx=>by cases hx);have hl:=hf.1;refine⟨⟨this.1,?_⟩,this.2.2⟩;have:=this.2.1;simp only[Yo]at this;omega
 exact⟨⟨λx hx=>(by cases hx),Is _⟩,λ_=>rfl⟩
def Nt (h:AG) (f:List AC):List (List AC)×Int:=(KY f (Az h f 0).1,(Az h f 0).2)
def Kb:AZ:={ ins:=[Du,DC],pre:=λ(h,f,_)=>AN f/\HS f/\CP h f/\0<List.length f,out:=λ(h,f,_)=>[.p MT (Nt h f).1,.p Fm (Nt h f).2] }
attribute [local go_sem] Kb
theorem X3:Ad Tryz.prog 40 Kb:=by
 refine fK [0,1,2,3,4,5,6,7] Tryz.func40 Tryz.ntmps40 (AF Ts (AF nF AH)) ?_;rintro w0 O0 ⟨h,f,u⟩ c-⟨h1,a,b,g⟩;have h1:AN f:=h1;have a:HS f:=a;have b:CP h f:=b;have d:=(nH (h:=h) h1 0).1;have i:(h.1,h.2)=h:=rfl;simp only[Kb,AM];repeat'(first|exact trivial|apply eS rfl|apply AB|refine rX c ?_ ?_|refine rC ?_ ?_<;>intro e<;>try(cases e;done))
 all_goals try simp only[i]at *
 .exact⟨h1,b,Do.2 g⟩
 .exact⟨h1,a,d.2,d.1⟩
 exact fI c [.tmp 4,.tmp 5] (by unfold Nt;exact eR)
end
theorem VL (l b:List AC) (g:AN b) (hl:l.length<=200000):BA Tryz.prog 98 [.sr 50 GR 0 l.length,.p Fq b] [(50,.arr 93 GR l)] [] (λres y=>res=.sr 50 GR 0 (l++Jt l.length b b.length).length/\y=[(50,.arr 93 GR (l++Jt l.length b b.length))]):=by
 refine Ki [0,1,4,5,7,8,10,13,14,15,16,23,24,25,26] [38] [] Tryz.func98 Tryz.ntmps98 AH ?_;intro w0 K O0 ρ0 e C D;simp only[Aj];have B:=g.1;repeat'(first|exact trivial|apply eS rfl|apply AB|refine rX e ?_ ?_|refine rC ?_ ?_<;>intro c<;>try(cases c;done))
 refine AK (ι:={i:Nat//i<=b.length}) (λi=>⟨[(0,.sr 50 GR 0 (l++Jt l.length b i.1).length),(5,.p (.int .i64) (l.length:Int)),(13,.p Fq b),(14,.p (.int .i64) (b.length:Int)),(15,.p (.int .i64) (i.1:Int))],[(50,.arr 93 GR (l++Jt l.length b i.1))]⟩) (λi=>b.length-i.1) ⟨0,Is _⟩ (AD [(50,.nm 50)] rfl rfl ?_ ?_) (λi=>?_)
 .have f:l++Jt l.length b 0=l:=by simp[Jt]
  simp only[f];first|exact eN|refine eM ?_
 .have f:l++Jt l.length b 0=l:=by simp[Jt]
  simp only[f];first|exact eN|refine eM ?_
 obtain⟨i,hi⟩:=i;have v:=GM l.length b hi;have o:=λh:i<b.length=>Xu l.length b h;simp only;generalize m:Jt l.length b i=os at *;repeat'(first|exact trivial|apply eS rfl|apply AB|refine rX e ?_ ?_|refine rC ?_ ?_<;>intro c<;>try(cases c;done))
 .exact c
 .have k:i<b.length:=Do.1 c;have n:=EC g i;have w:(b.getD i (0,[])).2.length<=100000:=(g.2 _ (AE b (0,[]) k)).1;generalize hx:b.getD i (0,[])=x at *;obtain⟨z,xs⟩:=x;simp only at n w o ⊢;refine AK (ι:={j:Nat//j<=xs.length}) (λj=>⟨[(0,.sr 50 GR 0 (l++os).length),(5,.p (.int .i64) (l.length:Int)),(13,.p Fq b),(14,.p (.int .i64) (b.length:Int)),(15,.p (.int .i64) (i:Int)),(8,.bp 8 [] 0),(23,.p DF xs),(24,.p (.int .i64) (xs.length:Int)),(25,.p (.int .i64) (j.1:Int))],[(50,.arr 93 GR (l++os)),(8,.box 93 true [.p T3 z,.sr 39 AW 0 (AR l.length (xs.take j.1)).length]),(39,.arr 106 AW (AR l.length (xs.take j.1)))]⟩) (λj=>xs.length-j.1) ⟨0,Is _⟩ (AD [(50,.nm 50),(8,.nm 8),(39,.nil)] rfl rfl ?_ ?_) (λj=>?_)
  .first|exact eN|refine eM ?_
   try exact⟨rfl,rfl⟩
  .first|exact eN|refine eM ?_
  obtain⟨j,A⟩:=j;have r:(AR l.length (xs.take j)).length=j:=by unfold AR;rw[OF,OS];omega
  have s:=λh:j<xs.length=>B4 (λa:Int×Int=>(a.1,a.2+(l.length:Int))) xs (0,0) h;simp only;repeat'(first|exact trivial|apply eS rfl|apply AB|refine rX e ?_ ?_|refine rC ?_ ?_<;>intro c<;>try(cases c;done))
  .exact c
  .have d:j<xs.length:=Do.1 c;have E:=n _ (AE xs (0,0) d);refine⟨⟨by omega,by omega⟩,?_⟩;rw[r];simp only[AQ];omega
  .omega
  .have d:j<xs.length:=Do.1 c;have t:AR l.length (xs.take (j+1))=AR l.length (xs.take j)++[((xs.getD j (0,0)).1,(xs.getD j (0,0)).2+(l.length:Int))]:=s d;refine⟨⟨j+1,d⟩,by simp only;omega,AD [(50,.nm 50),(8,.nm 8),(39,.nm 39)] rfl rfl ?_ ?_⟩
   .simp only[t];first|exact eN|refine eM ?_
   first|exact eN|refine eM ?_
  .simp only[BY,v,AQ];omega
  .omega
  have d:xs.take j=xs:=At (US.1 c);have q:=o k;rw[d];refine⟨⟨i+1,k⟩,by simp only;omega,AD [(50,.nm 50)] rfl rfl ?_ ?_⟩
  .simp only[q,<-UT];first|exact eN|refine eM ?_
  simp only[q,<-UT];first|exact eN|refine eM ?_
 have u:i=b.length:=by
  have:=US.1 c;omega
 subst u;refine Ev.ent (σ':=⟨[(4,.sr 50 GR 0 (l++os).length)],[(50,.arr 93 GR (l++os))]⟩) ?_ (AD [(50,.nm 50)] rfl rfl ?_ ?_)
 .exact fM e [.tmp 4] (.sr 50 GR 0 (l++os).length) eT ⟨by rw[m],by rw[m]⟩
 .first|exact eN|refine eM ?_
 first|exact eN|refine eM ?_
section
def E5:List (List AC)->Int->Bool
 | [],_=>true
 | x :: l,m=>if 4096<m+(1+(x.length:Int)) then false else E5 l (m+(1+(x.length:Int)))
def X4:AZ:={ ins:=[MT,T3],pre:=λ(l,m,_)=>(∀x∈(l:List (List AC)),x.length<=100000)/\0<=m/\m<=4096,out:=λ(l,m,_)=>[.p .bool (E5 l m)],lend:=true }
attribute [local go_sem] X4
theorem X5:Ad Tryz.prog 105 X4:=by
 refine fK [0,1,4,6,7,8,9,10,20] Tryz.func105 Tryz.ntmps105 AH ?_;rintro w0 O0 ⟨l,m,u⟩ d q ⟨h1,h,i⟩;have o:List.length l<=AQ:=q.1.1;simp only[AQ]at o;have h:(0:Int)<=m:=h;have i:(m:Int)<=4096:=i;simp only[X4,AM];repeat'(first|exact trivial|apply eS rfl|apply AB|refine rX d ?_ ?_|refine rC ?_ ?_<;>intro a<;>try(cases a;done))
 refine AK (ι:={k:Nat×Int//k.1<=List.length l/\E5 l m=E5 (List.drop k.1 l) k.2/\0<=k.2/\k.2<=4096}) (λk=>⟨[(1,.p T3 k.1.2),(7,.p MT l),(8,.p (.int .i64) (List.length l:Int)),(9,.p (.int .i64) (k.1.1:Int))],[]⟩) (λk=>List.length l-k.1.1) ⟨(0,m),Is _,rfl,h,i⟩ (AD [] rfl rfl ?_ ?_) (λk=>?_)
 .first|exact eN|refine eM ?_
 .first|exact eN|refine eM ?_
 obtain⟨⟨k,c⟩,hk,f,c0,c1⟩:=k;simp only at hk f c0 c1 ⊢;have j:k<List.length l->List.length (List.getD l k [])<=100000/\E5 (List.drop k l) c=if 4096<c+(1+(List.length (List.getD l k []):Int)) then false else E5 (List.drop (k+1) l) (c+(1+(List.length (List.getD l k []):Int))):=λb=>by
  have e:List.getD l k []=l[k]:=by rw[AS,AT b];rfl
  refine⟨by rw[e];exact h1 _ (YZ b),?_⟩;rw[On b,e];rfl
 repeat'(first|exact trivial|apply eS rfl|apply AB|refine rX d ?_ ?_|refine rC ?_ ?_<;>intro a<;>try(cases a;done))
 .exact a
 .have g:=(j (Do.1 a)).1;omega
 .have g:=(j (Do.1 (by assumption))).2;have n:E5 l m=false:=by rw[f,g,Bq a]
  exact fI d [.tmp 4] (by rw[n];exact eR)
 .omega
 .have b:k<List.length l:=Do.1 (by assumption);have g:=(j b).2;refine⟨⟨(k+1,c+(1+(List.length (List.getD l k []):Int))),b,by rw[f,g,As (AAm.2 a)],by simp only;omega,a⟩,by simp only;omega,AD [] rfl rfl ?_ ?_⟩
  .first|exact eN|refine eM ?_
  first|exact eN|refine eM ?_
 have b:k=List.length l:=AAg hk (US.1 a);have n:E5 l m=true:=by rw[f,b,AAo];rfl
 exact fI d [.tmp 4] (by rw[n];exact eR)
def Ba (c a b:Int) (N x:List AC):List AC:=(N++[(c,[(a,(N.length:Int)+1),(b,(N.length:Int)+1+(x.length:Int))])])++Jt (N.length+1) x x.length
def OB (c a b:Int) (l:List (List AC)):List AC:=l.foldl (Ba c a b) []
theorem A65 (c a b:Int) {l:List (List AC)} {k:Nat} (hk:k<l.length):OB c a b (l.take (k+1))=Ba c a b (OB c a b (l.take k)) (l.getD k []):=by
 unfold OB;rw[AGe,AT hk,AS,AT hk];rw[AAp];rfl
theorem Gu (c a b:Int) (N x:List AC):(Ba c a b N x).length=N.length+1+x.length:=by
 unfold Ba;rw[BY,BY,GM _ _ (NO _)];rfl
def Cf (c a b t:Int) (l:List (List AC)):List AC:=OB c a b l++[(t,[])]
def RY:AZ:={ ins:=[WO,MT,T3],pre:=λ(_,l,_)=>(∀x∈(l:List (List AC)),AN x)/\∀k,(OB 0 0 0 (List.take k l)).length<=100000,out:=λ(W,l,t,_)=>[.p DC (Cf W.2.2.1 W.2.2.2.2.2.1 W.2.2.2.2.2.2.1 t l),.p T3 ((Cf W.2.2.1 W.2.2.2.2.2.1 W.2.2.2.2.2.2.1 t l).length-1:Int)] }
attribute [local go_sem] RY
theorem VM (c a b:Int) (l:List (List AC)):(OB c a b l).length=(OB 0 0 0 l).length:=by
 have key:∀(l:List (List AC)) (N M:List AC),N.length=M.length->(l.foldl (Ba c a b) N).length=(l.foldl (Ba 0 0 0) M).length:=by
  intro l;induction l with
  | nil=>exact λ_ _ h=>h
  | cons x l d=>exact λN M h=>d _ _ (by rw[Gu,Gu,h])
 exact key l [] [] rfl
theorem Sl:Ad Tryz.prog 106 RY:=by
 refine fKP [0,1,2,3,6,7,8,10,11,12,13,14,15] [39,41,55] [] Tryz.func106 Tryz.ntmps106 AH ?_;rintro w0 O0 ⟨⟨h,w,c,y,z,d,e,A,B⟩,l,t,u⟩ a r ⟨h1,j⟩;have q:List.length l<=AQ:=r.2.1.1;simp only[AQ]at q;simp only[RY,AM];repeat'(first|exact trivial|apply eS rfl|apply AB|refine rX a ?_ ?_|refine rC ?_ ?_<;>intro b<;>try(cases b;done))
 refine AK (ι:={k:Nat//k<=List.length l}) (λk=>⟨[(2,.p T3 t),(3,.bp 3 [] 0),(6,.bp 6 [] 0),(8,.bp 8 [] 0),(12,.p MT l),(13,.p (.int .i64) (List.length l:Int)),(14,.p (.int .i64) (k.1:Int))],[(3,.box 115 true [.p Du h,.p T3 w,.p T3 c,.p T3 y,.p T3 z,.p T3 d,.p T3 e,.p T3 A,.p T3 B]),(6,.box 25 true [.raw (.slice none 0 0)]),(8,.box 25 true [.sr 42 GR 0 (OB c d e (List.take k.1 l)).length]),(42,.arr 93 GR (OB c d e (List.take k.1 l)))]⟩) (λk=>List.length l-k.1) ⟨0,Is _⟩ (AD [(3,.nm 3),(6,.nm 6),(8,.nm 8),(42,.nil)] rfl rfl ?_ ?_) (λk=>?_)
 .first|exact eN|refine eM ?_
  exact⟨rfl,rfl⟩
 .first|exact eN|refine eM ?_
 obtain⟨k,hk⟩:=k;have v:=λh=>A65 c d e (l:=l) (k:=k) h;have i:k<List.length l->AN (List.getD l k []):=λf=>by
  rw[AS,AT f];exact h1 _ (YZ f)
 have n:=j k;rw[<-VM c d e]at n;simp only;generalize m:OB c d e (List.take k l)=N at *;repeat'(first|exact trivial|apply eS rfl|apply AB|refine rP a ?_ ?_|refine rC ?_ ?_<;>intro b<;>try(cases b;done))
 .exact b
 .have f:=i (Do.1 b);have:=f.1;simp only[AQ];omega
 .have f:k<List.length l:=Do.1 b;have o:=i f;have hs:=v f;generalize hx:List.getD l k []=x at *;have C:=GM (N.length+1) x (NO _);have g:=VL (N++[(c,[(d,(N.length:Int)+1),(e,(N.length:Int)+1+(x.length:Int))])]) x o (by rw[BY,IS];omega);rw[show (N++[(c,[(d,(N.length:Int)+1),(e,(N.length:Int)+1+(x.length:Int))])]).length=N.length+1 by rw[BY,IS]]at g;refine cP 4 a ?_ ?_
  .trivial
  refine rM a (g) [(50,.nm 42)] [42] ?_ ?_ ?_
  .exact eN
  .exact eN
  rintro _ _ ⟨rfl,rfl⟩;refine⟨[(42,.nm 50)],.sr 42 GR 0 (OB c d e (List.take (k+1) l)).length,[(42,.arr 93 GR (OB c d e (List.take (k+1) l)))],rfl,rfl,?_,?_,rfl,rfl,?_⟩
  .rw[hs];unfold Ba;exact eN
  .rw[hs];unfold Ba;exact eN
  refine rL a ?_ ?_
  .trivial
  repeat'(first|exact trivial|apply eS rfl|apply AB|refine rX a ?_ ?_|refine rC ?_ ?_<;>intro b<;>try(cases b;done))
  .omega
  refine⟨⟨k+1,f⟩,by simp only;omega,AD [(3,.nm 3),(6,.nm 6),(8,.nm 8),(42,.nm 42)] rfl rfl ?_ ?_⟩
  .first|exact eN|refine eM ?_
  first|exact eN|refine eM ?_
 .simp only[AQ];omega
 have f:k=List.length l:=AAg hk (US.1 b);have s:Cf c d e t l=N++[(t,[])]:=by
  unfold Cf;rw[<-m,f,UO]
 refine Fl [42] ?_;repeat'(first|exact trivial|apply eS rfl|apply AB|refine rP a ?_ ?_|fail)
 refine CJ drawsAny a 6 [([0],5)] [1,2,3,4] (by kernel_rfl) (LF ?_ ?_)
 .omega
 refine Nx a [] ?_ ?_
 .trivial
 refine R1 a ?_ ?_ ?_
 .omega
 .trivial
 repeat'(first|exact trivial|apply eS rfl|apply AB|refine rX a ?_ ?_|refine rC ?_ ?_<;>intro b<;>try(cases b;done))
 exact fI a [.cell 6 25,.tmp 7] (by
  rw[s,show (((N++[(t,[])]:List AC).length:Int)-1)=(N.length:Int)+1-1 by rw[BY];rfl];first|exact eR|refine Uv ?_)
end
section
attribute [local go_sem] Jo X4 RY LS
def ABB:AZ:={ ins:=[WO],pre:=λ_=>True,out:=λ(W,_)=>[.p T3 W.2.2.2.1],lend:=true }
attribute [local go_sem] ABB
theorem ABC:Ad Tryz.prog 109 ABB:=by
 refine fK [0,1,2] Tryz.func109 Tryz.ntmps109 AH ?_;rintro w0 O0 ⟨⟨h,f,c,g,i,d,e,j,k⟩,u⟩ a - -;simp only[ABB,AM];repeat'(first|exact trivial|apply eS rfl|apply AB|refine rX a ?_ ?_|refine rC ?_ ?_<;>intro b<;>try(cases b;done))
 exact fI a [.tmp 2]
def ABD:AZ:={ ins:=[WO],pre:=λ_=>True,out:=λ(W,_)=>[.p T3 W.2.1],lend:=true }
attribute [local go_sem] ABD
theorem ABE:Ad Tryz.prog 112 ABD:=by
 refine fK [0,1,2] Tryz.func112 Tryz.ntmps112 AH ?_;rintro w0 O0 ⟨⟨h,f,c,g,i,d,e,j,k⟩,u⟩ a - -;simp only[ABD,AM];repeat'(first|exact trivial|apply eS rfl|apply AB|refine rX a ?_ ?_|refine rC ?_ ?_<;>intro b<;>try(cases b;done))
 exact fI a [.tmp 2]
theorem nI:∀ {l:List (List AC)} {m:Int} {N:List AC},E5 l m=true->m<=4096->(N.length:Int)+1<=m->∀k,((((l.take k).foldl (Ba 0 0 0) N).length:Nat):Int)+1<=4096
 | [],m,N,_,h1,a,k=>by
  rw[List.take_nil];exact AAc a h1
 | x :: l,m,N,h,h1,a,0=>AAc a h1
 | x :: l,m,N,h,h1,a,k+1=>by
  unfold E5 at h;split at h
  .cases h
  rename_i b;exact nI (l:=l) h (by omega) (by rw[Gu];omega) k
theorem VN {l:List (List AC)} {m:Int} (h:E5 l m=true) (h1:1<=m) (a:m<=4096) (k:Nat):(OB 0 0 0 (l.take k)).length<=4095:=by
 have:=nI (N:=[]) h a h1 k;unfold OB;omega
theorem A66 {b:Nat} {x:List AC} (h:DY x) (n:Nat):DY (Jt b x n):=by
 intro y a;obtain⟨z,c,rfl⟩:=IF.1 a;show (AR b z.2).length<=200;unfold AR;rw[OF];exact h z (Yb c)
theorem A67 (c b d:Int):∀(l:List (List AC)) (N:List AC),(∀x∈l,DY x)->DY N->DY (l.foldl (Ba c b d) N)
 | [],_,_,h=>h
 | x :: l,N,hl,h=>by
  refine A67 c b d l _ (λy a=>hl y (GO _ a)) ?_;intro y a;unfold Ba at a;rcases IN.1 a with q|q
  .rcases IN.1 q with q|q
   .exact h y q
   rw[UM.1 q];show 2<=200;omega
  exact A66 (hl x (by simp)) _ y q
theorem Kd (c a d t:Int) {l:List (List AC)} (hl:∀x∈l,DY x):DY (Cf c a d t l):=by
 intro y b;unfold Cf at b;rcases IN.1 b with q|q
 .exact A67 c a d l [] hl (λz e=>by cases e) y q
 rw[UM.1 q];show 0<=200;omega
def Bp (h:AG) (t:Int) (l:List (List AC)):List AC×Int :=
 if EE h=true then if E5 l 1=true then Ax (Cf (AO h).cons (AO h).first (AO h).rest t l) else ([],7) else ([],5)
theorem ABF (h:AG) (l:List (List AC)) (hl:∀x∈l,AN x/\DY x):BA Tryz.prog 108 [.p Du h,.p MT l,.fn 109] [] [] (λres o=>res=.tup [.p DC (Bp h (AO h).null l).1,.p Fm (Bp h (AO h).null l).2]):=by
 refine Ki [0,1,2,3,6,7,8,9,10,18,23] [] [] Tryz.func108 Tryz.ntmps108 (AF KN (AF X5 (AF ABC (AF Sl (AF ST AH))))) ?_;intro w0 K O0 ρ0 a m n;simp only[Aj];have i:(h.1,h.2)=h:=rfl;repeat'(first|exact trivial|apply eS rfl|apply AB|refine rP a ?_ ?_|refine rA a ?_ ?_|refine rC ?_ ?_<;>intro f<;>try(cases f;done))
 all_goals try simp only[i]at *
 .have b:EE h=false:=by
   cases c:EE h with
   | true=>rw[c]at f;exact absurd rfl f
   | false=>rfl
  have d:Bp h (AO h).null l=([],5):=by unfold Bp;rw[b,As (by simp)]
  simp only[b,Yg,iN,d];exact fM a [.cell 6 25,.tmp 7] (.tup [.p DC [],.p Fm 5]) eT rfl
 .exact λx hx=>(hl x hx).1.1
 .have b:EE h=true:=by
   have q:((if EE h=true then (0:Int) else 5) != 0)=false:=by assumption
   cases c:EE h with
   | false=>rw[c]at q;exact absurd q (by decide)
   | true=>rfl
  have e:E5 l 1=false:=by assumption
  have d:Bp h (AO h).null l=([],7):=by unfold Bp;rw[Bq b,e];rfl
  rw[d];exact fM a [.cell 6 25,.tmp 7] (.tup [.p DC [],.p Fm 7]) eT rfl
 have b:EE h=true:=by
  have q:((if EE h=true then (0:Int) else 5) != 0)=false:=by assumption
  cases c:EE h with
  | false=>rw[c]at q;exact absurd q (by decide)
  | true=>rfl
 have e:E5 l 1=true:=by assumption
 simp only[Bq b,wdF]at *;have d:Bp h (AO h).null l=Ax (Cf (AO h).cons (AO h).first (AO h).rest (AO h).null l):=by unfold Bp;rw[Bq b,Bq e]
 have j:=Kd (AO h).cons (AO h).first (AO h).rest (AO h).null (λx hx=>(hl x hx).2);have g:(∀x∈l,AN x)/\∀k:Nat,(OB 0 0 0 (List.take k l)).length<=100000:=⟨λx hx=>(hl x hx).1,λk=>UR (VN e (by decide) (by decide) k) (by decide)⟩;repeat'(first|exact trivial|apply eS rfl|apply AB|refine rP a ?_ ?_|fail)
 refine CJ drawsAny a 11 [([0,1,2,3,4,5,6,7,9],10)] [8] (by kernel_rfl) (LF ?_ ?_)
 .exact g
 refine Nx a [] ?_ ?_
 .trivial
 refine R1 a ?_ ?_ ?_
 .trivial
 .trivial
 repeat'(first|exact trivial|apply eS rfl|apply AB|refine rP a ?_ ?_|refine rA a ?_ ?_)
 .exact j
 rw[d];exact fM a [.cell 6 25,.tmp 7] (.tup [.p DC (Ax (Cf (AO h).cons (AO h).first (AO h).rest (AO h).null l)).1,.p Fm (Ax (Cf (AO h).cons (AO h).first (AO h).rest (AO h).null l)).2]) eT rfl
theorem ABG (h:AG) (l:List (List AC)) (hl:∀x∈l,AN x/\DY x):BA Tryz.prog 108 [.p Du h,.p MT l,.fn 112] [] [] (λres o=>res=.tup [.p DC (Bp h (AO h).list l).1,.p Fm (Bp h (AO h).list l).2]):=by
 refine Ki [0,1,2,3,6,7,8,9,10,18,23] [] [] Tryz.func108 Tryz.ntmps108 (AF KN (AF X5 (AF ABE (AF Sl (AF ST AH))))) ?_;intro w0 K O0 ρ0 a m n;simp only[Aj];have i:(h.1,h.2)=h:=rfl;repeat'(first|exact trivial|apply eS rfl|apply AB|refine rP a ?_ ?_|refine rA a ?_ ?_|refine rC ?_ ?_<;>intro f<;>try(cases f;done))
 all_goals try simp only[i]at *
 .have b:EE h=false:=by
   cases c:EE h with
   | true=>rw[c]at f;exact absurd rfl f
   | false=>rfl
  have d:Bp h (AO h).list l=([],5):=by unfold Bp;rw[b,As (by simp)]
  simp only[b,Yg,iN,d];exact fM a [.cell 6 25,.tmp 7] (.tup [.p DC [],.p Fm 5]) eT rfl
 .exact λx hx=>(hl x hx).1.1
 .have b:EE h=true:=by
   have q:((if EE h=true then (0:Int) else 5) != 0)=false:=by assumption
   cases c:EE h with
   | false=>rw[c]at q;exact absurd q (by decide)
   | true=>rfl
  have e:E5 l 1=false:=by assumption
  have d:Bp h (AO h).list l=([],7):=by unfold Bp;rw[Bq b,e];rfl
  rw[d];exact fM a [.cell 6 25,.tmp 7] (.tup [.p DC [],.p Fm 7]) eT rfl
 have b:EE h=true:=by
  have q:((if EE h=true then (0:Int) else 5) != 0)=false:=by assumption
  cases c:EE h with
  | false=>rw[c]at q;exact absurd q (by decide)
  | true=>rfl
 have e:E5 l 1=true:=by assumption
 simp only[Bq b,wdF]at *;have d:Bp h (AO h).list l=Ax (Cf (AO h).cons (AO h).first (AO h).rest (AO h).list l):=by unfold Bp;rw[Bq b,Bq e]
 have j:=Kd (AO h).cons (AO h).first (AO h).rest (AO h).list (λx hx=>(hl x hx).2);have g:(∀x∈l,AN x)/\∀k:Nat,(OB 0 0 0 (List.take k l)).length<=100000:=⟨λx hx=>(hl x hx).1,λk=>UR (VN e (by decide) (by decide) k) (by decide)⟩;repeat'(first|exact trivial|apply eS rfl|apply AB|refine rP a ?_ ?_|fail)
 refine CJ drawsAny a 11 [([0,1,2,3,4,5,6,7,9],10)] [8] (by kernel_rfl) (LF ?_ ?_)
 .exact g
 refine Nx a [] ?_ ?_
 .trivial
 refine R1 a ?_ ?_ ?_
 .trivial
 .trivial
 repeat'(first|exact trivial|apply eS rfl|apply AB|refine rP a ?_ ?_|refine rA a ?_ ?_)
 .exact j
 rw[d];exact fM a [.cell 6 25,.tmp 7] (.tup [.p DC (Ax (Cf (AO h).cons (AO h).first (AO h).rest (AO h).list l)).1,.p Fm (Ax (Cf (AO h).cons (AO h).first (AO h).rest (AO h).list l)).2]) eT rfl
def Sm:AZ:={ ins:=[Du,MT],pre:=λ(_,l,_)=>∀x∈(l:List (List AC)),AN x/\DY x,out:=λ(h,l,_)=>[.p DC (Bp h (AO h).null l).1,.p Fm (Bp h (AO h).null l).2] }
attribute [local go_sem] Sm
theorem X6:Ad Tryz.prog 49 Sm:=by
 refine fK [0,1,2,4,5] Tryz.func49 Tryz.ntmps49 AH ?_;rintro w0 O0 ⟨h,l,u⟩ a-hl;have hl:∀x∈(l:List (List AC)),AN x/\DY x:=hl;have e:(h.1,h.2)=h:=rfl;have hn:=ABF h l hl;simp only[Sm,AM];generalize f:Bp h (AO h).null l=r at *;obtain⟨c,d⟩:=r;repeat'(first|exact trivial|apply eS rfl|apply AB|refine rP a ?_ ?_|fail)
 refine cP 2 a ?_ ?_
 .trivial
 refine rM a (hn) [] [] ?_ ?_ ?_
 .first|exact eN|refine eM ?_
 .first|exact eN|refine eM ?_
 rintro _ g rfl;refine⟨[],.tup [.p DC c,.p Fm d],[],rfl,rfl,?_,?_,rfl,rfl,?_⟩
 .first|exact eN|refine eM ?_
 .first|exact eN|refine eM ?_
 refine rL a ?_ ?_
 .trivial
 repeat'(first|exact trivial|apply eS rfl|apply AB|refine rX a ?_ ?_|refine rC ?_ ?_<;>intro b<;>try(cases b;done))
 exact fI a [.cell 4 25,.tmp 5]
def nJ:AZ:={ ins:=[Du,MT],pre:=λ(_,l,_)=>∀x∈(l:List (List AC)),AN x/\DY x,out:=λ(h,l,_)=>[.p DC (Bp h (AO h).list l).1,.p Fm (Bp h (AO h).list l).2] }
attribute [local go_sem] nJ
theorem A0N:Ad Tryz.prog 51 nJ:=by
 refine fK [0,1,2,4,5] Tryz.func51 Tryz.ntmps51 AH ?_;rintro w0 O0 ⟨h,l,u⟩ a-hl;have hl:∀x∈(l:List (List AC)),AN x/\DY x:=hl;have e:(h.1,h.2)=h:=rfl;have hn:=ABG h l hl;simp only[nJ,AM];generalize f:Bp h (AO h).list l=r at *;obtain⟨c,d⟩:=r;repeat'(first|exact trivial|apply eS rfl|apply AB|refine rP a ?_ ?_|fail)
 refine cP 2 a ?_ ?_
 .trivial
 refine rM a (hn) [] [] ?_ ?_ ?_
 .first|exact eN|refine eM ?_
 .first|exact eN|refine eM ?_
 rintro _ g rfl;refine⟨[],.tup [.p DC c,.p Fm d],[],rfl,rfl,?_,?_,rfl,rfl,?_⟩
 .first|exact eN|refine eM ?_
 .first|exact eN|refine eM ?_
 refine rL a ?_ ?_
 .trivial
 repeat'(first|exact trivial|apply eS rfl|apply AB|refine rX a ?_ ?_|refine rC ?_ ?_<;>intro b<;>try(cases b;done))
 exact fI a [.cell 4 25,.tmp 5]
end
section
attribute [local go_sem] Jo X4 RY LS
def ER (d a la:Int) (f:List AC):List AC:=[(d,[(a,1),(la,1+((f.length:Int)-1))])]++Jt 1 f f.length
theorem nK (d b la:Int) {f:List AC} (h:DY f):DY (ER d b la f):=by
 intro y a;unfold ER at a;rcases IN.1 a with q|q
 .rw[UM.1 q];show 2<=200;omega
 exact A66 h _ y q
def Er (h:AG) (l:List (List AC)):List AC×Int :=
 if EE h=true then if E5 l 2=true then Ax (ER (AO h).dlist (AO h).head (AO h).last (Cf (AO h).cons (AO h).first (AO h).rest (AO h).list l)) else ([],7) else ([],5)
theorem Lc (c a b t:Int) (l:List (List AC)):(Cf c a b t l).length=(OB 0 0 0 l).length+1:=by
 unfold Cf;rw[BY,VM];rfl
theorem A68 {b m:Nat} {x:List AC} (h:AN x) (g:b+x.length<=m):∀y∈Jt b x x.length,y.2.length<=100000/\∀a∈y.2,0<=a.2/\a.2<(m:Int):=by
 intro y d;rw[E3]at d;obtain⟨z,f,rfl⟩:=IF.1 d;have c:=h.2 z f;refine⟨by show (AR b z.2).length<=_;unfold AR;rw[OF];exact c.1,λa ha=>?_⟩;obtain⟨w,e,rfl⟩:=DA.1 ha;have:=c.2 w e;simp only;omega
theorem nL (c b d:Int) {M:Nat}:∀(l:List (List AC)) (N:List AC),(∀x∈l,AN x)->(l.foldl (Ba c b d) N).length+1<=M->(∀y∈N,y.2.length<=100000/\∀a∈y.2,0<=a.2/\a.2<(M:Int))->∀y∈l.foldl (Ba c b d) N,y.2.length<=100000/\∀a∈y.2,0<=a.2/\a.2<(M:Int)
 | [],_,_,_,h=>h
 | x :: l,N,hl,f,h=>by
  have g:∀(l:List (List AC)) (N:List AC),N.length<=(l.foldl (Ba c b d) N).length:=by
   intro l;induction l with
   | nil=>exact λ_=>NO _
   | cons y l i=>exact λN=>UR (by rw[Gu];omega) (i _)
  have h1:=g l (Ba c b d N x);rw[Gu]at h1;have j:(l.foldl (Ba c b d) (Ba c b d N x)).length+1<=M:=f;refine nL c b d l _ (λy e=>hl y (GO _ e)) f ?_;intro y e;unfold Ba at e;rcases IN.1 e with q|q
  .rcases IN.1 q with q|q
   .exact h y q
   rw[UM.1 q];refine⟨by show 2<=_;omega,λa ha=>?_⟩;have ha:a∈[(b,(N.length:Int)+1),(d,(N.length:Int)+1+(x.length:Int))]:=ha;simp only[By,YX,ABN]at ha;rcases ha with rfl|rfl
   .simp only;omega
   simp only;omega
  exact A68 (hl x (by simp)) (by omega) y q
theorem nM (c b d t:Int) {l:List (List AC)} (hl:∀x∈l,AN x) (hn:(OB 0 0 0 l).length<=99999):AN (Cf c b d t l):=by
 refine⟨by rw[Lc];omega,λy e=>?_⟩;rw[Lc];unfold Cf at e;rcases IN.1 e with q|q
 .exact nL c b d l [] hl (by rw[show (l.foldl (Ba c b d) []).length=(OB c b d l).length from rfl,VM];exact NO _) (λz f=>by cases f) y q
 rw[UM.1 q];exact⟨Is _,λa ha=>by cases ha⟩
def Sn:AZ:={ ins:=[Du,MT],pre:=λ(_,l,_)=>∀x∈(l:List (List AC)),AN x/\DY x,out:=λ(h,l,_)=>[.p DC (Er h l).1,.p Fm (Er h l).2] }
attribute [local go_sem] Sn
theorem X7:Ad Tryz.prog 48 Sn:=by
 refine fKP [0,1,2,4,5,6,7,8,9,10,17,22] [42] [] Tryz.func48 Tryz.ntmps48 (AF KN (AF X5 (AF Sl (AF ST AH)))) ?_;rintro w0 O0 ⟨h,l,u⟩ a-hl;have hl:∀x∈(l:List (List AC)),AN x/\DY x:=hl;have m:(h.1,h.2)=h:=rfl;simp only[Sn,AM];repeat'(first|exact trivial|apply eS rfl|apply AB|refine rX a ?_ ?_|refine rC ?_ ?_<;>intro e<;>try(cases e;done))
 all_goals try simp only[m]at *
 .have b:EE h=false:=by
   cases i:EE h with
   | true=>rw[i]at e;exact absurd rfl e
   | false=>rfl
  have c:Er h l=([],5):=by unfold Er;rw[b,As (by simp)]
  simp only[b,Yg,iN,c];exact fI a [.cell 4 25,.tmp 5]
 .exact λx hx=>(hl x hx).1.1
 .have b:EE h=true:=by
   have q:((if EE h=true then (0:Int) else 5) != 0)=false:=by assumption
   cases i:EE h with
   | false=>rw[i]at q;exact absurd q (by decide)
   | true=>rfl
  have d:E5 l 2=false:=by assumption
  have c:Er h l=([],7):=by unfold Er;rw[Bq b,d];rfl
  rw[c];exact fI a [.cell 4 25,.tmp 5]
 .have d:E5 l 2=true:=by assumption
  exact⟨λx hx=>(hl x hx).1,λk=>UR (VN d (by decide) (by decide) k) (by decide)⟩
 have b:EE h=true:=by
  have q:((if EE h=true then (0:Int) else 5) != 0)=false:=by assumption
  cases i:EE h with
  | false=>rw[i]at q;exact absurd q (by decide)
  | true=>rfl
 have d:E5 l 2=true:=by assumption
 simp only[Bq b,wdF]at *;have p:(OB 0 0 0 l).length<=4095:=by
  have:=VN d (by decide) (by decide) (List.length l)
  rwa [UO]at this
 have n:=nM (AO h).cons (AO h).first (AO h).rest (AO h).list (λx hx=>(hl x hx).1) (by omega);have r:=Lc (AO h).cons (AO h).first (AO h).rest (AO h).list l;have c:Er h l=Ax (ER (AO h).dlist (AO h).head (AO h).last (Cf (AO h).cons (AO h).first (AO h).rest (AO h).list l)):=by unfold Er;rw[Bq b,Bq d]
 have o:=nK (AO h).dlist (AO h).head (AO h).last (Kd (AO h).cons (AO h).first (AO h).rest (AO h).list (λx hx=>(hl x hx).2));rw[c];clear c;generalize Cf (AO h).cons (AO h).first (AO h).rest (AO h).list l=f at *;have j:=VL [((AO h).dlist,[((AO h).head,1),((AO h).last,1+((f.length:Int)-1))])] f n (by simp);simp only[IS]at j;refine cP 15 a ?_ ?_
 .omega
 refine rM a (j) [(50,.nm 44)] [44] ?_ ?_ ?_
 .first|exact eN|refine eM ?_
 .first|exact eN|refine eM ?_
 rintro _ _ ⟨rfl,rfl⟩;refine⟨[(44,.nm 50)],.sr 44 GR 0 (ER (AO h).dlist (AO h).head (AO h).last f).length,[(44,.arr 93 GR (ER (AO h).dlist (AO h).head (AO h).last f))],rfl,rfl,?_,?_,rfl,rfl,?_⟩
 .unfold ER;first|exact eN|refine eM ?_
 .unfold ER;first|exact eN|refine eM ?_
 generalize ER (AO h).dlist (AO h).head (AO h).last f=g at *;refine rL a ?_ ?_
 .trivial
 refine Fl [44] ?_;repeat'(first|exact trivial|apply eS rfl|apply AB|refine rX a ?_ ?_|refine rC ?_ ?_<;>intro e<;>try(cases e;done))
 .exact o
 exact fI a [.cell 4 25,.tmp 5]
end
section
attribute [local go_sem] Ww Pj cs4 cs5
def A69:AZ:={ ins:=[Du,T3,T3],pre:=λ_=>True,out:=λ(h,a,b,_)=>[.p DF [((AO h).first,a),((AO h).rest,b)]] }
attribute [local go_sem] A69
theorem A9L:Ad Tryz.prog 150 A69:=by
 refine fKP [0,1,2,3,6] [15] [] Tryz.func150 Tryz.ntmps150 (AF qQ AH) ?_;rintro w0 O0 ⟨h,a,b,u⟩ c - -;simp only[A69,AM];have g:(h.1,h.2)=h:=rfl;obtain⟨-,-,-,-,e,f,-,-⟩:=Mn h;rw[<-e,<-f];repeat'(first|exact trivial|apply eS rfl|apply AB|refine rX c ?_ ?_|refine rC ?_ ?_<;>intro d<;>try(cases d;done))
 exact fI c [.tmp 6]
def GN (b:Nat) (c a d:Int) (N x:List AC):List AC:=(N++[(c,[(a,(b:Int)+(N.length:Int)+1),(d,(b:Int)+(N.length:Int)+1+(x.length:Int))])])++Jt (b+N.length+1) x x.length
def VO (b:Nat) (c a d:Int) (l:List (List AC)):List AC:=l.foldl (GN b c a d) []
theorem nN (b:Nat) (c a d:Int) {l:List (List AC)} {k:Nat} (hk:k<l.length):VO b c a d (l.take (k+1))=GN b c a d (VO b c a d (l.take k)) (l.getD k []):=by
 unfold VO;rw[Av l [] hk,AAp];rfl
theorem nP (b:Nat) (c a d:Int) (N x:List AC):(GN b c a d N x).length=N.length+1+x.length:=by
 unfold GN;rw[BY,BY,GM _ _ (NO _)];rfl
theorem X8 (b:Nat) (c a d:Int) {l:List (List AC)} (hl:∀x∈l,x.length<=100):∀k,(VO b c a d (l.take k)).length<=101*k
 | 0=>by simp[VO]
 | k+1=>by
  have e:=X8 b c a d hl k;by_cases hk:k<l.length
  .rw[nN b c a d hk,nP];have:=hl _ (AE l [] hk);omega
  rw[At (by omega)];rw[At (by omega)]at e;omega
def M9:AZ:={ ins:=[Du,MT,T3,T9],pre:=λ(_,l,b,_,_)=>(∀x∈(l:List (List AC)),AN x/\x.length<=100)/\List.length l<=10/\0<=b/\b<=10,out:=λ(h,l,b,s,_)=>[.p Fq (VO (Int.toNat b) (AO h).cons (AO h).first (AO h).rest l++[(KM h s,[])]),.p T3 (b+((VO (Int.toNat b) (AO h).cons (AO h).first (AO h).rest l).length:Int))] }
attribute [local go_sem] M9
theorem Pu:Ad Tryz.prog 110 M9:=by
 refine fKP [0,1,2,3,4,8,9,10,11,12,13,14,15,19,52,76] [43,111,116,123] [] Tryz.func110 Tryz.ntmps110 (AF eX (AF A9L AH)) ?_;rintro w0 O0 ⟨h,l,b',s,u⟩ f-⟨h1,z,t,v⟩;have t:(0:Int)<=b':=t;have v:(b':Int)<=10:=v;have z:List.length l<=10:=z;obtain⟨b,rfl⟩:∃b:Nat,b'=(b:Int):=⟨Int.toNat b',(bY t).symm⟩;have V:b<=10:=US.1 v;simp only[M9,AM,UQ];have L:(h.1,h.2)=h:=rfl;obtain⟨-,T,-,-,Z,aa,-,-⟩:=Mn h;have J:=X8 b (AO h).cons (AO h).first (AO h).rest λx hx=>(h1 x hx).2;repeat'(first|exact trivial|apply eS rfl|apply AB|refine rX f ?_ ?_|refine rC ?_ ?_<;>intro c<;>try(cases c;done))
 refine AK (ι:={i:Nat//i<=List.length l}) (λi=>⟨[(1,.p MT l),(2,.p T3 (b:Int)),(3,.p T9 s),(4,.bp 4 [] 0),(10,.sr 44 GR 0 (VO b (AO h).cons (AO h).first (AO h).rest (List.take i.1 l)).length),(11,.p (.int .i64) (i.1:Int))],[(4,.box 31 true [.p ZB h.1,.p dQ h.2]),(44,.arr 93 GR (VO b (AO h).cons (AO h).first (AO h).rest (List.take i.1 l)))]⟩) (λi=>List.length l-i.1) ⟨0,Is _⟩ (AD [(4,.nm 4),(44,.nil)] rfl rfl ?_ ?_) (λi=>?_)
 .first|exact eN|refine eM ?_
  rfl
 .first|exact eN|refine eM ?_
  rfl
 obtain⟨i,hi⟩:=i;have K:=λh0=>nN b (AO h).cons (AO h).first (AO h).rest (l:=l) (k:=i) h0;have W:=J i;have D:i<List.length l->AN (List.getD l i [])/\List.length (List.getD l i [])<=100:=λh0=>h1 _ (AE (l:List (List AC)) [] h0);simp only;generalize B:VO b (AO h).cons (AO h).first (AO h).rest (List.take i l)=N at *;repeat'(first|exact trivial|apply eS rfl|apply AB|refine rX f ?_ ?_|refine rC ?_ ?_<;>intro c<;>try(cases c;done))
 all_goals try simp only[L,T]at *
 .omega
 .have hx:=(D (Do.1 c)).2;simp only[AQ];exact eV
 .have g:i<List.length l:=Do.1 c;obtain⟨C,hx⟩:=D g;have q:=K g;unfold GN at q;generalize n:List.getD l i []=x at *;generalize F:N++[((AO h).cons,[((AO h).first,(b:Int)+(N.length:Int)+1),((AO h).rest,(b:Int)+(N.length:Int)+1+(x.length:Int))])]=M at *;have A:M.length=N.length+1:=by rw[<-F,BY];rfl
  rw[<-A];refine AK (ι:={k:Nat//k<=x.length}) (λk=>⟨[(1,.p MT l),(2,.p T3 (b:Int)),(3,.p T9 s),(4,.bp 4 [] 0),(10,.sr 44 GR 0 (M++Jt (b+N.length+1) x k.1).length),(11,.p (.int .i64) (i:Int)),(12,.p (.int .i64) ((b:Int)+(N.length:Int))),(13,.p (.int .i64) (k.1:Int))],[(4,.box 31 true [.p ZB h.1,.p dQ h.2]),(44,.arr 93 GR (M++Jt (b+N.length+1) x k.1))]⟩) (λk=>x.length-k.1) ⟨0,Is _⟩ (AD [(4,.nm 4),(44,.nm 44)] rfl rfl ?_ ?_) (λk=>?_)
  .have r:M++Jt (b+N.length+1) x 0=M:=by simp[Jt]
   simp only[r];first|exact eN|refine eM ?_
  .have r:M++Jt (b+N.length+1) x 0=M:=by simp[Jt]
   simp only[r];first|exact eN|refine eM ?_
  obtain⟨k,hk⟩:=k;have P:=GM (b+N.length+1) x hk;have Q:=λh0:k<x.length=>Xu (b+N.length+1) x h0;simp only;generalize O:Jt (b+N.length+1) x k=os at *;repeat'(first|exact trivial|apply eS rfl|apply AB|refine rX f ?_ ?_|refine rC ?_ ?_<;>intro c<;>try(cases c;done))
  all_goals try(first|simp only[n]at c ⊢|simp only[n])
  .assumption
  .exact⟨by assumption,c⟩
  .have m:k<x.length:=Do.1 c;have E:=EC C k;have S:(x.getD k (0,[])).2.length<=100000:=(C.2 _ (AE x (0,[]) m)).1;have w:=Q m;generalize o:List.getD x k (0,[])=y at *;obtain⟨U,ys⟩:=y;simp only at E S w ⊢;refine AK (ι:={j:Nat//j<=ys.length}) (λj=>⟨[(1,.p MT l),(2,.p T3 (b:Int)),(3,.p T9 s),(4,.bp 4 [] 0),(14,.bp 14 [] 0),(10,.sr 44 GR 0 (M++os).length),(11,.p (.int .i64) (i:Int)),(12,.p (.int .i64) ((b:Int)+(N.length:Int))),(13,.p (.int .i64) (k:Int)),(15,.p (.int .i64) (j.1:Int))],[(4,.box 31 true [.p ZB h.1,.p dQ h.2]),(44,.arr 93 GR (M++os)),(14,.box 93 true [.p T3 U,.sr 112 AW 0 (AR (b+N.length+1) (ys.take j.1)).length]),(112,.arr 106 AW (AR (b+N.length+1) (ys.take j.1)))]⟩) (λj=>ys.length-j.1) ⟨0,Is _⟩ (AD [(4,.nm 4),(44,.nm 44),(14,.nm 14),(112,.nil)] rfl rfl ?_ ?_) (λj=>?_)
   .first|exact eN|refine eM ?_
    try exact⟨rfl,rfl⟩
   .first|exact eN|refine eM ?_
   obtain⟨j,X⟩:=j;have G:(AR (b+N.length+1) (ys.take j)).length=j:=by unfold AR;rw[OF,OS];omega
   have H:=λh0:j<ys.length=>B4 (λa:Int×Int=>(a.1,a.2+((b+N.length+1:Nat):Int))) ys (0,0) h0;simp only;repeat'(first|exact trivial|apply eS rfl|apply AB|refine rX f ?_ ?_|refine rC ?_ ?_<;>intro c<;>try(cases c;done))
   all_goals try(first|simp only[n,o]at c ⊢|simp only[n,o])
   all_goals try(first|simp only[o]at c ⊢|simp only[o])
   .exact⟨by assumption,by assumption⟩
   .have d:j<ys.length:=Do.1 c;have Y:=E _ (AE ys (0,0) d);have R:x.length<=100:=hx;refine⟨by assumption,by assumption,c,by omega,by assumption,by assumption,c,by omega,?_⟩;rw[G];simp only[AQ];omega
   .omega
   .have d:j<ys.length:=Do.1 c;have I:AR (b+N.length+1) (ys.take (j+1))=AR (b+N.length+1) (ys.take j)++[((ys.getD j (0,0)).1,(b:Int)+(N.length:Int)+1+(ys.getD j (0,0)).2)]:=by
     have e:=H d;rw[show (ys.getD j (0,0)).2+((b+N.length+1:Nat):Int)=(b:Int)+(N.length:Int)+1+(ys.getD j (0,0)).2 from AF5 _ _]at e;exact e
    refine⟨⟨j+1,d⟩,by simp only;omega,AD [(4,.nm 4),(44,.nm 44),(14,.nm 14),(112,.nm 112)] rfl rfl ?_ ?_⟩
    .simp only[I];first|exact eN|refine eM ?_
    first|exact eN|refine eM ?_
   .have R:x.length<=100:=hx;rw[A,P];simp only[AQ];omega
   .omega
   have d:ys.take j=ys:=At (US.1 c);rw[d];refine⟨⟨k+1,m⟩,by simp only;omega,AD [(4,.nm 4),(44,.nm 44)] rfl rfl ?_ ?_⟩
   .simp only[w,<-UT];first|exact eN|refine eM ?_
   simp only[w,<-UT];first|exact eN|refine eM ?_
  .omega
  have m:Jt (b+N.length+1) x x.length=os:=by
   rw[<-O,show k=x.length from AAg hk (US.1 c)]
  rw[m]at q;refine⟨⟨i+1,g⟩,by simp only;omega,AD [(4,.nm 4),(44,.nm 44)] rfl rfl ?_ ?_⟩
  .simp only[q];first|exact eN|refine eM ?_
  simp only[q];first|exact eN|refine eM ?_
 .simp only[AQ];omega
 .omega
 have g:List.take i (l:List (List AC))=l:=At (US.1 c);rw[g]at B;rw[B];refine Fl [44] ?_;exact fI f [.tmp 8,.tmp 9] (by rw[show (b:Int)+(N.length:Int)=(b:Int)+((N.length:Int)+1)-1 by omega];exact eR)
end
section
attribute [local go_sem] Ww Pj Iq M9 SR cs4 cs5
def Oi (l:List AC):List AC×Int:=if 4096<l.length then ([],7) else Ax l
def A0O:AZ:={ ins:=[Fq],pre:=λ(l,_)=>Gp l,out:=λ(l,_)=>[.p DC (Oi l).1,.p Fm (Oi l).2] }
attribute [local go_sem] A0O
theorem gH:Ad Tryz.prog 111 A0O:=by
 refine fK [0,2,3,6] Tryz.func111 Tryz.ntmps111 (AF lN AH) ?_;rintro w0 O0 ⟨l,u⟩ b-hs;have hs:Gp l:=hs;simp only[A0O,AM];repeat'(first|exact trivial|apply eS rfl|apply AB|refine rX b ?_ ?_|refine rC ?_ ?_<;>intro a<;>try(cases a;done))
 .have c:Oi l=([],7):=Bq (Do.1 (show ((4096:Nat):Int)<(List.length l:Int) from a));exact fI b [.cell 2 25,.tmp 3] (by rw[c];exact eR)
 .exact hs
 have c:Oi l=Ax l:=As (Nat.not_lt.2 (US.1 (show (List.length l:Int)<=((4096:Nat):Int) from a)));exact fI b [.cell 2 25,.tmp 3] (by rw[c];exact eR)
theorem A6a (b:Nat) (c d e:Int):∀(l:List (List AC)) (N:List AC),(∀x∈l,Gp x)->Gp N->Gp (l.foldl (GN b c d e) N)
 | [],_,_,h=>h
 | x :: l,N,hl,h=>by
  refine A6a b c d e l _ (λy a=>hl y (GO _ a)) ?_;intro y a;unfold GN at a;rcases IN.1 a with q|q
  .rcases IN.1 q with q|q
   .exact h y q
   rw[UM.1 q];show 2<=100000;omega
  rw[E3]at q;obtain⟨z,f,rfl⟩:=IF.1 q;show (AR _ z.2).length<=100000;unfold AR;rw[OF];exact hl x (by simp) z f
theorem X9 (b:Nat) (c d e t:Int) {l:List (List AC)} (hl:∀x∈l,AN x):Gp (VO b c d e l++[(t,[])]):=by
 intro y f;rcases IN.1 f with q|q
 .exact A6a b c d e l [] (λx hx z a=>((hl x hx).2 z a).1) (λz a=>by cases a) y q
 rw[UM.1 q];exact Is _
def EY (h:AG) (t:Int) (l:List (List AC)):List AC×Int:=if EE h=true then Oi (VO 0 (AO h).cons (AO h).first (AO h).rest l++[(t,[])]) else ([],5)
def A0P:AZ:={ ins:=[Du,MT],pre:=λ(h,l,_)=>Hn h/\(∀x∈(l:List (List AC)),AN x/\x.length<=100)/\List.length l<=10,out:=λ(h,l,_)=>[.p DC (EY h (AO h).null l).1,.p Fm (EY h (AO h).null l).2] }
attribute [local go_sem] A0P
theorem A9M:Ad Tryz.prog 50 A0P:=by
 refine fK [0,1,2,4,5,6,10] Tryz.func50 Tryz.ntmps50 (AF Pt (AF Pu (AF gH AH))) ?_;rintro w0 O0 ⟨h,l,u⟩ b-⟨hk,hl,d⟩;simp only[A0P,AM];have e:(h.1,h.2)=h:=rfl;obtain⟨f,i,g,j,k,m,n,o⟩:=Mn h;repeat'(first|exact trivial|apply eS rfl|apply AB|refine rX b ?_ ?_|refine rC ?_ ?_<;>intro a<;>try(cases a;done))
 all_goals try simp only[e,f,g]at *
 .exact hk
 .have c:EY h (AO h).null l=([],5):=by unfold EY;rw[a];rfl
  exact fI b [.cell 4 25,.tmp 5] (by rw[c];exact eR)
 .exact⟨hl,d⟩
 .exact X9 0 _ _ _ _ λx hx=>(hl x hx).1
 have c:EY h (AO h).null l=Oi (VO 0 (AO h).cons (AO h).first (AO h).rest l++[((AO h).null,[])]):=by unfold EY;rw[a];rfl
 exact fI b [.cell 4 25,.tmp 5] (by rw[c];exact eR)
def gI:AZ:={ ins:=[Du,MT],pre:=λ(h,l,_)=>Hn h/\(∀x∈(l:List (List AC)),AN x/\x.length<=100)/\List.length l<=10,out:=λ(h,l,_)=>[.p DC (EY h (AO h).list l).1,.p Fm (EY h (AO h).list l).2] }
attribute [local go_sem] gI
theorem A6b:Ad Tryz.prog 52 gI:=by
 refine fK [0,1,2,4,5,6,10] Tryz.func52 Tryz.ntmps52 (AF Pt (AF Pu (AF gH AH))) ?_;rintro w0 O0 ⟨h,l,u⟩ b-⟨hk,hl,d⟩;simp only[gI,AM];have e:(h.1,h.2)=h:=rfl;obtain⟨f,i,g,j,k,m,n,o⟩:=Mn h;repeat'(first|exact trivial|apply eS rfl|apply AB|refine rX b ?_ ?_|refine rC ?_ ?_<;>intro a<;>try(cases a;done))
 all_goals try simp only[e,f,g]at *
 .exact hk
 .have c:EY h (AO h).list l=([],5):=by unfold EY;rw[a];rfl
  exact fI b [.cell 4 25,.tmp 5] (by rw[c];exact eR)
 .exact⟨hl,d⟩
 .exact X9 0 _ _ _ _ λx hx=>(hl x hx).1
 have c:EY h (AO h).list l=Oi (VO 0 (AO h).cons (AO h).first (AO h).rest l++[((AO h).list,[])]):=by unfold EY;rw[a];rfl
 exact fI b [.cell 4 25,.tmp 5] (by rw[c];exact eR)
end
section
attribute [local go_sem] Ww Pj Iq M9 SR A0O cs4 cs5
theorem AFs {c:Cx} {R:Exit->Act->World->Prop} {k:List DI} {ops:Array Oper} {r:List Oper} {σ:St} (l:List Nat) {a:St} (hk:Lt c R k ops r a) (h:Cr l σ=a:=by simp only[go_sem,Nat.reduceEqDiff,reduceCtorEq,Nat.reduceAdd,Nat.reduceSub,Nat.reduceMul,Nat.reduceLeDiff,Nat.reduceLT,Int.reduceLE,Int.reduceToNat,Int.reduceNeg,↓reduceIte];rfl):Lt c R k ops r σ:=A7j hk (c9 l h λ_ _ h=>h)
def Pv (w:LW) (l:List (List AC)):List AC:=(w.dlist,[(w.head,1),(w.last,1+((VO 1 w.cons w.first w.rest l).length:Int))]) :: (VO 1 w.cons w.first w.rest l++[(w.list,[])])
def NA (h:AG) (l:List (List AC)):List AC×Int:=if EE h=true then Oi (Pv (AO h) l) else ([],5)
def gJ:AZ:={ ins:=[Du,MT],pre:=λ(h,l,_)=>Hn h/\(∀x∈(l:List (List AC)),AN x/\x.length<=100)/\List.length l<=10,out:=λ(h,l,_)=>[.p DC (NA h l).1,.p Fm (NA h l).2] }
attribute [local go_sem] gJ
theorem A6c:Ad Tryz.prog 53 gJ:=by
 refine fKP [0,1,2,4,5,6,7,8,11] [28] [] Tryz.func53 Tryz.ntmps53 (AF Pt (AF Pu (AF gH (AF eX (AF qQ AH))))) ?_;rintro w0 O0 ⟨h,l,u⟩ a-⟨hk,hl,f⟩;simp only[gJ,AM];have i:(h.1,h.2)=h:=rfl;obtain⟨j,o,p,k,q,r,m,n⟩:=Mn h;repeat'(first|exact trivial|apply eS rfl|apply AB|refine rX a ?_ ?_|refine rC ?_ ?_<;>intro b<;>try(cases b;done))
 all_goals try simp only[i,j,k,m,n]at *
 .exact hk
 .have c:NA h l=([],5):=by unfold NA;rw[b];rfl
  exact fI a [.cell 4 25,.tmp 5] (by rw[c];exact eR)
 .exact⟨hl,f⟩
 have c:NA h l=Oi (Pv (AO h) l):=by unfold NA;rw[b];rfl
 rw[c];have e:Gp (Pv (AO h) l):=by
  intro y d;rcases By.1 d with rfl|d
  .show 2<=100000;omega
  exact X9 1 _ _ _ _ (λx hx=>(hl x hx).1) y d
 have g:=X8 1 (AO h).cons (AO h).first (AO h).rest (λx hx=>(hl x hx).2) (List.length l);rw[UO]at g;unfold Pv at e ⊢;generalize VO 1 (AO h).cons (AO h).first (AO h).rest l=M at *;refine evP a 4 ?_ ?_
 .simp only[AQ];exact eV
 refine AFs [31] ?_;rw[At (l:=((AO h).dlist,[((AO h).head,(1:Int)),((AO h).last,1+(M.length:Int))]) :: (M++[((AO h).list,[])])) (by simp;omega)];refine rL a ?_ ?_
 .exact e
 repeat'(first|exact trivial|apply eS rfl|apply AB|refine rX a ?_ ?_|refine rC ?_ ?_<;>intro b<;>try(cases b;done))
 exact fI a [.cell 4 25,.tmp 5]
end
def BI (c e1 e2:Int) (a b:List AC):List AC:=([((c:Int),[(e1,1),(e2,1+(a.length:Int))])]++Jt 1 a a.length)++Jt (1+a.length) b b.length
theorem Co (c e1 e2:Int) (a b:List AC):(BI c e1 e2 a b).length=1+a.length+b.length:=by
 unfold BI;rw[BY,BY,GM _ _ (NO _),GM _ _ (NO _)];rfl
theorem VP (c e1 e2:Int) (a b:List AC):(BI c e1 e2 a b).getD (0:Int).toNat (0,[])=(c,[(e1,1),(e2,1+(a.length:Int))]):=rfl
theorem A0Q (k:Nat) (a:List AC) {i:Nat} (hi:i<a.length):(Jt k a a.length)[i]?=some ((a.getD i (0,[])).1,AR k (a.getD i (0,[])).2):=by
 rw[E3,Yc,AT hi,AS,AT hi];rfl
theorem JV (c e1 e2:Int) {a:List AC} (b:List AC) {i:Int} (d:0<=i) (e:i<(a.length:Int)):(BI c e1 e2 a b).getD ((1:Int)+i).toNat (0,[])=((a.getD i.toNat (0,[])).1,AR 1 (a.getD i.toNat (0,[])).2):=by
 have hl:=GM 1 a (NO a.length);rw[AS];unfold BI;rw[Ug (by rw[BY,hl,IS];omega),Ud (by rw[IS];omega),IS,show ((1:Int)+i).toNat-1=i.toNat by omega,A0Q 1 a (by omega)];rfl
theorem Hs (c e1 e2:Int) (a:List AC) {b:List AC} {i:Int} (d:0<=i) (e:i<(b.length:Int)):(BI c e1 e2 a b).getD (((1+a.length:Nat):Int)+i).toNat (0,[])=((b.getD i.toNat (0,[])).1,AR (1+a.length) (b.getD i.toNat (0,[])).2):=by
 have hl:=GM 1 a (NO a.length);rw[AS];unfold BI;rw[Ud (by rw[BY,hl,IS];omega),BY,hl,IS,show (((1+a.length:Nat):Int)+i).toNat-(1+a.length)=i.toNat by omega,A0Q (1+a.length) b (by omega)];rfl
theorem Ke {c e1 e2:Int} {a b:List AC} {x:AC} (hx:x∈BI c e1 e2 a b):x=(c,[(e1,1),(e2,1+(a.length:Int))])\/(∃y∈a,x=(y.1,AR 1 y.2))\/∃y∈b,x=(y.1,AR (1+a.length) y.2):=by
 unfold BI at hx;rw[E3,E3]at hx;rcases IN.1 hx with hx|hx
 .rcases IN.1 hx with hx|hx
  .exact .inl (UM.1 hx)
  obtain⟨y,d,rfl⟩:=IF.1 hx;exact .inr (.inl ⟨y,d,rfl⟩)
 obtain⟨y,d,rfl⟩:=IF.1 hx;exact .inr (.inr ⟨y,d,rfl⟩)
theorem YA {c e1 e2:Int} {a b:List AC} (h:AN a) (i:AN b) (j:0<a.length) (k:0<b.length) (hl:a.length+b.length<=10000):AN (BI c e1 e2 a b):=by
 refine⟨by rw[Co];omega,λx hx=>?_⟩;rw[Co];rcases Ke hx with rfl|⟨y,g,rfl⟩|⟨y,g,rfl⟩
 .refine⟨by show 2<=100000;omega,λc d=>?_⟩;have d:c∈[(e1,(1:Int)),(e2,1+(a.length:Int))]:=d;simp only[By,YX,ABN]at d;rcases d with rfl|rfl
  .simp only;omega
  simp only;omega
 .have e:=h.2 y g;refine⟨by show (AR 1 y.2).length<=_;unfold AR;rw[OF];exact e.1,λc d=>?_⟩;obtain⟨w,f,rfl⟩:=DA.1 d;have:=e.2 w f;simp only;omega
 have e:=i.2 y g;refine⟨by show (AR (1+a.length) y.2).length<=_;unfold AR;rw[OF];exact e.1,λc d=>?_⟩;obtain⟨w,f,rfl⟩:=DA.1 d;have:=e.2 w f;simp only;omega
theorem A2Q {h:AG} {c e1 e2:Int} {a b:List AC} (va:VF h a) (f:VF h b) (hl:a.length+b.length<=10000):AI (BI c e1 e2 a b) 0=BI c e1 e2 a b:=by
 have l:=va.pos;have m:=f.pos;refine bT (YA va.good f.good l m hl) ?_;rw[Co,show 1+a.length+b.length=(a.length+b.length)+1 by omega,Bv,VP];have s:rS a (BI c e1 e2 a b) (λi=>(1:Int)+i) (λi=>0<=i/\i<(a.length:Int)):=by
  refine⟨λi hi=>?_,λi hi x hx=>Au va.good hx,λi j hi r e=>by have e:(1:Int)+i=(1:Int)+j:=e;omega⟩;rw[AP,JV c e1 e2 b hi.1 hi.2];show AR 1 (AP a i)=_;unfold AR;refine Of λc _=>?_;show (c.1,c.2+((1:Nat):Int))=(c.1,(1:Int)+c.2);rw[AF5];rfl
 have t:rS b (BI c e1 e2 a b) (λi=>((1+a.length:Nat):Int)+i) (λi=>0<=i/\i<(b.length:Int)):=by
  refine⟨λi hi=>?_,λi hi x hx=>Au f.good hx,λi j hi r e=>by have e:((1+a.length:Nat):Int)+i=((1+a.length:Nat):Int)+j:=e;omega⟩;rw[AP,Hs c e1 e2 a hi.1 hi.2];show AR (1+a.length) (AP b i)=_;unfold AR;refine Of λc _=>?_;show (c.1,c.2+((1+a.length:Nat):Int))=(c.1,((1+a.length:Nat):Int)+c.2);rw[AF5]
 have g:=(VK s (pre:=[0]) (λi hi d=>by have:=UM.1 d;omega) (a.length+b.length) [] 0 (λx hx=>by cases hx) ⟨by omega,by omega⟩).1;have p:=KR va.good (n:=0) (by omega) (by omega) b.length;rw[AFe,Uh,ABR,p,Si va]at g;have o:([0]++((List.range a.length).map λ(i:Nat)=>(i:Int)).map (λi=>(1:Int)+i))=OA (1+a.length):=by
  unfold OA;rw[AGb,UZ,YU,YU];refine Yp _ (Of λi _=>?_);show (1:Int)+(i:Int)=((1+i:Nat):Int);omega
 rw[o]at g;have k:=(VK t (pre:=OA (1+a.length)) (λi hi d=>by have:=RS d;omega) (a.length+b.length) [] 0 (λx hx=>by cases hx) ⟨by omega,by omega⟩).1;have q:=KR f.good (n:=0) (by omega) (by omega) a.length;rw[AFe,Uh,ABR,show a.length+b.length=b.length+a.length by omega,q,Si f]at k;simp only[UN,AGc,aT];have s1:AY (BI c e1 e2 a b) (a.length+b.length) [0] (e1,1)=OA (1+a.length):=by
  unfold AY;rw[As (by simp)];exact g
 rw[s1];have s2:AY (BI c e1 e2 a b) (a.length+b.length) (OA (1+a.length)) (e2,1+(a.length:Int))=CG (BI c e1 e2 a b) (a.length+b.length) (OA (1+a.length)) ((1+a.length:Nat):Int):=by
  unfold AY;have e:(1:Int)+(a.length:Int)=((1+a.length:Nat):Int):=by omega
  rw[e,As (λd=>by have:=RS d;simp only at this;omega)]
 rw[s2,show a.length+b.length=b.length+a.length by omega,k,show b.length+a.length+1=(1+a.length)+b.length by omega];unfold OA;rw[AGb (n:=1+a.length),UZ,YU,YU];refine Yp _ (Of λi _=>?_);show ((1+a.length:Nat):Int)+(i:Int)=((1+a.length+i:Nat):Int);omega
theorem YB {h:AG} {c e1 e2:Int} (f:0<=c/\c<(h.1.length:Int)) (p:e1<e2) (r:0<=e1/\e1<(h.2.length:Int)) (s:0<=e2/\e2<(h.2.length:Int)) {a b:List AC} (va:VF h a) (g:VF h b) (hl:a.length+b.length<=10000):VF h (BI c e1 e2 a b):=by
 have n:=va.pos;have o:=g.pos;have t:=Co c e1 e2 a b;refine⟨YA va.good g.good n o hl,by omega,λx hx=>?_,λx hx=>?_,λx hx c f=>?_,A2Q va g hl,λi u v=>?_⟩
 .rcases Ke hx with rfl|⟨y,d,rfl⟩|⟨y,d,rfl⟩
  .exact f
  .exact va.ty y d
  exact g.ty y d
 .rcases Ke hx with rfl|⟨y,d,rfl⟩|⟨y,d,rfl⟩
  .exact Uf.2 ⟨λc f=>by rw[UM.1 f];exact p,iS _ _⟩
  .exact Ep (va.str y d)
  exact Ep (g.str y d)
 .rcases Ke hx with rfl|⟨y,d,rfl⟩|⟨y,d,rfl⟩
  .have f:c∈[(e1,(1:Int)),(e2,1+(a.length:Int))]:=f;simp only[By,YX,ABN]at f;rcases f with rfl|rfl
   .exact r
   exact s
  .obtain⟨w,k,rfl⟩:=DA.1 f;exact va.ft y d w k
  obtain⟨w,k,rfl⟩:=DA.1 f;exact g.ft y d w k
 have m:AP (BI c e1 e2 a b) 0=[(e1,1),(e2,1+(a.length:Int))]:=rfl;by_cases ha:i<=(a.length:Int)
 .by_cases h1:i=1
  .exact⟨0,by omega,by omega,(e1,1),by rw[m];simp,by rw[h1]⟩
  obtain⟨j,l,q,x,hx,e⟩:=va.ro (i-1) (by omega) (by omega);refine⟨1+j,by omega,by omega,(x.1,x.2+((1:Nat):Int)),?_,by simp only;omega⟩;rw[AP,JV c e1 e2 b l (by omega)];exact IF.2 ⟨x,hx,rfl⟩
 by_cases h1:i=1+(a.length:Int)
 .exact⟨0,by omega,by omega,(e2,1+(a.length:Int)),by rw[m];simp,by rw[h1]⟩
 obtain⟨j,l,q,x,hx,e⟩:=g.ro (i-1-a.length) (by omega) (by omega);refine⟨((1+a.length:Nat):Int)+j,by omega,by omega,(x.1,x.2+((1+a.length:Nat):Int)),?_,by simp only;omega⟩;rw[AP,Hs c e1 e2 a l (by omega)];exact IF.2 ⟨x,hx,rfl⟩
section
attribute [local go_sem] Ce
def HX (f:List AC) (o:List Int):List (Nat×Obj):=[(1,.box 61 false [.sr 5 T3 0 o.length]),(2,.box 177 false [.mp 6]),(3,.box 23 false [.p Fq f]),(4,.box 178 false [.clo 143 [1,2,3,4]]),(5,.arr 3 T3 o),(6,.mapo T3 T3 (n8 o))]
theorem A2R (f:List AC) (hf:AN f):∀(k:Nat) (o:List Int) (n:Int),Iw f o->0<=n->n<f.length->n∉o->f.length-o.length<=k ->
  BA Tryz.prog 143 [.p T3 n,.bp 1 [] 0,.bp 2 [] 0,.bp 3 [] 0,.bp 4 [] 0] (HX f o) [1,2,3,4,6] (λres J=>res=.raw (.tuple #[])/\J=HX f (CG f k o n)):=by
 intro k;induction k with
 | zero =>
  intro o n h0 h1 z A M;have:=(h0.snoc h1 z A).len;simp only[BY,IS]at this;omega
 | succ k I =>
  intro o n B m q v hk;have t:=B.snoc m q v;have E:=t.len;simp only[BY,IS]at E;have O:=hf.1;refine Ki [0,1,2,3,4,7,9,22,23,24,25,36] [16] [] Tryz.func143 Tryz.ntmps143 AH ?_;intro w0 K O0 ρ0 d P Q;simp only[HX,Aj];repeat'(first|exact trivial|apply eS rfl|apply AB|refine rX d ?_ ?_|refine rC ?_ ?_<;>intro b<;>try(cases b;done))
  .simp only[AQ];omega
  .exact⟨m,q⟩
  rw[lB v];have s:=λa (ha:a∈(f.getD n.toNat (0,[])).2)=>Au hf ha;have C:CG f (k+1) o n=(f.getD n.toNat (0,[])).2.foldl (AY f k) (o++[n]):=Bv f k o n;have N:=(hf.2 _ (AE f (0,[]) (eZ ⟨m,q⟩))).1;generalize (f.getD n.toNat (0,[])).2=L at *;have H:∀i,Iw f ((L.take i).foldl (AY f k) (o++[n]))/\o++[n] <+: (L.take i).foldl (AY f k) (o++[n]):=λi=>EF (DV hf k) _ _ (λa ha=>s a (Yb ha)) t;generalize F:o++[n]=l at *;have G:l.length=o.length+1:=by rw[<-F];simp
  rw[<-G];refine AK (ι:={i:Nat//i<=L.length}) (λi=>⟨[(0,.p T3 n),(1,.bp 1 [] 0),(2,.bp 2 [] 0),(3,.bp 3 [] 0),(4,.bp 4 [] 0),(22,.p DF L),(23,.p (.int .i64) (L.length:Int)),(24,.p (.int .i64) (i.1:Int))],HX f ((L.take i.1).foldl (AY f k) l)⟩) (λi=>L.length-i.1) ⟨0,by omega⟩ (AD [(1,.nm 1),(2,.nm 2),(3,.nm 3),(4,.nm 4),(5,.nm 5),(6,.nm 6)] rfl rfl ?_ ?_) (λi=>?_)
  .simp only[HX,ZR,AGc];first|exact eN|refine eM ?_
  .first|exact eN|refine eM ?_
  obtain⟨i,hi⟩:=i;obtain⟨u,x⟩:=H i;have r:=λ(h:i<L.length)=>KL (AY f k) L (0,0) l h;have D:=x.length_le;generalize w:(L.take i).foldl (AY f k) l=c at u x r D;simp only[HX];repeat'(first|exact trivial|apply eS rfl|apply AB|refine rX d ?_ ?_|refine rC ?_ ?_<;>intro b<;>try(cases b;done))
  .exact b
  .have g:i<L.length:=Do.1 (by assumption);have y:=s _ (AE L (0,0) g);have j:(L.getD i (0,0)).2∉c:=by rw[LO]at b;simpa using b
   have e:AY f k c (L.getD i (0,0))=CG f k c (L.getD i (0,0)).2:=As j;refine cP 3 d ?_ ?_
   .trivial
   refine rM d (I c (L.getD i (0,0)).2 u y.1 y.2 j (by omega)) [(1,.nm 1),(2,.nm 2),(3,.nm 3),(4,.nm 4),(5,.nm 5),(6,.nm 6)] [5] ?_ ?_ ?_
   .first|exact eN|refine eM ?_
   .simp only[HX];first|exact eN|refine eM ?_
   rintro _ _ ⟨rfl,rfl⟩;refine⟨[(1,.nm 1),(2,.nm 2),(3,.nm 3),(4,.nm 4),(5,.nm 5),(6,.nm 6)],.raw (.tuple #[]),HX f (CG f k c (L.getD i (0,0)).2),rfl,rfl,?_,?_,rfl,rfl,Bk ?_⟩
   .simp only[HX];first|exact eN|refine eM ?_
   .first|exact eN|refine eM ?_
   simp only[HX];repeat'(first|exact trivial|apply eS rfl|apply AB|refine rX d ?_ ?_|refine rC ?_ ?_<;>intro b<;>try(cases b;done))
   .omega
   refine⟨⟨i+1,by omega⟩,by simp only;omega,AD [(1,.nm 1),(2,.nm 2),(3,.nm 3),(4,.nm 4),(5,.nm 5),(6,.nm 6)] rfl rfl ?_ ?_⟩
   .simp only[r g,e];first|exact eN|refine eM ?_
   first|exact eN|refine eM ?_
  .omega
  .have g:i<L.length:=Do.1 (by assumption);have j:(L.getD i (0,0)).2∈c:=by rw[LO]at b;simpa using b
   have e:AY f k c (L.getD i (0,0))=c:=Bq j;refine⟨⟨i+1,by omega⟩,by simp only;omega,AD [(1,.nm 1),(2,.nm 2),(3,.nm 3),(4,.nm 4),(5,.nm 5),(6,.nm 6)] rfl rfl ?_ ?_⟩
   .simp only[r g,e];first|exact eN|refine eM ?_
   first|exact eN|refine eM ?_
  have hk:L.take i=L:=At (US.1 b);rw[hk]at w;rw[C,w];exact fM d [] (.raw (.tuple #[])) rfl ⟨rfl,rfl⟩
def sS:AZ:={ ins:=[Fq,T3],pre:=λ(f,n,_)=>AN f/\0<=n/\n<(List.length f:Int),out:=λ(f,n,_)=>[.p DC (AI f n)] }
theorem A6d:Ad Tryz.prog 100 sS:=by
 refine fKP [0,1,2,4,5,6,7,8,10,11,13,19,20,21,22,35,36,37,38] [50] [] Tryz.func100 Tryz.ntmps100 AH ?_;rintro w0 O0 ⟨f,root,u⟩ b-⟨hf,n,q⟩;have hf:AN f:=hf;simp only[sS,AM];have F:=hf.1;have k:Iw f []:=⟨by simp,λx hx=>by cases hx⟩;obtain⟨l,I⟩:=DV hf f.length [] root k n q (by simp);have w:AI f root=(CG f f.length [] root).map (CL f (CG f f.length [] root)):=rfl;rw[w];repeat'(first|exact trivial|apply eS rfl|apply AB|refine rX b ?_ ?_|refine rC ?_ ?_<;>intro a<;>try(cases a;done))
 refine cP 2 b ?_ ?_
 .trivial
 refine rM b (A2R f hf (List.length f) [] root k n q (by simp) (by simp)) [(1,.nm 6),(2,.nm 5),(3,.nm 2),(4,.nm 7),(5,.nil),(6,.nm 14)] [] ?_ ?_ ?_
 .first|exact eN|refine eM ?_
 .simp only[HX];first|exact eN|refine eM ?_
  try rfl
 rintro _ _ ⟨rfl,rfl⟩;refine⟨[(6,.nm 1),(5,.nm 2),(2,.nm 3),(7,.nm 4),(101,.nm 5),(14,.nm 6)],.raw (.tuple #[]),[(6,.box 61 false [.sr 101 T3 0 (CG f (List.length f) [] root).length]),(5,.box 177 false [.mp 14]),(2,.box 23 false [.p Fq f]),(7,.box 178 false [.clo 143 [6,5,2,7]]),(101,.arr 3 T3 (CG f (List.length f) [] root)),(14,.mapo T3 T3 (n8 (CG f (List.length f) [] root)))],rfl,rfl,?_,?_,rfl,rfl,Bk ?_⟩
 .simp only[HX];first|exact eN|refine eM ?_
 .first|exact eN|refine eM ?_
 generalize CG f (List.length f) [] root=o at *;have H:=l.len;repeat'(first|exact trivial|apply eS rfl|apply AB|refine rX b ?_ ?_|refine rC ?_ ?_<;>intro a<;>try(cases a;done))
 refine AK (ι:={i:Nat//i<=o.length}) (λi=>⟨[(2,.bp 2 [] 0),(4,.bp 4 [] 0),(5,.bp 5 [] 0),(8,.bp 8 [] 0),(19,.sr 101 T3 0 o.length),(20,.p (.int .i64) (o.length:Int)),(21,.p (.int .i64) (i.1:Int))],[(8,.box 25 true [.sr 58 GR 0 ((o.take i.1).map (CL f o)).length]),(58,.arr 93 GR ((o.take i.1).map (CL f o))),(5,.box 177 false [.mp 14]),(2,.box 23 false [.p Fq f]),(101,.arr 3 T3 o),(14,.mapo T3 T3 (n8 o)),(4,.box 25 true [.raw (.slice none 0 0)])]⟩) (λi=>o.length-i.1) ⟨0,by omega⟩ (AD [(8,.nm 8),(58,.nil),(5,.nm 5),(2,.nm 2),(101,.nm 101),(14,.nm 14),(4,.nm 4)] rfl rfl ?_ ?_) (λi=>?_)
 .first|exact eN|refine eM ?_
  try exact⟨rfl,rfl⟩
 .first|exact eN|refine eM ?_
 obtain⟨i,hi⟩:=i;have C:((o.take i).map (CL f o)).length=i:=by rw[OF,OS];omega
 have D:=λh:i<o.length=>B4 (CL f o) o 0 h;have e:=λh:i<o.length=>l.rng _ (AE o 0 h);simp only;generalize m:(o.take i).map (CL f o)=os at *;repeat'(first|exact trivial|apply eS rfl|apply AB|refine rX b ?_ ?_|refine rC ?_ ?_<;>intro a<;>try(cases a;done))
 .exact a
 .exact e (Do.1 a)
 .exact e (Do.1 a)
 .have d:i<o.length:=Do.1 a;have B:=e d;have g:=D d;have r:=(hf.2 _ (AE f (0,[]) (eZ B))).1;have A:CL f o (o.getD i 0)=((List.getD f (Int.toNat (o.getD i 0)) (0,[])).1,(List.getD f (Int.toNat (o.getD i 0)) (0,[])).2.map (Gm o)):=rfl;rw[A]at g;generalize List.getD f (Int.toNat (o.getD i 0)) (0,[])=x at *;obtain⟨E,xs⟩:=x;simp only at r g ⊢;refine AK (ι:={j:Nat//j<=xs.length}) (λj=>⟨[(2,.bp 2 [] 0),(4,.bp 4 [] 0),(5,.bp 5 [] 0),(8,.bp 8 [] 0),(11,.bp 11 [] 0),(19,.sr 101 T3 0 o.length),(20,.p (.int .i64) (o.length:Int)),(21,.p (.int .i64) (i:Int)),(35,.p DF xs),(36,.p (.int .i64) (xs.length:Int)),(37,.p (.int .i64) (j.1:Int))],[(8,.box 25 true [.sr 58 GR 0 os.length]),(58,.arr 93 GR os),(5,.box 177 false [.mp 14]),(2,.box 23 false [.p Fq f]),(101,.arr 3 T3 o),(14,.mapo T3 T3 (n8 o)),(4,.box 25 true [.raw (.slice none 0 0)]),(11,.box 93 true [.p T3 E,.sr 51 AW 0 ((xs.take j.1).map (Gm o)).length]),(51,.arr 106 AW ((xs.take j.1).map (Gm o)))]⟩) (λj=>xs.length-j.1) ⟨0,Is _⟩ (AD [(8,.nm 8),(58,.nm 58),(5,.nm 5),(2,.nm 2),(101,.nm 101),(14,.nm 14),(4,.nm 4),(11,.nm 11),(51,.nil)] rfl rfl ?_ ?_) (λj=>?_)
  .first|exact eN|refine eM ?_
   try exact⟨rfl,rfl⟩
  .first|exact eN|refine eM ?_
  obtain⟨j,G⟩:=j;have s:((xs.take j).map (Gm o)).length=j:=by rw[OF,OS];omega
  have t:=λh:j<xs.length=>B4 (Gm o) xs (0,0) h;have z:=A0c o;simp only;repeat'(first|exact trivial|apply eS rfl|apply AB|refine rX b ?_ ?_|refine rC ?_ ?_<;>intro a<;>try(cases a;done))
  .exact a
  .rw[s];simp only[AQ];omega
  .omega
  .have c:j<xs.length:=Do.1 a;have v:=t c;refine⟨⟨j+1,c⟩,by simp only;omega,AD [(8,.nm 8),(58,.nm 58),(5,.nm 5),(2,.nm 2),(101,.nm 101),(14,.nm 14),(4,.nm 4),(11,.nm 11),(51,.nm 51)] rfl rfl ?_ ?_⟩
   .simp only[v,Gm];simp only[<-z];first|exact eN|refine eM ?_
   first|exact eN|refine eM ?_
  .rw[C];simp only[AQ];omega
  .omega
  have c:xs.take j=xs:=At (US.1 a);rw[c];refine⟨⟨i+1,d⟩,by simp only;omega,AD [(8,.nm 8),(58,.nm 58),(5,.nm 5),(2,.nm 2),(101,.nm 101),(14,.nm 14),(4,.nm 4)] rfl rfl ?_ ?_⟩
  .simp only[g];first|exact eN|refine eM ?_
  first|exact eN|refine eM ?_
 have y:i=o.length:=by
  have:=US.1 a;omega
 subst y;rw[UO]at m;rw[m];exact fI b [.cell 4 25]
end
end Go.Proofs.YtapkhdkbkodbjaaGreat.Fw
