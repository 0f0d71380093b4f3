/- Contracts of the program's and the reference's functions, and the plain laws of what they compute: G5 G6 T2 T3 T5 P1 P9 T13 T14 T15 T6 T7 T8 T9 T10 T11 T16 R08a P3 P4 P5 P2 P7 W1 W2 W3 W4 D2 D3 W5 U1 U2 U3 U4 U5 U6 U7 U8 U9 U10 U11 U12 N8 N9 V1 V2 V4 V5 V6 V9 V10 T19 T20. -/
import Derived.Test.YtapkhdkbkodbjaaGreatEYA
import Derived.Test.YtapkhdkbkodbjaaGreatEZJ
import Derived.Test.YtapkhdkbkodbjaaGreatEZI
set_option linter.unusedVariables false
set_option linter.unusedSimpArgs false
namespace Go.Proofs.YtapkhdkbkodbjaaGreat.Fw
open Go
attribute [local irreducible] Ev
attribute [local go_sem] uW AL List.toList_toArray CC evG evK Za Fq Mi JT IB HX UJ Mh Ca EC QM De DN frz yB Ho Du BM G0 Bw AV.frz AV.frzs AV.drp AV.drps AV.names AV.namess aq Hp MW MX Wb Kw B6 CD Lx FO Kz FP LA K0 LB ZY UB IQ Nt G7 FF ZZ VM qUn Ly KH PH GK Em LC MZ FW Wd DG FX GL VN KI QK GM QJ UD VO Oq LD Ma Dv DW GQ Eo Jq EA GN EB FY HW De DM ST VL SW H6 Ky Kx MY QL UG Ot PM PJ Md We PK Me iZ UI UH AV.trn AV.trns Ey DF Obj.trn L6 pY Ds ER Dr FZ Cy GP Am lk JN Hy Jo bin yA dS yD Wc zf1 zfs pfs AV.cells CW Lv SV Mc UF Cj QH Ty.cell1 Kv Ft El HT MQ Ex MP Oo SU HS H5 PG WZ ZX Og MO iW o4 Wa QI Dd Lw RV.flat Ty.flat Ty.size St.add upd del Br Value.oneCell' MV Ty.dflt Kt Vj KO Vp List.take_succ_cons List.take_zero List.length_cons u3 u4 Vo My Qr KQ OG A6r IC Qg Qh Qi Qj Wx Wy Qk LN eI Option.map_some Option.map_none Option.bind_some Option.getD_some Option.getD_none Option.isNone_none Option.isNone_some Bool.and_true Bool.true_and Bool.and_false Bool.false_and Bool.not_true Bool.not_false if_true if_false List.length_cons List.length_nil and_true true_and and_self List.all_cons List.all_nil List.append_nil List.nil_append List.cons_append List.getElem?_cons_zero List.getElem?_cons_succ List.getElem?_nil List.map_cons List.map_nil List.set_cons_zero List.set_cons_succ List.isEmpty_nil List.isEmpty_cons decide_true decide_false beq_self_eq_true bne_self_eq_false Nat.zero_add Nat.add_zero Nat.sub_zero Int.toNat_natCast Int.toNat_zero Int.toNat_one List.take_length List.length_append List.length_singleton true_or or_true or_self false_or or_false Ty.agg.injEq Ty.slice.injEq Ty.prod.injEq Ty.int.injEq Option.some.injEq beq_iff_eq MT evMG evMQ opM Jy Ox CK L5 Hr Ua L4 Jx LO OD Mw Sf Qn Sg W9 Qm Vl Vm OC Ad Au Op.operands Call.operands List.filterMap_cons List.filterMap_nil List.append_eq Bool.cond_false_right Bool.cond_true_left cond_true cond_false implies_true decide_eq_true_eq beq_true beq_false Bool.or_true Bool.or_false Bool.true_or Bool.false_or Option.isSome_some Array.empty_append List.append_toArray G2 QN GR JO iY UE HV IL IK KJ Jp Mb PI dT yC JH inB Mf HO H7 Mg A6 u9 List.drop_zero EE JW jX Cg M0 CA AV.fgt AV.fgts Obj.fgt Ar Ao Ad Dy J0 Bc IY List.any_cons List.any_nil vB pR jZ pS Oi VR qs List.flatMap_cons List.flatMap_nil List.cons_append tn j9 L7 List.take_succ_cons List.drop_succ_cons kC Ib Bd A2d Sp CM Cc Ai GV Mr B9 GU Ep Jv LM Hq Jw
attribute [local go_sem] KT zG ty3 ty4 ty5 ty9 A9b A9c A9d A9e A9f A9g A9h A9i A9j A9k A9l A9m A9n A9o A9p A9q A9r A2l A2m A2n A2o A2p A2q A2r A2s A2t A2u A2v A2w A2x A2y A2z A2A A2B A2C A2D A2E A2F A2G A2H A2I A2J A2K A2L A2M A2N A2O A2P A2Q A2R A2S A2T A2U A2V A2W A2X A2Y A2Z A30 A31 A32 A33
set_option maxRecDepth 100000
set_option maxHeartbeats 4000000
def MF (f:List AE) (o:List Int):List (Nat×Obj):=[(1,.box 61 false [.sr 5 T3 0 o.length]),(2,.box 177 false [.mp 6]),(3,.box 25 true [.p DV f]),(4,.box 178 false [.clo 189 [1,2,3,4]]),(5,.arr 3 T3 o),(6,.mapo T3 T3 (mOf o))]
theorem ABt {f:List AE} {o:List Int} (h:Ks f o):Ks (Dz f) o:=⟨h.nd,λx a=>by rw[Gd];exact h.rng x a⟩
theorem A8r {f:List AE} {o:List Int} (h:Ks (Dz f) o):Ks f o:=⟨h.nd,λx a=>by have:=h.rng x a;rwa [Gd]at this⟩
theorem A0a (f:List AE) (hf:AQ f) (hs:NdF f):∀(k:Nat) (o:List Int) (n:Int),Ks f o->0<=n->n<f.length->n∉o->f.length-o.length<=k ->
  Bb Tryz.prog 189 [.p T3 n,.bp 1 [] 0,.bp 2 [] 0,.bp 3 [] 0,.bp 4 [] 0] (MF f o) [1,2,3,4,6] (λres Q=>res=.raw (.tuple #[])/\Q=MF f (Cm (Dz f) k o n)):=by
 intro k;induction k with
 | zero =>
  intro o n h0 h1 B C R;have:=(h0.snoc h1 B C).len;simp only[F3,R7]at this;omega
 | succ k P =>
  intro o n E u v w hk;have t:=E.snoc u v w;have I:=t.len;simp only[F3,R7]at I;have S:=hf.1;refine OJ [0,1,2,3,4,7,9,25,26,27,28,39] [] [] Tryz.func189 Tryz.ntmps189 AH ?_;intro w0 K O0 ρ0 b U V;simp only[MF,A6];repeat'(first|exact trivial|apply eS rfl|refine rX b ?_ ?_)
  .simp only[AN];omega
  rw[A41 w];obtain⟨O,A⟩:=wL hs n;have T:=A.1;have s:=λa (ha:a∈AU (f.getD n.toNat (0,[])).2)=>Aw hf ((CJ _).mem_iff.1 ha);have G:Cm (Dz f) (k+1) o n=(AU (f.getD n.toNat (0,[])).2).foldl (Ae (Dz f) k) (o++[n]):=by rw[CO,RR]
  have F:=ABt (f:=f) t;refine cP 6 b ?_ ?_
  .exact⟨u,v⟩
  generalize (f.getD n.toNat (0,[])).2=g at *;refine rM b (bP g) [] [] ?_ ?_ ?_
  .exact eN
  .exact eN
  rintro _ _ ⟨rfl,rfl⟩;refine⟨[(50,.nm 1)],.clo 216 [50],[(50,.box 91 false [.p Cl g])],rfl,rfl,?_,?_,rfl,rfl,?_⟩
  .exact eN
  .exact eN
  refine rM b (O8 g A O) [(1,.nm 50)] [50] ?_ ?_ ?_
  .exact eN
  .exact eN
  rintro _ _ ⟨rfl,rfl⟩;have D:=CX g;rw[<-D];generalize AU g=L at *;refine⟨[(51,.nm 7)],.sr 51 Av 0 L.length,[(51,.arr 106 Av L)],rfl,rfl,?_,?_,rfl,rfl,?_⟩
  .exact eN
  .exact eN
  refine Ha [0,1,2,3,4,25,26,27] b (by simp only[go_sem,Nat.reduceEqDiff,reduceCtorEq,Nat.reduceAdd,Nat.reduceSub,Nat.reduceMul,Nat.reduceLeDiff,Nat.reduceLT,Int.reduceLE,Int.reduceToNat,Int.reduceNeg,↓reduceIte];rfl) ?_ ?_
  .trivial
  have N:∀i,Ks (Dz f) ((L.take i).foldl (Ae (Dz f) k) (o++[n]))/\o++[n] <+: (L.take i).foldl (Ae (Dz f) k) (o++[n]):=λi=>E7 (EL (TE hf) k) _ _ (λa ha=>by rw[Gd];exact s a (iS ha)) F;generalize J:o++[n]=q at *;have M:q.length=o.length+1:=by rw[<-J];simp
  rw[<-M];repeat' apply eS rfl
  refine AI (ι:={i:Nat//i<=L.length}) (λi=>⟨[(0,.p T3 n),(1,.bp 1 [] 0),(2,.bp 2 [] 0),(3,.bp 3 [] 0),(4,.bp 4 [] 0),(25,.p Cl L),(26,.p (.int .i64) (L.length:Int)),(27,.p (.int .i64) (i.1:Int))],MF f ((L.take i.1).foldl (Ae (Dz f) k) q)⟩) (λi=>L.length-i.1) ⟨0,by omega⟩ (AAY [51] (AC [(1,.nm 1),(2,.nm 2),(3,.nm 3),(4,.nm 4),(5,.nm 5),(6,.nm 6)] rfl rfl ?_ ?_)) (λi=>?_)
  .simp only[MF,AAB,ADM];exact eN
  .exact eN
  obtain⟨i,hi⟩:=i;obtain⟨j,y⟩:=N i;replace j:=A8r j;have r:=λ(h:i<L.length)=>OQ (Ae (Dz f) k) L (0,0) q h;have H:=y.length_le;generalize x:(L.take i).foldl (Ae (Dz f) k) q=c at j y r H;simp only[MF];repeat'(first|exact trivial|apply eS rfl|apply AB|refine rX b ?_ ?_|refine rC ?_ ?_<;>intro d<;>try(cases d;done))
  .exact eV
  .have l:i<L.length:=by exact eV
   have z:=s _ (AD L (0,0) l);have m:(L.getD i (0,0)).2∉c:=by rw[YI]at d;simpa using d
   refine cP 3 b ?_ ?_
   .trivial
   refine rM b (P c (L.getD i (0,0)).2 j z.1 z.2 m O1) [(1,.nm 1),(2,.nm 2),(3,.nm 3),(4,.nm 4),(5,.nm 5),(6,.nm 6)] [5] ?_ ?_ ?_
   .exact eN
   .simp only[MF];exact eN
   rintro _ _ ⟨rfl,rfl⟩;refine⟨[(1,.nm 1),(2,.nm 2),(3,.nm 3),(4,.nm 4),(5,.nm 5),(6,.nm 6)],.raw (.tuple #[]),MF f (Cm (Dz f) k c (L.getD i (0,0)).2),rfl,rfl,?_,?_,rfl,rfl,Eq ?_⟩
   .simp only[MF];exact eN
   .exact eN
   simp only[MF];repeat'(first|apply eS rfl|apply AB|refine rX b ?_ ?_)
   .exact eV
   have e:Ae (Dz f) k c (L.getD i (0,0))=Cm (Dz f) k c (L.getD i (0,0)).2:=At m;refine⟨⟨i+1,by omega⟩,by simp only;omega,AC [(1,.nm 1),(2,.nm 2),(3,.nm 3),(4,.nm 4),(5,.nm 5),(6,.nm 6)] rfl rfl ?_ ?_⟩
   .simp only[r l,e];exact eN
   exact eN
  .exact eV
  .have l:i<L.length:=by exact eV
   have m:(L.getD i (0,0)).2∈c:=by rw[YI]at d;simpa using d
   have e:Ae (Dz f) k c (L.getD i (0,0))=c:=BY m;refine⟨⟨i+1,by omega⟩,by simp only;omega,AC [(1,.nm 1),(2,.nm 2),(3,.nm 3),(4,.nm 4),(5,.nm 5),(6,.nm 6)] rfl rfl ?_ ?_⟩
   .simp only[r l,e];exact eN
   exact eN
  have hk:L.take i=L:=An (by exact eV);rw[hk]at x;rw[G,x];exact fM b [] (.raw (.tuple #[])) rfl ⟨rfl,rfl⟩
section
def Dp:AZ:={ ins:=[DK,T3],pre:=λ(f,n,_)=>AQ f/\Ix f/\0<=n/\n<(List.length f:Int),out:=λ(f,n,_)=>[.p DK (AK f n)] }
attribute [local go_sem] Dp
theorem A0b {α a:Type} (g:α->a) (o:List α) (d:α) (z:a) {i:Nat} (h:i<o.length):((o.take i).map g++List.replicate (o.length-i) z).set i (g (o.getD i d))=(o.take (i+1)).map g++List.replicate (o.length-(i+1)) z:=by
 obtain⟨m,c⟩:∃m,o.length-i=m+1:=⟨o.length-i-1,by omega⟩;have e:o.length-(i+1)=m:=by omega
 have b:((o.take i).map g).length=i:=by rw[Of,OF];omega
 rw[c,e,ABY _ _ O1,b,AAu,ACZ,ACo,AY o d h,SQ];simp
def RS:AZ:={ ins:=[DK,T3],pre:=λ(f,n,_)=>AQ f/\NdF f/\0<=n/\n<(List.length f:Int),out:=λ(f,n,_)=>[.p DK (AK (Dz f) n)] }
attribute [local go_sem] RS
theorem TF:Aa Tryz.prog 149 RS:=by
 refine fK [0,1,2,4,5,6,7,8,9,10,11,12,22,23,24,25,38,39,40] Tryz.func149 Tryz.ntmps149 AH ?_;rintro w0 O0 ⟨f,root,u⟩ a-⟨hf,hs,r,s⟩;simp only[RS,AL];have z:=hf.1;have l:Ks f []:=⟨by simp,λx D=>by cases D⟩;obtain⟨g,I⟩:=EL (TE hf) f.length [] root (ABt l) r (by rw[Gd];exact s) sc;replace g:=A8r g;have w:AK (Dz f) root=(Cm (Dz f) f.length [] root).map (DD (Dz f) (Cm (Dz f) f.length [] root)):=by unfold AK;rw[Gd]
 rw[w];repeat'(first|exact trivial|apply eS rfl|apply AB|refine rX a ?_ ?_|refine rC ?_ ?_<;>intro c<;>try(cases c;done))
 refine cP 2 a ?_ ?_
 .trivial
 refine rM a (A0a f hf hs (List.length f) [] root l r s sc sc) [(1,.nm 6),(2,.nm 5),(3,.nm 2),(4,.nm 7),(5,.nil),(6,.nm 13)] [] ?_ ?_ ?_
 .exact eN
 .simp only[MF];refine eM ?_;rfl
 rintro _ _ ⟨rfl,rfl⟩;refine⟨[(6,.nm 1),(5,.nm 2),(2,.nm 3),(7,.nm 4),(101,.nm 5),(13,.nm 6)],.raw (.tuple #[]),[(6,.box 61 false [.sr 101 T3 0 (Cm (Dz f) (List.length f) [] root).length]),(5,.box 177 false [.mp 13]),(2,.box 25 true [.p DV f]),(7,.box 178 false [.clo 189 [6,5,2,7]]),(101,.arr 3 T3 (Cm (Dz f) (List.length f) [] root)),(13,.mapo T3 T3 (mOf (Cm (Dz f) (List.length f) [] root)))],rfl,rfl,?_,?_,rfl,rfl,Eq ?_⟩
 .simp only[MF];exact eN
 .exact eN
 generalize Cm (Dz f) (List.length f) [] root=o at *;have H:=g.len;repeat'(first|exact trivial|apply eS rfl|apply AB|refine rX a ?_ ?_|refine rC ?_ ?_<;>intro c<;>try(cases c;done))
 .simp only[AN];omega
 refine AI (ι:={i:Nat//i<=o.length}) (λi=>⟨[(2,.bp 2 [] 0),(4,.bp 4 [] 0),(5,.bp 5 [] 0),(8,.bp 8 [] 0),(22,.sr 101 T3 0 o.length),(23,.p (.int .i64) (o.length:Int)),(24,.p (.int .i64) (i.1:Int))],[(8,.box 25 true [.sr 20 GX 0 o.length]),(20,.arr 93 GX ((o.take i.1).map (DD (Dz f) o)++List.replicate (o.length-i.1) (0,[]))),(5,.box 177 false [.mp 13]),(2,.box 25 true [.p DV f]),(101,.arr 3 T3 o),(13,.mapo T3 T3 (mOf o)),(4,.box 25 true [.raw (.slice none 0 0)])]⟩) (λi=>o.length-i.1) ⟨0,by omega⟩ (eW [(8,.nm 8),(20,.nm 20),(5,.nm 5),(2,.nm 2),(101,.nm 101),(13,.nm 13),(4,.nm 4)]) (λi=>?_)
 obtain⟨i,hi⟩:=i;repeat'(first|exact trivial|apply eS rfl|apply AB|refine rX a ?_ ?_|refine rC ?_ ?_<;>intro c<;>try(cases c;done))
 .exact eV
 .have m:i<o.length:=by exact eV
  have hn:=g.rng _ (AD o 0 m);have q:DD (Dz f) o (o.getD i 0)=((f.getD (o.getD i 0).toNat (0,[])).1,(AU (f.getD (o.getD i 0).toNat (0,[])).2).map (JL o)):=by unfold DD;rw[RR]
  obtain⟨t,j⟩:=wL hs (o.getD i 0);have B:=j.1;refine cP 6 a ?_ ?_
  .exact hn
  have G:List.length f<=100000:=z;generalize C:o.getD i 0=n at *;generalize A:f.getD n.toNat (0,[])=x at *;obtain⟨J,d⟩:=x;simp only at t j B q;refine rM a (bP d) [] [] ?_ ?_ ?_
  .exact eN
  .exact eN
  rintro _ _ ⟨rfl,rfl⟩;refine⟨[(50,.nm 1)],.clo 216 [50],[(50,.box 91 false [.p Cl d])],rfl,rfl,?_,?_,rfl,rfl,?_⟩
  .exact eN
  .exact eN
  refine rM a (O8 d j t) [(1,.nm 50)] [50] ?_ ?_ ?_
  .exact eN
  .exact eN
  rintro _ _ ⟨rfl,rfl⟩;have v:=CX d;rw[<-v];generalize F:AU d=L at *;refine⟨[(51,.nm 7)],.sr 51 Av 0 L.length,[(51,.arr 106 Av L)],rfl,rfl,?_,?_,rfl,rfl,?_⟩
  .exact eN
  .exact eN
  refine Ha [2,4,5,8,9,10,11,22,23,24] a (by simp only[go_sem,Nat.reduceEqDiff,reduceCtorEq,Nat.reduceAdd,Nat.reduceSub,Nat.reduceMul,Nat.reduceLeDiff,Nat.reduceLT,Int.reduceLE,Int.reduceToNat,Int.reduceNeg,↓reduceIte];rfl) ?_ ?_
  .trivial
  repeat'(first|exact trivial|apply eS rfl|apply AB|refine rX a ?_ ?_|refine rC ?_ ?_<;>intro c<;>try(cases c;done))
  refine AI (ι:={k:Nat//k<=L.length}) (λk=>⟨[(2,.bp 2 [] 0),(4,.bp 4 [] 0),(5,.bp 5 [] 0),(8,.bp 8 [] 0),(9,.p (.int .i64) (i:Int)),(10,.p T3 n),(11,.sr 51 Av 0 L.length),(22,.sr 101 T3 0 o.length),(23,.p (.int .i64) (o.length:Int)),(24,.p (.int .i64) (i:Int)),(38,.p (.int .i64) (L.length:Int)),(39,.p (.int .i64) (k.1:Int))],[(51,.arr 106 Av ((L.take k.1).map (JL o)++L.drop k.1)),(8,.box 25 true [.sr 20 GX 0 o.length]),(20,.arr 93 GX ((o.take i).map (DD (Dz f) o)++List.replicate (o.length-i) (0,[]))),(5,.box 177 false [.mp 13]),(2,.box 25 true [.p DV f]),(101,.arr 3 T3 o),(13,.mapo T3 T3 (mOf o)),(4,.box 25 true [.raw (.slice none 0 0)])]⟩) (λk=>L.length-k.1) ⟨0,by omega⟩ (eW [(51,.nm 51),(8,.nm 8),(20,.nm 20),(5,.nm 5),(2,.nm 2),(101,.nm 101),(13,.nm 13),(4,.nm 4)]) (λk=>?_)
  obtain⟨k,hk⟩:=k;repeat'(first|exact trivial|apply eS rfl|apply AB|refine rX a ?_ ?_|refine rC ?_ ?_<;>intro c<;>try(cases c;done))
  .exact eV
  .exact eV
  .have h:k<L.length:=by exact eV
   have e:=X0 (JL o) (λb=>b) L (0,0) h (JL o);refine⟨⟨k+1,by omega⟩,by simp only;omega,AC [(51,.nm 51),(8,.nm 8),(20,.nm 20),(5,.nm 5),(2,.nm 2),(101,.nm 101),(13,.nm 13),(4,.nm 4)] rfl rfl ?_ ?_⟩
   .refine eM ?_;rw[e.2];rw[<-e.1];unfold JL;rw[<-A74]
   exact eN
  .exact⟨hn,by exact eV⟩
  .exact eV
  have h:L.take k=L:=An (by exact eV);have y:L.drop k=[]:=By (by exact eV);refine⟨⟨i+1,by omega⟩,by simp only;omega,AC [(8,.nm 8),(20,.nm 20),(5,.nm 5),(2,.nm 2),(101,.nm 101),(13,.nm 13),(4,.nm 4)] rfl rfl ?_ ?_⟩
  .refine eM ?_;rw[h,y,SJ];have e:=A0b (DD (Dz f) o) o 0 (0,[]) m;rw[C,q]at e;rw[<-e,A,An (by simp:(L.map (JL o)).length<=L.length)]
  exact eN
 have hk:o.take i=o:=An (by exact eV);have E:o.length-i=0:=by exact eV
 rw[hk,E];exact fI a [.cell 4 25] (by simp only[List.replicate_zero,SJ];first|exact eR|refine Uf ?_;exact An (by rw[Of];exact eV))
theorem gG:Aa Tryz.prog 149 Dp:=by
 refine⟨TF.1,λw O i ds d h g=>?_⟩;obtain⟨f,n,u⟩:=ds;obtain⟨h1,a,b,c⟩:=g;have key:=TF.2 w O i (f,n,u) d h ⟨h1,A9z a,b,c⟩;have e:RS.out (f,n,u)=Dp.out (f,n,u):=by
  show [RV.p DK (AK (Dz f) n)]=[RV.p DK (AK f n)];rw[A08 a]
 rw[e]at key;exact key
theorem A9B:Aa Tryz.prog 128 Dp:=by
 refine fK [0,1,2,4] Tryz.func128 Tryz.ntmps128 (AF gG AH) ?_;rintro w0 O0 ⟨f,root,u⟩ a-c;simp only[Dp,AL];repeat'(first|exact trivial|apply eS rfl|apply AB|refine rX a ?_ ?_|refine rC ?_ ?_<;>intro b<;>try(cases b;done))
 .exact c
 exact fI a [.cell 4 25]
end
section
attribute [local go_sem] Hi lM
theorem mC {a b:Int}:Fg a b=0↔a=b:=by
 unfold Fg;split
 .constructor<;>intro h<;>omega
 split
 .constructor<;>intro h<;>omega
 exact⟨λ_=>by omega,λ_=>rfl⟩
def Zj:List Int->Int
 | []=>0
 | x :: l=>if x=0 then Zj l else x
theorem mD {l:List Int} {k:Nat} (h:k<l.length):Zj (l.drop k)=if l.getD k 0=0 then Zj (l.drop (k+1)) else l.getD k 0:=by
 rw[IS h];have e:l.getD k 0=l[k]:=by simp[AS,h]
 rw[e];rfl
def sF:AZ:={ ins:=[Ee],pre:=λ_=>True,out:=λ(l,_)=>[.p T3 (Zj l)],lend:=true }
attribute [local go_sem] sF
theorem mE:Aa Tryz.prog 225 sF:=by
 refine fK [0,2,3,5,6,7,8,9,14] Tryz.func225 Tryz.ntmps225 AH ?_;rintro w0 O0 ⟨l,u⟩ c ⟨⟨f,-⟩,-⟩ -;simp only[AN]at f;simp only[sF,AL];repeat'(first|exact trivial|apply eS rfl|apply AB|refine rX c ?_ ?_|refine rC ?_ ?_<;>intro b<;>try(cases b;done))
 refine AI (ι:={k:Nat//k<=List.length l/\Zj l=Zj ((l:List Int).drop k)}) (λk=>⟨[(3,.p T3 0),(6,.p Ee l),(7,.p (.int .i64) (List.length l:Int)),(8,.p (.int .i64) (k.1:Int))],[]⟩) (λk=>List.length l-k.1) ⟨0,If _,rfl⟩ (AC [] rfl rfl ?_ ?_) (λk=>?_)
 .first|exact eN|refine eM ?_
 .first|exact eN|refine eM ?_
 obtain⟨k,hk,a⟩:=k;repeat'(first|exact trivial|apply eS rfl|apply AB|refine rX c ?_ ?_|refine rC ?_ ?_<;>intro b<;>try(cases b;done))
 .exact b
 .have d:k<List.length l:=by exact eV
  rw[mD d,At b]at a;exact fI c [.tmp 2] (by rw[a];exact eR)
 .exact eV
 .have d:k<List.length l:=by exact eV
  rw[mD d,BY (by simpa using b)]at a;refine⟨⟨k+1,d,a⟩,by simp only;omega,AC [] rfl rfl ?_ ?_⟩
  .first|exact eN|refine eM ?_
  first|exact eN|refine eM ?_
 have e:List.drop k (l:List Int)=[]:=By (by exact eV);rw[e]at a;have a:Zj l=0:=a;exact fI c [.tmp 2] (by rw[a];exact eR)
def Ht {α:Type} (c:α->α->Int):List α->List α->Int
 | [],[]=>0
 | [],_ :: _=>-1
 | _ :: _,[]=>1
 | x :: p,y :: q=>if c x y=0 then Ht c p q else c x y
theorem Kd {α:Type} {c:α->α->Int} (d:∀a b,c a b=0↔a=b):∀ {p q:List α},Ht c p q=0↔p=q
 | [],[]=>⟨λ_=>rfl,λ_=>rfl⟩
 | [],_ :: _=>⟨λh=>by simp[Ht]at h,λh=>by cases h⟩
 | _ :: _,[]=>⟨λh=>by simp[Ht]at h,λh=>by cases h⟩
 | x :: p,y :: q=>by
  unfold Ht;split
  .rename_i h;rw[Kd d,(d x y).1 h];exact⟨λe=>by rw[e],λe=>(List.cons.inj e).2⟩
  rename_i h;exact⟨λe=>absurd e h,λe=>absurd ((d x y).2 (List.cons.inj e).1) h⟩
theorem MG {α:Type} (d:α) {l:List α} {k:Nat} (h:k<l.length):l.drop k=l.getD k d :: l.drop (k+1):=by
 rw[IS h];have e:l.getD k d=l[k]:=by simp[AS,h]
 rw[e]
theorem OU {α:Type} {c:α->α->Int} (d:α) {p q:List α} {k:Nat} (h1:k<p.length) (a:k<q.length):Ht c (p.drop k) (q.drop k)=if c (p.getD k d) (q.getD k d)=0 then Ht c (p.drop (k+1)) (q.drop (k+1)) else c (p.getD k d) (q.getD k d):=by
 rw[MG d h1,MG d a];rfl
def F0 (a b:Int×Int):Int:=Zj [Fg a.1 b.1,Fg a.2 b.2]
theorem Uu (a b:Int×Int):F0 a b=0↔a=b:=by
 unfold F0 Zj Zj Zj;constructor
 .intro h;by_cases h1:Fg a.1 b.1=0
  .rw[BY h1]at h;by_cases c:Fg a.2 b.2=0
   .exact AE5 (mC.1 h1) (mC.1 c)
   rw[At c]at h;exact absurd h c
  rw[At h1]at h;exact absurd h h1
 rintro rfl;rw[BY (mC.2 rfl),BY (mC.2 rfl)]
def gH:AZ:={ ins:=[Av,Av],pre:=λ_=>True,out:=λ(a,b,_)=>[.p T3 (F0 a b)] }
attribute [local go_sem] gH
theorem A0c:Aa Tryz.prog 227 gH:=by
 refine oY [0,1,2,3,4] [15] [] Tryz.func227 Tryz.ntmps227 (AF HP (AF mE AH)) ?_;rintro w0 O0 ⟨a,b,u⟩ c - -;simp only[gH,AL];repeat'(first|exact trivial|apply eS rfl|apply AB|refine rX c ?_ ?_|refine rC ?_ ?_<;>intro d<;>try(cases d;done))
 exact fI c [.tmp 4] (by unfold F0;exact eR)
theorem A0d (p q:List (Int×Int)) (o:p.length<=100000):Bb Tryz.prog 226 [.p Cl p,.p Cl q,.fn 227] [] [] (λres i=>res=.p T3 (Ht F0 p q)/\i=[]):=by
 refine OJ [0,1,2,6,7,8,9,10,11,12,13,14,21,31,38] [] [] Tryz.func226 Tryz.ntmps226 (AF A0c AH) ?_;intro w0 K O0 ρ0 c m n;simp only[A6];repeat'(first|exact trivial|apply eS rfl|apply AB|refine rX c ?_ ?_|refine rC ?_ ?_<;>intro a<;>try(cases a;done))
 refine AI (ι:={k:Nat//k<=p.length/\k<=q.length/\Ht F0 p q=Ht F0 (p.drop k) (q.drop k)}) (λk=>⟨[(0,.p Cl p),(1,.p Cl q),(2,.fn 227),(11,.p Cl p),(12,.p (.int .i64) (p.length:Int)),(13,.p (.int .i64) (k.1:Int))],[]⟩) (λk=>p.length-k.1) ⟨0,If _,If _,rfl⟩ (AC [] rfl rfl ?_ ?_) (λk=>?_)
 .first|exact eN|refine eM ?_
 .first|exact eN|refine eM ?_
 obtain⟨k,j,l,b⟩:=k;simp only;repeat'(first|exact trivial|apply eS rfl|apply AB|refine rX c ?_ ?_|refine rC ?_ ?_<;>intro a<;>try(cases a;done))
 .exact a
 .have d:k<p.length:=by exact eV
  have g:q.drop k=[]:=By (by exact eV);have h1:Ht F0 p q=1:=by
   rw[b,g,MG (0,0) d];rfl
  refine Ev.ent (σ':=⟨[(6,.p T3 1)],[]⟩) (fM c [.tmp 6] (.p T3 1) eT ⟨by rw[h1],rfl⟩) (AC [] rfl rfl ?_ ?_)
  .first|exact eN|refine eM ?_
  first|exact eN|refine eM ?_
 .exact a
 .have d:k<p.length:=by exact eV
  have e:k<q.length:=by exact eV
  rw[OU (0,0) d e,At a]at b;refine Ev.ent (σ':=⟨[(6,.p T3 (F0 (p.getD k (0,0)) (q.getD k (0,0))))],[]⟩) (fM c [.tmp 6] (.p T3 (F0 (p.getD k (0,0)) (q.getD k (0,0)))) eT ⟨by rw[b],rfl⟩) (AC [] rfl rfl ?_ ?_)
  .first|exact eN|refine eM ?_
  first|exact eN|refine eM ?_
 .exact eV
 .have d:k<p.length:=by exact eV
  have e:k<q.length:=by exact eV
  rw[OU (0,0) d e,BY (by simpa using a)]at b;refine⟨⟨k+1,d,e,b⟩,by simp only;omega,AC [] rfl rfl ?_ ?_⟩
  .first|exact eN|refine eM ?_
  first|exact eN|refine eM ?_
 .have f:p.drop k=[]:=By (by exact eV);have h1:Ht F0 p q=-1:=by
   rw[b,f,MG (0,0) (show k<q.length by exact eV)];rfl
  exact fM c [.tmp 6] (.p T3 (-1)) eT ⟨by rw[h1],rfl⟩
 have f:p.drop k=[]:=By (by exact eV);have h:q.drop k=[]:=By (by exact eV);have h1:Ht F0 p q=0:=by
  rw[b,f,h];rfl
 exact fM c [.tmp 6] (.p T3 0) eT ⟨by rw[h1],rfl⟩
def Dt (a b:AE):Int:=if Zj [Fg a.1 b.1,Fg (a.2.length:Int) (b.2.length:Int)]=0 then Ht F0 a.2 b.2 else Zj [Fg a.1 b.1,Fg (a.2.length:Int) (b.2.length:Int)]
theorem RT (a b:AE):Dt a b=0↔a=b:=by
 unfold Dt;constructor
 .intro h;split at h
  .rename_i h1;unfold Zj Zj Zj at h1;by_cases c:Fg a.1 b.1=0
   .exact AE5 (mC.1 c) ((Kd Uu).1 h)
   rw[At c]at h1;exact absurd h1 c
  rename_i h1;exact absurd h h1
 rintro rfl;have h1:Zj [Fg a.1 a.1,Fg (a.2.length:Int) (a.2.length:Int)]=0:=by
  unfold Zj Zj Zj;rw[BY (mC.2 rfl),BY (mC.2 rfl)]
 rw[BY h1];exact(Kd Uu).2 rfl
def RU:AZ:={ ins:=[GX,GX],pre:=λ(a,_,_)=>List.length (Prod.snd (a:AE))<=100000,out:=λ(a,b,_)=>[.p T3 (Dt a b)] }
attribute [local go_sem] RU
theorem sG:Aa Tryz.prog 210 RU:=by
 refine oY [0,1,2,3,4,5,21] [18] [] Tryz.func210 Tryz.ntmps210 (AF HP (AF mE AH)) ?_;rintro w0 O0 ⟨⟨ta,la⟩,⟨tb,b⟩,u⟩ a-ha;have ha:List.length la<=100000:=ha;simp only[RU,AL];repeat'(first|exact trivial|apply eS rfl|apply AB|refine rX a ?_ ?_|refine rC ?_ ?_<;>intro c<;>try(cases c;done))
 .have h1:Dt (ta,la) (tb,b)=Zj [Fg ta tb,Fg (List.length la:Int) (List.length b:Int)]:=At c;exact fI a [.tmp 4] (by rw[h1];exact eR)
 have h1:Dt (ta,la) (tb,b)=Ht F0 la b:=BY (by simpa using c);refine cP 4 a ?_ ?_
 .trivial
 refine rM a (A0d la b ha) [] [] ?_ ?_ ?_
 .first|exact eN|refine eM ?_
 .first|exact eN|refine eM ?_
 rintro _ _ ⟨rfl,rfl⟩;refine⟨[],.p T3 (Ht F0 la b),[],rfl,rfl,?_,?_,rfl,rfl,?_⟩
 .first|exact eN|refine eM ?_
 .first|exact eN|refine eM ?_
 refine rL a ?_ ?_
 .trivial
 repeat'(first|exact trivial|apply eS rfl|apply AB|refine rX a ?_ ?_|refine rC ?_ ?_<;>intro c<;>try(cases c;done))
 exact fI a [.tmp 4] (by rw[h1];exact eR)
end
section
attribute [local go_sem] Hi lM RU RS
theorem sH (p q:List (AE)) (r:p.length<=100000) (g:∀x∈p,x.2.length<=100000):Bb Tryz.prog 209 [.p DV p,.p DV q,.fn 210] [] [] (λres j=>res=.p T3 (Ht Dt p q)/\j=[]):=by
 refine OJ [0,1,2,6,7,8,9,10,11,12,13,14,21,31,38] [] [] Tryz.func209 Tryz.ntmps209 (AF sG AH) ?_;intro w0 K O0 ρ0 b n o;simp only[A6];repeat'(first|exact trivial|apply eS rfl|refine rX b ?_ ?_)
 refine AI (ι:={k:Nat//k<=p.length/\k<=q.length/\Ht Dt p q=Ht Dt (p.drop k) (q.drop k)}) (λk=>⟨[(0,.p DV p),(1,.p DV q),(2,.fn 210),(11,.p DV p),(12,.p (.int .i64) (p.length:Int)),(13,.p (.int .i64) (k.1:Int))],[]⟩) (λk=>p.length-k.1) ⟨0,If _,If _,rfl⟩ (eW []) (λk=>?_)
 obtain⟨k,l,m,a⟩:=k;simp only;repeat'(first|exact trivial|apply eS rfl|apply AB|refine rX b ?_ ?_|refine rC ?_ ?_<;>intro d<;>try(cases d;done))
 .exact d
 .have c:k<p.length:=by exact eV
  have h:q.drop k=[]:=By (by exact eV);have h1:Ht Dt p q=1:=by
   rw[a,h,MG (0,[]) c];rfl
  exact Ev.ent (σ':=⟨[(6,.p T3 1)],[]⟩) (fM b [.tmp 6] (.p T3 1) eT ⟨by rw[h1],rfl⟩) (eW [])
 .exact d
 .exact g _ (AD p (0,[]) (by exact eV))
 .have c:k<p.length:=by exact eV
  have e:k<q.length:=by exact eV
  rw[OU (0,[]) c e,At d]at a;exact Ev.ent (σ':=⟨[(6,.p T3 (Dt (p.getD k (0,[])) (q.getD k (0,[]))))],[]⟩) (fM b [.tmp 6] (.p T3 (Dt (p.getD k (0,[])) (q.getD k (0,[])))) eT ⟨by rw[a],rfl⟩) (eW [])
 .exact eV
 .have c:k<p.length:=by exact eV
  have e:k<q.length:=by exact eV
  rw[OU (0,[]) c e,BY (by simpa using d)]at a;exact⟨⟨k+1,c,e,a⟩,by simp only;omega,eW []⟩
 .have f:p.drop k=[]:=By (by exact eV);have h1:Ht Dt p q=-1:=by
   rw[a,f,MG (0,[]) (show k<q.length by exact eV)];rfl
  exact fM b [.tmp 6] (.p T3 (-1)) eT ⟨by rw[h1],rfl⟩
 have f:p.drop k=[]:=By (by exact eV);have i:q.drop k=[]:=By (by exact eV);have h1:Ht Dt p q=0:=by
  rw[a,f,i];rfl
 exact fM b [.tmp 6] (.p T3 0) eT ⟨by rw[h1],rfl⟩
def Uv (a b:List AE):Int:=if Fg (a.length:Int) (b.length:Int)=0 then Ht Dt a b else Fg (a.length:Int) (b.length:Int)
theorem sI (a b:List AE):Uv a b=0↔a=b:=by
 unfold Uv;constructor
 .intro h;split at h
  .exact(Kd RT).1 h
  rename_i h1;exact absurd h h1
 rintro rfl;rw[BY (mC.2 rfl)];exact(Kd RT).2 rfl
def sJ:AZ:={ ins:=[DK,DK],pre:=λ(a,_,_)=>DC a,out:=λ(a,b,_)=>[.p T3 (Uv a b)] }
attribute [local go_sem] sJ
theorem A46:Aa Tryz.prog 169 sJ:=by
 refine fK [0,1,2,3,4,5,14] Tryz.func169 Tryz.ntmps169 (AF HP AH) ?_;rintro w0 O0 ⟨a,b,u⟩ c-⟨e,f⟩;simp only[sJ,AL];repeat'(first|exact trivial|apply eS rfl|refine rX c ?_ ?_|refine rC ?_ ?_<;>intro d<;>try(cases d;done))
 .have h1:Uv a b=Fg (List.length a:Int) (List.length b:Int):=At d;exact fI c [.tmp 4] (by rw[h1];exact eR)
 have h1:Uv a b=Ht Dt a b:=BY (by simpa using d);refine cP 4 c ?_ ?_
 .trivial
 refine rM c (sH a b e f) [] [] ?_ ?_ ?_
 .exact eN
 .exact eN
 rintro _ _ ⟨rfl,rfl⟩;refine⟨[],.p T3 (Ht Dt a b),[],rfl,rfl,?_,?_,rfl,rfl,?_⟩
 .exact eN
 .exact eN
 refine rL c ?_ ?_
 .trivial
 repeat' apply eS rfl
 exact fI c [.tmp 4] (by rw[h1];exact eR)
def WD:AZ:={ ins:=[DK,DK],pre:=λ(a,_,_)=>DC a,out:=λ(a,b,_)=>[.p .bool (Uv a b==0)] }
attribute [local go_sem] WD
theorem A0e:Aa Tryz.prog 122 WD:=by
 refine fK [0,1,2,3,4] Tryz.func122 Tryz.ntmps122 (AF A46 AH) ?_;rintro w0 O0 ⟨a,b,u⟩ c-ha;simp only[WD,AL];repeat'(first|exact trivial|apply eS rfl|refine rX c ?_ ?_)
 .exact ha
 exact fI c [.tmp 4]
def mF (l:List (Int×Int)):List (Int×Bool):=l.foldl (λm a=>Gq T3 .bool a.1 true m) []
theorem YL {b:Ty} (x k:Int) (v:b.den) (m:List (Int×b.den)):Bl T3 b x (Gq T3 b k v m)=if x=k then some v else Bl T3 b x m:=by
 induction m with
 | nil=>simp[Gq,Bl,JH]
 | cons y m g =>
  simp only[Gq];by_cases c:JH T3 k y.1=true
  .rw[BY c];have d:k=y.1:=by simpa[JH] using c
   simp only[Bl,JH,Tx];by_cases a:x=k
   .rw[BY a,BY a]
   rw[At a,At a,At (by rw[<-d];exact a)]
  rw[At c];have d:¬k=y.1:=by simpa[JH] using c
  simp only[Bl];by_cases a:JH T3 x y.1=true
  .have f:x=y.1:=by simpa[JH] using a
   rw[BY a,BY a,At (by rw[f];exact λe=>d e.symm)]
  rw[At a,At a,g]
theorem A0f (x:Int) (l:List (Int×Int)):(Bl T3 .bool x (mF l)).getD false=l.any λy=>y.1==x:=by
 induction l using Dn with
 | h0=>rfl
 | h1 l a c =>
  have e:mF (l++[a])=Gq T3 .bool a.1 true (mF l):=by unfold mF;rw[ACG];rfl
  rw[e,YL,AD5,<-c];by_cases h:x=a.1
  .rw[BY h,h];simp
  rw[At h];have b:¬a.1=x:=λe=>h e.symm;simp[b]
def Ge (x:AE) (n:Int):Int:=if x.1<0 then 2 else Gx x.2 n
def YM:AZ:={ ins:=[GX,T3],pre:=λ_=>True,out:=λ(x,n,_)=>[.p MU (Ge x n)] }
attribute [local go_sem] YM
theorem sK:Aa Tryz.prog 148 YM:=by
 refine fK [0,1,2,4,5,7,10,13,14,15,16,32,36] Tryz.func148 Tryz.ntmps148 AH ?_;rintro w0 O0 ⟨⟨t,l⟩,n,u⟩ d ⟨⟨-,⟨o,-⟩⟩,-⟩ -;simp only[AN]at o;simp only[YM,AL];repeat'(first|exact trivial|apply eS rfl|refine rX d ?_ ?_|refine rC ?_ ?_<;>intro b<;>try(cases b;done))
 .have h1:Ge (t,l) n=2:=BY b;exact fI d [.tmp 4] (by rw[h1];exact eR)
 have h0:Ge (t,l) n=GZ n [] l:=At (AC2.2 b);rw[h0];refine AI (ι:={k:Nat//k<=List.length l/\GZ n [] l=GZ n ((l:List (Int×Int)).take k) ((l:List (Int×Int)).drop k)}) (λk=>⟨[(1,.p T3 n),(5,.mp 11),(13,.p Cl l),(14,.p (.int .i64) (List.length l:Int)),(15,.p (.int .i64) (k.1:Int))],[(11,.mapo T3 .bool (mF ((l:List (Int×Int)).take k.1)))]⟩) (λk=>List.length l-k.1) ⟨0,If _,rfl⟩ (AC [(11,.nm 11)] rfl rfl ?_ ?_) (λk=>?_)
 .refine eM ?_;rfl
 .exact eN
 obtain⟨k,hk,f⟩:=k;have g:=λh:k<l.length=>Pt n l h;have q:=λh:k<l.length=>OQ (λ(m:List (Int×Bool)) (a:Int×Int)=>Gq T3 .bool a.1 true m) l (0,0) [] h;have i:=λx=>A0f x (List.take k (l:List (Int×Int)));simp only;repeat'(first|exact trivial|apply eS rfl|apply AB|refine rX d ?_ ?_|refine rC ?_ ?_<;>intro b<;>try(cases b;done))
 .exact b
 .have c:k<List.length l:=by exact eV
  have e:GZ n [] l=2:=by rw[f,g c,BY O1]
  exact fI d [.tmp 4] (by rw[e];exact eR)
 .have c:k<List.length l:=by exact eV
  rw[i]at b;have e:GZ n [] l=4:=by rw[f,g c,At O1,BY b]
  exact fI d [.tmp 4] (by rw[e];exact eR)
 .exact eV
 .have c:k<List.length l:=by exact eV
  rw[i]at b;refine⟨⟨k+1,c,by rw[f,g c,At O1,At (by rw[b];simp)]⟩,by simp only;omega,AC [(11,.nm 11)] rfl rfl ?_ ?_⟩
  .refine eM ?_;exact(q c).symm
  exact eN
 have j:List.drop k (l:List (Int×Int))=[]:=By (by exact eV);have e:GZ n [] l=0:=by rw[f,j];rfl
 exact fI d [.tmp 4] (by rw[e];exact eR)
theorem mG {n:Int}:∀ {l seen:List (Int×Int)},GZ n seen l=0->(∀a∈l,∀b∈seen,b.1≠a.1)/\NdA l
 | [],_,_=>⟨λa ha=>(by cases ha),List.Pairwise.nil⟩
 | x :: l,seen,h=>by
  simp only[GZ]at h;split at h
  .cases h
  split at h
  .cases h
  rename_i h1 g;obtain⟨c,f⟩:=mG h;refine⟨λa ha b d=>?_,aS.2 ⟨λa ha e=>c a ha x sc e,f⟩⟩;rcases Do.1 ha with rfl|ha
  .intro e;exact g (R9.2 ⟨b,d,by simp[e]⟩)
  exact c a ha b (by simp[d])
theorem mH {m:Int}:∀ {f:List AE},Ga m f=0->∀x∈f,NdA x.2
 | [],_,x,b=>by cases b
 | y :: f,h,x,b=>by
  simp only[Ga]at h;split at h
  .cases h
  split at h
  .rename_i h1 a;exact absurd h a
  rename_i h1 a;have a:Gx y.2 m=0:=IF a;rcases Do.1 b with rfl|b
  .exact(mG a).2
  exact mH h x b
def Uw (f:List AE):Prop:=∀x∈f,SS x.2
theorem mI {f:List AE} (h:CH f=0) (hs:Uw f):NdF f:=by
 unfold CH at h;split at h
 .cases h
 split at h
 .cases h
 exact λx a=>⟨mH h x a,hs x a⟩
def WE:AZ:={ ins:=[DK],pre:=λ(f,_)=>Uw f,out:=λ(f,_)=>[.p DK (BF f).1,.p MU (BF f).2] }
attribute [local go_sem] WE
theorem A0g:Aa Tryz.prog 107 WE:=by
 refine fK [0,1,2,3,5,6,10,15,18,19,20,21,30] Tryz.func107 Tryz.ntmps107 (AF sK (AF TF AH)) ?_;rintro w0 O0 ⟨f,u⟩ c ⟨⟨n,-⟩,-⟩ hs;simp only[AN]at n;have hs:Uw f:=hs;have l:X3 f:=λx o=>R5 (hs x o).1 O1;simp only[WE,AL];repeat'(first|exact trivial|apply eS rfl|refine rX c ?_ ?_|refine rC ?_ ?_<;>intro a<;>try(cases a;done))
 .have h1:CH f=1:=by
   have h:f.length=0:=by exact eV
   unfold CH;rw[BY h]
  have e:BF f=([],1):=by unfold BF;rw[h1];rfl
  exact fI c [.cell 2 25,.tmp 3] (by rw[e];exact eR)
 .have h1:CH f=7:=by
   have h:¬f.length=0:=by exact eV
   have i:4096<f.length:=by exact eV
   unfold CH;rw[At h,BY i]
  have e:BF f=([],7):=by unfold BF;rw[h1];rfl
  exact fI c [.cell 2 25,.tmp 3] (by rw[e];exact eR)
 have h1:CH f=Ga f.length f:=by
  have h:¬f.length=0:=by exact eV
  have i:¬4096<f.length:=by exact eV
  unfold CH;rw[At h,At i]
 have j:0<f.length:=by exact eV
 refine AI (ι:={k:Nat//k<=f.length/\Ga f.length (f.drop k)=CH f}) (λk=>⟨[(1,.bp 1 [] 0),(2,.bp 2 [] 0),(18,.p DV f),(19,.p (.int .i64) (f.length:Int)),(20,.p (.int .i64) (k.1:Int))],[(1,.box 25 true [.p DV f]),(2,.box 25 true [.raw (.slice none 0 0)])]⟩) (λk=>f.length-k.1) ⟨0,by simp[h1]⟩ (eW [(1,.nm 1),(2,.nm 2)]) (λk=>?_)
 obtain⟨k,hk,hf⟩:=k;simp only;repeat'(first|exact trivial|apply eS rfl|apply AB|refine rX c ?_ ?_|refine rC ?_ ?_<;>intro a<;>try(cases a;done))
 .exact a
 .have g:k<f.length:=by exact eV
  have a:¬Ge (f.getD k (0,[])) f.length=0:=a;have m:CH f=Ge (f.getD k (0,[])) f.length:=by
   rw[<-hf,Iq _ _ g];unfold Ge at a ⊢;by_cases b:(f.getD k (0,[])).1<0
   .rw[BY b,BY b]
   rw[At b]at a;rw[At b,At b,BY a]
  have e:BF f=([],Ge (f.getD k (0,[])) f.length):=by unfold BF;rw[m,At a]
  exact fI c [.cell 2 25,.tmp 3] (by rw[e];exact eR)
 .exact eV
 .have g:k<f.length:=by exact eV
  have a:Ge (f.getD k (0,[])) f.length=0:=by simpa using a
  refine⟨⟨k+1,g,?_⟩,by simp only;omega,AC [(1,.nm 1),(2,.nm 2)] rfl rfl ?_ ?_⟩
  .rw[<-hf,Iq _ _ g];unfold Ge at a;by_cases b:(f.getD k (0,[])).1<0
   .rw[BY b]at a;cases a
   rw[At b]at a;rw[At b,At (by rw[a];simp)]
  .exact eN
  exact eN
 .have d:CH f=0:=by rw[<-hf,By (by exact eV)];rfl
  exact⟨(Iu d l).1,mI d hs,GO.2 j⟩
 have d:CH f=0:=by rw[<-hf,By (by exact eV)];rfl
 have e:BF f=(AK (Dz f) 0,0):=by unfold BF;rw[BY d,mA (Iu d l).1 (mI d hs) (ACD 0) (GO.2 j)]
 exact fI c [.cell 2 25,.tmp 3] (by rw[e];exact eR)
end
def Ke (h:AG) (f:Int):Int:=(h.2.getD f.toNat (ByteArray.empty,0)).2
def NQ (h:AG) (n:Int):List (Int×Int)->Ei->Option Ei
 | [],s=>some s
 | a :: l,s=>(DS h s n (Ke h a.1)).bind (NQ h n l)
def Ol (h:AG) (n:Int):List (Int×Int)->Ei->Option Ei
 | [],s=>some s
 | a :: l,s=>if (BW h (s.1.getD n.toNat 0) a.1).2=true then (DS h s a.2 (BW h (s.1.getD n.toNat 0) a.1).1).bind (Ol h n l) else none
def MJ (h:AG) (f:List AE) (n:Int) (s:Ei):Option Ei:=(NQ h n (f.getD n.toNat (0,[])).2 s).bind (Ol h n (f.getD n.toNat (0,[])).2)
def wlF (h:AG) (f:List AE):Nat->Nat->Ei->Option (List Int)
 | 0,_,_=>none
 | k+1,i,s=>if i<s.2.length then (MJ h f (s.2.getD i 0) s).bind (wlF h f k (i+1)) else some s.1
def A2 (f:List AE):List Int:=f.map λx=>x.1
def Es (f:List AE):List Int:=(List.range f.length).map λi:Nat=>(i:Int)
def CP (f:List AE) (ty:List Int):List AE:=(List.range f.length).map λi=>(ty.getD i 0,(f.getD i (0,[])).2)
structure bQ (h:AG):Prop where
 int:∀x∈h.2,0<=x.2/\x.2<(h.1.length:Int)
 val:∀t∈h.1,∀p∈t.2.2.2,0<=p.2/\p.2<(h.1.length:Int)
structure Om (h:AG) (m:Nat) (s:Ei):Prop where
 len:s.1.length=m
 ty:∀t∈s.1,0<=t/\t<(h.1.length:Int)
 wt:∀n∈s.2,0<=n/\n<(m:Int)
theorem Om.get {h:AG} {m:Nat} {s:Ei} (hs:Om h m s) {n:Int} (n0:0<=n) (n1:n<(m:Int)):0<=s.1.getD n.toNat 0/\s.1.getD n.toNat 0<(h.1.length:Int):=by
 have a:n.toNat<s.1.length:=by rw[hs.len];omega
 rw[AS,AT a];exact hs.ty _ (nO a)
def mJ (h:AG) (t:Int):Nat:=((List.range h.1.length).filter λi:Nat=>Aj h t (i:Int)).length
def OV (h:AG) (ty:List Int):Nat:=(ty.map (mJ h)).sum
theorem bS {α:Type} {p q:α->Bool}:∀ {l:List α},(∀x∈l,q x=true->p x=true)->(∃b∈l,p b=true/\q b=false)->(l.filter q).length<(l.filter p).length
 | [],_,⟨b,c,_⟩=>by cases c
 | x :: l,h1,⟨b,c,f,g⟩=>by
  have i:∀ {l:List α},(∀x∈l,q x=true->p x=true)->(l.filter q).length<=(l.filter p).length:=by
   intro l h;induction l with
   | nil=>exact OR _
   | cons y l j =>
    have e:=j λz d=>h z (IN _ d);rw[Tu,Tu];by_cases a:q y=true
    .rw[BY a,BY (h y sc a)];simp only[Is];omega
    rw[At a];split
    .simp only[Is];omega
    exact e
  rw[Tu,Tu];rcases Do.1 c with rfl|c
  .rw[At (by rw[g];simp),BY f];have:=i λz d=>h1 z (IN _ d);simp only[Is];omega
  have e:=bS (λz d=>h1 z (IN _ d)) ⟨b,c,f,g⟩;by_cases a:q x=true
  .rw[BY a,BY (h1 x sc a)];simp only[Is];omega
  rw[At a];split
  .simp only[Is];omega
  exact e
theorem WF {h:AG} (hk:Ew h) {a:Int} (b:0<=a) (c:a<(h.1.length:Int)):Aj h a a=true:=(BV hk b c b c).2 λ_ h=>h
theorem Gf {h:AG} (hk:Ew h) {a b c:Int} (d:0<=a) (e:a<(h.1.length:Int)) (f:0<=b) (b1:b<(h.1.length:Int)) (c0:0<=c) (c1:c<(h.1.length:Int)) (h1:Aj h a b=true) (g:Aj h b c=true):Aj h a c=true :=
 (BV hk d e c0 c1).2 λi hi=>(BV hk d e f b1).1 h1 i ((BV hk f b1 c0 c1).1 g i hi)
theorem wM {h:AG} (hk:Ew h) (hi:KB h) {a m:Int} (b:0<=a) (c:a<(h.1.length:Int)) (f:0<=m) (g:m<(h.1.length:Int)) (hs:Aj h a m=true) (i:m≠a):mJ h m<mJ h a:=by
 refine bS (λx d e=>?_) ⟨a.toNat,SH.2 O1,?_,?_⟩
 .have d:=SH.1 d;exact Gf hk b c f g (Tw _) O1 hs e
 .rw[AC3 b];exact WF hk b c
 rw[AC3 b];cases e:Aj h m a with
 | false=>rfl
 | true=>exact absurd (hi m a f g b c e hs) i
theorem wN {α:Type} (g:α->Nat) (d:α):∀ {l:List α} {i:Nat} {v:α},i<l.length->((l.set i v).map g).sum+g (l.getD i d)=(l.map g).sum+g v
 | [],i,v,h=>by simp at h
 | x :: l,0,v,h=>by simp only[ACo,SK,ADR,List.getD_cons_zero];omega
 | x :: l,i+1,v,h=>by
  have:=wN g d (l:=l) (i:=i) (v:=v) (by simpa using h);simp only[ADG,SK,ADR,List.getD_cons_succ];omega
theorem FJ {h:AG} (hk:Ew h) (hi:KB h) {m:Nat} {s b:Ei} (hs:Om h m s) {n t:Int} (n0:0<=n) (n1:n<(m:Int)) (o:0<=t) (p:t<(h.1.length:Int)) (e:DS h s n t=some b) :
  Om h m b/\OV h b.1+b.2.length<=OV h s.1+s.2.length/\s.2.length<=b.2.length:=by
 obtain⟨c,d⟩:=hs.get n0 n1;unfold DS at e;split at e
 .rename_i j;obtain⟨f,g,l,u⟩:=(NK hk c d o p).1 j;generalize (Bu h (s.1.getD n.toNat 0) t).1=v at *;injection e with e
  split at e
  .subst e;exact⟨hs,OR _,OR _⟩
  rename_i k;subst e;have r:=wM hk hi c d f g l k;have i:n.toNat<s.1.length:=by rw[hs.len];omega
  have q:=wN (mJ h) 0 (v:=v) i;refine⟨⟨by simp only[Tq];exact hs.len,λx a=>?_,λx a=>?_⟩,?_,by simp⟩
  .rcases ACx a with a|rfl
   .exact hs.ty x a
   exact⟨f,g⟩
  .rcases ON.1 a with a|a
   .exact hs.wt x a
   rw[Tr.1 a];exact⟨n0,n1⟩
  unfold OV;simp only[F3,R7];omega
 cases e
def GF (h:AG) (m:Nat) (a:Int×Int):Prop:=(0<=a.1/\a.1<(h.2.length:Int))/\0<=a.2/\a.2<(m:Int)
theorem Hj {h:AG} (hf:bQ h) {f:Int} (b:0<=f) (c:f<(h.2.length:Int)):0<=Ke h f/\Ke h f<(h.1.length:Int):=by
 have a:f.toNat<h.2.length:=by omega
 unfold Ke;rw[AS,AT a];exact hf.int _ (nO a)
theorem bT {f:Int}:∀ {l:List (Int×Int)},(EY f l).2=true->(f,(EY f l).1)∈l
 | [],h=>by cases h
 | x :: l,h=>by
  unfold EY at h ⊢;split
  .rename_i e;rw[<-e];simp
  rename_i e;rw[At e]at h;exact IN _ (bT h)
theorem A0h {h:AG} {t:Int} (a:0<=t) (b:t<(h.1.length:Int)):h.1.getD t.toNat Pw∈h.1:=AD h.1 Pw O1
theorem EZ {h:AG} (hf:bQ h) {t f:Int} (a:0<=t) (b:t<(h.1.length:Int)) (e:(BW h t f).2=true):0<=(BW h t f).1/\(BW h t f).1<(h.1.length:Int) :=
 hf.val _ (A0h a b) _ (bT e)
theorem RW {h:AG} (hk:Ew h) (hi:KB h) (hf:bQ h) {m:Nat} {n:Int} (n0:0<=n) (n1:n<(m:Int)):∀ {l:List (Int×Int)} {s c:Ei},(∀a∈l,GF h m a)->Om h m s->NQ h n l s=some c ->
  Om h m c/\OV h c.1+c.2.length<=OV h s.1+s.2.length/\s.2.length<=c.2.length
 | [],s,c,_,hs,e=>by
  injection e with e
  subst e;exact⟨hs,OR _,OR _⟩
 | a :: l,s,c,f,hs,e=>by
  unfold NQ at e;cases d:DS h s n (Ke h a.1) with
  | none=>rw[d]at e;cases e
  | some s1 =>
   rw[d]at e;obtain⟨⟨g,i⟩,-⟩:=f a sc;obtain⟨o,p⟩:=Hj hf g i;obtain⟨j,r,t⟩:=FJ hk hi hs n0 n1 o p d;obtain⟨q,u,v⟩:=RW hk hi hf n0 n1 (λb k=>f b (by simp[k])) j e;exact⟨q,by omega,by omega⟩
theorem WG {h:AG} (hk:Ew h) (hi:KB h) (hf:bQ h) {m:Nat} {n:Int} (n0:0<=n) (n1:n<(m:Int)):∀ {l:List (Int×Int)} {s c:Ei},(∀a∈l,GF h m a)->Om h m s->Ol h n l s=some c ->
  Om h m c/\OV h c.1+c.2.length<=OV h s.1+s.2.length/\s.2.length<=c.2.length
 | [],s,c,_,hs,e=>by
  injection e with e
  subst e;exact⟨hs,OR _,OR _⟩
 | a :: l,s,c,g,hs,e=>by
  unfold Ol at e;split at e
  .rename_i o;obtain⟨j,f⟩:=hs.get n0 n1;obtain⟨p,q⟩:=EZ hf j f o;cases d:DS h s a.2 (BW h (s.1.getD n.toNat 0) a.1).1 with
   | none=>rw[d]at e;cases e
   | some s1 =>
    rw[d]at e;obtain⟨-,i,b1⟩:=g a sc;obtain⟨f,t,u⟩:=FJ hk hi hs i b1 p q d;obtain⟨r,v,w⟩:=WG hk hi hf n0 n1 (λb k=>g b (by simp[k])) f e;exact⟨r,by omega,by omega⟩
  cases e
def NR (h:AG) (f:List AE):Prop:=∀x∈f,∀a∈x.2,GF h f.length a
theorem NS {h:AG} {f:List AE} (ha:NR h f) {n:Int} (n0:0<=n) (n1:n<(f.length:Int)):∀a∈(f.getD n.toNat (0,[])).2,GF h f.length a:=ha _ (AD f (0,[]) O1)
theorem YN {h:AG} (hk:Ew h) (hi:KB h) (hf:bQ h) {f:List AE} (ha:NR h f) {n:Int} (n0:0<=n) (n1:n<(f.length:Int)) {s a:Ei} (hs:Om h f.length s) (e:MJ h f n s=some a) :
  Om h f.length a/\OV h a.1+a.2.length<=OV h s.1+s.2.length/\s.2.length<=a.2.length:=by
 unfold MJ at e;cases b:NQ h n (f.getD n.toNat (0,[])).2 s with
 | none=>rw[b]at e;cases e
 | some s1 =>
  rw[b]at e;obtain⟨c,g,i⟩:=RW hk hi hf n0 n1 (NS ha n0 n1) hs b;obtain⟨d,j,k⟩:=WG hk hi hf n0 n1 (NS ha n0 n1) c e;exact⟨d,by omega,by omega⟩
theorem A7a (h:AG) (t:Int):mJ h t<=h.1.length:=by
 unfold mJ;exact R5 (bY _ _) sc
theorem A47 (h:AG):∀ty:List Int,OV h ty<=ty.length*h.1.length
 | []=>by simp[OV]
 | t :: ty=>by
  have h1:=A47 h ty;have a:=A7a h t;unfold OV at h1 ⊢;simp only[SK,ADR,Is,ADp,Nat.one_mul];omega
def Iy (h:AG) (f:List AE):Nat:=f.length*h.1.length+f.length+1
def Gg (h:AG) (f:List AE):Option (List Int):=wlF h f (Iy h f) 0 (A2 f,Es f)
def E9 (h:AG) (f:List AE):List AE×Bool:=match Gg h f with
 | some ty=>(CP f ty,true)
 | none=>([],false)
theorem mK {h:AG} {f:List AE} (a:∀x∈f,0<=x.1/\x.1<(h.1.length:Int)):Om h f.length (A2 f,Es f):=by
 refine⟨by simp[A2],λt h1=>?_,λn hn=>?_⟩
 .obtain⟨x,b,rfl⟩:=DO.1 h1;exact a x b
 obtain⟨i,hi,rfl⟩:=DO.1 hn;have:=SH.1 hi;omega
theorem gI (h:AG) (f:List AE):OV h (A2 f)+(Es f).length+1<=Iy h f:=by
 have:=A47 h (A2 f);unfold Iy;rw[show (A2 f).length=f.length by simp[A2]]at this;rw[show (Es f).length=f.length by simp[Es]];omega
section
attribute [local go_sem] Dp
def A48 (a:Int->Int×Int->Bool) (f:List AE) (i:Nat):AE:=((f.getD i (0,[])).1,(f.getD i (0,[])).2.filter (a (i:Int)))
def Gy (a:Int->Int×Int->Bool) (f:List AE) (i:Nat):List AE:=(List.range i).map (A48 a f)
def YO (a:Int->Int×Int->Bool) (f:List AE):List AE:=AK (Gy a f f.length) 0
theorem Kg (a:Int->Int×Int->Bool) (f:List AE) (i:Nat):(Gy a f i).length=i:=by simp[Gy]
theorem Gh (l:List (Int×Int)):NN l↔l.Pairwise (λa b=>a.1<b.1):=by
 constructor
 .intro h;rw[SI];have key:∀d i,i+d+1<l.length->(l.getD i (0,0)).1<(l.getD (i+d+1) (0,0)).1:=by
   intro d;induction d with
   | zero=>intro i hi;exact h i hi
   | succ d e =>
    intro i hi;have h1:=e i O1;have f:=h (i+d+1) O1;have:i+(d+1)+1=i+d+1+1:=by omega
    rw[this];omega
  intro i j hi c g;have h1:=key (j-i-1) i O1;rw[show i+(j-i-1)+1=j by omega]at h1;simpa[AS,hi,c] using h1
 intro h i hi;rw[SI]at h;have:=h i (i+1) O1 hi O1;simpa[AS,hi,show i<l.length by omega] using this
theorem mL {l:List (Int×Int)} (h:NN l) (p:Int×Int->Bool):NN (l.filter p):=by
 rw[Gh]at h ⊢;exact h.sublist ADB
theorem bU {f:List AE} (hf:AQ f) (hs:Ix f) (d:Int->Int×Int->Bool):AQ (Gy d f f.length)/\Ix (Gy d f f.length):=by
 have e:∀i,i<f.length->f.getD i (0,[])∈f:=λi hi=>AD f (0,[]) hi;refine⟨⟨by rw[Kg];exact hf.1,λx c=>?_⟩,λx c=>?_⟩
 .obtain⟨i,hi,rfl⟩:=DO.1 c;have hi:i<f.length:=SH.1 hi;obtain⟨h1,b⟩:=hf.2 _ (e i hi);rw[Kg];exact⟨R5 (bY _ _) h1,λa ha=>b a (Tz.1 ha).1⟩
 obtain⟨i,hi,rfl⟩:=DO.1 c;have hi:i<f.length:=SH.1 hi;obtain⟨h1,b⟩:=hs _ (e i hi);exact⟨mL h1 _,R5 (bY _ _) b⟩
theorem NT (p:Int×Int->Bool) (l:List (Int×Int)) {k:Nat} (h:k<l.length):(l.take (k+1)).filter p=(l.take k).filter p++(if p (l.getD k (0,0)) then [l.getD k (0,0)] else []):=by
 rw[AY l (0,0) h,ACr]
 congr 1
 rw[Tu,AD4]
def MK (l:List Int):List (Int×Bool):=l.foldl (λm x=>Gq T3 .bool x true m) []
theorem sL {b:Ty} (x k:Int) (v:b.den) (m:List (Int×b.den)):Bl T3 b x (Gq T3 b k v m)=if x=k then some v else Bl T3 b x m:=by
 induction m with
 | nil=>simp[Gq,Bl,JH]
 | cons y m g =>
  simp only[Gq];by_cases c:JH T3 k y.1=true
  .rw[BY c];have d:k=y.1:=by simpa[JH] using c
   simp only[Bl,JH,Tx];by_cases a:x=k
   .rw[BY a,BY a]
   rw[At a,At a,At (by rw[<-d];exact a)]
  rw[At c];have d:¬k=y.1:=by simpa[JH] using c
  simp only[Bl];by_cases a:JH T3 x y.1=true
  .have f:x=y.1:=by simpa[JH] using a
   rw[BY a,BY a,At (by rw[f];exact λe=>d e.symm)]
  rw[At a,At a,g]
theorem A7b (l:List Int) (x:Int):(Bl T3 .bool x (MK l)).getD false=v6 l x:=by
 induction l using Dn with
 | h0=>rfl
 | h1 l a c =>
  have e:MK (l++[a])=Gq T3 .bool a true (MK l):=by simp[MK]
  rw[e,sL];by_cases b:x=a
  .rw[BY b];subst b;simp[v6]
  rw[At b,c];simp only[v6,AD5,List.any_cons,List.any_nil,Bool.or_false];have:(a==x)=false:=by simpa using λe=>b e.symm
  rw[this,Bool.or_false]
end
theorem Kh {x y:Int} {xs ys:List Int} (h:Lh (x :: xs) (y :: ys)=0):x=y/\Lh xs ys=0:=by
 simp only[Lh]at h;split at h
 .cases h
 split at h
 .cases h
 exact⟨by omega,h⟩
theorem YP:∀ {l m:List (Int×Int)} {r s:List Int},l.length=m.length->Lh (l.flatMap (λa=>[a.1,a.2])++r) (m.flatMap (λa=>[a.1,a.2])++s)=0->l=m/\Lh r s=0
 | [],[],_,_,_,h=>⟨rfl,by simpa using h⟩
 | [],_ :: _,_,_,b,_=>by simp at b
 | _ :: _,[],_,_,b,_=>by simp at b
 | (c,d) :: l,(b1,b2) :: m,r,s,b,h=>by
  have h:Lh (c :: d :: (l.flatMap (λa=>[a.1,a.2])++r)) (b1 :: b2 :: (m.flatMap (λa=>[a.1,a.2])++s))=0:=by simpa using h
  obtain⟨e,i⟩:=Kh h;obtain⟨f,j⟩:=Kh i;obtain⟨g,k⟩:=YP (l:=l) (m:=m) (by simpa using b) j;exact⟨by rw[e,f,g],k⟩
theorem YQ:∀ {l m:List AE} {r s:List Int},l.length=m.length->Lh (l.flatMap Xt++r) (m.flatMap Xt++s)=0->l=m/\Lh r s=0
 | [],[],_,_,_,h=>⟨rfl,by simpa using h⟩
 | [],_ :: _,_,_,b,_=>by simp at b
 | _ :: _,[],_,_,b,_=>by simp at b
 | (d,c) :: l,(b1,b2) :: m,r,s,b,h=>by
  have h:Lh (d :: (c.length:Int) :: (c.flatMap (λa=>[a.1,a.2])++(l.flatMap Xt++r))) (b1 :: (b2.length:Int) :: (b2.flatMap (λa=>[a.1,a.2])++(m.flatMap Xt++s)))=0:=by simpa[Xt] using h
  obtain⟨e,i⟩:=Kh h;obtain⟨o,j⟩:=Kh i;obtain⟨f,k⟩:=YP (l:=c) (m:=b2) O1 j;obtain⟨g,n⟩:=YQ (l:=l) (m:=m) (by simpa using b) k;exact⟨by rw[e,f,g],n⟩
theorem Ji {a b:List AE} (h:DB a b=0):a=b:=by
 unfold DB B7 at h;obtain⟨h1,c⟩:=Kh h;have:=YQ (l:=a) (m:=b) (r:=[]) (s:=[]) O1 (by simpa using c);exact this.1
theorem bV:∀l:List Int,Lh l l=0
 | []=>rfl
 | x :: l=>by simp[Lh,bV l]
theorem Fh (a:List AE):DB a a=0:=bV _
theorem YR (x:Int×Int) (s:List (Int×Int)):∀n,(∀j,Ir x s n<=j->j<n->x.1<(s.getD j (0,0)).1)/\(0<Ir x s n->(s.getD (Ir x s n-1) (0,0)).1<=x.1)
 | 0=>⟨λj h1 b=>by omega,λh=>by simp[Ir]at h⟩
 | n+1=>by
  obtain⟨h1,b⟩:=YR x s n;unfold Ir;split
  .rename_i c;refine⟨λj a d=>?_,b⟩;by_cases e:j=n
   .subst e;exact c
   exact h1 j a O1
  rename_i c;exact⟨λj a d=>by omega,λ_=>by simp only[Nat.add_sub_cancel];omega⟩
theorem A9C {l:List (Int×Int)} (h:l.Pairwise (λa b=>a.1<=b.1)) {i j:Nat} (d:i<=j) (c:j<l.length):(l.getD i (0,0)).1<=(l.getD j (0,0)).1:=by
 rcases Nat.eq_or_lt_of_le d with rfl|e
 .exact ACD _
 rw[SI]at h;have:=h i j O1 c e;simpa[AS,c,show i<l.length by omega] using this
theorem mM {s:List (Int×Int)} (h:s.Pairwise (λa b=>a.1<=b.1)) (x:Int×Int):(Pv s x).Pairwise (λa b=>a.1<=b.1):=by
 obtain⟨h1,g⟩:=YR x s s.length;have m:=V0 x s s.length;unfold Pv;generalize Ir x s s.length=p at *;rw[ACs,ACs];have f:∀a∈s.take p,a.1<=x.1:=λa ha=>by
  obtain⟨i,hi,rfl⟩:=aT.1 ha;rw[OF]at hi;have k:=A9C h (i:=i) (j:=p-1) O1 O1;have l:=g O1;have e:(s.take p)[i].1=(s.getD i (0,0)).1:=by simp[AS,show i<s.length by omega]
  rw[e];omega
 have d:∀b∈s.drop p,x.1<=b.1:=λb c=>by
  obtain⟨i,hi,rfl⟩:=aT.1 c;rw[dO]at hi;have k:=h1 (p+i) O1 O1;have e:(s.drop p)[i].1=(s.getD (p+i) (0,0)).1:=by simp[AS,show p+i<s.length by omega]
  rw[e];omega
 refine⟨⟨h.sublist (List.take_sublist _ _),by simp,λa ha b c=>?_⟩,h.sublist (List.drop_sublist _ _),λa ha b c=>?_⟩
 .have:b=x:=by simpa using c
  rw[this];exact f a ha
 rcases ON.1 ha with ha|ha
 .exact ACu (f a ha) (d b c)
 have:a=x:=by simpa using ha
 rw[this];exact d b c
theorem ML (l:List (Int×Int)):(AU l).Pairwise (λa b=>a.1<=b.1):=by
 induction l using Dn with
 | h0=>exact List.Pairwise.nil
 | h1 l a c=>rw[IE];exact mM c a
theorem Ux {n:Int}:∀ {l seen:List (Int×Int)},GZ n seen l=0->(l.map (·.1)).Nodup/\∀a∈l,∀b∈seen,b.1≠a.1
 | [],_,_=>⟨by simp,λa ha=>by cases ha⟩
 | x :: l,seen,h=>by
  simp only[GZ]at h;split at h
  .cases h
  split at h
  .cases h
  rename_i h1 d;obtain⟨g,f⟩:=Ux h;have d:∀b∈seen,b.1≠x.1:=λb c e=>d (R9.2 ⟨b,c,by simp[e]⟩);refine⟨?_,λa ha b c=>?_⟩
  .rw[SK,gO];refine⟨λi=>?_,g⟩;obtain⟨a,ha,e⟩:=DO.1 i;exact f a ha x sc e.symm
  rcases Do.1 ha with rfl|ha
  .exact d b c
  exact f a ha b (by simp[c])
theorem YS {m:Int}:∀ {f:List AE},Ga m f=0->∀x∈f,Gx x.2 m=0
 | [],_,x,a=>by cases a
 | y :: f,h,x,a=>by
  simp only[Ga]at h;split at h
  .cases h
  split at h
  .rename_i h1 b;exact absurd h b
  rename_i h1 b;rcases Do.1 a with rfl|a
  .exact IF b
  exact YS h x a
theorem A0i {l:List (Int×Int)} (h:l.Pairwise (λa b=>a.1<=b.1)) (hn:(l.map (·.1)).Nodup):l.Pairwise (λa b=>a.1<b.1):=by
 rw[List.Nodup,oN]at hn;refine(h.and hn).imp λ{a b} c=>?_;have h1:=c.1;have d:¬a.1=b.1:=c.2;omega
theorem NU {f:List AE} (h:EI f=true):AQ f/\Ix f/\0<f.length/\E6 f=true:=by
 unfold EI at h;simp only[As,Tx]at h;obtain⟨⟨e,_⟩,c,d⟩:=h;obtain⟨t,g⟩:=Hf e;have r:X3 f:=λx b=>R5 (g x b) O1;have a:CH f=0:=by
  unfold BF at c;split at c
  .assumption
  exact c
 obtain⟨o,h0⟩:=Iu a r;have k:(BF f).1=Ff f 0:=by unfold BF;rw[BY a]
 rw[k]at d;have l:=Ji d;refine⟨o,λx b=>⟨?_,R5 (g x b) O1⟩,h0,e⟩;rw[<-l]at b;obtain⟨n,_,rfl⟩:=DO.1 b;rw[Gh];have j:((f.getD n.toNat (0,[])).2.map (·.1)).Nodup:=by
  by_cases p:n.toNat<f.length
  .have q:f.getD n.toNat (0,[])∈f:=AD f (0,[]) p;have m:Ga f.length f=0:=by
    unfold CH at a;split at a
    .cases a
    split at a
    .cases a
    exact a
   exact(Ux (YS m _ q)).1
  rw[AS,SA O1];simp
 have s:=A0i (ML (f.getD n.toNat (0,[])).2) (((CJ _).map (·.1)).nodup_iff.2 j);unfold MC;simp only;rw[oN];exact s.imp λi=>i
section
attribute [local go_sem] WE WD O7 X5
theorem A9D (a b:List AE):(DB a b==0)=(Uv a b==0):=by
 rw[ACB,Tx,Tx,sI];exact⟨Ji,λe=>by rw[e];exact Fh b⟩
def RY:AZ:={ ins:=[D8,DK],pre:=λ(_,f,_)=>DC f/\Uw f,out:=λ(h,f,_)=>[.p MU (BH h f)] }
attribute [local go_sem] RY
theorem bW:Aa Tryz.prog 66 RY:=by
 refine fK [0,1,2,3,4,5,6,8,10,17,20,21,22,23,31,33,34,35,36,44,50] Tryz.func66 Tryz.ntmps66 (AF A0g (AF A0e AH)) ?_;rintro w0 O0 ⟨⟨b,hf⟩,f,u⟩ d-⟨hs,n⟩;have hs:DC f:=hs;have n:Uw f:=n;simp only[RY,AL];repeat'(first|exact trivial|apply eS rfl|refine rX d ?_ ?_|refine rC ?_ ?_<;>intro a<;>try(cases a;done))
 .exact n
 .have h1:BH (b,hf) f=(BF f).2:=by unfold BH;rw[BY a]
  exact fI d [.tmp 4] (by rw[h1];exact eR)
 have t:(BF f).2=0:=by simpa using a
 have x:=Ur hs.2;have w:=hs.1;have g:BH (b,hf) f=if f.all (Us (b,hf))=false then 2 else if (Uv f (BF f).1==0)=false then 3 else 0:=by unfold BH;rw[At (by rw[t];simp),A9D f (BF f).1]
 refine AI (ι:={i:Nat//i<=f.length/\(f.take i).all (Us (b,hf))=true}) (λi=>⟨[(2,.bp 2 [] 0),(3,.bp 3 [] 0),(5,.bp 5 [] 0),(20,.p DV f),(21,.p (.int .i64) (f.length:Int)),(22,.p (.int .i64) (i.1:Int))],[(2,.box 31 true [.p O2 b,.p QG hf]),(3,.box 25 true [.p DV f]),(5,.box 25 true [.p DV (BF f).1])]⟩) (λi=>f.length-i.1) ⟨0,by simp⟩ (eW [(2,.nm 2),(3,.nm 3),(5,.nm 5)]) (λi=>?_)
 obtain⟨i,hi,l⟩:=i;have r:=λh:i<f.length=>HD f (0,[]) (Us (b,hf)) h;simp only;repeat'(first|exact trivial|apply eS rfl|refine rX d ?_ ?_|refine rC ?_ ?_<;>intro a<;>try(cases a;done))
 .exact a
 .have c:i<f.length:=GO.1 (by assumption);have e:f.all (Us (b,hf))=false:=by
   rw[ACg];refine⟨_,AD f (0,[]) c,?_⟩;unfold Us;rw[ACj (AC2.2 a)];simp
  rw[BY e]at g;exact fI d [.tmp 4] (by rw[g];exact eR)
 .have c:i<f.length:=GO.1 (by assumption);have o:=AD f (0,[]) c;have q:Us (b,hf) (f.getD i (0,[]))=(f.getD i (0,[])).2.all (rQ (b,hf)):=by
   unfold Us;rw[ABV (show (f.getD i (0,[])).1<(b.length:Int) from a)];rfl
  have v:(f.getD i (0,[])).2.length<=100000:=hs.2 _ o;refine AI (ι:={k:Nat//k<=(f.getD i (0,[])).2.length/\((f.getD i (0,[])).2.take k).all (rQ (b,hf))=true}) (λk=>⟨[(2,.bp 2 [] 0),(3,.bp 3 [] 0),(5,.bp 5 [] 0),(20,.p DV f),(21,.p (.int .i64) (f.length:Int)),(22,.p (.int .i64) (i:Int)),(33,.p Cl (f.getD i (0,[])).2),(34,.p (.int .i64) ((f.getD i (0,[])).2.length:Int)),(35,.p (.int .i64) (k.1:Int))],[(2,.box 31 true [.p O2 b,.p QG hf]),(3,.box 25 true [.p DV f]),(5,.box 25 true [.p DV (BF f).1])]⟩) (λk=>(f.getD i (0,[])).2.length-k.1) ⟨0,by simp⟩ (eW [(2,.nm 2),(3,.nm 3),(5,.nm 5)]) (λk=>?_)
  obtain⟨k,hk,m⟩:=k;have s:=λh:k<(f.getD i (0,[])).2.length=>HD (f.getD i (0,[])).2 (0,0) (rQ (b,hf)) h;simp only;repeat'(first|exact trivial|apply eS rfl|apply AB|refine rX d ?_ ?_|refine rC ?_ ?_<;>intro a<;>try(cases a;done))
  .exact a
  .have j:k<(f.getD i (0,[])).2.length:=GO.1 (by assumption);have e:f.all (Us (b,hf))=false:=by
    rw[ACg];refine⟨_,o,?_⟩;rw[q,ACg.2 ⟨_,AD (f.getD i (0,[])).2 (0,0) j,by unfold rQ;rw[ACj (AC2.2 a)];simp⟩];simp
   rw[BY e]at g;exact fI d [.tmp 4] (by rw[g];exact eR)
  .exact eV
  .have j:k<(f.getD i (0,[])).2.length:=GO.1 (by assumption);refine⟨⟨k+1,j,?_⟩,by simp only;omega,AC [(2,.nm 2),(3,.nm 3),(5,.nm 5)] rfl rfl ?_ ?_⟩
   .rw[s j,m];unfold rQ;exact ABV a
   .exact eN
   exact eN
  .exact eV
  have j:(f.getD i (0,[])).2.take k=(f.getD i (0,[])).2:=An (R4.1 a);rw[j]at m;refine⟨⟨i+1,c,?_⟩,by simp only;omega,AC [(2,.nm 2),(3,.nm 3),(5,.nm 5)] rfl rfl ?_ ?_⟩
  .rw[r c,l,q,m];rfl
  .exact eN
  exact eN
 .exact hs
 .have c:f.take i=f:=An (R4.1 (by assumption));rw[c]at l;rw[At (by rw[l];simp),BY (by simpa using a)]at g;exact fI d [.tmp 4] (by rw[g];exact eR)
 have c:f.take i=f:=An (R4.1 (by assumption));rw[c]at l;rw[At (by rw[l];simp),At (by rw[a];simp)]at g;exact fI d [.tmp 4] (by rw[g];exact eR)
end
section
attribute [local go_sem] RY O7 X5
def Y1 (h:AG) (f:List AE) (t:Int):List (Int×Int)->Int
 | []=>0
 | a :: l=>if (BW h t a.1).2=false then 10 else if Aj h (BW h t a.1).1 (f.getD a.2.toNat (0,[])).1=false then 11 else Y1 h f t l
def D0 (h:AG) (f:List AE):List AE->Int
 | []=>0
 | x :: l=>if Y1 h f x.1 x.2=0 then D0 h f l else Y1 h f x.1 x.2
def Ag (h:AG) (f:List AE):Int:=if BH h f=0 then D0 h f f else BH h f
structure Chk (h:AG) (f:List AE):Prop where
 ty:∀x∈f,0<=x.1/\x.1<(h.1.length:Int)
 arc:∀x∈f,∀a∈x.2,GF h f.length a
theorem A49 {h:AG} {f:List AE} (e:BH h f=0):Chk h f:=by
 have h1:(BF f).2=0:=by
  refine IF λhn=>?_;unfold BH at e;rw[BY hn]at e;exact hn e
 have c:CH f=0:=by
  refine IF λhn=>?_;unfold BF at h1;rw[At hn]at h1;exact hn h1
 have d:f.all (Us h)=true:=by
  cases k:f.all (Us h) with
  | true=>rfl
  | false =>
   unfold BH at e;rw[At (by rw[h1];simp),BY k]at e;cases e
 have j:Ga f.length f=0:=by
  unfold CH at c;split at c
  .cases c
  split at c
  .cases c
  exact c
 have g:=It j;rw[No]at d;have i:∀x∈f,x.1<(h.1.length:Int)/\∀a∈x.2,a.1<(h.2.length:Int):=λx b=>by
  have:=d x b;unfold Us at this;rw[As,NO,No]at this;exact⟨this.1,λa ha=>by have:=this.2 a ha;unfold rQ at this;simpa using this⟩
 exact⟨λx b=>⟨(g x b).1,(i x b).1⟩,λx b a ha=>by
  obtain⟨l,m,n⟩:=(g x b).2 a ha;exact⟨⟨l,(i x b).2 a ha⟩,m,n⟩⟩
theorem O9 (h:AG) (f l:List AE) {k:Nat} (hk:k<l.length):D0 h f (l.drop k)=if Y1 h f (l.getD k (0,[])).1 (l.getD k (0,[])).2=0 then D0 h f (l.drop (k+1)) else Y1 h f (l.getD k (0,[])).1 (l.getD k (0,[])).2:=by
 rw[MG (0,[]) hk];rfl
theorem Uy (h:AG) (f:List AE) (t:Int) (l:List (Int×Int)) {k:Nat} (hk:k<l.length):Y1 h f t (l.drop k)=if (BW h t (l.getD k (0,0)).1).2=false then 10 else if Aj h (BW h t (l.getD k (0,0)).1).1 (f.getD (l.getD k (0,0)).2.toNat (0,[])).1=false then 11 else Y1 h f t (l.drop (k+1)):=by
 rw[MG (0,0) hk];rfl
def WH:AZ:={ ins:=[D8,DK],pre:=λ(h,f,_)=>bQ h/\DC f/\Uw f,out:=λ(h,f,_)=>[.p MU (Ag h f)] }
attribute [local go_sem] WH
theorem A0j:Aa Tryz.prog 34 WH:=by
 refine fK [0,1,2,3,4,5,7,9,10,11,16,19,20,21,22,26,27,28,29,42,53] Tryz.func34 Tryz.ntmps34 (AF bW (AF wG (AF f6 AH))) ?_;rintro w0 O0 ⟨⟨a,hf⟩,f,u⟩ e-⟨o,hs,s⟩;have o:bQ (a,hf):=o;have hs:DC f:=hs;have s:Uw f:=s;have K:=hs.1;simp only[WH,AL];repeat'(first|exact trivial|apply eS rfl|refine rX e ?_ ?_|refine rC ?_ ?_<;>intro b<;>try(cases b;done))
 .exact⟨hs,s⟩
 .have j:Ag (a,hf) f=BH (a,hf) f:=At b;exact fI e [.tmp 4] (by rw[j];exact eR)
 have C:BH (a,hf) f=0:=by simpa using b
 have j:Ag (a,hf) f=D0 (a,hf) f f:=BY C;obtain⟨A,E⟩:=A49 C;refine AI (ι:={i:Nat//i<=f.length/\D0 (a,hf) f f=D0 (a,hf) f (f.drop i)}) (λi=>⟨[(2,.bp 2 [] 0),(3,.bp 3 [] 0),(19,.p DV f),(20,.p (.int .i64) (f.length:Int)),(21,.p (.int .i64) (i.1:Int))],[(2,.box 31 true [.p O2 a,.p QG hf]),(3,.box 25 true [.p DV f])]⟩) (λi=>f.length-i.1) ⟨0,If _,rfl⟩ (eW [(2,.nm 2),(3,.nm 3)]) (λi=>?_)
 obtain⟨i,hi,g⟩:=i;have I:=λh:i<f.length=>O9 (a,hf) f f h;have H:=λh:i<f.length=>AD f (0,[]) h;simp only;repeat'(first|exact trivial|apply eS rfl|refine rX e ?_ ?_|refine rC ?_ ?_<;>intro b<;>try(cases b;done))
 .exact b
 .have q:i<f.length:=GO.1 b;have m:=I q;have r:=H q;obtain⟨y,z⟩:=A _ r;have B:=E _ r;have F:=hs.2 _ r;generalize M:f.getD i (0,[])=x at *;obtain⟨t,L⟩:=x;simp only at m y z B F ⊢;refine AI (ι:={k:Nat//k<=L.length/\Y1 (a,hf) f t L=Y1 (a,hf) f t (L.drop k)}) (λk=>⟨[(2,.bp 2 [] 0),(3,.bp 3 [] 0),(7,.bp 7 [] 0),(19,.p DV f),(20,.p (.int .i64) (f.length:Int)),(21,.p (.int .i64) (i:Int)),(26,.p Cl L),(27,.p (.int .i64) (L.length:Int)),(28,.p (.int .i64) (k.1:Int))],[(7,.box 93 true [.p T3 t,.p Cl L]),(2,.box 31 true [.p O2 a,.p QG hf]),(3,.box 25 true [.p DV f])]⟩) (λk=>L.length-k.1) ⟨0,If _,rfl⟩ (eW [(7,.nm 7),(2,.nm 2),(3,.nm 3)]) (λk=>?_)
  obtain⟨k,hk,c⟩:=k;have v:=λh:k<L.length=>Uy (a,hf) f t L h;have G:=λh:k<L.length=>B _ (AD L (0,0) h);simp only;have J:=EZ (f:=(L.getD k (0,0)).1) o y z;repeat'(first|exact trivial|apply eS rfl|apply AB|refine rX e ?_ ?_|refine rC ?_ ?_<;>intro b<;>try(cases b;done))
  .exact b
  .exact⟨y,z⟩
  .have d:k<L.length:=by exact eV
   rw[v d,BY b]at c;have l:Ag (a,hf) f=10:=by rw[j,g,m,At (by rw[c];simp),c]
   exact fI e [.tmp 4] (by rw[l];exact eR)
  .have d:k<L.length:=by exact eV
   obtain⟨-,D,b1⟩:=G d;exact⟨⟨D,b1⟩,J b,A _ (AD f (0,[]) O1)⟩
  .have d:k<L.length:=by exact eV
   have w:(BW (a,hf) t (List.getD L k (0,0)).1).2=true:=by assumption
   rw[v d,At (by rw[w];simp),BY b]at c;have l:Ag (a,hf) f=11:=by rw[j,g,m,At (by rw[c];simp),c]
   exact fI e [.tmp 4] (by rw[l];exact eR)
  .omega
  .have d:k<L.length:=by exact eV
   have w:(BW (a,hf) t (List.getD L k (0,0)).1).2=true:=by assumption
   rw[v d,At (by rw[w];simp),At (by rw[b];simp)]at c;exact⟨⟨k+1,d,c⟩,by simp only;omega,eW [(7,.nm 7),(2,.nm 2),(3,.nm 3)]⟩
  .omega
  have n:L.drop k=[]:=By (R4.1 b);rw[n]at c;have c:Y1 (a,hf) f t L=0:=c;rw[m,BY c]at g;exact⟨⟨i+1,q,g⟩,by simp only;omega,eW [(2,.nm 2),(3,.nm 3)]⟩
 have n:f.drop i=[]:=By (R4.1 b);rw[n]at g;have l:Ag (a,hf) f=0:=by rw[j,g];rfl
 exact fI e [.tmp 4] (by rw[l];exact eR)
theorem mN:Aa Tryz.prog 124 O7:=by
 refine fK [0,1,2,3,6,7,8,9,19,28] Tryz.func124 Tryz.ntmps124 AH ?_;rintro w0 O0 ⟨⟨b,hf⟩,t,f,u⟩ d q ⟨j,m⟩;simp only[O7,AL];refine Ev.ent (σ':=⟨[(0,.p D8 (b,hf)),(1,.p T3 t),(2,.p T3 f)],[]⟩) ?_ (AC [] rfl rfl ?_ ?_)
 .repeat'(first|exact trivial|apply eS rfl|refine rX d ?_ ?_)
  .exact⟨j,m⟩
  have o:∀l,l=(List.getD b (Int.toNat t) (ByteArray.empty,[],[],[])).2.2.2->BW (b,hf) t f=EY f l:=λl e=>by rw[e];rfl
  have r:List.length (List.getD b (Int.toNat t) (ByteArray.empty,[],[],[])).2.2.2<=140737488355328:=(q.1.1.2 _ (AD (b:List FM) Pw ((ADi j).2 m))).2.2.2.1;generalize (List.getD b (Int.toNat t) (ByteArray.empty,[],[],[])).2.2.2=l at *;rw[o l rfl];refine AI (ι:={k:Nat//k<=List.length l/\EY f l=EY f (l.drop k)}) (λk=>⟨[(2,.p T3 f),(8,.p Ze l),(9,.p (.int .i64) (k.1:Int))],[]⟩) (λk=>List.length l-k.1) ⟨0,If _,rfl⟩ (eW []) (λk=>?_)
  obtain⟨k,hk,a⟩:=k;have i:=λh:k<List.length l=>YG f l h;simp only;repeat'(first|exact trivial|apply eS rfl|apply AB|refine rX d ?_ ?_|refine rC ?_ ?_<;>intro c<;>try(cases c;done))
  .exact c
  .exact GO.2 (by exact eV)
  .have g:k<List.length l:=by exact eV
   rw[i g,BY c]at a;exact fI d [.tmp 6,.tmp 7] (by rw[a];exact eR)
  .omega
  .have g:k<List.length l:=by exact eV
   rw[i g,At c]at a;exact⟨⟨k+1,g,a⟩,by simp only;omega,eW []⟩
  have n:List.drop k (l:List (Int×Int))=[]:=By (by exact eV);rw[n]at a;have a:EY f l=(0,false):=a;exact fI d [.tmp 6,.tmp 7] (by rw[a];exact eR)
 .exact eN
 exact eN
end
section
attribute [local go_sem] Li O7 Qy
theorem A4a {h:AG} (hk:Ew h) {a b:Int} (c:0<=a) (d:a<(h.1.length:Int)) (e:0<=b) (b1:b<(h.1.length:Int)):FH (BN h b) (BN h a)=Aj h a b:=by
 have f:=hk.1.wds _ (Bj c d);have g:=hk.1.wds _ (Bj e b1);rw[ACB,Fz g f];exact(BV hk c d e b1).symm
def gJ:AZ:={ ins:=[D8,T3,T3],pre:=λ(h,a,b,_)=>(((0:Int)<=a/\a<(List.length (h:AG).1:Int))/\((0:Int)<=b/\b<(List.length (h:AG).1:Int)))/\Ew h,out:=λ(h,a,b,_)=>[.p .bool (Aj h a b)],lend:=true }
attribute [local go_sem] gJ
theorem NV:Aa Tryz.prog 104 gJ:=by
 refine fK [0,1,2,3,6] Tryz.func104 Tryz.ntmps104 (AF Sv AH) ?_;rintro w0 O0 ⟨⟨e,hf⟩,a,b,u⟩ d-⟨⟨ha,c⟩,hk⟩;have hk:Ew (e,hf):=hk;have f:=A4a hk ha.1 ha.2 c.1 c.2;have g:(BN (e,hf) b).length<=100000:=R5 (hk.1.wid _ (Bj c.1 c.2)) O1;simp only[gJ,AL];repeat'(first|exact trivial|apply eS rfl|refine rX d ?_ ?_)
 .exact⟨c,ha,g⟩
 exact fI d [.tmp 6] (by rw[<-f];unfold BN;exact eR)
def NW:AZ:={ ins:=[D8,DK],pre:=λ(h,f,_)=>bQ h/\DC f/\Ew h,out:=λ(h,f,_)=>[.p MU (Ag h f)] }
attribute [local go_sem] NW
theorem YT:Aa Tryz.prog 69 NW:=by
 refine fK [0,1,2,3,4,5,6,7,8,9,10,15,21,33,53,67] Tryz.func69 Tryz.ntmps69 (AF S8 (AF mN (AF NV AH))) ?_;rintro w0 O0 ⟨⟨a,hf⟩,f,u⟩ e-⟨n,hs,r⟩;have n:bQ (a,hf):=n;have hs:DC f:=hs;have r:Ew (a,hf):=r;have I:=hs.1;simp only[NW,AL];repeat'(first|exact trivial|apply eS rfl|refine rX e ?_ ?_|refine rC ?_ ?_<;>intro b<;>try(cases b;done))
 .exact hs
 .have j:Ag (a,hf) f=BH (a,hf) f:=At b;exact fI e [.tmp 4] (by rw[j];exact eR)
 have x:BH (a,hf) f=0:=by simpa using b
 have j:Ag (a,hf) f=D0 (a,hf) f f:=BY x;obtain⟨w,B⟩:=A49 x;refine AI (ι:={i:Nat//i<=f.length/\D0 (a,hf) f f=D0 (a,hf) f (f.drop i)}) (λi=>⟨[(2,.bp 2 [] 0),(3,.bp 3 [] 0),(6,.p (.int .i64) (i.1:Int))],[(2,.box 31 true [.p O2 a,.p QG hf]),(3,.box 25 true [.p DV f])]⟩) (λi=>f.length-i.1) ⟨0,If _,rfl⟩ (eW [(2,.nm 2),(3,.nm 3)]) (λi=>?_)
 obtain⟨i,hi,g⟩:=i;have F:=λh:i<f.length=>O9 (a,hf) f f h;have E:=λh:i<f.length=>AD f (0,[]) h;simp only;repeat'(first|exact trivial|apply eS rfl|refine rX e ?_ ?_|refine rC ?_ ?_<;>intro b<;>try(cases b;done))
 .exact b
 .have o:i<f.length:=GO.1 b;have s:=F o;have q:=E o;obtain⟨y,z⟩:=w _ q;have C:=B _ q;have H:=hs.2 _ q;generalize J:(f.getD i (0,[])).2=L at *;refine AI (ι:={k:Nat//k<=L.length/\Y1 (a,hf) f (f.getD i (0,[])).1 L=Y1 (a,hf) f (f.getD i (0,[])).1 (L.drop k)}) (λk=>⟨[(2,.bp 2 [] 0),(3,.bp 3 [] 0),(6,.p (.int .i64) (i:Int)),(7,.p Cl L),(8,.p (.int .i64) (k.1:Int))],[(2,.box 31 true [.p O2 a,.p QG hf]),(3,.box 25 true [.p DV f])]⟩) (λk=>L.length-k.1) ⟨0,If _,rfl⟩ (eW [(2,.nm 2),(3,.nm 3)]) (λk=>?_)
  obtain⟨k,hk,c⟩:=k;have t:=λh:k<L.length=>Uy (a,hf) f (f.getD i (0,[])).1 L h;have D:=λh:k<L.length=>C _ (AD L (0,0) h);simp only;have G:=EZ (f:=(L.getD k (0,0)).1) n y z;repeat'(first|exact trivial|apply eS rfl|apply AB|refine rX e ?_ ?_|refine rC ?_ ?_<;>intro b<;>try(cases b;done))
  .exact⟨by assumption,b,y,z⟩
  .have d:k<L.length:=by exact eV
   rw[t d,BY b]at c;have l:Ag (a,hf) f=10:=by rw[j,g,s,At (by rw[c];simp),c]
   exact fI e [.tmp 4] (by rw[l];exact eR)
  .have d:k<L.length:=by exact eV
   obtain⟨-,A,b1⟩:=D d;exact⟨by assumption,⟨A,b1⟩,⟨G b,w _ (AD f (0,[]) O1)⟩,r⟩
  .have d:k<L.length:=by exact eV
   have v:(BW (a,hf) (List.getD f i (0,[])).1 (List.getD L k (0,0)).1).2=true:=by assumption
   rw[t d,At (by rw[v];simp),BY b]at c;have l:Ag (a,hf) f=11:=by rw[j,g,s,At (by rw[c];simp),c]
   exact fI e [.tmp 4] (by rw[l];exact eR)
  .omega
  .have d:k<L.length:=by exact eV
   have v:(BW (a,hf) (List.getD f i (0,[])).1 (List.getD L k (0,0)).1).2=true:=by assumption
   rw[t d,At (by rw[v];simp),At (by rw[b];simp)]at c;exact⟨⟨k+1,d,c⟩,by simp only;omega,eW [(2,.nm 2),(3,.nm 3)]⟩
  .omega
  have m:L.drop k=[]:=By (R4.1 b);rw[m]at c;have c:Y1 (a,hf) f (f.getD i (0,[])).1 L=0:=c;rw[s,BY c]at g;exact⟨⟨i+1,o,g⟩,by simp only;omega,eW [(2,.nm 2),(3,.nm 3)]⟩
 have m:f.drop i=[]:=By (R4.1 b);rw[m]at g;have l:Ag (a,hf) f=0:=by rw[j,g];rfl
 exact fI e [.tmp 4] (by rw[l];exact eR)
end
section
attribute [local go_sem] O7
theorem sM (h:AG) (hk:Ew h) (hi:KB h) (hf:bQ h) (X:h.2.length<=100000) (f:List AE) (P:AQ f) (ha:NR h f) (s:Ei) (hs:Om h f.length s) {n:Int} (n0:0<=n) (n1:n<(f.length:Int)) (T:OV h s.1+s.2.length<=1000000000) :
  Bb Tryz.prog 170 [.bp 1 [] 0,.p DK f,.p T3 n] (EK h s) [1]
  (λres z=>(MJ h f n s=none/\res=.p .bool false/\∃A,z=EK h A)\/∃A,MJ h f n s=some A/\res=.p .bool true/\z=EK h A):=by
 have H:=NS ha n0 n1;have Z:(f.getD n.toNat (0,[])).2.length<=100000:=(P.2 _ (AD f (0,[]) O1)).1;have O:MJ h f n s=(NQ h n (f.getD n.toNat (0,[])).2 s).bind (Ol h n (f.getD n.toNat (0,[])).2):=rfl;rw[O];refine OJ [0,1,2,4,6,8,10,11,12,18,19,20,21,37,44,45,46,47,76] [] [] Tryz.func170 Tryz.ntmps170 (AF wG AH) ?_;intro w0 K O0 ρ0 a aa ab;simp only[EK,A6];repeat'(first|exact trivial|apply eS rfl|refine rX a ?_ ?_)
 .exact⟨n0,n1⟩
 have Y:f.getD n.toNat (0,[])=f.getD n.toNat (0,[]):=rfl;generalize M:(f.getD n.toNat (0,[])).2=L at *;refine AI (ι:={x:Nat×Ei//x.1<=L.length/\Om h f.length x.2/\OV h x.2.1+x.2.2.length<=1000000000/\NQ h n L s=NQ h n (L.drop x.1) x.2}) (λx=>⟨[(0,.bp 1 [] 0),(2,.p T3 n),(4,.bp 4 [] 0),(18,.p Cl L),(19,.p (.int .i64) (L.length:Int)),(20,.p (.int .i64) (x.1.1:Int))],[(4,.box 25 true [.p DV f]),(1,.box 205 true [.p D8 h,.sr 2 T3 0 x.1.2.1.length,.p Ee x.1.2.2]),(2,.arr 3 T3 x.1.2.1)]⟩) (λx=>L.length-x.1.1) ⟨(0,s),If _,hs,T,rfl⟩ (eW [(4,.nm 4),(1,.nm 1),(2,.nm 2)]) (λx=>?_)
 obtain⟨⟨k,s1⟩,R,r,C,i⟩:=x;simp only at R r C i ⊢;repeat'(first|exact trivial|apply eS rfl|refine rX a ?_ ?_|refine rC ?_ ?_<;>intro b<;>try(cases b;done))
 .exact b
 .have l:k<L.length:=GO.1 b;have d:NQ h n (L.drop k) s1=(DS h s1 n (Ke h (L.getD k (0,0)).1)).bind (NQ h n (L.drop (k+1))):=by rw[MG (0,0) l];rfl
  obtain⟨⟨F,G⟩,u,b1⟩:=H _ (AD L (0,0) l);obtain⟨o,q⟩:=Hj hf F G;obtain⟨w,y⟩:=r.get n0 n1;refine cD 12 a ?_ ?_
  .exact⟨F,G⟩
  refine rM a (lZ h hk s1 n0 (by rw[r.len];exact n1) w y o q O1) [(1,.nm 1),(2,.nm 2)] [2] ?_ ?_ ?_
  .refine eM ?_;rfl
  .simp only[EK];exact eN
  rintro res z (⟨c,rfl,rfl⟩|⟨s2,c,rfl,rfl⟩)
  .refine⟨[(1,.nm 1),(2,.nm 2)],.p .bool false,EK h s1,rfl,rfl,?_,?_,rfl,rfl,?_⟩
   .simp only[EK];exact eN
   .exact eN
   simp only[EK];refine rL a ?_ ?_
   .trivial
   repeat'(first|exact trivial|apply eS rfl|refine rX a ?_ ?_|refine rC ?_ ?_<;>intro b<;>try(cases b;done))
   refine Ev.ent (σ':=⟨[(6,.p .bool false)],EK h s1⟩) ?_ (AC [(1,.nm 1),(2,.nm 2)] rfl rfl ?_ ?_)
   .exact fM a [.tmp 6] (.p .bool false) eT (.inl ⟨by rw[i,d,c];rfl,rfl,s1,rfl⟩)
   .unfold EK;exact eN
   exact eN
  refine⟨[(1,.nm 1),(2,.nm 2)],.p .bool true,EK h s2,rfl,rfl,?_,?_,rfl,rfl,?_⟩
  .simp only[EK];exact eN
  .exact eN
  simp only[EK];refine rL a ?_ ?_
  .trivial
  obtain⟨D,E,U⟩:=FJ hk hi r n0 n1 o q c;repeat'(first|apply eS rfl|apply AB|refine rX a ?_ ?_|refine rC ?_ ?_<;>intro b<;>try(cases b;done))
  .omega
  exact⟨⟨(k+1,s2),l,D,R5 E C,by rw[i,d,c];rfl⟩,by simp only;omega,eW [(4,.nm 4),(1,.nm 1),(2,.nm 2)]⟩
 .exact⟨n0,n1⟩
 have B:L.drop k=[]:=By (R4.1 b);rw[B]at i;have i:NQ h n L s=some s1:=i;rw[i];have N:(List.getD f n.toNat (0,[])).2=L:=M;rw[N];refine AI (ι:={x:Nat×Ei//x.1<=L.length/\Om h f.length x.2/\OV h x.2.1+x.2.2.length<=1000000000/\(some s1).bind (Ol h n L)=Ol h n (L.drop x.1) x.2}) (λx=>⟨[(0,.bp 1 [] 0),(2,.p T3 n),(44,.p Cl L),(45,.p (.int .i64) (L.length:Int)),(46,.p (.int .i64) (x.1.1:Int))],[(1,.box 205 true [.p D8 h,.sr 2 T3 0 x.1.2.1.length,.p Ee x.1.2.2]),(2,.arr 3 T3 x.1.2.1)]⟩) (λx=>L.length-x.1.1) ⟨(0,s1),If _,r,C,rfl⟩ (eW [(1,.nm 1),(2,.nm 2)]) (λx=>?_)
 obtain⟨⟨j,s2⟩,Q,m,I,g⟩:=x;simp only at Q m I g ⊢;obtain⟨w,y⟩:=m.get n0 n1;repeat'(first|exact trivial|apply eS rfl|refine rX a ?_ ?_|refine rC ?_ ?_<;>intro b<;>try(cases b;done))
 .exact b
 .exact⟨⟨n0,by rw[m.len];exact n1⟩,w,y⟩
 .have l:j<L.length:=GO.1 b;have d:Ol h n (L.drop j) s2=if (BW h (s2.1.getD n.toNat 0) (L.getD j (0,0)).1).2=true then (DS h s2 (L.getD j (0,0)).2 (BW h (s2.1.getD n.toNat 0) (L.getD j (0,0)).1).1).bind (Ol h n (L.drop (j+1))) else none:=by rw[MG (0,0) l];rfl
  obtain⟨-,u,b1⟩:=H _ (AD L (0,0) l);have S:=λe=>EZ (f:=(L.getD j (0,0)).1) hf w y e;generalize BW h (s2.1.getD n.toNat 0) (L.getD j (0,0)).1=v at *;obtain⟨t,ok⟩:=v;refine evP a 3 ?_ ?_
  .trivial
  cases ok with
  | false =>
   rw[At sc]at d;refine rL a ?_ ?_
   .trivial
   repeat'(first|exact trivial|apply eS rfl|refine rX a ?_ ?_|refine rC ?_ ?_<;>intro b<;>try(cases b;done))
   refine Ev.ent (σ':=⟨[(6,.p .bool false)],EK h s2⟩) ?_ (AC [(1,.nm 1),(2,.nm 2)] rfl rfl ?_ ?_)
   .exact fM a [.tmp 6] (.p .bool false) eT (.inl ⟨by rw[g,d],rfl,s2,rfl⟩)
   .unfold EK;exact eN
   exact eN
  | true =>
   rw[BY rfl]at d;obtain⟨o,q⟩:=S rfl;simp only at o q d;obtain⟨V,W⟩:=m.get u b1;refine rN 4 a ?_ ?_
   .trivial
   refine clG a (lZ h hk s2 u (by rw[m.len];exact b1) V W o q O1) [(1,.nm 1),(2,.nm 2)] [2] ?_ ?_ ?_
   .exact eN
   .simp only[EK];exact eN
   rintro res z (⟨c,rfl,rfl⟩|⟨J,c,rfl,rfl⟩)
   .refine⟨[(1,.nm 1),(2,.nm 2)],.p .bool false,EK h s2,rfl,rfl,?_,?_,rfl,rfl,?_⟩
    .simp only[EK];exact eN
    .exact eN
    simp only[EK];refine rL a ?_ ?_
    .trivial
    repeat'(first|exact trivial|apply eS rfl|refine rX a ?_ ?_|refine rC ?_ ?_<;>intro b<;>try(cases b;done))
    refine Ev.ent (σ':=⟨[(6,.p .bool false)],EK h s2⟩) ?_ (AC [(1,.nm 1),(2,.nm 2)] rfl rfl ?_ ?_)
    .exact fM a [.tmp 6] (.p .bool false) eT (.inl ⟨by rw[g,d,c];rfl,rfl,s2,rfl⟩)
    .unfold EK;exact eN
    exact eN
   refine⟨[(1,.nm 1),(2,.nm 2)],.p .bool true,EK h J,rfl,rfl,?_,?_,rfl,rfl,?_⟩
   .simp only[EK];exact eN
   .exact eN
   simp only[EK];refine rL a ?_ ?_
   .trivial
   obtain⟨D,E,U⟩:=FJ hk hi m u b1 o q c;repeat'(first|apply eS rfl|apply AB|refine rX a ?_ ?_|refine rC ?_ ?_<;>intro b<;>try(cases b;done))
   .omega
   exact⟨⟨(j+1,J),l,D,R5 E I,by rw[g,d,c];rfl⟩,by simp only;omega,eW [(1,.nm 1),(2,.nm 2)]⟩
 have B:L.drop j=[]:=By (R4.1 b);rw[B]at g;have g:(some s1).bind (Ol h n L)=some s2:=g;refine Ev.ent (σ':=⟨[(6,.p .bool true)],EK h s2⟩) ?_ (AC [(1,.nm 1),(2,.nm 2)] rfl rfl ?_ ?_)
 .exact fM a [.tmp 6] (.p .bool true) eT (.inr ⟨s2,g,rfl,rfl⟩)
 .unfold EK;exact eN
 exact eN
end
section
def gK:AZ:={ ins:=[DV],pre:=λ(l,_)=>List.length l<=100000,out:=λ(l,_)=>[.own 93 GX l] }
attribute [local go_sem] gK
theorem A0k:Aa Tryz.prog 171 gK:=by
 refine fK [0,2,4] Tryz.func171 Tryz.ntmps171 AH ?_;rintro w0 O0 ⟨l,u⟩ a-d;have d:List.length l<=100000:=d;simp only[gK,AL];repeat'(first|exact trivial|apply eS rfl|refine rX a ?_ ?_)
 refine cP 1 a ?_ ?_
 .trivial
 refine zI a false rfl rfl ?_;intro b e;refine rL a ?_ ?_
 .trivial
 repeat'(first|exact trivial|apply eS rfl|refine rX a ?_ ?_|refine rC ?_ ?_<;>intro c<;>try(cases c;done))
 .have f:l=[]:=e c;subst f;refine Ev.ent (σ':=⟨[(2,.sr 5 GX 0 0)],[(5,.arr 93 GX [])]⟩) ?_ (AC [(5,.nil)] rfl rfl ?_ ?_)
  .exact LL a (.inl rfl) (rv:=.tmp 2) rfl (by simp only[KM,JJ,Hz,go_sem,Nat.reduceEqDiff,reduceCtorEq,Nat.reduceAdd,Nat.reduceSub,Nat.reduceMul,Nat.reduceLeDiff,Nat.reduceLT,Int.reduceLE,Int.reduceToNat,Int.reduceNeg,↓reduceIte])
  .exact eN
  exact eN
 .simp only[AN];omega
 exact LL a (.inl rfl) (rv:=.tmp 2) rfl (by simp only[KM,JJ,Hz,go_sem,Nat.reduceEqDiff,reduceCtorEq,Nat.reduceAdd,Nat.reduceSub,Nat.reduceMul,Nat.reduceLeDiff,Nat.reduceLT,Int.reduceLE,Int.reduceToNat,Int.reduceNeg,↓reduceIte])
structure A9E (h:AG) (f:List AE):Prop where
 ok:Ew h
 inj:KB h
 ft:bQ h
 fl:h.2.length<=100000
 good:AQ f
 arcs:NR h f
 ty:∀x∈f,0<=x.1/\x.1<(h.1.length:Int)
def gL:AZ:={ ins:=[D8,DK],pre:=λ(h,f,_)=>A9E h f,out:=λ(h,f,_)=>[.p DK (E9 h f).1,.p .bool (E9 h f).2] }
theorem Cv (f:List AE) (ty:List Int):(CP f ty).length=f.length:=by simp[CP]
theorem HI (f:List AE) (ty:List Int) {i:Nat} (h:i<f.length):(CP f ty).getD i (0,[])=(ty.getD i 0,(f.getD i (0,[])).2):=by
 unfold CP;simp[AS,h]
theorem A0l {α:Type} (F f:List α) (d:α) (b:F.length=f.length) {j:Nat} (h:j<f.length):(F.take j++f.drop j).set j (F.getD j d)=F.take (j+1)++f.drop (j+1)/\(F.take j++f.drop j).getD j d=f.getD j d:=by
 have h1:(F.take j).length=j:=by rw[OF];omega
 have a:f.drop j=f.getD j d :: f.drop (j+1):=by
  rw[IS h,AS,AT h];rfl
 constructor
 .rw[AY F d O1,ABY _ _ O1,h1,AAu,a];simp
 rw[AS,SL O1,h1,AAu,a];rfl
theorem A4b:Aa Tryz.prog 127 gL:=by
 refine fK [0,1,2,3,4,5,6,7,8,9,10,11,16,17,18,19,51,64,72,73,74] Tryz.func127 Tryz.ntmps127 (AF A0k AH) ?_;rintro w0 O0 ⟨⟨a,hf⟩,f,u⟩ c-d;have d:A9E (a,hf) f:=d;have E:=gI (a,hf) f;have y:=d.good.1;have T:Iy (a,hf) f<=30000000:=by
  have h1:a.length<=256:=d.ok.2;have D:f.length*a.length<=100000*256:=Nat.mul_le_mul y h1;have S:f.length*(a,hf).1.length<=100000*256:=D;unfold Iy;omega
 have K:=mK d.ty;simp only[gL,AL];repeat'(first|exact trivial|apply eS rfl|refine rX c ?_ ?_)
 refine AI (ι:={i:Nat//i<=f.length}) (λi=>⟨[(3,.bp 3 [] 0),(4,.bp 4 [] 0),(6,.bp 14 [] 0),(16,.p DV f),(17,.p (.int .i64) (f.length:Int)),(18,.p (.int .i64) (i.1:Int))],[(3,.box 25 true [.p DV f]),(4,.box 25 true [.raw (.slice none 0 0)]),(14,.box 205 true [.p D8 (a,hf),.sr 31 T3 0 i.1,.sr 41 T3 0 i.1]),(31,.arr 3 T3 ((A2 f).take i.1)),(41,.arr 3 T3 ((Es f).take i.1))]⟩) (λi=>f.length-i.1) ⟨0,If _⟩ (eW [(3,.nm 3),(4,.nm 4),(14,.nm 14),(31,.nil),(41,.nil)]) (λi=>?_)
 obtain⟨i,hi⟩:=i;have tl:((A2 f).take i).length=i:=by rw[OF];simp[A2];omega
 have Y:((Es f).take i).length=i:=by rw[OF];simp[Es];omega
 have ts:i<f.length->(A2 f).take i++[(f.getD i (0,[])).1]=(A2 f).take (i+1):=λh=>by
  rw[AY (A2 f) 0 (by simpa[A2] using h)];simp[A2,AS,h]
 have Q:i<f.length->(Es f).take i++[(i:Int)]=(Es f).take (i+1):=λh=>by
  rw[AY (Es f) 0 (by simpa[Es] using h)];simp[Es,AS,h]
 repeat'(first|exact trivial|apply eS rfl|refine rX c ?_ ?_|refine rC ?_ ?_<;>intro b<;>try(cases b;done))
 .exact b
 .have l:i<f.length:=GO.1 b;have P:=ts l;have R:=Q l;refine Fv drawsAny c 9 [([1,2,3,4,5,6,7],8)] [0] (by kernel_rfl) (Vu ?_ ?_)
  .trivial
  refine e9 c [31] ?_ ?_
  .simp only[AN];omega
  refine p6 c ?_ ?_ ?_
  .trivial
  .trivial
  repeat'(first|apply eS rfl|apply AB|refine rX c ?_ ?_)
  .simp only[AN];omega
  .omega
  refine⟨⟨i+1,l⟩,by simp only;omega,AC [(3,.nm 3),(4,.nm 4),(14,.nm 14),(31,.nm 31),(41,.nm 41)] rfl rfl ?_ ?_⟩
  .simp only[<-P,<-R];refine eM ?_;simp only[AD8,Nat.min_self,and_self]
  exact eN
 have l:i=f.length:=by
  have:=R4.1 b;omega
 subst l;have et:(A2 f).take f.length=A2 f:=An (by simp[A2]);have w:(Es f).take f.length=Es f:=An (by simp[Es]);have O:(A2 f).length=f.length:=by simp[A2]
 have Z:(Es f).length=f.length:=by simp[Es]
 rw[et,w];have C:(Es f).take f.length=Es f:=w;refine E2 [41] ?_;rw[C];refine AI (ι:={x:Nat×Ei//Om (a,hf) f.length x.2/\OV (a,hf) x.2.1+x.2.2.length+1<=Iy (a,hf) f/\x.1<=x.2.2.length/\∃k,OV (a,hf) x.2.1+x.2.2.length+1<=k+x.1/\wlF (a,hf) f k x.1 x.2=Gg (a,hf) f}) (λx=>⟨[(3,.bp 3 [] 0),(4,.bp 4 [] 0),(6,.bp 14 [] 0),(9,.p (.int .i64) (x.1.1:Int))],[(3,.box 25 true [.p DV f]),(4,.box 25 true [.raw (.slice none 0 0)]),(14,.box 205 true [.p D8 (a,hf),.sr 31 T3 0 x.1.2.1.length,.p Ee x.1.2.2]),(31,.arr 3 T3 x.1.2.1)]⟩) (λx=>OV (a,hf) x.1.2.1+x.1.2.2.length-x.1.1) ⟨(0,A2 f,Es f),K,E,If _,Iy (a,hf) f,by simp only;omega,rfl⟩ (AC [(3,.nm 3),(4,.nm 4),(14,.nm 14),(31,.nm 31)] rfl rfl ?_ ?_) (λx=>?_)
 .simp only[O];exact eN
 .exact eN
 obtain⟨⟨i,s⟩,hs,J,hi,k,hk,g⟩:=x;simp only at hs J hi hk g ⊢;repeat'(first|exact trivial|apply eS rfl|refine rX c ?_ ?_|refine rC ?_ ?_<;>intro b<;>try(cases b;done))
 .have n:i<s.2.length:=GO.1 b;obtain⟨A,B⟩:=hs.wt _ (AD s.2 (0:Int) n);obtain⟨k,rfl⟩:∃v,k=v+1:=⟨k-1,by omega⟩;have t:wlF (a,hf) f (k+1) i s=(MJ (a,hf) f (s.2.getD i 0) s).bind (wlF (a,hf) f k (i+1)):=BY n;rw[t]at g;refine cD 9 c ?_ ?_
  .exact b
  refine rM c (sM (a,hf) d.ok d.inj d.ft d.fl f d.good d.arcs s hs A B O1) [(1,.nm 14),(2,.nm 31)] [31] ?_ ?_ ?_
  .exact eN
  .simp only[EK];exact eN
  rintro res X (⟨m,rfl,e,rfl⟩|⟨e,m,rfl,rfl⟩)
  .refine⟨[(14,.nm 1),(31,.nm 2)],.p .bool false,[(14,.box 205 true [.p D8 (a,hf),.sr 31 T3 0 e.1.length,.p Ee e.2]),(31,.arr 3 T3 e.1)],rfl,rfl,?_,?_,rfl,rfl,?_⟩
   .simp only[EK];exact eN
   .exact eN
   refine rL c ?_ ?_
   .trivial
   repeat'(first|exact trivial|apply eS rfl|refine rX c ?_ ?_|refine rC ?_ ?_<;>intro b<;>try(cases b;done))
   have q:E9 (a,hf) f=([],false):=by unfold E9;rw[<-g,m];rfl
   exact fI c [.cell 4 25,.tmp 5] (by rw[q];exact eR)
  obtain⟨N,V,W⟩:=YN d.ok d.inj d.ft d.arcs A B hs m;rw[m]at g;refine⟨[(14,.nm 1),(31,.nm 2)],.p .bool true,[(14,.box 205 true [.p D8 (a,hf),.sr 31 T3 0 e.1.length,.p Ee e.2]),(31,.arr 3 T3 e.1)],rfl,rfl,?_,?_,rfl,rfl,?_⟩
  .simp only[EK];exact eN
  .exact eN
  refine rL c ?_ ?_
  .trivial
  repeat'(first|apply eS rfl|apply AB|refine rX c ?_ ?_|refine rC ?_ ?_<;>intro b<;>try(cases b;done))
  .omega
  exact⟨⟨(i+1,e),N,by simp only;omega,by simp only;omega,k,by simp only;omega,g⟩,by simp only;omega,eW [(3,.nm 3),(4,.nm 4),(14,.nm 14),(31,.nm 31)]⟩
 .exact y
 have n:¬i<s.2.length:=λh=>by
  have:=R4.1 b;omega
 obtain⟨k,rfl⟩:∃v,k=v+1:=⟨k-1,by omega⟩;have t:wlF (a,hf) f (k+1) i s=some s.1:=At n;have q:E9 (a,hf) f=(CP f s.1,true):=by unfold E9;rw[<-g,t]
 have r:=Cv f s.1;have L:=λi h=>HI f s.1 (i:=i) h;generalize hT:CP f s.1=F at *;have M:=hs.len;refine AI (ι:={j:Nat//j<=f.length}) (λj=>⟨[(4,.bp 4 [] 0),(6,.bp 14 [] 0),(10,.bp 10 [] 0),(72,.p (.int .i64) (f.length:Int)),(73,.p (.int .i64) (j.1:Int))],[(10,.box 25 true [.sr 68 GX 0 f.length]),(68,.arr 93 GX (F.take j.1++f.drop j.1)),(4,.box 25 true [.raw (.slice none 0 0)]),(14,.box 205 true [.p D8 (a,hf),.sr 31 T3 0 s.1.length,.p Ee s.2]),(31,.arr 3 T3 s.1)]⟩) (λj=>f.length-j.1) ⟨0,If _⟩ (eW [(10,.nm 10),(68,.nm 68),(4,.nm 4),(14,.nm 14),(31,.nm 31)]) (λj=>?_)
 obtain⟨j,U⟩:=j;have I:=λh:j<f.length=>A0l F f (0,[]) r h;repeat'(first|exact trivial|apply eS rfl|apply AB|refine rX c ?_ ?_|refine rC ?_ ?_<;>intro b<;>try(cases b;done))
 .exact⟨by rw[M];exact b,b⟩
 .omega
 .have o:j<f.length:=GO.1 b;obtain⟨z,H⟩:=I o;rw[L j o]at z;refine⟨⟨j+1,o⟩,by simp only;omega,AC [(10,.nm 10),(68,.nm 68),(4,.nm 4),(14,.nm 14),(31,.nm 31)] rfl rfl ?_ ?_⟩
  .simp only[<-z];refine eM ?_;rw[H]
  exact eN
 have hF:F.take j=F:=An (by rw[r];exact R4.1 b);have G:List.drop j f=[]:=By (R4.1 b);rw[hF,G,SJ];exact fI c [.cell 4 25,.tmp 5] (by rw[q];first|exact eR|refine Uf ?_;exact An (by rw[r];exact OR _))
end
section
open Go
end
structure MI (m:List (Int×Bool)) (l:List Bool):Prop where
 nd:(m.map (·.1)).Nodup
 get:∀k:Int,Bl T3 .bool k m=if 0<=k/\l.getD k.toNat false=true then some true else none
theorem wP (k:Int) (v:Bool):∀ {m:List (Int×Bool)},(m.map (·.1)).Nodup->((Gq T3 .bool k v m).map (·.1)).Nodup/\∀x,x∈(Gq T3 .bool k v m).map (·.1)->x=k\/x∈m.map (·.1)
 | [],_=>by simp[Gq]
 | y :: m,h=>by
  rw[SK,gO]at h;unfold Gq;split
  .rename_i e;have e:k=y.1:=by simpa[JH] using e
   refine⟨?_,λx a=>?_⟩
   .rw[SK,gO,e];exact h
   rcases Do.1 a with a|a
   .exact .inl a
   exact .inr (IN _ a)
  rename_i e;have e:¬k=y.1:=by simpa[JH] using e
  obtain⟨c,b⟩:=wP k v h.2;refine⟨?_,λx a=>?_⟩
  .rw[SK,gO];refine⟨λd=>?_,c⟩;rcases b _ d with a|a
   .exact e a.symm
   exact h.1 a
  rcases Do.1 a with a|a
  .exact .inr (by rw[a];simp)
  exact(b x a).imp id λg=>IN _ g
theorem mO (k:Int):∀m:List (Int×Bool),(p9 T3 .bool k m).Sublist m
 | []=>List.Sublist.refl _
 | y :: m=>by
  unfold p9;split
  .exact List.sublist_cons_self _ _
  exact(mO k m).cons_cons _
theorem bX {x:Int}:∀ {m:List (Int×Bool)},x∉m.map (·.1)->Bl T3 .bool x m=none
 | [],_=>rfl
 | y :: m,h=>by
  unfold Bl;rw[At (by
   intro e;have e:x=y.1:=by simpa[JH] using e
   exact h (by rw[e];simp))]
  exact bX λa=>h (IN _ a)
theorem bZ (x k:Int):∀ {m:List (Int×Bool)},(m.map (·.1)).Nodup->Bl T3 .bool x (p9 T3 .bool k m)=if x=k then none else Bl T3 .bool x m
 | [],_=>by simp[p9,Bl]
 | y :: m,h=>by
  rw[SK,gO]at h;unfold p9;split
  .rename_i e;have e:k=y.1:=by simpa[JH] using e
   by_cases a:x=k
   .rw[BY a,a,e];exact bX h.1
   rw[At a];have c:¬x=y.1:=by rw[<-e];exact a
   simp[Bl,JH,c]
  rename_i e;have e:¬k=y.1:=by simpa[JH] using e
  have f:=bZ x k h.2;by_cases b:x=y.1
  .have d:¬x=k:=by rw[b];exact λg=>e g.symm
   rw[At d];simp[Bl,JH,b]
  have hn:¬JH T3 x y.1=true:=by simpa[JH] using b
  simp only[Bl];rw[At hn,At hn,f]
theorem MI.zero:MI [] (List.replicate 0 true):=⟨List.nodup_nil,λk=>by simp[Bl]⟩
theorem MI.put {m:List (Int×Bool)} {i:Nat} (h:MI m (List.replicate i true)):MI (Gq T3 .bool (i:Int) true m) (List.replicate (i+1) true):=by
 refine⟨(wP _ _ h.nd).1,λ(k:Int)=>?_⟩;rw[YL,h.get];by_cases hk:k=(i:Int)
 .rw[BY hk,BY];subst hk;refine⟨Tw _,?_⟩;simp[AS,AAy]
 rw[At hk];have e:(0<=k/\(List.replicate i true).getD k.toNat false=true)↔(0<=k/\(List.replicate (i+1) true).getD k.toNat false=true):=by
  simp only[AS,AAy];constructor
  .rintro⟨a,b⟩;refine⟨a,?_⟩;split at b
   .rw[BY O1];rfl
   simp at b
  rintro⟨a,b⟩;refine⟨a,?_⟩;split at b
  .rw[BY O1];rfl
  simp at b
 by_cases c:0<=k/\(List.replicate i true).getD k.toNat false=true
 .rw[BY c,BY (e.1 c)]
 rw[At c,At λg=>c (e.2 g)]
theorem MI.del {m:List (Int×Bool)} {l:List Bool} (h:MI m l) (i:Nat):MI (p9 T3 .bool (i:Int) m) (l.set i false):=by
 refine⟨h.nd.sublist ((mO _ m).map _),λ(k:Int)=>?_⟩;rw[bZ _ _ h.nd,h.get];by_cases hk:k=(i:Int)
 .subst hk;rw[BY rfl,At];rintro⟨-,b⟩;rw[R3]at b;simp only[AS,oR]at b;rw[BY trivial]at b;split at b<;>simp at b
 rw[At hk];by_cases a:0<=k
 .have c:¬i=k.toNat:=by omega
  simp only[AS,oR];rw[At c]
 rw[At λg=>a g.1,At λg=>a g.1]
theorem OW {x:Int}:∀ {m:List (Int×Bool)},x∈m.map (·.1)->Bl T3 .bool x m≠none
 | y :: m,h=>by
  unfold Bl;split
  .simp
  rename_i e;rcases Do.1 h with h|h
  .exact absurd (by simp[JH,h]) e
  exact OW h
theorem MI.len {m:List (Int×Bool)} {l:List Bool} (h:MI m l):m.length<=l.length:=by
 have h1:((m.map (·.1)).map Int.toNat).Nodup:=by
  rw[List.Nodup,oN];refine h.nd.imp_of_mem λ{a b:Int} ha d i e=>i ?_;have h1:=OW ha;have c:=OW d;rw[h.get]at h1 c;have n:0<=a:=IF λg=>h1 (At λq=>g q.1);have o:0<=b:=IF λg=>c (At λq=>g q.1);omega
 have:=Ed l.length _ h1 (λj f=>by
  obtain⟨x,k,rfl⟩:=DO.1 f;have h1:=OW k;rw[h.get]at h1;refine IF λhn=>h1 (At λg=>?_);have:=g.2;rw[AS,SA O1]at this;cases this)
 simpa using this
section
open Go
end
def A0m (N:List AE) (i:Nat) (v:Int×Int):List AE:=N.set i ((N.getD i (0,[])).1,(N.getD i (0,[])).2++[(v.1,(N.length:Int))])++[(v.2,[])]
theorem A4c (N:List AE) (i:Nat) (v:Int×Int):(A0m N i v).length=N.length+1:=by simp[A0m]
structure TI2 (h:AG) (m i k:Nat) (N:List AE):Prop where
 len:N.length<=m
 ty:∀x∈N,0<=x.1/\x.1<(h.1.length:Int)
 lo:∀j,j<i->(N.getD j (0,[])).2.length<=200
 at':(N.getD i (0,[])).2.length<=100+k
 hi:∀j,i<j->(N.getD j (0,[])).2.length<=100
theorem A4d {α:Type} (l:List α) (x d:α) (j:Nat):(l++[x]).getD j d=if j<l.length then l.getD j d else if j=l.length then x else d:=by
 simp only[AS];by_cases h:j<l.length
 .rw[BY h,TO h]
 rw[At h,SL O1];by_cases e:j=l.length
 .rw[BY e,e,AAu];rfl
 rw[At e,SA (by simp only[R7];omega)];rfl
theorem HJ {α:Type} (l:List α) (x d:α) {i:Nat} (h:i<l.length) (j:Nat):(l.set i x).getD j d=if j=i then x else l.getD j d:=by
 simp only[AS,oR];by_cases e:i=j
 .rw[BY e,BY h,BY e.symm];rfl
 rw[At e,At (show ¬j=i by omega)]
theorem A4e {N:List AE} {i:Nat} (h:i<N.length) (v:Int×Int) (j:Nat):(A0m N i v).getD j (0,[])=if j=i then ((N.getD i (0,[])).1,(N.getD i (0,[])).2++[(v.1,(N.length:Int))]) else if j=N.length then (v.2,[]) else N.getD j (0,[]):=by
 unfold A0m;rw[A4d,HJ _ _ _ h,Tq];by_cases a:j=i
 .rw[BY a,BY O1,BY a]
 rw[At a,At a];by_cases c:j<N.length
 .rw[BY c,At O1]
 rw[At c];by_cases b:j=N.length
 .rw[BY b,BY b]
 rw[At b,At b,AS,SA O1];rfl
theorem TI2.add {h:AG} {m i k:Nat} {N:List AE} (b:TI2 h m i k N) (hi:i<N.length) (f:4096<=m) (e:N.length<4096) {v:Int×Int} (v0:0<=v.2) (v1:v.2<(h.1.length:Int)):TI2 h m i (k+1) (A0m N i v):=by
 have c:=λj=>A4e hi v j;refine⟨by rw[A4c];omega,λx a=>?_,λj d=>?_,?_,λj d=>?_⟩
 .unfold A0m at a;rcases ON.1 a with a|a
  .rcases ACx a with a|rfl
   .exact b.ty x a
   exact(b.ty (N.getD i (0,[])) (AD N (0,[]) hi) :)
  rw[Tr.1 a];exact⟨v0,v1⟩
 .rw[c,At O1,At O1];exact b.lo j d
 .rw[c,BY rfl];have:=b.at';simp only[F3,R7];omega
 rw[c,At O1];split
 .simp
 exact b.hi j d
theorem TI2.skip {h:AG} {m i k:Nat} {N:List AE} (a:TI2 h m i k N):TI2 h m i (k+1) N:=⟨a.len,a.ty,a.lo,by have:=a.at';omega,a.hi⟩
theorem TI2.next {h:AG} {m i k:Nat} {N:List AE} (a:TI2 h m i k N) (hk:k<=100):TI2 h m (i+1) 0 N:=⟨a.len,a.ty,λj b=>by
 by_cases e:j=i
 .have:=a.at';rw[e];omega
 exact a.lo j O1,a.hi (i+1) O1,λj b=>a.hi j O1⟩
section
attribute [local go_sem] Kb KZ NG Li
end
section
open Go
end
theorem getD_set_ne {α:Type} (l:List α) (d v:α) {i j:Nat} (h:i≠j):(l.set i v).getD j d=l.getD j d:=by
 simp only[AS];rw[List.getElem?_set_ne h]
theorem Zk {α:Type} (l:List α) (d v:α) {i:Nat} (h:i<l.length):(l.set i v).getD i d=v:=by
 simp only[AS];rw[List.getElem?_set_self h];rfl
section
open Go
end
section
attribute [local go_sem] Dp
end
section
attribute [local go_sem] Dp
def YU (l:List (Int×Int)) (x:Int):Int:=l.foldl (λt a=>if a.1=x then a.2 else t) (-1)
end
section
attribute [local go_sem] Pu lS
end
abbrev AP (f:List AE) (n:Int):List (Int×Int):=(f.getD n.toNat (0,[])).2
def CY (f:List AE):Int->List Int->Option Int
 | n,[]=>some n
 | n,x :: r=>if YU (AP f n) x<0 then none else CY f (YU (AP f n) x) r
theorem Ln (f:List AE):∀(p:List Int) (n m x:Int),CY f n p=some m->CY f n (p++[x])=if YU (AP f m) x<0 then none else some (YU (AP f m) x)
 | [],n,m,x,h=>by
  simp only[CY,AAi]at h;subst h;rfl
 | y :: p,n,m,x,h=>by
  simp only[CY,ACf]at h ⊢;split at h
  .cases h
  rename_i a;rw[At a];exact Ln f p _ m x h
theorem gM {l:List (Int×Int)} (h:l.Pairwise (λa b=>a.1<b.1)) {a:Int×Int} (ha:a∈l):YU l a.1=a.2:=by
 have k:∀(l:List (Int×Int)) (t:Int),(∀b∈l,¬b.1=a.1)->l.foldl (λt b=>if b.1=a.1 then b.2 else t) t=t:=by
  intro l;induction l with
  | nil=>intro t _;rfl
  | cons b l j =>
   intro t d;rw[On,At (d b sc)];exact j t (λc i=>d c (by simp[i]))
 obtain⟨n,m,rfl⟩:=List.append_of_mem ha;rw[ACs,aS]at h;obtain⟨-,⟨f,-⟩,-⟩:=h;unfold YU;rw[ACG,On,BY rfl];exact k m _ (λb g e=>by have:=f b g;omega)
theorem PB {f:List AE} (h:EI f=true):AK f 0=f:=by
 obtain⟨d,hs,h0,_⟩:=NU h;unfold EI at h;simp only[As,Tx]at h;obtain⟨_,a,b⟩:=h;have c:(BF f).1=Ff f 0:=by
  unfold BF at a ⊢;split at a
  .rename_i hh;rw[BY hh]
  rename_i hh;exact absurd a hh
 rw[c]at b;rw[<-E8 d hs O1 O1];exact Ji b
theorem sN {b:Int->Int×Int->Bool} {f:List AE} (h:∀i,i<f.length->∀a∈(f.getD i (0,[])).2,b (i:Int) a=true):Gy b f f.length=f:=by
 apply iF
 .exact Kg _ _ _
 intro i h1 c;have e:f.getD i (0,[])=f[i]:=by simp[AS,c]
 have:=h i c;simp only[Gy,ACL,ACP,A48];rw[List.filter_eq_self.2 this,e]
theorem sO {b:Int->Int×Int->Bool} {f:List AE} (c:EI f=true) (h:∀i,i<f.length->∀a∈(f.getD i (0,[])).2,b (i:Int) a=true):YO b f=f:=by
 unfold YO;rw[sN h];exact PB c
theorem mP {f:List AE} (hf:AQ f):∀(k:Nat) (o:List Int) (n:Int),Ks f o->0<=n->n<f.length->n∉o->f.length-o.length<=k->Cm f (k+1) o n=Cm f k o n
 | 0,o,n,h,h0,h1,c,hk=>by
  have:=(h.snoc h0 h1 c).len;grind
 | k+1,o,n,h,h0,h1,c,hk=>by
  rw[CO,CO];have key:∀(l:List (Int×Int)) (t:List Int),(∀a∈l,0<=a.2/\a.2<(f.length:Int))->Ks f t->f.length-t.length<=k->l.foldl (Ae f (k+1)) t=l.foldl (Ae f k) t:=by
   intro l;induction l with
   | nil=>intros;rfl
   | cons a l p =>
    intro t e m j;have g:=e a sc;have hs:Ae f (k+1) t a=Ae f k t a:=by
     unfold Ae;split
     .rfl
     rename_i hn;exact mP hf k t a.2 m g.1 g.2 hn j
    have d:Ks f (Ae f k t a)/\t <+: Ae f k t a:=by grind [Ae,EL]
    rw[On,On,hs];have:=d.2.length_le;exact p _ (λb i=>e b (by simp[i])) d.1 O1
  exact key _ _ (λa ha=>Aw hf ha) (h.snoc h0 h1 c) (by simp only[F3,R7];omega)
theorem Gi (f:List AE):Ks f []:=⟨by simp,λx a=>by cases a⟩
theorem RZ {f:List AE} (hf:AQ f) {n:Int} (h0:0<=n) (h1:n<f.length):∀m,Cm f (f.length+m) [] n=Cm f f.length [] n
 | 0=>rfl
 | m+1=>by
  rw[<-ADQ,mP hf _ [] n (Gi f) h0 h1 sc (by simp only[AC5];omega)];exact RZ hf h0 h1 m
structure Iso (Q R:List AE) (ψ:Int->Int) (C:Int->Prop):Prop where
 arc:∀i,C i->AP R (ψ i)=(AP Q i).map λa=>(a.1,ψ a.2)
 cl:∀i,C i->∀a∈AP Q i,C a.2
 inj:∀i j,C i->C j->ψ i=ψ j->i=j
theorem Ra {Q R:List AE} {c:Int->Int} {d:Int->Prop} (h:Iso Q R c d):∀(k:Nat) (t:List Int) (i:Int),(∀x∈t,d x)->d i->Cm R k (t.map c) (c i)=(Cm Q k t i).map c/\∀x∈Cm Q k t i,d x
 | 0,t,i,f,hi=>⟨rfl,f⟩
 | k+1,t,i,f,hi=>by
  have key:∀(l:List (Int×Int)) (t:List Int),(∀a∈l,d a.2)->(∀x∈t,d x) ->
    (l.map λa=>(a.1,c a.2)).foldl (Ae R k) (t.map c)=(l.foldl (Ae Q k) t).map c/\∀x∈l.foldl (Ae Q k) t,d x:=by
   intro l;induction l with
   | nil=>intro t _ f;exact⟨rfl,f⟩
   | cons a l q =>
    intro t j f;have ha:=j a sc;have hs:Ae R k (t.map c) (a.1,c a.2)=(Ae Q k t a).map c/\∀x∈Ae Q k t a,d x:=by
     unfold Ae;by_cases m:a.2∈t
     .grind
     have p:¬c a.2∈t.map c:=by
      intro hh;obtain⟨x,g,e⟩:=DO.1 hh;exact m (h.inj x a.2 (f x g) ha e▸g)
     rw[At m];simp only[At p];exact Ra h k t a.2 f ha
    rw[SK,On,On,hs.1];exact q _ (λb o=>j b (by simp[o])) hs.2
  rw[CO,CO];have e:t.map c++[c i]=(t++[i]).map c:=by simp
  have n:(R.getD (c i).toNat (0,[])).2=(AP Q i).map λa=>(a.1,c a.2):=h.arc i hi;rw[n,e];refine key _ _ (h.cl i hi) λx g=>?_;grind
theorem mQ {o:List Int} {a:Int->Int} {x:Int} (h:∀y∈o,a y=a x->y=x):Bk (o.map a) (a x)=Bk o x:=by
 have hi:(o.map a).idxOf (a x)=o.idxOf x:=by
  induction o with
  | nil=>rfl
  | cons y o c =>
   rw[SK,List.idxOf_cons,List.idxOf_cons];have b:=h y sc;by_cases e:y=x
   .subst e;simp
   grind
 grind [Bk]
theorem Zl {Q R:List AE} {b:Int->Int} {c:Int->Prop} (h:Iso Q R b c) (k:AQ Q) (j:c 0) (h0:b 0=0) (r:0<Q.length) (s:Q.length<=R.length)
  (l:∀i,c i->(R.getD (b i).toNat (0,[])).1=(Q.getD i.toNat (0,[])).1):AK R 0=AK Q 0:=by
 have f:Cm R R.length [] 0=(Cm Q Q.length [] 0).map b/\∀x∈Cm Q Q.length [] 0,c x:=by
  have h1:=Ra h R.length [] 0 (λx m=>by cases m) j;rw[h0]at h1;have q:=RZ k (n:=0) O1 O1 (R.length-Q.length)
  simp_all
 unfold AK;rw[f.1];generalize Cm Q Q.length [] 0=o at *;rw[ABS];refine SB λi hi=>?_;have d:=f.2 i hi;show DD R (o.map b) (b i)=DD Q o i;unfold DD;have g:(R.getD (b i).toNat (0,[])).2=(AP Q i).map λa=>(a.1,b a.2):=h.arc i d;rw[l i d,g,ABS];refine ACb _ (SB λa ha=>?_);show (a.1,Bk (o.map b) (b a.2))=(a.1,Bk o a.2);rw[mQ λy p e=>h.inj y a.2 (f.2 y p) (h.cl i d a ha) e]
structure Ord (f:List AE) (o:List Int):Prop where
 ok:Ks f o
 zero:o.getD 0 0=0/\0<o.length
 cl:∀n∈o,∀a∈AP f n,a.2∈o
theorem A4f {f:List AE} (hf:AQ f) (h0:0<f.length):[0] <+: Cm f f.length [] 0:=by
 obtain⟨k,hk⟩:∃k,f.length=k+1:=⟨f.length-1,by omega⟩;rw[hk,CO];exact(E7 (EL hf k) _ _ (λa ha=>Aw hf ha) ((Gi f).snoc O1 O1 sc)).2
theorem A4g {f:List AE} (hf:AQ f) (h0:0<f.length):Ord f (Cm f f.length [] 0):=by
 have h1:=EL hf f.length [] 0 (Gi f) O1 O1 sc;have d:=Iw hf f.length [] 0 (Gi f) O1 O1 sc sc;have b:=A4f hf h0;refine⟨h1.1,?_,λn hn a ha=>?_⟩
 .obtain⟨t,c⟩:=b;rw[<-c];exact⟨rfl,by simp⟩
 grind
theorem Fi {o:List Int} (hn:o.Nodup) {i:Nat} (hi:i<o.length):Bk o (o.getD i 0)=(i:Int):=by grind [Bk]
theorem CZ {o:List Int} {x:Int} (h:x∈o):0<=Bk o x/\Bk o x<(o.length:Int)/\o.getD (Bk o x).toNat 0=x:=by
 unfold Bk;rw[BY h];have a:=List.idxOf_lt_length_of_mem h
 simp_all
theorem A0n (f:List AE):(AK f 0).length=(Cm f f.length [] 0).length:=by simp[AK]
theorem A0o {f:List AE} {i:Nat} (hi:i<(Cm f f.length [] 0).length):(AK f 0).getD i (0,[])=DD f (Cm f f.length [] 0) ((Cm f f.length [] 0).getD i 0):=by grind [AK]
theorem mR (a:Int->Int×Int->Bool) {f:List AE} {n:Int} (h0:0<=n) (h1:n<f.length):(Gy a f f.length).getD n.toNat (0,[])=((f.getD n.toNat (0,[])).1,(AP f n).filter (a n)):=by grind [Gy,A48]
theorem A7e (l:List (Int×Int)) (x:Int):YU l x=-1\/∃a∈l,a.1=x/\a.2=YU l x:=by
 have key:∀(l:List (Int×Int)) (t:Int),l.foldl (λt a=>if a.1=x then a.2 else t) t=t\/∃a∈l,a.1=x/\a.2=l.foldl (λt a=>if a.1=x then a.2 else t) t:=by
  intro l;induction l with
  | nil=>intro t;exact .inl rfl
  | cons b l c =>
   intro t;rw[On];by_cases h:b.1=x
   .rw[BY h];rcases c b.2 with e|⟨a,ha,e⟩
    .exact .inr ⟨b,by simp,h,e.symm⟩
    exact .inr ⟨a,by simp[ha],e⟩
   rw[At h];rcases c t with e|⟨a,ha,e⟩
   .exact .inl e
   exact .inr ⟨a,by simp[ha],e⟩
 exact key l (-1)
theorem A4h {l:List (Int×Int)} {x:Int} (h:0<=YU l x):∃a∈l,a.1=x/\a.2=YU l x:=by
 rcases A7e l x with e|h1
 .omega
 exact h1
theorem mS {f:List AE} (hs:Ix f) (n:Int):(AP f n).Pairwise (λa b=>a.1<b.1):=(Gh _).1 (sA hs n).1
theorem A9F {f:List AE} (hs:Ix f) {n:Int} {a:Int×Int} (ha:a∈AP f n):YU (AP f n) a.1=a.2:=gM (mS hs n) ha
theorem A0p {f:List AE} (hf:AQ f) (hs:Ix f) (h0:0<f.length) (a:Int->Int×Int->Bool) {n:Int} (hn:n∈Cm (Gy a f f.length) f.length [] 0) :
  AP (YO a f) (Bk (Cm (Gy a f f.length) f.length [] 0) n)=((AP f n).filter (a n)).map (JL (Cm (Gy a f f.length) f.length [] 0)):=by
 obtain⟨h,l⟩:=bU hf hs a;have c:=Kg a f f.length;have e:=A4g h O1;have d:=λi=>A0o (f:=Gy a f f.length) (i:=i);rw[c]at e d;obtain⟨j,k,g⟩:=CZ hn;have b:=e.ok.rng n hn;rw[c]at b;show ((YO a f).getD _ (0,[])).2=_;have:YO a f=AK (Gy a f f.length) 0:=rfl;rw[this,d _ O1,g];unfold DD;rw[mR a b.1 b.2]
theorem b4 {f:List AE}:∀(p:List Int) (n:Int) (z:List Int),CY f n p=none->CY f n (p++z)=none
 | [],_,_,h=>by cases h
 | x :: p,n,z,h=>by
  simp only[CY,ACf]at h ⊢;split
  .rfl
  rename_i a;rw[At a]at h;exact b4 p _ z h
theorem b5 {f:List AE} {p:List Int} {e y:Int} (h:CY f 0 (p++[e])=some y):∃x,CY f 0 p=some x/\∃a∈AP f x,a.1=e/\a.2=y:=by
 cases hh:CY f 0 p with
 | none=>rw[b4 p 0 [e] hh]at h;cases h
 | some x =>
  have b:=Ln f p 0 x e hh;rw[h]at b;split at b
  .cases b
  rename_i g;obtain⟨a,ha,c,d⟩:=A4h (l:=AP f x) (x:=e) O1;exact⟨x,rfl,a,ha,c,by rw[d];exact(ADj b).symm⟩
theorem A4i {f:List AE} (hf:AQ f) (hs:Ix f) {p:List Int} {x:Int} (h:CY f 0 p=some x) {a:Int×Int} (ha:a∈AP f x):CY f 0 (p++[a.1])=some a.2:=by
 rw[Ln f p 0 x a.1 h,A9F hs ha,At (by have:=(Aw hf ha).1;omega)]
section
attribute [local go_sem] X5
def CR (l:List (Int×Int)) (e:Int):Int:=match l with
 | []=>-1
 | a :: l=>if a.1=e then a.2 else CR l e
theorem b6 (e:Int) (l:List (Int×Int)) {k:Nat} (h:k<l.length):CR (l.drop k) e=if (l.getD k (0,0)).1=e then (l.getD k (0,0)).2 else CR (l.drop (k+1)) e:=by
 rw[IS h];have e:l.getD k (0,0)=l[k]:=by simp[AS,h]
 rw[e];rfl
end
section
attribute [local go_sem] X5
def gN (bl:List (Int×Int)) (m:List Int) (x:Int×Int):Bool:=decide (CR bl x.1<0)||decide (0<=m.getD x.2.toNat 0)&&!(m.getD x.2.toNat 0==CR bl x.1)
def Jj (bl:List (Int×Int)):List (Int×Int)->List Int->Option (List Int)
 | [],m=>some m
 | x :: l,m=>if gN bl m x=true then none else Jj bl l (m.set x.2.toNat (CR bl x.1))
def Rb (h:AG) (b:List AE) (n:AE) (k:Int):Bool:=decide (k<0)||!Aj h n.1 (b.getD k.toNat (0,[])).1
def Iz (h:AG) (b:List AE):List AE->Nat->List Int->Option (List Int)
 | [],_,m=>some m
 | n :: r,i,m=>if Rb h b n (m.getD i 0)=true then none else match Jj (b.getD (m.getD i 0).toNat (0,[])).2 n.2 m with
  | none=>none
  | some a=>Iz h b r (i+1) a
def A9G (h:AG) (a b:List AE):Option (List Int):=Iz h b a 0 ((List.replicate a.length (-1)).set 0 0)
theorem PC (h:AG) (b a:List AE) (m:List Int) {i:Nat} (hi:i<a.length):Iz h b (a.drop i) i m=if Rb h b (a.getD i (0,[])) (m.getD i 0)=true then none else match Jj (b.getD (m.getD i 0).toNat (0,[])).2 (a.getD i (0,[])).2 m with
  | none=>none
  | some c=>Iz h b (a.drop (i+1)) (i+1) c:=by
 rw[IS hi];have e:a.getD i (0,[])=a[i]:=by simp[AS,hi]
 rw[e];rfl
structure A4j (a b:List AE) (m:List Int):Prop where
 len:m.length=a.length
 rng:∀x∈m,x<(b.length:Int)
theorem gP {n:Int} (hn:0<=n):∀ {l:List (Int×Int)} (e:Int),(∀x∈l,x.2<n)->CR l e<n
 | [],_,_=>by simp only[CR];omega
 | x :: l,e,h=>by
  simp only[CR];split
  .exact h x sc
  exact gP hn e (λy a=>h y (by simp[a]))
theorem A4j.set {a b:List AE} {m:List Int} (h:A4j a b m) (k:Nat) {v:Int} (d:v<(b.length:Int)):A4j a b (m.set k v):=by
 refine⟨by simp[h.len],λx c=>?_⟩;rcases ACx c with c|c
 .exact h.rng x c
 rw[c];exact d
theorem A4j.get {a b:List AE} {m:List Int} (h:A4j a b m) (c:0<b.length) (k:Nat):m.getD k 0<(b.length:Int):=by
 rw[AS];cases hh:m[k]? with
 | none=>show (0:Int)<_;omega
 | some x=>exact h.rng x (tO hh)
def Cq (h:AG) (f:List AE):Prop:=∀x∈f,0<=x.1/\x.1<(h.1.length:Int)
theorem Ki {f:List AE} (hf:AQ f) (k:Nat):∀x∈(f.getD k (0,[])).2,0<=x.2/\x.2<(f.length:Int):=by
 intro x a;by_cases h:k<f.length
 .exact(hf.2 _ (AD f (0,[]) h)).2 x a
 rw[AS,SA O1]at a;cases a
def b7 (h:AG) (a b:List AE):Bool:=(A9G h a b).isSome
end
structure KF (h:AG) (a b:List AE) (m:Int->Int):Prop where
 zero:m 0=0
 rng:∀i,0<=i->i<(a.length:Int)->0<=m i/\m i<(b.length:Int)
 ty:∀i,0<=i->i<(a.length:Int)->Aj h (a.getD i.toNat (0,[])).1 (b.getD (m i).toNat (0,[])).1=true
 arc:∀i,0<=i->i<(a.length:Int)->∀x∈AP a i,CR (AP b (m i)) x.1=m x.2
theorem Fj {l:List (Int×Int)} (h:l.Pairwise (λa b=>a.1<b.1)) {a:Int×Int} (ha:a∈l):CR l a.1=a.2:=by
 induction l with
 | nil=>cases ha
 | cons b l d =>
  obtain⟨h1,c⟩:=aS.1 h;simp only[CR];rcases Do.1 ha with rfl|ha
  .rw[BY rfl]
  grind
theorem FA {l:List (Int×Int)} {e:Int} (h:0<=CR l e):∃a∈l,a.1=e/\a.2=CR l e:=by
 induction l with
 | nil=>simp only[CR]at h;omega
 | cons b l c =>
  simp only[CR]at h ⊢;split
  .grind
  grind
theorem A9H {f:List AE} (hs:Ix f) {n:Int} {a:Int×Int} (ha:a∈AP f n):CR (AP f n) a.1=a.2:=Fj (mS hs n) ha
def RO (f:List AE):Prop:=∀i:Int,0<i->i<(f.length:Int)->∃j,0<=j/\j<i/\∃x∈AP f j,x.2=i
structure MH (a:List AE) (m:Int->Int) (M:List Int):Prop where
 len:M.length=a.length
 val:∀k:Nat,k<a.length->M.getD k 0=-1\/M.getD k 0=m (k:Int)
theorem Lo {M:List Int} {k j:Nat} {v:Int} (hk:k<M.length):(M.set k v).getD j 0=if k=j then v else M.getD j 0:=by grind
theorem mT {a:List AE} (ha:AQ a) {m:Int->Int} {n:Int} (g:∀i,0<=i->i<(a.length:Int)->0<=m i) {bl:List (Int×Int)}:∀ {l:List (Int×Int)} {M:List Int},(∀x∈l,x∈AP a n)->(∀x∈l,CR bl x.1=m x.2)->MH a m M ->
  ∃b,Jj bl l M=some b/\MH a m b/\(∀k:Nat,k<a.length->M.getD k 0=m (k:Int)->b.getD k 0=m (k:Int))/\∀x∈l,b.getD x.2.toNat 0=m x.2
 | [],M,_,_,h=>⟨M,rfl,h,λ_ _ h=>h,λx d=>by cases d⟩
 | x :: l,M,f,o,h=>by
  have j:=Aw ha (f x sc);have d:=o x sc;have B:=g x.2 j.1 j.2;have q:x.2.toNat<a.length:=by omega
  have p:((x.2.toNat:Nat):Int)=x.2:=by omega
  have u:=h.val x.2.toNat q;rw[p]at u;have z:¬gN bl M x=true:=by grind [gN]
  have t:MH a m (M.set x.2.toNat (CR bl x.1)):=by
   refine⟨by rw[Tq];exact h.len,λk hk=>?_⟩;rw[Lo (by rw[h.len];exact q)];split
   .rename_i e;right;rw[d,<-e,p]
   exact h.val k hk
  obtain⟨b,v,r,s,w⟩:=mT ha g (l:=l) (λy c=>f y (by simp[c])) (λy c=>o y (by simp[c])) t;refine⟨b,?_,r,λk hk A=>s k hk ?_,λy c=>?_⟩
  .grind [Jj]
  .grind
  grind
theorem b8 {h:AG} {a b:List AE} (ha:AQ a) (q:RO a) {m:Int->Int} (c:KF h a b m):∀(r i:Nat) (M:List Int),r+i=a.length->MH a m M->(0<a.length->M.getD 0 0=0) ->
  (∀k:Nat,k<a.length->(∃j:Int,0<=j/\j<(i:Int)/\∃x∈AP a j,x.2=(k:Int))->M.getD k 0=m (k:Int))->∃f,Iz h b (a.drop i) i M=some f
 | 0,i,M,D,_,_,_=>by
  rw[By O1];exact⟨M,rfl⟩
 | r+1,i,M,D,y,o,z=>by
  have hi:i<a.length:=by omega
  have C:M.getD i 0=m (i:Int):=by
   cases i with
   | zero =>
    rw[o hi];exact c.zero.symm
   | succ i =>
    obtain⟨j,F,G,x,d,e⟩:=q ((i+1:Nat):Int) O1 O1;exact z (i+1) hi ⟨j,F,G,x,d,e⟩
  have J:=c.rng (i:Int) O1 O1;have E:=c.ty (i:Int) O1 O1;have A:=c.arc (i:Int) O1 O1;rw[R3]at E;have B:¬Rb h b (a.getD i (0,[])) (M.getD i 0)=true:=by grind [Rb]
  rw[PC h b a M hi,At B,C];have p:AP a (i:Int)=(a.getD i (0,[])).2:=by rw[AP,R3]
  obtain⟨f,s,t,u,H⟩:=mT (n:=(i:Int)) ha (λk v w=>(c.rng k v w).1) (bl:=(b.getD (m (i:Int)).toNat (0,[])).2) (l:=(a.getD i (0,[])).2) (λx d=>by rw[p];exact d) (λx d=>A x (by rw[p];exact d)) y;rw[s];simp only;refine b8 ha q c r (i+1) f O1 t (λg=>?_) (λk hk I=>?_)
  .have:=u 0 g (by rw[o g];exact c.zero.symm);rw[this];exact c.zero
  grind
theorem wQ {h:AG} {a b:List AE} (ha:AQ a) (h0:0<a.length) (f:RO a) {m:Int->Int} (c:KF h a b m):b7 h a b=true:=by
 have g:((List.replicate a.length (-1:Int)).set 0 0).getD 0 0=0:=by rw[Lo (by simpa using h0),BY rfl]
 obtain⟨i,e⟩:=b8 ha f c a.length 0 ((List.replicate a.length (-1)).set 0 0) O1 ⟨by simp,λk hk=>by
  rw[Lo (by simpa using h0)];split
  .rename_i e;right;rw[<-e];exact c.zero.symm
  .left;simp[AS,AAy,hk]⟩ (λ_=>g) (λk hk d=>by
  obtain⟨j,l,n,_⟩:=d;omega)
 grind [b7,A9G]
theorem mU {b:List AE} {bl:List (Int×Int)} (i:0<b.length) (c:∀x∈bl,x.2<(b.length:Int)) {n:Nat}:∀ {l:List (Int×Int)} {M a:List Int},(∀x∈l,0<=x.2/\x.2<(n:Int))->M.length=n->(∀k,M.getD k 0<(b.length:Int))->Jj bl l M=some a ->
  a.length=n/\(∀k,a.getD k 0<(b.length:Int))/\(∀k,0<=M.getD k 0->a.getD k 0=M.getD k 0)/\∀x∈l,0<=a.getD x.2.toNat 0/\CR bl x.1=a.getD x.2.toNat 0
 | [],M,a,_,hn,hk,h=>by
  have:M=a:=ADj h;grind
 | x :: l,M,a,d,hn,hk,h=>by
  simp only[Jj]at h;split at h
  .cases h
  rename_i r;have t:=d x sc;have m:x.2.toNat<M.length:=by omega
  have j:=gP (n:=(b.length:Int)) O1 (l:=bl) x.1 c;obtain⟨f,g,o,p⟩:=mU i c (l:=l) (λy e=>d y (by simp[e])) (by rw[Tq];exact hn) (λk=>by
   rw[Lo m];split
   .exact j
   exact hk k) h
  have q:0<=CR bl x.1/\(0<=M.getD x.2.toNat 0->M.getD x.2.toNat 0=CR bl x.1):=by grind [gN]
  refine⟨f,g,λk s=>?_,λy e=>?_⟩
  .grind
  grind
theorem b9 {d:AG} {a b:List AE} (ha:AQ a) (g:AQ b) (j:0<b.length):∀(r i:Nat) (M c:List Int),r+i=a.length->M.length=a.length->(∀k,M.getD k 0<(b.length:Int))->Iz d b (a.drop i) i M=some c ->
  (∀k,c.getD k 0<(b.length:Int))/\(∀k,0<=M.getD k 0->c.getD k 0=M.getD k 0)/\∀k:Nat,i<=k->k<a.length->0<=c.getD k 0/\Aj d (a.getD k (0,[])).1 (b.getD (c.getD k 0).toNat (0,[])).1=true/\∀x∈(a.getD k (0,[])).2,0<=c.getD x.2.toNat 0/\CR (b.getD (c.getD k 0).toNat (0,[])).2 x.1=c.getD x.2.toNat 0
 | 0,i,M,c,s,_,hk,h=>by
  rw[By O1]at h;have:M=c:=ADj h;grind
 | r+1,i,M,c,s,hn,hk,h=>by
  have hi:i<a.length:=by omega
  rw[PC d b a M hi]at h;split at h
  .cases h
  rename_i z;have y:0<=M.getD i 0/\Aj d (a.getD i (0,[])).1 (b.getD (M.getD i 0).toNat (0,[])).1=true:=by grind [Rb,Aj]
  cases e:Jj (b.getD (M.getD i 0).toNat (0,[])).2 (a.getD i (0,[])).2 M with
  | none=>rw[e]at h;cases h
  | some l =>
   rw[e]at h;simp only at h;obtain⟨m,o,v,w⟩:=mU j (λx f=>(Ki g _ x f).2) (n:=a.length) (λx f=>Ki ha i x f) hn hk e;obtain⟨t,C,u⟩:=b9 ha g j r (i+1) l c O1 m o h;have q:∀k,0<=M.getD k 0->c.getD k 0=M.getD k 0:=λk A=>by grind
   refine⟨t,q,λk h1 p=>?_⟩;by_cases B:k=i
   .grind
   exact u k O1 p
theorem A9I {h:AG} {a b:List AE} (ha:AQ a) (j:0<a.length) (o:AQ b) (p:0<b.length) (c:b7 h a b=true):∃m,KF h a b m:=by
 unfold b7 A9G at c;cases l:Iz h b a 0 ((List.replicate a.length (-1)).set 0 0) with
 | none=>rw[l]at c;cases c
 | some M =>
  have n:((List.replicate a.length (-1:Int)).set 0 0).getD 0 0=0:=by rw[Lo (by simpa using j),BY rfl]
  obtain⟨r,s,d⟩:=b9 ha o p a.length 0 ((List.replicate a.length (-1)).set 0 0) M O1 sc (λk=>by
   rw[Lo (by simpa using j)];split
   .omega
   rw[AS,AAy];split
   .show (-1:Int)<_;omega
   show (0:Int)<_;omega) (by rw[f4];exact l)
  have g:=s 0 (by rw[n];omega);rw[n]at g;refine⟨λi=>M.getD i.toNat 0,g,λi e f=>⟨(d i.toNat O1 O1).1,r _⟩,λi e f=>(d i.toNat O1 O1).2.1,λi e f x q=>((d i.toNat O1 O1).2.2 x q).2⟩
theorem Rc {f:List AE} (hf:AQ f):∀(k:Nat) (t:List Int) (n:Int),Ks f t->0<=n->n<f.length->n∉t ->
  ∀q,t.length<q->q<(Cm f k t n).length->∃j,j<q/\∃a∈AP f ((Cm f k t n).getD j 0),a.2=(Cm f k t n).getD q 0
 | 0,t,n,h,h0,h1,x,q,A,d=>by simp only[Cm]at d;omega
 | k+1,t,n,h,h0,h1,x,q,A,d=>by
  have key:∀(l:List (Int×Int)) (u:List Int),(∀a∈l,a∈AP f n)->Ks f u->t++[n] <+: u ->
    (∀q,t.length<q->q<u.length->∃j,j<q/\∃a∈AP f (u.getD j 0),a.2=u.getD q 0) ->
    ∀q,t.length<q->q<(l.foldl (Ae f k) u).length->∃j,j<q/\∃a∈AP f ((l.foldl (Ae f k) u).getD j 0),a.2=(l.foldl (Ae f k) u).getD q 0:=by
   intro l;induction l with
   | nil=>intro u _ _ _ hu q o c;exact hu q o c
   | cons a l H =>
    intro u y hu s E;have ha:=y a sc;have g:=Aw hf ha;rw[On];by_cases p:a.2∈u
    .grind [Ae]
    have hs:Ae f k u a=Cm f k u a.2:=by unfold Ae;rw[At p]
    rw[hs];obtain⟨C,w⟩:=EL hf k u a.2 hu g.1 g.2 p;have r:∀j,j<u.length->(Cm f k u a.2).getD j 0=u.getD j 0:=λj D=>by
     obtain⟨v,m⟩:=w;rw[<-m];simp only[AS];rw[TO D]
    have G:u.getD t.length 0=n:=by
     obtain⟨v,m⟩:=s;rw[<-m];simp[AS]
    have B:t.length<u.length:=by
     have:=s.length_le;simp at this;omega
    refine H (Cm f k u a.2) (λb i=>y b (by simp[i])) C (s.trans w) (λq o c=>?_);by_cases z:q<u.length
    .obtain⟨j,I,b,i,e⟩:=E q o z;refine⟨j,I,b,?_,?_⟩
     .rw[r j O1];exact i
     rw[r q z];exact e
    by_cases d:q=u.length
    .subst d;refine⟨t.length,B,a,?_,?_⟩
     .rw[r _ B,G];exact ha
     cases k with
     | zero=>simp only[Cm]at c;omega
     | succ k =>
      have F:u++[a.2] <+: Cm f (k+1) u a.2:=by
       rw[CO];exact(E7 (EL hf k) _ _ (λb i=>Aw hf i) (hu.snoc g.1 g.2 p)).2
      obtain⟨v,m⟩:=F;rw[<-m];simp[AS]
    exact Rc hf k u a.2 hu g.1 g.2 p q O1 c
  rw[CO]at d ⊢;exact key _ (t++[n]) (λa ha=>ha) (h.snoc h0 h1 x) (ACe _) (λq o c=>by simp only[F3,R7]at c;omega) q A d
theorem A7f {f:List AE} (hf:AQ f) (hs:Ix f) (h0:0<f.length) (b:Int->Int×Int->Bool):RO (YO b f):=by
 obtain⟨g,t⟩:=bU hf hs b;have h:=Kg b f f.length;have c:=A4g g O1;have k:=A0n (Gy b f f.length);have m:=Rc g (Gy b f f.length).length [] 0 (Gi _) O1 O1 sc;have q:=λn hn=>A0p hf hs h0 b (n:=n) hn;rw[h]at c k m;have r:(YO b f).length=(Cm (Gy b f f.length) f.length [] 0).length:=k;intro i s p;rw[r]at p;generalize Cm (Gy b f f.length) f.length [] 0=o at *;obtain⟨j,u,a,ha,e⟩:=m i.toNat (by simp only[AC5];omega) O1;have l:o.getD j 0∈o:=AD _ 0 O1;have d:=c.ok.rng _ l;rw[h]at d;rw[AP,mR b d.1 d.2]at ha;refine⟨(j:Int),by omega,by omega,JL o a,?_,?_⟩
 .have:=q _ l;rw[Fi c.ok.nd O1]at this;rw[this];exact DO.2 ⟨a,ha,rfl⟩
 show Bk o a.2=i;rw[e,Fi c.ok.nd O1];omega
theorem sP (x:List Int):NJ x x=true:=by grind [NJ,IP,Ul]
theorem OX (h:AG) (t:Int):Aj h t t=true:=sP _
theorem A4k {h:AG} {f g:List AE} (hf:AQ f) (t:AQ g) (u:Ix g) {m:Int->Int} (d:KF h f g m) (h0:0<f.length) (p:List Int):∀n,CY f 0 p=some n->0<=n/\n<(f.length:Int)/\CY g 0 p=some (m n):=by
 induction p using Dn with
 | h0 =>
  intro n h;simp only[CY,AAi]at h;subst h;exact⟨by omega,by omega,by simp only[CY];rw[d.zero]⟩
 | h1 p e s =>
  intro n h;obtain⟨x,r,a,ha,k,i⟩:=b5 h;obtain⟨v,w,q⟩:=s x r;have c:=Aw hf ha;have h1:=d.arc x v w a ha;obtain⟨b,o,c1,c2⟩:=FA (l:=AP g (m x)) (e:=a.1) (by rw[h1];exact(d.rng _ c.1 c.2).1);have j:=A4i t u q o;rw[c1,k,c2,h1,i]at j;rw[i]at c;exact⟨c.1,c.2,j⟩
abbrev Dq (p:List Int) (n:Int):Int:=p.getD n.toNat 0
structure Fo (p:List Int) (rk:Int->Nat):Prop where
 rng:∀n,0<=n->n<(p.length:Int)->0<=Dq p n/\Dq p n<(p.length:Int)
 dec:∀n,0<=n->n<(p.length:Int)->Dq p n≠n->rk (Dq p n)<rk n
inductive Rt (p:List Int):Int->Int->Prop
 | base {n:Int} (h:Dq p n=n):Rt p n n
 | step {n r:Int} (h:Dq p n≠n) (h2:Rt p (Dq p n) r):Rt p n r
theorem Rt.det {p:List Int} {n r s:Int} (h:Rt p n r) (g:Rt p n s):r=s:=by
 induction h with
 | base h =>
  cases g with
  | base g=>rfl
  | step g _=>exact absurd h g
 | step h _ b =>
  cases g with
  | base g=>exact absurd g h
  | step _ a=>exact b a
theorem Rt.root {p:List Int} {n r:Int} (h:Rt p n r):Dq p r=r:=by
 induction h with
 | base h=>exact h
 | step _ _ a=>exact a
theorem Fo.ex {p:List Int} {b:Int->Nat} (h:Fo p b):∀(k:Nat) (n:Int),b n<=k->0<=n->n<(p.length:Int)->∃r,Rt p n r/\0<=r/\r<(p.length:Int)
 | 0,n,hk,h0,h1=>by
  by_cases e:Dq p n=n
  .exact⟨n,.base e,h0,h1⟩
  have:=h.dec n h0 h1 e;omega
 | k+1,n,hk,h0,h1=>by
  by_cases e:Dq p n=n
  .exact⟨n,.base e,h0,h1⟩
  have g:=h.dec n h0 h1 e;have a:=h.rng n h0 h1;obtain⟨r,c,d,f⟩:=h.ex k (Dq p n) O1 a.1 a.2;exact⟨r,.step e c,d,f⟩
theorem Fo.root {p:List Int} {a:Int->Nat} (h:Fo p a) {n:Int} (h0:0<=n) (h1:n<(p.length:Int)):∃r,Rt p n r/\0<=r/\r<(p.length:Int):=h.ex (a n) n (OR _) h0 h1
theorem DI {p:List Int} {n v:Int} (h0:0<=n) (h1:n<(p.length:Int)) (x:Int) (a:0<=x):Dq (p.set n.toNat v) x=if x=n then v else Dq p x:=by
 unfold Dq;rw[Lo O1];by_cases e:x=n
 .subst e;rw[BY rfl,BY rfl]
 rw[At O1,At e]
def Gj (p:List Int) (n:Int):List Int:=p.set n.toNat (Dq p (Dq p n))
theorem TG (p:List Int) (n:Int):(Gj p n).length=p.length:=by simp[Gj]
theorem A4l {p:List Int} {f:Int->Nat} (h:Fo p f) {n:Int} (h0:0<=n) (h1:n<(p.length:Int)) (hn:Dq p n≠n):Fo (Gj p n) f:=by
 have c:=h.rng n h0 h1;have g:=h.rng _ c.1 c.2;have i:=h.dec n h0 h1 hn;have j:f (Dq p (Dq p n))<=f (Dq p n):=by
  by_cases e:Dq p (Dq p n)=Dq p n
  .rw[e];exact OR _
  exact ADf (h.dec _ c.1 c.2 e)
 refine⟨λx a b=>?_,λx a b d=>?_⟩
 .rw[TG]at b ⊢;unfold Gj;rw[DI h0 h1 x a];split
  .exact g
  exact h.rng x a b
 rw[TG]at b;unfold Gj at d ⊢;rw[DI h0 h1 x a]at d ⊢;split
 .rename_i e;subst e;omega
 rename_i e;rw[At e]at d;exact h.dec x a b d
theorem mV {p:List Int} {q:Int->Nat} (h:Fo p q) {n:Int} (h0:0<=n) (h1:n<(p.length:Int)) (hn:Dq p n≠n):∀(k:Nat) (x r:Int),q x<=k->0<=x->x<(p.length:Int)->Rt p x r->Rt (Gj p n) x r:=by
 intro k;induction k with
 | zero =>
  intro x r hk a l j;have e:Dq p x=x:=IF λe=>by have:=h.dec x a l e;omega
  have f:x≠n:=λb=>hn (b▸e);have:=j.det (.base e);rw[this];refine .base ?_;unfold Gj;rw[DI h0 h1 x a,At f];exact e
 | succ k m =>
  intro x r hk a l j;by_cases e:Dq p x=x
  .have f:x≠n:=λb=>hn (b▸e);have:=j.det (.base e);rw[this];refine .base ?_;unfold Gj;rw[DI h0 h1 x a,At f];exact e
  have v:=h.dec x a l e;have c:=h.rng x a l;have i:Rt p (Dq p x) r:=by
   cases j with
   | base g=>exact absurd g e
   | step _ g=>exact g
  by_cases f:x=n
  .subst f;by_cases b:Dq p (Dq p x)=Dq p x
   .have:=i.det (.base b);rw[this]at i ⊢;refine .step (r:=Dq p x) ?_ ?_
    .unfold Gj;rw[DI h0 h1 x a,BY rfl,b];exact e
    have d:Dq (Gj p x) x=Dq p x:=by
     unfold Gj;rw[DI h0 h1 x a,BY rfl,b]
    rw[d];exact m _ _ O1 c.1 c.2 i
   have t:=h.dec _ c.1 c.2 b;have o:=h.rng _ c.1 c.2;have u:Rt p (Dq p (Dq p x)) r:=by
    cases i with
    | base g=>exact absurd g b
    | step _ g=>exact g
   have d:Dq (Gj p x) x=Dq p (Dq p x):=by
    unfold Gj;rw[DI h0 h1 x a,BY rfl]
   refine .step ?_ ?_
   .rw[d];intro s;rw[s]at t;omega
   rw[d];exact m _ _ O1 o.1 o.2 u
  have d:Dq (Gj p n) x=Dq p x:=by
   unfold Gj;rw[DI h0 h1 x a,At f]
  refine .step ?_ ?_
  .rw[d];exact e
  rw[d];exact m _ _ O1 c.1 c.2 i
def FB (p q:List Int):Prop:=p.length=q.length/\∀x r,0<=x->x<(p.length:Int)->(Rt p x r↔Rt q x r)
theorem FB.refl (p:List Int):FB p p:=⟨rfl,λ_ _ _ _=>Iff.rfl⟩
theorem FB.trans {p q s:List Int} (h:FB p q) (g:FB q s):FB p s :=
 ⟨h.1.trans g.1,λx r a b=>(h.2 x r a b).trans (g.2 x r a (by rw[<-h.1];exact b))⟩
theorem sQ {p:List Int} {d:Int->Nat} (h:Fo p d) {n:Int} (h0:0<=n) (h1:n<(p.length:Int)) (hn:Dq p n≠n):FB p (Gj p n):=by
 refine⟨(TG p n).symm,λx r b c=>⟨λa=>mV h h0 h1 hn _ x r (OR _) b c a,λa=>?_⟩⟩;obtain⟨s,hs,-,-⟩:=h.root b c;have:=mV h h0 h1 hn _ x s (OR _) b c hs;have e:=this.det a;rw[<-e];exact hs
def cA (h:AG) (p ty:List Int) (ar:List (List (Int×Int))):List (Nat×Obj):=[(1,.box 111 true [.p D8 h,.sr 2 T3 0 p.length,.sr 3 T3 0 ty.length,.sr 4 Cl 0 ar.length]),(2,.arr 3 T3 p),(3,.arr 3 T3 ty),(4,.arr 91 Cl ar)]
theorem gQ (h:AG) (ty:List Int) (ar:List (List (Int×Int))) (d:Int->Nat) {p:List Int} (z:Fo p d) {n:Int} (h0:0<=n) (h1:n<(p.length:Int)):Bb Tryz.prog 136 [.bp 1 [] 0,.p T3 n] (cA h p ty ar) [1]
  (λres B=>∃(t:List Int) (r:Int),res=.p T3 r/\B=cA h t ty ar/\Fo t d/\FB p t/\Rt p n r):=by
 refine OJ [0,1,4,13] [] [] Tryz.func136 Tryz.ntmps136 AH ?_;intro w0 K O0 ρ0 j D E;simp only[A6,cA];repeat'(first|exact trivial|apply eS rfl|refine rX j ?_ ?_)
 refine AI (ι:={x:List Int×Int//Fo x.1 d/\FB p x.1/\0<=x.2/\x.2<(p.length:Int)/\(∀r,Rt x.1 x.2 r->Rt p n r)}) (λx=>⟨[(0,.bp 1 [] 0),(1,.p T3 x.1.2)],[(1,.box 111 true [.p D8 h,.sr 2 T3 0 p.length,.sr 3 T3 0 ty.length,.sr 4 Cl 0 ar.length]),(2,.arr 3 T3 x.1.1),(3,.arr 3 T3 ty),(4,.arr 91 Cl ar)]⟩) (λx=>d x.1.2) ⟨(p,n),z,FB.refl p,h0,h1,λ_ g=>g⟩ (eW [(1,.nm 1),(2,.nm 2),(3,.nm 3),(4,.nm 4)]) (λx=>?_)
 obtain⟨⟨q,m⟩,b,hs,a,f,s⟩:=x;simp only at b hs a f s;have o:q.length=p.length:=hs.1.symm;have c:=b.rng m a O1;simp only;repeat'(first|exact trivial|apply eS rfl|apply AB|refine rX j ?_ ?_|refine rC ?_ ?_<;>intro i<;>try(cases i;done))
 .exact⟨a,f⟩
 .exact⟨⟨a,f⟩,⟨c.1,by rw[<-o];exact c.2⟩,a,f⟩
 .exact⟨a,f⟩
 .have k:Dq q m≠m:=i;have C:=b.dec m a O1 k;have u:=b.rng _ c.1 c.2;have w:d (Dq q (Dq q m))<=d (Dq q m):=by
   by_cases e:Dq q (Dq q m)=Dq q m
   .rw[e];exact OR _
   exact ADf (b.dec _ c.1 c.2 e)
  have v:=sQ b a O1 k;have l:Dq (Gj q m) m=Dq q (Dq q m):=by
   unfold Gj;rw[DI a O1 m a,BY rfl]
  refine⟨⟨(Gj q m,Dq q (Dq q m)),A4l b a O1 k,hs.trans v,u.1,by rw[<-o];exact u.2,λr A=>s r ?_⟩,by simp only;omega,AC [(1,.nm 1),(2,.nm 2),(3,.nm 3),(4,.nm 4)] rfl rfl ?_ ?_⟩
  .refine(v.2 m r a O1).2 (.step ?_ ?_)
   .rw[l];intro e;rw[e]at w;omega
   rw[l];exact A
  .refine eM ?_;rfl
  refine eM ?_;exact l
 have y:Dq q m=m:=by simpa using i
 refine Ev.ent (σ':=⟨[(4,.p T3 m)],cA h q ty ar⟩) ?_ (AC [(1,.nm 1),(2,.nm 2),(3,.nm 3),(4,.nm 4)] rfl rfl ?_ ?_)
 .exact fM j [.tmp 4] (.p T3 m) eT ⟨q,m,rfl,rfl,b,hs,s m (.base y)⟩
 .unfold cA;rw[o];exact eN
 exact eN
def Ct (b n:Nat):List Int:=(List.range n).map λi=>((b+i:Nat):Int)
def AX (b:Nat) (l:List (Int×Int)):List (Int×Int):=l.map λa=>(a.1,a.2+(b:Int))
def DT (l:List AE) (n:Nat):List Int:=(l.take n).map λx=>x.1
def GG (b:Nat) (l:List AE) (n:Nat):List (List (Int×Int)):=(l.take n).map λx=>AX b x.2
theorem sR (b n:Nat):Ct b (n+1)=Ct b n++[((b+n:Nat):Int)]:=by simp[Ct,To]
theorem Kj (b n:Nat):(Ct b n).length=n:=by simp[Ct]
theorem A4m (h:AG) (p ty:List Int) (ar:List (List (Int×Int))) (l:List AE) (f:AQ l) (J:p.length<=100000) (L:ty.length=p.length) (E:ar.length=p.length) :
  Bb Tryz.prog 85 [.bp 1 [] 0,.p DV l] (cA h p ty ar) [1]
  (λres D=>res=.raw (.tuple #[])/\D=cA h (p++Ct p.length l.length) (ty++DT l l.length) (ar++GG p.length l l.length)):=by
 refine OJ [0,1,4,5,6,7,9,15,16,17,18,46,47,48,49] [] [] Tryz.func85 Tryz.ntmps85 AH ?_;intro w0 K O0 ρ0 c H I;have G:=f.1;simp only[A6,cA];repeat'(first|exact trivial|apply eS rfl|refine rX c ?_ ?_)
 refine AI (ι:={i:Nat//i<=l.length}) (λi=>⟨[(0,.bp 1 [] 0),(4,.p (.int .i64) (p.length:Int)),(15,.p DV l),(16,.p (.int .i64) (l.length:Int)),(17,.p (.int .i64) (i.1:Int))],[(1,.box 111 true [.p D8 h,.sr 2 T3 0 (p++Ct p.length i.1).length,.sr 3 T3 0 (ty++DT l i.1).length,.sr 4 Cl 0 (ar++GG p.length l i.1).length]),(2,.arr 3 T3 (p++Ct p.length i.1)),(3,.arr 3 T3 (ty++DT l i.1)),(4,.arr 91 Cl (ar++GG p.length l i.1))]⟩) (λi=>l.length-i.1) ⟨0,If _⟩ (AC [(1,.nm 1),(2,.nm 2),(3,.nm 3),(4,.nm 4)] rfl rfl ?_ ?_) (λi=>?_)
 .refine eM ?_;simp[Ct,DT,GG]
 .exact eN
 obtain⟨i,hi⟩:=i;have s:=Kj p.length i;have t:=sR p.length i;have y:(DT l i).length=i:=by unfold DT;rw[Of,OF];omega
 have n:(GG p.length l i).length=i:=by unfold GG;rw[Of,OF];omega
 have z:=λh:i<l.length=>Dl (λx:AE=>x.1) l (0,[]) h;have o:=λh:i<l.length=>Dl (λx:AE=>AX p.length x.2) l (0,[]) h;simp only;repeat'(first|exact trivial|apply eS rfl|refine rX c ?_ ?_|refine rC ?_ ?_<;>intro b<;>try(cases b;done))
 .exact b
 .refine⟨⟨by omega,by omega⟩,?_⟩;rw[s];simp only[AN];omega
 .have d:i<l.length:=GO.1 b;refine Fv drawsAny c 9 [([1,2,3,4,5,6,7],8)] [0] (by kernel_rfl) (Vu ?_ ?_)
  .trivial
  refine e9 c [3] ?_ ?_
  .rw[y];simp only[AN];omega
  refine p6 c ?_ ?_ ?_
  .trivial
  .trivial
  have A:=z d;have q:=o d;have m:p++Ct p.length i++[(p.length:Int)+(i:Int)]=p++Ct p.length (i+1):=by
   rw[t,SC];rfl
  have eT:ty++DT l i++[(l.getD i (0,[])).1]=ty++DT l (i+1):=by
   unfold DT;rw[A,SC]
  have B:p.length+(Ct p.length i).length+1=(p++Ct p.length (i+1)).length:=by rw[F3,Kj,Kj];omega
  have C:ty.length+(DT l i).length+1=(ty++DT l (i+1)).length:=by rw[<-eT,F3,F3,R7]
  have u:=Ki f i;have N:(l.getD i (0,[])).2.length<=100000:=(f.2 _ (AD l (0,[]) d)).1;repeat'(first|exact trivial|apply eS rfl|refine rX c ?_ ?_)
  rw[m,eT,B,C];generalize M:(l.getD i (0,[])).2=xs at *;refine AI (ι:={k:Nat//k<=xs.length}) (λk=>⟨[(0,.bp 1 [] 0),(4,.p (.int .i64) (p.length:Int)),(7,.sr 61 Av 0 (AX p.length (xs.take k.1)).length),(15,.p DV l),(16,.p (.int .i64) (l.length:Int)),(17,.p (.int .i64) (i:Int)),(46,.p Cl xs),(47,.p (.int .i64) (xs.length:Int)),(48,.p (.int .i64) (k.1:Int))],[(1,.box 111 true [.p D8 h,.sr 2 T3 0 (p++Ct p.length (i+1)).length,.sr 3 T3 0 (ty++DT l (i+1)).length,.sr 4 Cl 0 (ar++GG p.length l i).length]),(2,.arr 3 T3 (p++Ct p.length (i+1))),(3,.arr 3 T3 (ty++DT l (i+1))),(4,.arr 91 Cl (ar++GG p.length l i)),(61,.arr 106 Av (AX p.length (xs.take k.1)))]⟩) (λk=>xs.length-k.1) ⟨0,If _⟩ (AC [(1,.nm 1),(2,.nm 2),(3,.nm 3),(4,.nm 4),(61,.nil)] rfl rfl ?_ ?_) (λk=>?_)
  .refine eM ?_;rfl
  .refine eM ?_;rfl
  obtain⟨k,hk⟩:=k;have v:(AX p.length (xs.take k)).length=k:=by unfold AX;rw[Of,OF];omega
  have w:=λh:k<xs.length=>Dl (λa:Int×Int=>(a.1,a.2+(p.length:Int))) xs (0,0) h;have r:=λh:k<xs.length=>u _ (AD xs (0,0) h);simp only;repeat'(first|exact trivial|apply eS rfl|apply AB|refine rX c ?_ ?_|refine rC ?_ ?_<;>intro b<;>try(cases b;done))
  .exact b
  .have e:k<xs.length:=GO.1 b;have F:=r e;refine⟨⟨by omega,by omega⟩,?_⟩;rw[v];simp only[AN];omega
  .omega
  .have e:k<xs.length:=GO.1 b;have g:AX p.length (xs.take (k+1))=AX p.length (xs.take k)++[((xs.getD k (0,0)).1,(xs.getD k (0,0)).2+(p.length:Int))]:=w e;refine⟨⟨k+1,e⟩,by simp only;omega,AC [(1,.nm 1),(2,.nm 2),(3,.nm 3),(4,.nm 4),(61,.nm 61)] rfl rfl ?_ ?_⟩
   .simp only[g];exact eN
   simp only[g];exact eN
  .rw[n];simp only[AN];omega
  .omega
  have e:xs.take k=xs:=An (R4.1 b);rw[e];have j:ar++GG p.length l i++[AX p.length xs]=ar++GG p.length l (i+1):=by
   unfold GG;rw[q,SC]
  refine⟨⟨i+1,d⟩,by simp only;omega,AC [(1,.nm 1),(2,.nm 2),(3,.nm 3),(4,.nm 4)] rfl rfl ?_ ?_⟩
  .simp only[<-j];exact eN
  exact eN
 have d:i=l.length:=by omega
 subst d;refine Ev.ent (σ':=⟨[],cA h (p++Ct p.length l.length) (ty++DT l l.length) (ar++GG p.length l l.length)⟩) ?_ (AC [(1,.nm 1),(2,.nm 2),(3,.nm 3),(4,.nm 4)] rfl rfl ?_ ?_)
 .exact fM c [] (.raw (.tuple #[])) rfl ⟨rfl,rfl⟩
 .unfold cA;exact eN
 exact eN
section
attribute [local go_sem] v8
def B8:List (Int×Int)->List (Int×Int)->List (Int×Int)×List (Int×Int)
 | [],y=>(y,[])
 | a :: x,[]=>(a :: x,[])
 | a :: x,b :: y =>
  if a.1<b.1 then (a :: (B8 x (b :: y)).1,(B8 x (b :: y)).2)
  else if b.1<a.1 then (b :: (B8 (a :: x) y).1,(B8 (a :: x) y).2)
  else (a :: (B8 x y).1,(a.2,b.2) :: (B8 x y).2)
termination_by x y=>x.length+y.length
structure sS (xs ys:List (Int×Int)) (W0:List (Int×Int)) (s:(List (Int×Int)×List (Int×Int))×(List (Int×Int)×List (Int×Int)×Nat)):Prop where
 hi:s.2.2.2<=s.2.2.1.length
 both:s.2.1++(B8 s.1.1 s.1.2).1=(B8 xs ys).1
 wait:s.2.2.1.take s.2.2.2++(B8 s.1.1 s.1.2).2=W0++(B8 xs ys).2
 len:s.2.1.length+s.1.1.length+s.1.2.length<=xs.length+ys.length
 num:s.2.2.2+s.1.1.length<=W0.length+xs.length
theorem ABu {x y:List (Int×Int)} (h0:0<x.length) (h:y.length=0\/(x.getD 0 (0,0)).1<(y.getD 0 (0,0)).1):B8 x y=(x.getD 0 (0,0) :: (B8 (x.drop 1) y).1,(B8 (x.drop 1) y).2):=by
 cases x with
 | nil=>simp at h0
 | cons a x =>
  cases y with
  | nil =>
   simp only[ACl,f4];cases x<;>simp[B8]
  | cons b y =>
   have h:a.1<b.1:=by simpa using h
   simp only[ACl,f4];rw[B8,BY h];rfl
theorem ABv {x y:List (Int×Int)} (h0:0<y.length) (h:x.length=0\/(y.getD 0 (0,0)).1<(x.getD 0 (0,0)).1):B8 x y=(y.getD 0 (0,0) :: (B8 x (y.drop 1)).1,(B8 x (y.drop 1)).2):=by
 cases y with
 | nil=>simp at h0
 | cons b y =>
  cases x with
  | nil=>simp[B8]
  | cons a x =>
   have h:b.1<a.1:=by simpa using h
   simp only[ACl,f4];rw[B8,At O1,BY h];rfl
theorem A9J {x y:List (Int×Int)} (h0:0<x.length) (h1:0<y.length) (h:(x.getD 0 (0,0)).1=(y.getD 0 (0,0)).1):B8 x y=(x.getD 0 (0,0) :: (B8 (x.drop 1) (y.drop 1)).1,((x.getD 0 (0,0)).2,(y.getD 0 (0,0)).2) :: (B8 (x.drop 1) (y.drop 1)).2):=by
 cases x with
 | nil=>simp at h0
 | cons a x =>
  cases y with
  | nil=>simp at h1
  | cons b y =>
   have h:a.1=b.1:=by simpa using h
   simp only[ACl,f4];rw[B8,At O1,At O1];rfl
section
variable {xs ys W0 x y bo V:List (Int×Int)} {k:Nat}
theorem A9K (h:sS xs ys W0 ((x,y),bo,V,k)) (h0:0<x.length) (f:y.length=0\/(x.getD 0 (0,0)).1<(y.getD 0 (0,0)).1):sS xs ys W0 ((x.drop 1,y),bo++[x.getD 0 (0,0)],V,k):=by
 have e:=ABu h0 f;obtain⟨h1,a,b,c,d⟩:=h;simp only at h1 a b c d;rw[e]at a b;exact⟨h1,by rw[SC];exact a,b,by simp only[F3,R7,dO];omega,by simp only[dO];omega⟩
theorem A9L (h:sS xs ys W0 ((x,y),bo,V,k)) (h0:0<y.length) (f:x.length=0\/(y.getD 0 (0,0)).1<(x.getD 0 (0,0)).1):sS xs ys W0 ((x,y.drop 1),bo++[y.getD 0 (0,0)],V,k):=by
 have e:=ABv h0 f;obtain⟨h1,a,b,d,c⟩:=h;simp only at h1 a b d c;rw[e]at a b;exact⟨h1,by rw[SC];exact a,b,by simp only[F3,R7,dO];omega,c⟩
theorem A7g (h:sS xs ys W0 ((x,y),bo,V,k)) (h0:0<x.length) (h1:0<y.length) (g:(x.getD 0 (0,0)).1=(y.getD 0 (0,0)).1):sS xs ys W0 ((x.drop 1,y.drop 1),bo++[x.getD 0 (0,0)],V.take k++[((x.getD 0 (0,0)).2,(y.getD 0 (0,0)).2)],k+1):=by
 have e:=A9J h0 h1 g;obtain⟨c,a,b,d,f⟩:=h;simp only at c a b d f;rw[e]at a b;have i:(V.take k++[((x.getD 0 (0,0)).2,(y.getD 0 (0,0)).2)]).length=k+1:=by simp only[F3,R7,OF];omega
 exact⟨by simp only[i];omega,by rw[SC];exact a,by simp only;rw[An O1,SC];exact b,by simp only[F3,R7,dO];omega,by simp only[dO];omega⟩
end
def mgO (h:AG) (p ty:List Int) (ar:List (List (Int×Int))) (W:List (Int×Int)) (hi:Nat):List (Nat×Obj) :=
 [(1,.box 111 true [.p D8 h,.sr 2 T3 0 p.length,.sr 3 T3 0 ty.length,.sr 4 Cl 0 ar.length]),(2,.arr 3 T3 p),(3,.arr 3 T3 ty),(4,.arr 91 Cl ar),(5,.box 108 false [.bp 1 [] 0]),(6,.box 173 false [.sr 7 J6 0 hi]),(7,.arr 172 J6 W)]
theorem A4o (h:AG) (hh:h.1.length<=100000) (H:∀x∈h.1,x.2.1.length<=100000) (p ty:List Int) (ar:List (List (Int×Int))) (W:List (Int×Int)) (hi:Nat) (I:hi<=W.length) (O:hi<=100000000000) {a b:Int} (m:0<=a) (M:a<(p.length:Int)) (o:0<=b) (b1:b<(p.length:Int)) (U:ty.length=p.length) (N:ar.length=p.length)
  (ta:0<=ty.getD a.toNat 0/\ty.getD a.toNat 0<(h.1.length:Int)) (tb:0<=ty.getD b.toNat 0/\ty.getD b.toNat 0<(h.1.length:Int)) (P:(ar.getD a.toNat []).length<=10000000) (Q:(ar.getD b.toNat []).length<=10000000) :
  Bb Tryz.prog 134 [.p T3 a,.p T3 b,.bp 5 [] 0,.bp 6 [] 0] (mgO h p ty ar W hi) [1,5,6]
  (λres A=>((Bu h (ty.getD a.toNat 0) (ty.getD b.toNat 0)).2=false/\res=.p .bool false/\A=mgO h p ty ar W hi) \/
   ((Bu h (ty.getD a.toNat 0) (ty.getD b.toNat 0)).2=true/\res=.p .bool true/\∃n q,q<=n.length/\n.take q=W.take hi++(B8 (ar.getD a.toNat []) (ar.getD b.toNat [])).2 /\
    A=mgO h (p.set b.toNat a) (ty.set a.toNat (Bu h (ty.getD a.toNat 0) (ty.getD b.toNat 0)).1) (ar.set a.toNat (B8 (ar.getD a.toNat []) (ar.getD b.toNat [])).1) n q)):=by
 refine OJ [0,1,2,3,6,7,8,9,10,11,35,71,94,122] [] [] Tryz.func134 Tryz.ntmps134 (AF v9 AH) ?_;intro w0 K O0 ρ0 d R S;have u:a<(ty.length:Int):=by omega
 have C:b<(ty.length:Int):=by omega
 have r:a<(ar.length:Int):=by omega
 have B:b<(ar.length:Int):=by omega
 simp only[mgO,A6];repeat'(first|exact trivial|apply eS rfl|refine rX d ?_ ?_|refine rC ?_ ?_<;>intro c<;>try(cases c;done))
 .refine⟨⟨m,u⟩,⟨o,C⟩,ta,tb,hh,H⟩
 .refine Ev.ent (σ':=⟨[(6,.p .bool false)],mgO h p ty ar W hi⟩) ?_ (AC [(1,.nm 1),(2,.nm 2),(3,.nm 3),(4,.nm 4),(5,.nm 5),(6,.nm 6),(7,.nm 7)] rfl rfl ?_ ?_)
  .exact fM d [.tmp 6] (.p .bool false) eT (.inl ⟨c,rfl,rfl⟩)
  .unfold mgO;exact eN
  exact eN
 .exact⟨o,b1⟩
 .exact⟨m,u⟩
 .exact⟨⟨m,r⟩,o,B⟩
 generalize T:(Bu h (ty.getD a.toNat 0) (ty.getD b.toNat 0)).1=t at *;generalize X:ar.getD a.toNat []=xs at *;generalize Y:ar.getD b.toNat []=ys at *;refine AI (ι:={s:(List (Int×Int)×List (Int×Int))×(List (Int×Int)×List (Int×Int)×Nat)//sS xs ys (W.take hi) s}) (λs=>⟨[(0,.p T3 a),(1,.p T3 b),(2,.bp 5 [] 0),(3,.bp 6 [] 0),(9,.p Cl s.1.1.1),(10,.p Cl s.1.1.2),(11,.sr 11 Av 0 s.1.2.1.length)],[(1,.box 111 true [.p D8 h,.sr 2 T3 0 p.length,.sr 3 T3 0 ty.length,.sr 4 Cl 0 ar.length]),(2,.arr 3 T3 (p.set b.toNat a)),(3,.arr 3 T3 (ty.set a.toNat t)),(4,.arr 91 Cl ar),(5,.box 108 false [.bp 1 [] 0]),(6,.box 173 false [.sr 7 J6 0 s.1.2.2.2]),(7,.arr 172 J6 s.1.2.2.1),(11,.arr 106 Av s.1.2.1)]⟩) (λs=>s.1.1.1.length+s.1.1.2.length) ⟨((xs,ys),([],W,hi)),I,rfl,rfl,by simp,by simp only[OF];omega⟩ (eW [(1,.nm 1),(2,.nm 2),(3,.nm 3),(4,.nm 4),(5,.nm 5),(6,.nm 6),(7,.nm 7),(11,.nil)]) (λs=>?_)
 obtain⟨⟨⟨x,y⟩,bo,V,k⟩,i⟩:=s;have J:=i.len;have L:=i.num;have w:=i.hi;simp only[OF]at J L w ⊢;repeat'(first|exact trivial|apply eS rfl|refine rX d ?_ ?_|refine rC ?_ ?_<;>intro c<;>try(cases c;done))
 .refine⟨λh=>?_,λh=>?_⟩
  .rw[As,NO]at h;exact h.2
  rw[As,SD,ACc]at h;have E:=h.1;have l:y.length≠0:=λe=>E (by rw[e];rfl);exact GO.2 (ACn l)
 .have f:0<x.length:=by
   rcases c with c|c
   .omega
   exact GO.1 c.1
  have F:y.length=0\/(x.getD 0 (0,0)).1<(y.getD 0 (0,0)).1:=by
   rcases c with c|c
   .exact .inl (ADy c)
   exact .inr c.2
  refine Fv drawsAny d 9 [([0,1,2,3,4],5),([],8)] [6,7] (by kernel_rfl) (Vu ?_ ?_)
  .exact⟨GO.2 f,R4.2 f⟩
  refine e9 d [11] ?_ ?_
  .simp only[AN];omega
  refine Vu ?_ ?_
  .exact R4.2 f
  refine e9 d [] ?_ ?_
  .trivial
  refine p6 d ?_ ?_ ?_
  .exact R4.2 f
  .trivial
  repeat'(first|apply eS rfl|apply AB)
  exact⟨⟨((x.drop 1,y),bo++[x.getD 0 (0,0)],V,k),A9K i f F⟩,by simp only[dO];omega,eW [(1,.nm 1),(2,.nm 2),(3,.nm 3),(4,.nm 4),(5,.nm 5),(6,.nm 6),(7,.nm 7),(11,.nm 11)]⟩
 .have l:y.length≠0:=λe=>c.1 (by rw[e];rfl);have D:0<y.length:=ACn l;refine⟨λh=>GO.2 D,λh=>?_⟩
  rw[SD,ACc]at h;have l:x.length≠0:=λe=>h (by rw[e];rfl);exact GO.2 (ACn l)
 .have g:0<y.length:=ACn λe=>(by assumption:¬_/\_).1 (by rw[e];rfl);have j:x.length=0\/(y.getD 0 (0,0)).1<(x.getD 0 (0,0)).1:=by
   rcases c with c|c
   .exact .inl (ADy c)
   exact .inr c
  refine Fv drawsAny d 9 [([0,1,2,3,4],5),([],8)] [6,7] (by kernel_rfl) (Vu ?_ ?_)
  .exact⟨GO.2 g,R4.2 g⟩
  refine e9 d [11] ?_ ?_
  .simp only[AN];omega
  refine Vu ?_ ?_
  .exact R4.2 g
  refine e9 d [] ?_ ?_
  .trivial
  refine p6 d ?_ ?_ ?_
  .exact R4.2 g
  .trivial
  repeat'(first|apply eS rfl|apply AB)
  exact⟨⟨((x,y.drop 1),bo++[y.getD 0 (0,0)],V,k),A9L i g j⟩,by simp only[dO];omega,eW [(1,.nm 1),(2,.nm 2),(3,.nm 3),(4,.nm 4),(5,.nm 5),(6,.nm 6),(7,.nm 7),(11,.nm 11)]⟩
 .rename_i j;have f:0<x.length:=ACn λe=>c.1 (by rw[e];rfl);have g:0<y.length:=ACn λe=>j.1 (by rw[e];rfl);refine⟨GO.2 f,GO.2 g,?_⟩;simp only[AN];omega
 .rename_i j;have f:0<x.length:=ACn λe=>c.1 (by rw[e];rfl);have g:0<y.length:=ACn λe=>j.1 (by rw[e];rfl);have G:(x.getD 0 (0,0)).1=(y.getD 0 (0,0)).1:=Int.le_antisymm c.2 (j.2 (GO.2 f));refine Fv drawsAny d 12 [([0,1,2,3,4],5),([],10),([6,7],11)] [8,9] (by kernel_rfl) (Vu ?_ ?_)
  .exact⟨GO.2 f,R4.2 f,R4.2 g⟩
  refine e9 d [11] ?_ ?_
  .simp only[AN];omega
  refine Vu ?_ ?_
  .exact⟨R4.2 f,R4.2 g⟩
  refine e9 d [] ?_ ?_
  .trivial
  refine Vu ?_ ?_
  .exact⟨R4.2 f,R4.2 g⟩
  refine e9 d [] ?_ ?_
  .trivial
  refine p6 d ?_ ?_ ?_
  .exact R4.2 g
  .trivial
  repeat'(first|apply eS rfl|apply AB)
  exact⟨⟨((x.drop 1,y.drop 1),bo++[x.getD 0 (0,0)],V.take k++[((x.getD 0 (0,0)).2,(y.getD 0 (0,0)).2)],k+1),A7g i f g G⟩,by simp only[dO];omega,eW [(1,.nm 1),(2,.nm 2),(3,.nm 3),(4,.nm 4),(5,.nm 5),(6,.nm 6),(7,.nm 7),(11,.nm 11)]⟩
 .exact⟨m,r⟩
 have f:x=[]:=SG O1;have g:y=[]:=SG O1;subst f g;have v:=i.both;have z:=i.wait;simp only[B8,SJ]at v z;refine Ev.ent (σ':=⟨[(6,.p .bool true)],mgO h (p.set b.toNat a) (ty.set a.toNat t) (ar.set a.toNat bo) V k⟩) ?_ (AC [(1,.nm 1),(2,.nm 2),(3,.nm 3),(4,.nm 4),(5,.nm 5),(6,.nm 6),(7,.nm 7)] rfl rfl ?_ ?_)
 .exact fM d [.tmp 6] (.p .bool true) eT (.inr ⟨by assumption,rfl,V,k,w,z,by rw[v];rfl⟩)
 .unfold mgO;simp only[Tq];exact eN
 exact eN
end
theorem I0 {h:AG} (hk:Ew h) {a b c:Int} (d:0<=a) (e:a<(h.1.length:Int)) (f:0<=b) (b1:b<(h.1.length:Int)) (c0:0<=c) (c1:c<(h.1.length:Int)) (h1:Aj h a b=true) (g:Aj h b c=true):Aj h a c=true :=
 (BV hk d e c0 c1).2 λi hi=>(BV hk d e f b1).1 h1 i ((BV hk f b1 c0 c1).1 g i hi)
theorem Rd:∀ {x y:List (Int×Int)} {a:Int×Int},a∈x->a∈(B8 x y).1
 | [],_,_,h=>by cases h
 | b :: x,[],a,h=>by simpa[B8] using h
 | b :: x,c :: y,a,h=>by
  rw[B8];split
  .rcases Do.1 h with rfl|h
   .simp
   exact IN _ (Rd h)
  split
  .exact IN _ (Rd h)
  rcases Do.1 h with rfl|h
  .simp
  exact IN _ (Rd h)
termination_by x y=>x.length+y.length
theorem OY:∀ {x y:List (Int×Int)} {a:Int×Int},a∈y->a∈(B8 x y).1\/∃t,(a.1,t)∈(B8 x y).1/\(t,a.2)∈(B8 x y).2
 | [],y,a,h=>by
  left;simpa[B8] using h
 | b :: x,[],a,h=>by cases h
 | b :: x,c :: y,a,h=>by
  rw[B8];split
  .rcases OY (x:=x) h with g|⟨t,d,e⟩
   .exact .inl (IN _ g)
   exact .inr ⟨t,IN _ d,e⟩
  split
  .rcases Do.1 h with rfl|h
   .left;simp
   rcases OY (x:=b :: x) h with g|⟨t,d,e⟩
   .exact .inl (IN _ g)
   exact .inr ⟨t,IN _ d,e⟩
  rcases Do.1 h with rfl|h
  .right;exact⟨b.2,by rw[show a.1=b.1 by omega];simp,by simp⟩
  rcases OY (x:=x) h with g|⟨t,d,e⟩
  .exact .inl (IN _ g)
  exact .inr ⟨t,IN _ d,IN _ e⟩
termination_by x y=>x.length+y.length
theorem Jk:∀ {x y:List (Int×Int)} {a:Int×Int},a∈(B8 x y).1->a∈x\/a∈y
 | [],y,a,h=>by
  right;simpa[B8] using h
 | b :: x,[],a,h=>by
  left;simpa[B8] using h
 | b :: x,c :: y,a,h=>by
  rw[B8]at h;split at h
  .rcases Do.1 h with rfl|h
   .left;simp
   rcases Jk h with g|g
   .exact .inl (IN _ g)
   exact .inr g
  split at h
  .rcases Do.1 h with rfl|h
   .right;simp
   rcases Jk h with g|g
   .exact .inl g
   exact .inr (IN _ g)
  rcases Do.1 h with rfl|h
  .left;simp
  rcases Jk h with g|g
  .exact .inl (IN _ g)
  exact .inr (IN _ g)
termination_by x y=>x.length+y.length
theorem Re:∀ {x y:List (Int×Int)} {q:Int×Int},q∈(B8 x y).2->∃e,(e,q.1)∈x/\(e,q.2)∈y
 | [],y,q,h=>by simp[B8]at h
 | b :: x,[],q,h=>by simp[B8]at h
 | b :: x,c :: y,q,h=>by
  rw[B8]at h;split at h
  .obtain⟨e,h1,a⟩:=Re h;exact⟨e,IN _ h1,a⟩
  split at h
  .obtain⟨e,h1,a⟩:=Re h;exact⟨e,h1,IN _ a⟩
  rcases Do.1 h with rfl|h
  .exact⟨b.1,by simp,by rw[show b.1=c.1 by omega];simp⟩
  obtain⟨e,h1,a⟩:=Re h;exact⟨e,IN _ h1,IN _ a⟩
termination_by x y=>x.length+y.length
theorem Rf:∀ {x y:List (Int×Int)},(B8 x y).2.length<=x.length
 | [],y=>by simp[B8]
 | b :: x,[]=>by simp[B8]
 | b :: x,c :: y=>by
  rw[B8];split
  .have:=Rf (x:=x) (y:=c :: y);simp only[Is];omega
  split
  .exact Rf (x:=b :: x) (y:=y)
  have:=Rf (x:=x) (y:=y);simp only[Is];omega
termination_by x y=>x.length+y.length
abbrev MS (l:List (Int×Int)):Prop:=l.Pairwise (λa b=>a.1<b.1)
theorem WI:∀ {x y:List (Int×Int)},MS x->MS y->MS (B8 x y).1
 | [],y,_,h=>by simpa[B8] using h
 | b :: x,[],h,_=>by simpa[B8] using h
 | b :: x,c :: y,i,j=>by
  have d:=aS.1 i;have e:=aS.1 j;rw[B8];split
  .rename_i f;refine aS.2 ⟨λa ha=>?_,WI d.2 j⟩;rcases Jk ha with g|g
   .exact d.1 a g
   rcases Do.1 g with rfl|g
   .exact f
   have:=e.1 a g;omega
  split
  .rename_i f;refine aS.2 ⟨λa ha=>?_,WI i e.2⟩;rcases Jk ha with g|g
   .rcases Do.1 g with rfl|g
    .exact f
    have:=d.1 a g;omega
   exact e.1 a g
  refine aS.2 ⟨λa ha=>?_,WI d.2 e.2⟩;rcases Jk ha with g|g
  .exact d.1 a g
  have:=e.1 a g;omega
termination_by x y=>x.length+y.length
theorem A7h {p:List Int} {q:Int->Nat} (m:Fo p q) {a b:Int} (j:0<=a) (c:0<=b) (b1:b<(p.length:Int)) (ha:Dq p a=a) (k:Dq p b=b) (f:a≠b) {x r:Int} (d:0<=x) (s:x<(p.length:Int)) (h:Rt p x r):Rt (p.set b.toNat a) x (if r=b then a else r):=by
 have l:Rt (p.set b.toNat a) a a:=.base (by rw[DI c b1 a j,At f];exact ha);induction h with
 | @base n hn =>
  split
  .rename_i e;rw[e];exact .step (by rw[DI c b1 b c,BY rfl];exact f) (by rw[DI c b1 b c,BY rfl];exact l)
  rename_i e;exact .base (by rw[DI c b1 n d,At e];exact hn)
 | @step n r hn _ o =>
  have g:n≠b:=λe=>hn (e▸k);have i:=m.rng n d s;exact .step (by rw[DI c b1 n d,At g];exact hn) (by rw[DI c b1 n d,At g];exact o i.1 i.2)
theorem A7i {p:List Int} {c:Int->Nat} (h:Fo p c) {a b:Int} (i:0<=a) (j:a<(p.length:Int)) (d:0<=b) (b1:b<(p.length:Int)) (ha:Dq p a=a) (m:Dq p b=b) (l:a≠b):∃q,Fo (p.set b.toNat a) q:=by
 classical
 refine⟨λx=>if Rt p x b then c x+c a+1 else c x,λn n0 n1=>?_,λn n0 n1 hn=>?_⟩
 .rw[Tq]at n1 ⊢;rw[DI d b1 n n0];split
  .exact⟨i,j⟩
  exact h.rng n n0 n1
 rw[Tq]at n1;rw[DI d b1 n n0]at hn ⊢;by_cases e:n=b
 .subst e;rw[BY rfl];have h1:¬Rt p a n:=λg=>l (g.det (.base ha)).symm;rw[At h1,BY (.base m)];omega
 rw[At e]at hn ⊢;have o:=h.dec n n0 n1 hn;have f:Rt p n b↔Rt p (Dq p n) b:=by
  constructor
  .intro g;cases g with
   | base g=>exact absurd g hn
   | step _ g=>exact g
  exact λg=>.step hn g
 by_cases g:Rt p n b
 .rw[BY g,BY (f.1 g)];omega
 rw[At g,At (λk=>g (f.2 k))];exact o
inductive EG (n:Nat) (p:List Int) (W:List (Int×Int)):Int->Int->Prop
 | cls {x y r:Int} (x0:0<=x) (x1:x<(n:Int)) (y0:0<=y) (y1:y<(n:Int)) (h:Rt p x r) (g:Rt p y r):EG n p W x y
 | wt {x y:Int} (h:(x,y)∈W):EG n p W x y
 | symm {x y:Int} (h:EG n p W x y):EG n p W y x
 | trans {x y z:Int} (h:EG n p W x y) (g:EG n p W y z):EG n p W x z
theorem EG.mono {n:Nat} {p q:List Int} {W V:List (Int×Int)} (h1:∀x y r,0<=x->x<(n:Int)->0<=y->y<(n:Int)->Rt p x r->Rt p y r->EG n q V x y) (a:∀x y,(x,y)∈W->EG n q V x y) {x y:Int} (h:EG n p W x y):EG n q V x y:=by
 induction h with
 | cls e f i j h g=>exact h1 _ _ _ e f i j h g
 | wt h=>exact a _ _ h
 | symm _ b=>exact .symm b
 | trans _ _ c d=>exact .trans c d
structure Uz (h:AG) (N:List AE) (P:List (Int×Int)) (X:List AE) (v:Int->Int):Prop where
 rng:∀x,0<=x->x<(N.length:Int)->0<=v x/\v x<(X.length:Int)
 ty:∀x,0<=x->x<(N.length:Int)->Aj h (N.getD x.toNat (0,[])).1 (X.getD (v x).toNat (0,[])).1=true
 arc:∀x,0<=x->x<(N.length:Int)->∀a∈AP N x,CR (AP X (v x)) a.1=v a.2
 eq:∀q∈P,v q.1=v q.2
structure JX (h:AG) (X:List AE) (v:Int->Int) (n:Nat) (p ty:List Int) (ar:List (List (Int×Int))) (W:List (Int×Int)):Prop where
 cls:∀x r,0<=x->x<(n:Int)->Rt p x r->v x=v r
 wt:∀w∈W,v w.1=v w.2
 ty:∀r,0<=r->r<(n:Int)->Dq p r=r->Aj h (ty.getD r.toNat 0) (X.getD (v r).toNat (0,[])).1=true
 arc:∀r,0<=r->r<(n:Int)->Dq p r=r->∀a∈ar.getD r.toNat [],CR (AP X (v r)) a.1=v a.2
def Cr (N:List AE):List Int:=N.flatMap λx=>x.2.map (·.1)
structure JI (h:AG) (N:List AE) (P:List (Int×Int)) (p ty:List Int) (ar:List (List (Int×Int))) (W:List (Int×Int)):Prop where
 nty:Cq h N
 fo:∃rk,Fo p rk
 lp:p.length=N.length
 lt:ty.length=N.length
 la:ar.length=N.length
 wr:∀w∈W,(0<=w.1/\w.1<(N.length:Int))/\(0<=w.2/\w.2<(N.length:Int))
 tyr:∀x,0<=x->x<(N.length:Int)->0<=ty.getD x.toNat 0/\ty.getD x.toNat 0<(h.1.length:Int)
 arr:∀k,∀a∈ar.getD k [],(0<=a.2/\a.2<(N.length:Int))/\a.1∈Cr N
 srt:∀k,MS (ar.getD k [])
 sp:∀q∈P,EG N.length p W q.1 q.2
 st:∀x r,0<=x->x<(N.length:Int)->Rt p x r->Aj h (N.getD x.toNat (0,[])).1 (ty.getD r.toNat 0)=true
 sa:∀x r,0<=x->x<(N.length:Int)->Rt p x r->∀a∈AP N x,∃t,(a.1,t)∈ar.getD r.toNat []/\EG N.length p W a.2 t
 co:∀X v,Cq h X->Uz h N P X v->JX h X v N.length p ty ar W
theorem Gk {p:List Int} {b:Int->Nat} (a:Fo p b) {x r:Int} (d:0<=x) (e:x<(p.length:Int)) (h:Rt p x r):0<=r/\r<(p.length:Int):=by
 obtain⟨s,hs,c,s1⟩:=a.root d e;rw[h.det hs];exact⟨c,s1⟩
theorem TH {p q:List Int} (h:FB p q) {r:Int} (a:0<=r) (b:r<(p.length:Int)):Dq p r=r↔Dq q r=r :=
 ⟨λe=>((h.2 r r a b).1 (.base e)).root,λe=>((h.2 r r a b).2 (.base e)).root⟩
theorem A7j {h:AG} {N:List AE} {P:List (Int×Int)} {p q ty:List Int} {ar:List (List (Int×Int))} {W:List (Int×Int)} (hs:FB p q) (j:∃z,Fo q z) (u:JI h N P p ty ar W):JI h N P q ty ar W:=by
 obtain⟨nty,fo,lp,lt,la,wr,tyr,arr,srt,sp,st,sa,co⟩:=u;have i:∀x r,0<=x->x<(N.length:Int)->(Rt p x r↔Rt q x r):=λx r b c=>hs.2 x r b (by rw[lp];exact c);have s:∀ {x y},EG N.length p W x y->EG N.length q W x y:=λ{x y} g=>g.mono (λx y r b c k l h1 o=>.cls b c k l ((i x r b c).1 h1) ((i y r k l).1 o)) (λ_ _ h=>.wt h);refine⟨nty,j,by rw[<-hs.1];exact lp,lt,la,wr,tyr,arr,srt,λq j=>s (sp q j),λx r b c d=>st x r b c ((i x r b c).2 d),λx r b c d a ha=>?_,λX v t w=>?_⟩
 .grind
 obtain⟨c1,c2,m,n⟩:=co X v t w;exact⟨λx r b c d=>c1 x r b c ((i x r b c).2 d),c2,λr e f d=>m r e f ((TH hs e (by rw[lp];exact f)).2 d),λr e f d=>n r e f ((TH hs e (by rw[lp];exact f)).2 d)⟩
section
variable {h:AG} {N:List AE} {P:List (Int×Int)} {p ty:List Int} {ar:List (List (Int×Int))} {W:List (Int×Int)} {s t a b:Int}
theorem gR (n:JI h N P p ty ar (W++[(s,t)])) (hs:Rt p s a) (u:Rt p t a):JI h N P p ty ar W:=by
 obtain⟨nty,fo,lp,lt,la,wr,tyr,arr,srt,sp,st,sa,co⟩:=n;have b:=wr (s,t) sc;have l:∀ {x y},EG N.length p (W++[(s,t)]) x y->EG N.length p W x y:=λ{x y} g=>g.mono (λx y r d f A B h1 k=>.cls d f A B h1 k) (λx y c=>by
  rcases ON.1 c with c|c
  .exact .wt c
  have e:(x,y)=(s,t):=by simpa using c
  cases e;exact .cls b.1.1 b.1.2 b.2.1 b.2.2 hs u)
 refine⟨nty,fo,lp,lt,la,λw b=>wr w (SP _ b),tyr,arr,srt,λq o=>l (sp q o),st,λx r d f C a ha=>?_,λX v m z=>?_⟩
 .grind
 obtain⟨c1,c2,i,j⟩:=co X v m z;exact⟨c1,λw b=>c2 w (SP _ b),i,j⟩
theorem WJ (hk:Ew h) (c:JI h N P p ty ar (W++[(s,t)])) (hs:Rt p s a) (g:Rt p t b) {X:List AE} {v:Int->Int} (o:Cq h X) (q:Uz h N P X v) :
  v a=v b/\(Bu h (ty.getD a.toNat 0) (ty.getD b.toNat 0)).2=true/\Aj h (Bu h (ty.getD a.toNat 0) (ty.getD b.toNat 0)).1 (X.getD (v a).toNat (0,[])).1=true:=by
 obtain⟨D,fo⟩:=c.fo;obtain⟨⟨i,s1⟩,j,l⟩:=c.wr (s,t) sc;simp only at i s1 j l;have d:=Gk fo i (by rw[c.lp];exact s1) hs;have f:=Gk fo j (by rw[c.lp];exact l) g;rw[c.lp]at d f;obtain⟨c1,c2,m,B⟩:=c.co X v o q;have u:=c1 s a i s1 hs;have w:=c1 t b j l g;have x:v s=v t:=c2 (s,t) sc;have e:v a=v b:=by rw[<-u,<-w,x]
 have y:=m a d.1 d.2 hs.root;have n:=m b f.1 f.2 g.root;rw[<-e]at n;have C:=q.rng a d.1 d.2;have r:=o _ (AD X (0,[]) (k:=(v a).toNat) O1);have ta:=c.tyr a d.1 d.2;have tb:=c.tyr b f.1 f.2;obtain⟨z,A⟩:=(NK hk ta.1 ta.2 tb.1 tb.2).2 _ r.1 r.2 y n;exact⟨e,z,A⟩
theorem cB {α:Type} {l:List α} {d v:α} {a r:Int} (b:0<=a) (c:a<(l.length:Int)) (e:0<=r):(l.set a.toNat v).getD r.toNat d=if r=a then v else l.getD r.toNat d:=by grind
theorem YV (hk:Ew h) (ae:JI h N P p ty ar (W++[(s,t)])) (hs:Rt p s a) (L:Rt p t b) (Y:a≠b) (al:(Bu h (ty.getD a.toNat 0) (ty.getD b.toNat 0)).2=true) :
  JI h N P (p.set b.toNat a) (ty.set a.toNat (Bu h (ty.getD a.toNat 0) (ty.getD b.toNat 0)).1) (ar.set a.toNat (B8 (ar.getD a.toNat []) (ar.getD b.toNat [])).1) (W++(B8 (ar.getD a.toNat []) (ar.getD b.toNat [])).2):=by
 have am:=λX v J M=>WJ (X:=X) (v:=v) hk ae hs L J M;obtain⟨nty,⟨bb,fo⟩,lp,lt,la,wr,tyr,arr,srt,sp,st,sa,co⟩:=ae;obtain⟨⟨Q,s1⟩,R,S⟩:=wr (s,t) sc;simp only at Q s1 R S;have n:=Gk fo Q (by rw[lp];exact s1) hs;have A:=Gk fo R (by rw[lp];exact S) L;have ha:=hs.root;have Z:=L.root;have F:=λ{x r:Int} (c:0<=x) (i:x<(N.length:Int)) (O:Rt p x r)=>A7h fo n.1 A.1 A.2 ha Z Y c (by rw[lp];exact i) O;have aa:∀ {x r:Int},0<=x->x<(N.length:Int)->Rt (p.set b.toNat a) x r->∃j,Rt p x j/\r=if j=b then a else j:=λ{x r} c i O=>by
  obtain⟨j,h1,-,-⟩:=fo.root c (by rw[lp];exact i);exact⟨j,h1,O.det (F c i h1)⟩
 have ta:=tyr a n.1 (by rw[<-lp];exact n.2);have tb:=tyr b A.1 (by rw[<-lp];exact A.2);obtain⟨ax,ay,az,ba⟩:=(NK hk ta.1 ta.2 tb.1 tb.2).1 al;generalize aq:(Bu h (ty.getD a.toNat 0) (ty.getD b.toNat 0)).1=m at *;generalize ag:ar.getD a.toNat []=xs at *;generalize ah:ar.getD b.toNat []=ys at *;have ao:EG N.length (p.set b.toNat a) (W++(B8 xs ys).2) s t:=by
  have h1:=F Q s1 hs;have I:=F R S L;rw[At Y]at h1;rw[BY rfl]at I;exact .cls Q s1 R S h1 I
 have E:∀ {x y},EG N.length p (W++[(s,t)]) x y->EG N.length (p.set b.toNat a) (W++(B8 xs ys).2) x y:=λ{x y} g=>g.mono (λx y r c i aj ak h1 I=>.cls c i aj ak (F c i h1) (F aj ak I)) (λx y G=>by
  rcases ON.1 G with G|G
  .exact .wt (SP _ G)
  have e:(x,y)=(s,t):=by simpa using G
  cases e;exact ao)
 have av:=λ{r:Int} (D:0<=r)=>cB (l:=ty) (d:=0) (v:=m) n.1 (by rw[lt,<-lp];exact n.2) D;have K:=λ{r:Int} (D:0<=r)=>cB (l:=ar) (d:=[]) (v:=(B8 xs ys).1) n.1 (by rw[la,<-lp];exact n.2) D;refine⟨nty,A7i fo n.1 n.2 A.1 A.2 ha Z Y,by rw[Tq];exact lp,by rw[Tq];exact lt,by rw[Tq];exact la,λw o=>?_,λx c i=>?_,λk y C=>?_,λk=>?_,λq an=>E (sp q an),λx r c i z=>?_,λx r c i z y C=>?_,λX v J M=>?_⟩
 .rcases ON.1 o with o|o
  .exact wr w (SP _ o)
  grind [Re]
 .grind
 .have h1:=K (r:=(k:Int)) O1;rw[R3]at h1;rw[h1]at C;split at C
  .grind [Jk]
  exact arr _ _ C
 .have h1:=K (r:=(k:Int)) O1;rw[R3]at h1;rw[h1];split
  .grind [WI]
  exact srt k
 .obtain⟨j,h1,rfl⟩:=aa c i z;have O:=nty _ (AD N (0,[]) (k:=x.toNat) O1);have af:=Gk fo c (by rw[lp];exact i) h1;by_cases e:j=b
  .grind [I0]
  grind [I0]
 .obtain⟨j,h1,rfl⟩:=aa c i z;have af:=Gk fo c (by rw[lp];exact i) h1;obtain⟨u,H,T⟩:=sa x j c i h1 y C;by_cases e:j=b
  .rw[BY e,K n.1,BY rfl];rw[e,ah]at H;rcases OY (x:=xs) H with g|⟨w,U,V⟩
   .exact⟨u,g,E T⟩
   exact⟨w,U,.trans (E T) (.symm (.wt (AAx _ V)))⟩
  rw[At e,K af.1];split
  .rename_i B;rw[B,ag]at H;exact⟨u,Rd H,E T⟩
  exact⟨u,H,E T⟩
 obtain⟨c1,c2,ap,ab⟩:=co X v J M;obtain⟨e,-,aw⟩:=am X v J M;have au:∀r,0<=r->r<(N.length:Int)->Dq (p.set b.toNat a) r=r->r≠b/\Dq p r=r:=λr D ai z=>by grind [DI]
 refine⟨λx r c i z=>?_,λw o=>?_,λr D ai z=>?_,λr D ai z y C=>?_⟩
 .obtain⟨j,h1,rfl⟩:=aa c i z;have:=c1 x j c i h1;split
  .rename_i B;rw[this,B,e]
  exact this
 .rcases ON.1 o with o|o
  .exact c2 w (SP _ o)
  obtain⟨f,ad,B⟩:=Re o;rw[<-ag]at ad;rw[<-ah]at B;have U:=ab a n.1 (by rw[<-lp];exact n.2) ha _ ad;have V:=ab b A.1 (by rw[<-lp];exact A.2) Z _ B;rw[<-U,<-V,e]
 .grind
 grind [Jk]
end
theorem mW {l:List Nat} {f g:Nat->Bool} {b:Nat} (hn:l.Nodup) (c:b∈l) (h1:f b=true) (d:g b=false) (h:∀x∈l,x≠b->g x=f x):(l.filter g).length+1=(l.filter f).length:=by
 induction l with
 | nil=>cases c
 | cons x l m =>
  obtain⟨k,j⟩:=gO.1 hn;by_cases e:x=b
  .subst e;have:l.filter g=l.filter f:=List.filter_congr λy a=>h y (by simp[a]) (λe=>k (e▸a));rw[Tu,Tu,At (by rw[d];simp),BY h1,this];rfl
  have i:b∈l:=by
   rcases Do.1 c with g|g
   .exact absurd g.symm e
   exact g
  have n:=m j i (λy a=>h y (by simp[a]));rw[Tu,Tu,h x sc e];split
  .simp only[Is];omega
  exact n
def nR (p:List Int):Nat:=((List.range p.length).filter λk=>p.getD k 0==(k:Int)).length
theorem ABw (p:List Int):nR p<=p.length:=by
 have:=bY (λk=>p.getD k 0==(k:Int)) (List.range p.length);rw[ACF]at this;exact this
theorem wR {p q:List Int} (h:FB p q):nR q=nR p:=by
 unfold nR;rw[<-h.1];refine ACb List.length (List.filter_congr λk hk=>?_);have a:=SH.1 hk;have:=TH h (r:=(k:Int)) O1 O1;unfold Dq at this;rw[R3]at this;rw[ACB,Tx,Tx];exact this.symm
theorem wS {p:List Int} {a b:Int} (d:0<=b) (b1:b<(p.length:Int)) (c:Dq p b=b) (e:a≠b):nR (p.set b.toNat a)+1=nR p:=by
 unfold nR;rw[Tq];refine mW (b:=b.toNat) List.nodup_range (SH.2 O1) ?_ ?_ λx _ f=>?_
 .rw[Tx];unfold Dq at c;omega
 .rw[Zk _ _ _ O1,ACc];omega
 rw[getD_set_ne _ _ _ O1]
theorem TJ {α:Type} [DecidableEq α]:∀ {l l':List α},l.Nodup->(∀x∈l,x∈l')->l.length<=l'.length
 | [],_,_,_=>by simp
 | x :: l,l',hn,h=>by
  obtain⟨d,c⟩:=gO.1 hn;have a:=h x sc;have:=TJ (l:=l) (l':=l'.erase x) c (λy b=>(ADv (λe:y=x=>d (by rw[<-e];exact b))).2 (h y (by simp[b])));rw[List.length_erase_of_mem a]at this;have:=ADm a;simp only[Is];omega
theorem gS {l:List (Int×Int)} (h:MS l) {S:List Int} (hs:∀a∈l,a.1∈S):l.length<=S.length:=by
 have hn:(l.map (·.1)).Nodup:=by
  unfold List.Nodup;rw[oN];exact h.imp λg=>by omega
 have:=TJ hn (l':=S) (λx b=>by
  obtain⟨a,ha,rfl⟩:=DO.1 b;exact hs a ha)
 rwa [Of]at this
theorem YW {h:AG} {N:List AE} {P:List (Int×Int)} {p ty:List Int} {ar:List (List (Int×Int))} (t:JI h N P p ty ar []) {a b:Int} (ha:0<=a/\a<(N.length:Int)) (s:0<=b/\b<(N.length:Int)):JI h N (P++[(a,b)]) p ty ar [(a,b)]:=by
 obtain⟨nty,fo,lp,lt,la,wr,tyr,arr,srt,sp,st,sa,co⟩:=t;have l:∀ {x y},EG N.length p [] x y->EG N.length p [(a,b)] x y:=λ{x y} g=>g.mono (λx y r j k C D h1 f=>.cls j k C D h1 f) (λx y A=>by cases A);refine⟨nty,fo,lp,lt,la,λw i=>?_,tyr,arr,srt,λq c=>?_,st,λx r j k z y B=>?_,λX v o d=>?_⟩
 .have e:w=(a,b):=by simpa using i
  subst e;exact⟨ha,s⟩
 .rcases ON.1 c with c|c
  .exact l (sp q c)
  have e:q=(a,b):=by simpa using c
  subst e;exact .wt sc
 .obtain⟨u,h1,f⟩:=sa x r j k z y B;exact⟨u,h1,l f⟩
 obtain⟨c1,c2,m,n⟩:=co X v o ⟨d.rng,d.ty,d.arc,λq c=>d.eq q (SP _ c)⟩;refine⟨c1,λw i=>?_,m,n⟩;have e:w=(a,b):=by simpa using i
 subst e;exact d.eq _ sc
def wT (h:AG) (p ty:List Int) (ar:List (List (Int×Int))):List (Nat×Obj):=[(101,.box 111 true [.p D8 h,.sr 102 T3 0 p.length,.sr 103 T3 0 ty.length,.sr 104 Cl 0 ar.length]),(102,.arr 3 T3 p),(103,.arr 3 T3 ty),(104,.arr 91 Cl ar)]
theorem A7k (h:AG) (hk:Ew h) {N:List AE} {P:List (Int×Int)} {p ty:List Int} {ar:List (List (Int×Int))} (Y:JI h N P p ty ar []) {a b:Int} (ha:0<=a/\a<(N.length:Int)) (ah:0<=b/\b<(N.length:Int)) (af:N.length<=10000) (hF:(Cr N).length<=1000000) :
  Bb Tryz.prog 86 [.bp 101 [] 0,.p T3 a,.p T3 b] (wT h p ty ar) [101]
  (λres M=>(res=.p .bool true/\∃B H u,M=wT h B H u/\JI h N (P++[(a,b)]) B H u [])\/(res=.p .bool false/\(∃B H u,M=wT h B H u)/\∀X v,Cq h X->¬Uz h N (P++[(a,b)]) X v)):=by
 refine OJ [0,1,2,3,6,7,8,9,10,11,19,48] [] [] Tryz.func86 Tryz.ntmps86 AH ?_;intro w0 K O0 ρ0 f ba bb;have hh:h.1.length<=100000:=R5 hk.2 O1;have ai:∀x∈h.1,x.2.1.length<=100000:=λx av=>R5 (hk.1.wid x.2.1 (DO.2 ⟨x,av,rfl⟩)) O1;have aj:=YW Y ha ah;generalize az:P++[(a,b)]=Q at *;have ay:N.length*((Cr N).length+1)<=10000*1000001:=Nat.mul_le_mul af O1;simp only[wT,A6];repeat'(first|exact trivial|apply eS rfl|refine rX f ?_ ?_)
 refine AI (ι:={s:(List Int×List Int×List (List (Int×Int)))×(List (Int×Int)×Nat)//JI h N Q s.1.1 s.1.2.1 s.1.2.2 (s.2.1.take s.2.2)/\s.2.2<=s.2.1.length/\nR s.1.1*((Cr N).length+1)+s.2.2<=N.length*((Cr N).length+1)+1}) (λs=>⟨[(3,.bp 3 [] 0),(7,.bp 7 [] 0),(8,.clo 134 [3,7])],[(101,.box 111 true [.p D8 h,.sr 102 T3 0 s.1.1.1.length,.sr 103 T3 0 s.1.1.2.1.length,.sr 104 Cl 0 s.1.1.2.2.length]),(102,.arr 3 T3 s.1.1.1),(103,.arr 3 T3 s.1.1.2.1),(104,.arr 91 Cl s.1.1.2.2),(3,.box 108 false [.bp 101 [] 0]),(7,.box 173 false [.sr 15 J6 0 s.1.2.2]),(15,.arr 172 J6 s.1.2.1)]⟩) (λs=>nR s.1.1.1*((Cr N).length+1)+s.1.2.2) ⟨((p,ty,ar),([(a,b)],1)),aj,by simp,by have:=SM ((Cr N).length+1) (ABw p);rw[Y.lp]at this;simp only;omega⟩ (eW [(101,.nm 101),(102,.nm 102),(103,.nm 103),(104,.nm 104),(3,.nm 3),(7,.nm 7),(15,.nm 15)]) (λs=>?_)
 obtain⟨⟨⟨q,d,aq⟩,V,k⟩,l,ak,ae⟩:=s;simp only at l ak ae ⊢;repeat'(first|exact trivial|apply eS rfl|refine rX f ?_ ?_|refine rC ?_ ?_<;>intro j<;>try(cases j;done))
 .exact eV
 .exact eV
 .have Z:0<k:=GO.1 j;have al:((k:Int)-1).toNat=k-1:=by omega
  have U:=AY V (0,0) (k:=k-1) O1;rw[show k-1+1=k by omega]at U;rw[al];generalize bd:V.getD (k-1) (0,0)=st at *;obtain⟨s,t⟩:=st;rw[U]at l;obtain⟨⟨D,s1⟩,F,G⟩:=l.wr (s,t) sc;simp only at D s1 F G;obtain⟨O,fo⟩:=l.fo;have C:=l.lp;refine Fv drawsAny f 8 [([0,1,2],3),([4,5,6],7)] [] (by kernel_rfl) (Vu ?_ ?_)
  .trivial
  refine mxC f (gQ h d aq O fo D (by rw[C];exact s1)) [(1,.nm 101),(2,.nm 102),(3,.nm 103),(4,.nm 104)] [102,103,104] ?_ ?_ ?_
  .exact eN
  .simp only[cA];exact eN
  rintro _ _ ⟨ab,c,rfl,rfl,ad,E,aw⟩;refine⟨[(101,.nm 1),(102,.nm 2),(103,.nm 3),(104,.nm 4)],.p T3 c,[(101,.box 111 true [.p D8 h,.sr 102 T3 0 ab.length,.sr 103 T3 0 d.length,.sr 104 Cl 0 aq.length]),(102,.arr 3 T3 ab),(103,.arr 3 T3 d),(104,.arr 91 Cl aq)],rfl,rfl,?_,?_,rfl,rfl,rfl,?_⟩
  .simp only[cA];exact eN
  .exact eN
  refine Vu ?_ ?_
  .trivial
  refine mxC f (gQ h d aq O ad F (by rw[<-E.1,C];exact G)) [(1,.nm 101),(2,.nm 102),(3,.nm 103),(4,.nm 104)] [102,103,104] ?_ ?_ ?_
  .exact eN
  .simp only[cA];exact eN
  rintro _ _ ⟨g,e,rfl,rfl,J,S,ax⟩;refine⟨[(101,.nm 1),(102,.nm 2),(103,.nm 3),(104,.nm 4)],.p T3 e,[(101,.box 111 true [.p D8 h,.sr 102 T3 0 g.length,.sr 103 T3 0 d.length,.sr 104 Cl 0 aq.length]),(102,.arr 3 T3 g),(103,.arr 3 T3 d),(104,.arr 91 Cl aq)],rfl,rfl,?_,?_,rfl,rfl,rfl,?_⟩
  .simp only[cA];exact eN
  .exact eN
  refine p6 f ?_ ?_ ?_
  .trivial
  .trivial
  repeat' apply eS rfl
  have i:=A7j (E.trans S) ⟨O,J⟩ l;have R:=E.trans S;have A:=(R.2 s c D (by rw[C];exact s1)).1 aw;have o:=(S.2 t e F (by rw[<-E.1,C];exact G)).1 ax;have n:=i.lp;have w:=Gk J D (by rw[n];exact s1) A;have m:=Gk J F (by rw[n];exact G) o;refine evP f 4 ?_ ?_
  .trivial
  by_cases z:c=e
  .subst z;rw[show (c != c)=false from bne_self_eq_false c];refine rL f ?_ ?_
   .trivial
   repeat'(first|apply eS rfl|apply AB|refine rC ?_ ?_<;>intro j<;>try(cases j;done))
   have y:=gR i A o;have hn:=wR R;exact⟨⟨((g,d,aq),V,k-1),y,by simp only;omega,by simp only;rw[hn];omega⟩,by simp only;rw[hn];omega,eW [(101,.nm 101),(102,.nm 102),(103,.nm 103),(104,.nm 104),(3,.nm 3),(7,.nm 7),(15,.nm 15)]⟩
  rw[show (c != e)=true by simpa using z];refine rN 3 f ?_ ?_
  .trivial
  have L:=λr:Int=>gS (i.srt r.toNat) (λa ha=>(i.arr r.toNat a ha).2);refine clG f (A4o h hh ai g d aq V (k-1) O1 O1 w.1 w.2 m.1 m.2 (by rw[i.lt,n]) (by rw[i.la,n]) (i.tyr c w.1 (by rw[<-n];exact w.2)) (i.tyr e m.1 (by rw[<-n];exact m.2)) (R5 (L c) O1) (R5 (L e) O1)) [(1,.nm 101),(2,.nm 102),(3,.nm 103),(4,.nm 104),(5,.nm 3),(6,.nm 7),(7,.nm 15)] [102,103,104,15] ?_ ?_ ?_
  .exact eN
  .simp only[mgO];exact eN
  rintro res M (⟨I,rfl,rfl⟩|⟨I,rfl,T,W,ap,aa,rfl⟩)
  .refine⟨[(101,.nm 1),(102,.nm 2),(103,.nm 3),(104,.nm 4),(3,.nm 5),(7,.nm 6),(15,.nm 7)],.p .bool false,[(101,.box 111 true [.p D8 h,.sr 102 T3 0 g.length,.sr 103 T3 0 d.length,.sr 104 Cl 0 aq.length]),(102,.arr 3 T3 g),(103,.arr 3 T3 d),(104,.arr 91 Cl aq),(3,.box 108 false [.bp 101 [] 0]),(7,.box 173 false [.sr 15 J6 0 (k-1)]),(15,.arr 172 J6 V)],rfl,rfl,?_,?_,rfl,rfl,?_⟩
   .simp only[mgO];exact eN
   .exact eN
   refine rL f ?_ ?_
   .trivial
   repeat'(first|exact trivial|apply eS rfl|refine rX f ?_ ?_|refine rC ?_ ?_<;>intro j<;>try(cases j;done))
   refine Ev.ent (σ':=⟨[(6,.p .bool false)],wT h g d aq⟩) ?_ (AC [(101,.nm 101),(102,.nm 102),(103,.nm 103),(104,.nm 104)] rfl rfl ?_ ?_)
   .exact fM f [.tmp 6] (.p .bool false) eT (.inr ⟨rfl,⟨g,d,aq,rfl⟩,λX v ag ao=>by
     have:=(WJ hk i A o ag ao).2.1;rw[I]at this;cases this⟩)
   .unfold wT;exact eN
   exact eN
  refine⟨[(101,.nm 1),(102,.nm 2),(103,.nm 3),(104,.nm 4),(3,.nm 5),(7,.nm 6),(15,.nm 7)],.p .bool true,[(101,.box 111 true [.p D8 h,.sr 102 T3 0 (g.set e.toNat c).length,.sr 103 T3 0 (d.set c.toNat (Bu h (d.getD c.toNat 0) (d.getD e.toNat 0)).1).length,.sr 104 Cl 0 (aq.set c.toNat (B8 (aq.getD c.toNat []) (aq.getD e.toNat [])).1).length]),(102,.arr 3 T3 (g.set e.toNat c)),(103,.arr 3 T3 (d.set c.toNat (Bu h (d.getD c.toNat 0) (d.getD e.toNat 0)).1)),(104,.arr 91 Cl (aq.set c.toNat (B8 (aq.getD c.toNat []) (aq.getD e.toNat [])).1)),(3,.box 108 false [.bp 101 [] 0]),(7,.box 173 false [.sr 15 J6 0 W]),(15,.arr 172 J6 T)],rfl,rfl,?_,?_,rfl,rfl,?_⟩
  .simp only[mgO];exact eN
  .exact eN
  refine rL f ?_ ?_
  .trivial
  repeat'(first|apply eS rfl|apply AB|refine rC ?_ ?_<;>intro j<;>try(cases j;done))
  have y:=YV hk i A o z I;rw[<-aa]at y;have hn:=wR R;have an:=wS (a:=c) m.1 m.2 o.root z;have bc:(B8 (aq.getD c.toNat []) (aq.getD e.toNat [])).2.length<=(Cr N).length:=R5 Rf (L c);have au:=ACb List.length aa;rw[F3,OF,OF]at au;have am:nR g*((Cr N).length+1)=nR (g.set e.toNat c)*((Cr N).length+1)+((Cr N).length+1):=by rw[<-an,ADp,Nat.one_mul]
  rw[hn]at am;exact⟨⟨((g.set e.toNat c,d.set c.toNat (Bu h (d.getD c.toNat 0) (d.getD e.toNat 0)).1,aq.set c.toNat (B8 (aq.getD c.toNat []) (aq.getD e.toNat [])).1),T,W),y,ap,by simp only;omega⟩,by simp only;omega,eW [(101,.nm 101),(102,.nm 102),(103,.nm 103),(104,.nm 104),(3,.nm 3),(7,.nm 7),(15,.nm 15)]⟩
 have Z:k=0:=by
  have:=R4.1 j;omega
 subst Z;rw[AAB]at l;refine Ev.ent (σ':=⟨[(6,.p .bool true)],wT h q d aq⟩) ?_ (AC [(101,.nm 101),(102,.nm 102),(103,.nm 103),(104,.nm 104)] rfl rfl ?_ ?_)
 .exact fM f [.tmp 6] (.p .bool true) eT (.inl ⟨rfl,q,d,aq,rfl,l⟩)
 .unfold wT;exact eN
 exact eN
open Classical in
noncomputable def Ej (p:List Int) (x:Int):Int:=if h:∃r,Rt p x r then h.choose else x
theorem YX {p:List Int} {x r:Int} (h:Rt p x r):Ej p x=r:=by
 unfold Ej;rw[dif_pos ⟨r,h⟩];exact(Exists.choose_spec (p:=λr=>Rt p x r) ⟨r,h⟩).det h
theorem Py {p:List Int} {b:Int->Nat} (a:Fo p b) {x:Int} (c:0<=x) (d:x<(p.length:Int)):Rt p x (Ej p x):=by
 obtain⟨r,h,-,-⟩:=a.root c d;rw[YX h];exact h
noncomputable def quo (p ty:List Int) (ar:List (List (Int×Int))):List AE:=(List.range p.length).map λk=>(ty.getD k 0,(ar.getD k []).map λa=>(a.1,Ej p a.2))
theorem EM (p ty:List Int) (ar:List (List (Int×Int))):(quo p ty ar).length=p.length:=by simp[quo]
theorem Lp {p ty:List Int} {ar:List (List (Int×Int))} {n:Int} (n0:0<=n) (n1:n<(p.length:Int)):(quo p ty ar).getD n.toNat (0,[])=(ty.getD n.toNat 0,(ar.getD n.toNat []).map λa=>(a.1,Ej p a.2)):=by
 unfold quo;rw[AS,SR,ABr O1];rfl
def Lq (len:Nat) (o:List Int):List Int:=(List.range len).map λ(k:Nat)=>if (k:Int)∈o then ((o.idxOf (k:Int):Nat):Int) else -1
theorem YY (len:Nat) (o:List Int):(Lq len o).length=len:=by simp[Lq]
theorem YZ {len:Nat} {o:List Int} {n:Int} (n0:0<=n) (n1:n<(len:Int)):(Lq len o).getD n.toNat 0=if n∈o then (o.idxOf n:Int) else -1:=by
 unfold Lq;rw[AS,SR,ABr O1];simp only[ACz,ACt];rw[show ((n.toNat:Nat):Int)=n by omega]
theorem Ya {o:List Int} {n:Int} (h:n∉o):(o++[n]).idxOf n=o.length:=by
 rw[ADP,At h];simp
theorem cC {o t:List Int} {n:Int} (h:n∈o):(o++t).idxOf n=o.idxOf n:=by
 rw[ADP,BY h]
theorem A4p {len:Nat} {o:List Int} {n:Int} (n0:0<=n) (n1:n<(len:Int)) (h:n∉o):(Lq len o).set n.toNat (o.length:Int)=Lq len (o++[n]):=by
 apply iF
 .simp[Lq]
 intro i h1 c;rw[List.getElem_set];simp only[Lq,ACL,ACP];by_cases e:n.toNat=i
 .rw[BY e];have b:(i:Int)=n:=by omega
  rw[b,BY sc,Ya h]
 rw[At e];have b:(i:Int)≠n:=by omega
 by_cases a:(i:Int)∈o
 .rw[BY a,BY (by simp[a]),cC a]
 rw[At a,At (by simp[a,b])]
theorem Yb {o t:List Int} {x:Int} (h:x∈o):Bk (o++t) x=Bk o x:=by
 unfold Bk;rw[BY (SP _ h),BY h,cC h]
theorem Rg {f:List AE} (hf:AQ f) (k:Nat):∀(l:List (Int×Int)) (t:List Int),(∀a∈l,0<=a.2/\a.2<(f.length:Int))->Ks f t->f.length-t.length<=k ->
  (∀a∈l,a.2∈l.foldl (Ae f k) t)/\∀x∈l.foldl (Ae f k) t,x∈t\/∀a∈(f.getD x.toNat (0,[])).2,a.2∈l.foldl (Ae f k) t:=by
 intro l;induction l with
 | nil=>exact λt _ _ _=>⟨λa ha=>(by cases ha),λx c=>.inl c⟩
 | cons a l u =>
  intro t j m o;simp only[On];have p:Ks f (Ae f k t a)/\t <+: Ae f k t a/\a.2∈Ae f k t a/\∀x∈Ae f k t a,x∈t\/∀b∈(f.getD x.toNat (0,[])).2,b.2∈Ae f k t a:=by
   unfold Ae;split
   .rename_i hn;exact⟨m,ACe _,hn,λx c=>.inl c⟩
   rename_i hn;have q:=j a sc;obtain⟨e,g⟩:=EL hf k t a.2 m q.1 q.2 hn;obtain⟨h,i⟩:=Iw hf k t a.2 m q.1 q.2 hn o;exact⟨e,g,h,i⟩
  obtain⟨e,g,h,i⟩:=p;have v:=g.length_le;obtain⟨r,s⟩:=u (Ae f k t a) (λb d=>j b (by simp[d])) e O1;obtain⟨_,n⟩:=E7 (EL hf k) l (Ae f k t a) (λb d=>j b (by simp[d])) e;refine⟨λb d=>?_,λx c=>?_⟩
  .rcases Do.1 d with rfl|d
   .exact n.subset h
   exact r b d
  rcases s x c with c|c
  .rcases i x c with c|c
   .exact .inl c
   exact .inr λb d=>n.subset (c b d)
  exact .inr c
def Hu (f:List AE) (o a:List Int):List AE:=(a.drop o.length).map (DD f a)
theorem A0q {f:List AE} {o t:List Int} {x:Int} (h:∀a∈(f.getD x.toNat (0,[])).2,a.2∈o):DD f (o++t) x=DD f o x:=by
 unfold DD;refine ACb _ (SB λa ha=>?_);unfold JL;rw[Yb (h a ha)]
theorem A4q {f:List AE} {c b d:List Int} (g:c <+: b) (i:b <+: d) (j:∀x∈b,x∈c\/∀a∈(f.getD x.toNat (0,[])).2,a.2∈b) (hn:b.Nodup):Hu f c b++Hu f b d=Hu f c d:=by
 obtain⟨t,rfl⟩:=g;obtain⟨s,rfl⟩:=i;unfold Hu;rw[AD1,AD1,SC,AD1,<-SC,SQ]
 congr 1
 refine SB λx e=>?_;refine(A0q λa ha=>?_).symm;rcases j x (AAx _ e) with h|h
 .exact absurd rfl ((ABU.1 hn).2.2 x h x e)
 exact h a ha
theorem cE (f:List AE) (o:List Int):Hu f o o=[]:=by
 unfold Hu;rw[AD0];rfl
theorem TK {α β:Type} (f:α->β) {l:List α} (d:α) (e:β) {i:Nat} (h:i<l.length):(l.map f).getD i e=f (l.getD i d):=by
 simp[AS,AT h]
structure ABx (Q:List AE) (o1:List Int) (L:List (Int×Int)) (j:Nat) (oo:Nat->List Int):Prop where
 zero:oo 0=o1
 succ:∀i,i<L.length->oo (i+1)=Ae Q j (oo i) (0,(L.getD i (0,0)).2)
 dok:∀i,Ks Q (oo i)
 pre:∀i,o1 <+: oo i
 nxt:∀i,oo i <+: oo (i+1)
 tgt:∀i,∀a∈L.take i,a.2∈oo i
 cls:∀i,∀x∈oo i,x∈o1\/∀a∈(Q.getD x.toNat (0,[])).2,a.2∈oo i
 last:oo L.length=L.foldl (Ae Q j) o1
theorem A7l {Q:List AE} (c:AQ Q) {b:List Int} {L:List (Int×Int)} {j:Nat} (g:∀a∈L,0<=a.2/\a.2<(Q.length:Int)) (h1:Ks Q b) (k:Q.length-b.length<=j):ABx Q b L j (λi=>(L.take i).foldl (Ae Q j) b):=by
 have f:=λi=>λa (ha:a∈L.take i)=>g a (iS ha);have hs:∀i,i<L.length->(L.take (i+1)).foldl (Ae Q j) b=Ae Q j ((L.take i).foldl (Ae Q j) b) (0,(L.getD i (0,0)).2):=λi hi=>OQ (Ae Q j) L (0,0) b hi;have d:=λi=>E7 (EL c j) (L.take i) b (f i) h1;refine⟨rfl,hs,λi=>(d i).1,λi=>(d i).2,λi=>?_,λi=>(Rg c j _ b (f i) h1 k).1,λi=>(Rg c j _ b (f i) h1 k).2,by simp only[R6]⟩;by_cases h:i<L.length
 .show _ <+: (L.take (i+1)).foldl (Ae Q j) b;rw[hs i h];have l:=g _ (AD L (0,0) h);exact(E7 (EL c j) [(0,(L.getD i (0,0)).2)] _ (λa ha=>by
   have e:a=(0,(L.getD i (0,0)).2):=by simpa using ha
   subst e;exact l) (d i).1).2
 show (L.take i).foldl (Ae Q j) b <+: (L.take (i+1)).foldl (Ae Q j) b;rw[An O1,An O1];exact ACe _
theorem A7m {α:Type} (l:List α) (x y:α) (t:List α) {k:Nat} (hk:k=l.length):(l++[x]++t).set k y=l++y :: t:=by
 subst hk;rw[SC,ABY _ _ O1,AAu];rfl
theorem A0r {Q:List AE} {o a:List Int} {n:Int} (h:o++[n] <+: a):Hu Q o a=DD Q a n :: Hu Q (o++[n]) a:=by
 obtain⟨t,rfl⟩:=h;unfold Hu;rw[AD1,SC,AD1];rfl
def uO (h:AG) (p ty:List Int) (ar:List (List (Int×Int))) (M:List Int) (out:List AE):List (Nat×Obj):=[(101,.box 111 true [.p D8 h,.sr 102 T3 0 p.length,.sr 103 T3 0 ty.length,.sr 104 Cl 0 ar.length]),(102,.arr 3 T3 p),(103,.arr 3 T3 ty),(104,.arr 91 Cl ar),(105,.box 108 false [.bp 101 [] 0]),(106,.box 61 false [.sr 107 T3 0 M.length]),(107,.arr 3 T3 M),(108,.box 25 true [.sr 109 GX 0 out.length]),(109,.arr 93 GX out),(110,.box 174 false [.clo 137 [105,106,108,110]])]
def A9M (h:AG) (p0 ty:List Int) (ar:List (List (Int×Int))) (k:Nat):Prop:=∀(p o:List Int) (out:List AE) (n:Int),(∃b,Fo p b)->FB p0 p->Ks (quo p0 ty ar) o->out.length=o.length->0<=n->n<(p0.length:Int)->p0.length-o.length<=k ->
 Bb Tryz.prog 137 [.p T3 n,.bp 105 [] 0,.bp 106 [] 0,.bp 108 [] 0,.bp 110 [] 0] (uO h p ty ar (Lq p0.length o) out) [101,105,106,108,110]
  (λres c=>∃a,(∃b,Fo a b)/\FB p0 a/\res=.p T3 (Bk (Ae (quo p0 ty ar) k o (0,Ej p0 n)) (Ej p0 n))/\c=uO h a ty ar (Lq p0.length (Ae (quo p0 ty ar) k o (0,Ej p0 n))) (out++Hu (quo p0 ty ar) o (Ae (quo p0 ty ar) k o (0,Ej p0 n))))
theorem mX (h:AG) {p0 ty:List Int} {ar:List (List (Int×Int))} (ai:∃m,Fo p0 m) (v:AQ (quo p0 ty ar)) (ax:ty.length=p0.length) (ae:ar.length=p0.length) (ag:∀k,∀a∈ar.getD k [],0<=a.2/\a.2<(p0.length:Int)) (k:Nat) (az:∀j,k=j+1->A9M h p0 ty ar j):A9M h p0 ty ar k:=by
 intro p o out n aj F O y n0 n1 hk;obtain⟨m,fo⟩:=aj;obtain⟨bk,L⟩:=ai;have U:=Py L n0 n1;have d:=Gk L n0 n1 U;have au:=v.1;rw[EM]at au;have C:=YY p0.length o;generalize be:Ej p0 n=b at *;refine OJ [0,1,2,3,4,6,7,8,10,18,49,50,51,52] [] [] Tryz.func137 Tryz.ntmps137 AH ?_;intro w0 K O0 ρ0 f bf bg;simp only[uO,A6];repeat'(first|exact trivial|apply eS rfl|refine rX f ?_ ?_)
 refine cP 2 f ?_ ?_
 .trivial
 refine rM f (gQ h ty ar m fo n0 (by rw[<-F.1];exact n1)) [(1,.nm 101),(2,.nm 102),(3,.nm 103),(4,.nm 104)] [102,103,104] ?_ ?_ ?_
 .exact eN
 .simp only[cA];exact eN
 rintro _ _ ⟨u,bj,rfl,rfl,M,bd,bb⟩;have aa:=F.trans bd;have e:=((F.2 n b n0 n1).1 U).det bb;subst e;refine⟨[(101,.nm 1),(102,.nm 2),(103,.nm 3),(104,.nm 4)],.p T3 b,[(101,.box 111 true [.p D8 h,.sr 102 T3 0 u.length,.sr 103 T3 0 ty.length,.sr 104 Cl 0 ar.length]),(102,.arr 3 T3 u),(103,.arr 3 T3 ty),(104,.arr 91 Cl ar)],rfl,rfl,?_,?_,rfl,rfl,?_⟩
 .simp only[cA];exact eN
 .exact eN
 refine rL f ?_ ?_
 .trivial
 repeat'(first|exact trivial|apply eS rfl|refine rX f ?_ ?_|refine rC ?_ ?_<;>intro l<;>try(cases l;done))
 .exact⟨d.1,by rw[C];exact d.2⟩
 .exact⟨d.1,by rw[C];exact d.2⟩
 .rw[YZ d.1 d.2]at l;have B:b∈o:=IF λe=>by rw[At e]at l;omega
  have W:Ae (quo p0 ty ar) k o (0,b)=o:=BY B;have A:Bk o b=(Lq p0.length o).getD b.toNat 0:=by
   rw[YZ d.1 d.2,BY B];unfold Bk;rw[BY B]
  refine Ev.ent (σ':=⟨[(6,.p T3 (Bk o b))],uO h u ty ar (Lq p0.length o) out⟩) ?_ (AC [(101,.nm 101),(102,.nm 102),(103,.nm 103),(104,.nm 104),(105,.nm 105),(106,.nm 106),(107,.nm 107),(108,.nm 108),(109,.nm 109),(110,.nm 110)] rfl rfl ?_ ?_)
  .refine fM f [.tmp 6] (.p T3 (Bk o b)) eT ⟨u,⟨m,M⟩,aa,by rw[W],?_⟩;rw[W,cE,SJ];rfl
  .unfold uO;exact eN
  refine eM ?_;exact A.symm
 .exact⟨d.1,by rw[C];exact d.2⟩
 .refine⟨⟨d.1,by rw[ax];exact d.2⟩,?_⟩;have:=O.len;rw[EM]at this;simp only[AN];omega
 .exact⟨d.1,by rw[ae];exact d.2⟩
 rw[YZ d.1 d.2]at l;have w:b∉o:=λe=>by rw[BY e]at l;omega
 have N:=O.snoc d.1 (by rw[EM];exact d.2) w;have an:=N.len;rw[EM,F3,R7]at an;obtain⟨j,rfl⟩:∃j,k=j+1:=⟨k-1,by omega⟩;have am:=az j rfl;have x:=Lp (p:=p0) (ty:=ty) (ar:=ar) d.1 d.2;have ay:=λa (ha:a∈ar.getD b.toNat [])=>ag b.toNat a ha;have bh:(ar.getD b.toNat []).length<=100000:=by
  have:=(v.2 _ (AD (quo p0 ty ar) (0,[]) (k:=b.toNat) (by rw[EM];omega))).1;rw[x,Of]at this;exact this
 have ad:∀a∈((ar.getD b.toNat []).map λa=>(a.1,Ej p0 a.2)),0<=a.2/\a.2<((quo p0 ty ar).length:Int):=λa ha=>by
  refine Aw v (n:=b) ?_;rw[x];exact ha
 obtain⟨c,g⟩:∃c,ABx (quo p0 ty ar) (o++[b]) ((ar.getD b.toNat []).map λa=>(a.1,Ej p0 a.2)) j c:=⟨_,A7l v (j:=j) ad N (by rw[EM,F3,R7];omega)⟩;have G:Ae (quo p0 ty ar) (j+1) o (0,b)=((ar.getD b.toNat []).map λa=>(a.1,Ej p0 a.2)).foldl (Ae (quo p0 ty ar) j) (o++[b]):=by
  unfold Ae;rw[At w];show Cm (quo p0 ty ar) (j+1) o b=_;rw[CO,x];rfl
 rw[<-g.last,Of]at G;have ap:=λ(i:Nat) (hi:i<(ar.getD b.toNat []).length)=>show (((ar.getD b.toNat []).map λa=>(a.1,Ej p0 a.2)).getD i (0,0))=(((ar.getD b.toNat []).getD i (0,0)).1,Ej p0 ((ar.getD b.toNat []).getD i (0,0)).2) by
  exact TK (λa:Int×Int=>(a.1,Ej p0 a.2)) (0,0) (0,0) hi
 rw[y,A4p d.1 d.2 w];generalize bi:ar.getD b.toNat []=xs at *;refine AI (ι:={s:Nat×List Int//s.1<=xs.length/\(∃m,Fo s.2 m)/\FB p0 s.2}) (λs=>⟨[(0,.p T3 b),(1,.bp 105 [] 0),(2,.bp 106 [] 0),(3,.bp 108 [] 0),(4,.bp 110 [] 0),(7,.p (.int .i64) (o.length:Int)),(8,.sr 64 Av 0 ((xs.take s.1.1).map λa=>(a.1,Bk (c s.1.1) (Ej p0 a.2))).length),(49,.p Cl xs),(50,.p (.int .i64) (xs.length:Int)),(51,.p (.int .i64) (s.1.1:Int))],uO h s.1.2 ty ar (Lq p0.length (c s.1.1)) (out++[(ty.getD b.toNat 0,[])]++Hu (quo p0 ty ar) (o++[b]) (c s.1.1))++[(64,.arr 106 Av ((xs.take s.1.1).map λa=>(a.1,Bk (c s.1.1) (Ej p0 a.2))))]⟩) (λs=>xs.length-s.1.1) ⟨(0,u),If _,⟨m,M⟩,aa⟩ (AC [(101,.nm 101),(102,.nm 102),(103,.nm 103),(104,.nm 104),(105,.nm 105),(106,.nm 106),(107,.nm 107),(108,.nm 108),(109,.nm 109),(110,.nm 110),(64,.nil)] rfl rfl ?_ ?_) (λs=>?_)
 .unfold uO;simp only[g.zero,cE,SJ];refine eM ?_;exact⟨by rw[YY,YY],y.symm⟩
 .exact eN
 obtain⟨⟨i,q⟩,hi,⟨Z,P⟩,V⟩:=s;have E:=g.pre i;have z:=g.dok i;have av:=E.length_le;have ah:=z.len;rw[F3,R7]at av;rw[EM]at ah;have R:(out++[(ty.getD b.toNat 0,[])]++Hu (quo p0 ty ar) (o++[b]) (c i)).length=(c i).length:=by
  unfold Hu;simp only[F3,R7,Of,dO];omega
 have S:out.length+1+(Hu (quo p0 ty ar) (o++[b]) (c i)).length=(c i).length:=by
  rw[<-R,F3,F3,R7]
 simp only[uO];repeat'(first|exact trivial|apply eS rfl|refine rX f ?_ ?_|refine rC ?_ ?_<;>intro l<;>try(cases l;done))
 .exact l
 .have r:i<xs.length:=GO.1 l;have Y:=ay _ (AD xs (0,0) r);have X:=g.succ i (by rw[Of];exact r);rw[ap i r]at X;have af:=A4q E (g.nxt i) (g.cls i) z.nd;have aw:=g.pre (i+1);have T:out.length+1+(Hu (quo p0 ty ar) (o++[b]) (c (i+1))).length=(c (i+1)).length:=by
   have h1:=aw.length_le;rw[F3,R7]at h1;unfold Hu;simp only[F3,R7,Of,dO];omega
  have J:((xs.take i).map λa=>(a.1,Bk (c i) (Ej p0 a.2)))++[((xs.getD i (0,0)).1,Bk (c (i+1)) (Ej p0 (xs.getD i (0,0)).2))]=(xs.take (i+1)).map λa=>(a.1,Bk (c (i+1)) (Ej p0 a.2)):=by
   rw[Dl _ xs (0,0) r]
   congr 1
   refine SB λa ha=>?_;obtain⟨t,H⟩:=g.nxt i;rw[<-H,Yb (g.tgt i (a.1,Ej p0 a.2) (by rw[<-List.map_take];exact DO.2 ⟨a,ha,rfl⟩))]
  rw[S];refine Fv drawsAny f 10 [([3,4,5],6),([1,2],7),([],8),([0],9)] [] (by kernel_rfl) (Vu ?_ ?_)
  .trivial
  refine mxC f (am q (c i) (out++[(ty.getD b.toNat 0,[])]++Hu (quo p0 ty ar) (o++[b]) (c i)) (xs.getD i (0,0)).2 ⟨Z,P⟩ V z R Y.1 Y.2 O1) [(101,.nm 101),(102,.nm 102),(103,.nm 103),(104,.nm 104),(105,.nm 105),(106,.nm 106),(107,.nm 107),(108,.nm 108),(109,.nm 109),(110,.nm 110)] [102,103,104,107,109] ?_ ?_ ?_
  .exact eN
  .simp only[uO];refine eM ?_;exact S.symm
  rintro _ _ ⟨I,⟨ba,ab⟩,bc,rfl,rfl⟩;rw[<-X,SC _ _ (Hu _ (c i) _),af];refine⟨[(101,.nm 101),(102,.nm 102),(103,.nm 103),(104,.nm 104),(105,.nm 105),(106,.nm 106),(107,.nm 107),(108,.nm 108),(109,.nm 109),(110,.nm 110)],.p T3 (Bk (c (i+1)) (Ej p0 (xs.getD i (0,0)).2)),[(101,.box 111 true [.p D8 h,.sr 102 T3 0 I.length,.sr 103 T3 0 ty.length,.sr 104 Cl 0 ar.length]),(102,.arr 3 T3 I),(103,.arr 3 T3 ty),(104,.arr 91 Cl ar),(105,.box 108 false [.bp 101 [] 0]),(106,.box 61 false [.sr 107 T3 0 (Lq p0.length (c (i+1))).length]),(107,.arr 3 T3 (Lq p0.length (c (i+1)))),(108,.box 25 true [.sr 109 GX 0 (c (i+1)).length]),(109,.arr 93 GX (out++[(ty.getD b.toNat 0,[])]++Hu (quo p0 ty ar) (o++[b]) (c (i+1)))),(110,.box 174 false [.clo 137 [105,106,108,110]])],rfl,rfl,?_,?_,rfl,rfl,rfl,?_⟩
  .simp only[uO];refine eM ?_;exact T
  .exact eN
  refine Vu ?_ ?_
  .trivial
  refine e9 f [] ?_ ?_
  .trivial
  refine Vu ?_ ?_
  .trivial
  refine e9 f [] ?_ ?_
  .trivial
  refine Vu ?_ ?_
  .trivial
  refine e9 f [64] ?_ ?_
  .rw[Of,OF];simp only[AN];omega
  refine p6 f ?_ ?_ ?_
  .trivial
  .trivial
  repeat'(first|apply eS rfl|apply AB|refine rX f ?_ ?_)
  .exact eV
  refine⟨⟨(i+1,I),r,⟨ba,ab⟩,bc⟩,by simp only;omega,AC [(101,.nm 101),(102,.nm 102),(103,.nm 103),(104,.nm 104),(105,.nm 105),(106,.nm 106),(107,.nm 107),(108,.nm 108),(109,.nm 109),(110,.nm 110),(64,.nm 64)] rfl rfl ?_ ?_⟩
  .simp only[uO,<-J];refine eM ?_;exact T.symm
  simp only[<-J];exact eN
 .exact GO.2 O1
 have al:i=xs.length:=by
  have:=R4.1 l;omega
 subst al;obtain⟨t,H⟩:=E;have A:Bk (c xs.length) b=(o.length:Int):=by
  rw[<-H,Yb sc];unfold Bk;rw[BY sc,Ya w]
 have aq:DD (quo p0 ty ar) (c xs.length) b=(ty.getD b.toNat 0,xs.map λa=>(a.1,Bk (c xs.length) (Ej p0 a.2))):=by
  unfold DD;rw[x];simp only[ABS];rfl
 have ak:(out++[(ty.getD b.toNat 0,([]:List (Int×Int)))]++Hu (quo p0 ty ar) (o++[b]) (c xs.length)).getD o.length (0,[])=(ty.getD b.toNat 0,[]):=by
  rw[<-y];simp[AS]
 have D:=A0r (Q:=quo p0 ty ar) (g.pre xs.length);rw[aq]at D;rw[R6,ak,A7m out _ _ _ y.symm,<-D];have ao:out.length+1+(Hu (quo p0 ty ar) (o++[b]) (c xs.length)).length=(out++Hu (quo p0 ty ar) o (c xs.length)).length:=by
  rw[D];simp only[F3,Is];omega
 rw[ao];refine Ev.ent (σ':=⟨[(6,.p T3 (Bk (c xs.length) b))],uO h q ty ar (Lq p0.length (c xs.length)) (out++Hu (quo p0 ty ar) o (c xs.length))⟩) ?_ (AC [(101,.nm 101),(102,.nm 102),(103,.nm 103),(104,.nm 104),(105,.nm 105),(106,.nm 106),(107,.nm 107),(108,.nm 108),(109,.nm 109),(110,.nm 110)] rfl rfl ?_ ?_)
 .exact fM f [.tmp 6] (.p T3 (Bk (c xs.length) b)) eT ⟨q,⟨Z,P⟩,V,by rw[G],by rw[G];rfl⟩
 .unfold uO;exact eN
 refine eM ?_;exact A.symm
theorem A4r (h:AG) {p0 ty:List Int} {ar:List (List (Int×Int))} (f:∃i,Fo p0 i) (b:AQ (quo p0 ty ar)) (g:ty.length=p0.length) (c:ar.length=p0.length) (d:∀k,∀a∈ar.getD k [],0<=a.2/\a.2<(p0.length:Int)):∀k,A9M h p0 ty ar k
 | 0=>mX h f b g c d 0 (λj e=>by cases e)
 | k+1=>mX h f b g c d (k+1) (λj e=>by cases e;exact A4r h f b g c d k)
theorem A4s (len:Nat):Lq len []=List.replicate len (-1):=by
 unfold Lq;apply iF
 .simp
 intro i h1 a;simp
theorem A4t {α:Type} (x y:α) {n i:Nat} (h:i<n):(List.replicate i x++List.replicate (n-i) y).set i x=List.replicate (i+1) x++List.replicate (n-(i+1)) y:=by
 obtain⟨m,a⟩:∃m,n-i=m+1:=⟨n-i-1,by omega⟩;have b:n-(i+1)=m:=by omega
 rw[a,b,ABY _ _ sc,ADq,AAu,ACZ,ACo,ADu,SC];rfl
theorem A4u (h:AG) {p ty:List Int} {ar:List (List (Int×Int))} (g:∃y,Fo p y) (f:AQ (quo p ty ar)) (t:ty.length=p.length) (m:ar.length=p.length) (n:∀k,∀a∈ar.getD k [],0<=a.2/\a.2<(p.length:Int)) {r:Int} (v:0<=r) (w:r<(p.length:Int)) :
  Bb Tryz.prog 87 [.bp 101 [] 0,.p T3 r] (wT h p ty ar) [101]
  (λres _=>res=.p DK (AK (quo p ty ar) (Ej p r))):=by
 have d:=A4r h g f t m n p.length p [] [] r g (FB.refl p) ⟨by simp,λx u=>by cases u⟩ rfl v w sc;have o:Hu (quo p ty ar) [] (Ae (quo p ty ar) p.length [] (0,Ej p r))=AK (quo p ty ar) (Ej p r):=by
  have e:Ae (quo p ty ar) p.length [] (0,Ej p r)=Cm (quo p ty ar) p.length [] (Ej p r):=At sc;rw[e];unfold Hu AK;rw[EM];rfl
 rw[ACp,o,A4s]at d;have s:=f.1;rw[EM]at s;generalize AK (quo p ty ar) (Ej p r)=G at *;generalize Bk _ _=z at d;generalize Lq _ _=M at d;refine OJ [0,1,2,4,5,6,7,8,16,17,18] [] [] Tryz.func87 Tryz.ntmps87 AH ?_;intro w0 K O0 ρ0 b B C;simp only[wT,A6];repeat'(first|exact trivial|apply eS rfl|refine rX b ?_ ?_)
 .simp only[AN];omega
 refine AI (ι:={i:Nat//i<=p.length}) (λi=>⟨[(0,.bp 101 [] 0),(1,.p T3 r),(2,.bp 2 [] 0),(4,.bp 4 [] 0),(5,.bp 5 [] 0),(16,.p (.int .i64) (p.length:Int)),(17,.p (.int .i64) (i.1:Int))],[(5,.box 61 false [.sr 14 T3 0 p.length]),(14,.arr 3 T3 (List.replicate i.1 (-1)++List.replicate (p.length-i.1) 0)),(4,.box 25 true [.raw (.slice none 0 0)]),(2,.box 108 false [.bp 101 [] 0]),(101,.box 111 true [.p D8 h,.sr 102 T3 0 p.length,.sr 103 T3 0 ty.length,.sr 104 Cl 0 ar.length]),(102,.arr 3 T3 p),(103,.arr 3 T3 ty),(104,.arr 91 Cl ar)]⟩) (λi=>p.length-i.1) ⟨0,by omega⟩ (AC [(5,.nm 5),(14,.nm 14),(4,.nm 4),(2,.nm 2),(101,.nm 101),(102,.nm 102),(103,.nm 103),(104,.nm 104)] rfl rfl ?_ ?_) (λi=>?_)
 .refine eM ?_;rfl
 .exact eN
 obtain⟨i,hi⟩:=i;simp only;repeat'(first|exact trivial|apply eS rfl|apply AB|refine rX b ?_ ?_|refine rC ?_ ?_<;>intro c<;>try(cases c;done))
 .exact c
 .exact eV
 .have j:i<p.length:=GO.1 c;refine⟨⟨i+1,j⟩,by simp only;omega,AC [(5,.nm 5),(14,.nm 14),(4,.nm 4),(2,.nm 2),(101,.nm 101),(102,.nm 102),(103,.nm 103),(104,.nm 104)] rfl rfl ?_ ?_⟩
  .refine eM ?_;exact A4t _ _ j
  exact eN
 have q:i=p.length:=by
  have:=R4.1 c;omega
 subst q;rw[AAu,List.replicate_zero,SJ];refine cP 2 b ?_ ?_
 .trivial
 refine rM b (d) [(101,.nm 101),(102,.nm 102),(103,.nm 103),(104,.nm 104),(105,.nm 2),(106,.nm 5),(107,.nm 14),(108,.nm 7),(109,.nil),(110,.nm 8)] [102,103,104,14] ?_ ?_ ?_
 .exact eN
 .simp only[uO];refine eM ?_;exact ADq.symm
 rintro _ _ ⟨l,A,D,rfl,rfl⟩;refine⟨[(101,.nm 101),(102,.nm 102),(103,.nm 103),(104,.nm 104),(2,.nm 105),(5,.nm 106),(14,.nm 107),(7,.nm 108),(120,.nm 109),(8,.nm 110)],.p T3 z,[(101,.box 111 true [.p D8 h,.sr 102 T3 0 l.length,.sr 103 T3 0 ty.length,.sr 104 Cl 0 ar.length]),(102,.arr 3 T3 l),(103,.arr 3 T3 ty),(104,.arr 91 Cl ar),(2,.box 108 false [.bp 101 [] 0]),(5,.box 61 false [.sr 14 T3 0 M.length]),(14,.arr 3 T3 M),(7,.box 25 true [.sr 120 GX 0 G.length]),(120,.arr 93 GX G),(8,.box 174 false [.clo 137 [2,5,7,8]])],rfl,rfl,?_,?_,rfl,rfl,Eq ?_⟩
 .simp only[uO];exact eN
 .exact eN
 refine E2 [120] ?_;repeat'(first|exact trivial|apply eS rfl|refine rX b ?_ ?_)
 exact fM b [.cell 4 25] (.p DK G) eT rfl
structure ABy (f:List AE) (r:Int) (o:List Int):Prop where
 ok:Ks f o
 zero:o.getD 0 0=r/\0<o.length
 cl:∀n∈o,∀a∈AP f n,a.2∈o
theorem FK {f:List AE} (hf:AQ f) {r:Int} (b:0<=r) (c:r<(f.length:Int)):ABy f r (Cm f f.length [] r):=by
 have h1:=EL hf f.length [] r (Gi f) b c sc;have d:=Iw hf f.length [] r (Gi f) b c sc sc;have e:[r] <+: Cm f f.length [] r:=by
  obtain⟨k,hk⟩:∃k,f.length=k+1:=⟨f.length-1,by omega⟩;rw[hk,CO];exact(E7 (EL hf k) _ _ (λa ha=>Aw hf ha) ((Gi f).snoc b c sc)).2
 refine⟨h1.1,?_,λn hn a ha=>?_⟩
 .obtain⟨t,g⟩:=e;rw[<-g];exact⟨rfl,by simp⟩
 rcases d.2 n hn with h|h
 .cases h
 exact h a ha
theorem Gl {f:List AE} {r:Int} {i:Nat} (hi:i<(Cm f f.length [] r).length):(AK f r).getD i (0,[])=DD f (Cm f f.length [] r) ((Cm f f.length [] r).getD i 0):=by
 unfold AK;simp[AS,hi]
theorem Fk (f:List AE) (r:Int):(AK f r).length=(Cm f f.length [] r).length:=by simp[AK]
def Ap (f g:List AE):List AE:=f++g.map λx=>(x.1,AX f.length x.2)
theorem Cw (f g:List AE):(Ap f g).length=f.length+g.length:=by simp[Ap]
theorem Pz {f g:List AE} {x:Int} (a:0<=x) (b:x<(f.length:Int)):(Ap f g).getD x.toNat (0,[])=f.getD x.toNat (0,[]):=by
 unfold Ap;rw[AS,AS,TO O1]
theorem NX {f g:List AE} {y:Int} (a:0<=y) (b:y<(g.length:Int)):(Ap f g).getD ((f.length:Int)+y).toNat (0,[])=((g.getD y.toNat (0,[])).1,AX f.length (g.getD y.toNat (0,[])).2):=by
 unfold Ap;have e:((f.length:Int)+y).toNat=f.length+y.toNat:=by omega
 rw[e,AS,SL O1,ADk];rw[<-AS];exact TK (λx:AE=>(x.1,AX f.length x.2)) (0,[]) (0,[]) O1
theorem wU {n:Nat} {p:List Int} {x y:Int} (h:EG n p [] x y):Ej p x=Ej p y:=by
 induction h with
 | cls _ _ _ _ h g=>rw[YX h,YX g]
 | wt h=>cases h
 | symm _ a=>exact a.symm
 | trans _ _ b c=>exact b.trans c
noncomputable abbrev TL (p ty:List Int) (ar:List (List (Int×Int))):List Int:=Cm (quo p ty ar) (quo p ty ar).length [] (Ej p 0)
structure A8s (h:AG) (N:List AE) (P:List (Int×Int)) (U:List AE) (v:Int->Int):Prop where
 good:AQ U
 pos:0<U.length
 str:∀x∈U,MS x.2
 feat:∀x∈U,∀a∈x.2,a.1∈Cr N
 ty:Cq h U
 ro:RO U
 zero:v 0=0
 proj:Uz h N P U v
 least:∀X w,Cq h X->Uz h N P X w->w 0=0->∃m,KF h U X m
 len:U.length<=N.length
section
variable {h:AG} {N:List AE} {P:List (Int×Int)} {p ty:List Int} {ar:List (List (Int×Int))}
theorem TM (a:JI h N P p ty ar []) (b:AQ (quo p ty ar)) (c:0<N.length):ABy (quo p ty ar) (Ej p 0) (TL p ty ar):=by
 obtain⟨d,fo⟩:=a.fo;have lp:=a.lp;have:=Gk fo (x:=0) O1 O1 (Py fo O1 O1);exact FK b this.1 (by rw[EM];exact this.2)
theorem Yc (d:JI h N P p ty ar []) (c:AQ (quo p ty ar)) (b:0<N.length):Ej p 0∈TL p ty ar:=by
 have a:=TM d c b;have:=AD (TL p ty ar) 0 a.zero.2;rw[a.zero.1]at this;exact this
theorem A4v (a:JI h N P p ty ar []) {x y:Int} (b:(x,y)∈P) (c:Ej p x∈TL p ty ar):Ej p y∈TL p ty ar:=by
 rw[<-wU (a.sp (x,y) b)];exact c
theorem sT (b:JI h N P p ty ar []) (f:AQ (quo p ty ar)) (e:0<N.length) {x:Int} (c:0<=x) (k:x<(N.length:Int)) (j:Ej p x∈TL p ty ar) {a:Int×Int} (ha:a∈AP N x):Ej p a.2∈TL p ty ar:=by
 obtain⟨l,fo⟩:=b.fo;have lp:=b.lp;obtain⟨t,i,g⟩:=b.sa x _ c k (Py fo c O1) a ha;rw[wU g];have d:=Gk fo c O1 (Py fo c O1);refine(TM b f e).cl _ j (a.1,Ej p t) ?_;rw[AP,Lp d.1 d.2];exact DO.2 ⟨(a.1,t),i,rfl⟩
def A0s (N:List AE) (k:Nat) (g:List AE):Prop:=∀i:Int,0<=i->i<(g.length:Int)->(k:Int)+i<(N.length:Int)/\N.getD ((k:Int)+i).toNat (0,[])=((g.getD i.toNat (0,[])).1,AX k (g.getD i.toNat (0,[])).2)
theorem Yd (m:JI h N P p ty ar []) (f:AQ (quo p ty ar)) (e:0<N.length) {k:Nat} {g:List AE} (l:A0s N k g) (r:RO g) (hk:Ej p (k:Int)∈TL p ty ar):∀(n:Nat) (i:Int),i.toNat<=n->0<=i->i<(g.length:Int)->Ej p ((k:Int)+i)∈TL p ty ar:=by
 intro n;induction n with
 | zero =>
  intro i hn o c;have:i=0:=by omega
  subst this;rw[AD6];exact hk
 | succ n q =>
  intro i hn o c;by_cases hi:i=0
  .subst hi;rw[AD6];exact hk
  obtain⟨j,d,s,a,ha,rfl⟩:=r i O1 c;have b:=l j d O1;have:=sT m f e (x:=(k:Int)+j) O1 b.1 (q j O1 d O1) (a:=(a.1,a.2+(k:Int))) (by
   rw[AP,b.2];exact DO.2 ⟨a,ha,rfl⟩)
  rw[Int.add_comm];exact this
end
theorem mY {h:AG} {N:List AE} {P:List (Int×Int)} {f:List AE} {v:Int->Int} (e:Uz h N P f v) {k:Nat} {g:List AE} (d:A0s N k g) (j:v (k:Int)=0):KF h g f λi=>v ((k:Int)+i):=by
 refine⟨by show v ((k:Int)+0)=0;rw[AD6];exact j,λi b c=>?_,λi b c=>?_,λi b c a ha=>?_⟩
 .exact e.rng _ O1 (d i b c).1
 .have:=e.ty _ O1 (d i b c).1;rw[(d i b c).2]at this;exact this
 have:=e.arc _ O1 (d i b c).1 (a.1,a.2+(k:Int)) (by
  rw[AP,(d i b c).2];exact DO.2 ⟨a,ha,rfl⟩)
 rw[Int.add_comm (k:Int) a.2];exact this
theorem Lr {h:AG} {g X:List AE} {m:Int->Int} (a:KF h g X m):Uz h g [] X m:=⟨a.rng,a.ty,a.arc,λq b=>by cases b⟩
theorem Ye {h:AG} {f g X:List AE} (hf:AQ f) (m:AQ g) {v w:Int->Int} (h1:Uz h f [] X v) (i:Uz h g [] X w):Uz h (Ap f g) [] X (λx=>if x<(f.length:Int) then v x else w (x-(f.length:Int))):=by
 have j:=Cw f g;refine⟨λx d e=>?_,λx d e=>?_,λx d e a ha=>?_,λq n=>by cases n⟩
 .rw[j]at e;show _/\_;try simp only
  split
  .exact h1.rng x d (by assumption)
  exact i.rng _ O1 O1
 .rw[j]at e;try simp only
  by_cases c:x<(f.length:Int)
  .rw[BY c,Pz d c];exact h1.ty x d c
  rw[At c];have:=NX (f:=f) (g:=g) (y:=x-(f.length:Int)) O1 O1;rw[show (f.length:Int)+(x-(f.length:Int))=x by omega]at this;rw[this];exact i.ty _ O1 O1
 rw[j]at e;try simp only
 by_cases c:x<(f.length:Int)
 .rw[BY c];rw[AP,Pz d c]at ha;have l:=Aw hf ha;rw[BY l.2];exact h1.arc x d c a ha
 rw[At c];have:=NX (f:=f) (g:=g) (y:=x-(f.length:Int)) O1 O1;rw[show (f.length:Int)+(x-(f.length:Int))=x by omega]at this;rw[AP,this]at ha;obtain⟨b,k,rfl⟩:=DO.1 ha;have l:=Aw m k;rw[At (by simp only;omega)];try simp only
 rw[show b.2+(f.length:Int)-(f.length:Int)=b.2 by omega];exact i.arc _ O1 O1 b k
theorem sU {h:AG} {N X:List AE} {P:List (Int×Int)} {v:Int->Int} (h1:Uz h N [] X v) (a:∀q∈P,v q.1=v q.2):Uz h N P X v:=⟨h1.rng,h1.ty,h1.arc,a⟩
theorem cF {N f g:List AE} {k:Nat} (h:A0s f k N):A0s (Ap f g) k N:=by
 intro i a b;have:=h i a b;rw[Cw,Pz O1 this.1];exact⟨by omega,this.2⟩
theorem cH {f:List AE}:A0s f 0 f:=by
 intro i c b;rw[show ((0:Nat):Int)+i=i by omega];refine⟨b,?_⟩;have:AX 0 (f.getD i.toNat (0,[])).2=(f.getD i.toNat (0,[])).2:=by
  unfold AX;rw[SB (g:=id) (λa _=>by show (a.1,a.2+((0:Nat):Int))=a;rw[Int.natCast_zero,AD6]),ADS]
 rw[this]
theorem Yf {f g:List AE}:A0s (Ap f g) f.length g:=by
 intro i a b;rw[Cw,NX a b];exact⟨by omega,rfl⟩
set_option maxHeartbeats 1000000 in
theorem A9N {h:AG} {N:List AE} {P:List (Int×Int)} {p ty:List Int} {ar:List (List (Int×Int))} (L:JI h N P p ty ar []) (E:AQ (quo p ty ar)) (O:0<N.length) (H:∀x,0<=x->x<(N.length:Int)->Ej p x∈TL p ty ar) :
  A8s h N P (AK (quo p ty ar) (Ej p 0)) (λx=>Bk (TL p ty ar) (Ej p x)):=by
 have s:=TM L E O
 have af:=Yc L E O
 obtain⟨nty,⟨av,fo⟩,lp,lt,la,wr,tyr,arr,srt,sp,st,sa,co⟩:=L
 have aj:=EM p ty ar
 have w:=λ{x:Int} (C:0<=x) (D:x<(N.length:Int))=>Py fo C (by rw[lp];exact D)
 have J:=λ{x:Int} (C:0<=x) (D:x<(N.length:Int))=>Gk fo C (by rw[lp];exact D) (w C D)
 have K:=Fk (quo p ty ar) (Ej p 0)
 have aa:=λi=>Gl (f:=quo p ty ar) (r:=Ej p 0) (i:=i)
 have M:∀x:Int,0<=x->x<(N.length:Int)->AP (quo p ty ar) x=(ar.getD x.toNat []).map λa=>(a.1,Ej p a.2):=λx C D=>by
  rw[AP,Lp C (by rw[lp];exact D)]
 have u:∀x∈TL p ty ar,(0<=x/\x<(N.length:Int))/\Dq p x=x:=by
  have ag:Iso (quo p ty ar) (quo p ty ar) id (λx=>(0<=x/\x<(N.length:Int))/\Dq p x=x):=by
   refine⟨λi _=>by simp,λi hi a ha=>?_,λi j _ _ e=>e⟩
   rw[M i hi.1.1 hi.1.2]at ha
   obtain⟨b,m,rfl⟩:=List.mem_map.1 ha
   have c:=(arr _ b m).1
   have:=J c.1 c.2
   rw[lp]at this
   exact⟨this,(w c.1 c.2).root⟩
  have R:=J (x:=0) O1 O1
  rw[lp]at R
  exact(Ra ag _ [] _ (λx d=>by cases d) ⟨R,(w (x:=0) O1 O1).root⟩).2
 have ah:=λ(q:Nat)=>Rc E (quo p ty ar).length [] (Ej p 0) (Gi _) (J (x:=0) O1 O1).1 (by rw[aj];exact(J (x:=0) O1 O1).2) sc q
 unfold TL at s af H u ⊢
 generalize ao:AK (quo p ty ar) (Ej p 0)=F at *
 generalize aq:Cm (quo p ty ar) (quo p ty ar).length [] (Ej p 0)=o at *
 have z:∀i:Int,0<=i->i<(o.length:Int)->o.getD i.toNat 0∈o/\Bk o (o.getD i.toNat 0)=i:=λi g l=>by
  refine⟨AD o 0 O1,?_⟩
  rw[Fi s.ok.nd O1]
  omega
 have A:∀x∈o,F.getD (Bk o x).toNat (0,[])=(ty.getD x.toNat 0,(ar.getD x.toNat []).map λa=>(a.1,Bk o (Ej p a.2))):=λx d=>by
  have am:=CZ d
  have c:=(u x d).1
  rw[aa _ O1,am.2.2]
  unfold DD
  rw[Lp c.1 (by rw[lp];exact c.2),List.map_map]
  rfl
 have Q:∀x∈o,∀a∈ar.getD x.toNat [],Ej p a.2∈o:=λx d a ha=>by
  have c:=(u x d).1
  exact s.cl x d (a.1,Ej p a.2) (by rw[M x c.1 c.2];exact List.mem_map.2 ⟨a,ha,rfl⟩)
 have S:∀k,MS ((ar.getD k []).map λa=>(a.1,Bk o (Ej p a.2))):=λk=>by
  unfold MS
  rw[List.pairwise_map]
  exact srt k
 have G:∀x∈F,∃y∈o,x=(ty.getD y.toNat 0,(ar.getD y.toNat []).map λa=>(a.1,Bk o (Ej p a.2))):=λx d=>by
  obtain⟨i,hi,rfl⟩:=CN (0,[]) d
  have h1:=z (i:Int) O1 O1
  refine⟨_,h1.1,?_⟩
  rw[<-A _ h1.1,h1.2]
  rw[Int.toNat_natCast]
 have ae:Bk o (Ej p 0)=0:=by
  have:=Fi s.ok.nd s.zero.2
  rw[s.zero.1]at this
  exact this
 have ap:=s.ok.len
 have an:=E.1
 refine⟨⟨by omega,λx d=>?_⟩,by rw[K];exact s.zero.2,λx d=>?_,λx d a ha=>?_,λx d=>?_,λi g l=>?_,ae,⟨λi g l=>?_,λi g l=>?_,λi g l a ha=>?_,λq ai=>?_⟩,λX v ab T al=>?_,by omega⟩
 .obtain⟨y,B,rfl⟩:=G x d
  have c:=(u y B).1
  refine⟨?_,λa ha=>?_⟩
  .have:=(E.2 _ (AD (quo p ty ar) (0,[]) (k:=y.toNat) O1)).1
   rw[Lp c.1 (by rw[lp];exact c.2),List.length_map]at this
   simp only[List.length_map]
   exact this
  obtain⟨b,m,rfl⟩:=List.mem_map.1 ha
  have:=CZ (Q y B b m)
  rw[K]
  exact⟨this.1,this.2.1⟩
 .obtain⟨y,B,rfl⟩:=G x d
  exact S _
 .obtain⟨y,B,rfl⟩:=G x d
  obtain⟨b,m,rfl⟩:=List.mem_map.1 ha
  exact(arr _ b m).2
 .obtain⟨y,B,rfl⟩:=G x d
  have c:=(u y B).1
  exact tyr y c.1 c.2
 . -- in order
  obtain⟨j,au,a,ha,e⟩:=ah i.toNat (by simp only[List.length_nil];omega) O1
  have h1:=z (j:Int) O1 O1
  have W:=z i O1 O1
  rw[Int.toNat_natCast]at h1
  have c:=(u _ h1.1).1
  rw[M _ c.1 c.2]at ha
  obtain⟨b,m,rfl⟩:=List.mem_map.1 ha
  refine⟨(j:Int),by omega,by omega,(b.1,Bk o (Ej p b.2)),?_,?_⟩
  .have:=A _ h1.1
   rw[h1.2]at this
   rw[AP,this]
   exact List.mem_map.2 ⟨b,m,rfl⟩
  show Bk o (Ej p b.2)=i
  simp only at e
  rw[e,W.2]
 .have:=CZ (H i g l)
  rw[K]
  exact⟨this.1,this.2.1⟩
 .show Aj h _ (F.getD (Bk o (Ej p i)).toNat (0,[])).1=true
  rw[A _ (H i g l)]
  exact st i _ g l (w g l)
 .obtain⟨t,ak,ad⟩:=sa i _ g l (w g l) a ha
  have e:=wU ad
  show CR (AP F (Bk o (Ej p i))) a.1=Bk o (Ej p a.2)
  rw[e,AP,A _ (H i g l)]
  exact Fj (S _) (a:=(a.1,Bk o (Ej p t))) (List.mem_map.2 ⟨(a.1,t),ak,rfl⟩)
 .show Bk o (Ej p q.1)=Bk o (Ej p q.2)
  rw[wU (sp q ai)]
 obtain⟨c1,c2,U,V⟩:=co X v ab T
 refine⟨λi=>v (o.getD i.toNat 0),?_,λi g l=>?_,λi g l=>?_,λi g l a ha=>?_⟩
 .show v (o.getD 0 0)=0
  rw[s.zero.1,<-c1 0 _ O1 O1 (w O1 O1)]
  exact al
 .have n:=z i g O1
  have c:=(u _ n.1).1
  exact T.rng _ c.1 c.2
 .have n:=z i g O1
  have c:=u _ n.1
  have hn:=A _ n.1
  rw[n.2]at hn
  rw[hn]
  exact U _ c.1.1 c.1.2 c.2
 have n:=z i g O1
 have c:=u _ n.1
 have hn:=A _ n.1
 rw[n.2]at hn
 rw[AP,hn]at ha
 obtain⟨b,m,rfl⟩:=List.mem_map.1 ha
 have Y:=V _ c.1.1 c.1.2 c.2 b m
 have I:=(arr _ b m).1
 have Z:=CZ (Q _ n.1 b m)
 simp only
 rw[Z.2.2,<-c1 b.2 _ I.1 I.2 (w I.1 I.2)]
 exact Y
structure VF (h:AG) (f:List AE):Prop where
 good:AQ f
 pos:0<f.length
 ty:Cq h f
 str:∀x∈f,MS x.2
 ft:∀x∈f,∀a∈x.2,0<=a.1/\a.1<(h.2.length:Int)
 can:AK f 0=f
 ro:RO f
structure HU (h:AG):Prop where
 ok:Ew h
 inj:KB h
 ft:h.2.length<=64
def mZ (U:List AE):Prop:=(Cm U U.length [] 0).length=U.length/\∀k,(hk:k<(Cm U U.length [] 0).length)->(Cm U U.length [] 0)[k]=(k:Int)
theorem gT {Q:List AE} (m:AQ Q) {r:Int} (L:0<=r) (M:r<(Q.length:Int)):AQ (AK Q r)/\mZ (AK Q r):=by
 have d:=FK m L M;have D:=Fk Q r;have C:=λi=>Gl (f:=Q) (r:=r) (i:=i);generalize O:AK Q r=c at *;generalize H:Cm Q Q.length [] r=o at *;have R:=d.ok.len;have N:=m.1;have g:∀i:Int,0<=i->i<(o.length:Int)->o.getD i.toNat 0∈o/\Bk o (o.getD i.toNat 0)=i:=λi J K=>by
  refine⟨AD o 0 O1,?_⟩;rw[Fi d.ok.nd O1];omega
 have p:∀i:Int,0<=i->i<(o.length:Int)->AP c i=(AP Q (o.getD i.toNat 0)).map (JL o):=λi J K=>by
  rw[AP,C i.toNat O1];rfl
 have F:Iso c Q (λi=>o.getD i.toNat 0) (λi=>0<=i/\i<(o.length:Int)):=by
  refine⟨λi hi=>?_,λi hi a ha=>?_,λi j hi B e=>?_⟩
  .rw[p i hi.1 hi.2,ABS];have:∀a∈AP Q (o.getD i.toNat 0),((λa:Int×Int=>(a.1,o.getD a.2.toNat 0))∘JL o) a=a:=λa ha=>by
    show (a.1,o.getD (Bk o a.2).toNat 0)=a;rw[(CZ (d.cl _ (g i hi.1 hi.2).1 a ha)).2.2]
   rw[SB this,List.map_id']
  .rw[p i hi.1 hi.2]at ha;obtain⟨b,q,rfl⟩:=DO.1 ha;have:=CZ (d.cl _ (g i hi.1 hi.2).1 b q);exact⟨this.1,this.2.1⟩
  have h1:=(g i hi.1 hi.2).2;have h:=(g j B.1 B.2).2;have e:o.getD i.toNat 0=o.getD j.toNat 0:=e;rw[<-h1,<-h,e]
 have h0:(0:Int)<(o.length:Int):=by have:=d.zero.2;omega
 have v:AQ c:=by
  refine⟨by omega,λx u=>?_⟩;obtain⟨i,hi,rfl⟩:=CN (0,[]) u;have h1:=p (i:Int) O1 O1;rw[AP,R3]at h1;rw[h1];have t:=g (i:Int) O1 O1;rw[R3]at t;have S:=d.ok.rng _ t.1;refine⟨?_,λa ha=>?_⟩
  .rw[Of];exact(m.2 _ (AD Q (0,[]) (k:=(o.getD i 0).toNat) O1)).1
  obtain⟨b,q,rfl⟩:=DO.1 ha;have:=CZ (d.cl _ t.1 b q);rw[D];exact⟨this.1,this.2.1⟩
 have s:=Ra F Q.length [] 0 (λx u=>by cases u) ⟨by omega,h0⟩;have I:o.getD (0:Int).toNat 0=r:=d.zero.1;rw[ADh,I,H]at s;have A:=RZ v (n:=0) O1 O1 (Q.length-c.length);rw[show c.length+(Q.length-c.length)=Q.length by omega]at A;rw[A]at s;unfold mZ;refine⟨v,?_⟩;generalize Cm c c.length [] 0=l at *;obtain⟨y,E⟩:=s;have P:l.length=o.length:=by
  have:=ACb List.length y;rw[Of]at this;exact this.symm
 have G:∀k,(hk:k<l.length)->l[k]=(k:Int):=λk hk=>by
  have w:=E l[k] (nO hk);have h1:=(g l[k] w.1 w.2).2;have h:=(g (k:Int) O1 O1).2;have e:o.getD k 0=o.getD (l[k]).toNat 0:=by
   exact(ACb (λz:List Int=>z.getD k 0) y).trans (by simp[AS,hk])
  rw[R3,e]at h;rw[<-h1,h]
 exact⟨by omega,G⟩
theorem Yg {b:List AE} (g:AQ b) (k:mZ b):AK b 0=b:=by
 unfold AK;obtain⟨q,c⟩:=k;generalize Cm b b.length [] 0=l at *;have o:l.Nodup:=by
  unfold List.Nodup;rw[SI];intro i j hi n p e;rw[c i hi,c j n]at e;omega
 have m:∀x,0<=x->x<(l.length:Int)->Bk l x=x:=λx r s=>by
  have:=Fi o (i:=x.toNat) O1;have e:l.getD x.toNat 0=x:=by
   rw[AS,AT O1];show l[x.toNat]=x;rw[c _ O1];omega
  rw[e]at this;rw[this];omega
 apply iF
 .rw[Of];omega
 intro i h1 d;rw[ACL,c i (by simpa using h1)];have f:b.getD (i:Int).toNat (0,[])=b[i]:=by simp[AS,d]
 unfold DD;rw[f];have:∀a∈b[i].2,JL l a=a:=λa ha=>by
  have h:=(g.2 _ (nO d)).2 a ha;unfold JL;rw[m a.2 h.1 O1]
 rw[SB this,List.map_id']
theorem m5 {Q:List AE} (a:AQ Q) {r:Int} (b:0<=r) (c:r<(Q.length:Int)):AK (AK Q r) 0=AK Q r :=
 Yg (gT a b c).1 (gT a b c).2
theorem Yh {h:AG} {a X:List AE} (g:RO a) {m f:Int->Int} (h1:KF h a X m) (b:KF h a X f):∀(k:Nat) (i:Int),i.toNat<=k->0<=i->i<(a.length:Int)->m i=f i:=by
 intro k;induction k with
 | zero =>
  intro i hk l e;have:i=0:=by omega
  subst this;rw[h1.zero,b.zero]
 | succ k n =>
  intro i hk l e;by_cases hi:i=0
  .subst hi;rw[h1.zero,b.zero]
  obtain⟨j,c,o,x,d,rfl⟩:=g i O1 e;rw[<-h1.arc j c O1 x d,<-b.arc j c O1 x d,n j O1 c O1]
theorem NY {h:AG} (hk:Ew h) {a b c:List AE} (w:AQ a) (ta:Cq h a) (tb:Cq h b) (A:Cq h c) {m n:Int->Int} (h1:KF h a b m) (j:KF h b c n):KF h a c λi=>n (m i):=by
 refine⟨by show n (m 0)=0;rw[h1.zero,j.zero],λi f g=>?_,λi f g=>?_,λi f g x p=>?_⟩
 .have:=h1.rng i f g;exact j.rng _ this.1 this.2
 .have d:=h1.rng i f g;have B:=j.rng _ d.1 d.2;have r:=ta _ (AD a (0,[]) (k:=i.toNat) O1);have s:=tb _ (AD b (0,[]) (k:=(m i).toNat) O1);have t:=A _ (AD c (0,[]) (k:=(n (m i)).toNat) O1);exact I0 hk r.1 r.2 s.1 s.2 t.1 t.2 (h1.ty i f g) (j.ty _ d.1 d.2)
 have d:=h1.rng i f g;have q:=Aw w p;have o:=h1.arc i f g x p;obtain⟨y,z,u,v⟩:=FA (l:=AP b (m i)) (e:=x.1) (by rw[o];exact(h1.rng _ q.1 q.2).1);have:=j.arc (m i) d.1 d.2 y z;rw[u,v,o]at this;exact this
theorem Gm {a:List AE} (hs:∀x∈a,MS x.2) (n:Int):MS (AP a n):=by
 unfold AP;by_cases h:n.toNat<a.length
 .exact hs _ (AD a (0,[]) h)
 rw[AS,SA O1];exact .nil
theorem gU {h:AG} {a:List AE} (hs:∀x∈a,MS x.2):KF h a a id :=
 ⟨rfl,λi c d=>⟨c,d⟩,λi _ _=>OX h _,λi _ _ x b=>Fj (Gm hs i) b⟩
theorem wV:∀ {l m:List (Int×Int)},MS l->MS m->(∀x,x∈l↔x∈m)->l=m
 | [],[],_,_,_=>rfl
 | [],b :: m,_,_,h=>by have:=(h b).2 sc;cases this
 | a :: l,[],_,_,h=>by have:=(h a).1 sc;cases this
 | a :: l,b :: m,h1,i,h=>by
  obtain⟨f,g⟩:=aS.1 h1;obtain⟨b1,b2⟩:=aS.1 i;have e:a=b:=by
   rcases Do.1 ((h a).1 sc) with e|e
   .exact e
   rcases Do.1 ((h b).2 sc) with d|d
   .exact d.symm
   have:=f b d;have:=b1 a e;omega
  subst e;refine ACb _ (wV g b2 λx=>⟨λc=>?_,λc=>?_⟩)
  .rcases Do.1 ((h x).1 (by simp[c])) with e|e
   .subst e;have:=f x c;omega
   exact e
  rcases Do.1 ((h x).2 (by simp[c])) with e|e
  .subst e;have:=b1 x c;omega
  exact e
theorem ABz {h:AG} (hu:HU h) {c V:List AE} (b:VF h c) (d:VF h V) {m p:Int->Int} (h1:KF h c V m) (n:KF h V c p):c=V:=by
 have key:∀ {c V:List AE},VF h c->VF h V->∀ {m p:Int->Int},KF h c V m->KF h V c p->c.length<=V.length->c=V:=by
  clear b d h1 n;intro c V b d m p h1 n L;have c1:=NY hu.ok b.good b.ty d.ty b.ty h1 n;have c2:=NY hu.ok d.good d.ty b.ty d.ty n h1;have u:∀i,0<=i->i<(c.length:Int)->p (m i)=i:=λi s t=>Yh b.ro c1 (gU b.str) i.toNat i (OR _) s t;have I:∀i,0<=i->i<(V.length:Int)->m (p i)=i:=λi s t=>Yh d.ro c2 (gU d.str) i.toNat i (OR _) s t;have D:∀ {A B:List AE} {f:Int->Int},AQ A->KF h A B f->∀i,0<=i->i<(A.length:Int)->∀x∈AP A i,(x.1,f x.2)∈AP B (f i):=λ{A B f} J hf i s t x o=>by
   have r:=Aw J o;have F:=hf.arc i s t x o;obtain⟨y,C,w,v⟩:=FA (l:=AP B (f i)) (e:=x.1) (by rw[F];exact(hf.rng _ r.1 r.2).1);rw[<-w,<-F,<-v];exact C
  have K:Iso c V m (λi=>0<=i/\i<(c.length:Int)):=by
   refine⟨λi hi=>?_,λi hi a ha=>Aw b.good ha,λi j hi E e=>?_⟩
   .have q:=h1.rng i hi.1 hi.2;refine wV (Gm d.str _) ?_ λx=>⟨λo=>?_,λo=>?_⟩
    .unfold MS;rw[oN];exact Gm b.str i
    .have g:=D d.good n (m i) q.1 q.2 x o;rw[u i hi.1 hi.2]at g;refine DO.2 ⟨_,g,?_⟩;have r:=Aw d.good o;show (x.1,m (p x.2))=x;rw[I x.2 r.1 r.2]
    obtain⟨y,C,rfl⟩:=DO.1 o;exact D b.good h1 i hi.1 hi.2 y C
   rw[<-u i hi.1 hi.2,<-u j E.1 E.2,e]
  have M:=b.pos;have:=Zl K b.good ⟨by omega,by omega⟩ h1.zero b.pos L λi hi=>by
   have q:=h1.rng i hi.1 hi.2;have w:=h1.ty i hi.1 hi.2;have v:=n.ty (m i) q.1 q.2;rw[u i hi.1 hi.2]at v;have G:=b.ty _ (AD c (0,[]) (k:=i.toNat) O1);have H:=d.ty _ (AD V (0,[]) (k:=(m i).toNat) O1);exact hu.inj _ _ H.1 H.2 G.1 G.2 v w
  rw[d.can,b.can]at this;exact this.symm
 rcases Nat.le_total c.length V.length with z|z
 .exact key b d h1 n z
 exact(key d b n h1 z).symm
structure Yi (h:AG) (a b U:List AE):Prop where
 vf:VF h U
 left:∃m,KF h a U m
 right:∃m,KF h b U m
 least:∀X,Cq h X->∀m1,KF h a X m1->∀m2,KF h b X m2->∃m,KF h U X m
 len:U.length<=a.length+b.length
theorem A7n {h:AG} (hu:HU h) {a b d V:List AE} (h1:Yi h a b d) (c:Yi h a b V):d=V:=by
 obtain⟨l,e⟩:=c.left;obtain⟨n,f⟩:=c.right;obtain⟨o,g⟩:=h1.left;obtain⟨p,i⟩:=h1.right;obtain⟨m,j⟩:=h1.least V c.vf.ty l e n f;obtain⟨q,k⟩:=c.least d h1.vf.ty o g p i;exact ABz hu h1.vf c.vf j k
open Classical in
noncomputable def DU (h:AG) (a b:List AE):List AE×Bool:=if H:∃U,Yi h a b U then (H.choose,true) else ([],false)
theorem NZ {h:AG} (hu:HU h) {a b U:List AE} (h1:Yi h a b U):DU h a b=(U,true):=by
 unfold DU;have H:∃U,Yi h a b U:=⟨U,h1⟩;rw[dif_pos H,A7n hu H.choose_spec h1]
theorem m6 {h:AG} {a b:List AE} (h1:∀X,Cq h X->∀d,KF h a X d->∀e,¬KF h b X e):DU h a b=([],false):=by
 unfold DU;rw[dif_neg];rintro⟨f,c⟩;obtain⟨d,g⟩:=c.left;obtain⟨e,i⟩:=c.right;exact h1 f c.vf.ty d g e i
theorem Na {h:AG} {a b:List AE} (h1:(DU h a b).2=true):Yi h a b (DU h a b).1:=by
 unfold DU at h1 ⊢;split at h1
 .rename_i H;rw[dif_pos H];exact H.choose_spec
 cases h1
theorem Yj {f:List AE} {e:Int} (h:e∈Cr f):∃x∈f,∃a∈x.2,a.1=e:=by
 unfold Cr at h;obtain⟨x,c,b⟩:=ADZ.1 h;obtain⟨a,ha,e⟩:=DO.1 b;exact⟨x,c,a,ha,e⟩
theorem A9O {h:AG} {N:List AE} {P:List (Int×Int)} {p ty:List Int} {ar:List (List (Int×Int))} (d:JI h N P p ty ar []) (g:AQ (quo p ty ar)) (m:0<N.length) (j:∀x∈N,∀a∈x.2,0<=a.1/\a.1<(h.2.length:Int)) {v:Int->Int} (c:A8s h N P (AK (quo p ty ar) (Ej p 0)) v):VF h (AK (quo p ty ar) (Ej p 0)):=by
 have f:0<=Ej p 0/\Ej p 0<((quo p ty ar).length:Int):=by
  obtain⟨n,fo⟩:=d.fo;have:=d.lp;have:=Gk fo (x:=0) O1 O1 (Py fo O1 O1);rw[EM];exact this
 refine⟨c.good,c.pos,c.ty,c.str,λx k a ha=>?_,m5 g f.1 f.2,c.ro⟩;obtain⟨y,l,b,i,e⟩:=Yj (c.feat x k a ha);rw[<-e];exact j y l b i
theorem A0t {h:AG} {f g:List AE} (hf:VF h f) (e:VF h g):∀x∈Ap f g,∀a∈x.2,0<=a.1/\a.1<(h.2.length:Int):=by
 intro x c;unfold Ap at c;rcases ON.1 c with c|c
 .exact hf.ft x c
 obtain⟨y,i,rfl⟩:=DO.1 c;intro a ha;obtain⟨b,d,rfl⟩:=DO.1 ha;exact e.ft y i b d
theorem WK {h:AG} {f g:List AE} (hf:VF h f) (i:VF h g) {p ty:List Int} {ar:List (List (Int×Int))} (b:JI h (Ap f g) [(0,(f.length:Int))] p ty ar []) (d:AQ (quo p ty ar)):Yi h f g (AK (quo p ty ar) (Ej p 0)):=by
 have v:=hf.pos;have u:=Cw f g;have c:0<(Ap f g).length:=by omega
 have h0:=Yc b d c;have l:=Yd b d c (cF (g:=g) cH) hf.ro h0;have n:=Yd b d c (Yf (f:=f)) i.ro (A4v b sc h0);have a:=A9N b d c λx t w=>by
  by_cases o:x<(f.length:Int)
  .have:=l x.toNat x (OR _) t o
   rwa [show ((0:Nat):Int)+x=x by omega]at this
  have:=n _ (x-(f.length:Int)) (OR _) O1 O1
  rwa [show (f.length:Int)+(x-(f.length:Int))=x by omega]at this
 refine⟨A9O b d c (A0t hf i) a,⟨_,mY a.proj (cF (g:=g) cH) a.zero⟩,⟨_,mY a.proj (Yf (f:=f)) (by rw[<-a.proj.eq (0,(f.length:Int)) sc];exact a.zero)⟩,λX k r h1 s j=>?_,by have:=a.len;omega⟩;refine a.least X _ k (sU (Ye hf.good i.good (Lr h1) (Lr j)) λq m=>?_) ?_
 .have e:q=(0,(f.length:Int)):=by simpa using m
  subst e;try simp only
  rw[BY O1,At O1,Int.sub_self,h1.zero,j.zero]
 show (if (0:Int)<(f.length:Int) then r 0 else s (0-(f.length:Int)))=0;rw[BY O1];exact h1.zero
theorem TN {h:AG} {f g:List AE} (hf:VF h f) (c:VF h g) (d:∀X v,Cq h X->¬Uz h (Ap f g) [(0,(f.length:Int))] X v):DU h f g=([],false):=by
 have j:=hf.pos;refine m6 λX b k h1 l a=>d X _ b (sU (Ye hf.good c.good (Lr h1) (Lr a)) λq i=>?_);have e:q=(0,(f.length:Int)):=by simpa using i
 subst e;try simp only
 rw[BY O1,At O1,Int.sub_self,h1.zero,a.zero]
theorem m7 (l:List (Int×Int)):AX 0 l=l:=by
 unfold AX;rw[SB (g:=id) (λa _=>by show (a.1,a.2+((0:Nat):Int))=a;rw[Int.natCast_zero,AD6]),ADS]
theorem A0u (a b:Nat):Ct 0 a++Ct a b=Ct 0 (a+b):=by
 unfold Ct;rw[List.range_add,SQ,ABS]
 congr 1
 refine SB λi _=>?_;show ((a+i:Nat):Int)=((0+(a+i):Nat):Int);rw[ABW]
theorem A0v {n k:Nat} (h:k<n):(Ct 0 n).getD k 0=(k:Int):=by
 unfold Ct;rw[AS,SR,ABr h];show ((0+k:Nat):Int)=k;rw[ABW]
theorem Nb {n:Nat} {x:Int} (a:0<=x) (b:x<(n:Int)):Dq (Ct 0 n) x=x:=by
 unfold Dq;rw[A0v O1];omega
def Nc (N:List AE):List Int:=N.map (·.1)
def U0 (N:List AE):List (List (Int×Int)):=N.map (·.2)
theorem P0 (N:List AE) (k:Nat):(Nc N).getD k 0=(N.getD k (0,[])).1:=by
 unfold Nc;rw[AS,SR,AS];cases N[k]?<;>rfl
theorem OZ (N:List AE) (k:Nat):(U0 N).getD k []=(N.getD k (0,[])).2:=by
 unfold U0;rw[AS,SR,AS];cases N[k]?<;>rfl
theorem sV (f g:List AE):DT f f.length++DT g g.length=Nc (Ap f g):=by
 unfold DT Nc Ap;rw[R6,R6,SQ,ABS];rfl
theorem A0w (f g:List AE):GG 0 f f.length++GG f.length g g.length=U0 (Ap f g):=by
 unfold GG U0 Ap;rw[R6,R6,SQ,ABS]
 congr 1
 exact SB λx _=>m7 x.2
theorem gV {n:Nat} {x r:Int} (a:0<=x) (b:x<(n:Int)) (h:Rt (Ct 0 n) x r):r=x:=h.det (.base (Nb a b))
theorem gW {h:AG} {N:List AE} (l:AQ N) (m:Cq h N) (hs:∀x∈N,MS x.2):JI h N [] (Ct 0 N.length) (Nc N) (U0 N) []:=by
 have f:(Ct 0 N.length).length=N.length:=Kj 0 N.length;refine⟨m,⟨λ_=>0,λn n0 n1=>?_,λn n0 n1 hn=>?_⟩,f,by simp[Nc],by simp[U0],λw g=>(by cases g),λx c d=>?_,λk a ha=>?_,λk=>?_,λq p=>(by cases p),λx r c d e=>?_,λx r c d e a ha=>?_,λX v s o=>?_⟩
 .rw[f]at n1 ⊢;rw[Nb n0 n1];exact⟨n0,n1⟩
 .rw[f]at n1;exact absurd (Nb n0 n1) hn
 .rw[P0];exact m _ (AD N (0,[]) O1)
 .rw[OZ]at ha;refine⟨Ki l k a ha,?_⟩;by_cases hk:k<N.length
  .exact ADZ.2 ⟨_,AD N (0,[]) hk,DO.2 ⟨a,ha,rfl⟩⟩
  rw[AS,SA O1]at ha;cases ha
 .rw[OZ];have:=Gm hs (k:Int)
  rwa [AP,R3]at this
 .rw[gV c d e,P0];exact OX h _
 .rw[gV c d e,OZ];have b:=Aw l ha;exact⟨a.2,ha,.cls b.1 b.2 b.1 b.2 (.base (Nb b.1 b.2)) (.base (Nb b.1 b.2))⟩
 refine⟨λx r c d e=>by rw[gV c d e],λw g=>(by cases g),λr i j _=>?_,λr i j _ a ha=>?_⟩
 .rw[P0];exact o.ty r i j
 rw[OZ]at ha;exact o.arc r i j a ha
theorem HK {f g:List AE} (hf:AQ f) (d:AQ g) (j:f.length+g.length<=100000):AQ (Ap f g):=by
 have i:=Cw f g;refine⟨by omega,λx c=>?_⟩;unfold Ap at c;rcases ON.1 c with c|c
 .refine⟨(hf.2 x c).1,λa ha=>?_⟩;have:=(hf.2 x c).2 a ha;omega
 obtain⟨y,e,rfl⟩:=DO.1 c;refine⟨by simp only[AX,Of];exact(d.2 y e).1,λa ha=>?_⟩;obtain⟨b,h,rfl⟩:=DO.1 ha;have:=(d.2 y e).2 b h;simp only;omega
theorem HL {f g:List AE} (hf:∀x∈f,MS x.2) (b:∀x∈g,MS x.2):∀x∈Ap f g,MS x.2:=by
 intro x a;unfold Ap at a;rcases ON.1 a with a|a
 .exact hf x a
 obtain⟨y,c,rfl⟩:=DO.1 a;unfold MS AX;rw[oN];exact b y c
theorem Nf {h:AG} {f g:List AE} (hf:Cq h f) (b:Cq h g):Cq h (Ap f g):=by
 intro x a;unfold Ap at a;rcases ON.1 a with a|a
 .exact hf x a
 obtain⟨y,c,rfl⟩:=DO.1 a;exact b y c
def m8 (N:List AE):Prop:=∀x∈N,∀a∈x.2,0<=a.1/\a.1<64
theorem Ng {f g:List AE} (hf:m8 f) (e:m8 g):m8 (Ap f g):=by
 intro x c;unfold Ap at c;rcases ON.1 c with c|c
 .exact hf x c
 obtain⟨y,h,rfl⟩:=DO.1 c;intro a ha;obtain⟨b,d,rfl⟩:=DO.1 ha;exact e y h b d
theorem P6 {l:List (Int×Int)} (h:MS l) (hf:∀a∈l,0<=a.1/\a.1<64):l.length<=64:=by
 have:=gS h (S:=(List.range 64).map λ(i:Nat)=>(i:Int)) (λa ha=>DO.2 ⟨a.1.toNat,SH.2 (by have:=hf a ha;omega),by have:=hf a ha;omega⟩)
 rwa [Of,ACF]at this
theorem sW {N:List AE} (h:∀x∈N,x.2.length<=64):(Cr N).length<=64*N.length:=by
 induction N with
 | nil=>simp[Cr]
 | cons x N b =>
  have h1:=h x sc;have c:=b λy a=>h y (by simp[a]);have e:Cr (x :: N)=x.2.map (·.1)++Cr N:=rfl;rw[e,F3,Of,Is];omega
theorem A0x {N:List AE} (h:m8 N) {e:Int} (b:e∈Cr N):0<=e/\e<64:=by
 obtain⟨x,c,a,ha,rfl⟩:=Yj b;exact h x c a ha
theorem Rh {h:AG} {N:List AE} {P:List (Int×Int)} {p ty:List Int} {ar:List (List (Int×Int))} (c:JI h N P p ty ar []) (k:N.length<=100000) (hf:m8 N):AQ (quo p ty ar):=by
 have g:=EM p ty ar;obtain⟨l,fo⟩:=c.fo;have lp:=c.lp;refine⟨by omega,λx j=>?_⟩;obtain⟨i,hi,rfl⟩:=CN (0,[]) j;have e:=Lp (p:=p) (ty:=ty) (ar:=ar) (n:=(i:Int)) O1 O1;rw[R3]at e;rw[e];refine⟨?_,λa ha=>?_⟩
 .simp only[Of];have:=P6 (c.srt i) (λa ha=>A0x hf (c.arr i a ha).2);omega
 obtain⟨b,f,rfl⟩:=DO.1 ha;have d:=(c.arr i b f).1;have:=Gk fo (x:=b.2) d.1 O1 (Py fo d.1 O1);rw[g];exact this
theorem VF.ft64 {h:AG} {f:List AE} (b:VF h f) (hu:HU h):m8 f:=λx c a ha=>by
 have h1:=b.ft x c a ha;have d:=hu.ft;omega
def ABA (d:List AJ) (o:List ByteArray) (i:Nat):Prop:=∀j,j<i->∀x∈d,Ac x.2.1 (o.getD j ByteArray.empty)=true->Ac o x.1=true
theorem A4w {c:ByteArray} {o:List ByteArray} {x:AJ} (h:Ac x.2.1 c=true):Ac (Fd c o x) x.1=true:=by grind [Fd,Pi,C0]
theorem cI {c:ByteArray} {x:AJ} (h:Ac x.2.1 c=true):∀ {l:List AJ} {o:List ByteArray},x∈l->Ac (l.foldl (Fd c) o) x.1=true
 | [],_,a=>by cases a
 | y :: l,o,a=>by
  rw[On];rcases Do.1 a with rfl|a
  .grind [KW,OO,A4w]
  exact cI h a
theorem Yk {d:List AJ}:∀ {n i:Nat} {o:List ByteArray},fL d o->d.length<=n+i->ABA d o i->i<=o.length->∃m,ABA d (Co d n i o) m/\(Co d n i o).length<=m
 | 0,i,o,ha,f,a,hi=>⟨i,a,by
  have:=ha.len;show o.length<=i;omega⟩
 | n+1,i,o,ha,f,a,hi=>by
  unfold Co;split
  .rename_i q;obtain⟨c,k⟩:=Xe (o.getD i ByteArray.empty) (l:=d) (o:=o) (λ_ h=>h) ha;refine Yk c O1 (λj p x b hs=>?_) O1;rw[Sx _ O1]at hs;by_cases e:j=i
   .subst e;exact cI hs b
   exact KW (λz g=>OO g) (a j O1 x b hs)
  exact⟨i,a,by omega⟩
theorem TP {α:Type} {p:α->Bool}:∀ {l:List α},l.countP p=1->∀x∈l,p x=true->∀y∈l,p y=true->x=y
 | [],h,x,a,_,_,_,_=>by cases a
 | z :: l,h,x,a,d,y,b,e=>by
  rw[ACM]at h;by_cases c:p z=true
  .rw[BY c]at h;grind
  rw[At c]at h;have a:x∈l:=by grind
  have b:y∈l:=by grind
  exact TP O1 x a d y b e
theorem Yl (s:ByteArray):∀(l:List AJ) (k:Nat),0<=Cz s k l->∃x∈l,Ab x.1 s=true
 | [],k,h=>by
  simp only[Cz]at h;omega
 | y :: l,k,h=>by
  simp only[Cz]at h;split at h
  .rename_i e;exact⟨y,by simp,e⟩
  obtain⟨x,a,e⟩:=Yl s l (k+1) h;exact⟨x,by simp[a],e⟩
theorem sX {d:List AJ} (t:BC d=0):∃r∈d,∀x∈d,Ac (Cp d r.1) x.1=true:=by
 obtain⟨hs,I,h1,hn,l⟩:=A5 t;have C:0<d.countP λx=>x.2.1.length==0:=by grind [Ig]
 obtain⟨r,c,q⟩:=List.countP_pos_iff.1 C;refine⟨r,c,?_⟩;have D:=Dh c;have u:fL d [r.1]:=⟨λs hs=>by
  have:s=r.1:=by simpa using hs
  rw[this];exact D,by simp⟩
 obtain⟨m,B,J⟩:=Yk (d:=d) (n:=d.length) (i:=0) u O1 (λj A=>by omega) O1;have p:r.1∈Co d d.length 0 [r.1]:=Lc sc;have v:Cp d r.1=KV (Co d d.length 0 [r.1]):=by unfold Cp;rw[At O1]
 rw[v];generalize Co d d.length 0 [r.1]=o at *;have key:∀(k:Nat) (x:AJ),x∈d->Gv d x.1<=k->Ac o x.1=true:=by
  intro k;induction k with
  | zero =>
   intro x a hk;by_cases g:x.2.1.length=0
   .have e:=TP h1 x a (by simpa using g) r c q;rw[e];exact GC p
   obtain⟨s,b⟩:∃s,s∈x.2.1:=ADt O1;have:=Lb hn l a (GC b);omega
  | succ k H =>
   intro x a hk;by_cases g:x.2.1.length=0
   .have e:=TP h1 x a (by simpa using g) r c q;rw[e];exact GC p
   obtain⟨s,b⟩:∃s,s∈x.2.1:=ADt O1;have E:=Lb hn l a (GC b);obtain⟨y,G,e⟩:=Yl s d 0 (hs x a s b);rw[<-Il d e]at E;obtain⟨z,h,f⟩:=R9.1 (H y G O1);obtain⟨j,A,rfl⟩:=CN ByteArray.empty h;refine B j O1 x a ?_;exact R9.2 ⟨s,b,EH (Be f e)⟩
 intro x a;obtain⟨z,h,e⟩:=R9.1 (key _ x a (OR _));obtain⟨w,F,f⟩:=R9.1 (RF (o:=[]) h);exact R9.2 ⟨w,F,Be f e⟩
abbrev cnt (c:List Int):Nat:=(Ic c).length
theorem A4x {w:Int} (a:U64 w) {r:Nat} (d:r<64):A3f w (r:Int)=w.toNat.testBit r:=by
 have h0:=a.1;have h1:=a.2;have b:w.toNat / 2 ^ r<=w.toNat:=Nat.div_le_self _ _;have e:iX .u64 w (r:Int)=((w.toNat / 2 ^ r:Nat):Int):=by
  unfold iX;have c:min ((r:Int)).toNat IntKind.u64.bits=r:=by
   show min ((r:Int)).toNat 64=r;omega
  grind
 unfold A3f;rw[Nat.testBit_eq_decide_div_mod_eq,e];generalize w.toNat / 2 ^ r=z at *;rw[Ij ⟨by omega,by omega⟩ ⟨by decide,by decide⟩,R3,show (1:Int).toNat=1 from rfl,Nat.and_one_is_mod,ACB,Tx,NO];omega
theorem WL {b:List Int} (d:Ik b) (i:Nat):VU b (i:Int)=BJ b i:=by
 have a:Int.tdiv (i:Int) 64=((i / 64:Nat):Int):=by rw[ACv O1];omega
 have c:Int.tmod (i:Int) 64=((i % 64:Nat):Int):=by rw[ACK O1];omega
 unfold VU BJ;rw[a,c,R3];by_cases hk:i / 64<b.length
 .rw[At (by rw[Ts,NO,NO];omega),A4x (BO d _) O1]
 rw[BY (by rw[Ts,NO,NO];omega),Hh hk];simp
theorem m9 (c:List Int):(Ic c).Nodup:=by
 unfold Ic O4 List.Nodup;rw[oN];refine List.Pairwise.imp (λh e=>h ?_) (List.Pairwise.filter _ List.nodup_range);exact ADy e
theorem cJ {c:List Int} (b:Ik c) {x:Int}:x∈Ic c↔∃i:Nat,x=(i:Int)/\BJ c i=true:=by
 unfold Ic O4;rw[DO];constructor
 .grind [WL]
 rintro⟨i,rfl,a⟩;refine⟨i,Tz.2 ⟨SH.2 ?_,by rw[WL b];exact a⟩,rfl⟩;refine IF λd=>?_;unfold BJ at a;rw[Hh O1]at a;simp at a
theorem A9P {a b:List Int} (ha:Ik a) (d:Ik b) (h:∀i,BJ a i=true->BJ b i=true) (e:cnt b<=cnt a) (i:Nat) (hi:BJ b i=true):BJ a i=true:=by
 refine IF λhn=>?_;have c:(i:Int)∉Ic a:=λf=>by grind [cJ]
 have:=TJ (l:=(i:Int) :: Ic a) (l':=Ic b) (gO.2 ⟨c,m9 a⟩) λx c=>by grind [cJ]
 grind
theorem Ym (x:AR) (out:List AR):∀n,(GD x out n=0->n=0\/GY x (out.getD 0 c0)=true)/\∀k,GD x out n=k+1->GY x (out.getD k c0)=false
 | 0=>⟨λ_=>.inl rfl,λk h=>by simp[GD]at h⟩
 | n+1=>by
  obtain⟨h1,a⟩:=Ym x out n;grind [GD]
theorem nA {a b:AR} (h:GY a b=true):cnt b.2<=cnt a.2:=by
 unfold GY at h;grind
theorem gX {a b:AR} (h:GY a b=false):cnt a.2<=cnt b.2:=by
 unfold GY at h;grind
def HM (out:List AR):Prop:=∀y∈out,cnt y.2<=cnt (out.getD 0 c0).2
theorem A7o {out:List AR} (h:HM out) (x:AR):HM (fU out x):=by
 obtain⟨s1,s2⟩:=Ym x out out.length;have c:=k8 x out out.length;intro y a;rw[lC]at a;unfold fU;cases hk:GD x out out.length with
 | zero =>
  rw[AAB,f4,ACp];have e:([x]++out).getD 0 c0=x:=rfl;rw[e];rcases a with rfl|a
  .exact OR _
  have h1:=h y a;rcases s1 hk with e|e
  .grind
  exact R5 h1 (nA e)
 | succ k =>
  have b:=gX (s2 k hk);rw[hk]at c;have e:(out.take (k+1)++[x]++out.drop (k+1)).getD 0 c0=out.getD 0 c0:=by grind
  rw[e];rcases a with rfl|a
  .exact R5 b (h _ (BI O1))
  exact h y a
theorem nB {d:List AJ}:∀ {l:List (List Int)} {o:List AR},HM o->HM (l.foldl (S2 d) o)
 | [],_,h=>h
 | b :: l,o,h=>by
  rw[On];exact nB (A7o h _)
def In (n:Nat) (c:List Int):Prop:=Ik c/\∀i,BJ c i=true->i<n
theorem A9Q (n:Nat):In n []:=⟨λx a=>(by cases a),λi hi=>by unfold BJ at hi;simp at hi⟩
theorem A9R {n:Nat} {a b:List Int} (ha:In n a) (c:In n b):In n (EW a b) :=
 ⟨OT ha.1 c.1,λi hi=>by
  rw[Lk ha.1 c.1,As]at hi;exact ha.2 i hi.1⟩
theorem A7p {n:Nat} {l:List (List Int)} (h:∀c∈l,In n c) (k:Nat):In n (l.getD k []):=by grind [BI,TA,A9Q]
theorem A7q {n:Nat} {l:List (List Int)} (h:∀c∈l,In n c) (i k:Nat):∀c∈HE l i k,In n c:=by grind [HE,EW,A9R,A7p]
theorem wW {q i:Nat}:∀ {n k:Nat} {l:List (List Int)},(∀c∈l,In q c)->∀c∈HF i n k l,In q c
 | 0,_,_,h=>h
 | n+1,k,l,h=>by
  unfold HF;split
  .exact wW (A7q h i k)
  exact h
theorem gY {q:Nat}:∀ {n i:Nat} {l:List (List Int)},(∀c∈l,In q c)->∀c∈Ii n i l,In q c
 | 0,_,_,h=>h
 | n+1,i,l,h=>by
  unfold Ii;split
  .exact gY (wW h)
  exact h
def TQ (h:AG):Prop:=∀t,0<=t->t<(h.1.length:Int)->Aj h 0 t=true
theorem Nh (d:List AJ):TQ (A0 d).1:=by
 have hk:=Jh d;unfold A0 at hk ⊢;split
 .intro t h0 h1;simp at h1;omega
 rename_i g;rw[At g]at hk;have g:(BG d).2=0:=IF g;have A:A4 d=0:=by grind [BG]
 obtain⟨M,-,-⟩:=CL A;obtain⟨j,Q,-⟩:=Bg M;obtain⟨-,z,-,hn,P⟩:=A5 j;have G:=EF d d.length;rw[R6]at G;have k:(AO d).length<=4096:=by omega
 obtain⟨r,I,O⟩:=sX j;have a:∀c∈A1 (AW d),In (AO d).length c:=gY λc f=>by
  obtain⟨s,hs,rfl⟩:=DO.1 f;exact⟨(CF (d:=d) k s 0).2.1,λi hi=>((CF (d:=d) k s i).1.1 hi).1⟩
 obtain⟨s,hs,N⟩:=R9.1 (Po I);have J:s=r.1:=by grind [Di,RD]
 subst J;have n:E5 d (AO d) r.1∈A1 (AW d):=by
  have H:AW d <+: A1 (AW d):=RP 257 0 (AW d);exact H.subset (DO.2 ⟨_,hs,rfl⟩)
 have l:∀i,i<(AO d).length->BJ (E5 d (AO d) r.1) i=true:=λi hi=>by grind [CF,Di,BI]
 have B:HM (AM d):=nB λy L=>by cases L
 have q:=Dj.2 ⟨_,n,rfl⟩;have u:0<(AM d).length:=ADm q;have p:=B _ q;obtain⟨b,m,h⟩:=Dj.1 (BI (d:=c0) u);rw[h]at p;have E:=A9P (a b m).1 (a _ n).1 (λi hi=>l i ((a b m).2 i hi)) p;have D:BN (Bz d) 0=b:=by
  show ((Er (AM d) _ _).getD 0 Pw).2.1=b;have:(Er (AM d) (BG d).1 (AM d).length).getD 0 Pw=(((AM d).getD 0 c0).1,((AM d).getD 0 c0).2,aZ (AM d) ((0:Nat):Int),(BG d).1.getD 0 []):=by
   unfold Er;rw[AS,SR,ABr u];rfl
  rw[this,h]
 have R:(Bz d).1.length=(AM d).length:=Ka _ _ _;intro t v w;refine(BV hk O1 (by show (0:Int)<((Bz d).1.length:Int);omega) v w).2 λi hi=>?_;show BJ (BN (Bz d) 0) i=true;rw[D];refine E i (l i ?_);have C:=Bj v w;have F:BN (Bz d) t∈A1 (AW d):=by
  have e:((Bz d).1.map λt=>t.2.1)=(AM d).map λx=>x.2:=by
   show ((Er _ _ _).map λt=>t.2.1)=_;unfold Er;rw[ABS];apply iF
   .simp
   intro i h1 z;simp[AS,show i<(AM d).length by simpa using h1]
  have o:BN (Bz d) t∈(Bz d).1.map λt=>t.2.1:=C;rw[e]at o;obtain⟨x,K,ex⟩:=DO.1 o;obtain⟨c,f,rfl⟩:=Dj.1 K;rw[<-ex];exact f
 exact(a _ F).2 i hi
theorem Yn (d:List AJ):Nd ((A0 d).1.1.map λt=>t.2.1):=by
 unfold A0;split
 .exact⟨.nil,λc h=>(by cases h)⟩
 rename_i a;have a:(BG d).2=0:=IF a;have g:A4 d=0:=by
  unfold BG at a;split at a
  .rename_i h;exact absurd a h
  rename_i h;exact IF h
 obtain⟨m,-,-⟩:=CL g;obtain⟨f,o,-⟩:=Bg m;have hf:Nd (A1 (AW d)):=WC (TB f);have e:((Bz d).1.map λt=>t.2.1)=(AM d).map λx=>x.2:=by
  show ((Er _ _ _).map λt=>t.2.1)=_;unfold Er;rw[ABS];apply iF
  .simp
  intro i h1 n;simp[AS,show i<(AM d).length by simpa using h1]
 show Nd ((Bz d).1.map λt=>t.2.1);rw[e];refine⟨NM (by simpa using hf.nd),λc k=>?_⟩;obtain⟨x,l,rfl⟩:=DO.1 k;obtain⟨b,j,rfl⟩:=Dj.1 l;exact hf.nrm b j
def BA (n:Nat):List Int:=(List.range n).map λ(i:Nat)=>(i:Int)
theorem DE (n:Nat):(BA n).length=n:=by simp[BA]
theorem VA (n:Nat):BA (n+1)=BA n++[(n:Int)]:=by simp[BA,To]
theorem F1 {n k:Nat} (h:k<n):(BA n).getD k 0=(k:Int):=by
 unfold BA;rw[AS,SR,ABr h];rfl
def sY:AZ:={ ins:=[T3],pre:=λ(n,_)=>(0:Int)<=n/\n<=(100000:Int),out:=λ(n,_)=>[.own 3 T3 (BA (Int.toNat n))] }
theorem A4y:Aa Tryz.prog 184 sY:=by
 refine fK [0,2,3,4,7] Tryz.func184 Tryz.ntmps184 AH ?_;rintro w0 O0 ⟨n,u⟩ a-⟨h0,h1⟩;simp only[sY,AL];repeat'(first|exact trivial|apply eS rfl|refine rX a ?_ ?_)
 refine AI (ι:={i:Nat//i<=n.toNat}) (λi=>⟨[(0,.p T3 n),(3,.sr 13 T3 0 i.1),(4,.p (.int .i64) (i.1:Int))],[(13,.arr 3 T3 (BA i.1))]⟩) (λi=>n.toNat-i.1) ⟨0,by omega⟩ (AC [(13,.nil)] rfl rfl ?_ ?_) (λi=>?_)
 .refine eM ?_;rfl
 .exact eN
 obtain⟨i,hi⟩:=i;repeat'(first|exact trivial|apply eS rfl|apply AB|refine rX a ?_ ?_|refine rC ?_ ?_<;>intro b<;>try(cases b;done))
 .simp only[AN];exact eV
 .exact eV
 .have c:(BA i).take i=BA i:=An (by rw[DE];exact OR i);refine⟨⟨i+1,by exact eV⟩,by simp only;exact eV,AC [(13,.nm 13)] rfl rfl ?_ ?_⟩
  .simp only;rw[c,VA];exact eN
  exact eN
 have hn:i=n.toNat:=by exact eV
 subst hn;exact LL a (.inl rfl) (rv:=.tmp 2) rfl (by simp only[KM,JJ,Hz,go_sem,Nat.reduceEqDiff,reduceCtorEq,Nat.reduceAdd,Nat.reduceSub,Nat.reduceMul,Nat.reduceLeDiff,Nat.reduceLT,Int.reduceLE,Int.reduceToNat,Int.reduceNeg,↓reduceIte];exact(DE _).symm)
def Ea (c:List Int) (m n:Int):Int:=if c.getD n.toNat 0<c.getD m.toNat 0 then c.getD n.toNat 0 else c.getD m.toNat 0
def Ce (c:List Int) (m n:Int):Int:=if c.getD m.toNat 0<c.getD n.toNat 0 then c.getD n.toNat 0 else c.getD m.toNat 0
def IG (hi lo x:Int):Int:=if x=hi then lo else x
def CS (c:List Int) (m n:Int):List Int:=c.map (IG (Ce c m n) (Ea c m n))
def sZ:AZ:={ ins:=[Ee,T3,T3],pre:=λ(c,m,n,_)=>List.length c<=100000/\((0:Int)<=m/\m<(List.length c:Int))/\((0:Int)<=n/\n<(List.length c:Int)),out:=λ(c,m,n,_)=>[.p Ee (CS c m n)] }
theorem A4z:Aa Tryz.prog 183 sZ:=by
 refine fK [0,1,2,6,7,8,9,10,35,43] Tryz.func183 Tryz.ntmps183 AH ?_;rintro w0 O0 ⟨c,m,n,u⟩ d-⟨w,j,hn⟩;simp only[sZ,AL];repeat'(first|exact trivial|apply eS rfl|refine rX d ?_ ?_)
 .exact⟨j,hn⟩
 .exact⟨j,hn⟩
 .simp only[AN];exact eV
 have s:(if List.getD c (Int.toNat n) 0<List.getD c (Int.toNat m) 0 then List.getD c (Int.toNat n) 0 else List.getD c (Int.toNat m) 0)=Ea c m n:=rfl;have q:(if List.getD c (Int.toNat m) 0<List.getD c (Int.toNat n) 0 then List.getD c (Int.toNat n) 0 else List.getD c (Int.toNat m) 0)=Ce c m n:=rfl;rw[s,q];have k:CS c m n=c.map (IG (Ce c m n) (Ea c m n)):=rfl;generalize Ea c m n=lo at *;generalize Ce c m n=hi at *;refine AI (ι:={i:Nat//i<=c.length}) (λi=>⟨[(7,.p T3 lo),(8,.p T3 hi),(9,.sr 29 T3 0 c.length),(10,.p (.int .i64) (i.1:Int))],[(29,.arr 3 T3 ((c.take i.1).map (IG hi lo)++c.drop i.1))]⟩) (λi=>c.length-i.1) ⟨0,by omega⟩ (eW [(29,.nm 29)]) (λi=>?_)
 obtain⟨i,g⟩:=i;have f:i<c.length->((c.take i).map (IG hi lo)++c.drop i).getD i 0=c.getD i 0:=λh=>by
  rw[AS,SL (by simp;omega)];simp only[Of,OF,ACd g,AAu,oS,AE1];rw[AS]
 have v:∀x,i<c.length->((c.take i).map (IG hi lo)++c.drop i).set i x=(c.take i).map (IG hi lo)++[x]++c.drop (i+1):=λx h=>by
  rw[ABY _ _ (by simp;omega)];simp only[Of,OF,ACd g,AAu];rw[IS h,ACo,SC];rfl
 have l:∀x,i<c.length->x=IG hi lo (c.getD i 0)->(c.take i).map (IG hi lo)++[x]++c.drop (i+1)=(c.take (i+1)).map (IG hi lo)++c.drop (i+1):=λx h e=>by
  rw[AY c 0 h,SQ,e];rfl
 have r:i<c.length->(c.take i).map (IG hi lo)++c.drop i=(c.take i).map (IG hi lo)++[c.getD i 0]++c.drop (i+1):=λh=>by
  rw[IS h,SC,AS,AT h];rfl
 repeat'(first|exact trivial|apply eS rfl|apply AB|refine rX d ?_ ?_|refine rC ?_ ?_<;>intro b<;>try(cases b;done))
 .exact b
 .exact eV
 .exact eV
 .have a:i<c.length:=by exact eV
  rw[f a]at b;refine⟨⟨i+1,by omega⟩,by simp only;omega,AC [(29,.nm 29)] rfl rfl ?_ ?_⟩
  .simp only;rw[<-l lo a (by unfold IG;rw[BY b]),<-v lo a];exact eN
  exact eN
 .exact eV
 .have a:i<c.length:=by exact eV
  rw[f a]at b;refine⟨⟨i+1,by omega⟩,by simp only;omega,AC [(29,.nm 29)] rfl rfl ?_ ?_⟩
  .simp only;rw[<-l (c.getD i 0) a (by unfold IG;rw[At b]),<-r a];exact eN
  exact eN
 have a:c.length<=i:=by exact eV
 have o:(c.take i).map (IG hi lo)++c.drop i=CS c m n:=by
  rw[An a,By a,SJ,k]
 rw[o];have t:(CS c m n).take c.length=CS c m n:=An (by rw[k,Of];exact OR _);exact fI d [.tmp 6] (by first|exact eR|refine Uf ?_;exact t)
def D6 (l:List (Int×Int)) (e:Int):Int×Bool:=match l with
 | []=>(0,false)
 | a :: r=>if a.1=e then (a.2,true) else D6 r e
def s4:AZ:={ ins:=[Cl,T3],pre:=λ_=>True,out:=λ(l,e,_)=>[.p T3 (D6 l e).1,.p .bool (D6 l e).2],lend:=true }
theorem A4A:Aa Tryz.prog 213 s4:=by
 refine fK [0,1,4,5,6,10,19] Tryz.func213 Tryz.ntmps213 AH ?_;rintro w0 O0 ⟨l,n,u⟩ d ⟨⟨f,-⟩,-⟩ -;simp only[AN]at f;simp only[s4,AL];repeat'(first|exact trivial|apply eS rfl|refine rX d ?_ ?_)
 refine AI (ι:={k:Nat//k<=l.length/\D6 (l.drop k) n=D6 l n}) (λk=>⟨[(0,.p Cl l),(1,.p T3 n),(6,.p (.int .i64) (k.1:Int))],[]⟩) (λk=>l.length-k.1) ⟨0,by simp⟩ (eW []) (λk=>?_)
 obtain⟨k,hk,a⟩:=k;repeat'(first|exact trivial|apply eS rfl|apply AB|refine rX d ?_ ?_|refine rC ?_ ?_<;>intro c<;>try(cases c;done))
 .exact c
 .exact eV
 .have b:k<l.length:=by exact eV
  have e:l.drop k=l.getD k (0,0) :: l.drop (k+1):=by
   rw[IS b,AS,AT b];rfl
  rw[e]at a;have a:(if (l.getD k (0,0)).1=n then ((l.getD k (0,0)).2,true) else D6 (l.drop (k+1)) n)=D6 l n:=a;rw[BY c]at a;exact fI d [.tmp 4,.tmp 5] (by rw[<-a];exact eR)
 .exact eV
 .have b:k<l.length:=by exact eV
  have e:l.drop k=l.getD k (0,0) :: l.drop (k+1):=by
   rw[IS b,AS,AT b];rfl
  rw[e]at a;have a:(if (l.getD k (0,0)).1=n then ((l.getD k (0,0)).2,true) else D6 (l.drop (k+1)) n)=D6 l n:=a;rw[At c]at a;exact⟨⟨k+1,by omega,a⟩,by simp only;omega,eW []⟩
 have hk:l.drop k=[]:=By (by exact eV);rw[hk]at a;have a:(0,false)=D6 l n:=a;exact fI d [.tmp 4,.tmp 5] (by rw[<-a];exact eR)
def Ek (l h:List (Int×Int)):List (Int×Int):=h.filterMap λx=>if (D6 l x.1).2=true then some ((D6 l x.1).1,x.2) else none
def GH (l h:List (Int×Int)):List (Int×Int):=l++h.filter λx=>!(D6 l x.1).2
theorem Yo (l h:List (Int×Int)):(GH l h).length+(Ek l h).length=l.length+h.length:=by
 unfold GH Ek;induction h with
 | nil=>simp
 | cons x h a =>
  simp only[F3,Tu,List.filterMap_cons,Is]at a ⊢;cases b:(D6 l x.1).2
  .simp only[ADN,AAt,AAz,ACm,Is];omega
  simp only[ADU,AAz,ACm,AAt,Is];omega
theorem gZ {l h:List (Int×Int)} {x:Int×Int} (a:(D6 l x.1).2=true):Ek l (h++[x])=Ek l h++[((D6 l x.1).1,x.2)]/\GH l (h++[x])=GH l h:=by
 unfold Ek GH;simp[List.filterMap_append,a]
theorem g9 {l h:List (Int×Int)} {x:Int×Int} (a:(D6 l x.1).2=false):Ek l (h++[x])=Ek l h/\GH l (h++[x])=GH l h++[x]:=by
 unfold Ek GH;simp[List.filterMap_append,a]
theorem WM {l:List (Int×Int)} {e:Int} (h:(D6 l e).2=true):(e,(D6 l e).1)∈l:=by
 induction l with
 | nil=>cases h
 | cons a r b =>
  unfold D6 at h ⊢;by_cases ha:a.1=e
  .rw[BY ha];subst ha;exact AAw
  rw[At ha]at h ⊢;exact IN _ (b h)
theorem nC {l:List (Int×Int)} {e:Int} (a:Int×Int) (ha:a∈l) (d:a.1=e):(D6 l e).2=true:=by
 induction l with
 | nil=>cases ha
 | cons b r f =>
  unfold D6;by_cases c:b.1=e
  .rw[BY c]
  rw[At c];rcases Do.1 ha with rfl|ha
  .exact absurd d c
  exact f ha
def Ri:Nat->(Nat->Nat)->Nat
 | 0,_=>0
 | n+1,f=>Ri n f+f n
theorem s5 {n:Nat} {f g:Nat->Nat} (h:∀k,k<n->g k=f k):Ri n g=Ri n f:=by
 induction n with
 | zero=>rfl
 | succ n a=>simp only[Ri];rw[a λk hk=>h k O1,h n O1]
theorem nD {n:Nat} {f g:Nat->Nat} {a:Nat} (ha:a<n) (h:∀k,k<n->k≠a->g k=f k):Ri n g+f a=Ri n f+g a:=by
 induction n with
 | zero=>omega
 | succ n b =>
  simp only[Ri];by_cases e:a=n
  .subst e;rw[s5 (n:=a) (f:=f) λk hk=>h k O1 O1];omega
  have:=b O1 λk hk=>h k O1;have:=h n O1 (λh=>e h.symm);omega
theorem nE {n:Nat} {f g:Nat->Nat} {a b:Nat} (ha:a<n) (i:b<n) (d:a≠b) (h:∀k,k<n->k≠a->k≠b->g k=f k):Ri n g+f a+f b=Ri n f+g a+g b:=by
 have h1:=nD (f:=f) (g:=λk=>if k=a then g a else f k) ha (λk hk j=>by simp only[At j]);have c:=nD (f:=λk=>if k=a then g a else f k) (g:=g) i (λk hk l=>by
  by_cases e:k=a
  .subst e;simp
  simp only[At e];exact h k hk e l)
 simp only[AAt,At (λe:b=a=>d e.symm)]at h1 c;omega
theorem A4B {n:Nat} {f:Nat->Nat} {a b:Nat} (ha:a<n) (e:b<n) (d:a≠b):f a+f b<=Ri n f:=by
 have:=nE (f:=f) (g:=λk=>if k=a\/k=b then 0 else f k) ha e d (λk _ h1 c=>by simp[h1,c]);simp at this;omega
theorem s6 {n B:Nat} {f:Nat->Nat} (h:∀k,k<n->f k<=B):Ri n f<=n*B:=by
 induction n with
 | zero=>simp[Ri]
 | succ n a =>
  simp only[Ri];have:=a λk hk=>h k O1;have:=h n O1;rw[ACh];omega
def QA (o:List Int) (ar:List (List (Int×Int))):Nat:=Ri o.length λk=>if o.getD k 0=(k:Int) then (ar.getD k []).length else 0
structure CI (n:Nat) (o:List Int) (ar:List (List (Int×Int))) (W:List (Int×Int)):Prop where
 lo:o.length=n
 la:ar.length=n
 rep:∀k:Nat,k<n->0<=o.getD k 0/\o.getD k 0<=(k:Int)/\o.getD (o.getD k 0).toNat 0=o.getD k 0
 wr:∀w∈W,(0<=w.1/\w.1<(n:Int))/\(0<=w.2/\w.2<(n:Int))
 ta:∀k,∀a∈ar.getD k [],0<=a.2/\a.2<(n:Int)
theorem CI.rng {n:Nat} {o:List Int} {ar:List (List (Int×Int))} {W:List (Int×Int)} (h:CI n o ar W) {x:Int} (c:0<=x) (d:x<(n:Int)):0<=o.getD x.toNat 0/\o.getD x.toNat 0<(n:Int)/\o.getD (o.getD x.toNat 0).toNat 0=o.getD x.toNat 0:=by
 obtain⟨h1,b,a⟩:=h.rep x.toNat O1;exact⟨h1,by omega,a⟩
theorem Oa {c:List Int} {m n:Int} {k:Nat} (hk:k<c.length):(CS c m n).getD k 0=IG (Ce c m n) (Ea c m n) (c.getD k 0):=by
 unfold CS;rw[AS,SR,AT hk,AS,AT hk];rfl
theorem Kk (c:List Int) (m n:Int):(CS c m n).length=c.length:=by simp[CS]
structure LH (o:List Int) (n:Nat) (lo hi:Int):Prop where
 l0:0<=lo
 lt:lo<hi
 h1:hi<(n:Int)
 rl:o.getD lo.toNat 0=lo
 rh:o.getD hi.toNat 0=hi
section
variable {n:Nat} {o:List Int} {ar:List (List (Int×Int))} {W:List (Int×Int)} {x y:Int}
theorem A4C (h:CI n o ar W) (i:0<=x) (j:x<(n:Int)) (k:0<=y) (l:y<(n:Int)) (a:Ea o x y≠Ce o x y):LH o n (Ea o x y) (Ce o x y):=by
 obtain⟨f,g,d⟩:=h.rng i j;obtain⟨b1,b2,e⟩:=h.rng k l;unfold Ea Ce at a ⊢;by_cases b:o.getD y.toNat 0<o.getD x.toNat 0
 .rw[BY b,At O1];exact⟨b1,b,g,e,d⟩
 rw[At b]at a ⊢;by_cases c:o.getD x.toNat 0<o.getD y.toNat 0
 .rw[BY c];exact⟨f,c,b2,d,e⟩
 rw[At c]at a;exact absurd rfl a
theorem wX {w:Int×Int} (h:CI n o ar (w :: W)):CI n o ar W:=⟨h.lo,h.la,h.rep,λu hu=>h.wr u (IN _ hu),h.ta⟩
theorem I8 (l:List (List (Int×Int))) (v:List (Int×Int)) (i j:Nat) (hi:i<l.length):(l.set i v).getD j []=if j=i then v else l.getD j []:=by
 simp only[AS,oR];by_cases e:i=j
 .subst e;simp[hi]
 rw[At e,At (λh=>e h.symm)]
theorem Hv {hi lo v:Int} (h:v≠hi):IG hi lo v=v:=At h
theorem I9 {hi lo:Int}:IG hi lo hi=lo:=BY rfl
theorem nF (h:CI n o ar W) (f:LH o n (Ea o x y) (Ce o x y)) :
  CI n (CS o x y) (ar.set (Ea o x y).toNat (GH (ar.getD (Ea o x y).toNat []) (ar.getD (Ce o x y).toNat []))) (W++Ek (ar.getD (Ea o x y).toNat []) (ar.getD (Ce o x y).toNat [])):=by
 have d:=λ(k:Nat) (hk:k<n)=>Oa (m:=x) (n:=y) (show k<o.length by rw[h.lo];exact hk);have j:=Kk o x y;generalize Ea o x y=lo at *;generalize Ce o x y=hi at *;obtain⟨l0,lt,h1,rl,rh⟩:=f;have i:=h.lo;have g:=h.la;refine⟨by rw[j];exact i,by rw[Tq];exact g,λk hk=>?_,λw b=>?_,λk a ha=>?_⟩
 .obtain⟨p,q,r⟩:=h.rep k hk;rw[d k hk];by_cases e:o.getD k 0=hi
  .rw[e,I9,d _ O1,rl,Hv O1];exact⟨l0,by omega,rfl⟩
  rw[Hv e,d _ O1,r,Hv e];exact⟨p,q,rfl⟩
 .rcases ON.1 b with b|b
  .exact h.wr w b
  obtain⟨a,ha,c⟩:=ACO.1 b;split at c
  .rename_i l;cases c;exact⟨h.ta _ _ (WM l),h.ta _ a ha⟩
  cases c
 rw[I8 _ _ _ _ O1]at ha;split at ha
 .rcases ON.1 ha with ha|ha
  .exact h.ta _ a ha
  exact h.ta _ a (Tz.1 ha).1
 exact h.ta _ a ha
theorem Yp (h:CI n o ar W) (p:LH o n (Ea o x y) (Ce o x y)) :
  QA (CS o x y) (ar.set (Ea o x y).toNat (GH (ar.getD (Ea o x y).toNat []) (ar.getD (Ce o x y).toNat [])))+(Ek (ar.getD (Ea o x y).toNat []) (ar.getD (Ce o x y).toNat [])).length=QA o ar:=by
 have c:=λ(k:Nat) (hk:k<n)=>Oa (m:=x) (n:=y) (show k<o.length by rw[h.lo];exact hk);have r:=Kk o x y;generalize Ea o x y=lo at *;generalize Ce o x y=hi at *;obtain⟨l0,lt,h1,rl,rh⟩:=p;have q:=h.lo;have u:=h.la;have t:=Yo (ar.getD lo.toNat []) (ar.getD hi.toNat []);have hs:=nE (n:=n) (f:=λk=>if o.getD k 0=(k:Int) then (ar.getD k []).length else 0)
  (g:=λk=>if (CS o x y).getD k 0=(k:Int) then ((ar.set lo.toNat (GH (ar.getD lo.toNat []) (ar.getD hi.toNat []))).getD k []).length else 0)
  (a:=lo.toNat) (b:=hi.toNat) O1 O1 O1 (λk hk s v=>by
   rw[c k hk,I8 _ _ _ _ O1,At s];by_cases e:o.getD k 0=hi
   .rw[e,I9,At O1,At O1]
   rw[Hv e])
 have d:(o.getD lo.toNat 0=((lo.toNat:Nat):Int)):=by rw[rl];omega
 have i:(o.getD hi.toNat 0=((hi.toNat:Nat):Int)):=by rw[rh];omega
 have j:((CS o x y).getD lo.toNat 0=((lo.toNat:Nat):Int)):=by rw[c _ O1,rl,Hv O1];omega
 have l:¬((CS o x y).getD hi.toNat 0=((hi.toNat:Nat):Int)):=by rw[c _ O1,rh,I9];omega
 simp only[BY d,BY i,BY j,At l]at hs;rw[I8 _ _ _ _ O1,BY rfl]at hs;unfold QA;rw[r,q];omega
theorem A4D (h:CI n o ar W) {lo hi:Int} (e:LH o n lo hi):(ar.getD lo.toNat []).length+(ar.getD hi.toNat []).length<=QA o ar:=by
 obtain⟨l0,lt,h1,rl,rh⟩:=e;have g:=h.lo;have:=A4B (n:=n) (f:=λk=>if o.getD k 0=(k:Int) then (ar.getD k []).length else 0) (a:=lo.toNat) (b:=hi.toNat) O1 O1 O1;have c:(o.getD lo.toNat 0=((lo.toNat:Nat):Int)):=by rw[rl];omega
 have d:(o.getD hi.toNat 0=((hi.toNat:Nat):Int)):=by rw[rh];omega
 simp only[BY c,BY d]at this;unfold QA;rw[g];exact this
end
def KC:Nat->List Int->List (List (Int×Int))->List (Int×Int)->List Int
 | 0,o,_,_=>o
 | _+1,o,_,[]=>o
 | k+1,o,ar,w :: W=>if Ea o w.1 w.2=Ce o w.1 w.2 then KC k o ar W
  else KC k (CS o w.1 w.2) (ar.set (Ea o w.1 w.2).toNat (GH (ar.getD (Ea o w.1 w.2).toNat []) (ar.getD (Ce o w.1 w.2).toNat []))) (W++Ek (ar.getD (Ea o w.1 w.2).toNat []) (ar.getD (Ce o w.1 w.2).toNat []))
theorem s7 (k:Nat) (o:List Int) (ar:List (List (Int×Int))):KC k o ar []=o:=by cases k<;>rfl
def FC (c:List Int) (i:Nat):List (Int×Int):=((List.range i).filter λ(k:Nat)=>decide (c.getD k 0≠(k:Int))).map λ(k:Nat)=>((k:Int),c.getD k 0)
theorem A0y (c:List Int) (i:Nat):(FC c i).length<=i:=by
 unfold FC;rw[Of];exact R5 (bY _ _) sc
theorem nG {c:List Int} {i:Nat} (h:c.getD i 0≠(i:Int)):FC c (i+1)=FC c i++[((i:Int),c.getD i 0)]:=by
 unfold FC;have e:[i].filter (λ(k:Nat)=>decide (c.getD k 0≠(k:Int)))=[i]:=by rw[Tu,BY (by simpa using h)];rfl
 rw[To,ACr,SQ,e];rfl
theorem nH {c:List Int} {i:Nat} (h:c.getD i 0=(i:Int)):FC c (i+1)=FC c i:=by
 unfold FC;have e:[i].filter (λ(k:Nat)=>decide (c.getD k 0≠(k:Int)))=[]:=by rw[Tu,At (by simpa using h)];rfl
 rw[To,ACr,SQ,e,ADh,SJ]
def Gz (l:List AE):List (List (Int×Int)):=l.map (·.2)
theorem Kl (l:List AE) (k:Nat):(Gz l).getD k []=(l.getD k (0,[])).2:=by
 unfold Gz;rw[AS,SR,AS];cases l[k]?<;>rfl
def TR (l:List AE) (c:List Int):List Int:=KC (QA (BA l.length) (Gz l)+(FC c l.length).length) (BA l.length) (Gz l) (FC c l.length)
theorem nI {l:List AE} (e:AQ l) {c:List Int} (d:∀x∈c,0<=x/\x<(l.length:Int)) (f:c.length=l.length):CI l.length (BA l.length) (Gz l) (FC c l.length):=by
 refine⟨DE _,by simp[Gz],λk hk=>?_,λw b=>?_,λk a ha=>?_⟩
 .rw[F1 hk];exact⟨by omega,by omega,by rw[F1 O1];omega⟩
 .unfold FC at b;obtain⟨k,hk,rfl⟩:=DO.1 b;have hk:=(Tz.1 hk).1;have hk:=SH.1 hk;refine⟨⟨by simp only;omega,by simp only;omega⟩,d _ (AD c 0 O1)⟩
 rw[Kl]at ha;by_cases hk:k<l.length
 .exact(e.2 _ (AD l (0,[]) hk)).2 a ha
 rw[AS,SA O1]at ha;cases ha
theorem s8 {l:List AE} (a:AQ l):QA (BA l.length) (Gz l)<=10000000000:=by
 unfold QA;rw[DE];have:=s6 (n:=l.length) (B:=100000) (f:=λk=>if (BA l.length).getD k 0=(k:Int) then ((Gz l).getD k []).length else 0) (λk hk=>by
  split
  .rw[Kl];exact(a.2 _ (AD l (0,[]) hk)).1
  omega)
 have h1:=a.1;have:l.length*100000<=100000*100000:=SM _ h1;omega
section
attribute [local go_sem] Xc A3i
def Yq:AZ:={ ins:=[DK,T3,T3],pre:=λ(f,n,_,_)=>(0:Int)<=n/\n<(List.length f:Int),out:=λ(f,n,e,_)=>[.p T3 (D6 (List.getD (f:List AE) (Int.toNat n) (0,[])).2 e).1,.p .bool (D6 (List.getD (f:List AE) (Int.toNat n) (0,[])).2 e).2],lend:=true }
attribute [local go_sem] Yq
theorem nJ:Aa Tryz.prog 125 Yq:=by
 refine fK [0,1,2,3,6,7,8,9,19,28] Tryz.func125 Tryz.ntmps125 AH ?_;rintro w0 O0 ⟨f,n,e,u⟩ b ⟨⟨m,hf⟩,-⟩ hn;simp only[Yq,AL];repeat'(first|exact trivial|apply eS rfl|refine rX b ?_ ?_)
 .exact hn
 have i:List.length (List.getD (f:List AE) (Int.toNat n) (0,[])).2<=AN:=by
  have h1:Int.toNat n<List.length f:=(ADi hn.1).2 hn.2;have:=hf _ (AD (f:List AE) (0,[]) h1);exact this.2.1
 simp only[AN]at i;generalize (List.getD (f:List AE) (Int.toNat n) (0,[])).2=l at *;refine AI (ι:={k:Nat//k<=l.length/\D6 (l.drop k) e=D6 l e}) (λk=>⟨[(2,.p T3 e),(8,.p Cl l),(9,.p (.int .i64) (k.1:Int))],[]⟩) (λk=>l.length-k.1) ⟨0,by simp⟩ (eW []) (λk=>?_)
 obtain⟨k,hk,a⟩:=k;have j:k<l.length->l.drop k=l.getD k (0,0) :: l.drop (k+1):=λh=>by
  rw[IS h,AS,AT h];rfl
 have g:k<l.length->(if (l.getD k (0,0)).1=e then ((l.getD k (0,0)).2,true) else D6 (l.drop (k+1)) e)=D6 l e:=λh=>by
  rw[j h]at a;exact a
 repeat'(first|exact trivial|apply eS rfl|apply AB|refine rX b ?_ ?_|refine rC ?_ ?_<;>intro c<;>try(cases c;done))
 .exact eV
 .exact eV
 .have d:k<l.length:=by exact eV
  have a:=g d;rw[BY c]at a;exact fI b [.tmp 6,.tmp 7] (by rw[<-a];exact eR)
 .exact eV
 .have d:k<l.length:=by exact eV
  have a:=g d;rw[At c]at a;exact⟨⟨k+1,by omega,a⟩,by simp only;omega,eW []⟩
 have hk:l.drop k=[]:=By (by exact eV);rw[hk]at a;have a:(0,false)=D6 l e:=a;exact fI b [.tmp 6,.tmp 7] (by rw[<-a];exact eR)
def Fl (b:List Int):List FM->Nat->Int×Bool
 | [],_=>(0,false)
 | t :: r,k=>if t.2.1=b then ((k:Int),true) else Fl b r (k+1)
def s9:AZ:={ ins:=[D8,BX],pre:=λ_=>True,out:=λ(h,b,_)=>[.p T3 (Fl b (h:AG).1 0).1,.p .bool (Fl b (h:AG).1 0).2],lend:=true }
attribute [local go_sem] s9
theorem A4E:Aa Tryz.prog 115 s9:=by
 refine fK [0,1,2,4,5,6,11,21] Tryz.func115 Tryz.ntmps115 (AF fD AH) ?_;rintro w0 O0 ⟨⟨l,hf⟩,b,u⟩ d ⟨⟨⟨g,-⟩,-⟩,-⟩ -;simp only[AN]at g;simp only[s9,AL];repeat'(first|exact trivial|apply eS rfl|refine rX d ?_ ?_)
 refine AI (ι:={k:Nat//k<=List.length l/\Fl b (List.drop k l) k=Fl b l 0}) (λk=>⟨[(1,.p BX b),(2,.bp 2 [] 0),(6,.p (.int .i64) (k.1:Int))],[(2,.box 31 true [.p O2 l,.p QG hf])]⟩) (λk=>List.length l-k.1) ⟨0,by simp⟩ (eW [(2,.nm 2)]) (λk=>?_)
 obtain⟨k,hk,a⟩:=k;have f:k<List.length l->(if (List.getD l k Pw).2.1=b then ((k:Int),true) else Fl b (List.drop (k+1) l) (k+1))=Fl b l 0:=λh=>by
  rw[IS h]at a;rw[AS,AT h];exact a
 repeat'(first|exact trivial|apply eS rfl|apply AB|refine rX d ?_ ?_|refine rC ?_ ?_<;>intro c<;>try(cases c;done))
 .exact eV
 .have e:k<List.length l:=by exact eV
  have a:=f e;have c:(List.getD l k Pw).2.1=b:=by simpa[Gu] using c
  rw[BY c]at a;exact fI d [.tmp 4,.tmp 5] (by rw[<-a];exact eR)
 .exact eV
 .have e:k<List.length l:=by exact eV
  have a:=f e;have c:¬(List.getD l k Pw).2.1=b:=by simpa[Gu] using c
  rw[At c]at a;exact⟨⟨k+1,by omega,a⟩,by simp only;omega,eW [(2,.nm 2)]⟩
 have hk:List.drop k l=[]:=By (by exact eV);rw[hk]at a;have a:(0,false)=Fl b l 0:=a;exact fI d [.tmp 4,.tmp 5] (by rw[<-a];exact eR)
def B4 (h:AG) (a b:Int):Int×Bool:=Fl (EW (BN h a) (BN h b)) h.1 0
def Yr:AZ:={ ins:=[D8,T3,T3],pre:=λ(h,a,b,_)=>((0:Int)<=a/\a<(List.length (h:AG).1:Int))/\((0:Int)<=b/\b<(List.length (h:AG).1:Int))/\(∀x∈(h:AG).1,x.2.1.length<=100000),out:=λ(h,a,b,_)=>[.p T3 (B4 h a b).1,.p .bool (B4 h a b).2],lend:=true }
attribute [local go_sem] Yr
theorem nK:Aa Tryz.prog 59 Yr:=by
 refine fK [0,1,2,3,6,7] Tryz.func59 Tryz.ntmps59 (AF A4E (AF qJ AH)) ?_;rintro w0 O0 ⟨⟨c,hf⟩,a,b,u⟩ d-⟨ha,f,h⟩;simp only[Yr,AL];have g:∀x:Int,0<=x/\x<(List.length c:Int)->List.length (BN (c,hf) x)<=100000:=λx h1=>by
  have e:Int.toNat x<List.length c:=(ADi h1.1).2 h1.2;exact h _ (AD (c:List FM) Pw e)
 repeat'(first|exact trivial|apply eS rfl|refine rX d ?_ ?_)
 .refine⟨ha,f,?_⟩;exact g a ha
 exact fI d [.tmp 6,.tmp 7] (by unfold B4 BN;exact eR)
end
section
attribute [local go_sem] Yr
def JM (h:AG) (l:List AE) (c:List Int):Nat->Option (List Int)
 | 0=>some (List.replicate l.length 0)
 | i+1=>match JM h l c i with
  | none=>none
  | some o=>if (B4 h (o.getD (c.getD i 0).toNat 0) (l.getD i (0,[])).1).2=true then some (o.set (c.getD i 0).toNat (B4 h (o.getD (c.getD i 0).toNat 0) (l.getD i (0,[])).1).1) else none
theorem A0z {h:AG} {l:List AE} {c:List Int} {i:Nat} (hn:JM h l c i=none):∀ {j:Nat},i<=j->JM h l c j=none:=by
 intro j b;induction j with
 | zero=>rw[show i=0 by omega]at hn;exact hn
 | succ j a =>
  by_cases e:i=j+1
  .rw[<-e];exact hn
  simp only[JM];rw[a O1]
def VY (c o:List Int) (i:Nat):List Int:=((List.range i).map λ(k:Nat)=>o.getD (c.getD k 0).toNat 0)++o.drop i
def JA (h:AG) (l:List AE) (c:List Int):List Int×Bool:=match JM h l c l.length with
 | none=>([],false)
 | some o=>((List.range l.length).map λ(k:Nat)=>o.getD (c.getD k 0).toNat 0,true)
def TS (n:Nat) (c:List Int):Prop:=c.length=n/\∀k:Nat,k<n->0<=c.getD k 0/\c.getD k 0<=(k:Int)/\c.getD (c.getD k 0).toNat 0=c.getD k 0
theorem A4F {c o:List Int} {i:Nat} (h:i<=o.length):(VY c o i).length=o.length:=by
 unfold VY;simp;omega
theorem A4G {c o:List Int} {i:Nat} (hi:i<o.length) {x:Int} (d:TS o.length c) (f:x=c.getD i 0):(VY c o i).getD x.toNat 0=o.getD x.toNat 0:=by
 obtain⟨h1,b,a⟩:=d.2 i hi;rw[<-f]at h1 b a;unfold VY;by_cases e:x.toNat<i
 .rw[AS,TO (by simpa using e),SR,ABr e];simp only[ACz,ACt];rw[a]
 have e:x.toNat=i:=by omega
 rw[e,AS,SL sc];simp only[Of,ACF,AAu,oS,AE1];rw[AS]
theorem A4H {c o:List Int} {i:Nat} (hi:i<o.length):(VY c o i).set i (o.getD (c.getD i 0).toNat 0)=VY c o (i+1):=by
 unfold VY;rw[ABY _ _ sc];simp only[Of,ACF,AAu];rw[IS hi,ACo,To,SQ,SC];rfl
theorem A0A (c o:List Int):VY c o o.length=(List.range o.length).map λ(k:Nat)=>o.getD (c.getD k 0).toNat 0:=by
 unfold VY;simp
theorem A0B (c o:List Int):VY c o 0=o:=by simp[VY]
theorem nL (b:List Int):∀(l:List FM) (k:Nat),0<=(Fl b l k).1/\((Fl b l k).2=true->(k:Int)<=(Fl b l k).1/\(Fl b l k).1<(k:Int)+l.length)
 | [],k=>⟨by simp[Fl],by simp[Fl]⟩
 | t :: r,k=>by
  unfold Fl;split
  .exact⟨by simp only;omega,λ_=>⟨by simp only;omega,by simp only[Is];omega⟩⟩
  obtain⟨h1,a⟩:=nL b r (k+1);refine⟨h1,λh=>?_⟩;obtain⟨c,d⟩:=a h;simp only[Is];omega
theorem A0C {h:AG} {a b:Int} (d:(B4 h a b).2=true):0<=(B4 h a b).1/\(B4 h a b).1<(h.1.length:Int):=by
 obtain⟨h1,c⟩:=nL (EW (BN h a) (BN h b)) h.1 0;have c:=c d;unfold B4;exact⟨h1,by omega⟩
def TyR (h:AG) (n:Nat) (o:List Int):Prop:=o.length=n/\∀k,k<n->0<=o.getD k 0/\o.getD k 0<(h.1.length:Int)
theorem TT (l:List Int) (v:Int) (i j:Nat) (hi:i<l.length):(l.set i v).getD j 0=if j=i then v else l.getD j 0:=by
 simp only[AS,oR];by_cases e:i=j
 .subst e;simp[hi]
 rw[At e,At (λh=>e h.symm)]
theorem Rj {h:AG} (h0:0<h.1.length) {l:List AE} {c:List Int} (d:TS l.length c):∀ {i:Nat} {o:List Int},i<=l.length->JM h l c i=some o->TyR h l.length o
 | 0,o,_,a=>by
  simp only[JM]at a;cases a;refine⟨by simp,λk hk=>?_⟩;rw[AS,AAy,BY hk];exact⟨ACD _,by simp only[ACt];omega⟩
 | i+1,o,hi,a=>by
  simp only[JM]at a;cases b:JM h l c i with
  | none=>rw[b]at a;cases a
  | some p =>
   rw[b]at a;simp only at a;split at a
   .rename_i f;cases a;obtain⟨h1,e⟩:=Rj h0 d O1 b;obtain⟨c1,c2,_⟩:=d.2 i O1;refine⟨by rw[Tq];exact h1,λk hk=>?_⟩;rw[TT _ _ _ _ O1];split
    .exact A0C f
    exact e k hk
   cases a
def hC:AZ:={ ins:=[D8,DV,Ee],pre:=λ(h,l,c,_)=>TS (List.length l) c/\Cq h l/\0<List.length (h:AG).1/\List.length l<=100000/\(∀x∈(h:AG).1,x.2.1.length<=100000),out:=λ(h,l,c,_)=>[.p Ee (JA h l c).1,.p .bool (JA h l c).2] }
attribute [local go_sem] hC
theorem A4I:Aa Tryz.prog 185 hC:=by
 refine fK [0,1,2,3,6,7,8,9,10,11,12,19,40,51] Tryz.func185 Tryz.ntmps185 (AF nK AH) ?_;rintro w0 O0 ⟨⟨d,hf⟩,l,c,u⟩ g-⟨r,H,h0,K,I⟩;simp only[hC,AL];have t:=r.1;repeat'(first|exact trivial|apply eS rfl|refine rX g ?_ ?_)
 .simp only[AN];exact eV
 refine AI (ι:={s:Nat×List Int//s.1<=List.length l/\JM (d,hf) l c s.1=some s.2}) (λi=>⟨[(1,.p DV l),(2,.p Ee c),(3,.bp 3 [] 0),(6,.raw (.slice none 0 0)),(7,.p .bool false),(8,.sr 15 T3 0 (List.length l)),(9,.p (.int .i64) (i.1.1:Int))],[(3,.box 31 true [.p O2 d,.p QG hf]),(15,.arr 3 T3 i.1.2)]⟩) (λi=>List.length l-i.1.1) ⟨(0,List.replicate (List.length l) 0),by simp,rfl⟩ (eW [(3,.nm 3),(15,.nm 15)]) (λi=>?_)
 obtain⟨⟨i,o⟩,hi,q⟩:=i;simp only at hi q;obtain⟨f,F⟩:=Rj h0 r hi q;simp only;have w:=r.2 i;have E:=F (c.getD i 0).toNat;have G:=λh:i<List.length l=>H _ (AD (l:List AE) (0,[]) h);have n:JM (d,hf) l c (i+1)=if (B4 (d,hf) (o.getD (c.getD i 0).toNat 0) (l.getD i (0,[])).1).2=true then some (o.set (c.getD i 0).toNat (B4 (d,hf) (o.getD (c.getD i 0).toNat 0) (l.getD i (0,[])).1).1) else none:=by
  simp only[JM,q]
 have m:JA (d,hf) l c=match JM (d,hf) l c (List.length l) with
  | none=>([],false)
  | some o=>((List.range (List.length l)).map λ(k:Nat)=>o.getD (c.getD k 0).toNat 0,true):=rfl
 repeat'(first|exact trivial|apply eS rfl|apply AB|refine rX g ?_ ?_|refine rC ?_ ?_<;>intro b<;>try(cases b;done))
 .have a:i<List.length l:=by exact eV
  obtain⟨c1,c2,v⟩:=w a;exact⟨by rw[t];exact b,⟨c1,by exact eV⟩,b,E O1,G a,I⟩
 .have a:i<List.length l:=by exact eV
  rw[At (by rw[b];simp)]at n;have:=A0z n (j:=List.length l) O1;rw[this]at m;exact fI g [.tmp 6,.tmp 7] (by rw[m];exact eR)
 .have a:i<List.length l:=by exact eV
  obtain⟨c1,c2,v⟩:=w a;exact⟨by rw[t];assumption,c1,by exact eV⟩
 .exact eV
 .have a:i<List.length l:=by exact eV
  rw[BY b]at n;exact⟨⟨(i+1,_),by simp only;omega,n⟩,by simp only;omega,eW [(3,.nm 3),(15,.nm 15)]⟩
 have a:i=List.length l:=by exact eV
 rw[<-a,q]at m;simp only at m;have A:TS o.length c:=by rw[f];exact r
 rw[<-a]at f;refine AI (ι:={j:Nat//j<=o.length}) (λj=>⟨[(1,.p DV l),(2,.p Ee c),(8,.sr 15 T3 0 (List.length l)),(12,.p (.int .i64) (j.1:Int))],[(15,.arr 3 T3 (VY c o j.1))]⟩) (λj=>o.length-j.1) ⟨0,by omega⟩ (AC [(15,.nm 15)] rfl rfl ?_ ?_) (λj=>?_)
 .refine eM ?_;rw[A0B]
 .exact eN
 obtain⟨j,y⟩:=j;have J:=A4F (c:=c) y;have C:=λh:j<o.length=>A4G (x:=c.getD j 0) h A rfl;have D:=λh:j<o.length=>A4H (c:=c) h;have B:=A.2 j;simp only;repeat'(first|exact trivial|apply eS rfl|apply AB|refine rX g ?_ ?_|refine rC ?_ ?_<;>intro b<;>try(cases b;done))
 .have e:j<o.length:=by rw[f,a];exact eV
  obtain⟨c1,c2,v⟩:=B e;exact⟨by rw[t];exact b,⟨c1,by exact eV⟩,b⟩
 .exact eV
 .have e:j<o.length:=by rw[f,a];exact eV
  refine⟨⟨j+1,by omega⟩,by simp only;omega,AC [(15,.nm 15)] rfl rfl ?_ ?_⟩
  .simp only;rw[<-D e,<-C e];exact eN
  exact eN
 have e:j=o.length:=by rw[f,a]at y ⊢;exact eV
 subst e;rw[A0A,f];have z:((List.range i).map λ(k:Nat)=>o.getD (c.getD k 0).toNat 0).take (List.length l)=(List.range i).map λ(k:Nat)=>o.getD (c.getD k 0).toNat 0:=An (by simp;omega);exact fI g [.tmp 6,.tmp 7] (by rw[m];first|exact eR|refine Uf ?_;rw[a]at z ⊢;exact z)
end
section
attribute [local go_sem] Yq bI
attribute [local go_sem] XX p7 ne_eq not_false_eq_true
def TV (cl:List Int) (L:List (Int×Int)) (x:Int×Int):List (Int×Int):=if (D6 L x.1).2=true then L else L++[(x.1,cl.getD x.2.toNat 0)]
def JB (cl:List Int) (L l:List (Int×Int)):List (Int×Int):=l.foldl (TV cl) L
def Et (cl:List Int) (g:List AE) (i:Nat) (l:List (Int×Int)):List AE:=g.set (cl.getD i 0).toNat ((g.getD (cl.getD i 0).toNat (0,[])).1,JB cl (g.getD (cl.getD i 0).toNat (0,[])).2 l)
def Da (l:List AE) (cl types:List Int):Nat->List AE
 | 0=>(List.range l.length).map λ(k:Nat)=>(types.getD k 0,[])
 | i+1=>Et cl (Da l cl types i) i (l.getD i (0,[])).2
def cK (l:List AE) (cl types:List Int) (root:Int):List AE:=Ff (Da l cl types l.length) (cl.getD root.toNat 0)
def wY:AZ:={ ins:=[DV,Ee,Ee,T3],pre:=λ(l,c,t,r,_)=>AQ l/\List.length c=List.length l/\List.length t=List.length l/\(∀x∈(c:List Int),0<=x/\x<(List.length l:Int))/\((0:Int)<=r/\r<(List.length l:Int))/\List.length l*1000<=100000/\(∀x∈(l:List AE),x.2.length<=1000),out:=λ(l,c,t,r,_)=>[.p DK (cK l c t r)] }
attribute [local go_sem] wY
def Ys (types:List Int) (i:Nat):List AE:=(List.range i).map λ(k:Nat)=>(types.getD k 0,[])
theorem TW (types:List Int) (i:Nat):(Ys types i).length=i:=by simp[Ys]
theorem tA (types:List Int) (i:Nat):Ys types (i+1)=Ys types i++[(types.getD i 0,[])]:=by simp[Ys,To]
theorem tB (l:List AE) (c t:List Int):Ys t l.length=Da l c t 0:=rfl
theorem cL (c:List Int) (g:List AE) (i:Nat) (l:List (Int×Int)):(Et c g i l).length=g.length:=by simp[Et]
theorem TX (l:List AE) (v:AE) (i j:Nat) (hi:i<l.length):(l.set i v).getD j (0,[])=if j=i then v else l.getD j (0,[]):=by
 simp only[AS,oR];by_cases e:i=j
 .subst e;simp[hi]
 rw[At e,At (λh=>e h.symm)]
theorem A0D {c:List Int} {g:List AE} {i:Nat} {l:List (Int×Int)} (hi:(c.getD i 0).toNat<g.length):(Et c g i l).getD (c.getD i 0).toNat (0,[])=((g.getD (c.getD i 0).toNat (0,[])).1,JB c (g.getD (c.getD i 0).toNat (0,[])).2 l):=by
 unfold Et;rw[TX _ _ _ _ hi,BY rfl]
theorem A0E {c:List Int} {g:List AE} {i:Nat} (hi:(c.getD i 0).toNat<g.length):Et c g i []=g:=by
 unfold Et JB;simp only[ADM];apply ACW;intro j;rw[oR];split
 .rename_i e;subst e;rw[AS,AT hi];simp[hi]
 rfl
theorem tC {c:List Int} {g:List AE} {i:Nat} {l:List (Int×Int)} {x:Int×Int} (hi:(c.getD i 0).toNat<g.length) :
  ((D6 ((Et c g i l).getD (c.getD i 0).toNat (0,[])).2 x.1).2=true->Et c g i (l++[x])=Et c g i l) /\
  ((D6 ((Et c g i l).getD (c.getD i 0).toNat (0,[])).2 x.1).2=false->Et c g i (l++[x])=(Et c g i l).set (c.getD i 0).toNat (((Et c g i l).getD (c.getD i 0).toNat (0,[])).1,((Et c g i l).getD (c.getD i 0).toNat (0,[])).2++[(x.1,c.getD x.2.toNat 0)])):=by
 rw[A0D hi];unfold Et JB;rw[ACG];simp only[On,ADM];refine⟨λh=>?_,λh=>?_⟩
 .unfold TV at h ⊢;rw[BY h]
 rw[List.set_set];unfold TV at h ⊢;rw[At (by rw[h];simp)]
def hH (n m:Nat) (g:List AE):Prop:=g.length=n/\∀k,(g.getD k (0,[])).2.length<=m/\∀a∈(g.getD k (0,[])).2,0<=a.2/\a.2<(n:Int)
theorem nM {c:List Int} {n:Nat} (h:c.length=n) (g:∀x∈c,0<=x/\x<(n:Int)):∀(l:List (Int×Int)) {L:List (Int×Int)} {m:Nat},L.length<=m->(∀a∈L,0<=a.2/\a.2<(n:Int))->(∀a∈l,0<=a.2/\a.2<(n:Int))->(JB c L l).length<=m+l.length/\∀a∈JB c L l,0<=a.2/\a.2<(n:Int)
 | [],L,m,h1,b,_=>⟨h1,b⟩
 | x :: l,L,m,h1,b,d=>by
  have i:=d x sc;have e:JB c L (x :: l)=JB c (TV c L x) l:=rfl;rw[e];have f:(TV c L x).length<=m+1/\∀a∈TV c L x,0<=a.2/\a.2<(n:Int):=by
   unfold TV;split
   .exact⟨by omega,b⟩
   refine⟨by simp;omega,λa ha=>?_⟩;rcases ON.1 ha with ha|ha
   .exact b a ha
   have:a=(x.1,c.getD x.2.toNat 0):=by simpa using ha
   subst this;exact g _ (AD c 0 O1)
  have:=nM h g l f.1 f.2 λa ha=>d a (by simp[ha]);simp only[Is];exact⟨by omega,this.2⟩
theorem nN {c:List Int} {n:Nat} (e:c.length=n) (d:∀x∈c,0<=x/\x<(n:Int)) {g:List AE} {m:Nat} (b:hH n m g) {i:Nat} (hi:i<n) {l:List (Int×Int)} (f:∀a∈l,0<=a.2/\a.2<(n:Int)):hH n (m+l.length) (Et c g i l):=by
 have j:=d _ (AD c 0 (k:=i) O1);have h:(c.getD i 0).toNat<g.length:=by rw[b.1];omega
 refine⟨by rw[cL];exact b.1,λk=>?_⟩;unfold Et;rw[TX _ _ _ _ h];split
 .exact nM e d l (b.2 _).1 (b.2 _).2 f
 exact⟨R5 (b.2 k).1 O1,(b.2 k).2⟩
theorem nP {l:List AE} {c t:List Int} (e:AQ l) (f:∀x∈l,x.2.length<=1000) (b:c.length=l.length) (d:∀x∈c,0<=x/\x<(l.length:Int)):∀ {i:Nat},i<=l.length->hH l.length (i*1000) (Da l c t i)
 | 0,_=>by
  refine⟨by simp[Da],λk=>?_⟩;unfold Da;rw[AS,SR];cases h:(List.range l.length)[k]? with
  | none=>simp
  | some j=>simp
 | i+1,hi=>by
  have g:=AD l (0,[]) (k:=i) O1;have:=nN b d (nP (t:=t) e f b d (i:=i) O1) (i:=i) O1 (l:=(l.getD i (0,[])).2) (λa ha=>(e.2 _ g).2 a ha);refine⟨this.1,λk=>⟨R5 (this.2 k).1 ?_,(this.2 k).2⟩⟩;have:=f _ g;omega
theorem A0F {n m:Nat} {g:List AE} (h:hH n m g) (hn:n<=100000) (b:m<=100000):AQ g:=by
 refine⟨by rw[h.1];exact hn,λx c=>?_⟩;obtain⟨k,hk,rfl⟩:=aT.1 c;have:=h.2 k;rw[AS,AT hk]at this;refine⟨R5 this.1 b,λa ha=>?_⟩;rw[h.1];exact this.2 a ha
theorem A7r:Aa Tryz.prog 186 wY:=by
 refine oY [0,1,2,3,8,9,10,11,12,13,14,16,20,36,50,70] [] [(30,106)] Tryz.func186 Tryz.ntmps186 (AF nJ (AF f3 AH)) ?_;rintro w0 O0 ⟨l,c,t,r,u⟩ d-⟨z,n,L,v,J,N,A⟩;simp only[wY,AL];repeat'(first|exact trivial|apply eS rfl|refine rX d ?_ ?_)
 refine AI (ι:={i:Nat//i<=List.length l}) (λi=>⟨[(0,.p DV l),(1,.p Ee c),(2,.p Ee t),(3,.p T3 r),(8,.bp 8 [] 0),(9,.bp 9 [] 0),(10,.p (.int .i64) (i.1:Int))],[(8,.box 25 true [.raw (.slice none 0 0)]),(9,.box 25 true [.sr 31 GX 0 i.1]),(31,.nest 93 106 T3 Av (Ys t i.1) none)]⟩) (λi=>List.length l-i.1) ⟨0,by omega⟩ (AC [(8,.nm 8),(9,.nm 9),(31,.nil)] rfl rfl ?_ ?_) (λi=>?_)
 .refine eM ?_;rfl
 .exact eN
 obtain⟨i,hi⟩:=i;repeat'(first|exact trivial|apply eS rfl|apply AB|refine rX d ?_ ?_|refine rC ?_ ?_<;>intro b<;>try(cases b;done))
 .refine⟨by rw[L];exact b,(TW t i).symm,?_⟩;rw[TW];simp only[AN];dsimp only[Ty.den]at *;omega
 .exact eV
 .have e:i<List.length l:=by exact eV
  refine⟨⟨i+1,by omega⟩,by simp only;omega,AC [(8,.nm 8),(9,.nm 9),(31,.nm 31)] rfl rfl ?_ ?_⟩
  .simp only;rw[tA];refine eM ?_;rw[TW]
  exact eN
 have e:i=List.length l:=by exact eV
 subst e;rw[tB l c t];refine AI (ι:={i:Nat//i<=List.length l}) (λi=>⟨[(0,.p DV l),(1,.p Ee c),(3,.p T3 r),(8,.bp 8 [] 0),(9,.bp 9 [] 0),(11,.p (.int .i64) (i.1:Int))],[(8,.box 25 true [.raw (.slice none 0 0)]),(9,.box 25 true [.sr 31 GX 0 (List.length l)]),(31,.nest 93 106 T3 Av (Da l c t i.1) none)]⟩) (λi=>List.length l-i.1) ⟨0,by omega⟩ (eW [(8,.nm 8),(9,.nm 9),(31,.nm 31)]) (λi=>?_)
 obtain⟨i,hi⟩:=i;have s:=nP (t:=t) z A n v hi;simp only;repeat'(first|exact trivial|apply eS rfl|refine rX d ?_ ?_|refine rC ?_ ?_<;>intro b<;>try(cases b;done))
 .rw[n];exact b
 .have e:i<List.length l:=by exact eV
  have y:=v _ (AD (c:List Int) 0 (k:=i) O1);have C:=AD (l:List AE) (0,[]) e;have H:=A _ C;have q:=(z.2 _ C).2;have K:Da l c t (i+1)=Et c (Da l c t i) i (List.getD l i (0,[])).2:=rfl;have B:(List.getD c i 0).toNat<(Da l c t i).length:=by rw[s.1];exact eV
  generalize Da l c t i=g at *;have m:=λk=>nN n v s e (l:=(List.getD l i (0,[])).2.take k) (λa ha=>q a (iS ha));refine AI (ι:={k:Nat//k<=(List.getD l i (0,[])).2.length}) (λk=>⟨[(0,.p DV l),(1,.p Ee c),(3,.p T3 r),(8,.bp 8 [] 0),(9,.bp 9 [] 0),(11,.p (.int .i64) (i:Int)),(12,.p T3 (List.getD c i 0)),(13,.p (.int .i64) (k.1:Int))],[(8,.box 25 true [.raw (.slice none 0 0)]),(9,.box 25 true [.sr 31 GX 0 (List.length l)]),(31,.nest 93 106 T3 Av (Et c g i ((List.getD l i (0,[])).2.take k.1)) none)]⟩) (λk=>(List.getD l i (0,[])).2.length-k.1) ⟨0,by omega⟩ (AC [(8,.nm 8),(9,.nm 9),(31,.nm 31)] rfl rfl ?_ ?_) (λk=>?_)
  .refine eM ?_;exact(A0E B).symm
  .exact eN
  obtain⟨k,hk⟩:=k;have m:=m k;have f:=λ(x:Int×Int)=>tC (l:=(List.getD l i (0,[])).2.take k) (x:=x) B;have D:=λ(h:k<(List.getD l i (0,[])).2.length)=>AY (List.getD l i (0,[])).2 (0,0) h;simp only;generalize w:Et c g i ((List.getD l i (0,[])).2.take k)=G at *;have j:List.take (List.length l) G=G:=An (by rw[m.1];exact OR _);have F:=m.1;repeat'(first|exact trivial|apply eS rfl|apply AB|refine rX d ?_ ?_|refine rC ?_ ?_<;>intro b<;>try(cases b;done))
  .exact b
  .exact⟨by assumption,b⟩
  .rw[j,F];exact y
  .rw[j]at b;refine Fv drawsAny d 19 [([3,4,5,6,7,8,9,10,11,12,13,14,15,16,17],18)] [0,1,2] (by kernel_rfl) (Vu ?_ ?_)
   .refine⟨y,?_⟩;rw[n];exact q _ (AD (List.getD l i (0,[])).2 (0,0) (by exact eV))
   refine mxN d 31 ?_ ?_
   .have:=(m.2 (Int.toNat (List.getD c i 0))).1;have M:((List.getD l i (0,[])).2.take k).length<=1000:=R5 (UA _ _) (R5 hk H);simp only[AN];dsimp only[Ty.den]at *;omega
   refine p6 d ?_ ?_ ?_
   .trivial
   .exact y
   repeat'(first|apply eS rfl|apply AB|refine rX d ?_ ?_)
   .exact eV
   have o:k<(List.getD l i (0,[])).2.length:=by exact eV
   have f:=(f (List.getD (List.getD l i (0,[])).2 k (0,0))).2 b;refine⟨⟨k+1,by omega⟩,by simp only;omega,AC [(8,.nm 8),(9,.nm 9),(31,.nm 31)] rfl rfl ?_ ?_⟩
   .simp only;rw[D o,f];exact eN
   exact eN
  .exact eV
  .rw[j]at b;have o:k<(List.getD l i (0,[])).2.length:=by exact eV
   have f:=(f (List.getD (List.getD l i (0,[])).2 k (0,0))).1 b;refine⟨⟨k+1,by omega⟩,by simp only;omega,AC [(8,.nm 8),(9,.nm 9),(31,.nm 31)] rfl rfl ?_ ?_⟩
   .simp only;rw[D o,f];exact eN
   exact eN
  .exact eV
  have o:(List.getD l i (0,[])).2.take k=(List.getD l i (0,[])).2:=An (by exact eV);rw[o]at w;rw[<-K]at w;refine⟨⟨i+1,by omega⟩,by simp only;omega,AC [(8,.nm 8),(9,.nm 9),(31,.nm 31)] rfl rfl ?_ ?_⟩
  .simp only;rw[w];exact eN
  exact eN
 have e:i=List.length l:=by exact eV
 subst e;have I:cK l c t r=Ff (Da l c t (List.length l)) (c.getD r.toNat 0):=rfl;have E:=A0F s O1 O1;have q:=s.1;have j:List.take (List.length l) (Da l c t (List.length l))=Da l c t (List.length l):=An (by rw[q];exact OR _);generalize Da l c t (List.length l)=g at *;refine E2 [31] ?_;repeat'(first|apply eS rfl|refine rX d ?_ ?_)
 .rw[j,q,n];exact⟨J,E,v _ (AD (c:List Int) 0 (by exact eV))⟩
 rw[j,<-I];exact fI d [.cell 8 25]
end
inductive EQ (n:Nat) (o:List Int) (W:List (Int×Int)):Int->Int->Prop
 | cls {x y:Int} (x0:0<=x) (x1:x<(n:Int)) (y0:0<=y) (y1:y<(n:Int)) (h:o.getD x.toNat 0=o.getD y.toNat 0):EQ n o W x y
 | wt {x y:Int} (h:(x,y)∈W):EQ n o W x y
 | symm {x y:Int} (h:EQ n o W x y):EQ n o W y x
 | trans {x y z:Int} (h:EQ n o W x y) (g:EQ n o W y z):EQ n o W x z
theorem EQ.mono {n:Nat} {o b:List Int} {W a:List (Int×Int)} (h1:∀x y,0<=x->x<(n:Int)->0<=y->y<(n:Int)->o.getD x.toNat 0=o.getD y.toNat 0->EQ n b a x y) (c:∀x y,(x,y)∈W->EQ n b a x y) {x y:Int} (h:EQ n o W x y):EQ n b a x y:=by
 induction h with
 | cls g i j k h=>exact h1 _ _ g i j k h
 | wt h=>exact c _ _ h
 | symm _ d=>exact .symm d
 | trans _ _ e f=>exact .trans e f
theorem EQ.nil {n:Nat} {o:List Int} {x y:Int} (h:EQ n o [] x y):o.getD x.toNat 0=o.getD y.toNat 0:=by
 induction h with
 | cls _ _ _ _ h=>exact h
 | wt h=>cases h
 | symm _ a=>exact a.symm
 | trans _ _ b c=>exact b.trans c
structure JC (h:AG) (N:List AE) (P:List (Int×Int)) (o:List Int) (ar:List (List (Int×Int))) (W:List (Int×Int)):Prop where
 ci:CI N.length o ar W
 nd:∀k,((ar.getD k []).map (·.1)).Nodup
 sp:∀q∈P,EQ N.length o W q.1 q.2
 sa:∀x,0<=x->x<(N.length:Int)->∀a∈AP N x,∃t,(a.1,t)∈ar.getD (o.getD x.toNat 0).toNat []/\EQ N.length o W a.2 t
 co:∀X v,Uz h N P X v->(∀x,0<=x->x<(N.length:Int)->v x=v (o.getD x.toNat 0))/\(∀w∈W,v w.1=v w.2)/\(∀r,0<=r->r<(N.length:Int)->o.getD r.toNat 0=r->∀a∈ar.getD r.toNat [],CR (AP X (v r)) a.1=v a.2)
section
variable {h:AG} {N:List AE} {P:List (Int×Int)} {o:List Int} {ar:List (List (Int×Int))} {W:List (Int×Int)} {w:Int×Int}
theorem hZ (o:List Int) (x y:Int):(Ea o x y=o.getD x.toNat 0/\Ce o x y=o.getD y.toNat 0)\/(Ea o x y=o.getD y.toNat 0/\Ce o x y=o.getD x.toNat 0):=by
 unfold Ea Ce;by_cases a:o.getD y.toNat 0<o.getD x.toNat 0
 .rw[BY a,At O1];exact .inr ⟨rfl,rfl⟩
 rw[At a];by_cases b:o.getD x.toNat 0<o.getD y.toNat 0
 .rw[BY b];exact .inl ⟨rfl,rfl⟩
 rw[At b];exact .inl ⟨rfl,by omega⟩
theorem A7s (c:JC h N P o ar (w :: W)) (j:Ea o w.1 w.2=Ce o w.1 w.2):JC h N P o ar W:=by
 have d:=c.ci.wr w sc;have m:o.getD w.1.toNat 0=o.getD w.2.toNat 0:=by
  rcases hZ o w.1 w.2 with ⟨h1,b⟩|⟨h1,b⟩
  .rw[<-h1,<-b,j]
  rw[<-h1,<-b,j]
 have k:∀ {x y},EQ N.length o (w :: W) x y->EQ N.length o W x y:=λ{x y} g=>g.mono (λx y f i s z e=>.cls f i s z e) λx y r=>by
  rcases Do.1 r with e|e
  .subst e;exact .cls d.1.1 d.1.2 d.2.1 d.2.2 m
  exact .wt e
 refine⟨wX c.ci,c.nd,λq n=>k (c.sp q n),λx f i a ha=>?_,λX v p=>?_⟩
 .obtain⟨t,h1,b⟩:=c.sa x f i a ha;exact⟨t,h1,k b⟩
 obtain⟨h1,b,l⟩:=c.co X v p;exact⟨h1,λu hu=>b u (IN _ hu),l⟩
theorem A7t {l g:List (Int×Int)} (f:(l.map (·.1)).Nodup) (d:(g.map (·.1)).Nodup):((GH l g).map (·.1)).Nodup:=by
 unfold GH;rw[SQ,ABU];refine⟨f,(d.sublist ((ADB).map _)),λx h y i e=>?_⟩;obtain⟨a,ha,rfl⟩:=DO.1 h;obtain⟨b,c,rfl⟩:=DO.1 i;have c:=(Tz.1 c).2;rw[nC a ha e]at c;cases c
theorem A4J (d:JC h N P o ar (w :: W)) (V:Ea o w.1 w.2≠Ce o w.1 w.2) :
  JC h N P (CS o w.1 w.2) (ar.set (Ea o w.1 w.2).toNat (GH (ar.getD (Ea o w.1 w.2).toNat []) (ar.getD (Ce o w.1 w.2).toNat []))) (W++Ek (ar.getD (Ea o w.1 w.2).toNat []) (ar.getD (Ce o w.1 w.2).toNat [])):=by
 have b:=d.ci.wr w sc;have L:=A4C d.ci b.1.1 b.1.2 b.2.1 b.2.2 V;have T:=nF (wX d.ci) L;have U:=λ(k:Nat) (hk:k<N.length)=>Oa (m:=w.1) (n:=w.2) (show k<o.length by rw[d.ci.lo];exact hk);have M:=hZ o w.1 w.2;have ag:=d.ci.la;have Z:=λx=>d.ci.rng (x:=x);generalize CS o w.1 w.2=C at *;generalize Ea o w.1 w.2=lo at *;generalize Ce o w.1 w.2=hi at *;obtain⟨l0,lt,h1,rl,rh⟩:=L;have l:∀x,0<=x->x<(N.length:Int)->C.getD x.toNat 0=IG hi lo (o.getD x.toNat 0):=λx f i=>U _ O1;have ad:C.getD w.1.toNat 0=C.getD w.2.toNat 0:=by
  rw[l _ b.1.1 b.1.2,l _ b.2.1 b.2.2];rcases M with ⟨j,c⟩|⟨j,c⟩
  .rw[<-j,<-c,I9,Hv O1]
  rw[<-j,<-c,I9,Hv O1]
 generalize F:W++Ek (ar.getD lo.toNat []) (ar.getD hi.toNat [])=K at *;have O:∀ {x y},EQ N.length o (w :: W) x y->EQ N.length C K x y:=λ{x y} g=>g.mono (λx y f i Q R e=>.cls f i Q R (by rw[l x f i,l y Q R,e])) λx y af=>by
  rcases Do.1 af with e|e
  .subst e;exact .cls b.1.1 b.1.2 b.2.1 b.2.2 ad
  exact .wt (by rw[<-F];exact SP _ e)
 have S:∀x∈ar.getD hi.toNat [],(D6 (ar.getD lo.toNat []) x.1).2=true->((D6 (ar.getD lo.toNat []) x.1).1,x.2)∈K:=λx ae p=>by
  rw[<-F];exact AAx _ (ACO.2 ⟨x,ae,by rw[BY p]⟩)
 refine⟨T,λk=>?_,λq Y=>O (d.sp q Y),λx f i a ha=>?_,λX v ab=>?_⟩
 .rw[I8 _ _ _ _ O1];split
  .exact A7t (d.nd _) (d.nd _)
  exact d.nd k
 .obtain⟨t,A,s⟩:=d.sa x f i a ha;have s:=O s;rw[l x f i];obtain⟨I,J,ah⟩:=Z x f i;by_cases e:o.getD x.toNat 0=hi
  .rw[e,I9];rw[e]at A;rw[I8 _ _ _ _ O1,BY rfl];cases p:(D6 (ar.getD lo.toNat []) a.1).2 with
   | true=>exact⟨_,SP _ (WM p),s.trans (.symm (.wt (S (a.1,t) A p)))⟩
   | false=>exact⟨t,AAx _ (Tz.2 ⟨A,by show (!(D6 (ar.getD lo.toNat []) a.1).2)=true;rw[p];rfl⟩),s⟩
  rw[Hv e,I8 _ _ _ _ O1];split
  .rename_i c;refine⟨t,SP _ ?_,s⟩;rw[<-c];exact A
  exact⟨t,A,s⟩
 obtain⟨c1,c2,z⟩:=d.co X v ab;have H:v lo=v hi:=by
  have e:=c2 w sc;have j:=c1 w.1 b.1.1 b.1.2;have c:=c1 w.2 b.2.1 b.2.2;rcases M with ⟨D,E⟩|⟨D,E⟩
  .rw[D,E,<-j,<-c,e]
  rw[D,E,<-j,<-c,e]
 refine⟨λx f i=>?_,λu hu=>?_,λr I J B a ha=>?_⟩
 .rw[l x f i,c1 x f i];by_cases e:o.getD x.toNat 0=hi
  .rw[e,I9,H]
  rw[Hv e]
 .rw[<-F]at hu;rcases ON.1 hu with hu|hu
  .exact c2 u (IN _ hu)
  obtain⟨a,ha,G⟩:=ACO.1 hu;split at G
  .rename_i p;cases G;have j:=z lo l0 O1 rl _ (WM p);have c:=z hi O1 h1 rh a ha;rw[<-H,j]at c;exact c
  cases G
 rw[I8 _ _ _ _ O1]at ha;rw[l r I J]at B;have aa:o.getD r.toNat 0=r:=by
  by_cases e:o.getD r.toNat 0=hi
  .rw[e,I9]at B;rw[<-B];exact rl
  rw[Hv e]at B;exact B
 split at ha
 .rename_i c;have c:r=lo:=by omega
  rcases ON.1 ha with ha|ha
  .rw[c];exact z lo l0 O1 rl a ha
  rw[c,H];exact z hi O1 h1 rh a (Tz.1 ha).1
 exact z r I J aa a ha
end
theorem Yt {h:AG} {N:List AE} {P:List (Int×Int)}:∀(k:Nat) {o:List Int} {ar:List (List (Int×Int))} {W:List (Int×Int)},JC h N P o ar W->QA o ar+W.length<=k->∃d,JC h N P (KC k o ar W) d []
 | 0,o,ar,W,a,hk=>by
  have:W=[]:=SG O1;subst this;exact⟨ar,a⟩
 | k+1,o,ar,[],a,hk=>⟨ar,a⟩
 | k+1,o,ar,w :: W,a,hk=>by
  simp only[KC];simp only[Is]at hk;split
  .rename_i f;exact Yt k (A7s a f) O1
  rename_i c;have b:=a.ci.wr w sc;have e:=A4C a.ci b.1.1 b.1.2 b.2.1 b.2.2 c;have g:=Yp a.ci e;exact Yt k (A4J a c) (by rw[F3];omega)
theorem A4K {c:List Int} {n:Nat} {w:Int×Int} (a:w∈FC c n):∃k:Nat,k<n/\c.getD k 0≠(k:Int)/\w=((k:Int),c.getD k 0):=by
 unfold FC at a;obtain⟨k,hk,rfl⟩:=DO.1 a;obtain⟨h1,b⟩:=Tz.1 hk;exact⟨k,SH.1 h1,by simpa using b,rfl⟩
theorem A4L {c:List Int} {n k:Nat} (hk:k<n) (h:c.getD k 0≠(k:Int)):((k:Int),c.getD k 0)∈FC c n:=by
 unfold FC;exact DO.2 ⟨k,Tz.2 ⟨SH.2 hk,by simpa using h⟩,rfl⟩
theorem VB {n:Nat} {x y:Int} (c:0<=x) (d:x<(n:Int)) (e:0<=y) (f:y<(n:Int)):((Ea (BA n) x y=x/\Ce (BA n) x y=y)\/(Ea (BA n) x y=y/\Ce (BA n) x y=x))/\∀k:Nat,k<n->(CS (BA n) x y).getD k 0=IG (Ce (BA n) x y) (Ea (BA n) x y) (k:Int):=by
 have a:(BA n).getD x.toNat 0=x:=by rw[F1 O1];omega
 have b:(BA n).getD y.toNat 0=y:=by rw[F1 O1];omega
 refine⟨?_,λk hk=>?_⟩
 .have:=hZ (BA n) x y;rw[a,b]at this;exact this
 rw[Oa (by rw[DE];exact hk),F1 hk]
theorem A4M {h:AG} {N:List AE} (o:AQ N) (hs:∀k,((N.getD k (0,[])).2.map (·.1)).Nodup) {x y:Int} (l:0<=x) (m:x<(N.length:Int)) (E:0<=y) (F:y<(N.length:Int)):JC h N [(x,y)] (BA N.length) (Gz N) (FC (CS (BA N.length) x y) N.length):=by
 obtain⟨f,j⟩:=VB l m E F;have p:=Kk (BA N.length) x y;rw[DE]at p;generalize CS (BA N.length) x y=c at *;generalize Ea (BA N.length) x y=lo at *;generalize Ce (BA N.length) x y=hi at *;have u:∀z∈c,0<=z/\z<(N.length:Int):=λz B=>by
  obtain⟨k,hk,rfl⟩:=aT.1 B;have:=j k O1;rw[AS,AT hk]at this;simp only[ACt]at this;rw[this];unfold IG;split
  .rcases f with ⟨e,_⟩|⟨e,_⟩<;>rw[e]<;>omega
  omega
 have t:lo≠hi->(hi,lo)∈FC c N.length:=λg=>by
  have h0:0<=hi/\hi<(N.length:Int):=by rcases f with ⟨_,e⟩|⟨_,e⟩<;>rw[e]<;>omega
  have b:((hi.toNat:Nat):Int)=hi:=by omega
  have d:=j hi.toNat O1;rw[b,I9]at d;have:=A4L (c:=c) (n:=N.length) (k:=hi.toNat) O1 (by rw[d,b];exact g);rw[b,d]at this;exact this
 refine⟨nI o u p,λk=>?_,λq i=>?_,λz G H a ha=>?_,λX v s=>?_⟩
 .rw[Kl];exact hs k
 .have:q=(x,y):=by simpa using i
  subst this;simp only;by_cases e:lo=hi
  .have:x=y:=by rcases f with ⟨b,d⟩|⟨b,d⟩<;>omega
   subst this;exact .cls l m l m rfl
  rcases f with ⟨b,d⟩|⟨b,d⟩
  .rw[<-b,<-d];exact .symm (.wt (t e))
  rw[<-b,<-d];exact .wt (t e)
 .refine⟨a.2,?_,?_⟩
  .rw[F1 O1,Kl,R3];exact ha
  have:=(o.2 _ (AD N (0,[]) (k:=z.toNat) O1)).2 a ha;exact .cls this.1 this.2 this.1 this.2 rfl
 refine⟨λz G H=>?_,λw A=>?_,λr C D _ a ha=>?_⟩
 .rw[F1 O1]
  congr 1
  omega
 .obtain⟨k,hk,g,rfl⟩:=A4K A;simp only;rw[j k hk]at g ⊢;by_cases e:(k:Int)=hi
  .rw[e,I9];have i:=s.eq (x,y) sc;simp only at i;rcases f with ⟨b,d⟩|⟨b,d⟩
   .rw[b,d];exact i.symm
   rw[b,d];exact i
  rw[Hv e]at g;exact absurd rfl g
 rw[Kl]at ha;exact s.arc r C D a ha
theorem A9S {N:List AE} (hs:∀x∈N,MS x.2) (k:Nat):((N.getD k (0,[])).2.map (·.1)).Nodup:=by
 have:MS (N.getD k (0,[])).2:=by
  by_cases hk:k<N.length
  .exact hs _ (AD N (0,[]) hk)
  rw[AS,SA O1];exact List.Pairwise.nil
 rw[List.Nodup,oN];exact this.imp λh e=>by omega
theorem A0G {h:AG} {N:List AE} (a:AQ N) (hs:∀k,((N.getD k (0,[])).2.map (·.1)).Nodup) {x y:Int} (b:0<=x) (c:x<(N.length:Int)) (d:0<=y) (e:y<(N.length:Int)):∃ar,JC h N [(x,y)] (TR N (CS (BA N.length) x y)) ar [] :=
 Yt _ (A4M a hs b c d e) (OR _)
def TY (h:AG):Prop:=∀t∈h.1,Nrm t.2.1
theorem Yu {b:List Int}:∀ {l:List FM} {k:Nat},(Fl b l k).2=true->∃j:Nat,j<l.length/\(Fl b l k).1=((k+j:Nat):Int)/\(l.getD j Pw).2.1=b
 | [],k,h=>by cases h
 | t :: r,k,h=>by
  unfold Fl at h ⊢;by_cases e:t.2.1=b
  .rw[BY e];exact⟨0,by simp,by simp,by simpa using e⟩
  rw[At e]at h ⊢;obtain⟨j,h1,a,c⟩:=Yu h;exact⟨j+1,by simp only[Is];omega,by rw[a];congr 1;omega,by simpa using c⟩
theorem nQ {b:List Int}:∀ {l:List FM} {k:Nat},(∃t∈l,t.2.1=b)->(Fl b l k).2=true
 | [],k,⟨t,c,_⟩=>by cases c
 | t :: r,k,⟨u,hu,e⟩=>by
  unfold Fl;by_cases a:t.2.1=b
  .rw[BY a]
  rw[At a];rcases Do.1 hu with rfl|hu
  .exact absurd e a
  exact nQ ⟨u,hu,e⟩
theorem A0H {h:AG} (hk:Ew h) (hn:TY h) {a b:Int} (g:0<=a) (k:a<(h.1.length:Int)) (l:0<=b) (b1:b<(h.1.length:Int)) :
  ((B4 h a b).2=true->0<=(B4 h a b).1/\(B4 h a b).1<(h.1.length:Int)/\∀i,lW h (B4 h a b).1 i=(lW h a i&&lW h b i))/\((∃i,lW h a i=true/\lW h b i=true)->(B4 h a b).2=true):=by
 have d:=hk.1.wds _ (Bj g k);have f:=hk.1.wds _ (Bj l b1);refine⟨λp=>?_,λhi=>?_⟩
 .obtain⟨j,h1,c,o⟩:=Yu p;have c:(B4 h a b).1=((0+j:Nat):Int):=c;refine⟨by omega,by omega,λi=>?_⟩;have e:BN h (B4 h a b).1=EW (BN h a) (BN h b):=by
   rw[<-o];unfold BN;rw[c];simp
  unfold lW;rw[e,Lk d f]
 obtain⟨t,m,e⟩:=hk.1.meet _ (Bj g k) _ (Bj l b1) hi;obtain⟨x,n,rfl⟩:=DO.1 m;exact nQ ⟨x,n,gB (hk.1.wds _ m) (OT d f) (hn x n) (Ll _) λi=>by rw[e i,Lk d f]⟩
theorem GI {h:AG} (hk:Ew h) (hn:TY h) {a b:Int} (l:0<=a) (m:a<(h.1.length:Int)) (n:0<=b) (b1:b<(h.1.length:Int)) :
  ((B4 h a b).2=true->0<=(B4 h a b).1/\(B4 h a b).1<(h.1.length:Int)/\Aj h a (B4 h a b).1=true/\Aj h b (B4 h a b).1=true) /\
  ∀x,0<=x->x<(h.1.length:Int)->Aj h a x=true->Aj h b x=true->(B4 h a b).2=true/\Aj h (B4 h a b).1 x=true:=by
 obtain⟨r,u⟩:=A0H hk hn l m n b1;refine⟨λe=>?_,λx g k s t=>?_⟩
 .obtain⟨c,d,f⟩:=r e;refine⟨c,d,(BV hk l m c d).2 λi hi=>?_,(BV hk n b1 c d).2 λi hi=>?_⟩
  .rw[f i,As]at hi;exact hi.1
  rw[f i,As]at hi;exact hi.2
 have o:=(BV hk l m g k).1 s;have p:=(BV hk n b1 g k).1 t;obtain⟨i,hi⟩:=hk.1.some _ (Bj g k);have e:=u ⟨i,o i hi,p i hi⟩;obtain⟨c,d,f⟩:=r e;refine⟨e,(BV hk c d g k).2 λj q=>?_⟩;rw[f j,As];exact⟨o j q,p j q⟩
section
variable {h:AG} {N:List AE} {c:List Int}
theorem Yv (a:Cq h N) {x:Nat} (b:x<N.length):0<=(N.getD x (0,[])).1/\(N.getD x (0,[])).1<(h.1.length:Int):=a _ (AD N (0,[]) b)
theorem wZ (hk:Ew h) (hn:TY h) (h0:0<h.1.length) (g:Cq h N) (b:TS N.length c):∀ {i:Nat} {p:List Int},i<=N.length->JM h N c i=some p->∀x,x<i->Aj h (N.getD x (0,[])).1 (p.getD (c.getD x 0).toNat 0)=true
 | 0,p,_,_,x,n=>by omega
 | i+1,p,hi,a,x,n=>by
  simp only[JM]at a;cases d:JM h N c i with
  | none=>rw[d]at a;cases a
  | some q =>
   rw[d]at a;simp only at a;split at a
   .rename_i m;cases a;obtain⟨v,u⟩:=Rj h0 b O1 d;obtain⟨w,y,z⟩:=b.2 i O1;have f:=u (c.getD i 0).toNat O1;have ti:=Yv g (x:=i) O1;obtain⟨o,r,s,t⟩:=(GI hk hn f.1 f.2 ti.1 ti.2).1 m;obtain⟨s1,s2,A⟩:=b.2 x O1;rw[TT _ _ _ _ O1];by_cases e:x=i
    .subst e;rw[BY rfl];exact t
    have j:=wZ hk hn h0 g b O1 d x O1;split
    .rename_i l;rw[l]at j;have k:=Yv g (x:=x) O1;exact I0 hk k.1 k.2 f.1 f.2 o r j s
    exact j
   cases a
theorem QB (hk:Ew h) (hn:TY h) (h0:0<h.1.length) (j:TQ h) (g:Cq h N) (a:TS N.length c) {u:Nat->Int} (hu:∀k,k<N.length->0<=u k/\u k<(h.1.length:Int)) (b:∀x,x<N.length->Aj h (N.getD x (0,[])).1 (u (c.getD x 0).toNat)=true) :
  ∀ {i:Nat},i<=N.length->∃p,JM h N c i=some p/\∀k,k<N.length->Aj h (p.getD k 0) (u k)=true
 | 0,_=>by
  refine⟨_,rfl,λk hk=>?_⟩;rw[AS,AAy,BY hk];exact j _ (hu k hk).1 (hu k hk).2
 | i+1,hi=>by
  obtain⟨q,d,f⟩:=QB hk hn h0 j g a hu b (i:=i) O1;obtain⟨s,r⟩:=Rj h0 a O1 d;obtain⟨t,v,w⟩:=a.2 i O1;have m:=r (c.getD i 0).toNat O1;have ti:=Yv g (x:=i) O1;have l:=hu (c.getD i 0).toNat O1;obtain⟨n,o⟩:=(GI hk hn m.1 m.2 ti.1 ti.2).2 _ l.1 l.2 (f _ O1) (b i O1);refine⟨q.set (c.getD i 0).toNat (B4 h (q.getD (c.getD i 0).toNat 0) (N.getD i (0,[])).1).1,by simp only[JM,d];rw[BY n],λk hk=>?_⟩;rw[TT _ _ _ _ O1];split
  .rename_i e;rw[e];exact o
  exact f k hk
end
theorem cM (c:List Int):∀(l L:List (Int×Int)),(L.map (·.1)).Nodup->((JB c L l).map (·.1)).Nodup/\(∀a∈L,a∈JB c L l)/\(∀a∈JB c L l,a∈L\/∃b∈l,a=(b.1,c.getD b.2.toNat 0))/\(∀b∈l,∃t,(b.1,t)∈JB c L l)
 | [],L,f=>⟨f,λ_ h=>h,λ_ h=>.inl h,λ_ h=>by cases h⟩
 | x :: l,L,f=>by
  have e:JB c L (x :: l)=JB c (TV c L x) l:=rfl;rw[e];have h1:((TV c L x).map (·.1)).Nodup/\(∀a∈L,a∈TV c L x)/\(∀a∈TV c L x,a∈L\/a=(x.1,c.getD x.2.toNat 0))/\∃t,(x.1,t)∈TV c L x:=by
   unfold TV;split
   .rename_i g;exact⟨f,λ_ h=>h,λ_ h=>.inl h,_,WM g⟩
   rename_i g;refine⟨?_,λ_ h=>SP _ h,λa h=>?_,c.getD x.2.toNat 0,AAx _ sc⟩
   .rw[SQ,ABU];refine⟨f,by simp,λy k z i e=>?_⟩;obtain⟨a,ha,rfl⟩:=DO.1 k;have i:z=x.1:=by simpa using i
    exact g (nC a ha (e.trans i))
   rcases ON.1 h with h|h
   .exact .inl h
   exact .inr (by simpa using h)
  obtain⟨n1,s1,m,p,j⟩:=h1;obtain⟨o,s2,n,c2⟩:=cM c l _ n1;refine⟨o,λa ha=>s2 a (s1 a ha),λa ha=>?_,λb d=>?_⟩
  .rcases n a ha with h|⟨b,d,h⟩
   .rcases m a h with h|h
    .exact .inl h
    exact .inr ⟨x,by simp,h⟩
   exact .inr ⟨b,by simp[d],h⟩
  rcases Do.1 d with rfl|d
  .exact⟨p,s2 _ j⟩
  exact c2 b d
structure A8u (N:List AE) (c t:List Int) (i:Nat) (g:List AE):Prop where
 len:g.length=N.length
 ty:∀k,k<N.length->(g.getD k (0,[])).1=t.getD k 0
 nd:∀k,((g.getD k (0,[])).2.map (·.1)).Nodup
 inn:∀k,∀a∈(g.getD k (0,[])).2,∃x,x<i/\(c.getD x 0).toNat=k/\∃b∈(N.getD x (0,[])).2,b.1=a.1/\a.2=c.getD b.2.toNat 0
 cov:∀x,x<i->∀b∈(N.getD x (0,[])).2,∃u,(b.1,u)∈(g.getD (c.getD x 0).toNat (0,[])).2
theorem cN {N:List AE} {c t:List Int} (m:TS N.length c):∀ {i:Nat},i<=N.length->A8u N c t i (Da N c t i)
 | 0,_=>by
  have f:∀k,(Da N c t 0).getD k (0,[])=if k<N.length then (t.getD k 0,[]) else (0,[]):=λk=>by
   unfold Da;rw[AS,SR];by_cases hk:k<N.length
   .rw[ABr hk,BY hk];rfl
   rw[SA (by simp;omega),At hk];rfl
  refine⟨by simp[Da],λk hk=>by rw[f,BY hk],λk=>?_,λk a ha=>?_,λx o=>by omega⟩
  .rw[f];split<;>simp
  rw[f]at ha;split at ha<;>cases ha
 | i+1,hi=>by
  have d:=cN (t:=t) m (i:=i) O1;obtain⟨v,w,y⟩:=m.2 i O1;have n:(c.getD i 0).toNat<(Da N c t i).length:=by rw[d.len];omega
  have e:Da N c t (i+1)=Et c (Da N c t i) i (N.getD i (0,[])).2:=rfl;rw[e];generalize Da N c t i=g at *;obtain⟨p,q,r,s⟩:=cM c (N.getD i (0,[])).2 (g.getD (c.getD i 0).toNat (0,[])).2 (d.nd _);have f:∀k,(Et c g i (N.getD i (0,[])).2).getD k (0,[])=if k=(c.getD i 0).toNat then ((g.getD k (0,[])).1,JB c (g.getD k (0,[])).2 (N.getD i (0,[])).2) else g.getD k (0,[]):=λk=>by
   unfold Et;rw[TX _ _ _ _ n];by_cases e:k=(c.getD i 0).toNat
   .rw[BY e,BY e,e]
   rw[At e,At e]
  refine⟨by rw[cL];exact d.len,λk hk=>?_,λk=>?_,λk a ha=>?_,λx o b j=>?_⟩
  .rw[f];split
   .exact d.ty k hk
   exact d.ty k hk
  .rw[f];split
   .rename_i e;rw[e];exact p
   exact d.nd k
  .rw[f]at ha;split at ha
   .rename_i e;subst e;rcases r a ha with h|⟨b,j,h⟩
    .obtain⟨x,h1,l⟩:=d.inn _ a h;exact⟨x,by omega,l⟩
    exact⟨i,by omega,rfl,b,j,by rw[h],by rw[h]⟩
   obtain⟨x,h1,l⟩:=d.inn _ a ha;exact⟨x,by omega,l⟩
  rw[f];by_cases ex:x=i
  .subst ex;rw[BY rfl];exact s b j
  obtain⟨u,hu⟩:=d.cov x O1 b j;split
  .rename_i e;rw[e]at hu ⊢;exact⟨u,q _ hu⟩
  exact⟨u,hu⟩
section
variable {d:List AJ}
theorem Km (d:List AJ):((Bz d).1.map λt=>t.2.1)=(AM d).map λx=>x.2:=by
 show ((Er _ _ _).map λt=>t.2.1)=_;unfold Er;rw[ABS];apply iF
 .simp
 intro i h1 a;simp[AS,show i<(AM d).length by simpa using h1]
theorem iA (d:List AJ):(Bz d).1.length=(AM d).length:=Ka _ _ _
theorem A4N (d:List AJ) {k:Nat} (hk:k<(AM d).length):(Bz d).1.getD k Pw=(((AM d).getD k c0).1,((AM d).getD k c0).2,aZ (AM d) (k:Int),(BG d).1.getD k []):=by
 unfold Bz Er;simp[AS,hk]
theorem Ob (d:List AJ) {t:Int} (a:0<=t) (b:t<((AM d).length:Int)):BN (Bz d) t=((AM d).getD t.toNat c0).2:=by
 unfold BN;rw[A4N d O1]
theorem nS (a:A4 d=0):(BG d).2=0/\(BG d).1=KY d (AM d) (BS d) (AM d).length:=by
 unfold BG;rw[At (by rw[a];simp)];exact⟨rfl,rfl⟩
theorem WN (a:A4 d=0):(A0 d).1=Bz d:=by
 unfold A0;rw[At (by rw[(nS a).1];simp)]
theorem A8v (b:A4 d=0):Ew (Bz d)/\Nd ((Bz d).1.map λt=>t.2.1):=by
 have h1:=Jh d;have a:=Yn d;rw[WN b]at h1 a;exact⟨h1,a⟩
theorem Yw (a:A4 d=0):(Bz d).2=(BS d).map (RK d):=by
 unfold Bz Ef;rw[At (by rw[a];simp)]
theorem A4O (a:A4 d=0) {t:Int} (b:0<=t) (c:t<((AM d).length:Int)):gC (Bz d) t=VW d (AM d) (BS d) t.toNat (BS d).length:=by
 unfold gC;rw[A4N d O1];show (BG d).1.getD t.toNat []=_;rw[(nS a).2];unfold KY;simp[AS,show t.toNat<(AM d).length by omega]
theorem tD (a:A4 d=0):BC d=0/\(CG d).1=AM d/\Le d=0/\(∀s∈BS d,(Dk d s).2=true)/\Ip d (AM d) (BS d) (AM d).length=false:=by
 obtain⟨b,-,f⟩:=CL a;obtain⟨e,-,c⟩:=Bg b;refine⟨e,c,f,?_,?_⟩
 .unfold A4 at a;split at a
  .rename_i h;exact absurd b h
  split at a
  .cases a
  split at a
  .rename_i h;exact absurd a h
  split at a
  .cases a
  rename_i h;exact No.1 (by simpa using h)
 unfold A4 at a;split at a
 .rename_i h;exact absurd b h
 split at a
 .cases a
 split at a
 .rename_i h;exact absurd a h
 split at a
 .cases a
 split at a
 .cases a
 rename_i h;rw[c]at h;simpa using h
def Cd (l:List (List Int)) (c:List Int):Prop:=c=[]\/c∈l
theorem A4P {l:List (List Int)} (hk:Jg l) {c:List Int} (h:Cd l c):Ik c:=by
 rcases h with rfl|h
 .exact λx a=>by cases a
 exact hk.wds c h
theorem A9T {l:List (List Int)} (hk:Jg l) (hn:Nd l) {a b:List Int} (ha:Cd l a) (j:b∈l):Cd l (EW a b):=by
 have f:=A4P hk ha;have g:=hk.wds b j;have m:Nrm (EW a b):=by unfold EW;exact Ll _
 have k:=λi=>Lk f g i;by_cases hi:∃i,BJ a i=true/\BJ b i=true
 .rcases ha with rfl|ha
  .obtain⟨i,h1,-⟩:=hi;unfold BJ at h1;simp at h1
  obtain⟨t,d,e⟩:=hk.meet a ha b j hi;right;rw[gB (OT f g) (hk.wds t d) m (hn.nrm t d) λi=>by rw[k,e]];exact d
 left;refine IF λn=>?_;unfold EW at n;have o:Ik (EW a b):=OT f g;have:∃i,BJ (EW a b) i=true:=by
  have c:=m;rcases c with c|c
  .exact absurd (SG c) n
  exact lV o c
 obtain⟨i,h⟩:=this;rw[k,As]at h;exact hi ⟨i,h⟩
def UsD (d:List AJ) (t:Int) (s:ByteArray) (x:AJ):Prop:=(DR x s).2=true/\Aj (Bz d) (BR (AM d) x.1) t=true
def vcD (d:List AJ) (s:ByteArray) (x:AJ):List Int:=((AM d).getD (BR (AM d) (DR x s).1).toNat c0).2
theorem WO (hn:rD d (AM d)) {x:AJ} (a:x∈d):0<=BR (AM d) x.1/\BR (AM d) x.1<((AM d).length:Int):=⟨hn.1 x a,Io _ _⟩
theorem A4Q (hn:rD d (AM d)) {x:AJ} (b:x∈d) {s:ByteArray} (a:(DR x s).2=true):0<=BR (AM d) (DR x s).1/\BR (AM d) (DR x s).1<((AM d).length:Int):=⟨hn.value b a,Io _ _⟩
theorem w4 (d:List AJ) {k:Int} (a:0<=k) (b:k<((AM d).length:Int)):((AM d).getD k.toNat c0).2∈(AM d).map λx=>x.2:=DO.2 ⟨_,BI O1,rfl⟩
theorem A0I (hk:Ew (Bz d)) {a t:Int} (b:0<=a) (g:a<((AM d).length:Int)) (c:0<=t) (h:t<((AM d).length:Int)):L8 (AM d) a t=Aj (Bz d) a t:=by
 have j:=iA d;have e:a<((Bz d).1.length:Int):=by omega
 have f:t<((Bz d).1.length:Int):=by omega
 have i:=hk.1.wds _ (Bj b e);have wt:=hk.1.wds _ (Bj c f);rw[ACB];unfold L8;rw[<-Ob d b g,<-Ob d c h,Fz wt i];exact(BV hk b e c f).symm
theorem iB (hk:Ew (Bz d)) (h:Nd ((Bz d).1.map λt=>t.2.1)) (hn:rD d (AM d)) {t:Int} (p:0<=t) (q:t<((AM d).length:Int)) (s:ByteArray):∀(r:List AJ) (o:List Int×Bool),(∀x∈r,x∈d)->Cd ((AM d).map λx=>x.2) o.1 ->
  Cd ((AM d).map λx=>x.2) (r.foldl (KX (AM d) t s) o).1/\((r.foldl (KX (AM d) t s) o).2=true↔o.2=true\/∃x∈r,UsD d t s x)/\∀i,BJ (r.foldl (KX (AM d) t s) o).1 i=true↔BJ o.1 i=true/\∀x∈r,UsD d t s x->BJ (vcD d s x) i=true
 | [],o,_,g=>⟨g,by simp,λi=>by simp⟩
 | x :: r,o,n,g=>by
  rw[Km]at h;have m:Jg ((AM d).map λx=>x.2):=by have:=hk.1;rwa [Km]at this
  have w:=n x sc;obtain⟨n0,n1⟩:=WO hn w;have u:=A0I hk n0 n1 p q;rw[On];by_cases hu:UsD d t s x
  .obtain⟨v0,v1⟩:=A4Q hn w hu.1;have e:KX (AM d) t s o x=(EW o.1 (vcD d s x),true):=by
    unfold KX;rw[At]
    .rfl
    rw[hu.1,u,hu.2];simp
   have v:vcD d s x∈(AM d).map λx=>x.2:=w4 d v0 v1;obtain⟨h1,k,l⟩:=iB hk (by rw[Km];exact h) hn p q s r (KX (AM d) t s o x) (λy f=>n y (by simp[f])) (by rw[e];exact A9T m h g v);refine⟨h1,?_,λi=>?_⟩
   .rw[k,e];exact⟨λ_=>.inr ⟨x,by simp,hu⟩,λ_=>.inl rfl⟩
   rw[l,e];simp only;rw[Lk (A4P m g) (m.wds _ v),As];constructor
   .rintro⟨⟨a,b⟩,c⟩;refine⟨a,λy f j=>?_⟩;rcases Do.1 f with rfl|f
    .exact b
    exact c y f j
   rintro⟨a,b⟩;exact⟨⟨a,b x sc hu⟩,λy f=>b y (by simp[f])⟩
  have e:KX (AM d) t s o x=o:=by
   unfold KX;rw[BY];rw[u];unfold UsD at hu;cases h1:(DR x s).2 with
   | false=>simp
   | true =>
    rw[h1]at hu;have:Aj (Bz d) (BR (AM d) x.1) t=false:=by simpa using hu
    rw[this];simp
  obtain⟨h1,k,l⟩:=iB hk (by rw[Km];exact h) hn p q s r (KX (AM d) t s o x) (λy f=>n y (by simp[f])) (by rw[e];exact g);refine⟨h1,?_,λi=>?_⟩
  .rw[k,e];constructor
   .rintro (a|⟨y,f,a⟩)
    .exact .inl a
    exact .inr ⟨y,by simp[f],a⟩
   rintro (a|⟨y,f,a⟩)
   .exact .inl a
   rcases Do.1 f with rfl|f
   .exact absurd a hu
   exact .inr ⟨y,f,a⟩
  rw[l,e];constructor
  .rintro⟨a,b⟩;refine⟨a,λy f j=>?_⟩;rcases Do.1 f with rfl|f
   .exact absurd j hu
   exact b y f j
  rintro⟨a,b⟩;exact⟨a,λy f=>b y (by simp[f])⟩
theorem Yx {b:List Int}:∀ {l:List AR} {k:Nat},(∃x∈l,x.2=b)->∃j:Nat,j<l.length/\Q5 b k l=((k+j:Nat):Int)/\(l.getD j c0).2=b
 | [],k,⟨x,a,_⟩=>by cases a
 | y :: l,k,⟨x,a,e⟩=>by
  unfold Q5;by_cases h:Gu y.2 b=true
  .rw[BY h];exact⟨0,by simp,rfl,by simpa[Gu] using h⟩
  rw[At h];rcases Do.1 a with rfl|a
  .exact absurd (by simpa[Gu] using e) h
  obtain⟨j,h1,c,d⟩:=Yx (k:=k+1) ⟨x,a,e⟩;exact⟨j+1,by simp only[Is];omega,by rw[c];congr 1;omega,by simpa using d⟩
theorem tE {b:List Int} (h:Nrm b):BQ b=b:=by
 unfold BQ;have:Ck b b.length=b.length:=by
  rcases h with h|h
  .rw[h];rfl
  cases e:b.length with
  | zero=>rfl
  | succ m =>
   rw[e]at h;show (if b.getD m 0=0 then Ck b m else m+1)=m+1;rw[At (by simpa using h)]
 rw[this,R6]
theorem Rk (b:A4 d=0) {t:Int} (z:0<=t) (J:t<((AM d).length:Int)) {s:ByteArray} (hs:s∈BS d) :
  ((Fy d (AM d) t s).2=true↔∃x∈d,UsD d t s x)/\((Fy d (AM d) t s).2=true->(0<=Hs (AM d) (Fy d (AM d) t s).1/\Hs (AM d) (Fy d (AM d) t s).1<((AM d).length:Int)) /\
   ∀i,BJ (BN (Bz d) (Hs (AM d) (Fy d (AM d) t s).1)) i=true↔∀x∈d,UsD d t s x->BJ (vcD d s x) i=true):=by
 obtain⟨n,-,D,-,u⟩:=tD b;obtain⟨hk,p⟩:=A8v b;have hn:=RJ n D;have L:=vW n;have r:=Nh d;rw[WN b]at r;have K:Jg ((AM d).map λx=>x.2):=by have:=hk.1;rwa [Km]at this
 have q:=p;rw[Km]at q;have A:=w4 d (ACD 0) (by omega:(0:Int)<((AM d).length:Int));obtain⟨g,a,m⟩:=iB hk p hn z J s d (((AM d).getD 0 c0).2,false) (λx f=>f) (.inr A);have e:Fy d (AM d) t s=d.foldl (KX (AM d) t s) (((AM d).getD 0 c0).2,false):=rfl;rw[<-e]at g a m;refine⟨by rw[a];simp,λhu=>?_⟩;have E:(Fy d (AM d) t s).1≠[]:=by
  intro G;have h1:Lg d (AM d) t.toNat s=true:=by
   unfold Lg;rw[AC3 z,hu,G];rfl
  have B:Ip d (AM d) (BS d) (AM d).length=true:=by
   unfold Ip;refine R9.2 ⟨t.toNat,SH.2 O1,?_⟩;unfold fX;exact R9.2 ⟨s,hs,h1⟩
  rw[B]at u;cases u
 have o:(Fy d (AM d) t s).1∈(AM d).map λx=>x.2:=g.resolve_left E;obtain⟨x,f,ex⟩:=DO.1 o;obtain⟨j,M,H,I⟩:=Yx (l:=AM d) (k:=0) ⟨x,f,ex⟩;have hf:Hs (AM d) (Fy d (AM d) t s).1=(j:Int):=by
  unfold Hs;rw[tE (q.nrm _ o),H];simp
 rw[hf];refine⟨⟨Tw _,by omega⟩,λi=>?_⟩;rw[Ob d (Tw _) O1,R3,I,m];constructor
 .exact λh=>h.2
 intro h;refine⟨?_,h⟩;obtain⟨y,v,w⟩:=(a.1 hu).resolve_left sc;obtain⟨v0,v1⟩:=A4Q hn v w.1;have C:=h y v w;have c:=iA d;have F:=r _ v0 (by rw[c];exact v1);have:=(BV hk (ACD 0) (by rw[c];omega) v0 (by rw[c];exact v1)).1 F i;unfold lW at this;rw[Ob d (ACD 0) O1,Ob d v0 v1]at this;exact this C
theorem TZ {s:ByteArray}:∀ {r:List AJ} {o:List ByteArray} {y:ByteArray},y∈r.foldl (H0 s) o->y∈o\/∃x∈r,x.1=y/\(DR x s).2=true
 | [],_,_,h=>.inl h
 | x :: r,o,y,h=>by
  rw[On]at h;rcases TZ h with h|⟨z,b,h⟩
  .unfold H0 at h;split at h
   .rename_i a;rcases Hc h with h|h
    .exact .inl h
    exact .inr ⟨x,by simp,h.symm,a⟩
   exact .inl h
  exact .inr ⟨z,by simp[b],h⟩
theorem Yy {s:ByteArray} (h:(Dk d s).2=true):∃x∈d,x.1=(Dk d s).1/\(DR x s).2=true:=by
 unfold Dk at h ⊢;split
 .rename_i h1;have a:(A9 d (Fx d s)).getD 0 ByteArray.empty∈A9 d (Fx d s):=BI O1;exact(TZ (ID a)).resolve_left sc
 rename_i h1;rw[At h1]at h;cases h
theorem tF (d:List AJ):bQ (A0 d).1:=by
 by_cases a:A4 d=0
 .rw[WN a];obtain⟨l,-,m,n,-⟩:=tD a;have hn:=RJ l m;have h:=iA d;refine⟨λx b=>?_,λt g p c=>?_⟩
  .rw[Yw a]at b;obtain⟨s,hs,rfl⟩:=DO.1 b;obtain⟨y,o,e,-⟩:=Yy (n s hs);rw[h];show 0<=BR (AM d) (Dk d s).1/\BR (AM d) (Dk d s).1<((AM d).length:Int);rw[<-e];exact WO hn o
  obtain⟨k,hk,e⟩:=CN Pw g;rw[h]at hk ⊢;have f:=A4O a (t:=(k:Int)) (Tw _) O1;unfold gC at f;rw[R3,e]at f;rw[f]at c;unfold VW at c;obtain⟨i,hi,rfl⟩:=DO.1 c;obtain⟨h1,j⟩:=Tz.1 hi;have h1:=SH.1 h1;exact((Rk a (t:=(k:Int)) (Tw _) O1 (BI h1)).2 j).1
 have:(A0 d).1=([],[]):=by
  unfold A0 BG;rw[BY a,BY a]
 rw[this];exact⟨λx b=>(by cases b),λt g=>(by cases g)⟩
end
structure HAp (h:AG):Prop where
 iff:∀t f,0<=t->t<(h.1.length:Int)->0<=f->f<(h.2.length:Int)->((BW h t f).2=true↔Aj h (Ke h f) t=true)
 mono:∀t t' f,0<=t->t<(h.1.length:Int)->0<=t'->t'<(h.1.length:Int)->0<=f->f<(h.2.length:Int)->Aj h t t'=true->(BW h t f).2=true->Aj h (BW h t f).1 (BW h t' f).1=true
def Hn (h:AG) (m:Nat) (u:List Int):Prop:=u.length=m/\∀t∈u,0<=t/\t<(h.1.length:Int)
theorem Hn.get {h:AG} {m:Nat} {u:List Int} (hu:Hn h m u) {n:Nat} (n1:n<m):0<=u.getD n 0/\u.getD n 0<(h.1.length:Int):=by
 have a:n<u.length:=by rw[hu.1];exact n1
 rw[AS,AT a];exact hu.2 _ (nO a)
theorem Om.tyl {h:AG} {m:Nat} {s:Ei} (hs:Om h m s):Hn h m s.1:=⟨hs.len,hs.ty⟩
def GJ (h:AG) (m:Nat) (u v:List Int):Prop:=∀i,i<m->Aj h (u.getD i 0) (v.getD i 0)=true
def Yz (h:AG) (u:List Int) (n:Int) (l:List (Int×Int)):Prop:=∀a∈l,(BW h (u.getD n.toNat 0) a.1).2=true/\Aj h (BW h (u.getD n.toNat 0) a.1).1 (u.getD a.2.toNat 0)=true
def WTy (h:AG) (f:List AE) (u:List Int):Prop:=∀i,i<f.length->Yz h u (i:Int) (f.getD i (0,[])).2
theorem GJ.refl {h:AG} (hk:Ew h) {m:Nat} {u:List Int} (hu:Hn h m u):GJ h m u u:=λi hi=>WF hk (hu.get hi).1 (hu.get hi).2
theorem GJ.trans {h:AG} (hk:Ew h) {m:Nat} {u v w:List Int} (hu:Hn h m u) (a:Hn h m v) (b:Hn h m w) (h1:GJ h m u v) (c:GJ h m v w):GJ h m u w:=λi hi =>
 Gf hk (hu.get hi).1 (hu.get hi).2 (a.get hi).1 (a.get hi).2 (b.get hi).1 (b.get hi).2 (h1 i hi) (c i hi)
theorem GJ.anti {h:AG} (hi:KB h) {m:Nat} {u v:List Int} (hu:Hn h m u) (b:Hn h m v) (h1:GJ h m u v) (d:GJ h m v u):u=v:=by
 refine iF (by rw[hu.1,b.1]) λi c e=>?_;have a:i<m:=by rw[<-hu.1];exact c
 have:=hi _ _ (hu.get a).1 (hu.get a).2 (b.get a).1 (b.get a).2 (h1 i a) (d i a)
 rwa [AS,AT c,AS,AT e]at this
structure w5 (h:AG) (m:Nat) (s s':Ei):Prop where
 up:GJ h m s.1 s'.1
 pre:s.2 <+: s'.2
 ch:∀k:Nat,k<m->s'.1.getD k 0=s.1.getD k 0\/(k:Int)∈s'.2.drop s.2.length
theorem w5.refl {h:AG} (hk:Ew h) {m:Nat} {s:Ei} (hs:Om h m s):w5 h m s s:=⟨GJ.refl hk hs.tyl,ACe _,λ_ _=>.inl rfl⟩
theorem Ta {l l':List Int} (a:l <+: l') {n:Nat} {x:Int} (h:x∈l.drop n):x∈l'.drop n:=by
 obtain⟨r,rfl⟩:=a;rw[AE0];exact SP _ h
theorem Rl {l:List Int} {a b:Nat} (c:a<=b) {x:Int} (h:x∈l.drop b):x∈l.drop a:=by
 have:l.drop b=(l.drop a).drop (b-a):=by rw[ADa];congr 1;omega
 rw[this]at h;exact ACE h
theorem w5.trans {h:AG} (hk:Ew h) {m:Nat} {a b c:Ei} (ha:Om h m a) (i:Om h m b) (j:Om h m c) (h1:w5 h m a b) (d:w5 h m b c):w5 h m a c:=by
 refine⟨h1.up.trans hk ha.tyl i.tyl j.tyl d.up,h1.pre.trans d.pre,λk g=>?_⟩;rcases d.ch k g with f|f
 .rcases h1.ch k g with e|e
  .exact .inl (f.trans e)
  exact .inr (Ta d.pre e)
 exact .inr (Rl h1.pre.length_le f)
theorem Tc {h:AG} (hk:Ew h) (hi:KB h) {m:Nat} {s c:Ei} (hs:Om h m s) {n t:Int} (n0:0<=n) (n1:n<(m:Int)) (f:0<=t) (g:t<(h.1.length:Int)) (e:DS h s n t=some c) :
  w5 h m s c/\Aj h t (c.1.getD n.toNat 0)=true:=by
 have r:=(FJ hk hi hs n0 n1 f g e).1;obtain⟨i,j⟩:=hs.get n0 n1;unfold DS at e;split at e
 .rename_i o;obtain⟨u,w,q,d⟩:=(NK hk i j f g).1 o;generalize (Bu h (s.1.getD n.toNat 0) t).1=v at *;injection e with e
  split at e
  .rename_i p;subst e;exact⟨w5.refl hk hs,by rw[<-p];exact d⟩
  subst e;have l:n.toNat<s.1.length:=by rw[hs.len];omega
  have a:∀k:Nat,(s.1.set n.toNat v).getD k 0=if k=n.toNat then v else s.1.getD k 0:=λk=>HJ _ _ _ l k
  refine⟨⟨λk b=>?_,ADH _ _,λk b=>?_⟩,?_⟩
  .simp only;rw[a];split
   .rename_i e;rw[e];exact q
   exact WF hk (hs.tyl.get b).1 (hs.tyl.get b).2
  .simp only;rw[a];split
   .rename_i e;right;rw[AE0,AAu,f4];exact AAx _ (by simp;omega)
   exact .inl rfl
  simp only;rw[a,BY rfl];exact d
 cases e
theorem cO {h:AG} (hk:Ew h) (hi:KB h) {m:Nat} {s:Ei} (hs:Om h m s) {n t:Int} (n0:0<=n) (n1:n<(m:Int)) (p:0<=t) (q:t<(h.1.length:Int)) {u:List Int} (hu:Hn h m u) (a:GJ h m s.1 u) (j:Aj h t (u.getD n.toNat 0)=true) :
  ∃c,DS h s n t=some c/\GJ h m c.1 u:=by
 obtain⟨d,f⟩:=hs.get n0 n1;have b:n.toNat<m:=by omega
 obtain⟨r,v⟩:=hu.get b;obtain⟨l,o⟩:=(NK hk d f p q).2 _ r v (a _ b) j;unfold DS;rw[BY l];refine⟨_,rfl,?_⟩;split
 .exact a
 intro k g;have i:n.toNat<s.1.length:=by rw[hs.len];omega
 simp only;rw[HJ _ _ _ i k];split
 .rename_i e;rw[e];exact o
 exact a k g
section
variable {h:AG} (hk:Ew h) (hi:KB h) (hf:bQ h) (hap:HAp h) {m:Nat} {n:Int} (n0:0<=n) (n1:n<(m:Int))
include hk hi hf n0 n1
theorem iC:∀ {l:List (Int×Int)} {s c:Ei},(∀a∈l,GF h m a)->Om h m s->NQ h n l s=some c->w5 h m s c/\∀a∈l,Aj h (Ke h a.1) (c.1.getD n.toNat 0)=true
 | [],s,c,_,hs,e=>by
  injection e with e
  subst e;exact⟨w5.refl hk hs,λa ha=>by cases ha⟩
 | a :: l,s,c,o,hs,e=>by
  unfold NQ at e;cases g:DS h s n (Ke h a.1) with
  | none=>rw[g]at e;cases e
  | some s1 =>
   rw[g]at e;obtain⟨⟨r,t⟩,-⟩:=o a sc;obtain⟨j,k⟩:=Hj hf r t;obtain⟨d,-,-⟩:=FJ hk hi hs n0 n1 j k g;obtain⟨v,w⟩:=Tc hk hi hs n0 n1 j k g;have p:∀b∈l,GF h m b:=λb f=>o b (IN _ f);have e:NQ h n l s1=some c:=e;obtain⟨q,u⟩:=iC p d e;have i:=(RW hk hi hf n0 n1 p d e).1;refine⟨v.trans hk hs d i q,λb f=>?_⟩;rcases Do.1 f with rfl|f
   .exact Gf hk j k (d.get n0 n1).1 (d.get n0 n1).2 (i.get n0 n1).1 (i.get n0 n1).2 w (q.up _ O1)
   exact u b f
theorem w7:∀ {l:List (Int×Int)} {s c:Ei},(∀a∈l,GF h m a)->Om h m s->Ol h n l s=some c->w5 h m s c/\(n∈c.2.drop s.2.length\/(c.1.getD n.toNat 0=s.1.getD n.toNat 0/\∀a∈l,(BW h (s.1.getD n.toNat 0) a.1).2=true/\Aj h (BW h (s.1.getD n.toNat 0) a.1).1 (c.1.getD a.2.toNat 0)=true))
 | [],s,c,_,hs,e=>by
  injection e with e
  subst e;exact⟨w5.refl hk hs,.inr ⟨rfl,λa ha=>by cases ha⟩⟩
 | a :: l,s,c,t,hs,e=>by
  unfold Ol at e;split at e
  .rename_i v;obtain⟨w,x⟩:=hs.get n0 n1;obtain⟨o,p⟩:=EZ hf w x v;cases j:DS h s a.2 (BW h (s.1.getD n.toNat 0) a.1).1 with
   | none=>rw[j]at e;cases e
   | some s1 =>
    rw[j]at e;obtain⟨-,d,b1⟩:=t a sc;obtain⟨g,-,-⟩:=FJ hk hi hs d b1 o p j;obtain⟨r,A⟩:=Tc hk hi hs d b1 o p j;have u:∀b∈l,GF h m b:=λb f=>t b (IN _ f);have e:Ol h n l s1=some c:=e;obtain⟨q,i⟩:=w7 u g e;have k:=(WG hk hi hf n0 n1 u g e).1;refine⟨r.trans hk hs g k q,?_⟩;have y:((n.toNat:Nat):Int)=n:=AC3 n0;rcases r.ch n.toNat O1 with c1|c1
    .rcases i with i|⟨i,z⟩
     .exact .inl (Rl r.pre.length_le i)
     refine .inr ⟨i.trans c1,λb f=>?_⟩;rcases Do.1 f with rfl|f
     .exact⟨v,Gf hk o p (g.get d b1).1 (g.get d b1).2 (k.get d b1).1 (k.get d b1).2 A (q.up _ O1)⟩
     have:=z b f
     rwa [c1]at this
    rw[y]at c1;exact .inl (Ta q.pre c1)
  cases e
include hap
theorem w8 {u:List Int} (hu:Hn h m u):∀ {l:List (Int×Int)} {s:Ei},(∀a∈l,GF h m a)->Om h m s->GJ h m s.1 u->(∀a∈l,(BW h (u.getD n.toNat 0) a.1).2=true)->∃c,NQ h n l s=some c/\GJ h m c.1 u
 | [],s,_,_,e,_=>⟨s,rfl,e⟩
 | a :: l,s,j,hs,e,k=>by
  obtain⟨⟨f,g⟩,-⟩:=j a sc;obtain⟨o,p⟩:=Hj hf f g;obtain⟨v,w⟩:=hu.get (show n.toNat<m by omega);obtain⟨s1,i,h1⟩:=cO hk hi hs n0 n1 o p hu e ((hap.iff _ _ v w f g).1 (k a sc));obtain⟨r,-,-⟩:=FJ hk hi hs n0 n1 o p i;obtain⟨c,q,t⟩:=w8 hu (λb d=>j b (IN _ d)) r h1 λb d=>k b (IN _ d);exact⟨c,by unfold NQ;rw[i];exact q,t⟩
theorem w9 {u:List Int} (hu:Hn h m u):∀ {l:List (Int×Int)} {s:Ei},(∀a∈l,GF h m a)->Om h m s->GJ h m s.1 u->(∀a∈l,Aj h (Ke h a.1) (s.1.getD n.toNat 0)=true)->Yz h u n l->∃j,Ol h n l s=some j/\GJ h m j.1 u
 | [],s,_,_,f,_,_=>⟨s,rfl,f⟩
 | a :: l,s,p,hs,f,y,z=>by
  obtain⟨⟨v,w⟩,k,b1⟩:=p a sc;obtain⟨d,e⟩:=hs.get n0 n1;have q:n.toNat<m:=by omega
  have x:a.2.toNat<m:=by omega
  obtain⟨A,B⟩:=hu.get q;have r:=(hap.iff _ _ d e v w).2 (y a sc);obtain⟨g,i⟩:=EZ hf d e r;obtain⟨I,J⟩:=z a sc;obtain⟨v0,v1⟩:=EZ hf A B I;have E:=hap.mono _ _ a.1 d e A B v w (f _ q) r;obtain⟨s1,o,h1⟩:=cO hk hi hs k b1 g i hu f (Gf hk g i v0 v1 (hu.get x).1 (hu.get x).2 E J);obtain⟨t,-,-⟩:=FJ hk hi hs k b1 g i o;obtain⟨H,-⟩:=Tc hk hi hs k b1 g i o;obtain⟨j,C,D⟩:=w9 hu (λb c=>p b (IN _ c)) t h1 (λb c=>by
   obtain⟨⟨c0,c1⟩,-⟩:=p b (IN _ c);obtain⟨F,G⟩:=Hj hf c0 c1;exact Gf hk F G d e (t.get n0 n1).1 (t.get n0 n1).2 (y b (IN _ c)) (H.up _ q)) λb c=>z b (IN _ c)
  exact⟨j,by unfold Ol;rw[BY r,o];exact C,D⟩
end
section
variable {h:AG} (hk:Ew h) (hi:KB h) (hf:bQ h) (hap:HAp h) {f:List AE} (ha:NR h f)
include hk hi hf hap ha
theorem A4R {n:Int} (n0:0<=n) (n1:n<(f.length:Int)) {s c:Ei} (hs:Om h f.length s) (e:MJ h f n s=some c):w5 h f.length s c/\(n∈c.2.drop s.2.length\/Yz h c.1 n (f.getD n.toNat (0,[])).2):=by
 have _:=hap;have g:=NS ha n0 n1;unfold MJ at e;cases d:NQ h n (f.getD n.toNat (0,[])).2 s with
 | none=>rw[d]at e;cases e
 | some s1 =>
  rw[d]at e;have i:=(RW hk hi hf n0 n1 g hs d).1;obtain⟨j,-⟩:=iC hk hi hf n0 n1 g hs d;have e:Ol h n (f.getD n.toNat (0,[])).2 s1=some c:=e;have k:=(WG hk hi hf n0 n1 g i e).1;obtain⟨l,b⟩:=w7 hk hi hf n0 n1 g i e;refine⟨j.trans hk hs i k l,?_⟩;rcases b with b|⟨b,m⟩
  .exact .inl (Rl j.pre.length_le b)
  refine .inr λa ha=>?_;rw[b];exact m a ha
theorem A4S {n:Int} (n0:0<=n) (n1:n<(f.length:Int)) {s:Ei} (hs:Om h f.length s) {u:List Int} (hu:Hn h f.length u) (d:Yz h u n (f.getD n.toNat (0,[])).2) (j:GJ h f.length s.1 u):∃e,MJ h f n s=some e/\GJ h f.length e.1 u:=by
 have b:=NS ha n0 n1;obtain⟨s1,c,h1⟩:=w8 hk hi hf hap n0 n1 hu b hs j λa ha=>(d a ha).1;have k:=(RW hk hi hf n0 n1 b hs c).1;obtain⟨-,l⟩:=iC hk hi hf n0 n1 b hs c;obtain⟨s2,g,i⟩:=w9 hk hi hf hap n0 n1 hu b k h1 l d;exact⟨s2,by unfold MJ;rw[c];exact g,i⟩
def ABB (h:AG) (f:List AE) (i:Nat) (s:Ei):Prop:=∀n:Nat,n<f.length->Yz h s.1 (n:Int) (f.getD n (0,[])).2\/(n:Int)∈s.2.drop i
theorem A7v {n:Nat} (hn:n<f.length) {s d:Ei} (hs:Om h f.length s) (i:Om h f.length d) (j:w5 h f.length s d) (p:Yz h s.1 (n:Int) (f.getD n (0,[])).2):Yz h d.1 (n:Int) (f.getD n (0,[])).2\/(n:Int)∈d.2.drop s.2.length:=by
 have _:=hap;have _:=hi;have o:∀a∈(f.getD n (0,[])).2,GF h f.length a:=ha _ (AD f (0,[]) hn);rcases j.ch n hn with c|c
 .left;intro a g;obtain⟨e,k⟩:=p a g;obtain⟨-,b,b1⟩:=o a g;rw[R3]at e k ⊢;rw[c];obtain⟨l,m⟩:=hs.tyl.get hn;obtain⟨q,r⟩:=EZ hf l m e;exact⟨e,Gf hk q r (hs.get b b1).1 (hs.get b b1).2 (i.get b b1).1 (i.get b b1).2 k (j.up _ O1)⟩
 exact .inr c
theorem xA:∀ {k i:Nat} {s:Ei} {ty:List Int},Om h f.length s->ABB h f i s->wlF h f k i s=some ty->WTy h f ty/\GJ h f.length s.1 ty/\Hn h f.length ty
 | 0,_,_,_,_,_,e=>by cases e
 | k+1,i,s,ty,hs,m,e=>by
  unfold wlF at e;split at e
  .rename_i d;have q:=AD s.2 (0:Int) d;obtain⟨n0,n1⟩:=hs.wt _ q;generalize hn:s.2.getD i 0=n at *;cases c:MJ h f n s with
   | none=>rw[c]at e;cases e
   | some s1 =>
    rw[c]at e;have g:=(YN hk hi hf ha n0 n1 hs c).1;obtain⟨j,b⟩:=A4R hk hi hf hap ha n0 n1 hs c;have t:ABB h f (i+1) s1:=by
     intro o l;rcases m o l with r|a
     .rcases A7v hk hi hf hap ha l hs g j r with h1|h1
      .exact .inl h1
      exact .inr (Rl O1 h1)
     have u:s.2.drop i=n :: s.2.drop (i+1):=by
      rw[IS d,<-hn,AS,AT d];rfl
     rw[u]at a;rcases Do.1 a with a|a
     .rcases b with b|b
      .exact .inr (by rw[a];exact Rl O1 b)
      left;rw[a];have:n.toNat=o:=by omega
      rw[this]at b;exact b
     exact .inr (Ta j.pre a)
    have e:wlF h f k (i+1) s1=some ty:=e;obtain⟨v,w,p⟩:=xA g t e;exact⟨v,j.up.trans hk hs.tyl g.tyl p w,p⟩
  rename_i d;injection e with e
  subst e;refine⟨λn hn=>?_,GJ.refl hk hs.tyl,hs.tyl⟩;rcases m n hn with h1|h1
  .exact h1
  rw[By O1]at h1;cases h1
theorem A4T {u:List Int} (hu:Hn h f.length u) (d:WTy h f u):∀ {k i:Nat} {s:Ei},Om h f.length s->i<=s.2.length->OV h s.1+s.2.length+1<=k+i->GJ h f.length s.1 u->∃ty,wlF h f k i s=some ty/\GJ h f.length ty u
 | 0,i,s,hs,j,l,b=>by omega
 | k+1,i,s,hs,j,l,b=>by
  unfold wlF;by_cases a:i<s.2.length
  .rw[BY a];obtain⟨n0,n1⟩:=hs.wt _ (AD s.2 (0:Int) a);have e:=d (s.2.getD i 0).toNat O1;rw[AC3 n0]at e;obtain⟨s1,c,h1⟩:=A4S hk hi hf hap ha n0 n1 hs hu e b;obtain⟨g,m,n⟩:=YN hk hi hf ha n0 n1 hs c;rw[c];exact A4T hu d g O1 O1 h1
  rw[At a];exact⟨s.1,rfl,b⟩
theorem Y0 (a:∀x∈f,0<=x.1/\x.1<(h.1.length:Int)) {ty:List Int} (e:Gg h f=some ty):WTy h f ty/\GJ h f.length (A2 f) ty/\Hn h f.length ty:=by
 have e:wlF h f (Iy h f) 0 (A2 f,Es f)=some ty:=e;refine xA hk hi hf hap ha (k:=Iy h f) (i:=0) (s:=(A2 f,Es f)) (mK a) (λn hn=>.inr ?_) e;rw[f4];exact DO.2 ⟨n,SH.2 hn,rfl⟩
theorem Ni (b:∀x∈f,0<=x.1/\x.1<(h.1.length:Int)) {u:List Int} (hu:Hn h f.length u) (c:WTy h f u) (a:GJ h f.length (A2 f) u):∃ty,Gg h f=some ty/\GJ h f.length ty u :=
 A4T hk hi hf hap ha hu c (k:=Iy h f) (i:=0) (s:=(A2 f,Es f)) (mK b) (If _) (gI h f) a
end
end Go.Proofs.YtapkhdkbkodbjaaGreat.Fw
