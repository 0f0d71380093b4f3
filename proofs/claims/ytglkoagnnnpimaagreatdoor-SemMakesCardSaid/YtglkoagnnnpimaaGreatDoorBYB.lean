/- Contracts of functions and plain laws. -/
import Derived.Test.YtglkoagnnnpimaaGreatDoorBYA
import Derived.Test.YtglkoagnnnpimaaGreatDoorBZI
import Derived.Test.YtglkoagnnnpimaaGreatDoorBZJ
import Derived.Laws.Strings
set_option linter.unusedVariables false
set_option linter.unusedSimpArgs false
namespace Go.Proofs.YtglkoagnnnpimaaGreatDoor.Fw
attribute [local irreducible] Ev
attribute [local go_sem] nQ AL List.toList_toArray B0 evG evK Wg E0 LC IE G5 GU RW LB CS Di Oe DK Cr frz rT Gm DX BB Fz Ba AV.frz AV.frzs AV.drp AV.drps AV.names AV.namess aq Gn Kz K2 TX Jg Bv B3 KV EJ Jj EK Jl Jk Jm We RM HS MN F1 EZ Wf SH qUn KW I1 NX FM D8 Jn K4 Ep TZ Cz Eq FN SI I2 Oc FO Ob RP SJ M7 Jo K5 DY DD K0 D9 Ic DS FP DT Er GT DK C2 OZ SG QH G0 Ji Jh K3 Od RS M8 Nb NZ K7 Ta Na K8 bJ RU RT AV.trn AV.trns EI Cy Obj.trn Kd jZ DV Dt DU Es CX FQ Af lk H9 Gt Ia bin rR Yu rV TY TV zfx AV.cellss rS zfs pfs AV.cells CO Eo I0 F2 RR CP Oa Ty.cell1 Jf E3 D7 GR IZ Em Kt M6 OY GQ Gz NW TT Wd Mu Ks bF iW TW IA C3 HR RV.flat Ty.flat Ty.size St.add upd del Bd Value.oneCell' Ys Ty.dflt Jd Sp I8 Sw List.take_succ_cons List.take_zero List.length_cons nU nV Sv LT PC JA Ma A36 G6 Oz O2 O3 O4 Tz T6 O5 Jy ZH Option.map_some Option.map_none Option.bind_some Option.getD_some Option.getD_none Option.isNone_none Option.isNone_some Bool.and_true Bool.true_and Bool.and_false Bool.false_and Bool.not_true Bool.not_false if_true if_false List.length_cons List.length_nil and_true true_and and_self List.all_cons List.all_nil List.append_nil List.nil_append List.cons_append List.getElem?_cons_zero List.getElem?_cons_succ List.getElem?_nil List.map_cons List.map_nil List.set_cons_zero List.set_cons_succ List.isEmpty_nil List.isEmpty_cons decide_true decide_false beq_self_eq_true bne_self_eq_false Nat.zero_add Nat.add_zero Nat.sub_zero Int.toNat_natCast Int.toNat_zero Int.toNat_one List.take_length List.length_append List.length_singleton true_or or_true or_self false_or or_false Ty.agg.injEq Ty.slice.injEq Ty.prod.injEq Ty.int.injEq Option.some.injEq beq_iff_eq LR evMG evMQ opM Im NC CB Kb G7 UA Ka Il Jz MY LQ QQ O8 QR UB O7 Sr Ss MX Ac Al Op.operands Call.operands List.filterMap_cons List.filterMap_nil List.append_eq Bool.cond_false_right Bool.cond_true_left cond_true cond_false implies_true decide_eq_true_eq beq_true beq_false Bool.or_true Bool.or_false Bool.true_or Bool.false_or Option.isSome_some Array.empty_append List.append_toArray F0 Og FT IB bI RQ bH GS HI HH I3 Ib K6 NY Yv rU HG inB K9 GM G1 LA Ai nZ List.drop_zero D4 IH cL C5 Nq Cq AV.fgt AV.fgts Obj.fgt A0 Ax Ac EP LV Bw LX List.any_cons List.any_nil n6 jS cN jT Mv SM qs List.flatMap_cons List.flatMap_nil List.cons_append tn cU ND List.take_succ_cons List.drop_succ_cons cW Hf Bb x8 Qa CR Cm Ao FW LL B5 matchAVs DE Ik Jw Ha Jx
attribute [local go_sem] ty1 s9 ty3 ty4 ty5 ty9 A6A A6B A6C A6D A6E A6F A6G A6H A6I A6J A6K A6L A6M A6N A6O A6P A6Q A6R A6S A6T A6U A6V A6W A6X A6Y A6Z A70 A71 yH yI yJ yK yL yM yN yO yP yQ yR yS yT yU yV yW yX yY yZ y3 y4 y5 y6 y7 y8 y9 zA zB zC zD zE zF zG zH zI zJ zK zL
set_option maxRecDepth 100000
set_option maxHeartbeats 4000000
variable {f g c:List AD} {p v Q:List Int} {n b S:Int} {k j P:Nat} {h:AE} {l U:List (Int×Int)} {s x y:ByteArray} {Z:List (Int×List (Int×Int))} {Y:List (List (Int×Int))} {m w:Int->Int} {A:List (List AD)} {X:Type} {a:Int×Int} {q:Int->Nat} {W d:D6} {V:List (Int×Bool)} {T:List (List Int)} {R:List Bool} {O:AD} {N:AQ}
theorem fF {L:Go.Loop} (h1:L.state=.ready) (a:L.pending=none):{ { L with state:=.busy } with state:=.ready,pending:=none }=L:=by
 cases L;simp_all
theorem X6 (l:List (Int×Int)):A5 Tryz.prog 139 [.p Mx l] [] [] (λres b=>res=.clo 177 [1]/\b=[(1,.box 55 false [.p Mx l])]):=by
 refine Ix [0,1,2] [] [] Tryz.func139 Tryz.ntmps139 AH ?_;intro w0 K O0 ρ0 a c d;simp only[Ai];repeat'(first|exact trivial|apply eS rfl|refine rX a ?_ ?_)
 exact fM a [.tmp 2] (.clo 177 [1]) eT ⟨rfl,rfl⟩
def CM (l:List (Int×Int)) (L:Go.Loop) (a:Array Value) (i:Nat):List (Nat×Obj):=[(1,.box 55 false [.p Mx l]),(101,.loop L),(102,.frame a [(2,.bp 2 [] 0),(6,.clo 177 [1])]),(2,.box 55 false [.sr 7 C7 0 i]),(7,.arr 59 C7 (l.take i))]
theorem lU (l:List (Int×Int)) (g:l.length<=100000) (L:Go.Loop) (b:Array Value) (f:∀i,i<l.length->XV Tryz.prog 101 [.p C7 (l.getD i (0,0))] (CM l L b i) [1,101,102,2] (λres e=>res=.p .bool true/\e=CM l L b (i+1))) :
  A5 Tryz.prog 177 [.yl 101,.bp 1 [] 0] (CM l L b 0) [1,101,102,2] (λres e=>res=.raw (.tuple #[])/\e=CM l L b l.length):=by
 refine Ix [0,1,4,5,6,7,8,14] [] [] Tryz.func177 Tryz.ntmps177 AH ?_;intro w0 K O0 ρ0 a h j;simp only[Ai,CM];repeat'(first|exact trivial|apply eS rfl|refine rX a ?_ ?_)
 refine AI (ι:={i:Nat//i<=l.length}) (λi=>⟨[(0,.yl 101),(1,.bp 1 [] 0),(5,.p Mx l),(6,.p (.int .i64) (l.length:Int)),(7,.p (.int .i64) (i.1:Int))],CM l L b i.1⟩) (λi=>l.length-i.1) ⟨0,by omega⟩ (AC [(1,.nm 1),(101,.nm 101),(102,.nm 102),(2,.nm 2),(7,.nm 7)] rfl rfl ?_ ?_) (λi=>?_)
 .simp only[CM];exact eN
 .exact eN
 obtain⟨i,hi⟩:=i;simp only[CM];repeat'(first|exact trivial|apply eS rfl|refine rX a ?_ ?_|refine rC ?_ ?_<;>intro c<;>try(cases c;done))
 .exact eV
 .have d:i<l.length:=by exact eV
  refine cP 2 a ?_ ?_
  .trivial
  refine rY 101 101 a (f i d) [(1,.nm 1),(101,.nm 101),(102,.nm 102),(2,.nm 2),(7,.nm 7)] [7] ?_ ?_ ?_
  .exact eN
  .simp only[CM];exact eN
  rintro _ _ ⟨rfl,rfl⟩;refine⟨[(1,.nm 1),(101,.nm 101),(102,.nm 102),(2,.nm 2),(7,.nm 7)],.p .bool true,CM l L b (i+1),rfl,rfl,?_,?_,rfl,rfl,?_⟩
  .simp only[CM];exact eN
  .exact eN
  simp only[CM];refine GX [0,1,5,6,7,14] a (by simp only[go_sem,Nat.reduceEqDiff,reduceCtorEq,Nat.reduceAdd,Nat.reduceSub,Nat.reduceMul,Nat.reduceLeDiff,Nat.reduceLT,Int.reduceLE,Int.reduceToNat,Int.reduceNeg,↓reduceIte];rfl) ?_ ?_
  .trivial
  repeat'(first|apply eS rfl|apply AB|refine rX a ?_ ?_|refine rC ?_ ?_<;>intro c<;>try(cases c;done))
  .exact eV
  refine⟨⟨i+1,by omega⟩,by simp only;omega,AC [(1,.nm 1),(101,.nm 101),(102,.nm 102),(2,.nm 2),(7,.nm 7)] rfl rfl ?_ ?_⟩
  .simp only[CM];exact eN
  exact eN
 have d:i=l.length:=by exact eV
 subst d;refine fM a [] (.raw (.tuple #[])) rfl ⟨rfl,?_⟩;simp only[CM,oF]
theorem Zx (l:List (Int×Int)) (n:l.length<=100000):A5 Tryz.prog 189 [.raw (.slice none 0 0),.clo 177 [1]] [(1,.box 55 false [.p Mx l])] [] (λres q=>res=.sr 7 C7 0 l.length/\q=[(7,.arr 59 C7 l)]):=by
 refine fKR [0,1,2,4,5,6,7] [] [] Tryz.func189 Tryz.ntmps189 AH ?_;intro w0 K O0 ρ0 a t u;simp only[Ai];repeat'(first|exact trivial|apply eS rfl|refine rX a ?_ ?_)
 refine dA a rfl rfl (by simp only[go_sem,Nat.reduceEqDiff,reduceCtorEq,Nat.reduceAdd,Nat.reduceSub,Nat.reduceMul,Nat.reduceLeDiff,Nat.reduceLT,Int.reduceLE,Int.reduceToNat,Int.reduceNeg,↓reduceIte];rfl) 101 103 102 rfl rfl rfl rfl ?_;intro L c d f g h j k o;refine⟨_,CM l L c 0,[1,101,102,2],_,[(1,.nm 1),(101,.nm 101),(102,.nm 102),(2,.nm 2),(7,.nil)],[],lU l n L c ?_,rfl,rfl,?_,?_,rfl,?_⟩
 .intro i hi;refine cX (fr:=102) rfl rfl d h j k g o rfl (by kernel_rfl) sc rfl rfl (by kernel_rfl) (by kernel_rfl) (tyTab_ok [] [0,1,2,4,5,6,7]) AH ?_;intro y r s z x a v w m;simp only[CM,Hf];repeat'(first|exact trivial|apply AB|refine rX a ?_ ?_)
  refine⟨rfl,?_⟩;repeat'(first|apply eS rfl|refine rX a ?_ ?_)
  .simp only[AO];omega
  have e:List.take i (List.take i l)++[((l.getD i (0,0)).1,(l.getD i (0,0)).2)]=l.take (i+1):=by
   rw[Ag l (0,0) hi,At (ACa (by rw[OR];omega):(l.take i).length<=i)]
  refine Ev.ent (σ':=⟨[],[(1,.box 55 false [.p Mx l]),(101,.loop { L with state:=.busy }),(102,.frame c [(2,.bp 2 [] 0),(6,.clo 177 [1])]),(2,.box 55 false [.sr 7 C7 0 (i+1)]),(7,.arr 59 C7 (l.take (i+1)))]⟩) ?_ (AC [(1,.nm 1),(101,.nm 101),(102,.nm 102),(2,.nm 2),(7,.nm 7)] rfl rfl ?_ ?_)
  .refine XW a (yn:=101) rfl rfl sc m ⟨rfl,?_⟩;simp only[CM,go_sem,Nat.reduceEqDiff,reduceCtorEq,Nat.reduceAdd,Nat.reduceSub,Nat.reduceMul,Nat.reduceLeDiff,Nat.reduceLT,Int.reduceLE,Int.reduceToNat,Int.reduceNeg,↓reduceIte,fF d f]
  .refine eM ?_;exact e
  exact eN
 .simp only[Bb];exact eN
 .simp only[Bb,CM];exact eN
 rintro _ _ ⟨rfl,rfl⟩;refine⟨[(1,.nm 1),(101,.nm 101),(102,.nm 102),(2,.nm 2),(7,.nm 7)],CM l L c l.length,L,rfl,rfl,?_,rfl,rfl,rfl,by rw[d];rfl,?_⟩
 .simp only[CM];exact eN
 intro b;rw[f];simp only[EvJ,CM,Bb,go_sem,Nat.reduceEqDiff,reduceCtorEq,Nat.reduceAdd,Nat.reduceSub,Nat.reduceMul,Nat.reduceLeDiff,Nat.reduceLT,Int.reduceLE,Int.reduceToNat,Int.reduceNeg,↓reduceIte];replace a:=Qb (dn:=103) (b:=b) a;repeat'(first|exact trivial|apply eS rfl|refine rX a ?_ ?_)
 refine Ev.ent (σ':=⟨[(4,.sr 7 C7 0 l.length)],[(7,.arr 59 C7 l),(103,.dfr)]⟩) ?_ (AC [(7,.nm 7),(103,.nm 103)] rfl rfl ?_ ?_)
 .exact UZ a [.tmp 4] rfl (.inl rfl) rfl rfl (.sr 7 C7 0 l.length) eT ⟨rfl,by simp only[go_sem,Nat.reduceEqDiff,reduceCtorEq,Nat.reduceAdd,Nat.reduceSub,Nat.reduceMul,Nat.reduceLeDiff,Nat.reduceLT,Int.reduceLE,Int.reduceToNat,Int.reduceNeg,↓reduceIte]⟩
 .exact eN
 exact eN
theorem lV (l:List (Int×Int)) (b:l.length<=100000):A5 Tryz.prog 175 [.clo 177 [1]] [(1,.box 55 false [.p Mx l])] [] (λres c=>res=.sr 7 C7 0 l.length/\c=[(7,.arr 59 C7 l)]):=by
 refine Ix [0,2] [] [] Tryz.func175 Tryz.ntmps175 AH ?_;intro w0 K O0 ρ0 a d e;simp only[Ai];repeat'(first|exact trivial|apply eS rfl|refine rX a ?_ ?_)
 refine cP 1 a ?_ ?_
 .trivial
 refine rM a (Zx l b) [(1,.nm 1)] [1] ?_ ?_ ?_
 .exact eN
 .exact eN
 rintro _ _ ⟨rfl,rfl⟩;refine⟨[(7,.nm 7)],.sr 7 C7 0 l.length,[(7,.arr 59 C7 l)],rfl,rfl,?_,?_,rfl,rfl,?_⟩
 .exact eN
 .exact eN
 refine GX [2] a (by simp only[go_sem,Nat.reduceEqDiff,reduceCtorEq,Nat.reduceAdd,Nat.reduceSub,Nat.reduceMul,Nat.reduceLeDiff,Nat.reduceLT,Int.reduceLE,Int.reduceToNat,Int.reduceNeg,↓reduceIte];rfl) ?_ ?_
 .trivial
 repeat' apply eS rfl
 exact fM a [.tmp 2] (.sr 7 C7 0 l.length) eT ⟨rfl,rfl⟩
theorem A0E (x:Int) (h0:0<=x) (h1:x<256):A5 Tryz.prog 209 [.p (.int .u64) x] [] [] (λres g=>(∃n:Int,res=.p T3 n/\(13<=x->n≠0))/\g=[]):=by
 refine Ix [0,2,4,8,14] [] [] Tryz.func209 Tryz.ntmps209 AH ?_;intro w0 K O0 ρ0 a i j;simp only[Ai];repeat'(first|exact trivial|apply eS rfl|refine rX a ?_ ?_|refine rC ?_ ?_<;>intro b<;>try(cases b;done))
 all_goals first|(exfalso;omega)|skip
 refine LY [0,2] a rfl (by simp only[go_sem,Nat.reduceEqDiff,reduceCtorEq,Nat.reduceAdd,Nat.reduceSub,Nat.reduceMul,Nat.reduceLeDiff,Nat.reduceLT,Int.reduceLE,Int.reduceToNat,Int.reduceNeg,↓reduceIte,ByteArray.size,List.size_toArray,AO];rfl) ?_ ?_
 .have hu:∀u:UInt8,((u.toNat:Nat):Int)<=255:=λu=>by have:=u.toNat_lt;omega
  refine⟨⟨h0,by omega⟩,⟨h0,?_⟩,⟨?_,?_⟩,?_,?_⟩
  .have c:x<((256:Nat):Int):=h1;exact c
  .exact ABk dg (AAh _)
  .exact ABk (hu _) dg
  .rw[Int.zero_add];exact ABk dg (AAh _)
  rw[Int.zero_add];exact ABk (hu _) dg
 repeat' apply eS rfl
 refine fM a [.tmp 2] (.p T3 _) (by simp only[Ro,sP,QV,XN,Ii,Jv,Ij,go_sem,Nat.reduceEqDiff,reduceCtorEq,Nat.reduceAdd,Nat.reduceSub,Nat.reduceMul,Nat.reduceLeDiff,Nat.reduceLT,Int.reduceLE,Int.reduceToNat,Int.reduceNeg,↓reduceIte];rfl) ⟨⟨_,rfl,λh=>?_⟩,rfl⟩;rw[Int.zero_add];intro e;replace e:=Int.ofNat.inj e;have d:x.toNat<256:=by omega
 have f:13<=x.toNat:=by omega
 generalize x.toNat=k at *;clear b;exact absurd e (by
  clear e;revert f;revert d;revert k;decide)
theorem A7b (x:Int) (h0:0<=x) (h1:x<256):A5 Tryz.prog 191 [.p (.int .u64) x] [] [] (λres d=>(∃n:Int,res=.p T3 n/\(13<=x->n≠0))/\d=[]):=by
 refine Ix [0,2] [] [] Tryz.func191 Tryz.ntmps191 AH ?_;intro w0 K O0 ρ0 a e f;simp only[Ai];repeat'(first|exact trivial|apply eS rfl|refine rX a ?_ ?_|refine rC ?_ ?_<;>intro b<;>try(cases b;done))
 refine cP 1 a ?_ ?_
 .trivial
 refine rM a (A0E x h0 h1) [] [] ?_ ?_ ?_
 .exact eN
 .exact eN
 rintro _ _ ⟨⟨n,rfl,c⟩,rfl⟩;refine⟨[],.p T3 n,[],rfl,rfl,?_,?_,rfl,rfl,?_⟩
 .exact eN
 .exact eN
 refine GX [2] a (by simp only[go_sem,Nat.reduceEqDiff,reduceCtorEq,Nat.reduceAdd,Nat.reduceSub,Nat.reduceMul,Nat.reduceLeDiff,Nat.reduceLT,Int.reduceLE,Int.reduceToNat,Int.reduceNeg,↓reduceIte];rfl) ?_ ?_
 .trivial
 repeat' apply eS rfl
 exact fM a [.tmp 2] (.p T3 n) eT ⟨⟨_,rfl,c⟩,rfl⟩
theorem fG (l:List (Int×Int)) (b:SS l) (hs:Zu l):A5 Tryz.prog 176 [.sr 1000000 C7 0 l.length,.fn 140] [(1000000,.arr 59 C7 l)] [1000000] (λres e=>res=.raw (.tuple #[])/\e=[(1000000,.arr 59 C7 (AZ l))]):=by
 have f:=b.1;refine Ix [0,1,4] [] [] Tryz.func176 Tryz.ntmps176 AH ?_;intro w0 K O0 ρ0 a g h;simp only[Ai];repeat'(first|exact trivial|apply eS rfl|refine rX a ?_ ?_)
 refine cP 4 a ?_ ?_
 .exact eV
 refine rM a (A7b (l.length:Int) O1 O1) [] [] ?_ ?_ ?_
 .exact eN
 .exact eN
 rintro _ _ ⟨⟨n,rfl,d⟩,rfl⟩;refine⟨[],.p T3 n,[],rfl,rfl,?_,?_,rfl,rfl,?_⟩
 .exact eN
 .exact eN
 have key:=A42 l b.1 hs b.2 n λq=>d O1;refine PB a 1 (by simp only[go_sem,Nat.reduceEqDiff,reduceCtorEq,Nat.reduceAdd,Nat.reduceSub,Nat.reduceMul,Nat.reduceLeDiff,Nat.reduceLT,Int.reduceLE,Int.reduceToNat,Int.reduceNeg,↓reduceIte];rfl) ?_ ?_
 .trivial
 refine rM a (key) [(1000000,.nm 1000000)] [] ?_ ?_ ?_
 .exact eN
 .exact eN
 rintro _ _ ⟨rfl,rfl⟩;have i:=Co l;refine⟨[(1000000,.nm 1000000)],.raw (.tuple #[]),[(1000000,.arr 59 C7 (AZ l))],rfl,rfl,?_,?_,rfl,rfl,E2 ?_⟩
 .exact eN
 .exact eN
 repeat'(first|exact trivial|apply eS rfl|apply AB|refine rX a ?_ ?_|refine rC ?_ ?_<;>intro c<;>try(cases c;done))
 exact fM a [] (.raw (.tuple #[])) rfl ⟨rfl,rfl⟩
theorem NP (l:List (Int×Int)) (b:SS l) (hs:Zu l):A5 Tryz.prog 138 [.clo 177 [1],.fn 140] [(1,.box 55 false [.p Mx l])] [] (λres c=>res=.sr 7 C7 0 l.length/\c=[(7,.arr 59 C7 (AZ l))]):=by
 have g:=Co l;have d:=b.1;refine Ix [0,1,4,5] [] [] Tryz.func138 Tryz.ntmps138 AH ?_;intro w0 K O0 ρ0 a e f;simp only[Ai];repeat'(first|exact trivial|apply eS rfl|refine rX a ?_ ?_)
 refine cP 1 a ?_ ?_
 .trivial
 refine rM a (lV l O1) [(1,.nm 1)] [1] ?_ ?_ ?_
 .exact eN
 .exact eN
 rintro _ _ ⟨rfl,rfl⟩;refine⟨[(1000000,.nm 7)],.sr 1000000 C7 0 l.length,[(1000000,.arr 59 C7 l)],rfl,rfl,?_,?_,rfl,rfl,?_⟩
 .exact eN
 .exact eN
 refine GX [1,5] a (by simp only[go_sem,Nat.reduceEqDiff,reduceCtorEq,Nat.reduceAdd,Nat.reduceSub,Nat.reduceMul,Nat.reduceLeDiff,Nat.reduceLT,Int.reduceLE,Int.reduceToNat,Int.reduceNeg,↓reduceIte];rfl) ?_ ?_
 .trivial
 repeat' apply eS rfl
 refine cP 2 a ?_ ?_
 .trivial
 refine rM a (fG l b hs) [(1000000,.nm 1000000)] [] ?_ ?_ ?_
 .exact eN
 .exact eN
 rintro _ _ ⟨rfl,rfl⟩;refine⟨[(1000000,.nm 1000000)],.raw (.tuple #[]),[(1000000,.arr 59 C7 (AZ l))],rfl,rfl,?_,?_,rfl,rfl,E2 ?_⟩
 .exact eN
 .exact eN
 repeat'(first|exact trivial|apply eS rfl|refine rX a ?_ ?_)
 refine Ev.ent (σ':=⟨[(4,.sr 7 C7 0 l.length)],[(7,.arr 59 C7 (AZ l))]⟩) ?_ (AC [(7,.nm 1000000)] rfl rfl ?_ ?_)
 .exact fM a [.tmp 4] (.sr 7 C7 0 l.length) eT ⟨rfl,rfl⟩
 .exact eN
 exact eN
def Kn (f:List AD) (o:List Int):List (Nat×Obj):=[(1,.box 101 false [.sr 5 T3 0 o.length]),(2,.box 79 false [.mp 6]),(3,.box 34 true [.p JD f]),(4,.box 176 false [.clo 137 [1,2,3,4]]),(5,.arr 3 T3 o),(6,.mapo T3 T3 (vZ o))]
theorem A92 {o:List Int} (h:Mk f o):Mk (DA f) o:=⟨h.nd,λx a=>by rw[Cu];exact h.rng x a⟩
theorem A5J {o:List Int} (h:Mk (DA f) o):Mk f o:=⟨h.nd,λx a=>by have:=h.rng x a;rwa [Cu]at this⟩
theorem uF (f:List AD) (hf:AX f) (hs:NdF f):∀(k:Nat) (o:List Int) (n:Int),Mk f o->0<=n->n<f.length->n∉o->f.length-o.length<=k ->
  A5 Tryz.prog 137 [.p T3 n,.bp 1 [] 0,.bp 2 [] 0,.bp 3 [] 0,.bp 4 [] 0] (Kn f o) [1,2,3,4,6] (λres Q=>res=.raw (.tuple #[])/\Q=Kn f (EC (DA f) k o n)):=by
 intro k;induction k with
 | zero =>
  intro o n h0 h1 B C R;have:=(h0.snoc h1 B C).len;simp only[Do,nO]at this;omega
 | succ k P =>
  intro o n E u v w hk;have t:=E.snoc u v w;have I:=t.len;simp only[Do,nO]at I;have S:=hf.1;refine Ix [0,1,2,3,4,7,9,25,26,27,28,39] [] [] Tryz.func137 Tryz.ntmps137 AH ?_;intro w0 K O0 ρ0 b U V;simp only[Kn,Ai];repeat'(first|exact trivial|apply eS rfl|refine rX b ?_ ?_)
  .simp only[AO];omega
  rw[A0B w];obtain⟨O,A⟩:=pJ hs n;have T:=A.1;have s:=λa (ha:a∈AZ (f.getD n.toNat (0,[])).2)=>CF hf ((Ed _).mem_iff.1 ha);have G:EC (DA f) (k+1) o n=(AZ (f.getD n.toNat (0,[])).2).foldl (A6 (DA f) k) (o++[n]):=by rw[CZ,JT]
  have F:=A92 (f:=f) t;refine cP 6 b ?_ ?_
  .exact⟨u,v⟩
  generalize (f.getD n.toNat (0,[])).2=g at *;refine rM b (X6 g) [] [] ?_ ?_ ?_
  .exact eN
  .exact eN
  rintro _ _ ⟨rfl,rfl⟩;refine⟨[(50,.nm 1)],.clo 177 [50],[(50,.box 55 false [.p Mx g])],rfl,rfl,?_,?_,rfl,rfl,?_⟩
  .exact eN
  .exact eN
  refine rM b (NP g A O) [(1,.nm 50)] [50] ?_ ?_ ?_
  .exact eN
  .exact eN
  rintro _ _ ⟨rfl,rfl⟩;have D:=Co g;rw[<-D];generalize AZ g=L at *;refine⟨[(51,.nm 7)],.sr 51 C7 0 L.length,[(51,.arr 59 C7 L)],rfl,rfl,?_,?_,rfl,rfl,?_⟩
  .exact eN
  .exact eN
  refine GX [0,1,2,3,4,25,26,27] b (by simp only[go_sem,Nat.reduceEqDiff,reduceCtorEq,Nat.reduceAdd,Nat.reduceSub,Nat.reduceMul,Nat.reduceLeDiff,Nat.reduceLT,Int.reduceLE,Int.reduceToNat,Int.reduceNeg,↓reduceIte];rfl) ?_ ?_
  .trivial
  have N:∀i,Mk (DA f) ((L.take i).foldl (A6 (DA f) k) (o++[n]))/\o++[n] <+: (L.take i).foldl (A6 (DA f) k) (o++[n]):=λi=>Hu (GF (HN hf) k) _ _ (λa ha=>by rw[Cu];exact s a (AAp ha)) F;generalize J:o++[n]=q at *;have M:q.length=o.length+1:=by rw[<-J];simp
  rw[<-M];repeat' apply eS rfl
  refine AI (ι:={i:Nat//i<=L.length}) (λi=>⟨[(0,.p T3 n),(1,.bp 1 [] 0),(2,.bp 2 [] 0),(3,.bp 3 [] 0),(4,.bp 4 [] 0),(25,.p Mx L),(26,.p (.int .i64) (L.length:Int)),(27,.p (.int .i64) (i.1:Int))],Kn f ((L.take i.1).foldl (A6 (DA f) k) q)⟩) (λi=>L.length-i.1) ⟨0,by omega⟩ (A8x [51] (AC [(1,.nm 1),(2,.nm 2),(3,.nm 3),(4,.nm 4),(5,.nm 5),(6,.nm 6)] rfl rfl ?_ ?_)) (λi=>?_)
  .simp only[Kn,AAP,List.foldl_nil];exact eN
  .exact eN
  obtain⟨i,hi⟩:=i;obtain⟨j,y⟩:=N i;replace j:=A5J j;have r:=λ(h:i<L.length)=>Qx (A6 (DA f) k) L (0,0) q h;have H:=y.length_le;generalize x:(L.take i).foldl (A6 (DA f) k) q=c at j y r H;simp only[Kn];repeat'(first|exact trivial|apply eS rfl|apply AB|refine rX b ?_ ?_|refine rC ?_ ?_<;>intro d<;>try(cases d;done))
  .exact eV
  .have l:i<L.length:=by exact eV
   have z:=s _ (AG L (0,0) l);have m:(L.getD i (0,0)).2∉c:=by rw[VL]at d;simpa using d
   refine cP 3 b ?_ ?_
   .trivial
   refine rM b (P c (L.getD i (0,0)).2 j z.1 z.2 m O1) [(1,.nm 1),(2,.nm 2),(3,.nm 3),(4,.nm 4),(5,.nm 5),(6,.nm 6)] [5] ?_ ?_ ?_
   .exact eN
   .simp only[Kn];exact eN
   rintro _ _ ⟨rfl,rfl⟩;refine⟨[(1,.nm 1),(2,.nm 2),(3,.nm 3),(4,.nm 4),(5,.nm 5),(6,.nm 6)],.raw (.tuple #[]),Kn f (EC (DA f) k c (L.getD i (0,0)).2),rfl,rfl,?_,?_,rfl,rfl,E2 ?_⟩
   .simp only[Kn];exact eN
   .exact eN
   simp only[Kn];repeat'(first|apply eS rfl|apply AB|refine rX b ?_ ?_)
   .exact eV
   have e:A6 (DA f) k c (L.getD i (0,0))=EC (DA f) k c (L.getD i (0,0)).2:=As m;refine⟨⟨i+1,by omega⟩,by simp only;omega,AC [(1,.nm 1),(2,.nm 2),(3,.nm 3),(4,.nm 4),(5,.nm 5),(6,.nm 6)] rfl rfl ?_ ?_⟩
   .simp only[r l,e];exact eN
   exact eN
  .exact eV
  .have l:i<L.length:=by exact eV
   have m:(L.getD i (0,0)).2∈c:=by rw[VL]at d;simpa using d
   have e:A6 (DA f) k c (L.getD i (0,0))=c:=BY m;refine⟨⟨i+1,by omega⟩,by simp only;omega,AC [(1,.nm 1),(2,.nm 2),(3,.nm 3),(4,.nm 4),(5,.nm 5),(6,.nm 6)] rfl rfl ?_ ?_⟩
   .simp only[r l,e];exact eN
   exact eN
  have hk:L.take i=L:=At (by exact eV);rw[hk]at x;rw[G,x];exact fM b [] (.raw (.tuple #[])) rfl ⟨rfl,rfl⟩
section
theorem uG {α a:Type} (g:α->a) (o:List α) (d:α) (z:a) {i:Nat} (h:i<o.length):((o.take i).map g++List.replicate (o.length-i) z).set i (g (o.getD i d))=(o.take (i+1)).map g++List.replicate (o.length-(i+1)) z:=by
 obtain⟨m,c⟩:∃m,o.length-i=m+1:=⟨o.length-i-1,by omega⟩;have e:o.length-(i+1)=m:=by omega
 have b:((o.take i).map g).length=i:=by rw[aS,OR];omega
 rw[c,e,ACb _ _ O1,b,AB7,List.replicate_succ,ACr,Ag o d h,AAF];simp
def S9:AW:={ ins:=[Fm,T3],pre:=λ(f,n,_)=>AX f/\NdF f/\0<=n/\n<(List.length f:Int),out:=λ(f,n,_)=>[.p Fm (AP (DA f) n)] }
attribute [local go_sem] S9
theorem uH:AY Tryz.prog 92 S9:=by
 refine fK [0,1,2,4,5,6,7,8,9,10,11,12,22,23,24,25,38,39,40] Tryz.func92 Tryz.ntmps92 AH ?_;rintro w0 O0 ⟨f,root,u⟩ a-⟨hf,hs,r,s⟩;simp only[S9,AL];have z:=hf.1;have l:Mk f []:=⟨by simp,λx D=>by cases D⟩;obtain⟨g,I⟩:=GF (HN hf) f.length [] root (A92 l) r (by rw[Cu];exact s) sc;replace g:=A5J g;have w:AP (DA f) root=(EC (DA f) f.length [] root).map (Gw (DA f) (EC (DA f) f.length [] root)):=by unfold AP;rw[Cu]
 rw[w];repeat'(first|exact trivial|apply eS rfl|apply AB|refine rX a ?_ ?_|refine rC ?_ ?_<;>intro c<;>try(cases c;done))
 refine cP 2 a ?_ ?_
 .trivial
 refine rM a (uF f hf hs (List.length f) [] root l r s sc sc) [(1,.nm 6),(2,.nm 5),(3,.nm 2),(4,.nm 7),(5,.nil),(6,.nm 13)] [] ?_ ?_ ?_
 .exact eN
 .simp only[Kn];refine eM ?_;rfl
 rintro _ _ ⟨rfl,rfl⟩;refine⟨[(6,.nm 1),(5,.nm 2),(2,.nm 3),(7,.nm 4),(101,.nm 5),(13,.nm 6)],.raw (.tuple #[]),[(6,.box 101 false [.sr 101 T3 0 (EC (DA f) (List.length f) [] root).length]),(5,.box 79 false [.mp 13]),(2,.box 34 true [.p JD f]),(7,.box 176 false [.clo 137 [6,5,2,7]]),(101,.arr 3 T3 (EC (DA f) (List.length f) [] root)),(13,.mapo T3 T3 (vZ (EC (DA f) (List.length f) [] root)))],rfl,rfl,?_,?_,rfl,rfl,E2 ?_⟩
 .simp only[Kn];exact eN
 .exact eN
 generalize EC (DA f) (List.length f) [] root=o at *;have H:=g.len;repeat'(first|exact trivial|apply eS rfl|apply AB|refine rX a ?_ ?_|refine rC ?_ ?_<;>intro c<;>try(cases c;done))
 .simp only[AO];omega
 refine AI (ι:={i:Nat//i<=o.length}) (λi=>⟨[(2,.bp 2 [] 0),(4,.bp 4 [] 0),(5,.bp 5 [] 0),(8,.bp 8 [] 0),(22,.sr 101 T3 0 o.length),(23,.p (.int .i64) (o.length:Int)),(24,.p (.int .i64) (i.1:Int))],[(8,.box 34 true [.sr 20 Md 0 o.length]),(20,.arr 57 Md ((o.take i.1).map (Gw (DA f) o)++List.replicate (o.length-i.1) (0,[]))),(5,.box 79 false [.mp 13]),(2,.box 34 true [.p JD f]),(101,.arr 3 T3 o),(13,.mapo T3 T3 (vZ o)),(4,.box 34 true [.raw (.slice none 0 0)])]⟩) (λi=>o.length-i.1) ⟨0,by omega⟩ (eW [(8,.nm 8),(20,.nm 20),(5,.nm 5),(2,.nm 2),(101,.nm 101),(13,.nm 13),(4,.nm 4)]) (λi=>?_)
 obtain⟨i,hi⟩:=i;repeat'(first|exact trivial|apply eS rfl|apply AB|refine rX a ?_ ?_|refine rC ?_ ?_<;>intro c<;>try(cases c;done))
 .exact eV
 .have m:i<o.length:=by exact eV
  have hn:=g.rng _ (AG o 0 m);have q:Gw (DA f) o (o.getD i 0)=((f.getD (o.getD i 0).toNat (0,[])).1,(AZ (f.getD (o.getD i 0).toNat (0,[])).2).map (M0 o)):=by unfold Gw;rw[JT]
  obtain⟨t,j⟩:=pJ hs (o.getD i 0);have B:=j.1;refine cP 6 a ?_ ?_
  .exact hn
  have G:List.length f<=100000:=z;generalize C:o.getD i 0=n at *;generalize A:f.getD n.toNat (0,[])=x at *;obtain⟨J,d⟩:=x;simp only at t j B q;refine rM a (X6 d) [] [] ?_ ?_ ?_
  .exact eN
  .exact eN
  rintro _ _ ⟨rfl,rfl⟩;refine⟨[(50,.nm 1)],.clo 177 [50],[(50,.box 55 false [.p Mx d])],rfl,rfl,?_,?_,rfl,rfl,?_⟩
  .exact eN
  .exact eN
  refine rM a (NP d j t) [(1,.nm 50)] [50] ?_ ?_ ?_
  .exact eN
  .exact eN
  rintro _ _ ⟨rfl,rfl⟩;have v:=Co d;rw[<-v];generalize F:AZ d=L at *;refine⟨[(51,.nm 7)],.sr 51 C7 0 L.length,[(51,.arr 59 C7 L)],rfl,rfl,?_,?_,rfl,rfl,?_⟩
  .exact eN
  .exact eN
  refine GX [2,4,5,8,9,10,11,22,23,24] a (by simp only[go_sem,Nat.reduceEqDiff,reduceCtorEq,Nat.reduceAdd,Nat.reduceSub,Nat.reduceMul,Nat.reduceLeDiff,Nat.reduceLT,Int.reduceLE,Int.reduceToNat,Int.reduceNeg,↓reduceIte];rfl) ?_ ?_
  .trivial
  repeat'(first|exact trivial|apply eS rfl|apply AB|refine rX a ?_ ?_|refine rC ?_ ?_<;>intro c<;>try(cases c;done))
  refine AI (ι:={k:Nat//k<=L.length}) (λk=>⟨[(2,.bp 2 [] 0),(4,.bp 4 [] 0),(5,.bp 5 [] 0),(8,.bp 8 [] 0),(9,.p (.int .i64) (i:Int)),(10,.p T3 n),(11,.sr 51 C7 0 L.length),(22,.sr 101 T3 0 o.length),(23,.p (.int .i64) (o.length:Int)),(24,.p (.int .i64) (i:Int)),(38,.p (.int .i64) (L.length:Int)),(39,.p (.int .i64) (k.1:Int))],[(51,.arr 59 C7 ((L.take k.1).map (M0 o)++L.drop k.1)),(8,.box 34 true [.sr 20 Md 0 o.length]),(20,.arr 57 Md ((o.take i).map (Gw (DA f) o)++List.replicate (o.length-i) (0,[]))),(5,.box 79 false [.mp 13]),(2,.box 34 true [.p JD f]),(101,.arr 3 T3 o),(13,.mapo T3 T3 (vZ o)),(4,.box 34 true [.raw (.slice none 0 0)])]⟩) (λk=>L.length-k.1) ⟨0,by omega⟩ (eW [(51,.nm 51),(8,.nm 8),(20,.nm 20),(5,.nm 5),(2,.nm 2),(101,.nm 101),(13,.nm 13),(4,.nm 4)]) (λk=>?_)
  obtain⟨k,hk⟩:=k;repeat'(first|exact trivial|apply eS rfl|apply AB|refine rX a ?_ ?_|refine rC ?_ ?_<;>intro c<;>try(cases c;done))
  .exact eV
  .exact eV
  .have h:k<L.length:=by exact eV
   have e:=VI (M0 o) (λb=>b) L (0,0) h (M0 o);refine⟨⟨k+1,by omega⟩,by simp only;omega,AC [(51,.nm 51),(8,.nm 8),(20,.nm 20),(5,.nm 5),(2,.nm 2),(101,.nm 101),(13,.nm 13),(4,.nm 4)] rfl rfl ?_ ?_⟩
   .refine eM ?_;rw[e.2];rw[<-e.1];unfold M0;rw[<-A3Y]
   exact eN
  .exact⟨hn,by exact eV⟩
  .exact eV
  have h:L.take k=L:=At (by exact eV);have y:L.drop k=[]:=NO (by exact eV);refine⟨⟨i+1,by omega⟩,by simp only;omega,AC [(8,.nm 8),(20,.nm 20),(5,.nm 5),(2,.nm 2),(101,.nm 101),(13,.nm 13),(4,.nm 4)] rfl rfl ?_ ?_⟩
  .refine eM ?_;rw[h,y,AAn];have e:=uG (Gw (DA f) o) o 0 (0,[]) m;rw[C,q]at e;rw[<-e,A,At (by simp:(L.map (M0 o)).length<=L.length)]
  exact eN
 have hk:o.take i=o:=At (by exact eV);have E:o.length-i=0:=by exact eV
 rw[hk,E];exact fI a [.cell 4 34] (by simp only[List.replicate_zero,AAn];first|exact eR|refine Kv ?_;exact At (by rw[aS];exact eV))
end
def Gg (n:Int) (seen:List (Int×Int)):List (Int×Int)->Int
 | []=>0
 | x :: r=>if x.1<0\/x.2<0\/n<=x.2 then 2 else if (seen.any λy=>y.1==x.1)=true then 4 else Gg n (seen++[x]) r
def Gx (l:List (Int×Int)) (n:Int):Int:=Gg n [] l
def fH:AW:={ ins:=[Mx,T3],pre:=λ_=>True,out:=λ(l,n,_)=>[.p C6 (Gx l n)] }
theorem OE (n:Int) (l:List (Int×Int)) (h:k<l.length):Gg n (l.take k) (l.drop k)=if (l.getD k (0,0)).1<0\/(l.getD k (0,0)).2<0\/n<=(l.getD k (0,0)).2 then 2 else if ((l.take k).any λy=>y.1==(l.getD k (0,0)).1)=true then 4 else Gg n (l.take (k+1)) (l.drop (k+1)):=by
 rw[Ag l (0,0) h,OF h,AS,AT h];rfl
theorem Wu (l:List (Int×Int)) (f:Int) (h:k<l.length):((l.take (k+1)).any λy=>y.1==f)=((l.take k).any (λy=>y.1==f)||((l.getD k (0,0)).1==f)):=by
 rw[Ag l (0,0) h,ABJ];simp
theorem A43:AY Tryz.prog 126 fH:=by
 refine fK [0,1,4,5,6,10,35,38,51] Tryz.func126 Tryz.ntmps126 AH ?_;rintro w0 O0 ⟨l,n,u⟩ b ⟨⟨h,-⟩,-⟩ -;simp only[AO]at h;simp only[fH,AL];repeat'(first|exact trivial|apply eS rfl|refine rX b ?_ ?_)
 refine AI (ι:={k:Nat//k<=l.length/\Gg n (l.take k) (l.drop k)=Gx l n}) (λk=>⟨[(0,.p Mx l),(1,.p T3 n),(5,.p (.int .i64) (k.1:Int))],[]⟩) (λk=>l.length-k.1) ⟨0,by simp[Gx]⟩ (AC [] rfl rfl ?_ ?_) (λk=>?_)
 .exact eN
 .exact eN
 obtain⟨k,hk,c⟩:=k;repeat'(first|exact trivial|apply eS rfl|refine rX b ?_ ?_|refine rC ?_ ?_<;>intro a<;>try(cases a;done))
 .exact eV
 .have hk:k<l.length:=by exact eV
  have h1:Gx l n=2:=by
   rw[<-c,OE n l hk,BY (by rw[<-or_assoc];exact a)]
  exact fI b [.tmp 4] (by rw[h1];exact eR)
 .have hk:k<l.length:=by exact eV
  have hn:¬((l.getD k (0,0)).1<0\/(l.getD k (0,0)).2<0\/n<=(l.getD k (0,0)).2):=by
   have:=a;generalize l.getD k (0,0)=x at this;exact eV
  rw[OE n l hk,As hn]at c;refine AI (ι:={j:Nat//j<=k/\((l.take j).any λy=>y.1==(l.getD k (0,0)).1)=false}) (λj=>⟨[(0,.p Mx l),(1,.p T3 n),(5,.p (.int .i64) (k:Int)),(6,.p (.int .i64) (j.1:Int))],[]⟩) (λj=>k-j.1) ⟨0,by simp⟩ (AC [] rfl rfl ?_ ?_) (λj=>?_)
  .exact eN
  .exact eN
  obtain⟨j,i,f⟩:=j;repeat'(first|exact trivial|apply eS rfl|apply AB|refine rX b ?_ ?_|refine rC ?_ ?_<;>intro a<;>try(cases a;done))
  .exact eV
  .have e:j<l.length:=by exact eV
   have h1:Gx l n=4:=by
    have d:((l.take k).any λy=>y.1==(l.getD k (0,0)).1)=true:=by
     rw[To];refine⟨l.getD j (0,0),?_,by simpa using a⟩;rw[AS,AT e];exact ABv.2 ⟨j,by exact eV,rfl⟩
    rw[<-c,BY d]
   exact fI b [.tmp 4] (by rw[h1];exact eR)
  .exact eV
  .have e:j<l.length:=by exact eV
   refine⟨⟨j+1,by exact eV,?_⟩,by simp only;exact eV,AC [] rfl rfl ?_ ?_⟩
   .have d:=Wu l (l.getD k (0,0)).1 e;refine d.trans ?_;rw[f];simpa using a
   .exact eN
   exact eN
  .exact eV
  have g:j=k:=by exact eV
  subst g;refine⟨⟨j+1,by exact eV,?_⟩,by simp only;exact eV,AC [] rfl rfl ?_ ?_⟩
  .rw[<-c,As (by rw[f];simp)]
  .exact eN
  exact eN
 have h1:Gx l n=0:=by
  have hk:l.length<=k:=by exact eV
  rw[<-c,NO hk];rfl
 exact fI b [.tmp 4] (by rw[h1];exact eR)
def uI (n:Int×List (Int×Int)):List Int:=n.1 :: (n.2.length:Int) :: n.2.flatMap λa=>[a.1,a.2]
def B9 (f:List (Int×List (Int×Int))):List Int:=(f.length:Int) :: f.flatMap uI
def Wv (l:List (Int×List (Int×Int))) (k:Nat):List Int:=(l.length:Int) :: (l.take k).flatMap uI
def VN (l:List (Int×List (Int×Int))) (k j:Nat):List Int:=Wv l k++[(l.getD k (0,[])).1,((l.getD k (0,[])).2.length:Int)]++((l.getD k (0,[])).2.take j).flatMap λa=>[a.1,a.2]
theorem Qz:∀l:List (Int×Int),(l.flatMap λa=>[a.1,a.2]).length=2*l.length
 | []=>rfl
 | x :: l=>by simp[Qz l];omega
theorem A0F (n:Int×List (Int×Int)):(uI n).length=2+2*n.2.length:=by
 have:=Qz n.2;simp only[uI,IS];omega
theorem VO:∀l:List (Int×List (Int×Int)),(∀n∈l,n.2.length<=100000)->(l.flatMap uI).length<=l.length*200002
 | [],_=>by simp
 | x :: l,h=>by
  have h1:=h x sc;have a:=VO l (λn hn=>h n (by simp[hn]));have b:=A0F x;simp only[ABz,Do,IS];omega
theorem fJ {l:List (Int×List (Int×Int))} (h:∀n∈l,n.2.length<=100000) (hk:k<=l.length):(Wv l k).length<=1+k*200002:=by
 have h1:=VO (l.take k) (λn hn=>h n (AAp hn));rw[OR,ABo hk]at h1;simp only[Wv,IS];omega
theorem A0G {l:List (Int×List (Int×Int))} (h:∀n∈l,n.2.length<=100000) (hk:k<l.length) (b:j<=(l.getD k (0,[])).2.length):(VN l k j).length<=3+k*200002+2*j:=by
 have h1:=fJ h (Nat.le_of_lt hk);have a:=Qz ((l.getD k (0,[])).2.take j);rw[OR,ABo b]at a;simp only[VN,Do,IS,AAl];omega
theorem X7 {l:List (Int×List (Int×Int))} (hk:k<l.length):Wv l (k+1)=VN l k (l.getD k (0,[])).2.length:=by
 unfold Wv VN;rw[Ag l (0,[]) hk,ABq,oF];simp[uI,Wv]
theorem X8 {l:List (Int×List (Int×Int))} (a:j<(l.getD k (0,[])).2.length):VN l k (j+1)=VN l k j++[((l.getD k (0,[])).2.getD j (0,0)).1,((l.getD k (0,[])).2.getD j (0,0)).2]:=by
 unfold VN;rw[Ag _ (0,0) a,ABq];simp
def VP:AW:={ ins:=[Fm],pre:=λ(f,_)=>f.length<=100000/\∀n∈f,n.2.length<=100000,out:=λ(f,_)=>[.p Br (B9 f)] }
theorem lW:AY Tryz.prog 97 VP:=by
 refine fK [0,1,2,3,4,5,6,15,38] Tryz.func97 Tryz.ntmps97 AH ?_;rintro w0 O0 ⟨l,u⟩ a ⟨h,-⟩ ⟨n,d⟩;simp only[VP,AL];repeat'(first|exact trivial|apply eS rfl|refine rX a ?_ ?_)
 refine AI (ι:={k:Nat//k<=l.length}) (λk=>⟨[(0,.p Fm l),(1,.bp 1 [] 0),(3,.sr 10 T3 0 (Wv l k.1).length),(4,.p (.int .i64) (k.1:Int))],[(1,.box 34 true [.p JD l]),(10,.arr 3 T3 (Wv l k.1))]⟩) (λk=>l.length-k.1) ⟨0,by simp⟩ (AC [(1,.nm 1),(10,.nm 10)] rfl rfl ?_ ?_) (λk=>?_)
 .refine eM ?_;rfl
 .refine eM ?_;rfl
 obtain⟨k,hk⟩:=k;have i:=fJ d hk;repeat'(first|exact trivial|apply eS rfl|refine rX a ?_ ?_|refine rC ?_ ?_<;>intro c<;>try(cases c;done))
 .exact eV
 .refine⟨by exact eV,?_⟩;simp only[AO];exact eV
 .have b:k<l.length:=by exact eV
  have o:=d _ (AG l (0,[]) b);refine AI (ι:={j:Nat//j<=(l.getD k (0,[])).2.length}) (λj=>⟨[(0,.p Fm l),(1,.bp 1 [] 0),(3,.sr 10 T3 0 (VN l k j.1).length),(4,.p (.int .i64) (k:Int)),(5,.p Mx (l.getD k (0,[])).2),(6,.p (.int .i64) (j.1:Int))],[(1,.box 34 true [.p JD l]),(10,.arr 3 T3 (VN l k j.1))]⟩) (λj=>(l.getD k (0,[])).2.length-j.1) ⟨0,by simp⟩ (AC [(1,.nm 1),(10,.nm 10)] rfl rfl ?_ ?_) (λj=>?_)
  .refine eM ?_;simp[VN]
  .refine eM ?_;simp[VN]
  obtain⟨j,f⟩:=j;have m:=A0G d b f;repeat'(first|exact trivial|apply eS rfl|apply AB|refine rX a ?_ ?_|refine rC ?_ ?_<;>intro c<;>try(cases c;done))
  .refine⟨by exact eV,by exact eV,?_⟩;simp only[AO];exact eV
  .exact eV
  .have e:j<(l.getD k (0,[])).2.length:=by exact eV
   refine⟨⟨j+1,by exact eV⟩,by simp only;exact eV,AC [(1,.nm 1),(10,.nm 10)] rfl rfl ?_ ?_⟩
   .refine eM ?_;exact(X8 e).symm
   refine eM ?_;have:=AAS List.length (X8 (l:=l) e);rw[Do]at this;exact this.symm
  .exact eV
  have g:j=(l.getD k (0,[])).2.length:=by exact eV
  subst g;refine⟨⟨k+1,by exact eV⟩,by simp only;exact eV,AC [(1,.nm 1),(10,.nm 10)] rfl rfl ?_ ?_⟩
  .refine eM ?_;exact(X7 b).symm
  refine eM ?_;exact AAS List.length (X7 b).symm
 have hk:l.take k=l:=At (by exact eV);have h1:Wv l k=B9 l:=by unfold Wv B9;rw[hk]
 exact fI a [.tmp 2] (by first|exact eR|refine Kv ?_;exact h1)
section
attribute [local go_sem] VP
def Ww:List Int->List Int->Int
 | x :: xs,y :: ys=>if x<y then -1 else if y<x then 1 else Ww xs ys
 | _,_=>0
theorem Q0 (xs ys:List Int) (h1:k<xs.length) (a:k<ys.length):Ww (xs.drop k) (ys.drop k)=if xs.getD k 0<ys.getD k 0 then -1 else if ys.getD k 0<xs.getD k 0 then 1 else Ww (xs.drop (k+1)) (ys.drop (k+1)):=by
 rw[OF h1,OF a,AS,AT h1,AS,AT a];rfl
theorem A0H (xs ys:List Int) (h:xs.length<=k\/ys.length<=k):Ww (xs.drop k) (ys.drop k)=0:=by
 rcases h with h|h
 .rw[NO h];simp[Ww]
 rw[NO h];simp[Ww]
def Ey (a b:List (Int×List (Int×Int))):Int:=Ww (B9 a) (B9 b)
def GH (f:List (Int×List (Int×Int))):Prop:=f.length<=100000/\∀n∈f,n.2.length<=100000
def VQ:AW:={ ins:=[Fm,Fm],pre:=λ(a,b,_)=>GH a/\GH b,out:=λ(a,b,_)=>[.p T3 (Ey a b)] }
theorem Pm {f:List (Int×List (Int×Int))} (h:GH f):(B9 f).length<=1+f.length*200002:=by
 have:=VO f h.2;simp only[B9,IS];omega
theorem lX:AY Tryz.prog 52 VQ:=by
 refine fK [0,1,2,3,4,5,6,7,21,32,41] Tryz.func52 Tryz.ntmps52 (AF lW AH) ?_;rintro w0 O0 ⟨a,b,u⟩ e-⟨⟨g,i⟩,⟨j,l⟩⟩;have m:=Pm ⟨g,i⟩;have n:=Pm ⟨j,l⟩;simp only[VQ,AL];repeat'(first|exact trivial|apply eS rfl|refine rX e ?_ ?_)
 .exact⟨g,i⟩
 .exact⟨j,l⟩
 refine AI (ι:={k:Nat//Ww ((B9 a).drop k) ((B9 b).drop k)=Ey a b}) (λk=>⟨[(5,.p Br (B9 a)),(6,.p Br (B9 b)),(7,.p (.int .i64) (k.1:Int))],[]⟩) (λk=>(B9 a).length-k.1) ⟨0,by simp[Ey]⟩ (AC [] rfl rfl ?_ ?_) (λk=>?_)
 .exact eN
 .exact eN
 obtain⟨k,hk⟩:=k;repeat'(first|exact trivial|apply eS rfl|apply AB|refine rX e ?_ ?_|refine rC ?_ ?_<;>intro f<;>try(cases f;done))
 .exact eV
 .obtain⟨h1,c⟩:k<(B9 a).length/\k<(B9 b).length:=by exact eV
  have d:Ey a b=-1:=by rw[<-hk,Q0 _ _ h1 c,BY f]
  exact fI e [.tmp 4] (by rw[d];exact eR)
 .exact eV
 .obtain⟨h1,c⟩:k<(B9 a).length/\k<(B9 b).length:=by exact eV
  have d:Ey a b=1:=by rw[<-hk,Q0 _ _ h1 c,As (by exact eV),BY f]
  exact fI e [.tmp 4] (by rw[d];exact eR)
 .exact eV
 .obtain⟨h1,c⟩:k<(B9 a).length/\k<(B9 b).length:=by exact eV
  refine⟨⟨k+1,?_⟩,by simp only;exact eV,AC [] rfl rfl ?_ ?_⟩
  .rw[<-hk,Q0 _ _ h1 c,As (by exact eV),As (by exact eV)]
  .exact eN
  exact eN
 have d:Ey a b=0:=by
  rw[<-hk];apply A0H;by_cases h:k<(B9 a).length
  .right;have:=f (by exact eV);exact eV
  left;exact eV
 exact fI e [.tmp 4] (by rw[d];exact eR)
def OG:AW:={ ins:=[Fm,Fm],pre:=λ(a,b,_)=>GH a/\GH b,out:=λ(a,b,_)=>[.p .bool (Ey a b==0)] }
end
section
attribute [local go_sem] VQ fH
theorem A0I:AY Tryz.prog 21 OG:=by
 refine fK [0,1,2,3,4] Tryz.func21 Tryz.ntmps21 (AF lX AH) ?_;rintro w0 O0 ⟨a,b,u⟩ c-d;simp only[OG,AL];repeat'(first|exact trivial|apply eS rfl|refine rX c ?_ ?_)
 .exact d
 exact fI c [.tmp 4]
def IW (m:Int):List (Int×List (Int×Int))->Int
 | []=>0
 | n :: r=>if n.1<0 then 2 else if Gx n.2 m≠0 then Gx n.2 m else IW m r
def Ca (f:List (Int×List (Int×Int))):Int:=if f.length=0 then 1 else if 4096<f.length then 7 else IW f.length f
def A0J:AW:={ ins:=[Fm],pre:=λ_=>True,out:=λ(f,_)=>[.p C6 (Ca f)] }
theorem Hv (m:Int) (l:List (Int×List (Int×Int))) (h:k<l.length):IW m (l.drop k)=if (l.getD k (0,[])).1<0 then 2 else if Gx (l.getD k (0,[])).2 m≠0 then Gx (l.getD k (0,[])).2 m else IW m (l.drop (k+1)):=by
 rw[OF h,AS,AT h];rfl
theorem A44:AY Tryz.prog 78 A0J:=by
 refine fK [0,1,2,3,4,8,12,17,26,38] Tryz.func78 Tryz.ntmps78 (AF A43 AH) ?_;rintro w0 O0 ⟨l,u⟩ a ⟨f,-⟩ -;simp only[A0J,AL];repeat'(first|exact trivial|apply eS rfl|refine rX a ?_ ?_|refine rC ?_ ?_<;>intro b<;>try(cases b;done))
 .have h1:Ca l=1:=by
   have h:l.length=0:=by exact eV
   unfold Ca;rw[BY h]
  exact fI a [.tmp 2] (by rw[h1];exact eR)
 .have h1:Ca l=7:=by
   have h:¬l.length=0:=by exact eV
   have e:4096<l.length:=by exact eV
   unfold Ca;rw[As h,BY e]
  exact fI a [.tmp 2] (by rw[h1];exact eR)
 have h1:Ca l=IW l.length l:=by
  have h:¬l.length=0:=by exact eV
  have e:¬4096<l.length:=by exact eV
  unfold Ca;rw[As h,As e]
 refine AI (ι:={k:Nat//k<=l.length/\IW l.length (l.drop k)=Ca l}) (λk=>⟨[(1,.bp 1 [] 0),(3,.p (.int .i64) (k.1:Int))],[(1,.box 34 true [.p JD l])]⟩) (λk=>l.length-k.1) ⟨0,by simp[h1]⟩ (AC [(1,.nm 1)] rfl rfl ?_ ?_) (λk=>?_)
 .exact eN
 .exact eN
 obtain⟨k,hk,hf⟩:=k;repeat'(first|exact trivial|apply eS rfl|apply AB|refine rX a ?_ ?_|refine rC ?_ ?_<;>intro b<;>try(cases b;done))
 .exact eV
 .have d:k<l.length:=by exact eV
  have c:Ca l=2:=by rw[<-hf,Hv _ _ d,BY b]
  exact fI a [.tmp 2] (by rw[c];exact eR)
 .exact eV
 .have d:k<l.length:=by exact eV
  have c:Ca l=Gx (l.getD k (0,[])).2 l.length:=by rw[<-hf,Hv _ _ d,As (by exact eV),BY b]
  exact fI a [.tmp 2] (by rw[c];exact eR)
 .exact eV
 .have d:k<l.length:=by exact eV
  refine⟨⟨k+1,by exact eV,?_⟩,by simp only;exact eV,AC [(1,.nm 1)] rfl rfl ?_ ?_⟩
  .rw[<-hf,Hv _ _ d,As (by exact eV),As (by simpa using b)]
  .exact eN
  exact eN
 have c:Ca l=0:=by
  have hk:l.length<=k:=by exact eV
  rw[<-hf,NO hk];rfl
 exact fI a [.tmp 2] (by rw[c];exact eR)
end
section
attribute [local go_sem] A0J X4
theorem VR {n:Int}:∀ {l seen:List (Int×Int)},Gg n seen l=0->∀a∈l,0<=a.1/\0<=a.2/\a.2<n
 | [],_,_,a,ha=>by cases ha
 | x :: l,seen,h,a,ha=>by
  simp only[Gg]at h;split at h
  .cases h
  split at h
  .cases h
  rename_i h1 _;rcases DO.1 ha with rfl|ha
  .omega
  exact VR h a ha
theorem VS {m:Int}:∀ {f:List (Int×List (Int×Int))},IW m f=0->∀x∈f,0<=x.1/\∀a∈x.2,0<=a.1/\0<=a.2/\a.2<m
 | [],_,x,c=>by cases c
 | y :: f,h,x,c=>by
  simp only[IW]at h;split at h
  .cases h
  split at h
  .rename_i h1 b;exact absurd h b
  rename_i h1 b;have b:Gx y.2 m=0:=GO b;rcases DO.1 c with rfl|c
  .exact⟨by omega,VR b⟩
  exact VS h x c
def Zy (f:List (Int×List (Int×Int))):Prop:=∀x∈f,x.2.length<=100000
theorem OH {f:List (Int×List (Int×Int))} (h:Ca f=0) (hs:Zy f):AX f/\0<f.length:=by
 unfold Ca at h;split at h
 .cases h
 split at h
 .cases h
 refine⟨⟨by omega,λx b=>⟨hs x b,λa ha=>?_⟩⟩,by omega⟩;have:=(VS h x b).2 a ha;exact⟨this.2.1,this.2.2⟩
def BR (f:List AD):List AD×Int:=if Ca f=0 then (NN f 0,0) else ([],Ca f)
def VT:AW:={ ins:=[Fm],pre:=λ(f,_)=>Zy f,out:=λ(f,_)=>[.p Fm (BR f).1,.p C6 (BR f).2] }
theorem A0K:AY Tryz.prog 35 VT:=by
 refine fK [0,1,2,3,4,8] Tryz.func35 Tryz.ntmps35 (AF A44 (AF A3X AH)) ?_;rintro w0 O0 ⟨f,u⟩ b-hs;simp only[VT,AL];repeat'(first|exact trivial|apply eS rfl|refine rX b ?_ ?_|refine rC ?_ ?_<;>intro a<;>try(cases a;done))
 .have h:¬Ca f=0:=by simpa using a
  have e:BR f=([],Ca f):=As h;exact fI b [.cell 2 34,.tmp 3] (by rw[e];exact eR)
 .have h:Ca f=0:=by simpa using a
  have:=OH h hs;exact⟨this.1,by exact eV⟩
 have h:Ca f=0:=by simpa using a
 have e:BR f=(NN f 0,0):=BY h;exact fI b [.cell 2 34,.tmp 3] (by rw[e];exact eR)
end
section
attribute [local go_sem] Gf fH
theorem A5K {α:Type} (d:α) {l:List α} (h:k<l.length):l.drop k=l.getD k d :: l.drop (k+1):=by
 rw[OF h];have e:l.getD k d=l[k]:=by simp[AS,h]
 rw[e]
end
section
attribute [local go_sem] Gf fH S9
def fL (l:List (Int×Int)):List (Int×Bool):=l.foldl (λm a=>E4 T3 .bool a.1 true m) []
theorem VU {b:Ty} (x k:Int) (v:b.den) (m:List (Int×b.den)):BS T3 b x (E4 T3 b k v m)=if x=k then some v else BS T3 b x m:=by
 induction m with
 | nil=>simp[E4,BS,HG]
 | cons y m g =>
  simp only[E4];by_cases c:HG T3 k y.1=true
  .rw[BY c];have d:k=y.1:=by simpa[HG] using c
   simp only[BS,HG,AAc];by_cases a:x=k
   .rw[BY a,BY a]
   rw[As a,As a,As (by rw[<-d];exact a)]
  rw[As c];have d:¬k=y.1:=by simpa[HG] using c
  simp only[BS];by_cases a:HG T3 x y.1=true
  .have f:x=y.1:=by simpa[HG] using a
   rw[BY a,BY a,As (by rw[f];exact λe=>d e.symm)]
  rw[As a,As a,g]
theorem uJ (x:Int) (l:List (Int×Int)):(BS T3 .bool x (fL l)).getD false=l.any λy=>y.1==x:=by
 induction l using GN with
 | h0=>rfl
 | h1 l a c =>
  have e:fL (l++[a])=E4 T3 .bool a.1 true (fL l):=by unfold fL;rw[ABl];rfl
  rw[e,VU,ABJ,<-c];by_cases h:x=a.1
  .rw[BY h,h];simp
  rw[As h];have b:¬a.1=x:=λe=>h e.symm;simp[b]
def Fe (x:AD) (n:Int):Int:=if x.1<0 then 2 else Gx x.2 n
def VV:AW:={ ins:=[Md,T3],pre:=λ_=>True,out:=λ(x,n,_)=>[.p C6 (Fe x n)] }
attribute [local go_sem] VV
theorem lY:AY Tryz.prog 91 VV:=by
 refine fK [0,1,2,4,5,7,10,13,14,15,16,32,36] Tryz.func91 Tryz.ntmps91 AH ?_;rintro w0 O0 ⟨⟨t,l⟩,n,u⟩ d ⟨⟨-,⟨o,-⟩⟩,-⟩ -;simp only[AO]at o;simp only[VV,AL];repeat'(first|exact trivial|apply eS rfl|refine rX d ?_ ?_|refine rC ?_ ?_<;>intro b<;>try(cases b;done))
 .have h1:Fe (t,l) n=2:=BY b;exact fI d [.tmp 4] (by rw[h1];exact eR)
 have h0:Fe (t,l) n=Gg n [] l:=As (AAU.2 b);rw[h0];refine AI (ι:={k:Nat//k<=List.length l/\Gg n [] l=Gg n ((l:List (Int×Int)).take k) ((l:List (Int×Int)).drop k)}) (λk=>⟨[(1,.p T3 n),(5,.mp 11),(13,.p Mx l),(14,.p (.int .i64) (List.length l:Int)),(15,.p (.int .i64) (k.1:Int))],[(11,.mapo T3 .bool (fL ((l:List (Int×Int)).take k.1)))]⟩) (λk=>List.length l-k.1) ⟨0,By _,rfl⟩ (AC [(11,.nm 11)] rfl rfl ?_ ?_) (λk=>?_)
 .refine eM ?_;rfl
 .exact eN
 obtain⟨k,hk,f⟩:=k;have g:=λh:k<l.length=>OE n l h;have q:=λh:k<l.length=>Qx (λ(m:List (Int×Bool)) (a:Int×Int)=>E4 T3 .bool a.1 true m) l (0,0) [] h;have i:=λx=>uJ x (List.take k (l:List (Int×Int)));simp only;repeat'(first|exact trivial|apply eS rfl|apply AB|refine rX d ?_ ?_|refine rC ?_ ?_<;>intro b<;>try(cases b;done))
 .exact b
 .have c:k<List.length l:=by exact eV
  have e:Gg n [] l=2:=by rw[f,g c,BY O1]
  exact fI d [.tmp 4] (by rw[e];exact eR)
 .have c:k<List.length l:=by exact eV
  rw[i]at b;have e:Gg n [] l=4:=by rw[f,g c,As O1,BY b]
  exact fI d [.tmp 4] (by rw[e];exact eR)
 .exact eV
 .have c:k<List.length l:=by exact eV
  rw[i]at b;refine⟨⟨k+1,c,by rw[f,g c,As O1,As (by rw[b];simp)]⟩,by simp only;omega,AC [(11,.nm 11)] rfl rfl ?_ ?_⟩
  .refine eM ?_;exact(q c).symm
  exact eN
 have j:List.drop k (l:List (Int×Int))=[]:=NO (by exact eV);have e:Gg n [] l=0:=by rw[f,j];rfl
 exact fI d [.tmp 4] (by rw[e];exact eR)
theorem fN {n:Int}:∀ {l seen:List (Int×Int)},Gg n seen l=0->(∀a∈l,∀b∈seen,b.1≠a.1)/\Zu l
 | [],_,_=>⟨λa ha=>(by cases ha),List.Pairwise.nil⟩
 | x :: l,seen,h=>by
  simp only[Gg]at h;split at h
  .cases h
  split at h
  .cases h
  rename_i h1 g;obtain⟨c,f⟩:=fN h;refine⟨λa ha b d=>?_,AAo.2 ⟨λa ha e=>c a ha x sc e,f⟩⟩;rcases DO.1 ha with rfl|ha
  .intro e;exact g (To.2 ⟨b,d,by simp[e]⟩)
  exact c a ha b (by simp[d])
theorem fO {m:Int}:∀ {f:List AD},IW m f=0->∀x∈f,Zu x.2
 | [],_,x,b=>by cases b
 | y :: f,h,x,b=>by
  simp only[IW]at h;split at h
  .cases h
  split at h
  .rename_i h1 a;exact absurd h a
  rename_i h1 a;have a:Gx y.2 m=0:=GO a;rcases DO.1 b with rfl|b
  .exact(fN a).2
  exact fO h x b
def R7 (f:List AD):Prop:=∀x∈f,SS x.2
theorem fP (h:Ca f=0) (hs:R7 f):NdF f:=by
 unfold Ca at h;split at h
 .cases h
 split at h
 .cases h
 exact λx a=>⟨fO h x a,hs x a⟩
def Pn:AW:={ ins:=[Fm],pre:=λ(f,_)=>R7 f,out:=λ(f,_)=>[.p Fm (BR f).1,.p C6 (BR f).2] }
attribute [local go_sem] Pn
theorem uK:AY Tryz.prog 49 Pn:=by
 refine fK [0,1,2,3,5,6,10,15,18,19,20,21,30] Tryz.func49 Tryz.ntmps49 (AF lY (AF uH AH)) ?_;rintro w0 O0 ⟨f,u⟩ c ⟨⟨n,-⟩,-⟩ hs;simp only[AO]at n;have hs:R7 f:=hs;have l:Zy f:=λx o=>gO (hs x o).1 O1;simp only[Pn,AL];repeat'(first|exact trivial|apply eS rfl|refine rX c ?_ ?_|refine rC ?_ ?_<;>intro a<;>try(cases a;done))
 .have h1:Ca f=1:=by
   have h:f.length=0:=by exact eV
   unfold Ca;rw[BY h]
  have e:BR f=([],1):=by unfold BR;rw[h1];rfl
  exact fI c [.cell 2 34,.tmp 3] (by rw[e];exact eR)
 .have h1:Ca f=7:=by
   have h:¬f.length=0:=by exact eV
   have i:4096<f.length:=by exact eV
   unfold Ca;rw[As h,BY i]
  have e:BR f=([],7):=by unfold BR;rw[h1];rfl
  exact fI c [.cell 2 34,.tmp 3] (by rw[e];exact eR)
 have h1:Ca f=IW f.length f:=by
  have h:¬f.length=0:=by exact eV
  have i:¬4096<f.length:=by exact eV
  unfold Ca;rw[As h,As i]
 have j:0<f.length:=by exact eV
 refine AI (ι:={k:Nat//k<=f.length/\IW f.length (f.drop k)=Ca f}) (λk=>⟨[(1,.bp 1 [] 0),(2,.bp 2 [] 0),(18,.p JD f),(19,.p (.int .i64) (f.length:Int)),(20,.p (.int .i64) (k.1:Int))],[(1,.box 34 true [.p JD f]),(2,.box 34 true [.raw (.slice none 0 0)])]⟩) (λk=>f.length-k.1) ⟨0,by simp[h1]⟩ (eW [(1,.nm 1),(2,.nm 2)]) (λk=>?_)
 obtain⟨k,hk,hf⟩:=k;simp only;repeat'(first|exact trivial|apply eS rfl|apply AB|refine rX c ?_ ?_|refine rC ?_ ?_<;>intro a<;>try(cases a;done))
 .exact a
 .have g:k<f.length:=by exact eV
  have a:¬Fe (f.getD k (0,[])) f.length=0:=a;have m:Ca f=Fe (f.getD k (0,[])) f.length:=by
   rw[<-hf,Hv _ _ g];unfold Fe at a ⊢;by_cases b:(f.getD k (0,[])).1<0
   .rw[BY b,BY b]
   rw[As b]at a;rw[As b,As b,BY a]
  have e:BR f=([],Fe (f.getD k (0,[])) f.length):=by unfold BR;rw[m,As a]
  exact fI c [.cell 2 34,.tmp 3] (by rw[e];exact eR)
 .exact eV
 .have g:k<f.length:=by exact eV
  have a:Fe (f.getD k (0,[])) f.length=0:=by simpa using a
  refine⟨⟨k+1,g,?_⟩,by simp only;omega,AC [(1,.nm 1),(2,.nm 2)] rfl rfl ?_ ?_⟩
  .rw[<-hf,Hv _ _ g];unfold Fe at a;by_cases b:(f.getD k (0,[])).1<0
   .rw[BY b]at a;cases a
   rw[As b]at a;rw[As b,As (by rw[a];simp)]
  .exact eN
  exact eN
 .have d:Ca f=0:=by rw[<-hf,NO (by exact eV)];rfl
  exact⟨(OH d l).1,fP d hs,iF.2 j⟩
 have d:Ca f=0:=by rw[<-hf,NO (by exact eV)];rfl
 have e:BR f=(AP (DA f) 0,0):=by unfold BR;rw[BY d,IV (OH d l).1 (fP d hs) (ABf 0) (iF.2 j)]
 exact fI c [.cell 2 34,.tmp 3] (by rw[e];exact eR)
end
def JU (h:AE) (f:Int):Int:=(h.2.getD f.toNat (ByteArray.empty,0)).2
def Lw (h:AE) (n:Int):List (Int×Int)->D6->Option D6
 | [],s=>some s
 | a :: l,s=>(C9 h s n (JU h a.1)).bind (Lw h n l)
def M2 (h:AE) (n:Int):List (Int×Int)->D6->Option D6
 | [],s=>some s
 | a :: l,s=>if (Bx h (s.1.getD n.toNat 0) a.1).2=true then (C9 h s a.2 (Bx h (s.1.getD n.toNat 0) a.1).1).bind (M2 h n l) else none
def Ko (h:AE) (f:List AD) (n:Int) (s:D6):Option D6:=(Lw h n (f.getD n.toNat (0,[])).2 s).bind (M2 h n (f.getD n.toNat (0,[])).2)
def v7 (h:AE) (f:List AD):Nat->Nat->D6->Option (List Int)
 | 0,_,_=>none
 | k+1,i,s=>if i<s.2.length then (Ko h f (s.2.getD i 0) s).bind (v7 h f k (i+1)) else some s.1
def Ay (f:List AD):List Int:=f.map λx=>x.1
def ED (f:List AD):List Int:=(List.range f.length).map λi:Nat=>(i:Int)
def CD (f:List AD) (ty:List Int):List AD:=(List.range f.length).map λi=>(ty.getD i 0,(f.getD i (0,[])).2)
structure bD (h:AE):Prop where
 int:∀x∈h.2,0<=x.2/\x.2<(h.1.length:Int)
 val:∀t∈h.1,∀p∈t.2.2.2,0<=p.2/\p.2<(h.1.length:Int)
structure M3 (h:AE) (m:Nat) (s:D6):Prop where
 len:s.1.length=m
 ty:∀t∈s.1,0<=t/\t<(h.1.length:Int)
 wt:∀n∈s.2,0<=n/\n<(m:Int)
theorem M3.get {m:Nat} {s:D6} (hs:M3 h m s) (n0:0<=n) (n1:n<(m:Int)):0<=s.1.getD n.toNat 0/\s.1.getD n.toNat 0<(h.1.length:Int):=by
 have a:n.toNat<s.1.length:=by rw[hs.len];omega
 rw[AS,AT a];exact hs.ty _ (AAm a)
def fQ (h:AE) (t:Int):Nat:=((List.range h.1.length).filter λi:Nat=>Aa h t (i:Int)).length
def Ml (h:AE) (ty:List Int):Nat:=(ty.map (fQ h)).sum
theorem X9 {α:Type} {p q:α->Bool}:∀ {l:List α},(∀x∈l,q x=true->p x=true)->(∃b∈l,p b=true/\q b=false)->(l.filter q).length<(l.filter p).length
 | [],_,⟨b,c,_⟩=>by cases c
 | x :: l,h1,⟨b,c,f,g⟩=>by
  have i:∀ {l:List α},(∀x∈l,q x=true->p x=true)->(l.filter q).length<=(l.filter p).length:=by
   intro l h;induction l with
   | nil=>exact Of _
   | cons y l j =>
    have e:=j λz d=>h z (IF _ d);rw[AAr,AAr];by_cases a:q y=true
    .rw[BY a,BY (h y sc a)];simp only[IS];omega
    rw[As a];split
    .simp only[IS];omega
    exact e
  rw[AAr,AAr];rcases DO.1 c with rfl|c
  .rw[As (by rw[g];simp),BY f];have:=i λz d=>h1 z (IF _ d);simp only[IS];omega
  have e:=X9 (λz d=>h1 z (IF _ d)) ⟨b,c,f,g⟩;by_cases a:q x=true
  .rw[BY a,BY (h1 x sc a)];simp only[IS];omega
  rw[As a];split
  .simp only[IS];omega
  exact e
theorem TA (hk:Fd h) {a:Int} (b:0<=a) (c:a<(h.1.length:Int)):Aa h a a=true:=(BQ hk b c b c).2 λ_ h=>h
theorem Ff (hk:Fd h) {a c:Int} (d:0<=a) (e:a<(h.1.length:Int)) (f:0<=b) (b1:b<(h.1.length:Int)) (c0:0<=c) (c1:c<(h.1.length:Int)) (h1:Aa h a b=true) (g:Aa h b c=true):Aa h a c=true :=
 (BQ hk d e c0 c1).2 λi hi=>(BQ hk d e f b1).1 h1 i ((BQ hk f b1 c0 c1).1 g i hi)
theorem pK (hk:Fd h) (hi:HA h) {a m:Int} (b:0<=a) (c:a<(h.1.length:Int)) (f:0<=m) (g:m<(h.1.length:Int)) (hs:Aa h a m=true) (i:m≠a):fQ h m<fQ h a:=by
 refine X9 (λx d e=>?_) ⟨a.toNat,tO.2 O1,?_,?_⟩
 .have d:=tO.1 d;exact Ff hk b c f g (AAh _) O1 hs e
 .rw[AB6 b];exact TA hk b c
 rw[AB6 b];cases e:Aa h m a with
 | false=>rfl
 | true=>exact absurd (hi m a f g b c e hs) i
theorem pL {α:Type} (g:α->Nat) (d:α):∀ {l:List α} {i:Nat} {v:α},i<l.length->((l.set i v).map g).sum+g (l.getD i d)=(l.map g).sum+g v
 | [],i,v,h=>by simp at h
 | x :: l,0,v,h=>by simp only[ACr,iS,ACD,List.getD_cons_zero];omega
 | x :: l,i+1,v,h=>by
  have:=pL g d (l:=l) (i:=i) (v:=v) (by simpa using h);simp only[ACs,iS,ACD,List.getD_cons_succ];omega
theorem Ee (hk:Fd h) (hi:HA h) {m:Nat} {s b:D6} (hs:M3 h m s) {t:Int} (n0:0<=n) (n1:n<(m:Int)) (o:0<=t) (p:t<(h.1.length:Int)) (e:C9 h s n t=some b) :
  M3 h m b/\Ml h b.1+b.2.length<=Ml h s.1+s.2.length/\s.2.length<=b.2.length:=by
 obtain⟨c,d⟩:=hs.get n0 n1;unfold C9 at e;split at e
 .rename_i j;obtain⟨f,g,l,u⟩:=(Ls hk c d o p).1 j;generalize (Cn h (s.1.getD n.toNat 0) t).1=v at *;injection e with e
  split at e
  .subst e;exact⟨hs,Of _,Of _⟩
  rename_i k;subst e;have r:=pK hk hi c d f g l k;have i:n.toNat<s.1.length:=by rw[hs.len];omega
  have q:=pL (fQ h) 0 (v:=v) i;refine⟨⟨by simp only[AAk];exact hs.len,λx a=>?_,λx a=>?_⟩,?_,by simp⟩
  .rcases AAV a with a|rfl
   .exact hs.ty x a
   exact⟨f,g⟩
  .rcases Is.1 a with a|a
   .exact hs.wt x a
   rw[oN.1 a];exact⟨n0,n1⟩
  unfold Ml;simp only[Do,nO];omega
 cases e
def FJ (h:AE) (m:Nat) (a:Int×Int):Prop:=(0<=a.1/\a.1<(h.2.length:Int))/\0<=a.2/\a.2<(m:Int)
theorem Gh (hf:bD h) {f:Int} (b:0<=f) (c:f<(h.2.length:Int)):0<=JU h f/\JU h f<(h.1.length:Int):=by
 have a:f.toNat<h.2.length:=by omega
 unfold JU;rw[AS,AT a];exact hf.int _ (AAm a)
theorem YA {f:Int}:∀ {l:List (Int×Int)},(Dy f l).2=true->(f,(Dy f l).1)∈l
 | [],h=>by cases h
 | x :: l,h=>by
  unfold Dy at h ⊢;split
  .rename_i e;rw[<-e];simp
  rename_i e;rw[As e]at h;exact IF _ (YA h)
theorem uL {t:Int} (a:0<=t) (b:t<(h.1.length:Int)):h.1.getD t.toNat NK∈h.1:=AG h.1 NK O1
theorem Ez (hf:bD h) {t f:Int} (a:0<=t) (b:t<(h.1.length:Int)) (e:(Bx h t f).2=true):0<=(Bx h t f).1/\(Bx h t f).1<(h.1.length:Int) :=
 hf.val _ (uL a b) _ (YA e)
theorem Po {h:AE} (hk:Fd h) (hi:HA h) (hf:bD h) {m:Nat} {n:Int} (n0:0<=n) (n1:n<(m:Int)):∀ {l:List (Int×Int)} {s c:D6},(∀a∈l,FJ h m a)->M3 h m s->Lw h n l s=some c ->
  M3 h m c/\Ml h c.1+c.2.length<=Ml h s.1+s.2.length/\s.2.length<=c.2.length
 | [],s,c,_,hs,e=>by
  injection e with e
  subst e;exact⟨hs,Of _,Of _⟩
 | a :: l,s,c,f,hs,e=>by
  unfold Lw at e;cases d:C9 h s n (JU h a.1) with
  | none=>rw[d]at e;cases e
  | some s1 =>
   rw[d]at e;obtain⟨⟨g,i⟩,-⟩:=f a sc;obtain⟨o,p⟩:=Gh hf g i;obtain⟨j,r,t⟩:=Ee hk hi hs n0 n1 o p d;obtain⟨q,u,v⟩:=Po hk hi hf n0 n1 (λb k=>f b (by simp[k])) j e;exact⟨q,by omega,by omega⟩
theorem TB {h:AE} (hk:Fd h) (hi:HA h) (hf:bD h) {m:Nat} {n:Int} (n0:0<=n) (n1:n<(m:Int)):∀ {l:List (Int×Int)} {s c:D6},(∀a∈l,FJ h m a)->M3 h m s->M2 h n l s=some c ->
  M3 h m c/\Ml h c.1+c.2.length<=Ml h s.1+s.2.length/\s.2.length<=c.2.length
 | [],s,c,_,hs,e=>by
  injection e with e
  subst e;exact⟨hs,Of _,Of _⟩
 | a :: l,s,c,g,hs,e=>by
  unfold M2 at e;split at e
  .rename_i o;obtain⟨j,f⟩:=hs.get n0 n1;obtain⟨p,q⟩:=Ez hf j f o;cases d:C9 h s a.2 (Bx h (s.1.getD n.toNat 0) a.1).1 with
   | none=>rw[d]at e;cases e
   | some s1 =>
    rw[d]at e;obtain⟨-,i,b1⟩:=g a sc;obtain⟨f,t,u⟩:=Ee hk hi hs i b1 p q d;obtain⟨r,v,w⟩:=TB hk hi hf n0 n1 (λb k=>g b (by simp[k])) f e;exact⟨r,by omega,by omega⟩
  cases e
def Lx (h:AE) (f:List AD):Prop:=∀x∈f,∀a∈x.2,FJ h f.length a
theorem Ly (ha:Lx h f) (n0:0<=n) (n1:n<(f.length:Int)):∀a∈(f.getD n.toNat (0,[])).2,FJ h f.length a:=ha _ (AG f (0,[]) O1)
theorem VW (hk:Fd h) (hi:HA h) (hf:bD h) (ha:Lx h f) (n0:0<=n) (n1:n<(f.length:Int)) {s a:D6} (hs:M3 h f.length s) (e:Ko h f n s=some a) :
  M3 h f.length a/\Ml h a.1+a.2.length<=Ml h s.1+s.2.length/\s.2.length<=a.2.length:=by
 unfold Ko at e;cases b:Lw h n (f.getD n.toNat (0,[])).2 s with
 | none=>rw[b]at e;cases e
 | some s1 =>
  rw[b]at e;obtain⟨c,g,i⟩:=Po hk hi hf n0 n1 (Ly ha n0 n1) hs b;obtain⟨d,j,k⟩:=TB hk hi hf n0 n1 (Ly ha n0 n1) c e;exact⟨d,by omega,by omega⟩
theorem A45 (h:AE) (t:Int):fQ h t<=h.1.length:=by
 unfold fQ;exact gO (ABb _ _) sc
theorem A0L (h:AE):∀ty:List Int,Ml h ty<=ty.length*h.1.length
 | []=>by simp[Ml]
 | t :: ty=>by
  have h1:=A0L h ty;have a:=A45 h t;unfold Ml at h1 ⊢;simp only[iS,ACD,IS,AC4,Nat.one_mul];omega
def Hw (h:AE) (f:List AD):Nat:=f.length*h.1.length+f.length+1
def E9 (h:AE) (f:List AD):Option (List Int):=v7 h f (Hw h f) 0 (Ay f,ED f)
def Cv (h:AE) (f:List AD):List AD×Bool:=match E9 h f with
 | some ty=>(CD f ty,true)
 | none=>([],false)
theorem fR (a:∀x∈f,0<=x.1/\x.1<(h.1.length:Int)):M3 h f.length (Ay f,ED f):=by
 refine⟨by simp[Ay],λt h1=>?_,λn hn=>?_⟩
 .obtain⟨x,b,rfl⟩:=IN.1 h1;exact a x b
 obtain⟨i,hi,rfl⟩:=IN.1 hn;have:=tO.1 hi;omega
theorem Zz (h:AE) (f:List AD):Ml h (Ay f)+(ED f).length+1<=Hw h f:=by
 have:=A0L h (Ay f);unfold Hw;rw[show (Ay f).length=f.length by simp[Ay]]at this;rw[show (ED f).length=f.length by simp[ED]];omega
def inF (l:List Int) (n:Int):Bool:=l.any λx=>x==n
def fS:AW:={ ins:=[T3],pre:=λ_=>True,out:=λ(t,_)=>[.p Fm [(t,[])]] }
theorem A46:AY Tryz.prog 31 fS:=by
 refine fK [0,2] Tryz.func31 Tryz.ntmps31 AH ?_;rintro w0 O0 ⟨t,u⟩ a - -;simp only[fS,AL];repeat'(first|exact trivial|apply eS rfl|apply AB|refine rX a ?_ ?_|refine rC ?_ ?_<;>intro b<;>try(cases b;done))
 exact fI a [.cell 2 34]
theorem fT (l:List (Int×Int)):Pi l↔l.Pairwise (λa b=>a.1<b.1):=by
 constructor
 .intro h;rw[oR];have key:∀d i,i+d+1<l.length->(l.getD i (0,0)).1<(l.getD (i+d+1) (0,0)).1:=by
   intro d;induction d with
   | zero=>intro i hi;exact h i hi
   | succ d e =>
    intro i hi;have h1:=e i O1;have f:=h (i+d+1) O1;have:i+(d+1)+1=i+d+1+1:=by omega
    rw[this];omega
  intro i j hi c g;have h1:=key (j-i-1) i O1;rw[show i+(j-i-1)+1=j by omega]at h1;simpa[AS,hi,c] using h1
 intro h i hi;rw[oR]at h;have:=h i (i+1) O1 hi O1;simpa[AS,hi,show i<l.length by omega] using this
def Kp (l:List Int):List (Int×Bool):=l.foldl (λm x=>E4 T3 .bool x true m) []
theorem lZ {b:Ty} (x k:Int) (v:b.den) (m:List (Int×b.den)):BS T3 b x (E4 T3 b k v m)=if x=k then some v else BS T3 b x m:=by
 induction m with
 | nil=>simp[E4,BS,HG]
 | cons y m g =>
  simp only[E4];by_cases c:HG T3 k y.1=true
  .rw[BY c];have d:k=y.1:=by simpa[HG] using c
   simp only[BS,HG,AAc];by_cases a:x=k
   .rw[BY a,BY a]
   rw[As a,As a,As (by rw[<-d];exact a)]
  rw[As c];have d:¬k=y.1:=by simpa[HG] using c
  simp only[BS];by_cases a:HG T3 x y.1=true
  .have f:x=y.1:=by simpa[HG] using a
   rw[BY a,BY a,As (by rw[f];exact λe=>d e.symm)]
  rw[As a,As a,g]
theorem A47 (l:List Int) (x:Int):(BS T3 .bool x (Kp l)).getD false=inF l x:=by
 induction l using GN with
 | h0=>rfl
 | h1 l a c =>
  have e:Kp (l++[a])=E4 T3 .bool a true (Kp l):=by simp[Kp]
  rw[e,lZ];by_cases b:x=a
  .rw[BY b];subst b;simp[inF]
  rw[As b,c];simp only[inF,ABJ,List.any_cons,List.any_nil,ABZ];have:(a==x)=false:=by simpa using λe=>b e.symm
  rw[this,ABZ]
theorem YB:∀l:List Int,Ww l l=0
 | []=>rfl
 | x :: l=>by simp[Ww,YB l]
theorem Wx (a:List AD):Ey a a=0:=YB _
section
attribute [local go_sem] VT OG
def ftR (h:AE) (a:Int×Int):Bool:=decide (a.1<(h.2.length:Int))
def ndR (h:AE) (x:AD):Bool:=decide (x.1<(h.1.length:Int))&&x.2.all (ftR h)
def pM (h:AE) (f:List AD):Int:=if (BR f).2≠0 then (BR f).2 else if f.all (ndR h)=false then 2 else if (Ey f (BR f).1==0)=false then 3 else 0
end
section
attribute [local go_sem] NM NL
def Q1 (h:AE) (f:List AD) (t:Int):List (Int×Int)->Int
 | []=>0
 | a :: l=>if (Bx h t a.1).2=false then 10 else if Aa h (Bx h t a.1).1 (f.getD a.2.toNat (0,[])).1=false then 11 else Q1 h f t l
def Lz (h:AE) (f:List AD):List AD->Int
 | []=>0
 | x :: l=>if Q1 h f x.1 x.2=0 then Lz h f l else Q1 h f x.1 x.2
def Z0 (h:AE) (f:List AD):Int:=if pM h f=0 then Lz h f f else pM h f
theorem A0M:AY Tryz.prog 36 NM:=by
 refine fK [0,1,2,3,6,7,8,9,19,28] Tryz.func36 Tryz.ntmps36 AH ?_;rintro w0 O0 ⟨⟨b,hf⟩,t,f,u⟩ d q ⟨j,m⟩;simp only[NM,AL];refine Ev.ent (σ':=⟨[(0,.p FK (b,hf)),(1,.p T3 t),(2,.p T3 f)],[]⟩) ?_ (AC [] rfl rfl ?_ ?_)
 .repeat'(first|exact trivial|apply eS rfl|refine rX d ?_ ?_)
  .exact⟨j,m⟩
  have o:∀l,l=(List.getD b (Int.toNat t) (ByteArray.empty,[],[],[])).2.2.2->Bx (b,hf) t f=Dy f l:=λl e=>by rw[e];rfl
  have r:List.length (List.getD b (Int.toNat t) (ByteArray.empty,[],[],[])).2.2.2<=140737488355328:=(q.1.1.2 _ (AG (b:List EU) NK ((ACe j).2 m))).2.2.2.1;generalize (List.getD b (Int.toNat t) (ByteArray.empty,[],[],[])).2.2.2=l at *;rw[o l rfl];refine AI (ι:={k:Nat//k<=List.length l/\Dy f l=Dy f (l.drop k)}) (λk=>⟨[(2,.p T3 f),(8,.p Wn l),(9,.p (.int .i64) (k.1:Int))],[]⟩) (λk=>List.length l-k.1) ⟨0,By _,rfl⟩ (eW []) (λk=>?_)
  obtain⟨k,hk,a⟩:=k;have i:=λh:k<List.length l=>VG f l h;simp only;repeat'(first|exact trivial|apply eS rfl|apply AB|refine rX d ?_ ?_|refine rC ?_ ?_<;>intro c<;>try(cases c;done))
  .exact c
  .exact iF.2 (by exact eV)
  .have g:k<List.length l:=by exact eV
   rw[i g,BY c]at a;exact fI d [.tmp 6,.tmp 7] (by rw[a];exact eR)
  .omega
  .have g:k<List.length l:=by exact eV
   rw[i g,As c]at a;exact⟨⟨k+1,g,a⟩,by simp only;omega,eW []⟩
  have n:List.drop k (l:List (Int×Int))=[]:=NO (by exact eV);rw[n]at a;have a:Dy f l=(0,false):=a;exact fI d [.tmp 6,.tmp 7] (by rw[a];exact eR)
 .exact eN
 exact eN
end
section
attribute [local go_sem] NM PJ
theorem A0N (hk:Fd h) {a:Int} (c:0<=a) (d:a<(h.1.length:Int)) (e:0<=b) (b1:b<(h.1.length:Int)):Eb (BO h b) (BO h a)=Aa h a b:=by
 have f:=hk.1.wds _ (Be c d);have g:=hk.1.wds _ (Be e b1);rw[ABB,E8 g f];exact(BQ hk c d e b1).symm
def VX:AW:={ ins:=[FK,T3,T3],pre:=λ(h,a,b,_)=>(((0:Int)<=a/\a<(List.length (h:AE).1:Int))/\((0:Int)<=b/\b<(List.length (h:AE).1:Int)))/\Fd h,out:=λ(h,a,b,_)=>[.p .bool (Aa h a b)],lend:=true }
attribute [local go_sem] VX
theorem A0O:AY Tryz.prog 37 VX:=by
 refine fK [0,1,2,3,6] Tryz.func37 Tryz.ntmps37 (AF Qh AH) ?_;rintro w0 O0 ⟨⟨e,hf⟩,a,b,u⟩ d-⟨⟨ha,c⟩,hk⟩;have hk:Fd (e,hf):=hk;have f:=A0N hk ha.1 ha.2 c.1 c.2;have g:(BO (e,hf) b).length<=100000:=gO (hk.1.wid _ (Be c.1 c.2)) O1;simp only[VX,AL];repeat'(first|exact trivial|apply eS rfl|refine rX d ?_ ?_)
 .exact⟨c,ha,g⟩
 exact fI d [.tmp 6] (by rw[<-f];unfold BO;exact eR)
end
section
attribute [local go_sem] NL
def Bz (l:List (Int×Int)) (e:Int):Int:=match l with
 | []=>-1
 | a :: l=>if a.1=e then a.2 else Bz l e
theorem YC (e:Int) (l:List (Int×Int)) (h:k<l.length):Bz (l.drop k) e=if (l.getD k (0,0)).1=e then (l.getD k (0,0)).2 else Bz (l.drop (k+1)) e:=by
 rw[OF h];have e:l.getD k (0,0)=l[k]:=by simp[AS,h]
 rw[e];rfl
end
section
attribute [local go_sem] NL
structure A0P (a b:List AD) (m:List Int):Prop where
 len:m.length=a.length
 rng:∀x∈m,x<(b.length:Int)
theorem Pp {n:Int} (hn:0<=n):∀ {l:List (Int×Int)} (e:Int),(∀x∈l,x.2<n)->Bz l e<n
 | [],_,_=>by simp only[Bz];omega
 | x :: l,e,h=>by
  simp only[Bz];split
  .exact h x sc
  exact Pp hn e (λy a=>h y (by simp[a]))
theorem A0P.set {a b:List AD} {m:List Int} (h:A0P a b m) (k:Nat) {v:Int} (d:v<(b.length:Int)):A0P a b (m.set k v):=by
 refine⟨by simp[h.len],λx c=>?_⟩;rcases AAV c with c|c
 .exact h.rng x c
 rw[c];exact d
theorem A0P.get {a b:List AD} {m:List Int} (h:A0P a b m) (c:0<b.length) (k:Nat):m.getD k 0<(b.length:Int):=by
 rw[AS];cases hh:m[k]? with
 | none=>show (0:Int)<_;omega
 | some x=>exact h.rng x (AAy hh)
def Db (h:AE) (f:List AD):Prop:=∀x∈f,0<=x.1/\x.1<(h.1.length:Int)
theorem Pq (hf:AX f) (k:Nat):∀x∈(f.getD k (0,[])).2,0<=x.2/\x.2<(f.length:Int):=by
 intro x a;by_cases h:k<f.length
 .exact(hf.2 _ (AG f (0,[]) h)).2 x a
 rw[AS,oS O1]at a;cases a
end
def YD (s:ByteArray):Nat->List EU->Int
 | _,[]=>-1
 | k,x :: l=>if AM x.1 s=true then (k:Int) else YD s (k+1) l
def Ae (h:AE) (s:ByteArray):Int:=YD s 0 h.1
def iV (s:ByteArray):Nat->List R4->Int
 | _,[]=>-1
 | k,x :: l=>if AM x.1 s=true then (k:Int) else iV s (k+1) l
def A9 (h:AE) (s:ByteArray):Int:=iV s 0 h.2
theorem Z1 (s:ByteArray):∀(l:List EU) (k:Nat),YD s k l=-1\/((k:Int)<=YD s k l/\YD s k l<((k+l.length:Nat):Int))
 | [],_=>.inl rfl
 | x :: l,k=>by
  unfold YD;split
  .exact .inr ⟨ABf _,by simp only[IS];omega⟩
  have:=Z1 s l (k+1);simp only[IS];omega
theorem pO (s:ByteArray):∀(l:List R4) (k:Nat),iV s k l=-1\/((k:Int)<=iV s k l/\iV s k l<((k+l.length:Nat):Int))
 | [],_=>.inl rfl
 | x :: l,k=>by
  unfold iV;split
  .exact .inr ⟨ABf _,by simp only[IS];omega⟩
  have:=pO s l (k+1);simp only[IS];omega
theorem DI (h:AE) (s:ByteArray):-1<=Ae h s/\Ae h s<(h.1.length:Int):=by
 have:=Z1 s h.1 0;unfold Ae;omega
theorem GP (h:AE) (s:ByteArray):-1<=A9 h s/\A9 h s<(h.2.length:Int):=by
 have:=pO s h.2 0;unfold A9;omega
structure LW where
 list:Int
 cons:Int
 null:Int
 dlist:Int
 first:Int
 rest:Int
 head:Int
 last:Int
def sb (l:List UInt8):ByteArray:=⟨l.toArray⟩
def EF (h:AE):LW:=⟨Ae h (sb [108,105,115,116]),Ae h (sb [99,111,110,115]),Ae h (sb [110,117,108,108]),Ae h (sb [100,108,105,115,116]),A9 h (sb [70,73,82,83,84]),A9 h (sb [82,69,83,84]),A9 h (sb [76,73,83,84]),A9 h (sb [76,65,83,84])⟩
def SX (h:AE):Bool:=decide (0<=(EF h).list/\0<=(EF h).cons/\0<=(EF h).null/\0<=(EF h).dlist/\0<=(EF h).first/\0<=(EF h).rest/\0<=(EF h).head/\0<=(EF h).last)&&Aa h (EF h).list (EF h).cons&&Aa h (EF h).list (EF h).null
def YE (w:LW) (row:List (Int×Int)):Bool:=decide (Bz row w.first<0)&&decide (Bz row w.rest<0)
def YF (w:LW) (row:List (Int×Int)):Bool:=decide (0<=Bz row w.first)&&decide (0<=Bz row w.rest)
def l0 (h:AE) (w:LW) (x:AD):Bool:=Aa h w.null x.1&&YE w x.2
def VY (h:AE) (w:LW) (x:AD):Bool:=Aa h w.cons x.1&&YF w x.2
def YG (h:AE) (w:LW) (x:AD):Bool:=Aa h x.1 w.cons&&YE w x.2
def Fx (h:AE) (w:LW) (x:AD):Int:=if l0 h w x=true then 1 else if VY h w x=true then 2 else if YG h w x=true then 3 else 0
theorem YH {w:LW} {x:AD} (e:Fx h w x=2):0<=Bz x.2 w.first/\0<=Bz x.2 w.rest:=by
 unfold Fx at e;split at e
 .cases e
 split at e
 .rename_i a;unfold VY YF at a;simp only[An,If]at a;exact a.2
 split at e<;>cases e
theorem A0Q (e:SX h=true):(0<=(EF h).first/\0<=(EF h).rest)/\0<=(EF h).cons/\0<=(EF h).null/\0<=(EF h).list/\0<=(EF h).dlist/\0<=(EF h).head/\0<=(EF h).last:=by
 unfold SX at e;rw[An,An,If]at e;obtain⟨⟨⟨h1,a,b,c,d,f,g,i⟩,-⟩,-⟩:=e;exact⟨⟨d,f⟩,a,b,h1,c,g,i⟩
section
theorem fU (s:ByteArray) (l:List EU) (h:k<l.length):YD s k (l.drop k)=if AM (l.getD k NK).1 s=true then (k:Int) else YD s (k+1) (l.drop (k+1)):=by
 rw[OF h];have e:l.getD k NK=l[k]:=by simp[AS,h]
 rw[e];rfl
theorem fV (s:ByteArray) (l:List R4) (h:k<l.length):iV s k (l.drop k)=if AM (l.getD k (ByteArray.empty,0)).1 s=true then (k:Int) else iV s (k+1) (l.drop (k+1)):=by
 rw[OF h];have e:l.getD k (ByteArray.empty,0)=l[k]:=by simp[AS,h]
 rw[e];rfl
def NQ:AW:={ ins:=[FK,T9],pre:=λ_=>True,out:=λ(h,s,_)=>[.p T3 (Ae h s)],lend:=true }
attribute [local go_sem] NQ
theorem Mm:AY Tryz.prog 23 NQ:=by
 refine fK [0,1,2,4,5,10,20] Tryz.func23 Tryz.ntmps23 AH ?_;rintro w0 O0 ⟨⟨a,hf⟩,s,u⟩ e ⟨⟨⟨g,-⟩,-⟩,-⟩ -;simp only[AO]at g;simp only[NQ,AL];repeat'(first|exact trivial|apply eS rfl|apply AB|refine rX e ?_ ?_|refine rC ?_ ?_<;>intro b<;>try(cases b;done))
 refine AI (ι:={k:Nat//k<=a.length/\YD s k (a.drop k)=Ae (a,hf) s}) (λk=>⟨[(1,.p T9 s),(2,.bp 2 [] 0),(5,.p (.int .i64) (k.1:Int))],[(2,.box 26 true [.p OW a,.p QC hf])]⟩) (λk=>a.length-k.1) ⟨0,By _,rfl⟩ (eW [(2,.nm 2)]) (λk=>?_)
 obtain⟨k,hk,c⟩:=k;have f:=λh:k<a.length=>fU s a h;simp only;repeat'(first|exact trivial|apply eS rfl|apply AB|refine rX e ?_ ?_|refine rC ?_ ?_<;>intro b<;>try(cases b;done))
 .exact b
 .have d:k<a.length:=by exact eV
  rw[f d,BY b]at c;exact fI e [.tmp 4] (by rw[<-c];exact eR)
 .omega
 .have d:k<a.length:=by exact eV
  rw[f d,As (by rw[b];simp)]at c;exact⟨⟨k+1,by omega,c⟩,by simp only;omega,eW [(2,.nm 2)]⟩
 have d:a.drop k=[]:=NO (by exact eV);rw[d]at c;exact fI e [.tmp 4] (by rw[<-c];first|exact eR|refine Kv ?_;rfl)
def JV:AW:={ ins:=[FK,T9],pre:=λ_=>True,out:=λ(h,s,_)=>[.p T3 (A9 h s)],lend:=true }
attribute [local go_sem] JV
theorem A0R:AY Tryz.prog 59 JV:=by
 refine fK [0,1,2,4,5,10,20] Tryz.func59 Tryz.ntmps59 AH ?_;rintro w0 O0 ⟨⟨f,hf⟩,s,u⟩ d ⟨⟨-,g,-⟩,-⟩ -;simp only[AO]at g;simp only[JV,AL];repeat'(first|exact trivial|apply eS rfl|apply AB|refine rX d ?_ ?_|refine rC ?_ ?_<;>intro a<;>try(cases a;done))
 refine AI (ι:={k:Nat//k<=hf.length/\iV s k (hf.drop k)=A9 (f,hf) s}) (λk=>⟨[(1,.p T9 s),(2,.bp 2 [] 0),(5,.p (.int .i64) (k.1:Int))],[(2,.box 26 true [.p OW f,.p QC hf])]⟩) (λk=>hf.length-k.1) ⟨0,By _,rfl⟩ (eW [(2,.nm 2)]) (λk=>?_)
 obtain⟨k,hk,b⟩:=k;have e:=λh:k<hf.length=>fV s hf h;simp only;repeat'(first|exact trivial|apply eS rfl|apply AB|refine rX d ?_ ?_|refine rC ?_ ?_<;>intro a<;>try(cases a;done))
 .exact a
 .have c:k<hf.length:=by exact eV
  rw[e c,BY a]at b;exact fI d [.tmp 4] (by rw[<-b];exact eR)
 .omega
 .have c:k<hf.length:=by exact eV
  rw[e c,As (by rw[a];simp)]at b;exact⟨⟨k+1,by omega,b⟩,by simp only;omega,eW [(2,.nm 2)]⟩
 have c:hf.drop k=[]:=NO (by exact eV);rw[c]at b;exact fI d [.tmp 4] (by rw[<-b];first|exact eR|refine Kv ?_;rfl)
def A0S:AW:=JV
attribute [local go_sem] A0S
theorem VZ:AY Tryz.prog 81 JV:=by
 refine fK [0,1,2,4,5,6,8,9,10,11,20] Tryz.func81 Tryz.ntmps81 AH ?_;rintro w0 O0 ⟨⟨g,hf⟩,s,u⟩ b ⟨⟨-,f,-⟩,-⟩ -;simp only[AO]at f;simp only[JV,AL];repeat'(first|exact trivial|apply eS rfl|apply AB|refine rX b ?_ ?_|refine rC ?_ ?_<;>intro a<;>try(cases a;done))
 refine AI (ι:={k:Nat//k<=hf.length/\iV s k (hf.drop k)=A9 (g,hf) s}) (λk=>⟨[(1,.p T9 s),(8,.p QC hf),(9,.p (.int .i64) (hf.length:Int)),(10,.p (.int .i64) (k.1:Int))],[]⟩) (λk=>hf.length-k.1) ⟨0,By _,rfl⟩ (eW []) (λk=>?_)
 obtain⟨k,hk,c⟩:=k;have e:=λh:k<hf.length=>fV s hf h;simp only;repeat'(first|exact trivial|apply eS rfl|apply AB|refine rX b ?_ ?_|refine rC ?_ ?_<;>intro a<;>try(cases a;done))
 .exact a
 .refine cP 5 b ?_ ?_
  .trivial
  refine A9O (j:=.i64) b (by kernel_rfl) ?_;refine rL b ?_ ?_
  .trivial
  repeat'(first|exact trivial|apply eS rfl|apply AB|refine rX b ?_ ?_|refine rC ?_ ?_<;>intro a<;>try(cases a;done))
  .have d:k<hf.length:=by exact eV
   rw[e d,BY a]at c;exact fI b [.tmp 4] (by rw[<-c];exact eR)
  .omega
  have d:k<hf.length:=by exact eV
  rw[e d,As (by rw[a];simp)]at c;exact⟨⟨k+1,by omega,c⟩,by simp only;omega,eW []⟩
 have d:hf.drop k=[]:=NO (by exact eV);rw[d]at c;exact fI b [.tmp 4] (by rw[<-c];first|exact eR|refine Kv ?_;rfl)
theorem A48 (s:ByteArray) (t:EU):A5 Tryz.prog 77 [.p kE t,.bp 1 [] 0] [(1,.box 9 false [.p T9 s])] [1] (λres c=>res=.p .bool (AM t.1 s)/\c=[(1,.box 9 false [.p T9 s])]):=by
 refine Ix [0,1,2,3] [] [] Tryz.func77 Tryz.ntmps77 AH ?_;intro w0 K O0 ρ0 a d e;simp only[Ai];repeat'(first|exact trivial|apply eS rfl|apply AB|refine rX a ?_ ?_|refine rC ?_ ?_<;>intro b<;>try(cases b;done))
 refine Ev.ent (σ':=⟨[(3,.p .bool (AM t.1 s))],[(1,.box 9 false [.p T9 s])]⟩) ?_ (AC [(1,.nm 1)] rfl rfl ?_ ?_)
 .exact fM a [.tmp 3] (.p .bool (AM t.1 s)) eT ⟨rfl,rfl⟩
 .exact eN
 exact eN
theorem uM (l:List EU) (s:ByteArray):A5 Tryz.prog 76 [.p OW l,.clo 77 [1]] [(1,.box 9 false [.p T9 s])] [1] (λres g=>res=.p T3 (YD s 0 l)/\g=[(1,.box 9 false [.p T9 s])]):=by
 refine Ix [0,1,4,5,7,8,9,16] [] [] Tryz.func76 Tryz.ntmps76 AH ?_;intro w0 K O0 ρ0 b e j;have i:l.length<=140737488355328:=e.1.1;simp only[Ai];repeat'(first|exact trivial|apply eS rfl|apply AB|refine rX b ?_ ?_|refine rC ?_ ?_<;>intro a<;>try(cases a;done))
 refine AI (ι:={k:Nat//k<=l.length/\YD s k (l.drop k)=YD s 0 l}) (λk=>⟨[(0,.p OW l),(1,.clo 77 [1]),(7,.p (.int .i64) (l.length:Int)),(8,.p (.int .i64) (k.1:Int))],[(1,.box 9 false [.p T9 s])]⟩) (λk=>l.length-k.1) ⟨0,By _,rfl⟩ (eW [(1,.nm 1)]) (λk=>?_)
 obtain⟨k,hk,hf⟩:=k;have f:=λh:k<l.length=>fU s l h;simp only;repeat'(first|exact trivial|apply eS rfl|apply AB|refine rX b ?_ ?_|refine rC ?_ ?_<;>intro a<;>try(cases a;done))
 .have c:k<l.length:=iF.1 a;have d:=f c;refine cP 5 b ?_ ?_
  .exact a
  refine rM b (A48 s (l.getD k NK)) [(1,.nm 1)] [] ?_ ?_ ?_
  .exact eN
  .exact eN
  rintro _ _ ⟨rfl,rfl⟩;refine⟨[(1,.nm 1)],.p .bool (AM (l.getD k NK).1 s),[(1,.box 9 false [.p T9 s])],rfl,rfl,?_,?_,rfl,rfl,E2 ?_⟩
  .exact eN
  .exact eN
  repeat'(first|exact trivial|apply eS rfl|apply AB|refine rX b ?_ ?_|refine rC ?_ ?_<;>intro a<;>try(cases a;done))
  .rw[BY a,hf]at d;refine Ev.ent (σ':=⟨[(4,.p (.int .i64) (k:Int))],[(1,.box 9 false [.p T9 s])]⟩) ?_ (AC [(1,.nm 1)] rfl rfl ?_ ?_)
   .exact fM b [.tmp 4] (.p T3 (k:Int)) eT ⟨by rw[d],rfl⟩
   .exact eN
   exact eN
  .omega
  rw[As (by rw[a];simp)]at d;exact⟨⟨k+1,c,d.symm.trans hf⟩,by simp only;omega,eW [(1,.nm 1)]⟩
 have c:l.drop k=[]:=NO (AAe.1 a);rw[c]at hf;have hf:(-1:Int)=YD s 0 l:=hf;refine Ev.ent (σ':=⟨[(4,.p (.int .i64) (-1))],[(1,.box 9 false [.p T9 s])]⟩) ?_ (AC [(1,.nm 1)] rfl rfl ?_ ?_)
 .exact fM b [.tmp 4] (.p T3 (-1)) eT ⟨by rw[hf],rfl⟩
 .exact eN
 exact eN
def Pr:AW:={ ins:=[FK,T9],pre:=λ_=>True,out:=λ(h,s,_)=>[.p T3 (Ae h s)],lend:=true }
attribute [local go_sem] Pr
theorem Ps:AY Tryz.prog 33 Pr:=by
 refine fK [0,1,2,3,4] Tryz.func33 Tryz.ntmps33 AH ?_;rintro w0 O0 ⟨⟨c,hf⟩,s,u⟩ a - -;simp only[Pr,AL];refine Ev.ent (σ':=⟨[(0,.p FK (c,hf)),(1,.p T9 s)],[]⟩) ?_ (AC [] rfl rfl ?_ ?_)
 .repeat'(first|exact trivial|apply eS rfl|apply AB|refine rX a ?_ ?_|refine rC ?_ ?_<;>intro b<;>try(cases b;done))
  refine cP 3 a ?_ ?_
  .trivial
  refine rM a (uM c s) [(1,.nm 3)] [] ?_ ?_ ?_
  .exact eN
  .exact eN
  rintro _ _ ⟨rfl,rfl⟩;refine⟨[(3,.nm 1)],.p T3 (YD s 0 c),[(3,.box 9 false [.p T9 s])],rfl,rfl,?_,?_,rfl,rfl,?_⟩
  .exact eN
  .exact eN
  refine rL a ?_ ?_
  .trivial
  repeat'(first|exact trivial|apply eS rfl|apply AB|refine rX a ?_ ?_|refine rC ?_ ?_<;>intro b<;>try(cases b;done))
  exact fI a [.tmp 4] (by unfold Ae;exact eR)
 .exact eN
 exact eN
theorem A7c (h:AE):Ae h ⟨#[108,105,115,116]⟩=(EF h).list/\Ae h ⟨#[99,111,110,115]⟩=(EF h).cons/\Ae h ⟨#[110,117,108,108]⟩=(EF h).null/\Ae h ⟨#[100,108,105,115,116]⟩=(EF h).dlist/\A9 h ⟨#[70,73,82,83,84]⟩=(EF h).first/\A9 h ⟨#[82,69,83,84]⟩=(EF h).rest/\A9 h ⟨#[76,73,83,84]⟩=(EF h).head/\A9 h ⟨#[76,65,83,84]⟩=(EF h).last:=⟨rfl,rfl,rfl,rfl,rfl,rfl,rfl,rfl⟩
theorem A0T (h:AE):((EF h).list<(h.1.length:Int)/\(EF h).cons<(h.1.length:Int)/\(EF h).null<(h.1.length:Int)/\(EF h).dlist<(h.1.length:Int))/\(-1<=(EF h).list/\-1<=(EF h).cons/\-1<=(EF h).null/\-1<=(EF h).dlist) :=
 ⟨⟨(DI h _).2,(DI h _).2,(DI h _).2,(DI h _).2⟩,(DI h _).1,(DI h _).1,(DI h _).1,(DI h _).1⟩
theorem L1 {α:Type} {f:List α} (h:0<=n/\n<(f.length:Int)):n.toNat<f.length:=by omega
end
section
attribute [local go_sem] Pr A0S JV NL Jc Iu
def wdF (h:AE) (w:LW):dG.den:=(h,w.list,w.cons,w.null,w.dlist,w.first,w.rest,w.head,w.last)
def lwO (w:dG.den):LW:=⟨w.2.1,w.2.2.1,w.2.2.2.1,w.2.2.2.2.1,w.2.2.2.2.2.1,w.2.2.2.2.2.2.1,w.2.2.2.2.2.2.2.1,w.2.2.2.2.2.2.2.2⟩
def Va:AW:={ ins:=[Fm,T3,T3],pre:=λ(f,n,_)=>AX f/\(0:Int)<=n/\n<(List.length f:Int),out:=λ(f,n,e,_)=>[.p T3 (Bz (List.getD (f:List AD) n.toNat (0,[])).2 e)],lend:=true }
attribute [local go_sem] Va
theorem Z2:AY Tryz.prog 169 Va:=by
 refine fK [0,1,2,3,6,8,14,15,16,17,23] Tryz.func169 Tryz.ntmps169 AH ?_;rintro w0 O0 ⟨f,n,e,u⟩ d-⟨g,hn⟩;have g:AX f:=g;have hn:0<=n/\n<(f.length:Int):=hn;simp only[Va,AL];repeat'(first|exact trivial|apply eS rfl|apply AB|refine rX d ?_ ?_|refine rC ?_ ?_<;>intro a<;>try(cases a;done))
 .exact hn
 have j:=(g.2 _ (AG f (0,[]) (L1 hn))).1;generalize (f.getD n.toNat (0,[])).2=L at *;refine AI (ι:={k:Nat//k<=L.length/\Bz L e=Bz (L.drop k) e}) (λk=>⟨[(2,.p T3 e),(14,.p Mx L),(15,.p (.int .i64) (L.length:Int)),(16,.p (.int .i64) (k.1:Int))],[]⟩) (λk=>L.length-k.1) ⟨0,By _,rfl⟩ (eW []) (λk=>?_)
 obtain⟨k,hk,b⟩:=k;have i:=λh:k<L.length=>YC e L h;simp only;repeat'(first|exact trivial|apply eS rfl|apply AB|refine rX d ?_ ?_|refine rC ?_ ?_<;>intro a<;>try(cases a;done))
 .exact a
 .have c:k<L.length:=by exact eV
  rw[i c,BY a]at b;exact fI d [.tmp 6] (by rw[b];exact eR)
 .omega
 .have c:k<L.length:=by exact eV
  rw[i c,As a]at b;exact⟨⟨k+1,by omega,b⟩,by simp only;omega,eW []⟩
 have c:L.drop k=[]:=NO (by exact eV);rw[c]at b;exact fI d [.tmp 6] (by rw[b];first|exact eR|refine Kv ?_;rfl)
def WOk (h:AE) (w:LW):Prop:=(0<=w.cons/\w.cons<(h.1.length:Int))/\(0<=w.null/\w.null<(h.1.length:Int))
def OI:AW:={ ins:=[dG,Fm,T3],pre:=λ(w,f,n,_)=>WOk w.1 (lwO w)/\AX f/\Db w.1 f/\(0:Int)<=n/\n<(List.length f:Int),out:=λ(w,f,n,_)=>[.p T3 (Fx w.1 (lwO w) (List.getD (f:List AD) n.toNat (0,[])))],lend:=true }
attribute [local go_sem] OI
theorem fW:AY Tryz.prog 171 OI:=by
 refine fK [0,1,2,3,4,6,7,8,9,28,43,56] Tryz.func171 Tryz.ntmps171 (AF Z2 (AF Pe AH)) ?_;rintro w0 O0 ⟨⟨h,l,c,d,dl,a,e,b,la⟩,f,n,u⟩ i-⟨j,k,m,hn⟩;have j:WOk h ⟨l,c,d,dl,a,e,b,la⟩:=j;have k:AX f:=k;have m:Db h f:=m;have hn:0<=n/\n<(f.length:Int):=hn;have o:=m _ (AG f (0,[]) (L1 hn));simp only[OI,AL];repeat'(first|exact trivial|apply eS rfl|apply AB|refine rX i ?_ ?_|refine rC ?_ ?_<;>intro p<;>try(cases p;done))
 .exact hn
 .exact⟨k,hn⟩
 .exact⟨j.2,o⟩
 .have g:Fx h ⟨l,c,d,dl,a,e,b,la⟩ (f.getD n.toNat (0,[]))=1:=by
   unfold Fx l0 VY YG YE YF;simp only[An,If];grind
  exact fI i [.tmp 6] (by rw[show lwO (h,l,c,d,dl,a,e,b,la)=⟨l,c,d,dl,a,e,b,la⟩ from rfl,g];exact eR)
 .exact⟨j.1,o⟩
 .have g:Fx h ⟨l,c,d,dl,a,e,b,la⟩ (f.getD n.toNat (0,[]))=2:=by
   unfold Fx l0 VY YG YE YF;simp only[An,If];grind
  exact fI i [.tmp 6] (by rw[show lwO (h,l,c,d,dl,a,e,b,la)=⟨l,c,d,dl,a,e,b,la⟩ from rfl,g];exact eR)
 .exact⟨o,j.1⟩
 .have g:Fx h ⟨l,c,d,dl,a,e,b,la⟩ (f.getD n.toNat (0,[]))=3:=by
   unfold Fx l0 VY YG YE YF;simp only[An,If];grind
  exact fI i [.tmp 6] (by rw[show lwO (h,l,c,d,dl,a,e,b,la)=⟨l,c,d,dl,a,e,b,la⟩ from rfl,g];exact eR)
 have g:Fx h ⟨l,c,d,dl,a,e,b,la⟩ (f.getD n.toNat (0,[]))=0:=by
  unfold Fx l0 VY YG YE YF;simp only[An,If];grind
 exact fI i [.tmp 6] (by rw[show lwO (h,l,c,d,dl,a,e,b,la)=⟨l,c,d,dl,a,e,b,la⟩ from rfl,g];exact eR)
theorem A49 {a:Int}:(if b<a then b else a)<0↔a<0\/b<0:=by split<;>omega
theorem A4a {a:Int}:(0<=if b<a then b else a)↔0<=a/\0<=b:=by split<;>omega
def A5L:dG.den:=(([],[]),0,0,0,0,0,0,0,0)
def OJ:AW:={ ins:=[FK],pre:=λ_=>True,out:=λ(h,_)=>[.p dG (if SX h=true then wdF h (EF h) else A5L),.p C6 (if SX h=true then 0 else 5)] }
attribute [local go_sem] OJ
theorem A0U:AY Tryz.prog 168 OJ:=by
 refine fK [0,1,2,3,4,58] Tryz.func168 Tryz.ntmps168 (AF Ps (AF VZ (AF Pe AH))) ?_;rintro w0 O0 ⟨⟨a,hf⟩,u⟩ b - -;obtain⟨f,g,i,j,k,l,m,n⟩:=A7c (a,hf);obtain⟨⟨s,t,v,w⟩,o,p,q,r⟩:=A0T (a,hf);simp only[OJ,AL];repeat'(first|exact trivial|apply eS rfl|apply AB|refine rX b ?_ ?_|refine rC ?_ ?_<;>intro e<;>try(cases e;done))
 all_goals simp only[f,g,i,j,k,l,m,n,A49,A4a]at *
 .refine⟨λh=>?_,λh=>?_⟩<;>simp only[bY,AAj,TO,not_or]at h<;>grind
 .have c:SX (a,hf)=false:=by
   rw[ABC];intro d;unfold SX at d;simp only[An,If]at d;grind
  exact fI b [.cell 2 248,.tmp 3] (by simp only[c,AAT,AB1,A5L];exact eR)
 have c:SX (a,hf)=true:=by
  unfold SX;simp only[An,If];grind
 exact fI b [.cell 2 248,.tmp 3] (by simp only[c,AAJ,wdF];exact eR)
end
section
attribute [local go_sem] Fb Hs
def Mn (d:List AJ):AE:=if d.length<=12/\(Ab d).2=0 then (Ab d).1 else (Ab Bm).1
end
section
attribute [local go_sem] NM
theorem l4 (h:AE) (hk:Fd h) (hi:HA h) (hf:bD h) (X:h.2.length<=100000) (f:List AD) (P:AX f) (ha:Lx h f) (s:D6) (hs:M3 h f.length s) (n0:0<=n) (n1:n<(f.length:Int)) (T:Ml h s.1+s.2.length<=1000000000) :
  A5 Tryz.prog 93 [.bp 1 [] 0,.p Fm f,.p T3 n] (Dp h s) [1]
  (λres z=>(Ko h f n s=none/\res=.p .bool false/\∃A,z=Dp h A)\/∃A,Ko h f n s=some A/\res=.p .bool true/\z=Dp h A):=by
 have H:=Ly ha n0 n1;have Z:(f.getD n.toNat (0,[])).2.length<=100000:=(P.2 _ (AG f (0,[]) O1)).1;have O:Ko h f n s=(Lw h n (f.getD n.toNat (0,[])).2 s).bind (M2 h n (f.getD n.toNat (0,[])).2):=rfl;rw[O];refine Ix [0,1,2,4,6,8,10,11,12,18,19,20,21,37,44,45,46,47,76] [] [] Tryz.func93 Tryz.ntmps93 (AF A3T AH) ?_;intro w0 K O0 ρ0 a aa ab;simp only[Dp,Ai];repeat'(first|exact trivial|apply eS rfl|refine rX a ?_ ?_)
 .exact⟨n0,n1⟩
 have Y:f.getD n.toNat (0,[])=f.getD n.toNat (0,[]):=rfl;generalize M:(f.getD n.toNat (0,[])).2=L at *;refine AI (ι:={x:Nat×D6//x.1<=L.length/\M3 h f.length x.2/\Ml h x.2.1+x.2.2.length<=1000000000/\Lw h n L s=Lw h n (L.drop x.1) x.2}) (λx=>⟨[(0,.bp 1 [] 0),(2,.p T3 n),(4,.bp 4 [] 0),(18,.p Mx L),(19,.p (.int .i64) (L.length:Int)),(20,.p (.int .i64) (x.1.1:Int))],[(4,.box 34 true [.p JD f]),(1,.box 163 true [.p FK h,.sr 2 T3 0 x.1.2.1.length,.p Br x.1.2.2]),(2,.arr 3 T3 x.1.2.1)]⟩) (λx=>L.length-x.1.1) ⟨(0,s),By _,hs,T,rfl⟩ (eW [(4,.nm 4),(1,.nm 1),(2,.nm 2)]) (λx=>?_)
 obtain⟨⟨k,s1⟩,R,r,C,i⟩:=x;simp only at R r C i ⊢;repeat'(first|exact trivial|apply eS rfl|refine rX a ?_ ?_|refine rC ?_ ?_<;>intro b<;>try(cases b;done))
 .exact b
 .have l:k<L.length:=iF.1 b;have d:Lw h n (L.drop k) s1=(C9 h s1 n (JU h (L.getD k (0,0)).1)).bind (Lw h n (L.drop (k+1))):=by rw[A5K (0,0) l];rfl
  obtain⟨⟨F,G⟩,u,b1⟩:=H _ (AG L (0,0) l);obtain⟨o,q⟩:=Gh hf F G;obtain⟨w,y⟩:=r.get n0 n1;refine cD 12 a ?_ ?_
  .exact⟨F,G⟩
  refine rM a (e9 h hk s1 n0 (by rw[r.len];exact n1) w y o q O1) [(1,.nm 1),(2,.nm 2)] [2] ?_ ?_ ?_
  .refine eM ?_;rfl
  .simp only[Dp];exact eN
  rintro res z (⟨c,rfl,rfl⟩|⟨s2,c,rfl,rfl⟩)
  .refine⟨[(1,.nm 1),(2,.nm 2)],.p .bool false,Dp h s1,rfl,rfl,?_,?_,rfl,rfl,?_⟩
   .simp only[Dp];exact eN
   .exact eN
   simp only[Dp];refine rL a ?_ ?_
   .trivial
   repeat'(first|exact trivial|apply eS rfl|refine rX a ?_ ?_|refine rC ?_ ?_<;>intro b<;>try(cases b;done))
   refine Ev.ent (σ':=⟨[(6,.p .bool false)],Dp h s1⟩) ?_ (AC [(1,.nm 1),(2,.nm 2)] rfl rfl ?_ ?_)
   .exact fM a [.tmp 6] (.p .bool false) eT (.inl ⟨by rw[i,d,c];rfl,rfl,s1,rfl⟩)
   .unfold Dp;exact eN
   exact eN
  refine⟨[(1,.nm 1),(2,.nm 2)],.p .bool true,Dp h s2,rfl,rfl,?_,?_,rfl,rfl,?_⟩
  .simp only[Dp];exact eN
  .exact eN
  simp only[Dp];refine rL a ?_ ?_
  .trivial
  obtain⟨D,E,U⟩:=Ee hk hi r n0 n1 o q c;repeat'(first|apply eS rfl|apply AB|refine rX a ?_ ?_|refine rC ?_ ?_<;>intro b<;>try(cases b;done))
  .omega
  exact⟨⟨(k+1,s2),l,D,gO E C,by rw[i,d,c];rfl⟩,by simp only;omega,eW [(4,.nm 4),(1,.nm 1),(2,.nm 2)]⟩
 .exact⟨n0,n1⟩
 have B:L.drop k=[]:=NO (AAe.1 b);rw[B]at i;have i:Lw h n L s=some s1:=i;rw[i];have N:(List.getD f n.toNat (0,[])).2=L:=M;rw[N];refine AI (ι:={x:Nat×D6//x.1<=L.length/\M3 h f.length x.2/\Ml h x.2.1+x.2.2.length<=1000000000/\(some s1).bind (M2 h n L)=M2 h n (L.drop x.1) x.2}) (λx=>⟨[(0,.bp 1 [] 0),(2,.p T3 n),(44,.p Mx L),(45,.p (.int .i64) (L.length:Int)),(46,.p (.int .i64) (x.1.1:Int))],[(1,.box 163 true [.p FK h,.sr 2 T3 0 x.1.2.1.length,.p Br x.1.2.2]),(2,.arr 3 T3 x.1.2.1)]⟩) (λx=>L.length-x.1.1) ⟨(0,s1),By _,r,C,rfl⟩ (eW [(1,.nm 1),(2,.nm 2)]) (λx=>?_)
 obtain⟨⟨j,s2⟩,Q,m,I,g⟩:=x;simp only at Q m I g ⊢;obtain⟨w,y⟩:=m.get n0 n1;repeat'(first|exact trivial|apply eS rfl|refine rX a ?_ ?_|refine rC ?_ ?_<;>intro b<;>try(cases b;done))
 .exact b
 .exact⟨⟨n0,by rw[m.len];exact n1⟩,w,y⟩
 .have l:j<L.length:=iF.1 b;have d:M2 h n (L.drop j) s2=if (Bx h (s2.1.getD n.toNat 0) (L.getD j (0,0)).1).2=true then (C9 h s2 (L.getD j (0,0)).2 (Bx h (s2.1.getD n.toNat 0) (L.getD j (0,0)).1).1).bind (M2 h n (L.drop (j+1))) else none:=by rw[A5K (0,0) l];rfl
  obtain⟨-,u,b1⟩:=H _ (AG L (0,0) l);have S:=λe=>Ez (f:=(L.getD j (0,0)).1) hf w y e;generalize Bx h (s2.1.getD n.toNat 0) (L.getD j (0,0)).1=v at *;obtain⟨t,ok⟩:=v;refine evP a 3 ?_ ?_
  .trivial
  cases ok with
  | false =>
   rw[As sc]at d;refine rL a ?_ ?_
   .trivial
   repeat'(first|exact trivial|apply eS rfl|refine rX a ?_ ?_|refine rC ?_ ?_<;>intro b<;>try(cases b;done))
   refine Ev.ent (σ':=⟨[(6,.p .bool false)],Dp h s2⟩) ?_ (AC [(1,.nm 1),(2,.nm 2)] rfl rfl ?_ ?_)
   .exact fM a [.tmp 6] (.p .bool false) eT (.inl ⟨by rw[g,d],rfl,s2,rfl⟩)
   .unfold Dp;exact eN
   exact eN
  | true =>
   rw[BY rfl]at d;obtain⟨o,q⟩:=S rfl;simp only at o q d;obtain⟨V,W⟩:=m.get u b1;refine rN 4 a ?_ ?_
   .trivial
   refine clG a (e9 h hk s2 u (by rw[m.len];exact b1) V W o q O1) [(1,.nm 1),(2,.nm 2)] [2] ?_ ?_ ?_
   .exact eN
   .simp only[Dp];exact eN
   rintro res z (⟨c,rfl,rfl⟩|⟨J,c,rfl,rfl⟩)
   .refine⟨[(1,.nm 1),(2,.nm 2)],.p .bool false,Dp h s2,rfl,rfl,?_,?_,rfl,rfl,?_⟩
    .simp only[Dp];exact eN
    .exact eN
    simp only[Dp];refine rL a ?_ ?_
    .trivial
    repeat'(first|exact trivial|apply eS rfl|refine rX a ?_ ?_|refine rC ?_ ?_<;>intro b<;>try(cases b;done))
    refine Ev.ent (σ':=⟨[(6,.p .bool false)],Dp h s2⟩) ?_ (AC [(1,.nm 1),(2,.nm 2)] rfl rfl ?_ ?_)
    .exact fM a [.tmp 6] (.p .bool false) eT (.inl ⟨by rw[g,d,c];rfl,rfl,s2,rfl⟩)
    .unfold Dp;exact eN
    exact eN
   refine⟨[(1,.nm 1),(2,.nm 2)],.p .bool true,Dp h J,rfl,rfl,?_,?_,rfl,rfl,?_⟩
   .simp only[Dp];exact eN
   .exact eN
   simp only[Dp];refine rL a ?_ ?_
   .trivial
   obtain⟨D,E,U⟩:=Ee hk hi m u b1 o q c;repeat'(first|apply eS rfl|apply AB|refine rX a ?_ ?_|refine rC ?_ ?_<;>intro b<;>try(cases b;done))
   .omega
   exact⟨⟨(j+1,J),l,D,gO E I,by rw[g,d,c];rfl⟩,by simp only;omega,eW [(1,.nm 1),(2,.nm 2)]⟩
 have B:L.drop j=[]:=NO (AAe.1 b);rw[B]at g;have g:(some s1).bind (M2 h n L)=some s2:=g;refine Ev.ent (σ':=⟨[(6,.p .bool true)],Dp h s2⟩) ?_ (AC [(1,.nm 1),(2,.nm 2)] rfl rfl ?_ ?_)
 .exact fM a [.tmp 6] (.p .bool true) eT (.inr ⟨s2,g,rfl,rfl⟩)
 .unfold Dp;exact eN
 exact eN
end
section
def Z3:AW:={ ins:=[JD],pre:=λ(l,_)=>List.length l<=100000,out:=λ(l,_)=>[.own 57 Md l] }
attribute [local go_sem] Z3
theorem uN:AY Tryz.prog 94 Z3:=by
 refine fK [0,2,4] Tryz.func94 Tryz.ntmps94 AH ?_;rintro w0 O0 ⟨l,u⟩ a-d;have d:List.length l<=100000:=d;simp only[Z3,AL];repeat'(first|exact trivial|apply eS rfl|refine rX a ?_ ?_)
 refine cP 1 a ?_ ?_
 .trivial
 refine tB a false rfl rfl ?_;intro b e;refine rL a ?_ ?_
 .trivial
 repeat'(first|exact trivial|apply eS rfl|refine rX a ?_ ?_|refine rC ?_ ?_<;>intro c<;>try(cases c;done))
 .have f:l=[]:=e c;subst f;refine Ev.ent (σ':=⟨[(2,.sr 5 Md 0 0)],[(5,.arr 57 Md [])]⟩) ?_ (AC [(5,.nil)] rfl rfl ?_ ?_)
  .exact Nm a (.inl rfl) (rv:=.tmp 2) rfl (by simp only[KY,Ii,Gu,go_sem,Nat.reduceEqDiff,reduceCtorEq,Nat.reduceAdd,Nat.reduceSub,Nat.reduceMul,Nat.reduceLeDiff,Nat.reduceLT,Int.reduceLE,Int.reduceToNat,Int.reduceNeg,↓reduceIte])
  .exact eN
  exact eN
 .simp only[AO];omega
 exact Nm a (.inl rfl) (rv:=.tmp 2) rfl (by simp only[KY,Ii,Gu,go_sem,Nat.reduceEqDiff,reduceCtorEq,Nat.reduceAdd,Nat.reduceSub,Nat.reduceMul,Nat.reduceLeDiff,Nat.reduceLT,Int.reduceLE,Int.reduceToNat,Int.reduceNeg,↓reduceIte])
structure A0V (h:AE) (f:List AD):Prop where
 ok:Fd h
 inj:HA h
 ft:bD h
 fl:h.2.length<=100000
 good:AX f
 arcs:Lx h f
 ty:∀x∈f,0<=x.1/\x.1<(h.1.length:Int)
def Vb:AW:={ ins:=[FK,Fm],pre:=λ(h,f,_)=>A0V h f,out:=λ(h,f,_)=>[.p Fm (Cv h f).1,.p .bool (Cv h f).2] }
theorem CV (f:List AD) (ty:List Int):(CD f ty).length=f.length:=by simp[CD]
theorem GI (f:List AD) (ty:List Int) {i:Nat} (h:i<f.length):(CD f ty).getD i (0,[])=(ty.getD i 0,(f.getD i (0,[])).2):=by
 unfold CD;simp[AS,h]
theorem uO {α:Type} (F f:List α) (d:α) (b:F.length=f.length) {j:Nat} (h:j<f.length):(F.take j++f.drop j).set j (F.getD j d)=F.take (j+1)++f.drop (j+1)/\(F.take j++f.drop j).getD j d=f.getD j d:=by
 have h1:(F.take j).length=j:=by rw[OR];omega
 have a:f.drop j=f.getD j d :: f.drop (j+1):=by
  rw[OF h,AS,AT h];rfl
 constructor
 .rw[Ag F d O1,ACb _ _ O1,h1,AB7,a];simp
 rw[AS,rQ O1,h1,AB7,a];rfl
theorem A0W:AY Tryz.prog 50 Vb:=by
 refine fK [0,1,2,3,4,5,6,7,8,9,10,11,16,17,18,19,51,64,72,73,74] Tryz.func50 Tryz.ntmps50 (AF uN AH) ?_;rintro w0 O0 ⟨⟨a,hf⟩,f,u⟩ c-d;have d:A0V (a,hf) f:=d;have E:=Zz (a,hf) f;have y:=d.good.1;have T:Hw (a,hf) f<=30000000:=by
  have h1:a.length<=256:=d.ok.2;have D:f.length*a.length<=100000*256:=Nat.mul_le_mul y h1;have S:f.length*(a,hf).1.length<=100000*256:=D;unfold Hw;omega
 have K:=fR d.ty;simp only[Vb,AL];repeat'(first|exact trivial|apply eS rfl|refine rX c ?_ ?_)
 refine AI (ι:={i:Nat//i<=f.length}) (λi=>⟨[(3,.bp 3 [] 0),(4,.bp 4 [] 0),(6,.bp 14 [] 0),(16,.p JD f),(17,.p (.int .i64) (f.length:Int)),(18,.p (.int .i64) (i.1:Int))],[(3,.box 34 true [.p JD f]),(4,.box 34 true [.raw (.slice none 0 0)]),(14,.box 163 true [.p FK (a,hf),.sr 31 T3 0 i.1,.sr 41 T3 0 i.1]),(31,.arr 3 T3 ((Ay f).take i.1)),(41,.arr 3 T3 ((ED f).take i.1))]⟩) (λi=>f.length-i.1) ⟨0,By _⟩ (eW [(3,.nm 3),(4,.nm 4),(14,.nm 14),(31,.nil),(41,.nil)]) (λi=>?_)
 obtain⟨i,hi⟩:=i;have tl:((Ay f).take i).length=i:=by rw[OR];simp[Ay];omega
 have Y:((ED f).take i).length=i:=by rw[OR];simp[ED];omega
 have ts:i<f.length->(Ay f).take i++[(f.getD i (0,[])).1]=(Ay f).take (i+1):=λh=>by
  rw[Ag (Ay f) 0 (by simpa[Ay] using h)];simp[Ay,AS,h]
 have Q:i<f.length->(ED f).take i++[(i:Int)]=(ED f).take (i+1):=λh=>by
  rw[Ag (ED f) 0 (by simpa[ED] using h)];simp[ED,AS,h]
 repeat'(first|exact trivial|apply eS rfl|refine rX c ?_ ?_|refine rC ?_ ?_<;>intro b<;>try(cases b;done))
 .exact b
 .have l:i<f.length:=iF.1 b;have P:=ts l;have R:=Q l;refine J3 drawsAny c 9 [([1,2,3,4,5,6,7],8)] [0] (by kernel_rfl) (mxA ?_ ?_)
  .trivial
  refine mxL c [31] ?_ ?_
  .simp only[AO];omega
  refine mxE c ?_ ?_ ?_
  .trivial
  .trivial
  repeat'(first|apply eS rfl|apply AB|refine rX c ?_ ?_)
  .simp only[AO];omega
  .omega
  refine⟨⟨i+1,l⟩,by simp only;omega,AC [(3,.nm 3),(4,.nm 4),(14,.nm 14),(31,.nm 31),(41,.nm 41)] rfl rfl ?_ ?_⟩
  .simp only[<-P,<-R];refine eM ?_;simp only[ABM,Nat.min_self,and_self]
  exact eN
 have l:i=f.length:=by
  have:=AAe.1 b;omega
 subst l;have et:(Ay f).take f.length=Ay f:=At (by simp[Ay]);have w:(ED f).take f.length=ED f:=At (by simp[ED]);have O:(Ay f).length=f.length:=by simp[Ay]
 have Z:(ED f).length=f.length:=by simp[ED]
 rw[et,w];have C:(ED f).take f.length=ED f:=w;refine CK [41] ?_;rw[C];refine AI (ι:={x:Nat×D6//M3 (a,hf) f.length x.2/\Ml (a,hf) x.2.1+x.2.2.length+1<=Hw (a,hf) f/\x.1<=x.2.2.length/\∃k,Ml (a,hf) x.2.1+x.2.2.length+1<=k+x.1/\v7 (a,hf) f k x.1 x.2=E9 (a,hf) f}) (λx=>⟨[(3,.bp 3 [] 0),(4,.bp 4 [] 0),(6,.bp 14 [] 0),(9,.p (.int .i64) (x.1.1:Int))],[(3,.box 34 true [.p JD f]),(4,.box 34 true [.raw (.slice none 0 0)]),(14,.box 163 true [.p FK (a,hf),.sr 31 T3 0 x.1.2.1.length,.p Br x.1.2.2]),(31,.arr 3 T3 x.1.2.1)]⟩) (λx=>Ml (a,hf) x.1.2.1+x.1.2.2.length-x.1.1) ⟨(0,Ay f,ED f),K,E,By _,Hw (a,hf) f,by simp only;omega,rfl⟩ (AC [(3,.nm 3),(4,.nm 4),(14,.nm 14),(31,.nm 31)] rfl rfl ?_ ?_) (λx=>?_)
 .simp only[O];exact eN
 .exact eN
 obtain⟨⟨i,s⟩,hs,J,hi,k,hk,g⟩:=x;simp only at hs J hi hk g ⊢;repeat'(first|exact trivial|apply eS rfl|refine rX c ?_ ?_|refine rC ?_ ?_<;>intro b<;>try(cases b;done))
 .have n:i<s.2.length:=iF.1 b;obtain⟨A,B⟩:=hs.wt _ (AG s.2 (0:Int) n);obtain⟨k,rfl⟩:∃v,k=v+1:=⟨k-1,by omega⟩;have t:v7 (a,hf) f (k+1) i s=(Ko (a,hf) f (s.2.getD i 0) s).bind (v7 (a,hf) f k (i+1)):=BY n;rw[t]at g;refine cD 9 c ?_ ?_
  .exact b
  refine rM c (l4 (a,hf) d.ok d.inj d.ft d.fl f d.good d.arcs s hs A B O1) [(1,.nm 14),(2,.nm 31)] [31] ?_ ?_ ?_
  .exact eN
  .simp only[Dp];exact eN
  rintro res X (⟨m,rfl,e,rfl⟩|⟨e,m,rfl,rfl⟩)
  .refine⟨[(14,.nm 1),(31,.nm 2)],.p .bool false,[(14,.box 163 true [.p FK (a,hf),.sr 31 T3 0 e.1.length,.p Br e.2]),(31,.arr 3 T3 e.1)],rfl,rfl,?_,?_,rfl,rfl,?_⟩
   .simp only[Dp];exact eN
   .exact eN
   refine rL c ?_ ?_
   .trivial
   repeat'(first|exact trivial|apply eS rfl|refine rX c ?_ ?_|refine rC ?_ ?_<;>intro b<;>try(cases b;done))
   have q:Cv (a,hf) f=([],false):=by unfold Cv;rw[<-g,m];rfl
   exact fI c [.cell 4 34,.tmp 5] (by rw[q];exact eR)
  obtain⟨N,V,W⟩:=VW d.ok d.inj d.ft d.arcs A B hs m;rw[m]at g;refine⟨[(14,.nm 1),(31,.nm 2)],.p .bool true,[(14,.box 163 true [.p FK (a,hf),.sr 31 T3 0 e.1.length,.p Br e.2]),(31,.arr 3 T3 e.1)],rfl,rfl,?_,?_,rfl,rfl,?_⟩
  .simp only[Dp];exact eN
  .exact eN
  refine rL c ?_ ?_
  .trivial
  repeat'(first|apply eS rfl|apply AB|refine rX c ?_ ?_|refine rC ?_ ?_<;>intro b<;>try(cases b;done))
  .omega
  exact⟨⟨(i+1,e),N,by simp only;omega,by simp only;omega,k,by simp only;omega,g⟩,by simp only;omega,eW [(3,.nm 3),(4,.nm 4),(14,.nm 14),(31,.nm 31)]⟩
 .exact y
 have n:¬i<s.2.length:=λh=>by
  have:=AAe.1 b;omega
 obtain⟨k,rfl⟩:∃v,k=v+1:=⟨k-1,by omega⟩;have t:v7 (a,hf) f (k+1) i s=some s.1:=As n;have q:Cv (a,hf) f=(CD f s.1,true):=by unfold Cv;rw[<-g,t]
 have r:=CV f s.1;have L:=λi h=>GI f s.1 (i:=i) h;generalize hT:CD f s.1=F at *;have M:=hs.len;refine AI (ι:={j:Nat//j<=f.length}) (λj=>⟨[(4,.bp 4 [] 0),(6,.bp 14 [] 0),(10,.bp 10 [] 0),(72,.p (.int .i64) (f.length:Int)),(73,.p (.int .i64) (j.1:Int))],[(10,.box 34 true [.sr 68 Md 0 f.length]),(68,.arr 57 Md (F.take j.1++f.drop j.1)),(4,.box 34 true [.raw (.slice none 0 0)]),(14,.box 163 true [.p FK (a,hf),.sr 31 T3 0 s.1.length,.p Br s.2]),(31,.arr 3 T3 s.1)]⟩) (λj=>f.length-j.1) ⟨0,By _⟩ (eW [(10,.nm 10),(68,.nm 68),(4,.nm 4),(14,.nm 14),(31,.nm 31)]) (λj=>?_)
 obtain⟨j,U⟩:=j;have I:=λh:j<f.length=>uO F f (0,[]) r h;repeat'(first|exact trivial|apply eS rfl|apply AB|refine rX c ?_ ?_|refine rC ?_ ?_<;>intro b<;>try(cases b;done))
 .exact⟨by rw[M];exact b,b⟩
 .omega
 .have o:j<f.length:=iF.1 b;obtain⟨z,H⟩:=I o;rw[L j o]at z;refine⟨⟨j+1,o⟩,by simp only;omega,AC [(10,.nm 10),(68,.nm 68),(4,.nm 4),(14,.nm 14),(31,.nm 31)] rfl rfl ?_ ?_⟩
  .simp only[<-z];refine eM ?_;rw[H]
  exact eN
 have hF:F.take j=F:=At (by rw[r];exact AAe.1 b);have G:List.drop j f=[]:=NO (AAe.1 b);rw[hF,G,AAn];exact fI c [.cell 4 34,.tmp 5] (by rw[q];first|exact eR|refine Kv ?_;exact At (by rw[r];exact Of _))
end
structure MI (m:List (Int×Bool)) (l:List Bool):Prop where
 nd:(m.map (·.1)).Nodup
 get:∀k:Int,BS T3 .bool k m=if 0<=k/\l.getD k.toNat false=true then some true else none
theorem pP (k:Int) (v:Bool):∀ {m:List (Int×Bool)},(m.map (·.1)).Nodup->((E4 T3 .bool k v m).map (·.1)).Nodup/\∀x,x∈(E4 T3 .bool k v m).map (·.1)->x=k\/x∈m.map (·.1)
 | [],_=>by simp[E4]
 | y :: m,h=>by
  rw[iS,AAu]at h;unfold E4;split
  .rename_i e;have e:k=y.1:=by simpa[HG] using e
   refine⟨?_,λx a=>?_⟩
   .rw[iS,AAu,e];exact h
   rcases DO.1 a with a|a
   .exact .inl a
   exact .inr (IF _ a)
  rename_i e;have e:¬k=y.1:=by simpa[HG] using e
  obtain⟨c,b⟩:=pP k v h.2;refine⟨?_,λx a=>?_⟩
  .rw[iS,AAu];refine⟨λd=>?_,c⟩;rcases b _ d with a|a
   .exact e a.symm
   exact h.1 a
  rcases DO.1 a with a|a
  .exact .inr (by rw[a];simp)
  exact(b x a).imp id λg=>IF _ g
theorem fX (k:Int):∀m:List (Int×Bool),(j9 T3 .bool k m).Sublist m
 | []=>List.Sublist.refl _
 | y :: m=>by
  unfold j9;split
  .exact List.sublist_cons_self _ _
  exact(fX k m).cons_cons _
theorem YI {x:Int}:∀ {m:List (Int×Bool)},x∉m.map (·.1)->BS T3 .bool x m=none
 | [],_=>rfl
 | y :: m,h=>by
  unfold BS;rw[As (by
   intro e;have e:x=y.1:=by simpa[HG] using e
   exact h (by rw[e];simp))]
  exact YI λa=>h (IF _ a)
theorem YJ (x k:Int):∀ {m:List (Int×Bool)},(m.map (·.1)).Nodup->BS T3 .bool x (j9 T3 .bool k m)=if x=k then none else BS T3 .bool x m
 | [],_=>by simp[j9,BS]
 | y :: m,h=>by
  rw[iS,AAu]at h;unfold j9;split
  .rename_i e;have e:k=y.1:=by simpa[HG] using e
   by_cases a:x=k
   .rw[BY a,a,e];exact YI h.1
   rw[As a];have c:¬x=y.1:=by rw[<-e];exact a
   simp[BS,HG,c]
  rename_i e;have e:¬k=y.1:=by simpa[HG] using e
  have f:=YJ x k h.2;by_cases b:x=y.1
  .have d:¬x=k:=by rw[b];exact λg=>e g.symm
   rw[As d];simp[BS,HG,b]
  have hn:¬HG T3 x y.1=true:=by simpa[HG] using b
  simp only[BS];rw[As hn,As hn,f]
theorem MI.zero:MI [] (List.replicate 0 true):=⟨List.nodup_nil,λk=>by simp[BS]⟩
theorem MI.put {m:List (Int×Bool)} {i:Nat} (h:MI m (List.replicate i true)):MI (E4 T3 .bool (i:Int) true m) (List.replicate (i+1) true):=by
 refine⟨(pP _ _ h.nd).1,λ(k:Int)=>?_⟩;rw[VU,h.get];by_cases hk:k=(i:Int)
 .rw[BY hk,BY];subst hk;refine⟨AAh _,?_⟩;simp[AS,ABi]
 rw[As hk];have e:(0<=k/\(List.replicate i true).getD k.toNat false=true)↔(0<=k/\(List.replicate (i+1) true).getD k.toNat false=true):=by
  simp only[AS,ABi];constructor
  .rintro⟨a,b⟩;refine⟨a,?_⟩;split at b
   .rw[BY O1];rfl
   simp at b
  rintro⟨a,b⟩;refine⟨a,?_⟩;split at b
  .rw[BY O1];rfl
  simp at b
 by_cases c:0<=k/\(List.replicate i true).getD k.toNat false=true
 .rw[BY c,BY (e.1 c)]
 rw[As c,As λg=>c (e.2 g)]
theorem MI.del {m:List (Int×Bool)} {l:List Bool} (h:MI m l) (i:Nat):MI (j9 T3 .bool (i:Int) m) (l.set i false):=by
 refine⟨h.nd.sublist ((fX _ m).map _),λ(k:Int)=>?_⟩;rw[YJ _ _ h.nd,h.get];by_cases hk:k=(i:Int)
 .subst hk;rw[BY rfl,As];rintro⟨-,b⟩;rw[iN]at b;simp only[AS,AAM]at b;rw[BY trivial]at b;split at b<;>simp at b
 rw[As hk];by_cases a:0<=k
 .have c:¬i=k.toNat:=by omega
  simp only[AS,AAM];rw[As c]
 rw[As λg=>a g.1,As λg=>a g.1]
theorem Mo {x:Int}:∀ {m:List (Int×Bool)},x∈m.map (·.1)->BS T3 .bool x m≠none
 | y :: m,h=>by
  unfold BS;split
  .simp
  rename_i e;rcases DO.1 h with h|h
  .exact absurd (by simp[HG,h]) e
  exact Mo h
theorem MI.len {m:List (Int×Bool)} {l:List Bool} (h:MI m l):m.length<=l.length:=by
 have h1:((m.map (·.1)).map Int.toNat).Nodup:=by
  rw[List.Nodup,AAA];refine h.nd.imp_of_mem λ{a b:Int} ha d i e=>i ?_;have h1:=Mo ha;have c:=Mo d;rw[h.get]at h1 c;have n:0<=a:=GO λg=>h1 (As λq=>g q.1);have o:0<=b:=GO λg=>c (As λq=>g q.1);omega
 have:=Da l.length _ h1 (λj f=>by
  obtain⟨x,k,rfl⟩:=IN.1 f;have h1:=Mo k;rw[h.get]at h1;refine GO λhn=>h1 (As λg=>?_);have:=g.2;rw[AS,oS O1]at this;cases this)
 simpa using this
def uP (N:List AD) (i:Nat) (v:Int×Int):List AD:=N.set i ((N.getD i (0,[])).1,(N.getD i (0,[])).2++[(v.1,(N.length:Int))])++[(v.2,[])]
theorem A0X (N:List AD) (i:Nat) (v:Int×Int):(uP N i v).length=N.length+1:=by simp[uP]
structure TI2 (h:AE) (m i k:Nat) (N:List AD):Prop where
 len:N.length<=m
 ty:∀x∈N,0<=x.1/\x.1<(h.1.length:Int)
 lo:∀j,j<i->(N.getD j (0,[])).2.length<=200
 at':(N.getD i (0,[])).2.length<=100+k
 hi:∀j,i<j->(N.getD j (0,[])).2.length<=100
theorem A0Y {α:Type} (l:List α) (x d:α) (j:Nat):(l++[x]).getD j d=if j<l.length then l.getD j d else if j=l.length then x else d:=by
 simp only[AS];by_cases h:j<l.length
 .rw[BY h,AA8 h]
 rw[As h,rQ O1];by_cases e:j=l.length
 .rw[BY e,e,AB7];rfl
 rw[As e,oS (by simp only[nO];omega)];rfl
theorem GJ {α:Type} (l:List α) (x d:α) {i:Nat} (h:i<l.length) (j:Nat):(l.set i x).getD j d=if j=i then x else l.getD j d:=by
 simp only[AS,AAM];by_cases e:i=j
 .rw[BY e,BY h,BY e.symm];rfl
 rw[As e,As (show ¬j=i by omega)]
theorem A0Z {N:List AD} {i:Nat} (h:i<N.length) (v:Int×Int) (j:Nat):(uP N i v).getD j (0,[])=if j=i then ((N.getD i (0,[])).1,(N.getD i (0,[])).2++[(v.1,(N.length:Int))]) else if j=N.length then (v.2,[]) else N.getD j (0,[]):=by
 unfold uP;rw[A0Y,GJ _ _ _ h,AAk];by_cases a:j=i
 .rw[BY a,BY O1,BY a]
 rw[As a,As a];by_cases c:j<N.length
 .rw[BY c,As O1]
 rw[As c];by_cases b:j=N.length
 .rw[BY b,BY b]
 rw[As b,As b,AS,oS O1];rfl
theorem TI2.add {m i k:Nat} {N:List AD} (b:TI2 h m i k N) (hi:i<N.length) (f:4096<=m) (e:N.length<4096) {v:Int×Int} (v0:0<=v.2) (v1:v.2<(h.1.length:Int)):TI2 h m i (k+1) (uP N i v):=by
 have c:=λj=>A0Z hi v j;refine⟨by rw[A0X];omega,λx a=>?_,λj d=>?_,?_,λj d=>?_⟩
 .unfold uP at a;rcases Is.1 a with a|a
  .rcases AAV a with a|rfl
   .exact b.ty x a
   exact(b.ty (N.getD i (0,[])) (AG N (0,[]) hi) :)
  rw[oN.1 a];exact⟨v0,v1⟩
 .rw[c,As O1,As O1];exact b.lo j d
 .rw[c,BY rfl];have:=b.at';simp only[Do,nO];omega
 rw[c,As O1];split
 .simp
 exact b.hi j d
theorem TI2.skip {m i k:Nat} {N:List AD} (a:TI2 h m i k N):TI2 h m i (k+1) N:=⟨a.len,a.ty,a.lo,by have:=a.at';omega,a.hi⟩
theorem TI2.next {m i k:Nat} {N:List AD} (a:TI2 h m i k N) (hk:k<=100):TI2 h m (i+1) 0 N:=⟨a.len,a.ty,λj b=>by
 by_cases e:j=i
 .have:=a.at';rw[e];omega
 exact a.lo j O1,a.hi (i+1) O1,λj b=>a.hi j O1⟩
theorem getD_set_ne {α:Type} (l:List α) (d v:α) {i:Nat} (h:i≠j):(l.set i v).getD j d=l.getD j d:=by
 simp only[AS];rw[ACh h]
theorem Wy {α:Type} (l:List α) (d v:α) {i:Nat} (h:i<l.length):(l.set i v).getD i d=v:=by
 simp only[AS];rw[AC1 h];rfl
def toF (l:List (Int×Int)) (x:Int):Int:=l.foldl (λt a=>if a.1=x then a.2 else t) (-1)
abbrev Aj (f:List AD) (n:Int):List (Int×Int):=(f.getD n.toNat (0,[])).2
def A5M (f:List AD):Int->List Int->Option Int
 | n,[]=>some n
 | n,x :: r=>if toF (Aj f n) x<0 then none else A5M f (toF (Aj f n) x) r
theorem fY {f:List AD} (hf:AX f):∀(k:Nat) (o:List Int) (n:Int),Mk f o->0<=n->n<f.length->n∉o->f.length-o.length<=k->EC f (k+1) o n=EC f k o n
 | 0,o,n,h,h0,h1,c,hk=>by
  have:=(h.snoc h0 h1 c).len;grind
 | k+1,o,n,h,h0,h1,c,hk=>by
  rw[CZ,CZ];have key:∀(l:List (Int×Int)) (t:List Int),(∀a∈l,0<=a.2/\a.2<(f.length:Int))->Mk f t->f.length-t.length<=k->l.foldl (A6 f (k+1)) t=l.foldl (A6 f k) t:=by
   intro l;induction l with
   | nil=>intros;rfl
   | cons a l p =>
    intro t e m j;have g:=e a sc;have hs:A6 f (k+1) t a=A6 f k t a:=by
     unfold A6;split
     .rfl
     rename_i hn;exact fY hf k t a.2 m g.1 g.2 hn j
    have d:Mk f (A6 f k t a)/\t <+: A6 f k t a:=by grind [A6,GF]
    rw[OS,OS,hs];have:=d.2.length_le;exact p _ (λb i=>e b (by simp[i])) d.1 O1
  exact key _ _ (λa ha=>CF hf ha) (h.snoc h0 h1 c) (by simp only[Do,nO];omega)
theorem KM (f:List AD):Mk f []:=⟨by simp,λx a=>by cases a⟩
theorem Vc {f:List AD} (hf:AX f) {n:Int} (h0:0<=n) (h1:n<f.length):∀m,EC f (f.length+m) [] n=EC f f.length [] n
 | 0=>rfl
 | m+1=>by
  rw[<-ACj,fY hf _ [] n (KM f) h0 h1 sc (by simp only[AAl];omega)];exact Vc hf h0 h1 m
structure Iso (Q R:List AD) (ψ:Int->Int) (C:Int->Prop):Prop where
 arc:∀i,C i->Aj R (ψ i)=(Aj Q i).map λa=>(a.1,ψ a.2)
 cl:∀i,C i->∀a∈Aj Q i,C a.2
 inj:∀i j,C i->C j->ψ i=ψ j->i=j
theorem TC {Q R:List AD} {ψ:Int->Int} {C:Int->Prop} (h:Iso Q R ψ C):∀(k:Nat) (t:List Int) (i:Int),(∀x∈t,C x)->C i->EC R k (t.map ψ) (ψ i)=(EC Q k t i).map ψ/\∀x∈EC Q k t i,C x
 | 0,t,i,c,hi=>⟨rfl,c⟩
 | k+1,t,i,c,hi=>by
  have key:∀(l:List (Int×Int)) (t:List Int),(∀a∈l,C a.2)->(∀x∈t,C x) ->
    (l.map λa=>(a.1,ψ a.2)).foldl (A6 R k) (t.map ψ)=(l.foldl (A6 Q k) t).map ψ/\∀x∈l.foldl (A6 Q k) t,C x:=by
   intro l;induction l with
   | nil=>intro t _ c;exact⟨rfl,c⟩
   | cons a l o =>
    intro t f c;have ha:=f a sc;have hs:A6 R k (t.map ψ) (a.1,ψ a.2)=(A6 Q k t a).map ψ/\∀x∈A6 Q k t a,C x:=by
     unfold A6;by_cases g:a.2∈t
     .grind
     have n:¬ψ a.2∈t.map ψ:=by
      intro hh;obtain⟨x,d,e⟩:=IN.1 hh;exact g (h.inj x a.2 (c x d) ha e▸d)
     rw[As g];simp only[As n];exact TC h k t a.2 c ha
    rw[iS,OS,OS,hs.1];exact o _ (λb m=>f b (by simp[m])) hs.2
  rw[CZ,CZ];have e:t.map ψ++[ψ i]=(t++[i]).map ψ:=by simp
  have j:(R.getD (ψ i).toNat (0,[])).2=(Aj Q i).map λa=>(a.1,ψ a.2):=h.arc i hi;rw[j,e];refine key _ _ (h.cl i hi) λx d=>?_;grind
theorem A10 {o:List Int} {ψ:Int->Int} {x:Int} (h:∀y∈o,ψ y=ψ x->y=x):EE (o.map ψ) (ψ x)=EE o x:=by
 have hi:(o.map ψ).idxOf (ψ x)=o.idxOf x:=by
  induction o with
  | nil=>rfl
  | cons y o b =>
   rw[iS,List.idxOf_cons,List.idxOf_cons];have a:=h y sc;by_cases e:y=x
   .subst e;simp
   grind
 grind [EE]
theorem Wz {Q R:List AD} {ψ:Int->Int} {C:Int->Prop} (h:Iso Q R ψ C) (g:AX Q) (f:C 0) (h0:ψ 0=0) (p:0<Q.length) (q:Q.length<=R.length)
  (j:∀i,C i->(R.getD (ψ i).toNat (0,[])).1=(Q.getD i.toNat (0,[])).1):AP R 0=AP Q 0:=by
 have c:EC R R.length [] 0=(EC Q Q.length [] 0).map ψ/\∀x∈EC Q Q.length [] 0,C x:=by
  have h1:=TC h R.length [] 0 (λx k=>by cases k) f;rw[h0]at h1;have m:=Vc g (n:=0) O1 O1 (R.length-Q.length)
  simp_all
 unfold AP;rw[c.1];generalize EC Q Q.length [] 0=o at *;rw[ABa];refine AAd λi hi=>?_;have b:=c.2 i hi;show Gw R (o.map ψ) (ψ i)=Gw Q o i;unfold Gw;have d:(R.getD (ψ i).toNat (0,[])).2=(Aj Q i).map λa=>(a.1,ψ a.2):=h.arc i b;rw[j i b,d,ABa];refine AAS _ (AAd λa ha=>?_);show (a.1,EE (o.map ψ) (ψ a.2))=(a.1,EE o a.2);rw[A10 λy l e=>h.inj y a.2 (c.2 y l) (h.cl i b a ha) e]
theorem JW {o:List Int} (hn:o.Nodup) {i:Nat} (hi:i<o.length):EE o (o.getD i 0)=(i:Int):=by grind [EE]
theorem Fg {o:List Int} {x:Int} (h:x∈o):0<=EE o x/\EE o x<(o.length:Int)/\o.getD (EE o x).toNat 0=x:=by
 unfold EE;rw[BY h];have a:=List.idxOf_lt_length_of_mem h
 simp_all
theorem A11 (hs:lQ f) (n:Int):(Aj f n).Pairwise (λa b=>a.1<b.1):=(fT _).1 (lR hs n).1
structure SY (h:AE) (a b:List AD) (m:Int->Int):Prop where
 zero:m 0=0
 rng:∀i,0<=i->i<(a.length:Int)->0<=m i/\m i<(b.length:Int)
 ty:∀i,0<=i->i<(a.length:Int)->Aa h (a.getD i.toNat (0,[])).1 (b.getD (m i).toNat (0,[])).1=true
 arc:∀i,0<=i->i<(a.length:Int)->∀x∈Aj a i,Bz (Aj b (m i)) x.1=m x.2
theorem Pt (h:l.Pairwise (λa b=>a.1<b.1)) (ha:a∈l):Bz l a.1=a.2:=by
 induction l with
 | nil=>cases ha
 | cons b l d =>
  obtain⟨h1,c⟩:=AAo.1 h;simp only[Bz];rcases DO.1 ha with rfl|ha
  .rw[BY rfl]
  grind
theorem fZ {e:Int} (h:0<=Bz l e):∃a∈l,a.1=e/\a.2=Bz l e:=by
 induction l with
 | nil=>simp only[Bz]at h;omega
 | cons b l c =>
  simp only[Bz]at h ⊢;split
  .grind
  grind
theorem A7f (hs:lQ f) (ha:a∈Aj f n):Bz (Aj f n) a.1=a.2:=Pt (A11 hs n) ha
def RO (f:List AD):Prop:=∀i:Int,0<i->i<(f.length:Int)->∃j,0<=j/\j<i/\∃x∈Aj f j,x.2=i
theorem A4c {v:Int} (hk:k<p.length):(p.set k v).getD j 0=if k=j then v else p.getD j 0:=by grind
theorem Vd {f:List AD} (hf:AX f):∀(k:Nat) (t:List Int) (n:Int),Mk f t->0<=n->n<f.length->n∉t ->
  ∀q,t.length<q->q<(EC f k t n).length->∃j,j<q/\∃a∈Aj f ((EC f k t n).getD j 0),a.2=(EC f k t n).getD q 0
 | 0,t,n,h,h0,h1,x,q,A,d=>by simp only[EC]at d;omega
 | k+1,t,n,h,h0,h1,x,q,A,d=>by
  have key:∀(l:List (Int×Int)) (u:List Int),(∀a∈l,a∈Aj f n)->Mk f u->t++[n] <+: u ->
    (∀q,t.length<q->q<u.length->∃j,j<q/\∃a∈Aj f (u.getD j 0),a.2=u.getD q 0) ->
    ∀q,t.length<q->q<(l.foldl (A6 f k) u).length->∃j,j<q/\∃a∈Aj f ((l.foldl (A6 f k) u).getD j 0),a.2=(l.foldl (A6 f k) u).getD q 0:=by
   intro l;induction l with
   | nil=>intro u _ _ _ hu q o c;exact hu q o c
   | cons a l H =>
    intro u y hu s E;have ha:=y a sc;have g:=CF hf ha;rw[OS];by_cases p:a.2∈u
    .grind [A6]
    have hs:A6 f k u a=EC f k u a.2:=by unfold A6;rw[As p]
    rw[hs];obtain⟨C,w⟩:=GF hf k u a.2 hu g.1 g.2 p;have r:∀j,j<u.length->(EC f k u a.2).getD j 0=u.getD j 0:=λj D=>by
     obtain⟨v,m⟩:=w;rw[<-m];simp only[AS];rw[AA8 D]
    have G:u.getD t.length 0=n:=by
     obtain⟨v,m⟩:=s;rw[<-m];simp[AS]
    have B:t.length<u.length:=by
     have:=s.length_le;simp at this;omega
    refine H (EC f k u a.2) (λb i=>y b (by simp[i])) C (s.trans w) (λq o c=>?_);by_cases z:q<u.length
    .obtain⟨j,I,b,i,e⟩:=E q o z;refine⟨j,I,b,?_,?_⟩
     .rw[r j O1];exact i
     rw[r q z];exact e
    by_cases d:q=u.length
    .subst d;refine⟨t.length,B,a,?_,?_⟩
     .rw[r _ B,G];exact ha
     cases k with
     | zero=>simp only[EC]at c;omega
     | succ k =>
      have F:u++[a.2] <+: EC f (k+1) u a.2:=by
       rw[CZ];exact(Hu (GF hf k) _ _ (λb i=>CF hf i) (hu.snoc g.1 g.2 p)).2
      obtain⟨v,m⟩:=F;rw[<-m];simp[AS]
    exact Vd hf k u a.2 hu g.1 g.2 p q O1 c
  rw[CZ]at d ⊢;exact key _ (t++[n]) (λa ha=>ha) (h.snoc h0 h1 x) (AB2 _) (λq o c=>by simp only[Do,nO]at c;omega) q A d
theorem l5 (x:List Int):Lr x x=true:=by grind [Lr,HK,Rz]
theorem Q2 (h:AE) (t:Int):Aa h t t=true:=l5 _
abbrev Pu (p:List Int) (n:Int):Int:=p.getD n.toNat 0
structure Fo (p:List Int) (rk:Int->Nat):Prop where
 rng:∀n,0<=n->n<(p.length:Int)->0<=Pu p n/\Pu p n<(p.length:Int)
 dec:∀n,0<=n->n<(p.length:Int)->Pu p n≠n->rk (Pu p n)<rk n
inductive Rt (p:List Int):Int->Int->Prop
 | base {n:Int} (h:Pu p n=n):Rt p n n
 | step {n r:Int} (h:Pu p n≠n) (h2:Rt p (Pu p n) r):Rt p n r
theorem Rt.det {r s:Int} (h:Rt p n r) (g:Rt p n s):r=s:=by
 induction h with
 | base h =>
  cases g with
  | base g=>rfl
  | step g _=>exact absurd h g
 | step h _ b =>
  cases g with
  | base g=>exact absurd g h
  | step _ a=>exact b a
theorem Rt.root {r:Int} (h:Rt p n r):Pu p r=r:=by
 induction h with
 | base h=>exact h
 | step _ _ a=>exact a
theorem Fo.ex {b:Int->Nat} (h:Fo p b):∀(k:Nat) (n:Int),b n<=k->0<=n->n<(p.length:Int)->∃r,Rt p n r/\0<=r/\r<(p.length:Int)
 | 0,n,hk,h0,h1=>by
  by_cases e:Pu p n=n
  .exact⟨n,.base e,h0,h1⟩
  have:=h.dec n h0 h1 e;omega
 | k+1,n,hk,h0,h1=>by
  by_cases e:Pu p n=n
  .exact⟨n,.base e,h0,h1⟩
  have g:=h.dec n h0 h1 e;have a:=h.rng n h0 h1;obtain⟨r,c,d,f⟩:=h.ex k (Pu p n) O1 a.1 a.2;exact⟨r,.step e c,d,f⟩
theorem Fo.root {a:Int->Nat} (h:Fo p a) (h0:0<=n) (h1:n<(p.length:Int)):∃r,Rt p n r/\0<=r/\r<(p.length:Int):=h.ex (a n) n (Of _) h0 h1
theorem HB {v:Int} (h0:0<=n) (h1:n<(p.length:Int)) (x:Int) (a:0<=x):Pu (p.set n.toNat v) x=if x=n then v else Pu p x:=by
 unfold Pu;rw[A4c O1];by_cases e:x=n
 .subst e;rw[BY rfl,BY rfl]
 rw[As O1,As e]
def Q3 (p q:List Int):Prop:=p.length=q.length/\∀x r,0<=x->x<(p.length:Int)->(Rt p x r↔Rt q x r)
theorem Q3.refl (p:List Int):Q3 p p:=⟨rfl,λ_ _ _ _=>Iff.rfl⟩
theorem Q3.trans {q s:List Int} (h:Q3 p q) (g:Q3 q s):Q3 p s :=
 ⟨h.1.trans g.1,λx r a b=>(h.2 x r a b).trans (g.2 x r a (by rw[<-h.1];exact b))⟩
def R8 (b n:Nat):List Int:=(List.range n).map λi=>((b+i:Nat):Int)
def Dr (b:Nat) (l:List (Int×Int)):List (Int×Int):=l.map λa=>(a.1,a.2+(b:Int))
theorem uQ (b n:Nat):(R8 b n).length=n:=by simp[R8]
section
attribute [local go_sem] o8
def EV:List (Int×Int)->List (Int×Int)->List (Int×Int)×List (Int×Int)
 | [],y=>(y,[])
 | a :: x,[]=>(a :: x,[])
 | a :: x,b :: y =>
  if a.1<b.1 then (a :: (EV x (b :: y)).1,(EV x (b :: y)).2)
  else if b.1<a.1 then (b :: (EV (a :: x) y).1,(EV (a :: x) y).2)
  else (a :: (EV x y).1,(a.2,b.2) :: (EV x y).2)
termination_by x y=>x.length+y.length
end
theorem OK (hk:Fd h) {a c:Int} (d:0<=a) (e:a<(h.1.length:Int)) (f:0<=b) (b1:b<(h.1.length:Int)) (c0:0<=c) (c1:c<(h.1.length:Int)) (h1:Aa h a b=true) (g:Aa h b c=true):Aa h a c=true :=
 (BQ hk d e c0 c1).2 λi hi=>(BQ hk d e f b1).1 h1 i ((BQ hk f b1 c0 c1).1 g i hi)
theorem Pv:∀ {x y:List (Int×Int)} {a:Int×Int},a∈x->a∈(EV x y).1
 | [],_,_,h=>by cases h
 | b :: x,[],a,h=>by simpa[EV] using h
 | b :: x,c :: y,a,h=>by
  rw[EV];split
  .rcases DO.1 h with rfl|h
   .simp
   exact IF _ (Pv h)
  split
  .exact IF _ (Pv h)
  rcases DO.1 h with rfl|h
  .simp
  exact IF _ (Pv h)
termination_by x y=>x.length+y.length
theorem Mp:∀ {x y:List (Int×Int)} {a:Int×Int},a∈y->a∈(EV x y).1\/∃t,(a.1,t)∈(EV x y).1/\(t,a.2)∈(EV x y).2
 | [],y,a,h=>by
  left;simpa[EV] using h
 | b :: x,[],a,h=>by cases h
 | b :: x,c :: y,a,h=>by
  rw[EV];split
  .rcases Mp (x:=x) h with g|⟨t,d,e⟩
   .exact .inl (IF _ g)
   exact .inr ⟨t,IF _ d,e⟩
  split
  .rcases DO.1 h with rfl|h
   .left;simp
   rcases Mp (x:=b :: x) h with g|⟨t,d,e⟩
   .exact .inl (IF _ g)
   exact .inr ⟨t,IF _ d,e⟩
  rcases DO.1 h with rfl|h
  .right;exact⟨b.2,by rw[show a.1=b.1 by omega];simp,by simp⟩
  rcases Mp (x:=x) h with g|⟨t,d,e⟩
  .exact .inl (IF _ g)
  exact .inr ⟨t,IF _ d,IF _ e⟩
termination_by x y=>x.length+y.length
theorem IX:∀ {x y:List (Int×Int)} {a:Int×Int},a∈(EV x y).1->a∈x\/a∈y
 | [],y,a,h=>by
  right;simpa[EV] using h
 | b :: x,[],a,h=>by
  left;simpa[EV] using h
 | b :: x,c :: y,a,h=>by
  rw[EV]at h;split at h
  .rcases DO.1 h with rfl|h
   .left;simp
   rcases IX h with g|g
   .exact .inl (IF _ g)
   exact .inr g
  split at h
  .rcases DO.1 h with rfl|h
   .right;simp
   rcases IX h with g|g
   .exact .inl g
   exact .inr (IF _ g)
  rcases DO.1 h with rfl|h
  .left;simp
  rcases IX h with g|g
  .exact .inl (IF _ g)
  exact .inr (IF _ g)
termination_by x y=>x.length+y.length
theorem Pw:∀ {x y:List (Int×Int)} {q:Int×Int},q∈(EV x y).2->∃e,(e,q.1)∈x/\(e,q.2)∈y
 | [],y,q,h=>by simp[EV]at h
 | b :: x,[],q,h=>by simp[EV]at h
 | b :: x,c :: y,q,h=>by
  rw[EV]at h;split at h
  .obtain⟨e,h1,a⟩:=Pw h;exact⟨e,IF _ h1,a⟩
  split at h
  .obtain⟨e,h1,a⟩:=Pw h;exact⟨e,h1,IF _ a⟩
  rcases DO.1 h with rfl|h
  .exact⟨b.1,by simp,by rw[show b.1=c.1 by omega];simp⟩
  obtain⟨e,h1,a⟩:=Pw h;exact⟨e,IF _ h1,IF _ a⟩
termination_by x y=>x.length+y.length
theorem TD:∀ {x y:List (Int×Int)},(EV x y).2.length<=x.length
 | [],y=>by simp[EV]
 | b :: x,[]=>by simp[EV]
 | b :: x,c :: y=>by
  rw[EV];split
  .have:=TD (x:=x) (y:=c :: y);simp only[IS];omega
  split
  .exact TD (x:=b :: x) (y:=y)
  have:=TD (x:=x) (y:=y);simp only[IS];omega
termination_by x y=>x.length+y.length
abbrev Wa (l:List (Int×Int)):Prop:=l.Pairwise (λa b=>a.1<b.1)
theorem TE:∀ {x y:List (Int×Int)},Wa x->Wa y->Wa (EV x y).1
 | [],y,_,h=>by simpa[EV] using h
 | b :: x,[],h,_=>by simpa[EV] using h
 | b :: x,c :: y,i,j=>by
  have d:=AAo.1 i;have e:=AAo.1 j;rw[EV];split
  .rename_i f;refine AAo.2 ⟨λa ha=>?_,TE d.2 j⟩;rcases IX ha with g|g
   .exact d.1 a g
   rcases DO.1 g with rfl|g
   .exact f
   have:=e.1 a g;omega
  split
  .rename_i f;refine AAo.2 ⟨λa ha=>?_,TE i e.2⟩;rcases IX ha with g|g
   .rcases DO.1 g with rfl|g
    .exact f
    have:=d.1 a g;omega
   exact e.1 a g
  refine AAo.2 ⟨λa ha=>?_,TE d.2 e.2⟩;rcases IX ha with g|g
  .exact d.1 a g
  have:=e.1 a g;omega
termination_by x y=>x.length+y.length
theorem A4d (m:Fo p q) {a:Int} (j:0<=a) (c:0<=b) (b1:b<(p.length:Int)) (ha:Pu p a=a) (k:Pu p b=b) (f:a≠b) {x r:Int} (d:0<=x) (s:x<(p.length:Int)) (h:Rt p x r):Rt (p.set b.toNat a) x (if r=b then a else r):=by
 have l:Rt (p.set b.toNat a) a a:=.base (by rw[HB c b1 a j,As f];exact ha);induction h with
 | @base n hn =>
  split
  .rename_i e;rw[e];exact .step (by rw[HB c b1 b c,BY rfl];exact f) (by rw[HB c b1 b c,BY rfl];exact l)
  rename_i e;exact .base (by rw[HB c b1 n d,As e];exact hn)
 | @step n r hn _ o =>
  have g:n≠b:=λe=>hn (e▸k);have i:=m.rng n d s;exact .step (by rw[HB c b1 n d,As g];exact hn) (by rw[HB c b1 n d,As g];exact o i.1 i.2)
theorem A4e {c:Int->Nat} (h:Fo p c) {a:Int} (i:0<=a) (j:a<(p.length:Int)) (d:0<=b) (b1:b<(p.length:Int)) (ha:Pu p a=a) (m:Pu p b=b) (l:a≠b):∃q,Fo (p.set b.toNat a) q:=by
 classical
 refine⟨λx=>if Rt p x b then c x+c a+1 else c x,λn n0 n1=>?_,λn n0 n1 hn=>?_⟩
 .rw[AAk]at n1 ⊢;rw[HB d b1 n n0];split
  .exact⟨i,j⟩
  exact h.rng n n0 n1
 rw[AAk]at n1;rw[HB d b1 n n0]at hn ⊢;by_cases e:n=b
 .subst e;rw[BY rfl];have h1:¬Rt p a n:=λg=>l (g.det (.base ha)).symm;rw[As h1,BY (.base m)];omega
 rw[As e]at hn ⊢;have o:=h.dec n n0 n1 hn;have f:Rt p n b↔Rt p (Pu p n) b:=by
  constructor
  .intro g;cases g with
   | base g=>exact absurd g hn
   | step _ g=>exact g
  exact λg=>.step hn g
 by_cases g:Rt p n b
 .rw[BY g,BY (f.1 g)];omega
 rw[As g,As (λk=>g (f.2 k))];exact o
inductive EG (n:Nat) (p:List Int) (W:List (Int×Int)):Int->Int->Prop
 | cls {x y r:Int} (x0:0<=x) (x1:x<(n:Int)) (y0:0<=y) (y1:y<(n:Int)) (h:Rt p x r) (g:Rt p y r):EG n p W x y
 | wt {x y:Int} (h:(x,y)∈W):EG n p W x y
 | symm {x y:Int} (h:EG n p W x y):EG n p W y x
 | trans {x y z:Int} (h:EG n p W x y) (g:EG n p W y z):EG n p W x z
theorem EG.mono {n:Nat} {q:List Int} {V:List (Int×Int)} (h1:∀x y r,0<=x->x<(n:Int)->0<=y->y<(n:Int)->Rt p x r->Rt p y r->EG n q V x y) (a:∀x y,(x,y)∈l->EG n q V x y) {x y:Int} (h:EG n p l x y):EG n q V x y:=by
 induction h with
 | cls e f i j h g=>exact h1 _ _ _ e f i j h g
 | wt h=>exact a _ _ h
 | symm _ b=>exact .symm b
 | trans _ _ c d=>exact .trans c d
structure uR (h:AE) (N:List AD) (P:List (Int×Int)) (X:List AD) (v:Int->Int):Prop where
 rng:∀x,0<=x->x<(N.length:Int)->0<=v x/\v x<(X.length:Int)
 ty:∀x,0<=x->x<(N.length:Int)->Aa h (N.getD x.toNat (0,[])).1 (X.getD (v x).toNat (0,[])).1=true
 arc:∀x,0<=x->x<(N.length:Int)->∀a∈Aj N x,Bz (Aj X (v x)) a.1=v a.2
 eq:∀q∈P,v q.1=v q.2
structure JX (h:AE) (X:List AD) (v:Int->Int) (n:Nat) (p ty:List Int) (ar:List (List (Int×Int))) (W:List (Int×Int)):Prop where
 cls:∀x r,0<=x->x<(n:Int)->Rt p x r->v x=v r
 wt:∀w∈W,v w.1=v w.2
 ty:∀r,0<=r->r<(n:Int)->Pu p r=r->Aa h (ty.getD r.toNat 0) (X.getD (v r).toNat (0,[])).1=true
 arc:∀r,0<=r->r<(n:Int)->Pu p r=r->∀a∈ar.getD r.toNat [],Bz (Aj X (v r)) a.1=v a.2
def KN (N:List AD):List Int:=N.flatMap λx=>x.2.map (·.1)
structure JI (h:AE) (N:List AD) (P:List (Int×Int)) (p ty:List Int) (ar:List (List (Int×Int))) (W:List (Int×Int)):Prop where
 nty:Db h N
 fo:∃rk,Fo p rk
 lp:p.length=N.length
 lt:ty.length=N.length
 la:ar.length=N.length
 wr:∀w∈W,(0<=w.1/\w.1<(N.length:Int))/\(0<=w.2/\w.2<(N.length:Int))
 tyr:∀x,0<=x->x<(N.length:Int)->0<=ty.getD x.toNat 0/\ty.getD x.toNat 0<(h.1.length:Int)
 arr:∀k,∀a∈ar.getD k [],(0<=a.2/\a.2<(N.length:Int))/\a.1∈KN N
 srt:∀k,Wa (ar.getD k [])
 sp:∀q∈P,EG N.length p W q.1 q.2
 st:∀x r,0<=x->x<(N.length:Int)->Rt p x r->Aa h (N.getD x.toNat (0,[])).1 (ty.getD r.toNat 0)=true
 sa:∀x r,0<=x->x<(N.length:Int)->Rt p x r->∀a∈Aj N x,∃t,(a.1,t)∈ar.getD r.toNat []/\EG N.length p W a.2 t
 co:∀X v,Db h X->uR h N P X v->JX h X v N.length p ty ar W
theorem Hx {b:Int->Nat} (a:Fo p b) {x r:Int} (d:0<=x) (e:x<(p.length:Int)) (h:Rt p x r):0<=r/\r<(p.length:Int):=by
 obtain⟨s,hs,c,s1⟩:=a.root d e;rw[h.det hs];exact⟨c,s1⟩
section
variable {h:AE} {N:List AD} {P:List (Int×Int)} {p ty:List Int} {ar:List (List (Int×Int))} {W:List (Int×Int)} {s t a b:Int}
theorem A4f (n:JI h N P p ty ar (W++[(s,t)])) (hs:Rt p s a) (u:Rt p t a):JI h N P p ty ar W:=by
 obtain⟨nty,fo,lp,lt,la,wr,tyr,arr,srt,sp,st,sa,co⟩:=n;have b:=wr (s,t) sc;have l:∀ {x y},EG N.length p (W++[(s,t)]) x y->EG N.length p W x y:=λ{x y} g=>g.mono (λx y r d f A B h1 k=>.cls d f A B h1 k) (λx y c=>by
  rcases Is.1 c with c|c
  .exact .wt c
  have e:(x,y)=(s,t):=by simpa using c
  cases e;exact .cls b.1.1 b.1.2 b.2.1 b.2.2 hs u)
 refine⟨nty,fo,lp,lt,la,λw b=>wr w (AA2 _ b),tyr,arr,srt,λq o=>l (sp q o),st,λx r d f C a ha=>?_,λX v m z=>?_⟩
 .grind
 obtain⟨c1,c2,i,j⟩:=co X v m z;exact⟨c1,λw b=>c2 w (AA2 _ b),i,j⟩
theorem pQ (hk:Fd h) (c:JI h N P p ty ar (W++[(s,t)])) (hs:Rt p s a) (g:Rt p t b) {X:List AD} {v:Int->Int} (o:Db h X) (q:uR h N P X v) :
  v a=v b/\(Cn h (ty.getD a.toNat 0) (ty.getD b.toNat 0)).2=true/\Aa h (Cn h (ty.getD a.toNat 0) (ty.getD b.toNat 0)).1 (X.getD (v a).toNat (0,[])).1=true:=by
 obtain⟨D,fo⟩:=c.fo;obtain⟨⟨i,s1⟩,j,l⟩:=c.wr (s,t) sc;simp only at i s1 j l;have d:=Hx fo i (by rw[c.lp];exact s1) hs;have f:=Hx fo j (by rw[c.lp];exact l) g;rw[c.lp]at d f;obtain⟨c1,c2,m,B⟩:=c.co X v o q;have u:=c1 s a i s1 hs;have w:=c1 t b j l g;have x:v s=v t:=c2 (s,t) sc;have e:v a=v b:=by rw[<-u,<-w,x]
 have y:=m a d.1 d.2 hs.root;have n:=m b f.1 f.2 g.root;rw[<-e]at n;have C:=q.rng a d.1 d.2;have r:=o _ (AG X (0,[]) (k:=(v a).toNat) O1);have ta:=c.tyr a d.1 d.2;have tb:=c.tyr b f.1 f.2;obtain⟨z,A⟩:=(Ls hk ta.1 ta.2 tb.1 tb.2).2 _ r.1 r.2 y n;exact⟨e,z,A⟩
theorem YK {α:Type} {l:List α} {d v:α} {a r:Int} (b:0<=a) (c:a<(l.length:Int)) (e:0<=r):(l.set a.toNat v).getD r.toNat d=if r=a then v else l.getD r.toNat d:=by grind
theorem A12 (hk:Fd h) (ae:JI h N P p ty ar (W++[(s,t)])) (hs:Rt p s a) (L:Rt p t b) (Y:a≠b) (al:(Cn h (ty.getD a.toNat 0) (ty.getD b.toNat 0)).2=true) :
  JI h N P (p.set b.toNat a) (ty.set a.toNat (Cn h (ty.getD a.toNat 0) (ty.getD b.toNat 0)).1) (ar.set a.toNat (EV (ar.getD a.toNat []) (ar.getD b.toNat [])).1) (W++(EV (ar.getD a.toNat []) (ar.getD b.toNat [])).2):=by
 have am:=λX v J M=>pQ (X:=X) (v:=v) hk ae hs L J M;obtain⟨nty,⟨bb,fo⟩,lp,lt,la,wr,tyr,arr,srt,sp,st,sa,co⟩:=ae;obtain⟨⟨Q,s1⟩,R,S⟩:=wr (s,t) sc;simp only at Q s1 R S;have n:=Hx fo Q (by rw[lp];exact s1) hs;have A:=Hx fo R (by rw[lp];exact S) L;have ha:=hs.root;have Z:=L.root;have F:=λ{x r:Int} (c:0<=x) (i:x<(N.length:Int)) (O:Rt p x r)=>A4d fo n.1 A.1 A.2 ha Z Y c (by rw[lp];exact i) O;have aa:∀ {x r:Int},0<=x->x<(N.length:Int)->Rt (p.set b.toNat a) x r->∃j,Rt p x j/\r=if j=b then a else j:=λ{x r} c i O=>by
  obtain⟨j,h1,-,-⟩:=fo.root c (by rw[lp];exact i);exact⟨j,h1,O.det (F c i h1)⟩
 have ta:=tyr a n.1 (by rw[<-lp];exact n.2);have tb:=tyr b A.1 (by rw[<-lp];exact A.2);obtain⟨ax,ay,az,ba⟩:=(Ls hk ta.1 ta.2 tb.1 tb.2).1 al;generalize aq:(Cn h (ty.getD a.toNat 0) (ty.getD b.toNat 0)).1=m at *;generalize ag:ar.getD a.toNat []=xs at *;generalize ah:ar.getD b.toNat []=ys at *;have ao:EG N.length (p.set b.toNat a) (W++(EV xs ys).2) s t:=by
  have h1:=F Q s1 hs;have I:=F R S L;rw[As Y]at h1;rw[BY rfl]at I;exact .cls Q s1 R S h1 I
 have E:∀ {x y},EG N.length p (W++[(s,t)]) x y->EG N.length (p.set b.toNat a) (W++(EV xs ys).2) x y:=λ{x y} g=>g.mono (λx y r c i aj ak h1 I=>.cls c i aj ak (F c i h1) (F aj ak I)) (λx y G=>by
  rcases Is.1 G with G|G
  .exact .wt (AA2 _ G)
  have e:(x,y)=(s,t):=by simpa using G
  cases e;exact ao)
 have av:=λ{r:Int} (D:0<=r)=>YK (l:=ty) (d:=0) (v:=m) n.1 (by rw[lt,<-lp];exact n.2) D;have K:=λ{r:Int} (D:0<=r)=>YK (l:=ar) (d:=[]) (v:=(EV xs ys).1) n.1 (by rw[la,<-lp];exact n.2) D;refine⟨nty,A4e fo n.1 n.2 A.1 A.2 ha Z Y,by rw[AAk];exact lp,by rw[AAk];exact lt,by rw[AAk];exact la,λw o=>?_,λx c i=>?_,λk y C=>?_,λk=>?_,λq an=>E (sp q an),λx r c i z=>?_,λx r c i z y C=>?_,λX v J M=>?_⟩
 .rcases Is.1 o with o|o
  .exact wr w (AA2 _ o)
  grind [Pw]
 .grind
 .have h1:=K (r:=(k:Int)) O1;rw[iN]at h1;rw[h1]at C;split at C
  .grind [IX]
  exact arr _ _ C
 .have h1:=K (r:=(k:Int)) O1;rw[iN]at h1;rw[h1];split
  .grind [TE]
  exact srt k
 .obtain⟨j,h1,rfl⟩:=aa c i z;have O:=nty _ (AG N (0,[]) (k:=x.toNat) O1);have af:=Hx fo c (by rw[lp];exact i) h1;by_cases e:j=b
  .grind [OK]
  grind [OK]
 .obtain⟨j,h1,rfl⟩:=aa c i z;have af:=Hx fo c (by rw[lp];exact i) h1;obtain⟨u,H,T⟩:=sa x j c i h1 y C;by_cases e:j=b
  .rw[BY e,K n.1,BY rfl];rw[e,ah]at H;rcases Mp (x:=xs) H with g|⟨w,U,V⟩
   .exact⟨u,g,E T⟩
   exact⟨w,U,.trans (E T) (.symm (.wt (AAI _ V)))⟩
  rw[As e,K af.1];split
  .rename_i B;rw[B,ag]at H;exact⟨u,Pv H,E T⟩
  exact⟨u,H,E T⟩
 obtain⟨c1,c2,ap,ab⟩:=co X v J M;obtain⟨e,-,aw⟩:=am X v J M;have au:∀r,0<=r->r<(N.length:Int)->Pu (p.set b.toNat a) r=r->r≠b/\Pu p r=r:=λr D ai z=>by grind [HB]
 refine⟨λx r c i z=>?_,λw o=>?_,λr D ai z=>?_,λr D ai z y C=>?_⟩
 .obtain⟨j,h1,rfl⟩:=aa c i z;have:=c1 x j c i h1;split
  .rename_i B;rw[this,B,e]
  exact this
 .rcases Is.1 o with o|o
  .exact c2 w (AA2 _ o)
  obtain⟨f,ad,B⟩:=Pw o;rw[<-ag]at ad;rw[<-ah]at B;have U:=ab a n.1 (by rw[<-lp];exact n.2) ha _ ad;have V:=ab b A.1 (by rw[<-lp];exact A.2) Z _ B;rw[<-U,<-V,e]
 .grind
 grind [IX]
end
theorem f4 {l:List Nat} {f g:Nat->Bool} {b:Nat} (hn:l.Nodup) (c:b∈l) (h1:f b=true) (d:g b=false) (h:∀x∈l,x≠b->g x=f x):(l.filter g).length+1=(l.filter f).length:=by
 induction l with
 | nil=>cases c
 | cons x l m =>
  obtain⟨k,j⟩:=AAu.1 hn;by_cases e:x=b
  .subst e;have:l.filter g=l.filter f:=List.filter_congr λy a=>h y (by simp[a]) (λe=>k (e▸a));rw[AAr,AAr,As (by rw[d];simp),BY h1,this];rfl
  have i:b∈l:=by
   rcases DO.1 c with g|g
   .exact absurd g.symm e
   exact g
  have n:=m j i (λy a=>h y (by simp[a]));rw[AAr,AAr,h x sc e];split
  .simp only[IS];omega
  exact n
def nR (p:List Int):Nat:=((List.range p.length).filter λk=>p.getD k 0==(k:Int)).length
theorem A4g {a:Int} (d:0<=b) (b1:b<(p.length:Int)) (c:Pu p b=b) (e:a≠b):nR (p.set b.toNat a)+1=nR p:=by
 unfold nR;rw[AAk];refine f4 (b:=b.toNat) List.nodup_range (tO.2 O1) ?_ ?_ λx _ f=>?_
 .rw[AAc];unfold Pu at c;omega
 .rw[Wy _ _ _ O1,AAY];omega
 rw[getD_set_ne _ _ _ O1]
theorem Q4 {α:Type} [DecidableEq α]:∀ {l l':List α},l.Nodup->(∀x∈l,x∈l')->l.length<=l'.length
 | [],_,_,_=>by simp
 | x :: l,l',hn,h=>by
  obtain⟨d,c⟩:=AAu.1 hn;have a:=h x sc;have:=Q4 (l:=l) (l':=l'.erase x) c (λy b=>(ACg (λe:y=x=>d (by rw[<-e];exact b))).2 (h y (by simp[b])));rw[List.length_erase_of_mem a]at this;have:=AC0 a;simp only[IS];omega
theorem pR (h:Wa l) {S:List Int} (hs:∀a∈l,a.1∈S):l.length<=S.length:=by
 have hn:(l.map (·.1)).Nodup:=by
  unfold List.Nodup;rw[AAA];exact h.imp λg=>by omega
 have:=Q4 hn (l':=S) (λx b=>by
  obtain⟨a,ha,rfl⟩:=IN.1 b;exact hs a ha)
 rwa [aS]at this
theorem A13 {N:List AD} {P:List (Int×Int)} {ty:List Int} {ar:List (List (Int×Int))} (t:JI h N P p ty ar []) {a:Int} (ha:0<=a/\a<(N.length:Int)) (s:0<=b/\b<(N.length:Int)):JI h N (P++[(a,b)]) p ty ar [(a,b)]:=by
 obtain⟨nty,fo,lp,lt,la,wr,tyr,arr,srt,sp,st,sa,co⟩:=t;have l:∀ {x y},EG N.length p [] x y->EG N.length p [(a,b)] x y:=λ{x y} g=>g.mono (λx y r j k C D h1 f=>.cls j k C D h1 f) (λx y A=>by cases A);refine⟨nty,fo,lp,lt,la,λw i=>?_,tyr,arr,srt,λq c=>?_,st,λx r j k z y B=>?_,λX v o d=>?_⟩
 .have e:w=(a,b):=by simpa using i
  subst e;exact⟨ha,s⟩
 .rcases Is.1 c with c|c
  .exact l (sp q c)
  have e:q=(a,b):=by simpa using c
  subst e;exact .wt sc
 .obtain⟨u,h1,f⟩:=sa x r j k z y B;exact⟨u,h1,l f⟩
 obtain⟨c1,c2,m,n⟩:=co X v o ⟨d.rng,d.ty,d.arc,λq c=>d.eq q (AA2 _ c)⟩;refine⟨c1,λw i=>?_,m,n⟩;have e:w=(a,b):=by simpa using i
 subst e;exact d.eq _ sc
open Classical in
noncomputable def H7 (p:List Int) (x:Int):Int:=if h:∃r,Rt p x r then h.choose else x
theorem l7 {x r:Int} (h:Rt p x r):H7 p x=r:=by
 unfold H7;rw[dif_pos ⟨r,h⟩];exact(Exists.choose_spec (p:=λr=>Rt p x r) ⟨r,h⟩).det h
theorem Q5 {b:Int->Nat} (a:Fo p b) {x:Int} (c:0<=x) (d:x<(p.length:Int)):Rt p x (H7 p x):=by
 obtain⟨r,h,-,-⟩:=a.root c d;rw[l7 h];exact h
noncomputable def quo (p ty:List Int) (ar:List (List (Int×Int))):List AD:=(List.range p.length).map λk=>(ty.getD k 0,(ar.getD k []).map λa=>(a.1,H7 p a.2))
theorem TF (p ty:List Int) (ar:List (List (Int×Int))):(quo p ty ar).length=p.length:=by simp[quo]
theorem Px {ty:List Int} {ar:List (List (Int×Int))} (n0:0<=n) (n1:n<(p.length:Int)):(quo p ty ar).getD n.toNat (0,[])=(ty.getD n.toNat 0,(ar.getD n.toNat []).map λa=>(a.1,H7 p a.2)):=by
 unfold quo;rw[AS,AAw,ABp O1];rfl
theorem YL {α β:Type} (f:α->β) {l:List α} (d:α) (e:β) {i:Nat} (h:i<l.length):(l.map f).getD i e=f (l.getD i d):=by
 simp[AS,AT h]
structure A94 (f:List AD) (r:Int) (o:List Int):Prop where
 ok:Mk f o
 zero:o.getD 0 0=r/\0<o.length
 cl:∀n∈o,∀a∈Aj f n,a.2∈o
theorem KO (hf:AX f) {r:Int} (b:0<=r) (c:r<(f.length:Int)):A94 f r (EC f f.length [] r):=by
 have h1:=GF hf f.length [] r (KM f) b c sc;have d:=OD hf f.length [] r (KM f) b c sc sc;have e:[r] <+: EC f f.length [] r:=by
  obtain⟨k,hk⟩:∃k,f.length=k+1:=⟨f.length-1,by omega⟩;rw[hk,CZ];exact(Hu (GF hf k) _ _ (λa ha=>CF hf ha) ((KM f).snoc b c sc)).2
 refine⟨h1.1,?_,λn hn a ha=>?_⟩
 .obtain⟨t,g⟩:=e;rw[<-g];exact⟨rfl,by simp⟩
 rcases d.2 n hn with h|h
 .cases h
 exact h a ha
theorem L2 {r:Int} {i:Nat} (hi:i<(EC f f.length [] r).length):(AP f r).getD i (0,[])=Gw f (EC f f.length [] r) ((EC f f.length [] r).getD i 0):=by
 unfold AP;simp[AS,hi]
theorem L3 (f:List AD) (r:Int):(AP f r).length=(EC f f.length [] r).length:=by simp[AP]
def Eh (f g:List AD):List AD:=f++g.map λx=>(x.1,Dr f.length x.2)
theorem HO (f g:List AD):(Eh f g).length=f.length+g.length:=by simp[Eh]
theorem OL {x:Int} (a:0<=x) (b:x<(f.length:Int)):(Eh f g).getD x.toNat (0,[])=f.getD x.toNat (0,[]):=by
 unfold Eh;rw[AS,AS,AA8 O1]
theorem L4 {y:Int} (a:0<=y) (b:y<(g.length:Int)):(Eh f g).getD ((f.length:Int)+y).toNat (0,[])=((g.getD y.toNat (0,[])).1,Dr f.length (g.getD y.toNat (0,[])).2):=by
 unfold Eh;have e:((f.length:Int)+y).toNat=f.length+y.toNat:=by omega
 rw[e,AS,rQ O1,ABh];rw[<-AS];exact YL (λx:AD=>(x.1,Dr f.length x.2)) (0,[]) (0,[]) O1
theorem pS {n:Nat} {x y:Int} (h:EG n p [] x y):H7 p x=H7 p y:=by
 induction h with
 | cls _ _ _ _ h g=>rw[l7 h,l7 g]
 | wt h=>cases h
 | symm _ a=>exact a.symm
 | trans _ _ b c=>exact b.trans c
noncomputable abbrev Q6 (p ty:List Int) (ar:List (List (Int×Int))):List Int:=EC (quo p ty ar) (quo p ty ar).length [] (H7 p 0)
structure A5N (h:AE) (N:List AD) (P:List (Int×Int)) (U:List AD) (v:Int->Int):Prop where
 good:AX U
 pos:0<U.length
 str:∀x∈U,Wa x.2
 feat:∀x∈U,∀a∈x.2,a.1∈KN N
 ty:Db h U
 ro:RO U
 zero:v 0=0
 proj:uR h N P U v
 least:∀X w,Db h X->uR h N P X w->w 0=0->∃m,SY h U X m
 len:U.length<=N.length
section
variable {h:AE} {N:List AD} {P:List (Int×Int)} {p ty:List Int} {ar:List (List (Int×Int))}
theorem Q7 (a:JI h N P p ty ar []) (b:AX (quo p ty ar)) (c:0<N.length):A94 (quo p ty ar) (H7 p 0) (Q6 p ty ar):=by
 obtain⟨d,fo⟩:=a.fo;have lp:=a.lp;have:=Hx fo (x:=0) O1 O1 (Q5 fo O1 O1);exact KO b this.1 (by rw[TF];exact this.2)
theorem Ve (d:JI h N P p ty ar []) (c:AX (quo p ty ar)) (b:0<N.length):H7 p 0∈Q6 p ty ar:=by
 have a:=Q7 d c b;have:=AG (Q6 p ty ar) 0 a.zero.2;rw[a.zero.1]at this;exact this
theorem A14 (a:JI h N P p ty ar []) {x y:Int} (b:(x,y)∈P) (c:H7 p x∈Q6 p ty ar):H7 p y∈Q6 p ty ar:=by
 rw[<-pS (a.sp (x,y) b)];exact c
theorem l8 (b:JI h N P p ty ar []) (f:AX (quo p ty ar)) (e:0<N.length) {x:Int} (c:0<=x) (k:x<(N.length:Int)) (j:H7 p x∈Q6 p ty ar) {a:Int×Int} (ha:a∈Aj N x):H7 p a.2∈Q6 p ty ar:=by
 obtain⟨l,fo⟩:=b.fo;have lp:=b.lp;obtain⟨t,i,g⟩:=b.sa x _ c k (Q5 fo c O1) a ha;rw[pS g];have d:=Hx fo c O1 (Q5 fo c O1);refine(Q7 b f e).cl _ j (a.1,H7 p t) ?_;rw[Aj,Px d.1 d.2];exact IN.2 ⟨(a.1,t),i,rfl⟩
def uS (N:List AD) (k:Nat) (g:List AD):Prop:=∀i:Int,0<=i->i<(g.length:Int)->(k:Int)+i<(N.length:Int)/\N.getD ((k:Int)+i).toNat (0,[])=((g.getD i.toNat (0,[])).1,Dr k (g.getD i.toNat (0,[])).2)
theorem Vf (m:JI h N P p ty ar []) (f:AX (quo p ty ar)) (e:0<N.length) {g:List AD} (l:uS N k g) (r:RO g) (hk:H7 p (k:Int)∈Q6 p ty ar):∀(n:Nat) (i:Int),i.toNat<=n->0<=i->i<(g.length:Int)->H7 p ((k:Int)+i)∈Q6 p ty ar:=by
 intro n;induction n with
 | zero =>
  intro i hn o c;have:i=0:=by omega
  subst this;rw[ACy];exact hk
 | succ n q =>
  intro i hn o c;by_cases hi:i=0
  .subst hi;rw[ACy];exact hk
  obtain⟨j,d,s,a,ha,rfl⟩:=r i O1 c;have b:=l j d O1;have:=l8 m f e (x:=(k:Int)+j) O1 b.1 (q j O1 d O1) (a:=(a.1,a.2+(k:Int))) (by
   rw[Aj,b.2];exact IN.2 ⟨a,ha,rfl⟩)
  rw[Int.add_comm];exact this
end
theorem f6 {N:List AD} {P:List (Int×Int)} {f:List AD} {v:Int->Int} (e:uR h N P f v) {g:List AD} (d:uS N k g) (j:v (k:Int)=0):SY h g f λi=>v ((k:Int)+i):=by
 refine⟨by show v ((k:Int)+0)=0;rw[ACy];exact j,λi b c=>?_,λi b c=>?_,λi b c a ha=>?_⟩
 .exact e.rng _ O1 (d i b c).1
 .have:=e.ty _ O1 (d i b c).1;rw[(d i b c).2]at this;exact this
 have:=e.arc _ O1 (d i b c).1 (a.1,a.2+(k:Int)) (by
  rw[Aj,(d i b c).2];exact IN.2 ⟨a,ha,rfl⟩)
 rw[Int.add_comm (k:Int) a.2];exact this
theorem TG {g X:List AD} (a:SY h g X m):uR h g [] X m:=⟨a.rng,a.ty,a.arc,λq b=>by cases b⟩
theorem f7 {X:List AD} (hf:AX f) (m:AX g) {v:Int->Int} (h1:uR h f [] X v) (i:uR h g [] X w):uR h (Eh f g) [] X (λx=>if x<(f.length:Int) then v x else w (x-(f.length:Int))):=by
 have j:=HO f g;refine⟨λx d e=>?_,λx d e=>?_,λx d e a ha=>?_,λq n=>by cases n⟩
 .rw[j]at e;show _/\_;try simp only
  split
  .exact h1.rng x d (by assumption)
  exact i.rng _ O1 O1
 .rw[j]at e;try simp only
  by_cases c:x<(f.length:Int)
  .rw[BY c,OL d c];exact h1.ty x d c
  rw[As c];have:=L4 (f:=f) (g:=g) (y:=x-(f.length:Int)) O1 O1;rw[show (f.length:Int)+(x-(f.length:Int))=x by omega]at this;rw[this];exact i.ty _ O1 O1
 rw[j]at e;try simp only
 by_cases c:x<(f.length:Int)
 .rw[BY c];rw[Aj,OL d c]at ha;have l:=CF hf ha;rw[BY l.2];exact h1.arc x d c a ha
 rw[As c];have:=L4 (f:=f) (g:=g) (y:=x-(f.length:Int)) O1 O1;rw[show (f.length:Int)+(x-(f.length:Int))=x by omega]at this;rw[Aj,this]at ha;obtain⟨b,k,rfl⟩:=IN.1 ha;have l:=CF m k;rw[As (by simp only;omega)];try simp only
 rw[show b.2+(f.length:Int)-(f.length:Int)=b.2 by omega];exact i.arc _ O1 O1 b k
theorem A15 {N X:List AD} {P:List (Int×Int)} {v:Int->Int} (h1:uR h N [] X v) (a:∀q∈P,v q.1=v q.2):uR h N P X v:=⟨h1.rng,h1.ty,h1.arc,a⟩
theorem YM {N f g:List AD} (h:uS f k N):uS (Eh f g) k N:=by
 intro i a b;have:=h i a b;rw[HO,OL O1 this.1];exact⟨by omega,this.2⟩
theorem YN:uS f 0 f:=by
 intro i c b;rw[show ((0:Nat):Int)+i=i by omega];refine⟨b,?_⟩;have:Dr 0 (f.getD i.toNat (0,[])).2=(f.getD i.toNat (0,[])).2:=by
  unfold Dr;rw[AAd (g:=id) (λa _=>by show (a.1,a.2+((0:Nat):Int))=a;rw[Int.natCast_zero,ACy]),List.map_id]
 rw[this]
theorem Vg:uS (Eh f g) f.length g:=by
 intro i a b;rw[HO,L4 a b];exact⟨by omega,rfl⟩
set_option maxHeartbeats 1000000 in
theorem A7g {h:AE} {N:List AD} {P:List (Int×Int)} {p ty:List Int} {ar:List (List (Int×Int))} (L:JI h N P p ty ar []) (E:AX (quo p ty ar)) (O:0<N.length) (H:∀x,0<=x->x<(N.length:Int)->H7 p x∈Q6 p ty ar) :
  A5N h N P (AP (quo p ty ar) (H7 p 0)) (λx=>EE (Q6 p ty ar) (H7 p x)):=by
 have s:=Q7 L E O
 have af:=Ve L E O
 obtain⟨nty,⟨av,fo⟩,lp,lt,la,wr,tyr,arr,srt,sp,st,sa,co⟩:=L
 have aj:=TF p ty ar
 have w:=λ{x:Int} (C:0<=x) (D:x<(N.length:Int))=>Q5 fo C (by rw[lp];exact D)
 have J:=λ{x:Int} (C:0<=x) (D:x<(N.length:Int))=>Hx fo C (by rw[lp];exact D) (w C D)
 have K:=L3 (quo p ty ar) (H7 p 0)
 have aa:=λi=>L2 (f:=quo p ty ar) (r:=H7 p 0) (i:=i)
 have M:∀x:Int,0<=x->x<(N.length:Int)->Aj (quo p ty ar) x=(ar.getD x.toNat []).map λa=>(a.1,H7 p a.2):=λx C D=>by
  rw[Aj,Px C (by rw[lp];exact D)]
 have u:∀x∈Q6 p ty ar,(0<=x/\x<(N.length:Int))/\Pu p x=x:=by
  have ag:Iso (quo p ty ar) (quo p ty ar) id (λx=>(0<=x/\x<(N.length:Int))/\Pu p x=x):=by
   refine⟨λi _=>by simp,λi hi a ha=>?_,λi j _ _ e=>e⟩
   rw[M i hi.1.1 hi.1.2]at ha
   obtain⟨b,m,rfl⟩:=List.mem_map.1 ha
   have c:=(arr _ b m).1
   have:=J c.1 c.2
   rw[lp]at this
   exact⟨this,(w c.1 c.2).root⟩
  have R:=J (x:=0) O1 O1
  rw[lp]at R
  exact(TC ag _ [] _ (λx d=>by cases d) ⟨R,(w (x:=0) O1 O1).root⟩).2
 have ah:=λ(q:Nat)=>Vd E (quo p ty ar).length [] (H7 p 0) (KM _) (J (x:=0) O1 O1).1 (by rw[aj];exact(J (x:=0) O1 O1).2) sc q
 unfold Q6 at s af H u ⊢
 generalize ao:AP (quo p ty ar) (H7 p 0)=F at *
 generalize aq:EC (quo p ty ar) (quo p ty ar).length [] (H7 p 0)=o at *
 have z:∀i:Int,0<=i->i<(o.length:Int)->o.getD i.toNat 0∈o/\EE o (o.getD i.toNat 0)=i:=λi g l=>by
  refine⟨AG o 0 O1,?_⟩
  rw[JW s.ok.nd O1]
  omega
 have A:∀x∈o,F.getD (EE o x).toNat (0,[])=(ty.getD x.toNat 0,(ar.getD x.toNat []).map λa=>(a.1,EE o (H7 p a.2))):=λx d=>by
  have am:=Fg d
  have c:=(u x d).1
  rw[aa _ O1,am.2.2]
  unfold Gw
  rw[Px c.1 (by rw[lp];exact c.2),List.map_map]
  rfl
 have Q:∀x∈o,∀a∈ar.getD x.toNat [],H7 p a.2∈o:=λx d a ha=>by
  have c:=(u x d).1
  exact s.cl x d (a.1,H7 p a.2) (by rw[M x c.1 c.2];exact List.mem_map.2 ⟨a,ha,rfl⟩)
 have S:∀k,Wa ((ar.getD k []).map λa=>(a.1,EE o (H7 p a.2))):=λk=>by
  unfold Wa
  rw[List.pairwise_map]
  exact srt k
 have G:∀x∈F,∃y∈o,x=(ty.getD y.toNat 0,(ar.getD y.toNat []).map λa=>(a.1,EE o (H7 p a.2))):=λx d=>by
  obtain⟨i,hi,rfl⟩:=B7 (0,[]) d
  have h1:=z (i:Int) O1 O1
  refine⟨_,h1.1,?_⟩
  rw[<-A _ h1.1,h1.2]
  rw[Int.toNat_natCast]
 have ae:EE o (H7 p 0)=0:=by
  have:=JW s.ok.nd s.zero.2
  rw[s.zero.1]at this
  exact this
 have ap:=s.ok.len
 have an:=E.1
 refine⟨⟨by omega,λx d=>?_⟩,by rw[K];exact s.zero.2,λx d=>?_,λx d a ha=>?_,λx d=>?_,λi g l=>?_,ae,⟨λi g l=>?_,λi g l=>?_,λi g l a ha=>?_,λq ai=>?_⟩,λX v ab T al=>?_,by omega⟩
 .obtain⟨y,B,rfl⟩:=G x d
  have c:=(u y B).1
  refine⟨?_,λa ha=>?_⟩
  .have:=(E.2 _ (AG (quo p ty ar) (0,[]) (k:=y.toNat) O1)).1
   rw[Px c.1 (by rw[lp];exact c.2),List.length_map]at this
   simp only[List.length_map]
   exact this
  obtain⟨b,m,rfl⟩:=List.mem_map.1 ha
  have:=Fg (Q y B b m)
  rw[K]
  exact⟨this.1,this.2.1⟩
 .obtain⟨y,B,rfl⟩:=G x d
  exact S _
 .obtain⟨y,B,rfl⟩:=G x d
  obtain⟨b,m,rfl⟩:=List.mem_map.1 ha
  exact(arr _ b m).2
 .obtain⟨y,B,rfl⟩:=G x d
  have c:=(u y B).1
  exact tyr y c.1 c.2
 . -- in order
  obtain⟨j,au,a,ha,e⟩:=ah i.toNat (by simp only[List.length_nil];omega) O1
  have h1:=z (j:Int) O1 O1
  have W:=z i O1 O1
  rw[Int.toNat_natCast]at h1
  have c:=(u _ h1.1).1
  rw[M _ c.1 c.2]at ha
  obtain⟨b,m,rfl⟩:=List.mem_map.1 ha
  refine⟨(j:Int),by omega,by omega,(b.1,EE o (H7 p b.2)),?_,?_⟩
  .have:=A _ h1.1
   rw[h1.2]at this
   rw[Aj,this]
   exact List.mem_map.2 ⟨b,m,rfl⟩
  show EE o (H7 p b.2)=i
  simp only at e
  rw[e,W.2]
 .have:=Fg (H i g l)
  rw[K]
  exact⟨this.1,this.2.1⟩
 .show Aa h _ (F.getD (EE o (H7 p i)).toNat (0,[])).1=true
  rw[A _ (H i g l)]
  exact st i _ g l (w g l)
 .obtain⟨t,ak,ad⟩:=sa i _ g l (w g l) a ha
  have e:=pS ad
  show Bz (Aj F (EE o (H7 p i))) a.1=EE o (H7 p a.2)
  rw[e,Aj,A _ (H i g l)]
  exact Pt (S _) (a:=(a.1,EE o (H7 p t))) (List.mem_map.2 ⟨(a.1,t),ak,rfl⟩)
 .show EE o (H7 p q.1)=EE o (H7 p q.2)
  rw[pS (sp q ai)]
 obtain⟨c1,c2,U,V⟩:=co X v ab T
 refine⟨λi=>v (o.getD i.toNat 0),?_,λi g l=>?_,λi g l=>?_,λi g l a ha=>?_⟩
 .show v (o.getD 0 0)=0
  rw[s.zero.1,<-c1 0 _ O1 O1 (w O1 O1)]
  exact al
 .have n:=z i g O1
  have c:=(u _ n.1).1
  exact T.rng _ c.1 c.2
 .have n:=z i g O1
  have c:=u _ n.1
  have hn:=A _ n.1
  rw[n.2]at hn
  rw[hn]
  exact U _ c.1.1 c.1.2 c.2
 have n:=z i g O1
 have c:=u _ n.1
 have hn:=A _ n.1
 rw[n.2]at hn
 rw[Aj,hn]at ha
 obtain⟨b,m,rfl⟩:=List.mem_map.1 ha
 have Y:=V _ c.1.1 c.1.2 c.2 b m
 have I:=(arr _ b m).1
 have Z:=Fg (Q _ n.1 b m)
 simp only
 rw[Z.2.2,<-c1 b.2 _ I.1 I.2 (w I.1 I.2)]
 exact Y
structure VF (h:AE) (f:List AD):Prop where
 good:AX f
 pos:0<f.length
 ty:Db h f
 str:∀x∈f,Wa x.2
 ft:∀x∈f,∀a∈x.2,0<=a.1/\a.1<(h.2.length:Int)
 can:AP f 0=f
 ro:RO f
structure HU (h:AE):Prop where
 ok:Fd h
 inj:HA h
 ft:h.2.length<=64
def f8 (U:List AD):Prop:=(EC U U.length [] 0).length=U.length/\∀k,(hk:k<(EC U U.length [] 0).length)->(EC U U.length [] 0)[k]=(k:Int)
theorem Z4 {Q:List AD} (m:AX Q) {r:Int} (L:0<=r) (M:r<(Q.length:Int)):AX (AP Q r)/\f8 (AP Q r):=by
 have d:=KO m L M;have D:=L3 Q r;have C:=λi=>L2 (f:=Q) (r:=r) (i:=i);generalize O:AP Q r=c at *;generalize H:EC Q Q.length [] r=o at *;have R:=d.ok.len;have N:=m.1;have g:∀i:Int,0<=i->i<(o.length:Int)->o.getD i.toNat 0∈o/\EE o (o.getD i.toNat 0)=i:=λi J K=>by
  refine⟨AG o 0 O1,?_⟩;rw[JW d.ok.nd O1];omega
 have p:∀i:Int,0<=i->i<(o.length:Int)->Aj c i=(Aj Q (o.getD i.toNat 0)).map (M0 o):=λi J K=>by
  rw[Aj,C i.toNat O1];rfl
 have F:Iso c Q (λi=>o.getD i.toNat 0) (λi=>0<=i/\i<(o.length:Int)):=by
  refine⟨λi hi=>?_,λi hi a ha=>?_,λi j hi B e=>?_⟩
  .rw[p i hi.1 hi.2,ABa];have:∀a∈Aj Q (o.getD i.toNat 0),((λa:Int×Int=>(a.1,o.getD a.2.toNat 0))∘M0 o) a=a:=λa ha=>by
    show (a.1,o.getD (EE o a.2).toNat 0)=a;rw[(Fg (d.cl _ (g i hi.1 hi.2).1 a ha)).2.2]
   rw[AAd this,List.map_id']
  .rw[p i hi.1 hi.2]at ha;obtain⟨b,q,rfl⟩:=IN.1 ha;have:=Fg (d.cl _ (g i hi.1 hi.2).1 b q);exact⟨this.1,this.2.1⟩
  have h1:=(g i hi.1 hi.2).2;have h:=(g j B.1 B.2).2;have e:o.getD i.toNat 0=o.getD j.toNat 0:=e;rw[<-h1,<-h,e]
 have h0:(0:Int)<(o.length:Int):=by have:=d.zero.2;omega
 have v:AX c:=by
  refine⟨by omega,λx u=>?_⟩;obtain⟨i,hi,rfl⟩:=B7 (0,[]) u;have h1:=p (i:Int) O1 O1;rw[Aj,iN]at h1;rw[h1];have t:=g (i:Int) O1 O1;rw[iN]at t;have S:=d.ok.rng _ t.1;refine⟨?_,λa ha=>?_⟩
  .rw[aS];exact(m.2 _ (AG Q (0,[]) (k:=(o.getD i 0).toNat) O1)).1
  obtain⟨b,q,rfl⟩:=IN.1 ha;have:=Fg (d.cl _ t.1 b q);rw[D];exact⟨this.1,this.2.1⟩
 have s:=TC F Q.length [] 0 (λx u=>by cases u) ⟨by omega,h0⟩;have I:o.getD (0:Int).toNat 0=r:=d.zero.1;rw[AB9,I,H]at s;have A:=Vc v (n:=0) O1 O1 (Q.length-c.length);rw[show c.length+(Q.length-c.length)=Q.length by omega]at A;rw[A]at s;unfold f8;refine⟨v,?_⟩;generalize EC c c.length [] 0=l at *;obtain⟨y,E⟩:=s;have P:l.length=o.length:=by
  have:=AAS List.length y;rw[aS]at this;exact this.symm
 have G:∀k,(hk:k<l.length)->l[k]=(k:Int):=λk hk=>by
  have w:=E l[k] (AAm hk);have h1:=(g l[k] w.1 w.2).2;have h:=(g (k:Int) O1 O1).2;have e:o.getD k 0=o.getD (l[k]).toNat 0:=by
   exact(AAS (λz:List Int=>z.getD k 0) y).trans (by simp[AS,hk])
  rw[iN,e]at h;rw[<-h1,h]
 exact⟨by omega,G⟩
theorem Vh {b:List AD} (g:AX b) (k:f8 b):AP b 0=b:=by
 unfold AP;obtain⟨q,c⟩:=k;generalize EC b b.length [] 0=l at *;have o:l.Nodup:=by
  unfold List.Nodup;rw[oR];intro i j hi n p e;rw[c i hi,c j n]at e;omega
 have m:∀x,0<=x->x<(l.length:Int)->EE l x=x:=λx r s=>by
  have:=JW o (i:=x.toNat) O1;have e:l.getD x.toNat 0=x:=by
   rw[AS,AT O1];show l[x.toNat]=x;rw[c _ O1];omega
  rw[e]at this;rw[this];omega
 apply AAx
 .rw[aS];omega
 intro i h1 d;rw[ABQ,c i (by simpa using h1)];have f:b.getD (i:Int).toNat (0,[])=b[i]:=by simp[AS,d]
 unfold Gw;rw[f];have:∀a∈b[i].2,M0 l a=a:=λa ha=>by
  have h:=(g.2 _ (AAm d)).2 a ha;unfold M0;rw[m a.2 h.1 O1]
 rw[AAd this,List.map_id']
theorem f9 {Q:List AD} (a:AX Q) {r:Int} (b:0<=r) (c:r<(Q.length:Int)):AP (AP Q r) 0=AP Q r :=
 Vh (Z4 a b c).1 (Z4 a b c).2
theorem A16 {a X:List AD} (g:RO a) {f:Int->Int} (h1:SY h a X m) (b:SY h a X f):∀(k:Nat) (i:Int),i.toNat<=k->0<=i->i<(a.length:Int)->m i=f i:=by
 intro k;induction k with
 | zero =>
  intro i hk l e;have:i=0:=by omega
  subst this;rw[h1.zero,b.zero]
 | succ k n =>
  intro i hk l e;by_cases hi:i=0
  .subst hi;rw[h1.zero,b.zero]
  obtain⟨j,c,o,x,d,rfl⟩:=g i O1 e;rw[<-h1.arc j c O1 x d,<-b.arc j c O1 x d,n j O1 c O1]
theorem Vi (hk:Fd h) {a b:List AD} (w:AX a) (ta:Db h a) (tb:Db h b) (A:Db h c) {n:Int->Int} (h1:SY h a b m) (j:SY h b c n):SY h a c λi=>n (m i):=by
 refine⟨by show n (m 0)=0;rw[h1.zero,j.zero],λi f g=>?_,λi f g=>?_,λi f g x p=>?_⟩
 .have:=h1.rng i f g;exact j.rng _ this.1 this.2
 .have d:=h1.rng i f g;have B:=j.rng _ d.1 d.2;have r:=ta _ (AG a (0,[]) (k:=i.toNat) O1);have s:=tb _ (AG b (0,[]) (k:=(m i).toNat) O1);have t:=A _ (AG c (0,[]) (k:=(n (m i)).toNat) O1);exact OK hk r.1 r.2 s.1 s.2 t.1 t.2 (h1.ty i f g) (j.ty _ d.1 d.2)
 have d:=h1.rng i f g;have q:=CF w p;have o:=h1.arc i f g x p;obtain⟨y,z,u,v⟩:=fZ (l:=Aj b (m i)) (e:=x.1) (by rw[o];exact(h1.rng _ q.1 q.2).1);have:=j.arc (m i) d.1 d.2 y z;rw[u,v,o]at this;exact this
theorem Z5 {a:List AD} (hs:∀x∈a,Wa x.2) (n:Int):Wa (Aj a n):=by
 unfold Aj;by_cases h:n.toNat<a.length
 .exact hs _ (AG a (0,[]) h)
 rw[AS,oS O1];exact .nil
theorem A17 {a:List AD} (hs:∀x∈a,Wa x.2):SY h a a id :=
 ⟨rfl,λi c d=>⟨c,d⟩,λi _ _=>Q2 h _,λi _ _ x b=>Pt (Z5 hs i) b⟩
structure l9 (h:AE) (a b U:List AD):Prop where
 vf:VF h U
 left:∃m,SY h a U m
 right:∃m,SY h b U m
 least:∀X,Db h X->∀m1,SY h a X m1->∀m2,SY h b X m2->∃m,SY h U X m
 len:U.length<=a.length+b.length
open Classical in
noncomputable def KP (h:AE) (a b:List AD):List AD×Bool:=if H:∃U,l9 h a b U then (H.choose,true) else ([],false)
theorem gA {a b:List AD} (h1:(KP h a b).2=true):l9 h a b (KP h a b).1:=by
 unfold KP at h1 ⊢;split at h1
 .rename_i H;rw[dif_pos H];exact H.choose_spec
 cases h1
theorem Vj {e:Int} (h:e∈KN f):∃x∈f,∃a∈x.2,a.1=e:=by
 unfold KN at h;obtain⟨x,c,b⟩:=ABe.1 h;obtain⟨a,ha,e⟩:=IN.1 b;exact⟨x,c,a,ha,e⟩
theorem A7h {N:List AD} {P:List (Int×Int)} {ty:List Int} {ar:List (List (Int×Int))} (d:JI h N P p ty ar []) (g:AX (quo p ty ar)) (m:0<N.length) (j:∀x∈N,∀a∈x.2,0<=a.1/\a.1<(h.2.length:Int)) {v:Int->Int} (c:A5N h N P (AP (quo p ty ar) (H7 p 0)) v):VF h (AP (quo p ty ar) (H7 p 0)):=by
 have f:0<=H7 p 0/\H7 p 0<((quo p ty ar).length:Int):=by
  obtain⟨n,fo⟩:=d.fo;have:=d.lp;have:=Hx fo (x:=0) O1 O1 (Q5 fo O1 O1);rw[TF];exact this
 refine⟨c.good,c.pos,c.ty,c.str,λx k a ha=>?_,f9 g f.1 f.2,c.ro⟩;obtain⟨y,l,b,i,e⟩:=Vj (c.feat x k a ha);rw[<-e];exact j y l b i
theorem uT (hf:VF h f) (e:VF h g):∀x∈Eh f g,∀a∈x.2,0<=a.1/\a.1<(h.2.length:Int):=by
 intro x c;unfold Eh at c;rcases Is.1 c with c|c
 .exact hf.ft x c
 obtain⟨y,i,rfl⟩:=IN.1 c;intro a ha;obtain⟨b,d,rfl⟩:=IN.1 ha;exact e.ft y i b d
theorem A4h (hf:VF h f) (i:VF h g) {ty:List Int} {ar:List (List (Int×Int))} (b:JI h (Eh f g) [(0,(f.length:Int))] p ty ar []) (d:AX (quo p ty ar)):l9 h f g (AP (quo p ty ar) (H7 p 0)):=by
 have v:=hf.pos;have u:=HO f g;have c:0<(Eh f g).length:=by omega
 have h0:=Ve b d c;have l:=Vf b d c (YM (g:=g) YN) hf.ro h0;have n:=Vf b d c (Vg (f:=f)) i.ro (A14 b sc h0);have a:=A7g b d c λx t w=>by
  by_cases o:x<(f.length:Int)
  .have:=l x.toNat x (Of _) t o
   rwa [show ((0:Nat):Int)+x=x by omega]at this
  have:=n _ (x-(f.length:Int)) (Of _) O1 O1
  rwa [show (f.length:Int)+(x-(f.length:Int))=x by omega]at this
 refine⟨A7h b d c (uT hf i) a,⟨_,f6 a.proj (YM (g:=g) YN) a.zero⟩,⟨_,f6 a.proj (Vg (f:=f)) (by rw[<-a.proj.eq (0,(f.length:Int)) sc];exact a.zero)⟩,λX k r h1 s j=>?_,by have:=a.len;omega⟩;refine a.least X _ k (A15 (f7 hf.good i.good (TG h1) (TG j)) λq m=>?_) ?_
 .have e:q=(0,(f.length:Int)):=by simpa using m
  subst e;try simp only
  rw[BY O1,As O1,Int.sub_self,h1.zero,j.zero]
 show (if (0:Int)<(f.length:Int) then r 0 else s (0-(f.length:Int)))=0;rw[BY O1];exact h1.zero
theorem uU {n k:Nat} (h:k<n):(R8 0 n).getD k 0=(k:Int):=by
 unfold R8;rw[AS,AAw,ABp h];show ((0+k:Nat):Int)=k;rw[AAH]
theorem L5 {n:Nat} {x:Int} (a:0<=x) (b:x<(n:Int)):Pu (R8 0 n) x=x:=by
 unfold Pu;rw[uU O1];omega
def Z6 (N:List AD):List Int:=N.map (·.1)
def pT (N:List AD):List (List (Int×Int)):=N.map (·.2)
theorem OM (N:List AD) (k:Nat):(Z6 N).getD k 0=(N.getD k (0,[])).1:=by
 unfold Z6;rw[AS,AAw,AS];cases N[k]?<;>rfl
theorem Mq (N:List AD) (k:Nat):(pT N).getD k []=(N.getD k (0,[])).2:=by
 unfold pT;rw[AS,AAw,AS];cases N[k]?<;>rfl
theorem Z7 {n:Nat} {x r:Int} (a:0<=x) (b:x<(n:Int)) (h:Rt (R8 0 n) x r):r=x:=h.det (.base (L5 a b))
theorem A4i {N:List AD} (l:AX N) (m:Db h N) (hs:∀x∈N,Wa x.2):JI h N [] (R8 0 N.length) (Z6 N) (pT N) []:=by
 have f:(R8 0 N.length).length=N.length:=uQ 0 N.length;refine⟨m,⟨λ_=>0,λn n0 n1=>?_,λn n0 n1 hn=>?_⟩,f,by simp[Z6],by simp[pT],λw g=>(by cases g),λx c d=>?_,λk a ha=>?_,λk=>?_,λq p=>(by cases p),λx r c d e=>?_,λx r c d e a ha=>?_,λX v s o=>?_⟩
 .rw[f]at n1 ⊢;rw[L5 n0 n1];exact⟨n0,n1⟩
 .rw[f]at n1;exact absurd (L5 n0 n1) hn
 .rw[OM];exact m _ (AG N (0,[]) O1)
 .rw[Mq]at ha;refine⟨Pq l k a ha,?_⟩;by_cases hk:k<N.length
  .exact ABe.2 ⟨_,AG N (0,[]) hk,IN.2 ⟨a,ha,rfl⟩⟩
  rw[AS,oS O1]at ha;cases ha
 .rw[Mq];have:=Z5 hs (k:Int)
  rwa [Aj,iN]at this
 .rw[Z7 c d e,OM];exact Q2 h _
 .rw[Z7 c d e,Mq];have b:=CF l ha;exact⟨a.2,ha,.cls b.1 b.2 b.1 b.2 (.base (L5 b.1 b.2)) (.base (L5 b.1 b.2))⟩
 refine⟨λx r c d e=>by rw[Z7 c d e],λw g=>(by cases g),λr i j _=>?_,λr i j _ a ha=>?_⟩
 .rw[OM];exact o.ty r i j
 rw[Mq]at ha;exact o.arc r i j a ha
theorem mA (hf:AX f) (d:AX g) (j:f.length+g.length<=100000):AX (Eh f g):=by
 have i:=HO f g;refine⟨by omega,λx c=>?_⟩;unfold Eh at c;rcases Is.1 c with c|c
 .refine⟨(hf.2 x c).1,λa ha=>?_⟩;have:=(hf.2 x c).2 a ha;omega
 obtain⟨y,e,rfl⟩:=IN.1 c;refine⟨by simp only[Dr,aS];exact(d.2 y e).1,λa ha=>?_⟩;obtain⟨b,h,rfl⟩:=IN.1 ha;have:=(d.2 y e).2 b h;simp only;omega
theorem uV (hf:∀x∈f,Wa x.2) (b:∀x∈g,Wa x.2):∀x∈Eh f g,Wa x.2:=by
 intro x a;unfold Eh at a;rcases Is.1 a with a|a
 .exact hf x a
 obtain⟨y,c,rfl⟩:=IN.1 a;unfold Wa Dr;rw[AAA];exact b y c
theorem A18 (hf:Db h f) (b:Db h g):Db h (Eh f g):=by
 intro x a;unfold Eh at a;rcases Is.1 a with a|a
 .exact hf x a
 obtain⟨y,c,rfl⟩:=IN.1 a;exact b y c
def uW (N:List AD):Prop:=∀x∈N,∀a∈x.2,0<=a.1/\a.1<64
theorem A19 (hf:uW f) (e:uW g):uW (Eh f g):=by
 intro x c;unfold Eh at c;rcases Is.1 c with c|c
 .exact hf x c
 obtain⟨y,h,rfl⟩:=IN.1 c;intro a ha;obtain⟨b,d,rfl⟩:=IN.1 ha;exact e y h b d
theorem A1a (h:Wa l) (hf:∀a∈l,0<=a.1/\a.1<64):l.length<=64:=by
 have:=pR h (S:=(List.range 64).map λ(i:Nat)=>(i:Int)) (λa ha=>IN.2 ⟨a.1.toNat,tO.2 (by have:=hf a ha;omega),by have:=hf a ha;omega⟩)
 rwa [aS,AC6]at this
theorem uX {N:List AD} (h:uW N) {e:Int} (b:e∈KN N):0<=e/\e<64:=by
 obtain⟨x,c,a,ha,rfl⟩:=Vj b;exact h x c a ha
theorem A1b {N:List AD} {P:List (Int×Int)} {ty:List Int} {ar:List (List (Int×Int))} (c:JI h N P p ty ar []) (k:N.length<=100000) (hf:uW N):AX (quo p ty ar):=by
 have g:=TF p ty ar;obtain⟨l,fo⟩:=c.fo;have lp:=c.lp;refine⟨by omega,λx j=>?_⟩;obtain⟨i,hi,rfl⟩:=B7 (0,[]) j;have e:=Px (p:=p) (ty:=ty) (ar:=ar) (n:=(i:Int)) O1 O1;rw[iN]at e;rw[e];refine⟨?_,λa ha=>?_⟩
 .simp only[aS];have:=A1a (c.srt i) (λa ha=>uX hf (c.arr i a ha).2);omega
 obtain⟨b,f,rfl⟩:=IN.1 ha;have d:=(c.arr i b f).1;have:=Hx fo (x:=b.2) d.1 O1 (Q5 fo d.1 O1);rw[g];exact this
theorem VF.ft64 (b:VF h f) (hu:HU h):uW f:=λx c a ha=>by
 have h1:=b.ft x c a ha;have d:=hu.ft;omega
def A95 (d:List AJ) (o:List ByteArray) (i:Nat):Prop:=∀j,j<i->∀x∈d,AU x.2.1 (o.getD j ByteArray.empty)=true->AU o x.1=true
theorem A1c {c:ByteArray} {o:List ByteArray} {x:AJ} (h:AU x.2.1 c=true):AU (Eu c o x) x.1=true:=by grind [Eu,N1,Ct]
theorem YO {c:ByteArray} {x:AJ} (h:AU x.2.1 c=true):∀ {l:List AJ} {o:List ByteArray},x∈l->AU (l.foldl (Eu c) o) x.1=true
 | [],_,a=>by cases a
 | y :: l,o,a=>by
  rw[OS];rcases DO.1 a with rfl|a
  .grind [HL,Mi,A1c]
  exact YO h a
theorem Vk {d:List AJ}:∀ {n i:Nat} {o:List ByteArray},ZZ d o->d.length<=n+i->A95 d o i->i<=o.length->∃m,A95 d (Cg d n i o) m/\(Cg d n i o).length<=m
 | 0,i,o,ha,f,a,hi=>⟨i,a,by
  have:=ha.len;show o.length<=i;omega⟩
 | n+1,i,o,ha,f,a,hi=>by
  unfold Cg;split
  .rename_i q;obtain⟨c,k⟩:=Ul (o.getD i ByteArray.empty) (l:=d) (o:=o) (λ_ h=>h) ha;refine Vk c O1 (λj p x b hs=>?_) O1;rw[Qk _ O1]at hs;by_cases e:j=i
   .subst e;exact YO hs b
   exact HL (λz g=>Mi g) (a j O1 x b hs)
  exact⟨i,a,by omega⟩
theorem Q8 {α:Type} {p:α->Bool}:∀ {l:List α},l.countP p=1->∀x∈l,p x=true->∀y∈l,p y=true->x=y
 | [],h,x,a,_,_,_,_=>by cases a
 | z :: l,h,x,a,d,y,b,e=>by
  rw[ABs]at h;by_cases c:p z=true
  .rw[BY c]at h;grind
  rw[As c]at h;have a:x∈l:=by grind
  have b:y∈l:=by grind
  exact Q8 O1 x a d y b e
theorem Vl (s:ByteArray):∀(l:List AJ) (k:Nat),0<=Cs s k l->∃x∈l,AM x.1 s=true
 | [],k,h=>by
  simp only[Cs]at h;omega
 | y :: l,k,h=>by
  simp only[Cs]at h;split at h
  .rename_i e;exact⟨y,by simp,e⟩
  obtain⟨x,a,e⟩:=Vl s l (k+1) h;exact⟨x,by simp[a],e⟩
theorem mB {d:List AJ} (t:A7 d=0):∃r∈d,∀x∈d,AU (Ci d r.1) x.1=true:=by
 obtain⟨hs,I,h1,hn,l⟩:=Az t;have C:0<d.countP λx=>x.2.1.length==0:=by grind [Hj]
 obtain⟨r,c,q⟩:=List.countP_pos_iff.1 C;refine⟨r,c,?_⟩;have D:=DN c;have u:ZZ d [r.1]:=⟨λs hs=>by
  have:s=r.1:=by simpa using hs
  rw[this];exact D,by simp⟩
 obtain⟨m,B,J⟩:=Vk (d:=d) (n:=d.length) (i:=0) u O1 (λj A=>by omega) O1;have p:r.1∈Cg d d.length 0 [r.1]:=KC sc;have v:Ci d r.1=JH (Cg d d.length 0 [r.1]):=by unfold Ci;rw[As O1]
 rw[v];generalize Cg d d.length 0 [r.1]=o at *;have key:∀(k:Nat) (x:AJ),x∈d->Ft d x.1<=k->AU o x.1=true:=by
  intro k;induction k with
  | zero =>
   intro x a hk;by_cases g:x.2.1.length=0
   .have e:=Q8 h1 x a (by simpa using g) r c q;rw[e];exact FG p
   obtain⟨s,b⟩:∃s,s∈x.2.1:=ACf O1;have:=KB hn l a (FG b);omega
  | succ k H =>
   intro x a hk;by_cases g:x.2.1.length=0
   .have e:=Q8 h1 x a (by simpa using g) r c q;rw[e];exact FG p
   obtain⟨s,b⟩:∃s,s∈x.2.1:=ACf O1;have E:=KB hn l a (FG b);obtain⟨y,G,e⟩:=Vl s d 0 (hs x a s b);rw[<-Ho d e]at E;obtain⟨z,h,f⟩:=To.1 (H y G O1);obtain⟨j,A,rfl⟩:=B7 ByteArray.empty h;refine B j O1 x a ?_;exact To.2 ⟨s,b,Bt (BI f e)⟩
 intro x a;obtain⟨z,h,e⟩:=To.1 (key _ x a (Of _));obtain⟨w,F,f⟩:=To.1 (PY (o:=[]) h);exact To.2 ⟨w,F,BI f e⟩
abbrev cnt (c:List Int):Nat:=(Hg c).length
theorem A1d {w:Int} (a:U64 w) {r:Nat} (d:r<64):zV w (r:Int)=w.toNat.testBit r:=by
 have h0:=a.1;have h1:=a.2;have b:w.toNat / 2 ^ r<=w.toNat:=Nat.div_le_self _ _;have e:bG .u64 w (r:Int)=((w.toNat / 2 ^ r:Nat):Int):=by
  unfold bG;have c:min ((r:Int)).toNat IntKind.u64.bits=r:=by
   show min ((r:Int)).toNat 64=r;omega
  grind
 unfold zV;rw[Nat.testBit_eq_decide_div_mod_eq,e];generalize w.toNat / 2 ^ r=z at *;rw[Hm ⟨by omega,by omega⟩ ⟨by decide,by decide⟩,iN,show (1:Int).toNat=1 from rfl,Nat.and_one_is_mod,ABB,AAc,If];omega
theorem TH {b:List Int} (d:Hn b) (i:Nat):SQ b (i:Int)=BE b i:=by
 have a:Int.tdiv (i:Int) 64=((i / 64:Nat):Int):=by rw[AB5 O1];omega
 have c:Int.tmod (i:Int) 64=((i % 64:Nat):Int):=by rw[ABr O1];omega
 unfold SQ BE;rw[a,c,iN];by_cases hk:i / 64<b.length
 .rw[As (by rw[vW,If,If];omega),A1d (BJ d _) O1]
 rw[BY (by rw[vW,If,If];omega),Gd hk];simp
theorem gB (c:List Int):(Hg c).Nodup:=by
 unfold Hg NG List.Nodup;rw[AAA];refine List.Pairwise.imp (λh e=>h ?_) (List.Pairwise.filter _ List.nodup_range);exact Int.ofNat.inj e
theorem YP {c:List Int} (b:Hn c) {x:Int}:x∈Hg c↔∃i:Nat,x=(i:Int)/\BE c i=true:=by
 unfold Hg NG;rw[IN];constructor
 .grind [TH]
 rintro⟨i,rfl,a⟩;refine⟨i,AAW.2 ⟨tO.2 ?_,by rw[TH b];exact a⟩,rfl⟩;refine GO λd=>?_;unfold BE at a;rw[Gd O1]at a;simp at a
theorem A7i {a b:List Int} (ha:Hn a) (d:Hn b) (h:∀i,BE a i=true->BE b i=true) (e:cnt b<=cnt a) (i:Nat) (hi:BE b i=true):BE a i=true:=by
 refine GO λhn=>?_;have c:(i:Int)∉Hg a:=λf=>by grind [YP]
 have:=Q4 (l:=(i:Int) :: Hg a) (l':=Hg b) (AAu.2 ⟨c,gB a⟩) λx c=>by grind [YP]
 grind
theorem Vm (x:AQ) (out:List AQ):∀n,(FH x out n=0->n=0\/FY x (out.getD 0 c0)=true)/\∀k,FH x out n=k+1->FY x (out.getD k c0)=false
 | 0=>⟨λ_=>.inl rfl,λk h=>by simp[FH]at h⟩
 | n+1=>by
  obtain⟨h1,a⟩:=Vm x out n;grind [FH]
theorem gC {a b:AQ} (h:FY a b=true):cnt b.2<=cnt a.2:=by
 unfold FY at h;grind
theorem Z8 {a b:AQ} (h:FY a b=false):cnt a.2<=cnt b.2:=by
 unfold FY at h;grind
def HM (out:List AQ):Prop:=∀y∈out,cnt y.2<=cnt (out.getD 0 c0).2
theorem A4j {out:List AQ} (h:HM out) (x:AQ):HM (Zj out x):=by
 obtain⟨s1,s2⟩:=Vm x out out.length;have c:=eB x out out.length;intro y a;rw[eG]at a;unfold Zj;cases hk:FH x out out.length with
 | zero =>
  rw[AAP,AAD,f5];have e:([x]++out).getD 0 c0=x:=rfl;rw[e];rcases a with rfl|a
  .exact Of _
  have h1:=h y a;rcases s1 hk with e|e
  .grind
  exact gO h1 (gC e)
 | succ k =>
  have b:=Z8 (s2 k hk);rw[hk]at c;have e:(out.take (k+1)++[x]++out.drop (k+1)).getD 0 c0=out.getD 0 c0:=by grind
  rw[e];rcases a with rfl|a
  .exact gO b (h _ (Ar O1))
  exact h y a
theorem gD {d:List AJ}:∀ {l:List (List Int)} {o:List AQ},HM o->HM (l.foldl (Qp d) o)
 | [],_,h=>h
 | b :: l,o,h=>by
  rw[OS];exact gD (A4j h _)
def In (n:Nat) (c:List Int):Prop:=Hn c/\∀i,BE c i=true->i<n
theorem A7j (n:Nat):In n []:=⟨λx a=>(by cases a),λi hi=>by unfold BE at hi;simp at hi⟩
theorem A7k {n:Nat} {a b:List Int} (ha:In n a) (c:In n b):In n (D5 a b) :=
 ⟨Mj ha.1 c.1,λi hi=>by
  rw[KH ha.1 c.1,An]at hi;exact ha.2 i hi.1⟩
theorem A4k {n:Nat} {l:List (List Int)} (h:∀c∈l,In n c) (k:Nat):In n (l.getD k []):=by grind [Ar,Qt,A7j]
theorem A4l {n:Nat} {l:List (List Int)} (h:∀c∈l,In n c) (i k:Nat):∀c∈GC l i k,In n c:=by grind [GC,D5,A7k,A4k]
theorem pU {q i:Nat}:∀ {n k:Nat} {l:List (List Int)},(∀c∈l,In q c)->∀c∈GD i n k l,In q c
 | 0,_,_,h=>h
 | n+1,k,l,h=>by
  unfold GD;split
  .exact pU (A4l h i k)
  exact h
theorem Z9 {q:Nat}:∀ {n i:Nat} {l:List (List Int)},(∀c∈l,In q c)->∀c∈Hl n i l,In q c
 | 0,_,_,h=>h
 | n+1,i,l,h=>by
  unfold Hl;split
  .exact Z9 (pU h)
  exact h
def A96 (h:AE):Prop:=∀t,0<=t->t<(h.1.length:Int)->Aa h 0 t=true
theorem gE (d:List AJ):A96 (Ab d).1:=by
 have hk:=Ge d;unfold Ab at hk ⊢;split
 .intro t h0 h1;simp at h1;omega
 rename_i g;rw[As g]at hk;have g:(A4 d).2=0:=GO g;have A:Am d=0:=by grind [A4]
 obtain⟨M,-,-⟩:=CC A;obtain⟨j,Q,-⟩:=BZ M;obtain⟨-,z,-,hn,P⟩:=Az j;have G:=Dm d d.length;rw[oF]at G;have k:(AN d).length<=4096:=by omega
 obtain⟨r,I,O⟩:=mB j;have a:∀c∈Aw (AR d),In (AN d).length c:=Z9 λc f=>by
  obtain⟨s,hs,rfl⟩:=IN.1 f;exact⟨(B6 (d:=d) k s 0).2.1,λi hi=>((B6 (d:=d) k s i).1.1 hi).1⟩
 obtain⟨s,hs,N⟩:=To.1 (N8 I);have J:s=r.1:=by grind [DP,PX]
 subst J;have n:ET d (AN d) r.1∈Aw (AR d):=by
  have H:AR d <+: Aw (AR d):=Pf 257 0 (AR d);exact H.subset (IN.2 ⟨_,hs,rfl⟩)
 have l:∀i,i<(AN d).length->BE (ET d (AN d) r.1) i=true:=λi hi=>by grind [B6,DP,Ar]
 have B:HM (AK d):=gD λy L=>by cases L
 have q:=DQ.2 ⟨_,n,rfl⟩;have u:0<(AK d).length:=AC0 q;have p:=B _ q;obtain⟨b,m,h⟩:=DQ.1 (Ar (d:=c0) u);rw[h]at p;have E:=A7i (a b m).1 (a _ n).1 (λi hi=>l i ((a b m).2 i hi)) p;have D:BO (Bi d) 0=b:=by
  show ((EA (AK d) _ _).getD 0 NK).2.1=b;have:(EA (AK d) (A4 d).1 (AK d).length).getD 0 NK=(((AK d).getD 0 c0).1,((AK d).getD 0 c0).2,Xs (AK d) ((0:Nat):Int),(A4 d).1.getD 0 []):=by
   unfold EA;rw[AS,AAw,ABp u];rfl
  rw[this,h]
 have R:(Bi d).1.length=(AK d).length:=JR _ _ _;intro t v w;refine(BQ hk O1 (by show (0:Int)<((Bi d).1.length:Int);omega) v w).2 λi hi=>?_;show BE (BO (Bi d) 0) i=true;rw[D];refine E i (l i ?_);have C:=Be v w;have F:BO (Bi d) t∈Aw (AR d):=by
  have e:((Bi d).1.map λt=>t.2.1)=(AK d).map λx=>x.2:=by
   show ((EA _ _ _).map λt=>t.2.1)=_;unfold EA;rw[ABa];apply AAx
   .simp
   intro i h1 z;simp[AS,show i<(AK d).length by simpa using h1]
  have o:BO (Bi d) t∈(Bi d).1.map λt=>t.2.1:=C;rw[e]at o;obtain⟨x,K,ex⟩:=IN.1 o;obtain⟨c,f,rfl⟩:=DQ.1 K;rw[<-ex];exact f
 exact(a _ F).2 i hi
theorem Vn (d:List AJ):Nd ((Ab d).1.1.map λt=>t.2.1):=by
 unfold Ab;split
 .exact⟨.nil,λc h=>(by cases h)⟩
 rename_i a;have a:(A4 d).2=0:=GO a;have g:Am d=0:=by
  unfold A4 at a;split at a
  .rename_i h;exact absurd a h
  rename_i h;exact GO h
 obtain⟨m,-,-⟩:=CC g;obtain⟨f,o,-⟩:=BZ m;have hf:Nd (Aw (AR d)):=S6 (Qu f);have e:((Bi d).1.map λt=>t.2.1)=(AK d).map λx=>x.2:=by
  show ((EA _ _ _).map λt=>t.2.1)=_;unfold EA;rw[ABa];apply AAx
  .simp
  intro i h1 n;simp[AS,show i<(AK d).length by simpa using h1]
 show Nd ((Bi d).1.map λt=>t.2.1);rw[e];refine⟨Lt (by simpa using hf.nd),λc k=>?_⟩;obtain⟨x,l,rfl⟩:=IN.1 k;obtain⟨b,j,rfl⟩:=DQ.1 l;exact hf.nrm b j
structure CI (n:Nat) (o:List Int) (ar:List (List (Int×Int))) (W:List (Int×Int)):Prop where
 lo:o.length=n
 la:ar.length=n
 rep:∀k:Nat,k<n->0<=o.getD k 0/\o.getD k 0<=(k:Int)/\o.getD (o.getD k 0).toNat 0=o.getD k 0
 wr:∀w∈W,(0<=w.1/\w.1<(n:Int))/\(0<=w.2/\w.2<(n:Int))
 ta:∀k,∀a∈ar.getD k [],0<=a.2/\a.2<(n:Int)
theorem CI.rng {n:Nat} {o:List Int} {ar:List (List (Int×Int))} (h:CI n o ar l) {x:Int} (c:0<=x) (d:x<(n:Int)):0<=o.getD x.toNat 0/\o.getD x.toNat 0<(n:Int)/\o.getD (o.getD x.toNat 0).toNat 0=o.getD x.toNat 0:=by
 obtain⟨h1,b,a⟩:=h.rep x.toNat O1;exact⟨h1,by omega,a⟩
section
attribute [local go_sem] Uj zY
def IY (b:List Int):List EU->Nat->Int×Bool
 | [],_=>(0,false)
 | t :: r,k=>if t.2.1=b then ((k:Int),true) else IY b r (k+1)
def mC:AW:={ ins:=[FK,BT],pre:=λ_=>True,out:=λ(h,b,_)=>[.p T3 (IY b (h:AE).1 0).1,.p .bool (IY b (h:AE).1 0).2],lend:=true }
attribute [local go_sem] mC
theorem A1e:AY Tryz.prog 180 mC:=by
 refine fK [0,1,2,4,5,6,11,21] Tryz.func180 Tryz.ntmps180 (AF ZT AH) ?_;rintro w0 O0 ⟨⟨l,hf⟩,b,u⟩ d ⟨⟨⟨g,-⟩,-⟩,-⟩ -;simp only[AO]at g;simp only[mC,AL];repeat'(first|exact trivial|apply eS rfl|refine rX d ?_ ?_)
 refine AI (ι:={k:Nat//k<=List.length l/\IY b (List.drop k l) k=IY b l 0}) (λk=>⟨[(1,.p BT b),(2,.bp 2 [] 0),(6,.p (.int .i64) (k.1:Int))],[(2,.box 26 true [.p OW l,.p QC hf])]⟩) (λk=>List.length l-k.1) ⟨0,by simp⟩ (eW [(2,.nm 2)]) (λk=>?_)
 obtain⟨k,hk,a⟩:=k;have f:k<List.length l->(if (List.getD l k NK).2.1=b then ((k:Int),true) else IY b (List.drop (k+1) l) (k+1))=IY b l 0:=λh=>by
  rw[OF h]at a;rw[AS,AT h];exact a
 repeat'(first|exact trivial|apply eS rfl|apply AB|refine rX d ?_ ?_|refine rC ?_ ?_<;>intro c<;>try(cases c;done))
 .exact eV
 .have e:k<List.length l:=by exact eV
  have a:=f e;have c:(List.getD l k NK).2.1=b:=by simpa[Fs] using c
  rw[BY c]at a;exact fI d [.tmp 4,.tmp 5] (by rw[<-a];exact eR)
 .exact eV
 .have e:k<List.length l:=by exact eV
  have a:=f e;have c:¬(List.getD l k NK).2.1=b:=by simpa[Fs] using c
  rw[As c]at a;exact⟨⟨k+1,by omega,a⟩,by simp only;omega,eW [(2,.nm 2)]⟩
 have hk:List.drop k l=[]:=NO (by exact eV);rw[hk]at a;have a:(0,false)=IY b l 0:=a;exact fI d [.tmp 4,.tmp 5] (by rw[<-a];exact eR)
def Cj (h:AE) (a b:Int):Int×Bool:=IY (D5 (BO h a) (BO h b)) h.1 0
def Vo:AW:={ ins:=[FK,T3,T3],pre:=λ(h,a,b,_)=>((0:Int)<=a/\a<(List.length (h:AE).1:Int))/\((0:Int)<=b/\b<(List.length (h:AE).1:Int))/\(∀x∈(h:AE).1,x.2.1.length<=100000),out:=λ(h,a,b,_)=>[.p T3 (Cj h a b).1,.p .bool (Cj h a b).2],lend:=true }
attribute [local go_sem] Vo
theorem A1f:AY Tryz.prog 143 Vo:=by
 refine fK [0,1,2,3,6,7] Tryz.func143 Tryz.ntmps143 (AF A1e (AF kJ AH)) ?_;rintro w0 O0 ⟨⟨c,hf⟩,a,b,u⟩ d-⟨ha,f,h⟩;simp only[Vo,AL];have g:∀x:Int,0<=x/\x<(List.length c:Int)->List.length (BO (c,hf) x)<=100000:=λx h1=>by
  have e:Int.toNat x<List.length c:=(ACe h1.1).2 h1.2;exact h _ (AG (c:List EU) NK e)
 repeat'(first|exact trivial|apply eS rfl|refine rX d ?_ ?_)
 .refine⟨ha,f,?_⟩;exact g a ha
 exact fI d [.tmp 6,.tmp 7] (by unfold Cj BO;exact eR)
end
section
attribute [local go_sem] Vo
def A97 (h:AE) (l:List AD) (c:List Int):Nat->Option (List Int)
 | 0=>some (List.replicate l.length 0)
 | i+1=>match A97 h l c i with
  | none=>none
  | some o=>if (Cj h (o.getD (c.getD i 0).toNat 0) (l.getD i (0,[])).1).2=true then some (o.set (c.getD i 0).toNat (Cj h (o.getD (c.getD i 0).toNat 0) (l.getD i (0,[])).1).1) else none
def A1g (h:AE) (l:List AD) (c:List Int):List Int×Bool:=match A97 h l c l.length with
 | none=>([],false)
 | some o=>((List.range l.length).map λ(k:Nat)=>o.getD (c.getD k 0).toNat 0,true)
def A9Y (n:Nat) (c:List Int):Prop:=c.length=n/\∀k:Nat,k<n->0<=c.getD k 0/\c.getD k 0<=(k:Int)/\c.getD (c.getD k 0).toNat 0=c.getD k 0
def A1h:AW:={ ins:=[FK,JD,Br],pre:=λ(h,l,c,_)=>A9Y (List.length l) c/\Db h l/\0<List.length (h:AE).1/\List.length l<=100000/\(∀x∈(h:AE).1,x.2.1.length<=100000),out:=λ(h,l,c,_)=>[.p Br (A1g h l c).1,.p .bool (A1g h l c).2] }
attribute [local go_sem] A1h
end
inductive EQ (n:Nat) (o:List Int) (W:List (Int×Int)):Int->Int->Prop
 | cls {x y:Int} (x0:0<=x) (x1:x<(n:Int)) (y0:0<=y) (y1:y<(n:Int)) (h:o.getD x.toNat 0=o.getD y.toNat 0):EQ n o W x y
 | wt {x y:Int} (h:(x,y)∈W):EQ n o W x y
 | symm {x y:Int} (h:EQ n o W x y):EQ n o W y x
 | trans {x y z:Int} (h:EQ n o W x y) (g:EQ n o W y z):EQ n o W x z
theorem EQ.mono {n:Nat} {o b:List Int} {a:List (Int×Int)} (h1:∀x y,0<=x->x<(n:Int)->0<=y->y<(n:Int)->o.getD x.toNat 0=o.getD y.toNat 0->EQ n b a x y) (c:∀x y,(x,y)∈l->EQ n b a x y) {x y:Int} (h:EQ n o l x y):EQ n b a x y:=by
 induction h with
 | cls g i j k h=>exact h1 _ _ g i j k h
 | wt h=>exact c _ _ h
 | symm _ d=>exact .symm d
 | trans _ _ e f=>exact .trans e f
theorem EQ.nil {n:Nat} {o:List Int} {x y:Int} (h:EQ n o [] x y):o.getD x.toNat 0=o.getD y.toNat 0:=by
 induction h with
 | cls _ _ _ _ h=>exact h
 | wt h=>cases h
 | symm _ a=>exact a.symm
 | trans _ _ b c=>exact b.trans c
def mD (h:AE):Prop:=∀t∈h.1,Nrm t.2.1
theorem Vp {b:List Int}:∀ {l:List EU} {k:Nat},(IY b l k).2=true->∃j:Nat,j<l.length/\(IY b l k).1=((k+j:Nat):Int)/\(l.getD j NK).2.1=b
 | [],k,h=>by cases h
 | t :: r,k,h=>by
  unfold IY at h ⊢;by_cases e:t.2.1=b
  .rw[BY e];exact⟨0,by simp,by simp,by simpa using e⟩
  rw[As e]at h ⊢;obtain⟨j,h1,a,c⟩:=Vp h;exact⟨j+1,by simp only[IS];omega,by rw[a];congr 1;omega,by simpa using c⟩
theorem gF {b:List Int}:∀ {l:List EU} {k:Nat},(∃t∈l,t.2.1=b)->(IY b l k).2=true
 | [],k,⟨t,c,_⟩=>by cases c
 | t :: r,k,⟨u,hu,e⟩=>by
  unfold IY;by_cases a:t.2.1=b
  .rw[BY a]
  rw[As a];rcases DO.1 hu with rfl|hu
  .exact absurd e a
  exact gF ⟨u,hu,e⟩
theorem uY (hk:Fd h) (hn:mD h) {a:Int} (g:0<=a) (k:a<(h.1.length:Int)) (l:0<=b) (b1:b<(h.1.length:Int)) :
  ((Cj h a b).2=true->0<=(Cj h a b).1/\(Cj h a b).1<(h.1.length:Int)/\∀i,eY h (Cj h a b).1 i=(eY h a i&&eY h b i))/\((∃i,eY h a i=true/\eY h b i=true)->(Cj h a b).2=true):=by
 have d:=hk.1.wds _ (Be g k);have f:=hk.1.wds _ (Be l b1);refine⟨λp=>?_,λhi=>?_⟩
 .obtain⟨j,h1,c,o⟩:=Vp p;have c:(Cj h a b).1=((0+j:Nat):Int):=c;refine⟨by omega,by omega,λi=>?_⟩;have e:BO h (Cj h a b).1=D5 (BO h a) (BO h b):=by
   rw[<-o];unfold BO;rw[c];simp
  unfold eY;rw[e,KH d f]
 obtain⟨t,m,e⟩:=hk.1.meet _ (Be g k) _ (Be l b1) hi;obtain⟨x,n,rfl⟩:=IN.1 m;exact gF ⟨x,n,Zr (hk.1.wds _ m) (Mj d f) (hn x n) (KI _) λi=>by rw[e i,KH d f]⟩
theorem HP (hk:Fd h) (hn:mD h) {a:Int} (l:0<=a) (m:a<(h.1.length:Int)) (n:0<=b) (b1:b<(h.1.length:Int)) :
  ((Cj h a b).2=true->0<=(Cj h a b).1/\(Cj h a b).1<(h.1.length:Int)/\Aa h a (Cj h a b).1=true/\Aa h b (Cj h a b).1=true) /\
  ∀x,0<=x->x<(h.1.length:Int)->Aa h a x=true->Aa h b x=true->(Cj h a b).2=true/\Aa h (Cj h a b).1 x=true:=by
 obtain⟨r,u⟩:=uY hk hn l m n b1;refine⟨λe=>?_,λx g k s t=>?_⟩
 .obtain⟨c,d,f⟩:=r e;refine⟨c,d,(BQ hk l m c d).2 λi hi=>?_,(BQ hk n b1 c d).2 λi hi=>?_⟩
  .rw[f i,An]at hi;exact hi.1
  rw[f i,An]at hi;exact hi.2
 have o:=(BQ hk l m g k).1 s;have p:=(BQ hk n b1 g k).1 t;obtain⟨i,hi⟩:=hk.1.some _ (Be g k);have e:=u ⟨i,o i hi,p i hi⟩;obtain⟨c,d,f⟩:=r e;refine⟨e,(BQ hk c d g k).2 λj q=>?_⟩;rw[f j,An];exact⟨o j q,p j q⟩
section
variable {d:List AJ}
theorem JY (d:List AJ):((Bi d).1.map λt=>t.2.1)=(AK d).map λx=>x.2:=by
 show ((EA _ _ _).map λt=>t.2.1)=_;unfold EA;rw[ABa];apply AAx
 .simp
 intro i h1 a;simp[AS,show i<(AK d).length by simpa using h1]
theorem Vq (d:List AJ):(Bi d).1.length=(AK d).length:=JR _ _ _
theorem mE (d:List AJ) (hk:k<(AK d).length):(Bi d).1.getD k NK=(((AK d).getD k c0).1,((AK d).getD k c0).2,Xs (AK d) (k:Int),(A4 d).1.getD k []):=by
 unfold Bi EA;simp[AS,hk]
theorem Mr (d:List AJ) {t:Int} (a:0<=t) (b:t<((AK d).length:Int)):BO (Bi d) t=((AK d).getD t.toNat c0).2:=by
 unfold BO;rw[mE d O1]
theorem gG (a:Am d=0):(A4 d).2=0/\(A4 d).1=JQ d (AK d) (BG d) (AK d).length:=by
 unfold A4;rw[As (by rw[a];simp)];exact⟨rfl,rfl⟩
theorem KQ (a:Am d=0):(Ab d).1=Bi d:=by
 unfold Ab;rw[As (by rw[(gG a).1];simp)]
theorem A5P (b:Am d=0):Fd (Bi d)/\Nd ((Bi d).1.map λt=>t.2.1):=by
 have h1:=Ge d;have a:=Vn d;rw[KQ b]at h1 a;exact⟨h1,a⟩
theorem L6 (a:Am d=0):(Bi d).2=(BG d).map (Lq d):=by
 unfold Bi DC;rw[As (by rw[a];simp)]
theorem A1i (a:Am d=0) {t:Int} (b:0<=t) (c:t<((AK d).length:Int)):Zs (Bi d) t=SV d (AK d) (BG d) t.toNat (BG d).length:=by
 unfold Zs;rw[mE d O1];show (A4 d).1.getD t.toNat []=_;rw[(gG a).2];unfold JQ;simp[AS,show t.toNat<(AK d).length by omega]
theorem Vr (a:Am d=0):A7 d=0/\(B8 d).1=AK d/\KE d=0/\(∀s∈BG d,(DR d s).2=true)/\Hr d (AK d) (BG d) (AK d).length=false:=by
 obtain⟨b,-,f⟩:=CC a;obtain⟨e,-,c⟩:=BZ b;refine⟨e,c,f,?_,?_⟩
 .unfold Am at a;split at a
  .rename_i h;exact absurd b h
  split at a
  .cases a
  split at a
  .rename_i h;exact absurd a h
  split at a
  .cases a
  rename_i h;exact ON.1 (by simpa using h)
 unfold Am at a;split at a
 .rename_i h;exact absurd b h
 split at a
 .cases a
 split at a
 .rename_i h;exact absurd a h
 split at a
 .cases a
 split at a
 .cases a
 rename_i h;rw[c]at h;simpa using h
def Cd (l:List (List Int)) (c:List Int):Prop:=c=[]\/c∈l
theorem A1j {l:List (List Int)} (hk:IR l) {c:List Int} (h:Cd l c):Hn c:=by
 rcases h with rfl|h
 .exact λx a=>by cases a
 exact hk.wds c h
theorem A7l {l:List (List Int)} (hk:IR l) (hn:Nd l) {a b:List Int} (ha:Cd l a) (j:b∈l):Cd l (D5 a b):=by
 have f:=A1j hk ha;have g:=hk.wds b j;have m:Nrm (D5 a b):=by unfold D5;exact KI _
 have k:=λi=>KH f g i;by_cases hi:∃i,BE a i=true/\BE b i=true
 .rcases ha with rfl|ha
  .obtain⟨i,h1,-⟩:=hi;unfold BE at h1;simp at h1
  obtain⟨t,d,e⟩:=hk.meet a ha b j hi;right;rw[Zr (Mj f g) (hk.wds t d) m (hn.nrm t d) λi=>by rw[k,e]];exact d
 left;refine GO λn=>?_;unfold D5 at n;have o:Hn (D5 a b):=Mj f g;have:∃i,BE (D5 a b) i=true:=by
  have c:=m;rcases c with c|c
  .exact absurd (AAa c) n
  exact eX o c
 obtain⟨i,h⟩:=this;rw[k,An]at h;exact hi ⟨i,h⟩
def UsD (d:List AJ) (t:Int) (s:ByteArray) (x:AJ):Prop:=(C8 x s).2=true/\Aa (Bi d) (BH (AK d) x.1) t=true
def vcD (d:List AJ) (s:ByteArray) (x:AJ):List Int:=((AK d).getD (BH (AK d) (C8 x s).1).toNat c0).2
theorem TJ (hn:lB d (AK d)) {x:AJ} (a:x∈d):0<=BH (AK d) x.1/\BH (AK d) x.1<((AK d).length:Int):=⟨hn.1 x a,Hq _ _⟩
theorem A1k (hn:lB d (AK d)) {x:AJ} (b:x∈d) (a:(C8 x s).2=true):0<=BH (AK d) (C8 x s).1/\BH (AK d) (C8 x s).1<((AK d).length:Int):=⟨hn.value b a,Hq _ _⟩
theorem pV (d:List AJ) {k:Int} (a:0<=k) (b:k<((AK d).length:Int)):((AK d).getD k.toNat c0).2∈(AK d).map λx=>x.2:=IN.2 ⟨_,Ar O1,rfl⟩
theorem uZ (hk:Fd (Bi d)) {a t:Int} (b:0<=a) (g:a<((AK d).length:Int)) (c:0<=t) (h:t<((AK d).length:Int)):Kg (AK d) a t=Aa (Bi d) a t:=by
 have j:=Vq d;have e:a<((Bi d).1.length:Int):=by omega
 have f:t<((Bi d).1.length:Int):=by omega
 have i:=hk.1.wds _ (Be b e);have wt:=hk.1.wds _ (Be c f);rw[ABB];unfold Kg;rw[<-Mr d b g,<-Mr d c h,E8 wt i];exact(BQ hk b e c f).symm
theorem aA (hk:Fd (Bi d)) (h:Nd ((Bi d).1.map λt=>t.2.1)) (hn:lB d (AK d)) {t:Int} (p:0<=t) (q:t<((AK d).length:Int)) (s:ByteArray):∀(r:List AJ) (o:List Int×Bool),(∀x∈r,x∈d)->Cd ((AK d).map λx=>x.2) o.1 ->
  Cd ((AK d).map λx=>x.2) (r.foldl (JP (AK d) t s) o).1/\((r.foldl (JP (AK d) t s) o).2=true↔o.2=true\/∃x∈r,UsD d t s x)/\∀i,BE (r.foldl (JP (AK d) t s) o).1 i=true↔BE o.1 i=true/\∀x∈r,UsD d t s x->BE (vcD d s x) i=true
 | [],o,_,g=>⟨g,by simp,λi=>by simp⟩
 | x :: r,o,n,g=>by
  rw[JY]at h;have m:IR ((AK d).map λx=>x.2):=by have:=hk.1;rwa [JY]at this
  have w:=n x sc;obtain⟨n0,n1⟩:=TJ hn w;have u:=uZ hk n0 n1 p q;rw[OS];by_cases hu:UsD d t s x
  .obtain⟨v0,v1⟩:=A1k hn w hu.1;have e:JP (AK d) t s o x=(D5 o.1 (vcD d s x),true):=by
    unfold JP;rw[As]
    .rfl
    rw[hu.1,u,hu.2];simp
   have v:vcD d s x∈(AK d).map λx=>x.2:=pV d v0 v1;obtain⟨h1,k,l⟩:=aA hk (by rw[JY];exact h) hn p q s r (JP (AK d) t s o x) (λy f=>n y (by simp[f])) (by rw[e];exact A7l m h g v);refine⟨h1,?_,λi=>?_⟩
   .rw[k,e];exact⟨λ_=>.inr ⟨x,by simp,hu⟩,λ_=>.inl rfl⟩
   rw[l,e];simp only;rw[KH (A1j m g) (m.wds _ v),An];constructor
   .rintro⟨⟨a,b⟩,c⟩;refine⟨a,λy f j=>?_⟩;rcases DO.1 f with rfl|f
    .exact b
    exact c y f j
   rintro⟨a,b⟩;exact⟨⟨a,b x sc hu⟩,λy f=>b y (by simp[f])⟩
  have e:JP (AK d) t s o x=o:=by
   unfold JP;rw[BY];rw[u];unfold UsD at hu;cases h1:(C8 x s).2 with
   | false=>simp
   | true =>
    rw[h1]at hu;have:Aa (Bi d) (BH (AK d) x.1) t=false:=by simpa using hu
    rw[this];simp
  obtain⟨h1,k,l⟩:=aA hk (by rw[JY];exact h) hn p q s r (JP (AK d) t s o x) (λy f=>n y (by simp[f])) (by rw[e];exact g);refine⟨h1,?_,λi=>?_⟩
  .rw[k,e];constructor
   .rintro (a|⟨y,f,a⟩)
    .exact .inl a
    exact .inr ⟨y,by simp[f],a⟩
   rintro (a|⟨y,f,a⟩)
   .exact .inl a
   rcases DO.1 f with rfl|f
   .exact absurd a hu
   exact .inr ⟨y,f,a⟩
  rw[l,e];constructor
  .rintro⟨a,b⟩;refine⟨a,λy f j=>?_⟩;rcases DO.1 f with rfl|f
   .exact absurd j hu
   exact b y f j
  rintro⟨a,b⟩;exact⟨a,λy f=>b y (by simp[f])⟩
theorem Vs {b:List Int}:∀ {l:List AQ} {k:Nat},(∃x∈l,x.2=b)->∃j:Nat,j<l.length/\PR b k l=((k+j:Nat):Int)/\(l.getD j c0).2=b
 | [],k,⟨x,a,_⟩=>by cases a
 | y :: l,k,⟨x,a,e⟩=>by
  unfold PR;by_cases h:Fs y.2 b=true
  .rw[BY h];exact⟨0,by simp,rfl,by simpa[Fs] using h⟩
  rw[As h];rcases DO.1 a with rfl|a
  .exact absurd (by simpa[Fs] using e) h
  obtain⟨j,h1,c,d⟩:=Vs (k:=k+1) ⟨x,a,e⟩;exact⟨j+1,by simp only[IS];omega,by rw[c];congr 1;omega,by simpa using d⟩
theorem mF {b:List Int} (h:Nrm b):BN b=b:=by
 unfold BN;have:CY b b.length=b.length:=by
  rcases h with h|h
  .rw[h];rfl
  cases e:b.length with
  | zero=>rfl
  | succ m =>
   rw[e]at h;show (if b.getD m 0=0 then CY b m else m+1)=m+1;rw[As (by simpa using h)]
 rw[this,oF]
theorem Py (b:Am d=0) {t:Int} (z:0<=t) (J:t<((AK d).length:Int)) (hs:s∈BG d) :
  ((E7 d (AK d) t s).2=true↔∃x∈d,UsD d t s x)/\((E7 d (AK d) t s).2=true->(0<=Gp (AK d) (E7 d (AK d) t s).1/\Gp (AK d) (E7 d (AK d) t s).1<((AK d).length:Int)) /\
   ∀i,BE (BO (Bi d) (Gp (AK d) (E7 d (AK d) t s).1)) i=true↔∀x∈d,UsD d t s x->BE (vcD d s x) i=true):=by
 obtain⟨n,-,D,-,u⟩:=Vr b;obtain⟨hk,p⟩:=A5P b;have hn:=Pc n D;have L:=o4 n;have r:=gE d;rw[KQ b]at r;have K:IR ((AK d).map λx=>x.2):=by have:=hk.1;rwa [JY]at this
 have q:=p;rw[JY]at q;have A:=pV d (ABf 0) (by omega:(0:Int)<((AK d).length:Int));obtain⟨g,a,m⟩:=aA hk p hn z J s d (((AK d).getD 0 c0).2,false) (λx f=>f) (.inr A);have e:E7 d (AK d) t s=d.foldl (JP (AK d) t s) (((AK d).getD 0 c0).2,false):=rfl;rw[<-e]at g a m;refine⟨by rw[a];simp,λhu=>?_⟩;have E:(E7 d (AK d) t s).1≠[]:=by
  intro G;have h1:KG d (AK d) t.toNat s=true:=by
   unfold KG;rw[AB6 z,hu,G];rfl
  have B:Hr d (AK d) (BG d) (AK d).length=true:=by
   unfold Hr;refine To.2 ⟨t.toNat,tO.2 O1,?_⟩;unfold Zl;exact To.2 ⟨s,hs,h1⟩
  rw[B]at u;cases u
 have o:(E7 d (AK d) t s).1∈(AK d).map λx=>x.2:=g.resolve_left E;obtain⟨x,f,ex⟩:=IN.1 o;obtain⟨j,M,H,I⟩:=Vs (l:=AK d) (k:=0) ⟨x,f,ex⟩;have hf:Gp (AK d) (E7 d (AK d) t s).1=(j:Int):=by
  unfold Gp;rw[mF (q.nrm _ o),H];simp
 rw[hf];refine⟨⟨AAh _,by omega⟩,λi=>?_⟩;rw[Mr d (AAh _) O1,iN,I,m];constructor
 .exact λh=>h.2
 intro h;refine⟨?_,h⟩;obtain⟨y,v,w⟩:=(a.1 hu).resolve_left sc;obtain⟨v0,v1⟩:=A1k hn v w.1;have C:=h y v w;have c:=Vq d;have F:=r _ v0 (by rw[c];exact v1);have:=(BQ hk (ABf 0) (by rw[c];omega) v0 (by rw[c];exact v1)).1 F i;unfold eY at this;rw[Mr d (ABf 0) O1,Mr d v0 v1]at this;exact this C
theorem Q9 {s:ByteArray}:∀ {r:List AJ} {o:List ByteArray} {y:ByteArray},y∈r.foldl (Gv s) o->y∈o\/∃x∈r,x.1=y/\(C8 x s).2=true
 | [],_,_,h=>.inl h
 | x :: r,o,y,h=>by
  rw[OS]at h;rcases Q9 h with h|⟨z,b,h⟩
  .unfold Gv at h;split at h
   .rename_i a;rcases Fa h with h|h
    .exact .inl h
    exact .inr ⟨x,by simp,h.symm,a⟩
   exact .inl h
  exact .inr ⟨z,by simp[b],h⟩
theorem Vt (h:(DR d s).2=true):∃x∈d,x.1=(DR d s).1/\(C8 x s).2=true:=by
 unfold DR at h ⊢;split
 .rename_i h1;have a:(A3 d (E6 d s)).getD 0 ByteArray.empty∈A3 d (E6 d s):=Ar O1;exact(Q9 (G9 a)).resolve_left sc
 rename_i h1;rw[As h1]at h;cases h
theorem mG (d:List AJ):bD (Ab d).1:=by
 by_cases a:Am d=0
 .rw[KQ a];obtain⟨l,-,m,n,-⟩:=Vr a;have hn:=Pc l m;have h:=Vq d;refine⟨λx b=>?_,λt g p c=>?_⟩
  .rw[L6 a]at b;obtain⟨s,hs,rfl⟩:=IN.1 b;obtain⟨y,o,e,-⟩:=Vt (n s hs);rw[h];show 0<=BH (AK d) (DR d s).1/\BH (AK d) (DR d s).1<((AK d).length:Int);rw[<-e];exact TJ hn o
  obtain⟨k,hk,e⟩:=B7 NK g;rw[h]at hk ⊢;have f:=A1i a (t:=(k:Int)) (AAh _) O1;unfold Zs at f;rw[iN,e]at f;rw[f]at c;unfold SV at c;obtain⟨i,hi,rfl⟩:=IN.1 c;obtain⟨h1,j⟩:=AAW.1 hi;have h1:=tO.1 h1;exact((Py a (t:=(k:Int)) (AAh _) O1 (Ar h1)).2 j).1
 have:(Ab d).1=([],[]):=by
  unfold Ab A4;rw[BY a,BY a]
 rw[this];exact⟨λx b=>(by cases b),λt g=>(by cases g)⟩
end
structure HAp (h:AE):Prop where
 iff:∀t f,0<=t->t<(h.1.length:Int)->0<=f->f<(h.2.length:Int)->((Bx h t f).2=true↔Aa h (JU h f) t=true)
 mono:∀t t' f,0<=t->t<(h.1.length:Int)->0<=t'->t'<(h.1.length:Int)->0<=f->f<(h.2.length:Int)->Aa h t t'=true->(Bx h t f).2=true->Aa h (Bx h t f).1 (Bx h t' f).1=true
def Gl (h:AE) (m:Nat) (u:List Int):Prop:=u.length=m/\∀t∈u,0<=t/\t<(h.1.length:Int)
theorem Gl.get {m:Nat} {u:List Int} (hu:Gl h m u) {n:Nat} (n1:n<m):0<=u.getD n 0/\u.getD n 0<(h.1.length:Int):=by
 have a:n<u.length:=by rw[hu.1];exact n1
 rw[AS,AT a];exact hu.2 _ (AAm a)
theorem M3.tyl {m:Nat} {s:D6} (hs:M3 h m s):Gl h m s.1:=⟨hs.len,hs.ty⟩
def FL (h:AE) (m:Nat) (u v:List Int):Prop:=∀i,i<m->Aa h (u.getD i 0) (v.getD i 0)=true
def Vu (h:AE) (u:List Int) (n:Int) (l:List (Int×Int)):Prop:=∀a∈l,(Bx h (u.getD n.toNat 0) a.1).2=true/\Aa h (Bx h (u.getD n.toNat 0) a.1).1 (u.getD a.2.toNat 0)=true
def v8 (h:AE) (f:List AD) (u:List Int):Prop:=∀i,i<f.length->Vu h u (i:Int) (f.getD i (0,[])).2
theorem FL.refl (hk:Fd h) {m:Nat} {u:List Int} (hu:Gl h m u):FL h m u u:=λi hi=>TA hk (hu.get hi).1 (hu.get hi).2
theorem FL.trans (hk:Fd h) {m:Nat} {u w:List Int} (hu:Gl h m u) (a:Gl h m v) (b:Gl h m w) (h1:FL h m u v) (c:FL h m v w):FL h m u w:=λi hi =>
 Ff hk (hu.get hi).1 (hu.get hi).2 (a.get hi).1 (a.get hi).2 (b.get hi).1 (b.get hi).2 (h1 i hi) (c i hi)
theorem FL.anti (hi:HA h) {m:Nat} {u:List Int} (hu:Gl h m u) (b:Gl h m v) (h1:FL h m u v) (d:FL h m v u):u=v:=by
 refine AAx (by rw[hu.1,b.1]) λi c e=>?_;have a:i<m:=by rw[<-hu.1];exact c
 have:=hi _ _ (hu.get a).1 (hu.get a).2 (b.get a).1 (b.get a).2 (h1 i a) (d i a)
 rwa [AS,AT c,AS,AT e]at this
structure pW (h:AE) (m:Nat) (s s':D6):Prop where
 up:FL h m s.1 s'.1
 pre:s.2 <+: s'.2
 ch:∀k:Nat,k<m->s'.1.getD k 0=s.1.getD k 0\/(k:Int)∈s'.2.drop s.2.length
theorem pW.refl (hk:Fd h) {m:Nat} {s:D6} (hs:M3 h m s):pW h m s s:=⟨FL.refl hk hs.tyl,AB2 _,λ_ _=>.inl rfl⟩
theorem RB {l l':List Int} (a:l <+: l') {n:Nat} {x:Int} (h:x∈l.drop n):x∈l'.drop n:=by
 obtain⟨r,rfl⟩:=a;rw[ACJ];exact AA2 _ h
theorem Pz {l:List Int} {a b:Nat} (c:a<=b) {x:Int} (h:x∈l.drop b):x∈l.drop a:=by
 have:l.drop b=(l.drop a).drop (b-a):=by rw[ABO];congr 1;omega
 rw[this]at h;exact ABg h
theorem pW.trans (hk:Fd h) {m:Nat} {a b c:D6} (ha:M3 h m a) (i:M3 h m b) (j:M3 h m c) (h1:pW h m a b) (d:pW h m b c):pW h m a c:=by
 refine⟨h1.up.trans hk ha.tyl i.tyl j.tyl d.up,h1.pre.trans d.pre,λk g=>?_⟩;rcases d.ch k g with f|f
 .rcases h1.ch k g with e|e
  .exact .inl (f.trans e)
  exact .inr (RB d.pre e)
 exact .inr (Pz h1.pre.length_le f)
theorem RC (hk:Fd h) (hi:HA h) {m:Nat} {s c:D6} (hs:M3 h m s) {t:Int} (n0:0<=n) (n1:n<(m:Int)) (f:0<=t) (g:t<(h.1.length:Int)) (e:C9 h s n t=some c) :
  pW h m s c/\Aa h t (c.1.getD n.toNat 0)=true:=by
 have r:=(Ee hk hi hs n0 n1 f g e).1;obtain⟨i,j⟩:=hs.get n0 n1;unfold C9 at e;split at e
 .rename_i o;obtain⟨u,w,q,d⟩:=(Ls hk i j f g).1 o;generalize (Cn h (s.1.getD n.toNat 0) t).1=v at *;injection e with e
  split at e
  .rename_i p;subst e;exact⟨pW.refl hk hs,by rw[<-p];exact d⟩
  subst e;have l:n.toNat<s.1.length:=by rw[hs.len];omega
  have a:∀k:Nat,(s.1.set n.toNat v).getD k 0=if k=n.toNat then v else s.1.getD k 0:=λk=>GJ _ _ _ l k
  refine⟨⟨λk b=>?_,ACt _ _,λk b=>?_⟩,?_⟩
  .simp only;rw[a];split
   .rename_i e;rw[e];exact q
   exact TA hk (hs.tyl.get b).1 (hs.tyl.get b).2
  .simp only;rw[a];split
   .rename_i e;right;rw[ACJ,AB7,AAD];exact AAI _ (by simp;omega)
   exact .inl rfl
  simp only;rw[a,BY rfl];exact d
 cases e
theorem YQ (hk:Fd h) (hi:HA h) {m:Nat} {s:D6} (hs:M3 h m s) {t:Int} (n0:0<=n) (n1:n<(m:Int)) (p:0<=t) (q:t<(h.1.length:Int)) {u:List Int} (hu:Gl h m u) (a:FL h m s.1 u) (j:Aa h t (u.getD n.toNat 0)=true) :
  ∃c,C9 h s n t=some c/\FL h m c.1 u:=by
 obtain⟨d,f⟩:=hs.get n0 n1;have b:n.toNat<m:=by omega
 obtain⟨r,v⟩:=hu.get b;obtain⟨l,o⟩:=(Ls hk d f p q).2 _ r v (a _ b) j;unfold C9;rw[BY l];refine⟨_,rfl,?_⟩;split
 .exact a
 intro k g;have i:n.toNat<s.1.length:=by rw[hs.len];omega
 simp only;rw[GJ _ _ _ i k];split
 .rename_i e;rw[e];exact o
 exact a k g
section
variable {h:AE} (hk:Fd h) (hi:HA h) (hf:bD h) (hap:HAp h) {m:Nat} {n:Int} (n0:0<=n) (n1:n<(m:Int))
include hk hi hf n0 n1
theorem aB:∀ {l:List (Int×Int)} {s c:D6},(∀a∈l,FJ h m a)->M3 h m s->Lw h n l s=some c->pW h m s c/\∀a∈l,Aa h (JU h a.1) (c.1.getD n.toNat 0)=true
 | [],s,c,_,hs,e=>by
  injection e with e
  subst e;exact⟨pW.refl hk hs,λa ha=>by cases ha⟩
 | a :: l,s,c,o,hs,e=>by
  unfold Lw at e;cases g:C9 h s n (JU h a.1) with
  | none=>rw[g]at e;cases e
  | some s1 =>
   rw[g]at e;obtain⟨⟨r,t⟩,-⟩:=o a sc;obtain⟨j,k⟩:=Gh hf r t;obtain⟨d,-,-⟩:=Ee hk hi hs n0 n1 j k g;obtain⟨v,w⟩:=RC hk hi hs n0 n1 j k g;have p:∀b∈l,FJ h m b:=λb f=>o b (IF _ f);have e:Lw h n l s1=some c:=e;obtain⟨q,u⟩:=aB p d e;have i:=(Po hk hi hf n0 n1 p d e).1;refine⟨v.trans hk hs d i q,λb f=>?_⟩;rcases DO.1 f with rfl|f
   .exact Ff hk j k (d.get n0 n1).1 (d.get n0 n1).2 (i.get n0 n1).1 (i.get n0 n1).2 w (q.up _ O1)
   exact u b f
theorem pX:∀ {l:List (Int×Int)} {s c:D6},(∀a∈l,FJ h m a)->M3 h m s->M2 h n l s=some c->pW h m s c/\(n∈c.2.drop s.2.length\/(c.1.getD n.toNat 0=s.1.getD n.toNat 0/\∀a∈l,(Bx h (s.1.getD n.toNat 0) a.1).2=true/\Aa h (Bx h (s.1.getD n.toNat 0) a.1).1 (c.1.getD a.2.toNat 0)=true))
 | [],s,c,_,hs,e=>by
  injection e with e
  subst e;exact⟨pW.refl hk hs,.inr ⟨rfl,λa ha=>by cases ha⟩⟩
 | a :: l,s,c,t,hs,e=>by
  unfold M2 at e;split at e
  .rename_i v;obtain⟨w,x⟩:=hs.get n0 n1;obtain⟨o,p⟩:=Ez hf w x v;cases j:C9 h s a.2 (Bx h (s.1.getD n.toNat 0) a.1).1 with
   | none=>rw[j]at e;cases e
   | some s1 =>
    rw[j]at e;obtain⟨-,d,b1⟩:=t a sc;obtain⟨g,-,-⟩:=Ee hk hi hs d b1 o p j;obtain⟨r,A⟩:=RC hk hi hs d b1 o p j;have u:∀b∈l,FJ h m b:=λb f=>t b (IF _ f);have e:M2 h n l s1=some c:=e;obtain⟨q,i⟩:=pX u g e;have k:=(TB hk hi hf n0 n1 u g e).1;refine⟨r.trans hk hs g k q,?_⟩;have y:((n.toNat:Nat):Int)=n:=AB6 n0;rcases r.ch n.toNat O1 with c1|c1
    .rcases i with i|⟨i,z⟩
     .exact .inl (Pz r.pre.length_le i)
     refine .inr ⟨i.trans c1,λb f=>?_⟩;rcases DO.1 f with rfl|f
     .exact⟨v,Ff hk o p (g.get d b1).1 (g.get d b1).2 (k.get d b1).1 (k.get d b1).2 A (q.up _ O1)⟩
     have:=z b f
     rwa [c1]at this
    rw[y]at c1;exact .inl (RB q.pre c1)
  cases e
include hap
theorem pY {u:List Int} (hu:Gl h m u):∀ {l:List (Int×Int)} {s:D6},(∀a∈l,FJ h m a)->M3 h m s->FL h m s.1 u->(∀a∈l,(Bx h (u.getD n.toNat 0) a.1).2=true)->∃c,Lw h n l s=some c/\FL h m c.1 u
 | [],s,_,_,e,_=>⟨s,rfl,e⟩
 | a :: l,s,j,hs,e,k=>by
  obtain⟨⟨f,g⟩,-⟩:=j a sc;obtain⟨o,p⟩:=Gh hf f g;obtain⟨v,w⟩:=hu.get (show n.toNat<m by omega);obtain⟨s1,i,h1⟩:=YQ hk hi hs n0 n1 o p hu e ((hap.iff _ _ v w f g).1 (k a sc));obtain⟨r,-,-⟩:=Ee hk hi hs n0 n1 o p i;obtain⟨c,q,t⟩:=pY hu (λb d=>j b (IF _ d)) r h1 λb d=>k b (IF _ d);exact⟨c,by unfold Lw;rw[i];exact q,t⟩
theorem pZ {u:List Int} (hu:Gl h m u):∀ {l:List (Int×Int)} {s:D6},(∀a∈l,FJ h m a)->M3 h m s->FL h m s.1 u->(∀a∈l,Aa h (JU h a.1) (s.1.getD n.toNat 0)=true)->Vu h u n l->∃j,M2 h n l s=some j/\FL h m j.1 u
 | [],s,_,_,f,_,_=>⟨s,rfl,f⟩
 | a :: l,s,p,hs,f,y,z=>by
  obtain⟨⟨v,w⟩,k,b1⟩:=p a sc;obtain⟨d,e⟩:=hs.get n0 n1;have q:n.toNat<m:=by omega
  have x:a.2.toNat<m:=by omega
  obtain⟨A,B⟩:=hu.get q;have r:=(hap.iff _ _ d e v w).2 (y a sc);obtain⟨g,i⟩:=Ez hf d e r;obtain⟨I,J⟩:=z a sc;obtain⟨v0,v1⟩:=Ez hf A B I;have E:=hap.mono _ _ a.1 d e A B v w (f _ q) r;obtain⟨s1,o,h1⟩:=YQ hk hi hs k b1 g i hu f (Ff hk g i v0 v1 (hu.get x).1 (hu.get x).2 E J);obtain⟨t,-,-⟩:=Ee hk hi hs k b1 g i o;obtain⟨H,-⟩:=RC hk hi hs k b1 g i o;obtain⟨j,C,D⟩:=pZ hu (λb c=>p b (IF _ c)) t h1 (λb c=>by
   obtain⟨⟨c0,c1⟩,-⟩:=p b (IF _ c);obtain⟨F,G⟩:=Gh hf c0 c1;exact Ff hk F G d e (t.get n0 n1).1 (t.get n0 n1).2 (y b (IF _ c)) (H.up _ q)) λb c=>z b (IF _ c)
  exact⟨j,by unfold M2;rw[BY r,o];exact C,D⟩
end
section
variable {h:AE} (hk:Fd h) (hi:HA h) (hf:bD h) (hap:HAp h) {f:List AD} (ha:Lx h f)
include hk hi hf hap ha
theorem A1l (n0:0<=n) (n1:n<(f.length:Int)) {s c:D6} (hs:M3 h f.length s) (e:Ko h f n s=some c):pW h f.length s c/\(n∈c.2.drop s.2.length\/Vu h c.1 n (f.getD n.toNat (0,[])).2):=by
 have _:=hap;have g:=Ly ha n0 n1;unfold Ko at e;cases d:Lw h n (f.getD n.toNat (0,[])).2 s with
 | none=>rw[d]at e;cases e
 | some s1 =>
  rw[d]at e;have i:=(Po hk hi hf n0 n1 g hs d).1;obtain⟨j,-⟩:=aB hk hi hf n0 n1 g hs d;have e:M2 h n (f.getD n.toNat (0,[])).2 s1=some c:=e;have k:=(TB hk hi hf n0 n1 g i e).1;obtain⟨l,b⟩:=pX hk hi hf n0 n1 g i e;refine⟨j.trans hk hs i k l,?_⟩;rcases b with b|⟨b,m⟩
  .exact .inl (Pz j.pre.length_le b)
  refine .inr λa ha=>?_;rw[b];exact m a ha
theorem A1m (n0:0<=n) (n1:n<(f.length:Int)) {s:D6} (hs:M3 h f.length s) {u:List Int} (hu:Gl h f.length u) (d:Vu h u n (f.getD n.toNat (0,[])).2) (j:FL h f.length s.1 u):∃e,Ko h f n s=some e/\FL h f.length e.1 u:=by
 have b:=Ly ha n0 n1;obtain⟨s1,c,h1⟩:=pY hk hi hf hap n0 n1 hu b hs j λa ha=>(d a ha).1;have k:=(Po hk hi hf n0 n1 b hs c).1;obtain⟨-,l⟩:=aB hk hi hf n0 n1 b hs c;obtain⟨s2,g,i⟩:=pZ hk hi hf hap n0 n1 hu b k h1 l d;exact⟨s2,by unfold Ko;rw[c];exact g,i⟩
def A98 (h:AE) (f:List AD) (i:Nat) (s:D6):Prop:=∀n:Nat,n<f.length->Vu h s.1 (n:Int) (f.getD n (0,[])).2\/(n:Int)∈s.2.drop i
theorem A4n {n:Nat} (hn:n<f.length) {s:D6} (hs:M3 h f.length s) (i:M3 h f.length d) (j:pW h f.length s d) (p:Vu h s.1 (n:Int) (f.getD n (0,[])).2):Vu h d.1 (n:Int) (f.getD n (0,[])).2\/(n:Int)∈d.2.drop s.2.length:=by
 have _:=hap;have _:=hi;have o:∀a∈(f.getD n (0,[])).2,FJ h f.length a:=ha _ (AG f (0,[]) hn);rcases j.ch n hn with c|c
 .left;intro a g;obtain⟨e,k⟩:=p a g;obtain⟨-,b,b1⟩:=o a g;rw[iN]at e k ⊢;rw[c];obtain⟨l,m⟩:=hs.tyl.get hn;obtain⟨q,r⟩:=Ez hf l m e;exact⟨e,Ff hk q r (hs.get b b1).1 (hs.get b b1).2 (i.get b b1).1 (i.get b b1).2 k (j.up _ O1)⟩
 exact .inr c
theorem p5:∀ {k i:Nat} {s:D6} {ty:List Int},M3 h f.length s->A98 h f i s->v7 h f k i s=some ty->v8 h f ty/\FL h f.length s.1 ty/\Gl h f.length ty
 | 0,_,_,_,_,_,e=>by cases e
 | k+1,i,s,ty,hs,m,e=>by
  unfold v7 at e;split at e
  .rename_i d;have q:=AG s.2 (0:Int) d;obtain⟨n0,n1⟩:=hs.wt _ q;generalize hn:s.2.getD i 0=n at *;cases c:Ko h f n s with
   | none=>rw[c]at e;cases e
   | some s1 =>
    rw[c]at e;have g:=(VW hk hi hf ha n0 n1 hs c).1;obtain⟨j,b⟩:=A1l hk hi hf hap ha n0 n1 hs c;have t:A98 h f (i+1) s1:=by
     intro o l;rcases m o l with r|a
     .rcases A4n hk hi hf hap ha l hs g j r with h1|h1
      .exact .inl h1
      exact .inr (Pz O1 h1)
     have u:s.2.drop i=n :: s.2.drop (i+1):=by
      rw[OF d,<-hn,AS,AT d];rfl
     rw[u]at a;rcases DO.1 a with a|a
     .rcases b with b|b
      .exact .inr (by rw[a];exact Pz O1 b)
      left;rw[a];have:n.toNat=o:=by omega
      rw[this]at b;exact b
     exact .inr (RB j.pre a)
    have e:v7 h f k (i+1) s1=some ty:=e;obtain⟨v,w,p⟩:=p5 g t e;exact⟨v,j.up.trans hk hs.tyl g.tyl p w,p⟩
  rename_i d;injection e with e
  subst e;refine⟨λn hn=>?_,FL.refl hk hs.tyl,hs.tyl⟩;rcases m n hn with h1|h1
  .exact h1
  rw[NO O1]at h1;cases h1
theorem A1n {u:List Int} (hu:Gl h f.length u) (d:v8 h f u):∀ {k i:Nat} {s:D6},M3 h f.length s->i<=s.2.length->Ml h s.1+s.2.length+1<=k+i->FL h f.length s.1 u->∃ty,v7 h f k i s=some ty/\FL h f.length ty u
 | 0,i,s,hs,j,l,b=>by omega
 | k+1,i,s,hs,j,l,b=>by
  unfold v7;by_cases a:i<s.2.length
  .rw[BY a];obtain⟨n0,n1⟩:=hs.wt _ (AG s.2 (0:Int) a);have e:=d (s.2.getD i 0).toNat O1;rw[AB6 n0]at e;obtain⟨s1,c,h1⟩:=A1m hk hi hf hap ha n0 n1 hs hu e b;obtain⟨g,m,n⟩:=VW hk hi hf ha n0 n1 hs c;rw[c];exact A1n hu d g O1 O1 h1
  rw[As a];exact⟨s.1,rfl,b⟩
theorem Vv (a:∀x∈f,0<=x.1/\x.1<(h.1.length:Int)) {ty:List Int} (e:E9 h f=some ty):v8 h f ty/\FL h f.length (Ay f) ty/\Gl h f.length ty:=by
 have e:v7 h f (Hw h f) 0 (Ay f,ED f)=some ty:=e;refine p5 hk hi hf hap ha (k:=Hw h f) (i:=0) (s:=(Ay f,ED f)) (fR a) (λn hn=>.inr ?_) e;rw[AAD];exact IN.2 ⟨n,tO.2 hn,rfl⟩
theorem L7 (b:∀x∈f,0<=x.1/\x.1<(h.1.length:Int)) {u:List Int} (hu:Gl h f.length u) (c:v8 h f u) (a:FL h f.length (Ay f) u):∃ty,E9 h f=some ty/\FL h f.length ty u :=
 A1n hk hi hf hap ha hu c (k:=Hw h f) (i:=0) (s:=(Ay f,ED f)) (fR b) (By _) (Zz h f) a
end
inductive Up (d:List AJ) (m:ByteArray):ByteArray->Prop
 | base {x:ByteArray}:AM m x=true->Up d m x
 | step {x s:ByteArray} {y:AJ}:y∈d->AM y.1 x=true->AU y.2.1 s=true->Up d m s->Up d m x
section
variable {d:List AJ}
theorem Vx {m:ByteArray} (h:Up d m x) (e:AM x y=true):Up d m y:=by
 cases h with
 | base h=>exact .base (BI h e)
 | step h1 a b c=>exact .step h1 (BI a e) b c
theorem A7m {c s:ByteArray} (h:Up d c x) {y:AJ} (f:y∈d) (e:AM y.1 c=true) (hs:AU y.2.1 s=true):Up d s x:=by
 induction h with
 | base h=>exact .step f (BI e h) hs (.base (Ct s))
 | step h1 a b i g=>exact .step h1 a b g
theorem P0 {a b c:ByteArray} (h1:Up d a b) (i:Up d b c):Up d a c:=by
 induction i with
 | base h=>exact Vx h1 h
 | step e f g k j=>exact .step e f g j
theorem A4o {m a x:ByteArray} (e:AM a m=true) (h:Up d m x):Up d a x:=P0 (.base e) h
theorem A4p (hn:Cf d=0) (f:d.length<=(Bh d).length) {m:ByteArray} (h:Up d m x):AM m x=true\/Ft d m<Ft d x:=by
 induction h with
 | base h=>exact .inl h
 | step h1 c e g a =>
  right;have b:=KB hn f h1 e;rw[Ho d c]at b;rcases a with a|a
  .rw[Ho d a];exact b
  omega
theorem A1o {o:List ByteArray} {t:ByteArray} (h:t∈JG o s):t∈o\/t=s:=by
 unfold JG at h;split at h
 .exact .inl h
 rcases Is.1 h with h|h
 .exact .inl h
 exact .inr (by simpa using h)
theorem YR:∀ {l o:List ByteArray} {t:ByteArray},t∈l.foldl JG o->t∈o\/t∈l
 | [],_,_,h=>.inl h
 | s :: l,o,t,h=>by
  rw[OS]at h;rcases YR h with h|h
  .rcases A1o h with h|h
   .exact .inl h
   exact .inr (by simp[h])
  exact .inr (by simp[h])
theorem u3 (h:0<=Ap d s):d.getD (Ap d s).toNat d0∈d/\AM (d.getD (Ap d s).toNat d0).1 s=true:=by
 rcases DH d s with g|⟨b,c,a⟩
 .omega
 exact⟨Ar O1,a⟩
theorem YS (hs:PM d) {x:ByteArray}:∀ {n i:Nat} {o:List ByteArray},(∀t∈o,0<=Ap d t/\Up d t x)->∀t∈Hk d n i o,0<=Ap d t/\Up d t x
 | 0,_,_,b=>b
 | n+1,i,o,b=>by
  unfold Hk;split
  .rename_i hi;refine YS hs λt a=>?_;rcases YR a with a|a
   .exact b t a
   obtain⟨c1,c2⟩:=b _ (Ar (d:=ByteArray.empty) hi);obtain⟨c,e⟩:=u3 c1;exact⟨hs _ c t a,A7m c2 c e (FG a)⟩
  exact b
theorem YT {l:List ByteArray} {t:ByteArray} (h:t∈JH l):t∈l:=(Uv (o:=[]) h).resolve_left sc
theorem A1p (hs:PM d) {x t:ByteArray} (b:0<=Ap d x) (h:AU (J8 d x) t=true):Up d t x:=by
 obtain⟨u,hu,e⟩:=To.1 h;unfold J8 at hu;rw[As O1]at hu;have:=(YS hs (x:=x) (n:=d.length) (i:=0) (o:=[x]) (λt a=>by
  have:t=x:=by simpa using a
  subst this;exact⟨b,.base (Ct _)⟩) u (YT hu)).2
 exact A4o (Bt e) this
theorem YU {m:ByteArray}:∀ {n i:Nat} {o:List ByteArray},(∀t∈o,Up d m t)->∀t∈Cg d n i o,Up d m t
 | 0,_,_,a=>a
 | n+1,i,o,a=>by
  unfold Cg;split
  .rename_i hi;have f:=a _ (Ar (d:=ByteArray.empty) hi);generalize o.getD i ByteArray.empty=c at *;have key:∀(l:List AJ) (o:List ByteArray),(∀y∈l,y∈d)->(∀t∈o,Up d m t)->∀t∈l.foldl (Eu c) o,Up d m t:=by
    intro l;induction l with
    | nil=>exact λo _ a=>a
    | cons y l j =>
     intro o e a;rw[OS];refine j _ (λz g=>e z (by simp[g])) λt b=>?_;unfold Eu at b;split at b
     .rename_i h;rw[An]at h;rcases Is.1 b with b|b
      .exact a t b
      have:t=y.1:=by simpa using b
      subst this;exact .step (e y sc) (Ct _) h.1 f
     exact a t b
   exact YU (key d o (λ_ h=>h) a)
  exact a
theorem Vy {m:ByteArray} (h:AU (Ci d m) x=true):Up d m x:=by
 obtain⟨u,hu,e⟩:=To.1 h;unfold Ci at hu;split at hu
 .cases hu
 exact Vx (YU (m:=m) (n:=d.length) (i:=0) (o:=[m]) (λt a=>by
  have:t=m:=by simpa using a
  subst this;exact .base (Ct _)) u (YT hu)) e
theorem Vz {m:ByteArray} (u:0<=Ap d m) (h:Up d m x):AU (Ci d m) x=true:=by
 have q:ZZ d [m]:=⟨λs hs=>by
  have:s=m:=by simpa using hs
  rw[this];exact u,by simp⟩
 obtain⟨k,v,D⟩:=Vk (d:=d) (n:=d.length) (i:=0) q O1 (λj t=>by omega) O1;have A:m∈Cg d d.length 0 [m]:=KC sc;have r:Ci d m=JH (Cg d d.length 0 [m]):=by unfold Ci;rw[As O1]
 rw[r];generalize Cg d d.length 0 [m]=o at *;have key:AU o x=true:=by
  induction h with
  | base h=>exact To.2 ⟨m,A,h⟩
  | step h1 l p C B =>
   obtain⟨z,c,a⟩:=To.1 B;obtain⟨j,t,rfl⟩:=B7 ByteArray.empty c;obtain⟨s,y,f⟩:=To.1 p;obtain⟨w,b,g⟩:=To.1 (v j O1 _ h1 (To.2 ⟨s,y,BI f (Bt a)⟩));exact To.2 ⟨w,b,BI g l⟩
 obtain⟨z,c,e⟩:=To.1 key;obtain⟨w,b,a⟩:=To.1 (PY (o:=[]) c);exact To.2 ⟨w,b,BI a e⟩
theorem YV:∀ {l o:List ByteArray} {x:ByteArray},AU o x=true->AU (l.foldl (Ew d) o) x=true
 | [],_,_,h=>h
 | s :: l,o,x,h=>by
  rw[OS];refine YV ?_;unfold Ew;split
  .exact HL (λz a=>JO a) h
  exact h
theorem P1:∀ {l o:List ByteArray} {x:ByteArray},x∈l->0<=Ap d x->AU (l.foldl (Ew d) o) x=true
 | s :: l,o,x,h,a=>by
  rw[OS];rcases DO.1 h with rfl|h
  .refine YV ?_;unfold Ew;rw[BY a];exact Ln
  exact P1 h a
theorem NR:∀ {l o:List ByteArray},(∀x∈o,0<=Ap d x)->∀x∈l.foldl (Ew d) o,0<=Ap d x
 | [],_,b=>b
 | s :: l,o,b=>by
  rw[OS];refine NR λx a=>?_;unfold Ew at a;split at a
  .rcases Fa a with a|rfl
   .exact b x a
   assumption
  exact b x a
theorem A7n {l:List ByteArray} (h:pC l) {i:Nat} (hi:i<l.length) (a:j<l.length) (d:i≠j):AM (l.getD i ByteArray.empty) (l.getD j ByteArray.empty)=false:=by
 have c:∀k (h:k<l.length),l.getD k ByteArray.empty=l[k]:=λk h=>by rw[AS,AT h];rfl
 rw[c i hi,c j a];rcases Nat.lt_or_gt_of_ne d with b|b
 .exact(oR.1 h) i j hi a b
 exact IT ((oR.1 h) j i a hi b)
theorem P2:∀ {l o:List ByteArray},pC o->(∀s∈l,∀x∈o,AM x s=false)->pC l->pC (l.foldl (Ew d) o)
 | [],_,h,_,_=>h
 | s :: l,o,h,b,f=>by
  rw[OS];have e:=AAo.1 f;refine P2 ?_ (λy c x a=>?_) e.2
  .unfold Ew;split
   .exact VD h (b s sc)
   exact h
  unfold Ew at a;split at a
  .rcases Fa a with a|rfl
   .exact b y (by simp[c]) x a
   exact e.1 y c
  exact b y (by simp[c]) x a
theorem u4 (hn:Cf d=0) (s:ByteArray):pC (E6 d s):=by
 have key:∀(r:List AJ) (o:List ByteArray),pC o->(∀y∈r,∀x∈o,AM x y.1=false)->r.Pairwise (λa b=>AM a.1 b.1=false)->pC (r.foldl (Gv s) o):=by
  intro r;induction r with
  | nil=>exact λo h _ _=>h
  | cons y r t =>
   intro o h f q;rw[OS];have l:=AAo.1 q;refine t _ ?_ (λz g x c=>?_) l.2
   .unfold Gv;split
    .exact VD h (f y sc)
    exact h
   unfold Gv at c;split at c
   .rcases Fa c with c|rfl
    .exact f z (by simp[g]) x c
    exact l.1 z g
   exact f z (by simp[g]) x c
 refine key d [] .nil (λy _ x c=>by cases c) (oR.2 λi j hi k u=>?_);cases e:AM d[i].1 d[j].1 with
 | false=>rfl
 | true =>
  have h1:=Lm hn hi;have p:=Lm hn k;have m:d.getD i d0=d[i]:=by rw[AS,AT hi];rfl
  have n:d.getD j d0=d[j]:=by rw[AS,AT k];rfl
  rw[m,X1 d e]at h1;rw[n]at p;omega
theorem RD (r:A7 d=0) {l:List ByteArray} (t:pC l) {x:ByteArray} (g:x∈l) (w:0<=Ap d x):∃m∈A3 d l,Up d m x:=by
 obtain⟨hs,C,-,hn,A⟩:=Az r;have z:∀y∈Bc d l,0<=Ap d y:=NR λy c=>by cases c
 obtain⟨q,n,ex⟩:=To.1 (P1 (d:=d) (o:=[]) g w);have n:q∈Bc d l:=n;have v:pC (Bc d l):=P2 .nil (λs _ x g=>by cases g) t;have u:A3 d l=PP d (Bc d l) (Bc d l).length:=rfl;rw[u];generalize Bc d l=all at *;have key:∀(k:Nat) (y:ByteArray),Ft d y<k->y∈all->Up d y x->∃m∈PP d all all.length,Up d m x:=by
  intro k;induction k with
  | zero=>exact λy h=>by omega
  | succ k B =>
   intro y D c hu;obtain⟨i,hi,rfl⟩:=B7 ByteArray.empty c;by_cases a:PO d all i all.length=true
   .exact⟨_,IN.2 ⟨i,AAW.2 ⟨tO.2 hi,a⟩,rfl⟩,hu⟩
   have a:PO d all i all.length=false:=by simpa using a
   unfold PO at a;obtain⟨j,b,hf⟩:=List.all_eq_false.1 a;have b:=tO.1 b;unfold oP at hf;simp only[vW,AAc,bY,not_or,Bool.not_eq_false]at hf;obtain⟨f,ha⟩:=hf;have f:j≠i:=λe=>f (by rw[e]);have p:=A1p hs (z _ c) ha;rcases A4p hn A p with e|e
   .exact absurd e (by rw[A7n v b hi f];simp)
   exact B _ O1 (Ar b) (P0 p hu)
 exact key _ q (AAX _) n (.base ex)
theorem KR (hs:s∈AN d):0<=Ap d s:=by
 obtain⟨x,a,rfl⟩:=DP hs;exact DN a
theorem P3 {x:AJ} (a:x∈d) (hn:Cf d=0):x.1∈AN d:=by
 obtain⟨s,hs,e⟩:=To.1 (N8 a);obtain⟨y,b,rfl⟩:=DP hs;rw[<-PX hn b a e];exact hs
theorem A4q (b:A7 d=0) {m:ByteArray} (c:0<=Ap d m) (h:Up d m x) {i:Nat} (hi:BE (ET d (AN d) x) i=true):BE (ET d (AN d) m) i=true:=by
 obtain⟨-,j,-,hn,k⟩:=Az b;have e:=Dm d d.length;rw[oF]at e;have a:(AN d).length<=4096:=by omega
 obtain⟨f,g⟩:=(B6 (d:=d) a x i).1.1 hi;exact(B6 (d:=d) a m i).1.2 ⟨f,Vz c (P0 h (Vy g))⟩
end
section
variable {d:List AJ}
def Dc (d:List AJ) (c:List Int):Prop:=Hn c/\∀i j,BE c i=true->j<(AN d).length->Up d ((AN d).getD i ByteArray.empty) ((AN d).getD j ByteArray.empty)->BE c j=true
theorem A7o:Dc d []:=⟨λx a=>(by cases a),λi j hi=>by unfold BE at hi;simp at hi⟩
theorem A7p {a b:List Int} (ha:Dc d a) (c:Dc d b):Dc d (D5 a b) :=
 ⟨Mj ha.1 c.1,λi j hi e hu=>by
  rw[KH ha.1 c.1,An]at hi ⊢;exact⟨ha.2 i j hi.1 e hu,c.2 i j hi.2 e hu⟩⟩
theorem A4r {l:List (List Int)} (h:∀c∈l,Dc d c) (k:Nat):Dc d (l.getD k []):=by grind [Ar,Qt,A7o]
theorem A4s {l:List (List Int)} (h:∀c∈l,Dc d c) (i k:Nat):∀c∈GC l i k,Dc d c:=by grind [GC,D5,A7p,A4r]
theorem p6 {i:Nat}:∀ {n k:Nat} {l:List (List Int)},(∀c∈l,Dc d c)->∀c∈GD i n k l,Dc d c
 | 0,_,_,h=>h
 | n+1,k,l,h=>by
  unfold GD;split
  .exact p6 (A4s h i k)
  exact h
theorem p7:∀ {n i:Nat} {l:List (List Int)},(∀c∈l,Dc d c)->∀c∈Hl n i l,Dc d c
 | 0,_,_,h=>h
 | n+1,i,l,h=>by
  unfold Hl;split
  .exact p7 (p6 h)
  exact h
theorem R9 (a:A7 d=0):(AN d).length<=4096:=by
 obtain⟨-,c,-⟩:=Az a;have b:=Dm d d.length;rw[oF]at b;omega
theorem A4t (a:A7 d=0) (hs:0<=Ap d s):Dc d (ET d (AN d) s):=by
 have b:=R9 a;refine⟨(B6 (d:=d) b s 0).2.1,λi j hi c hu=>?_⟩;grind [B6,Vz,P0,Vy]
theorem A7q (a:A7 d=0):∀c∈Aw (AR d),Dc d c:=p7 λc b=>by
 obtain⟨s,hs,rfl⟩:=IN.1 b;exact A4t a (KR hs)
theorem p8 {all:List ByteArray} {codes:List (List Int)} {b:List Int} {u:ByteArray}:∀ {m i:Nat} {l:List ByteArray},oX d all codes b m i l=.inl u->∃j,i<=j/\j<i+m/\DG (codes.getD j []) b=true/\u=all.getD j ByteArray.empty
 | 0,_,_,h=>by cases h
 | m+1,i,l,h=>by
  unfold oX at h;split at h
  .grind
  obtain⟨j,e,f,a,c⟩:=p8 h;exact⟨j,by omega,by omega,a,c⟩
theorem p9 {all:List ByteArray} {codes:List (List Int)} {b:List Int} {r:List ByteArray}:∀ {m i:Nat} {l:List ByteArray},oX d all codes b m i l=.inr r->(∀j,i<=j->j<i+m->DG (codes.getD j []) b=false)/\r=l++((List.range' i m).filter λj:Nat=>SQ b (j:Int)).map λj=>all.getD j ByteArray.empty
 | 0,i,l,h=>by grind [oX]
 | m+1,i,l,h=>by
  unfold oX at h;split at h
  .cases h
  rename_i f;obtain⟨c,a⟩:=p9 h;refine⟨λj h1 e=>?_,?_⟩
  .grind
  rw[a,ACH,AAr];grind
theorem qA {a b:ByteArray} {x:UInt8}:x∈(a++b).toList↔x∈a.toList\/x∈b.toList:=by
 rw[ByteArray.toList_eq,ByteArray.toList_eq,ByteArray.toList_eq];simp
theorem u5 {l:List ByteArray}:∀ {n:Nat},2<=n->(38:UInt8)∈(PZ l n).toList
 | n+1,hn=>by
  rw[N9];unfold Xq;rw[BY O1];rw[qA,qA]
  simp_all
theorem mH (hn:Cf d=0) (hs:s∈AN d):(38:UInt8)∉s.toList:=by
 obtain⟨x,g,rfl⟩:=DP hs;obtain⟨j,c,e⟩:=B7 d0 g;have h1:=(IP (d:=d) (r:=d) (k:=0) hn j c).2;rw[e]at h1;intro a;unfold BM at h1;rw[An,ON]at h1;rw[ByteArray.toList_eq]at a;obtain⟨k,hk,h⟩:=AAq.1 a;have f:k<x.1.data.size:=by simpa using hk
 have:=h1.2 k (tO.2 f);unfold NF at this;have b:x.1.data.getD k 0=38:=by simp_all
 rw[b]at this;revert this;decide
theorem u6 (h:A7 d=0) {y:AQ} (V:y∈AK d) (hf:IR (Aw (AR d))) (hs:s∈AN d) (e:AM y.1 s=true):y.2=ET d (AN d) s:=by
 obtain⟨ah,ab,-,hn,af⟩:=Az h;have o:=R9 h;have L:Nd (Aw (AR d)):=S6 (Qu h);have ae:(AR d).length=(AN d).length:=by simp[AR]
 have M:AR d <+: Aw (AR d):=Pf 257 0 (AR d);have U:∀ {t:ByteArray},t∈AN d->AM t s=true->t=s:=λ{t} x e=>by grind [DP,PX]
 have heq:∀j,j<(AN d).length->∀b∈Aw (AR d),DG ((AR d).getD j []) b=true->b=ET d (AN d) ((AN d).getD j ByteArray.empty):=λj R b f p=>by
  have g:(AR d).getD j []∈Aw (AR d):=M.subset (Ar O1);unfold DG at p;rw[An,E8 (hf.wds _ g) (hf.wds b f),E8 (hf.wds b f) (hf.wds _ g)]at p;rw[<-IQ d R];refine Zr (hf.wds b f) (hf.wds _ g) (L.nrm b f) (L.nrm _ g) λi=>?_;rw[ABB];exact⟨p.2 i,p.1 i⟩
 obtain⟨b,f,rfl⟩:=DQ.1 V;show b=_;have e:AM (Ga d (AN d) (AR d) b) s=true:=e;unfold Ga at e;cases w:oX d (AN d) (AR d) b (AN d).length 0 [] with
 | inl u =>
  rw[w]at e;obtain⟨j,-,C,X,rfl⟩:=p8 w;rw[AAH]at C;rw[<-U (Ar C) e];exact heq j C b f X
 | inr l =>
  exfalso;rw[w]at e;have e:AM (eA (A3 d l)) s=true:=e;obtain⟨O,D⟩:=p9 w;rw[f5]at D;have N:=hf.wds b f;have v:∀i,i<(AN d).length->BE b i=true->(AN d).getD i ByteArray.empty∈l:=λi hi ad=>by grind [TH]
  have K:∀t∈l,∃i,i<(AN d).length/\t=(AN d).getD i ByteArray.empty/\BE b i=true:=λt x=>by grind [TH]
  have T:(List.range' 0 (AN d).length).map (λj=>(AN d).getD j ByteArray.empty)=AN d:=by
   apply AAx
   .simp
   intro i ai W;simp[AS,W]
  have E:pC l:=by
   rw[D];have:=VE hn;rw[<-T]at this;exact this.sublist (List.filter_sublist.map _)
  obtain⟨z,r⟩:=hf.some b f;have B:∀i,BE b i=true->i<(AN d).length:=by
   have:=Z9 (q:=(AN d).length) (n:=257) (i:=0) (l:=AR d) (λc Q=>by
    obtain⟨t,x,rfl⟩:=IN.1 Q;exact⟨(B6 (d:=d) o t 0).2.1,λi hi=>((B6 (d:=d) o t i).1.1 hi).1⟩) b f
   exact this.2
  have F:∀t∈l,0<=Ap d t:=λt x=>by
   obtain⟨i,hi,rfl,-⟩:=K t x;exact KR (Ar hi)
  obtain⟨m,g,-⟩:=RD h E (v z (B z r) r) (F _ (v z (B z r) r));have ag:0<(A3 d l).length:=AC0 g;have S:eA (A3 d l)=PZ (A3 d l) (A3 d l).length:=rfl;rw[S]at e;by_cases h1:(A3 d l).length=1
  .obtain⟨k,H,rfl,P⟩:=K m (G9 g);have G:DG ((AR d).getD k []) b=true:=by
    have J:(AR d).getD k []∈Aw (AR d):=M.subset (Ar O1);unfold DG;rw[An,E8 (hf.wds _ J) N,E8 N (hf.wds _ J),IQ d H];refine⟨λi hi=>?_,λi hi=>?_⟩
    .obtain⟨Z,aa⟩:=(B6 (d:=d) o _ i).1.1 hi;exact(A7q h b f).2 k i P Z (Vy aa)
    have A:=B i hi;obtain⟨Y,I,hu⟩:=RD h E (v i A hi) (F _ (v i A hi));have:Y=(AN d).getD k ByteArray.empty:=by
     obtain⟨a,ha⟩:=AAN.1 h1;rw[ha]at g I;rw[oN.1 I,oN.1 g]
    rw[this]at hu;exact(B6 (d:=d) o _ i).1.2 ⟨A,Vz (KR (Ar H)) hu⟩
   rw[O k (By _) O1]at G;cases G
  grind [u5,A3,GB,mH]
theorem YW (s:ByteArray):∀(l:List AQ) (k:Nat),0<=KA s k l->∃j,j<l.length/\KA s k l=((k+j:Nat):Int)/\AM (l.getD j c0).1 s=true
 | [],k,h=>by simp only[KA]at h;omega
 | x :: l,k,h=>by
  simp only[KA]at h ⊢;split
  .grind
  rename_i e;rw[As e]at h;obtain⟨j,c,a,b⟩:=YW s l (k+1) h;exact⟨j+1,by simp only[IS];omega,by rw[a];congr 1;omega,by simpa using b⟩
theorem A1q (a:A7 d=0) (hf:IR (Aw (AR d))) (hs:s∈AN d):((AK d).getD (BH (AK d) s).toNat c0).2=ET d (AN d) s:=by
 have h0:0<=BH (AK d) s:=Gb a (FG hs);grind [YW,AK,BH,u6,Ar]
theorem YX {s:ByteArray} (hn:Cf d=0):∀ {r:List AJ} {o:List ByteArray} {x:AJ},(∀y∈r,y∈d)->x∈d->((∃z∈o,AM z x.1=true)\/(x∈r/\(C8 x s).2=true))->∃z∈r.foldl (Gv s) o,AM z x.1=true
 | [],o,x,_,_,h=>h.resolve_right λg=>by cases g.1
 | y :: r,o,x,f,i,h=>by
  rw[OS];refine YX hn (λz c=>f z (by simp[c])) i ?_;rcases h with ⟨z,c,e⟩|⟨a,b⟩
  .grind [Gv,JO]
  rcases DO.1 a with rfl|a
  .left;unfold Gv;rw[BY b];exact To.1 (Ln (l:=o) (s:=x.1))
  exact .inr ⟨a,b⟩
theorem YY (f:Int):∀(a b:List (Int×Int)),Dy f (a++b)=if (Dy f a).2=true then Dy f a else Dy f b
 | [],_=>rfl
 | x :: a,b=>by
  have h1:Dy f (x :: a++b)=if x.1=f then (x.2,true) else Dy f (a++b):=rfl
  have c:Dy f (x :: a)=if x.1=f then (x.2,true) else Dy f a:=rfl
  rw[h1,c];split
  .rfl
  exact YY f a b
theorem qB (l:List AQ) (fs:List ByteArray) (t:Nat) (f:Int):∀n,Dy f (SV d l fs t n)=if 0<=f/\f<(n:Int)/\(E7 d l (t:Int) (fs.getD f.toNat ByteArray.empty)).2=true then (Gp l (E7 d l (t:Int) (fs.getD f.toNat ByteArray.empty)).1,true) else (0,false)
 | 0=>by
  rw[As O1];rfl
 | n+1=>by
  rw[Xv,YY,qB l fs t f n];grind [E7,Dy]
theorem V0 (c:Am d=0) {t f:Int} (e:0<=t) (g:t<((AK d).length:Int)) (a:0<=f) (b:f<((BG d).length:Int)):Bx (Bi d) t f=if (E7 d (AK d) t ((BG d).getD f.toNat ByteArray.empty)).2=true then (Gp (AK d) (E7 d (AK d) t ((BG d).getD f.toNat ByteArray.empty)).1,true) else (0,false):=by
 unfold Bx;grind [A1i,qB,E7,AK,BG]
theorem A4u (c:Am d=0) {f:Int} (a:0<=f) (b:f<((BG d).length:Int)):JU (Bi d) f=BH (AK d) (DR d ((BG d).getD f.toNat ByteArray.empty)).1:=by grind [JU,L6,BG,Lq]
theorem A99 (b:Am d=0):HAp (Bi d):=by
 obtain⟨j,-,T,F,-⟩:=Vr b;obtain⟨u,-,-⟩:=CC b;obtain⟨-,U,-⟩:=BZ u;have al:=VA j U;obtain⟨ao,ak,-,hn,am⟩:=Az j;obtain⟨hk,an⟩:=A5P b;have I:=Pc j T;have n:=Vq d;have hF:(Bi d).2.length=(BG d).length:=by rw[L6 b,aS]
 have E:∀s∈AN d,BO (Bi d) (BH (AK d) s)=ET d (AN d) s:=λs hs=>by grind [Mr,Gb,FG,Hq,A1q]
 refine⟨λt f g l k c=>?_,λt w f g l A ai k c X q=>?_⟩
 .rw[n]at l;rw[hF]at c;have hs:=Ar (d:=ByteArray.empty) (show f.toNat<(BG d).length by omega);rw[V0 b g l k c,A4u b k c];generalize (BG d).getD f.toNat ByteArray.empty=s at *;obtain⟨v,-⟩:=Py b g l hs;obtain⟨aj,aa,S,Y⟩:=Vt (F s hs);have hi:(if (E7 d (AK d) t s).2=true then (Gp (AK d) (E7 d (AK d) t s).1,true) else ((0:Int),false)).2=true↔(E7 d (AK d) t s).2=true:=by
   split<;>simp[*]
  rw[hi,v];constructor
  .rintro⟨x,a,Z,W⟩;have hint:=F s hs;unfold DR at hint ⊢;split at hint
   .rename_i h1;rw[BY h1];obtain⟨ap,V⟩:=AAN.1 h1;obtain⟨z,u,C⟩:=YX (d:=d) (s:=s) hn (r:=d) (o:=[]) (λy ad=>ad) a (.inr ⟨a,Z⟩);have ae:0<=Ap d z:=by rw[X1 d C];exact DN a
    obtain⟨m,p,hu⟩:=RD j (u4 hn s) u ae;have hu:=Vx hu C;have e:(A3 d (E6 d s)).getD 0 ByteArray.empty=m:=by
     rw[V]at p ⊢;rw[oN.1 p];rfl
    rw[show ((A3 d (E6 d s)).getD 0 ByteArray.empty,true).1=m from e];obtain⟨ar,K,B,-⟩:=(Q9 (G9 p)).resolve_left sc;have H:m∈AN d:=by rw[<-B];exact P3 K hn
    have ab:=P3 a hn;obtain⟨n0,n1⟩:=TJ I a;have L:0<=BH (AK d) m:=Gb j (FG H);have aq:=Hq (AK d) m;refine Ff hk L O1 n0 O1 g O1 ((BQ hk L O1 n0 O1).2 λi hi=>?_) W;unfold eY at hi ⊢;rw[E x.1 ab]at hi;rw[E m H];exact A4q j (by rw[<-B];exact DN K) hu hi
   cases hint
  intro h;rw[<-S]at h;exact⟨aj,aa,Y,h⟩
 have M:t<((AK d).length:Int):=by omega
 have N:w<((AK d).length:Int):=by omega
 rw[hF]at c;have hs:=Ar (d:=ByteArray.empty) (show f.toNat<(BG d).length by omega);rw[V0 b g M k c]at q ⊢;rw[V0 b A N k c];generalize (BG d).getD f.toNat ByteArray.empty=s at *;obtain⟨v,af⟩:=Py b g M hs;obtain⟨ag,ah⟩:=Py b A N hs;have hi:(E7 d (AK d) t s).2=true:=by
  split at q
  .assumption
  cases q
 have J:∀x∈d,UsD d t s x->UsD d w s x:=λx a hu=>by
  obtain⟨n0,n1⟩:=TJ I a;exact⟨hu.1,Ff hk n0 O1 g l A ai hu.2 X⟩
 have G:(E7 d (AK d) w s).2=true:=by
  obtain⟨x,a,hu⟩:=v.1 hi;exact ag.2 ⟨x,a,J x a hu⟩
 rw[BY hi,BY G];obtain⟨⟨O,P⟩,Q⟩:=af hi;obtain⟨⟨R,b1⟩,b2⟩:=ah G;refine(BQ hk O (by rw[n];exact P) R (by rw[n];exact b1)).2 λi D=>?_;unfold eY at D ⊢;exact(Q i).2 λx a hu=>(b2 i).1 D x a (J x a hu)
theorem mI (d:List AJ):HAp (Ab d).1:=by
 by_cases a:Am d=0
 .rw[KQ a];exact A99 a
 have:(Ab d).1=([],[]):=by
  unfold Ab A4;rw[BY a,BY a]
 rw[this];exact⟨λt f c b=>by simp at b;omega,λt e f c b=>by simp at b;omega⟩
end
theorem L8 (d:List AJ):(Ab d).1.1.length<=256/\(Ab d).1.2.length<=64:=by
 unfold Ab;split
 .exact⟨by simp,by simp⟩
 rename_i a;have a:(A4 d).2=0:=GO a;have b:Am d=0:=by
  unfold A4 at a;split at a
  .rename_i h;exact absurd a h
  rename_i h;exact GO h
 obtain⟨f,c,-⟩:=CC b;obtain⟨-,e,-⟩:=BZ f;refine⟨?_,?_⟩
 .show (EA _ _ _).length<=256;rw[JR,Hp];exact e
 show (DC d).1.length<=64;unfold DC;rw[As (by rw[b];simp)];show ((BG d).map (Lq d)).length<=64;rw[aS];exact c
theorem mJ (hf:AX f):GH f:=⟨hf.1,λx a=>(hf.2 x a).1⟩
structure H14 (h:AE):Prop where
 ok:Fd h
 inj:HA h
 ft:bD h
 nrm:mD h
 ap:HAp h
 b1:h.1.length<=256
 b2:h.2.length<=64
theorem V1 (d:List AJ):H14 (Ab d).1:=⟨Ge d,R5 d,mG d,λt a=>(Vn d).nrm _ (IN.2 ⟨t,a,rfl⟩),mI d,(L8 d).1,(L8 d).2⟩
theorem h14 (d:List AJ):H14 (Mn d):=by
 unfold Mn;split
 .exact V1 d
 exact V1 Bm
theorem Ms {ty:List Int} {x:AD} (b:x∈CD f ty):∃i,i<f.length/\x=(ty.getD i 0,(f.getD i (0,[])).2):=by
 obtain⟨i,hi,rfl⟩:=List.getElem_of_mem b;have a:i<f.length:=by rw[CV]at hi;exact hi
 refine⟨i,a,?_⟩;rw[<-GI f ty a,AS,AT hi];rfl
theorem HQ {α:Type} {f:List α} {i:Nat} (h:i<f.length) (d:α):f.getD i d∈f:=by
 rw[AS,AT h];exact AAm _
theorem gH (ty:List Int) (hf:GH f):GH (CD f ty):=by
 refine⟨by rw[CV];exact hf.1,λx a=>?_⟩;obtain⟨i,hi,rfl⟩:=Ms a;exact hf.2 (f.getD i (0,[])) (HQ hi _)
def V2 (p:List Int) (n:Nat):List AD:=(List.range n).map λ(i:Nat)=>((0:Int),[(p.getD i 0,(i:Int)+1)])
def CA (p:List Int) (g:List AD):List AD:=V2 p p.length++g.map λx=>(x.1,Dr p.length x.2)
theorem OO (p:List Int) (n:Nat):(V2 p n).length=n:=by simp[V2]
def FtP (h:AE) (p:List Int):Prop:=∀e∈p,0<=e/\e<(h.2.length:Int)
theorem VF.srt (hu:HU h) (a:VF h f):lQ f:=λx b=>by
 have:=A1a (a.str x b) (a.ft64 hu x b);exact⟨(fT _).2 (a.str x b),by omega⟩
theorem VF.small (a:VF h f):GH f:=mJ a.good
theorem aC (a b:List AD):(∃c,l9 h a b c/\KP h a b=(c,true))\/(KP h a b=([],false)/\∀c,¬l9 h a b c):=by
 unfold KP;by_cases H:∃c,l9 h a b c
 .left;rw[dif_pos H];exact⟨_,H.choose_spec,rfl⟩
 right;rw[dif_neg H];exact⟨rfl,λc d=>H ⟨c,d⟩⟩
theorem Hy (f:List AD) (ty:List Int) (n:Nat):((CD f ty).getD n (0,[])).2=(f.getD n (0,[])).2:=by
 by_cases h:n<f.length
 .rw[GI f ty h]
 rw[AS,oS (by rw[CV];omega),AS,oS O1]
theorem gI {f g:List AD} (h:∀n:Nat,(f.getD n (0,[])).2=(g.getD n (0,[])).2):∀(k:Nat) (o:List Int) (n:Int),EC f k o n=EC g k o n
 | 0,_,_=>rfl
 | k+1,o,n=>by
  have e:A6 f k=A6 g k:=by
   funext o a;unfold A6;rw[gI h k o a.2]
  rw[CZ,CZ,h,e]
theorem mK (hf:AX f) (h0:0<f.length) (a:AP f 0=f):f8 f:=by
 have:=(Z4 hf (r:=0) O1 O1).2
 rwa [a]at this
theorem A1r (b:VF h f) {ty:List Int} (l:Gl h f.length ty):VF h (CD f ty):=by
 have c:=CV f ty;have g:AX (CD f ty):=by
  refine⟨by rw[c];exact b.good.1,λx a=>?_⟩;obtain⟨i,hi,rfl⟩:=Ms a;rw[c];exact b.good.2 (f.getD i (0,[])) (HQ hi (0,[]))
 have k:∀x∈CD f ty,∃y∈f,x.2=y.2:=λx a=>by
  obtain⟨i,hi,rfl⟩:=Ms a;exact⟨_,HQ hi (0,[]),rfl⟩
 refine⟨g,by rw[c];exact b.pos,λx a=>?_,λx a=>?_,λx a=>?_,Vh g ?_,λi m n=>?_⟩
 .obtain⟨i,hi,rfl⟩:=Ms a;exact l.get hi
 .obtain⟨y,d,e⟩:=k x a;rw[e];exact b.str y d
 .obtain⟨y,d,e⟩:=k x a;rw[e];exact b.ft y d
 .have:=mK b.good b.pos b.can;unfold f8 at this ⊢;rw[c,gI (Hy f ty)];exact this
 obtain⟨j,o,p,x,a,e⟩:=b.ro i m (by rw[<-c];exact n);exact⟨j,o,p,x,by show x∈((CD f ty).getD j.toNat (0,[])).2;rw[Hy];exact a,e⟩
theorem Ds (f:List AD) (i:Nat):(Ay f).getD i 0=(f.getD i (0,[])).1:=by
 unfold Ay;rw[AS,AAw,AS];cases f[i]?<;>rfl
theorem mL {ty:List Int} (a:ty.length=f.length):Ay (CD f ty)=ty:=by
 refine AAx (by simp[Ay,CV,a]) λi b c=>?_;have:=Ds (CD f ty) i;rw[GI f ty O1]at this;simpa[AS,b,c] using this
theorem SA {h:AE} {f:List AD} {t:Int}:∀ {l:List (Int×Int)},Q1 h f t l=0↔∀a∈l,(Bx h t a.1).2=true/\Aa h (Bx h t a.1).1 (f.getD a.2.toNat (0,[])).1=true
 | []=>⟨λ_ a ha=>(by cases ha),λ_=>rfl⟩
 | a :: l=>by
  unfold Q1;rw[List.forall_mem_cons,<-SA (l:=l)];cases h1:(Bx h t a.1).2
  .simp
  cases b:Aa h (Bx h t a.1).1 (f.getD a.2.toNat (0,[])).1<;>simp
theorem NS {h:AE} {f:List AD}:∀ {l:List AD},Lz h f l=0↔∀x∈l,∀a∈x.2,(Bx h x.1 a.1).2=true/\Aa h (Bx h x.1 a.1).1 (f.getD a.2.toNat (0,[])).1=true
 | []=>⟨λ_ a ha=>(by cases ha),λ_=>rfl⟩
 | x :: l=>by
  unfold Lz;rw[List.forall_mem_cons,<-NS (l:=l),<-SA];by_cases h1:Q1 h f x.1 x.2=0
  .simp[h1]
  simp[h1]
theorem A4w:Lz h f f=0↔v8 h f (Ay f):=by
 rw[NS];constructor
 .intro h1 i hi a ha;have:=h1 _ (HQ hi (0,[])) a ha
  rwa [Ds,Ds,iN]
 intro h1 x b a ha;obtain⟨i,hi,rfl⟩:=B7 (0,[]) b;have:=h1 i hi a ha
 rwa [Ds,Ds,iN]at this
theorem gJ {n:Int}:∀ {l seen:List (Int×Int)},(∀a∈l,0<=a.1/\0<=a.2/\a.2<n)->(l.map (·.1)).Nodup->(∀y∈seen,∀x∈l,y.1≠x.1)->Gg n seen l=0
 | [],_,_,_,_=>rfl
 | x :: l,seen,h,c,hs=>by
  rw[iS,AAu]at c;have h1:=h x sc;have f:(seen.any λy=>y.1==x.1)=false:=by
   rw[ACC];intro y b;have:=hs y b x sc;simpa using this
  unfold Gg;rw[As O1,As (by rw[f];simp)];refine gJ (λa ha=>h a (by simp[ha])) c.2 λy b z d=>?_;rcases Is.1 b with b|b
  .exact hs y b z (by simp[d])
  rw[oN.1 b];exact λe=>c.1 (IN.2 ⟨z,d,e.symm⟩)
theorem A1s {m:Int} (hs:(l.map (·.1)).Nodup) (h:∀a∈l,0<=a.1/\0<=a.2/\a.2<m):Gx l m=0:=gJ h hs λy b=>by cases b
theorem gK {m:Int}:∀ {l:List AD},(∀x∈l,0<=x.1/\Gx x.2 m=0)->IW m l=0
 | [],_=>rfl
 | x :: l,h=>by
  have:=h x sc;unfold IW;rw[As O1,As (by rw[this.2];simp)];exact gK λy a=>h y (by simp[a])
section
variable {h:AE} (hh:H14 h)
include hh
theorem H14.hu:HU h:=⟨hh.ok,hh.inj,hh.b2⟩
omit hh in
theorem aD {f:List AD} (b:VF h f):Lx h f:=λx c a ha=>⟨b.ft x c a ha,(b.good.2 x c).2 a ha⟩
theorem gL (a:VF h f) {ty:List Int} (e:E9 h f=some ty):VF h (CD f ty)/\v8 h f ty/\Gl h f.length ty/\SY h f (CD f ty) id:=by
 obtain⟨h1,g,d⟩:=Vv hh.ok hh.inj hh.ft hh.ap (aD a) a.ty e;refine⟨A1r a d,h1,d,rfl,λi b c=>⟨b,by rw[CV];exact c⟩,λi b c=>?_,λi b c x j=>?_⟩
 .have:=g i.toNat O1;rw[Ds]at this;show Aa h _ ((CD f ty).getD i.toNat (0,[])).1=true
  rwa [GI f ty O1]
 show Bz ((CD f ty).getD i.toNat (0,[])).2 x.1=x.2;rw[Hy];exact A7f (a.srt hh.hu) j
theorem qC (n:VF h f) (p:VF h g) (E:v8 h g (Ay g)) (c:SY h f g m):∃ty,E9 h f=some ty/\SY h (CD f ty) g m:=by
 have H:=p.pos
 let u:List Int:=(List.range f.length).map λi:Nat=>(g.getD (m (i:Int)).toNat (0,[])).1
 have k:∀i:Nat,i<f.length->u.getD i 0=(g.getD (m (i:Int)).toNat (0,[])).1:=λi hi=>by
  simp[u,AS,hi]
 have q:∀i:Nat,i<f.length->(m (i:Int)).toNat<g.length/\0<=m (i:Int):=λi hi=>by
  have:=c.rng (i:Int) O1 O1;omega
 have D:Gl h f.length u:=⟨by simp[u],λt C=>by
  obtain⟨i,hi,rfl⟩:=IN.1 C;exact p.ty _ (HQ (q i (tO.1 hi)).1 (0,[]))⟩
 have F:v8 h f u:=λi hi a ha=>by
  have z:a∈Aj f (i:Int):=by show a∈(f.getD (i:Int).toNat (0,[])).2;rwa [iN]
  have h1:=c.arc (i:Int) O1 O1 a z;obtain⟨s,G⟩:=(n.good.2 _ (HQ hi (0,[]))).2 a ha;have y:=c.rng a.2 s G;obtain⟨b,A,v,w⟩:=fZ (l:=Aj g (m (i:Int))) (e:=a.1) (by rw[h1];exact y.1);have o:=E _ (q i hi).1 b (by exact A);rw[Ds,Ds,v,w,h1,iN]at o;rw[iN,k i hi,k a.2.toNat O1,AB6 s];exact o
 obtain⟨ty,e,B⟩:=L7 hh.ok hh.inj hh.ft hh.ap (aD n) n.ty D F λi hi=>by
  rw[Ds,k i hi];have:=c.ty (i:Int) O1 O1
  rwa [iN]at this
 refine⟨ty,e,c.zero,λi j d=>c.rng i j (by rw[CV]at d;exact d),λi j d=>?_,λi j d x r=>?_⟩
 .rw[CV]at d;have:=B i.toNat O1;rw[k _ O1,AB6 j]at this
  rwa [GI f ty O1]
 rw[CV]at d;exact c.arc i j d x (by rw[Aj,Hy]at r;exact r)
omit hh in
theorem u7 {f:List AD} (e:Z0 h f=0):v8 h f (Ay f):=by
 unfold Z0 at e
 split at e
 .exact A4w.1 e
 rename_i hn;exact absurd e hn
end
theorem L9 {ty:List Int} (e:E9 h f=some ty):Cv h f=(CD f ty,true):=by unfold Cv;rw[e]
theorem MA (e:E9 h f=none):Cv h f=([],false):=by unfold Cv;rw[e]
def t6F (h:AE) (ty:List Int) (n:Int) (a:Int×Int):Int×Bool:=Cj h (ty.getD n.toNat 0) (JU h a.1)
def v9 (h:AE) (ty:List Int) (n:Int) (a:Int×Int):List Int:=ty.set n.toNat (t6F h ty n a).1
def u6F (h:AE) (ty:List Int) (n:Int) (a:Int×Int):Int×Bool:=Cj h ((v9 h ty n a).getD a.2.toNat 0) (Bx h (t6F h ty n a).1 a.1).1
def z6F (h:AE) (ty:List Int) (n:Int) (a:Int×Int):List Int:=(v9 h ty n a).set a.2.toNat (u6F h ty n a).1
def r6F (h:AE) (ty:List Int) (n:Int) (a:Int×Int):Option (List Int):=if (t6F h ty n a).2=false then none else if (u6F h ty n a).2=false then none else some (z6F h ty n a)
def Hz (h:AE) (n:Int):List (Int×Int)->List Int->Option (List Int)
 | [],ty=>some ty
 | a :: l,ty=>(r6F h ty n a).bind (Hz h n l)
def JZ (h:AE):List AD->Nat->List Int->Option (List Int)
 | [],_,ty=>some ty
 | x :: r,i,ty=>(Hz h (i:Int) x.2 ty).bind (JZ h r (i+1))
def Kq (h:AE) (f:List AD):Nat->List Int->Option (List Int)
 | 0,_=>none
 | k+1,ty=>(JZ h f 0 ty).bind λa=>if a=ty then some a else Kq h f k a
def HC (h:AE) (f:List AD):Option (List Int):=Kq h f (Hw h f) (Ay f)
theorem V3 {α:Type} {p q:α->Bool}:∀ {l:List α},(∀x∈l,q x=true->p x=true)->(l.filter q).length<=(l.filter p).length
 | [],_=>Of _
 | y :: l,b=>by
  have d:=V3 (l:=l) λz c=>b z (IF _ c);rw[AAr,AAr];by_cases a:q y=true
  .rw[BY a,BY (b y sc a)];simp only[IS];omega
  rw[As a];split
  .simp only[IS];omega
  exact d
theorem u9 (hk:Fd h) {a m:Int} (b:0<=a) (c:a<(h.1.length:Int)) (f:0<=m) (g:m<(h.1.length:Int)) (hs:Aa h a m=true):fQ h m<=fQ h a :=
 V3 λx d e=>by grind [Ff]
theorem gM {h:AE} (hk:Fd h) (hi:HA h):∀ {u v:List Int},u.length=v.length->(∀t∈u,0<=t/\t<(h.1.length:Int))->(∀t∈v,0<=t/\t<(h.1.length:Int))->(∀i,i<u.length->Aa h (u.getD i 0) (v.getD i 0)=true)->Ml h v<=Ml h u/\(v≠u->Ml h v<Ml h u)
 | [],[],_,_,_,_=>⟨Of _,λe=>absurd rfl e⟩
 | [],_ :: _,e,_,_,_=>by cases e
 | _ :: _,[],e,_,_,_=>by cases e
 | a :: u,b :: v,e,hu,m,hs=>by
  obtain⟨n,k⟩:=gM hk hi (u:=u) (v:=v) (by simpa using e) (λt d=>hu t (by simp[d])) (λt d=>m t (by simp[d])) λi p=>hs (i+1) (by simp only[IS];omega);have h0:Aa h a b=true:=hs 0 sc;obtain⟨f,g⟩:=hu a sc;obtain⟨j,b1⟩:=m b sc;have h1:=u9 hk f g j b1 h0;have o:=λc=>pK hk hi f g j b1 h0 c;unfold Ml at n k ⊢;simp only[iS,ACD];refine⟨by omega,λc=>?_⟩;by_cases l:b=a
  .subst l;have:=k λe=>c (by rw[e]);omega
  have:=o l;omega
theorem qD (hk:Fd h) (hi:HA h) {m:Nat} {u:List Int} (hu:Gl h m u) (a:Gl h m v) (hs:FL h m u v):Ml h v<=Ml h u/\(v≠u->Ml h v<Ml h u) :=
 gM hk hi (hu.1.trans a.1.symm) hu.2 a.2 λi b=>hs i (by rw[<-hu.1];exact b)
theorem Gl.set {m:Nat} {u:List Int} (hu:Gl h m u) {t:Int} (b:0<=t) (c:t<(h.1.length:Int)) (i:Nat):Gl h m (u.set i t):=⟨by rw[AAk];exact hu.1,λx a=>by
 rcases AAV a with a|rfl
 .exact hu.2 x a
 exact⟨b,c⟩⟩
theorem FL.set (hk:Fd h) {m:Nat} {u:List Int} (hu:Gl h m u) {t:Int} {i:Nat} (hi:i<m) (hs:Aa h (u.getD i 0) t=true):FL h m u (u.set i t):=λk a=>by
 rw[GJ _ _ _ (by rw[hu.1];exact hi) k];split
 .rename_i e;rw[e];exact hs
 exact TA hk (hu.get a).1 (hu.get a).2
theorem FL.set2 {m:Nat} {u:List Int} (hu:u.length=m) (b:FL h m u v) {t:Int} {i:Nat} (hi:i<m) (hs:Aa h t (v.getD i 0)=true):FL h m (u.set i t) v:=λk a=>by
 rw[GJ _ _ _ (by rw[hu];exact hi) k];split
 .rename_i e;rw[e];exact hs
 exact b k a
section
variable {h:AE} (hk:Fd h) (hn:mD h) (hi:HA h) (hf:bD h) (hap:HAp h) {m:Nat}
include hk hn hi hf hap
theorem mM (n0:0<=n) (n1:n<(m:Int)) {ty i:List Int} (b:Gl h m ty) (ha:FJ h m a) (e:r6F h ty n a=some i) :
  Gl h m i/\FL h m ty i/\(i=ty->(Bx h (ty.getD n.toNat 0) a.1).2=true/\Aa h (Bx h (ty.getD n.toNat 0) a.1).1 (ty.getD a.2.toNat 0)=true):=by
 obtain⟨⟨r,s⟩,I,b1⟩:=ha;have l:n.toNat<m:=by omega
 have k:a.2.toNat<m:=by omega
 obtain⟨x,y⟩:=b.get l;obtain⟨z,A⟩:=Gh hf r s;unfold r6F at e;split at e
 .cases e
 rename_i h1;have h1:(t6F h ty n a).2=true:=by simpa using h1
 split at e
 .cases e
 rename_i j;have j:(u6F h ty n a).2=true:=by simpa using j
 injection e with e
 obtain⟨p0,q,B,C⟩:=(HP hk hn x y z A).1 h1;have c:Gl h m (v9 h ty n a):=b.set p0 q _;have t:=(hap.iff _ _ p0 q r s).2 C;obtain⟨v0,v1⟩:=Ez hf p0 q t;obtain⟨D,E⟩:=c.get k;obtain⟨F,G,H,g⟩:=(HP hk hn D E v0 v1).1 j;have u:Gl h m (z6F h ty n a):=c.set F G _;have v:FL h m ty (v9 h ty n a):=FL.set hk b l B;have p:FL h m (v9 h ty n a) (z6F h ty n a):=FL.set hk c k H;subst e;refine⟨u,v.trans hk b c u p,λe=>?_⟩;have w:v9 h ty n a=ty:=FL.anti hi c b (by rw[e]at p;exact p) v;have d:(v9 h ty n a).getD n.toNat 0=(t6F h ty n a).1:=by
  unfold v9;rw[GJ _ _ _ (by rw[b.1];exact l),BY rfl]
 have f:(z6F h ty n a).getD a.2.toNat 0=(u6F h ty n a).1:=by
  unfold z6F;rw[GJ _ _ _ (by rw[c.1];exact k),BY rfl]
 rw[w]at d;rw[e]at f;replace d:=d.symm;replace f:=f.symm;have o:=t;change (Bx h (t6F h ty n a).1 a.1).2=true at o;change Aa h (Bx h (t6F h ty n a).1 a.1).1 (u6F h ty n a).1=true at g;rw[d]at o g;rw[f]at g;exact⟨o,g⟩
theorem A7r (n0:0<=n) (n1:n<(m:Int)) {ty u:List Int} (j:Gl h m ty) (hu:Gl h m u) (p:FL h m ty u) (ha:FJ h m a) (C:(Bx h (u.getD n.toNat 0) a.1).2=true/\Aa h (Bx h (u.getD n.toNat 0) a.1).1 (u.getD a.2.toNat 0)=true) :
  ∃x,r6F h ty n a=some x/\FL h m x u:=by
 have _:=hi;obtain⟨⟨c,d⟩,H,b1⟩:=ha;have e:n.toNat<m:=by omega
 have b:a.2.toNat<m:=by omega
 obtain⟨k,l⟩:=j.get e;obtain⟨g,i⟩:=hu.get e;obtain⟨v,w⟩:=Gh hf c d;obtain⟨q,B⟩:=C;obtain⟨h1,o⟩:=(HP hk hn k l v w).2 _ g i (p _ e) ((hap.iff _ _ g i c d).1 q);obtain⟨p0,f,I,D⟩:=(HP hk hn k l v w).1 h1;have s:Gl h m (v9 h ty n a):=j.set p0 f _;have r:=(hap.iff _ _ p0 f c d).2 D;obtain⟨v0,v1⟩:=Ez hf p0 f r;obtain⟨w0,G⟩:=Ez hf g i q;have t:FL h m (v9 h ty n a) u:=FL.set2 j.1 p e o;obtain⟨E,F⟩:=s.get b;have A:=hap.mono _ _ a.1 p0 f g i c d o r;obtain⟨y,z⟩:=(HP hk hn E F v0 v1).2 _ (hu.get b).1 (hu.get b).2 (t _ b) (Ff hk v0 v1 w0 G (hu.get b).1 (hu.get b).2 A B);refine⟨z6F h ty n a,?_,FL.set2 s.1 t b z⟩;unfold r6F;rw[As (by show ¬(Cj h _ _).2=false;rw[h1];simp),As (by show ¬(Cj h _ _).2=false;rw[show (Cj h ((v9 h ty n a).getD a.2.toNat 0) (Bx h (t6F h ty n a).1 a.1).1).2=true from y];simp)]
theorem V4 {n:Int} (n0:0<=n) (n1:n<(m:Int)):∀ {l:List (Int×Int)} {ty c:List Int},(∀a∈l,FJ h m a)->Gl h m ty->Hz h n l ty=some c->Gl h m c/\FL h m ty c/\(c=ty->Vu h ty n l)
 | [],ty,c,_,d,e=>by
  injection e with e
  subst e;exact⟨d,FL.refl hk d,λ_ a ha=>by cases ha⟩
 | a :: l,ty,c,o,d,e=>by
  unfold Hz at e;cases g:r6F h ty n a with
  | none=>rw[g]at e;cases e
  | some ty1 =>
   rw[g]at e;have e:Hz h n l ty1=some c:=e;obtain⟨j,p,s⟩:=mM hk hn hi hf hap n0 n1 d (o a sc) g;obtain⟨q,i,t⟩:=V4 n0 n1 (λb f=>o b (IF _ f)) j e;refine⟨q,p.trans hk d j q i,λk=>?_⟩;have r:ty1=ty:=FL.anti hi j d (by rw[k]at i;exact i) p;subst r;intro b f;rcases DO.1 f with rfl|f
   .exact s rfl
   exact t k b f
theorem gN {n:Int} (n0:0<=n) (n1:n<(m:Int)) {u:List Int} (hu:Gl h m u):∀ {l:List (Int×Int)} {ty:List Int},(∀a∈l,FJ h m a)->Gl h m ty->FL h m ty u->Vu h u n l->∃j,Hz h n l ty=some j/\FL h m j u
 | [],ty,_,_,e,_=>⟨ty,rfl,e⟩
 | a :: l,ty,d,g,e,i=>by
  obtain⟨ty1,f,h1⟩:=A7r hk hn hi hf hap n0 n1 g hu e (d a sc) (i a sc);obtain⟨p,-,-⟩:=mM hk hn hi hf hap n0 n1 g (d a sc) f;obtain⟨s9,k,o⟩:=gN n0 n1 hu (λb c=>d b (IF _ c)) p h1 λb c=>i b (IF _ c);exact⟨s9,by unfold Hz;rw[f];exact k,o⟩
theorem V5:∀ {r:List AD} {i:Nat} {ty b:List Int},i+r.length<=m->(∀x∈r,∀a∈x.2,FJ h m a)->Gl h m ty->JZ h r i ty=some b->Gl h m b/\FL h m ty b/\(b=ty->∀j,j<r.length->Vu h ty ((i+j:Nat):Int) (r.getD j (0,[])).2)
 | [],i,ty,b,_,_,c,e=>by
  injection e with e
  subst e;exact⟨c,FL.refl hk c,λ_ j f=>by simp at f⟩
 | x :: r,i,ty,b,q,ha,c,e=>by
  simp only[IS]at q;unfold JZ at e;cases d:Hz h (i:Int) x.2 ty with
  | none=>rw[d]at e;cases e
  | some ty1 =>
   rw[d]at e;have e:JZ h r (i+1) ty1=some b:=e;obtain⟨k,n,t⟩:=V4 hk hn hi hf hap (AAh _) O1 (ha x sc) c d;obtain⟨o,g,u⟩:=V5 O1 (λy s=>ha y (IF _ s)) k e;refine⟨o,n.trans hk c k o g,λl=>?_⟩;have p:ty1=ty:=FL.anti hi k c (by rw[l]at g;exact g) n;subst p;intro j f;cases j with
   | zero=>exact t rfl
   | succ j =>
    have:=u l j (by simpa using f);rw[show i+1+j=i+(j+1) by omega]at this;exact this
theorem gP {u:List Int} (hu:Gl h m u):∀ {r:List AD} {i:Nat} {ty:List Int},i+r.length<=m->(∀x∈r,∀a∈x.2,FJ h m a)->Gl h m ty->FL h m ty u->(∀j,j<r.length->Vu h u ((i+j:Nat):Int) (r.getD j (0,[])).2)->∃f,JZ h r i ty=some f/\FL h m f u
 | [],i,ty,_,_,_,b,_=>⟨ty,rfl,b⟩
 | x :: r,i,ty,n,ha,d,b,e=>by
  simp only[IS]at n;obtain⟨ty1,c,h1⟩:=gN hk hn hi hf hap (AAh i) O1 hu (ha x sc) d b (e 0 sc);obtain⟨p,-,-⟩:=V4 hk hn hi hf hap (AAh i) O1 (ha x sc) d c;obtain⟨s9,g,k⟩:=gP hu (r:=r) (i:=i+1) O1 (λy o=>ha y (IF _ o)) p h1 λj l=>by
   have:=e (j+1) (by simpa using l);rw[show i+(j+1)=i+1+j by omega]at this;exact this
  exact⟨s9,by unfold JZ;rw[c];exact g,k⟩
end
section
variable {h:AE} (hk:Fd h) (hn:mD h) (hi:HA h) (hf:bD h) (hap:HAp h) {f:List AD} (ha:Lx h f)
include hk hn hi hf hap ha
theorem RE:∀ {k:Nat} {ty v:List Int},Gl h f.length ty->Kq h f k ty=some v->v8 h f v/\FL h f.length ty v/\Gl h f.length v
 | 0,_,_,_,e=>by cases e
 | k+1,ty,v,c,e=>by
  unfold Kq at e;cases a:JZ h f 0 ty with
  | none=>rw[a]at e;cases e
  | some ty1 =>
   rw[a]at e;have e:(if ty1=ty then some ty1 else Kq h f k ty1)=some v:=e;obtain⟨b,d,p⟩:=V5 hk hn hi hf hap O1 ha c a;split at e
   .rename_i j;have m:ty1=v:=Option.some.inj e;subst j;subst m;refine⟨λi l=>?_,d,b⟩;have:=p rfl i l
    rwa [AAH]at this
   obtain⟨n,o,g⟩:=RE b e;exact⟨n,d.trans hk c b g o,g⟩
theorem gQ {u:List Int} (hu:Gl h f.length u) (d:v8 h f u):∀ {k:Nat} {ty:List Int},Gl h f.length ty->Ml h ty<k->FL h f.length ty u->∃v,Kq h f k ty=some v/\FL h f.length v u
 | 0,ty,_,m,_=>by omega
 | k+1,ty,b,m,l=>by
  obtain⟨ty1,c,h1⟩:=gP hk hn hi hf hap hu (r:=f) (i:=0) O1 ha b l λj g=>by rw[AAH];exact d j g
  obtain⟨e,n,-⟩:=V5 hk hn hi hf hap O1 ha b c;unfold Kq;rw[c];show ∃v,(if ty1=ty then some ty1 else Kq h f k ty1)=some v/\_;by_cases a:ty1=ty
  .rw[BY a];exact⟨ty1,rfl,h1⟩
  rw[As a];have:=(qD hk hi b e n).2 a;exact gQ hu d e O1 h1
theorem A4y (c:∀x∈f,0<=x.1/\x.1<(h.1.length:Int)):HC h f=E9 h f:=by
 have h0:Gl h f.length (Ay f):=(fR c).tyl;have m:Ml h (Ay f)<Hw h f:=by have:=Zz h f;omega
 cases e:E9 h f with
 | some ty =>
  obtain⟨w,l,t⟩:=Vv hk hi hf hap ha c e;obtain⟨v,b,k⟩:=gQ hk hn hi hf hap ha t w h0 m l;obtain⟨i,g,d⟩:=RE hk hn hi hf hap ha h0 b;obtain⟨s9,a,j⟩:=L7 hk hi hf hap ha c d i g;rw[e]at a;injection a with a
  subst a;unfold HC;rw[b,FL.anti hi d t k j]
 | none =>
  cases b:HC h f with
  | none=>rfl
  | some v =>
   obtain⟨i,g,d⟩:=RE hk hn hi hf hap ha h0 b;obtain⟨s9,a,-⟩:=L7 hk hi hf hap ha c d i g;rw[e]at a;cases a
end
section
attribute [local go_sem] Vo NM
def mN:AW:={ ins:=[Br,Br],pre:=λ(a,b,_)=>List.length a=List.length b,out:=λ(a,b,_)=>[.p .bool (decide (a=b))],lend:=true }
theorem vA (h:AE) (hk:Fd h) (hn:mD h) (hf:bD h) (hap:HAp h) {m:Nat} {ty:List Int} (g:Gl h m ty) (n0:0<=n) (n1:n<(m:Int)) (ha:FJ h m a) :
  A5 Tryz.prog 95 [.p FK h,.sr 1000000 T3 0 ty.length,.p T3 n,.p C7 a] [(1000000,.arr 3 T3 ty)] [1000000]
  (λres u=>(r6F h ty n a=none/\res=.p .bool false/\∃c,u=[(1000000,.arr 3 T3 c)])\/∃c,r6F h ty n a=some c/\res=.p .bool true/\u=[(1000000,.arr 3 T3 c)]):=by
 have q:∀x∈h.1,x.2.1.length<=100000:=λx y=>gO (hk.1.wid x.2.1 (IN.2 ⟨x,y,rfl⟩)) O1;obtain⟨⟨d,e⟩,k,b1⟩:=ha;obtain⟨l,o⟩:=g.get (show n.toNat<m by omega);obtain⟨s,t⟩:=Gh hf d e;have v:ty.length=m:=g.1;subst v;have r:r6F h ty n a=if (t6F h ty n a).2=false then none else if (u6F h ty n a).2=false then none else some (z6F h ty n a):=rfl
 have i:=HP hk hn l o s t;refine Ix [0,1,2,3,4,7,8,9,10,11,13,14,32] [] [] Tryz.func95 Tryz.ntmps95 (AF A1f (AF A0M AH)) ?_;intro w0 K O0 ρ0 f D E;simp only[Ai];repeat'(first|exact trivial|apply eS rfl|refine rX f ?_ ?_|refine rC ?_ ?_<;>intro b<;>try(cases b;done))
 .exact⟨⟨n0,n1⟩,⟨d,e⟩,⟨l,o⟩,⟨s,t⟩,q⟩
 .refine Ev.ent (σ':=⟨[(8,.p .bool false)],[(1000000,.arr 3 T3 ty)]⟩) ?_ (AC [(1000000,.nm 1000000)] rfl rfl ?_ ?_);exact fM f [.tmp 8] (.p .bool false) eT (.inl ⟨by rw[r];exact BY b,rfl,ty,rfl⟩);all_goals exact eN
 .exact⟨n0,n1⟩
 .exact⟨(i.1 b).1,(i.1 b).2.1⟩
 .obtain⟨p0,j,F,A⟩:=i.1 b;have z:Gl h ty.length (v9 h ty n a):=g.set p0 j _;have w:=(hap.iff _ _ p0 j d e).2 A;obtain⟨v0,v1⟩:=Ez hf p0 j w;obtain⟨B,C⟩:=z.get (show a.2.toNat<ty.length by omega);exact⟨⟨k,b1⟩,⟨B,C⟩,⟨v0,v1⟩,q⟩
 .exact⟨k,b1⟩
 refine Ev.ent (σ':=⟨[(8,.p .bool (u6F h ty n a).2)],[(1000000,.arr 3 T3 (z6F h ty n a))]⟩) ?_ (AC [(1000000,.nm 1000000)] rfl rfl ?_ ?_);refine fM f [.tmp 8] (.p .bool (u6F h ty n a).2) eT ?_
 .rw[r,As (show ¬(t6F h ty n a).2=false by rw[show (t6F h ty n a).2=true from b];simp)];cases hu:(u6F h ty n a).2
  .exact .inl ⟨by simp,rfl,_,rfl⟩
  exact .inr ⟨_,by simp,rfl,rfl⟩
 all_goals refine eM ?_
 .rfl
 rfl
theorem A1u:AY Tryz.prog 96 mN:=by
 refine fK [0,1,4,5,9,20] Tryz.func96 Tryz.ntmps96 AH ?_;rintro w0 O0 ⟨a,b,u⟩ d ⟨⟨j,-⟩,-⟩ f;simp only[AO]at j;have f:List.length a=List.length b:=f;simp only[mN,AL];repeat'(first|exact trivial|apply eS rfl|refine rX d ?_ ?_)
 refine AI (ι:={k:Nat//k<=List.length a/\(a:List Int).take k=(b:List Int).take k}) (λk=>⟨[(0,.p Br a),(1,.p Br b),(5,.p (.int .i64) (k.1:Int))],[]⟩) (λk=>List.length a-k.1) ⟨0,By _,rfl⟩ (eW []) (λk=>?_)
 obtain⟨k,hk,h⟩:=k;repeat'(first|exact trivial|apply eS rfl|apply AB|refine rX d ?_ ?_|refine rC ?_ ?_<;>intro g<;>try(cases g;done))
 .exact⟨by assumption,by rw[<-f];assumption⟩
 .have c:k<List.length a:=by exact eV
  have l:(a:List Int)≠b:=λe=>g (by rw[e]);exact fI d [.tmp 4] (by rw[ACk l];exact eR)
 .exact eV
 .have c:k<List.length a:=by exact eV
  refine⟨⟨k+1,c,?_⟩,by simp only;omega,AC [] rfl rfl ?_ ?_⟩
  .have e:List.getD a k 0=List.getD b k 0:=by simpa using g
   rw[Ag (a:List Int) 0 c,Ag (b:List Int) 0 O1,h,e]
  .exact eN
  exact eN
 have c:k=List.length a:=by exact eV
 have i:(a:List Int)=b:=by
  rw[c,oF,f,oF]at h;exact h
 exact fI d [.tmp 4] (by rw[AB0 i];exact eR)
end
section
attribute [local go_sem] mN
theorem vB (h:AE) (hk:Fd h) (hn:mD h) (hf:bD h) (hap:HAp h) (hi:HA h) (f:List AD) (ha:Lx h f) (W:∀x∈f,0<=x.1/\x.1<(h.1.length:Int)) (ab:f.length<=100000) (V:∀x∈f,x.2.length<=100000) :
  A5 Tryz.prog 51 [.p FK h,.p Fm f] [] []
  (λres F=>(HC h f=none/\res=.tup [.p Fm [],.p .bool false]/\F=[(4,.box 34 true [.p JD []])])\/∃ty,HC h f=some ty/\res=.tup [.ag [.sr 89 Md 0 f.length],.p .bool true]/\F=[(89,.arr 57 Md (CD f ty)),(4,.box 34 true [.sr 89 Md 0 f.length])]):=by
 have h0:Gl h f.length (Ay f):=(fR W).tyl;have S:Ml h (Ay f)<Hw h f:=by have:=Zz h f;omega
 refine Ix [0,1,2,3,4,5,6,7,8,9,10,11,12,13,14,19,31,39,51,62,72] [] [] Tryz.func51 Tryz.ntmps51 (AF A1u AH) ?_;intro w0 K O0 ρ0 c af ah;simp only[Ai];repeat'(first|exact trivial|apply eS rfl|refine rX c ?_ ?_)
 refine AI (ι:={i:Nat//i<=f.length}) (λi=>⟨[(2,.bp 2 [] 0),(3,.bp 3 [] 0),(4,.bp 4 [] 0),(6,.sr 30 T3 0 i.1),(7,.p (.int .i64) (i.1:Int))],[(2,.box 26 true [.p OW h.1,.p QC h.2]),(3,.box 34 true [.p JD f]),(4,.box 34 true [.raw (.slice none 0 0)]),(30,.arr 3 T3 ((Ay f).take i.1))]⟩) (λi=>f.length-i.1) ⟨0,By _⟩ (eW [(2,.nm 2),(3,.nm 3),(4,.nm 4),(30,.nil)]) (λi=>?_)
 obtain⟨i,aa⟩:=i;repeat'(first|exact trivial|apply eS rfl|apply AB|refine rX c ?_ ?_|refine rC ?_ ?_<;>intro a<;>try(cases a;done))
 .exact⟨a,by simp only[AO];omega⟩
 .exact eV
 .have s:i<f.length:=iF.1 a;have tl:((Ay f).take i).length=i:=by rw[OR];simp[Ay];omega
  have ts:(Ay f).take i++[(f.getD i (0,[])).1]=(Ay f).take (i+1):=by
   rw[Ag (Ay f) 0 (by simpa[Ay] using s)];simp[Ay,AS,s]
  refine⟨⟨i+1,s⟩,by simp only;omega,AC [(2,.nm 2),(3,.nm 3),(4,.nm 4),(30,.nm 30)] rfl rfl ?_ ?_⟩
  .simp only[<-ts];refine eM ?_;simp only[ABM,Nat.min_self]
  exact eN
 have s:i=f.length:=by
  have:=AAe.1 a;omega
 subst s;rw[show (Ay f).take f.length=Ay f from At (by simp[Ay])];refine AI (ι:={x:Bool×Nat×List Int//Gl h f.length x.2.2/\x.2.1<=Hw h f/\((x.1=true/\Kq h f x.2.1 x.2.2=HC h f/\Ml h x.2.2<x.2.1)\/(x.1=false/\HC h f=some x.2.2))}) (λx=>⟨[(2,.bp 2 [] 0),(3,.bp 3 [] 0),(4,.bp 4 [] 0),(6,.sr 30 T3 0 f.length),(8,.p .bool x.1.1)],[(2,.box 26 true [.p OW h.1,.p QC h.2]),(3,.box 34 true [.p JD f]),(4,.box 34 true [.raw (.slice none 0 0)]),(30,.arr 3 T3 x.1.2.2)]⟩) (λx=>(if x.1.1 then x.1.2.1+1 else 0)) ⟨(true,Hw h f,Ay f),h0,Of _,.inl ⟨rfl,rfl,S⟩⟩ (eW [(2,.nm 2),(3,.nm 3),(4,.nm 4),(30,.nm 30)]) (λx=>?_)
 obtain⟨⟨b,k,ty⟩,e,Q,E⟩:=x;simp only at e Q E ⊢;repeat'(first|exact trivial|apply eS rfl|refine rX c ?_ ?_|refine rC ?_ ?_<;>intro a<;>try(cases a;done))
 .have:=e.1;rw[OR];simp only[AO];omega
 .obtain⟨G,m,ai⟩|⟨h1,-⟩:=E
  .have A:ty.take f.length=ty:=At (ACa e.1);rw[A];obtain⟨k,rfl⟩:∃X,k=X+1:=⟨k-1,by omega⟩;refine AI (ι:={y:Nat×List Int//y.1<=f.length/\Gl h f.length y.2/\FL h f.length ty y.2/\JZ h (f.drop y.1) y.1 y.2=JZ h f 0 ty}) (λy=>⟨[(2,.bp 2 [] 0),(3,.bp 3 [] 0),(4,.bp 4 [] 0),(6,.sr 30 T3 0 f.length),(9,.sr 32 T3 0 f.length),(10,.p (.int .i64) (y.1.1:Int))],[(2,.box 26 true [.p OW h.1,.p QC h.2]),(3,.box 34 true [.p JD f]),(4,.box 34 true [.raw (.slice none 0 0)]),(30,.arr 3 T3 y.1.2),(32,.arr 3 T3 ty)]⟩) (λy=>f.length-y.1.1) ⟨(0,ty),By _,e,FL.refl hk e,rfl⟩ (AC [(2,.nm 2),(3,.nm 3),(4,.nm 4),(30,.nm 30),(32,.nm 32)] rfl rfl ?_ ?_) (λy=>?_)
   .simp only[A,e.1];exact eN
   .refine eM ?_;exact e.1
   obtain⟨⟨j,ty1⟩,H,o,C,g⟩:=y;simp only at H o C g ⊢;repeat'(first|exact trivial|apply eS rfl|apply AB|refine rX c ?_ ?_|refine rC ?_ ?_<;>intro a<;>try(cases a;done))
   .exact a
   .have v:j<f.length:=iF.1 a;have I:f.getD j (0,[])∈f:=by
     rw[AS,AT v];exact AAm _
    have N:=ha _ I;have ad:=V _ I;have P:f.drop j=f.getD j (0,[]) :: f.drop (j+1):=by
     rw[OF v,AS,AT v];rfl
    rw[P]at g;have g:(Hz h (j:Int) (f.getD j (0,[])).2 ty1).bind (JZ h (f.drop (j+1)) (j+1))=JZ h f 0 ty:=g;generalize (f.getD j (0,[])).2=l at *;refine AI (ι:={z:Nat×List Int//z.1<=l.length/\Gl h f.length z.2/\FL h f.length ty z.2/\Hz h (j:Int) (l.drop z.1) z.2=Hz h (j:Int) l ty1}) (λz=>⟨[(2,.bp 2 [] 0),(3,.bp 3 [] 0),(4,.bp 4 [] 0),(6,.sr 30 T3 0 f.length),(9,.sr 32 T3 0 f.length),(10,.p (.int .i64) (j:Int)),(11,.p Mx l),(12,.p (.int .i64) (z.1.1:Int))],[(2,.box 26 true [.p OW h.1,.p QC h.2]),(3,.box 34 true [.p JD f]),(4,.box 34 true [.raw (.slice none 0 0)]),(30,.arr 3 T3 z.1.2),(32,.arr 3 T3 ty)]⟩) (λz=>l.length-z.1.1) ⟨(0,ty1),By _,o,C,rfl⟩ (eW [(2,.nm 2),(3,.nm 3),(4,.nm 4),(30,.nm 30),(32,.nm 32)]) (λz=>?_)
    obtain⟨⟨q,s9⟩,T,r,D,d⟩:=z;simp only at T r D d ⊢;repeat'(first|exact trivial|apply eS rfl|apply AB|refine rX c ?_ ?_|refine rC ?_ ?_<;>intro a<;>try(cases a;done))
    .have w:q<l.length:=iF.1 a;have J:FJ h f.length (l.getD q (0,0)):=N _ (by
      rw[AS,AT w];exact AAm _)
     have O:l.drop q=l.getD q (0,0) :: l.drop (q+1):=by
      rw[OF w,AS,AT w];rfl
     rw[O]at d;have d:(r6F h s9 (j:Int) (l.getD q (0,0))).bind (Hz h (j:Int) (l.drop (q+1)))=Hz h (j:Int) l ty1:=d;refine cD 7 c ?_ ?_
     .exact a
     refine rM c (vA h hk hn hf hap r (AAh j) O1 J) [(1000000,.nm 30)] [] ?_ ?_ ?_
     .refine eM ?_;exact r.1.symm
     .exact eN
     rintro res F (⟨t,rfl,B,rfl⟩|⟨B,t,rfl,rfl⟩)
     .refine⟨[(30,.nm 1000000)],.p .bool false,[(30,.arr 3 T3 B)],rfl,rfl,?_,?_,rfl,rfl,?_⟩
      .exact eN
      .exact eN
      refine rL c ?_ ?_
      .trivial
      repeat'(first|exact trivial|apply eS rfl|refine rX c ?_ ?_|refine rC ?_ ?_<;>intro a<;>try(cases a;done))
      have d:none=Hz h (j:Int) l ty1:=by rw[<-d,t];rfl
      have R:HC h f=none:=by
       rw[<-m];unfold Kq;rw[<-g,<-d];rfl
      refine Ev.ent (σ':=⟨[(4,.bp 4 [] 0),(5,.p .bool false)],[(4,.box 34 true [.p JD []])]⟩) ?_ (AC [(4,.nm 4)] rfl rfl ?_ ?_)
      .exact fM c [.cell 4 34,.tmp 5] (.tup [.p Fm [],.p .bool false]) eT (.inl ⟨R,rfl,rfl⟩)
      .exact eN
      exact eN
     obtain⟨M,Y,-⟩:=mM hk hn hi hf hap (AAh j) O1 r J t;rw[t]at d;refine⟨[(30,.nm 1000000)],.p .bool true,[(30,.arr 3 T3 B)],rfl,rfl,?_,?_,rfl,rfl,?_⟩
     .exact eN
     .exact eN
     refine rL c ?_ ?_
     .trivial
     repeat'(first|apply eS rfl|apply AB|refine rX c ?_ ?_|refine rC ?_ ?_<;>intro a<;>try(cases a;done))
     .exact eV
     exact⟨⟨(q+1,B),w,M,D.trans hk e r M Y,d⟩,by simp only;omega,eW [(2,.nm 2),(3,.nm 3),(4,.nm 4),(30,.nm 30),(32,.nm 32)]⟩
    .exact eV
    have U:q=l.length:=by
     have:=AAe.1 a;omega
    subst U;rw[ABR]at d;have d:some s9=Hz h (j:Int) l ty1:=d;rw[<-d]at g;exact⟨⟨(j+1,s9),v,r,D,g⟩,by simp only;omega,eW [(2,.nm 2),(3,.nm 3),(4,.nm 4),(30,.nm 30),(32,.nm 32)]⟩
   .rw[A,At (ACa o.1),e.1,o.1]
   have n:j=f.length:=by
    have:=AAe.1 a;omega
   subst n;rw[ABR]at g;have g:some ty1=JZ h f 0 ty:=g;have Z:ty1.take f.length=ty1:=At (ACa o.1);have m:(if ty1=ty then some ty1 else Kq h f k ty1)=HC h f:=by
    rw[<-m]
    conv=>rhs;unfold Kq
    rw[<-g];rfl
   by_cases u:ty=ty1
   .subst u;rw[BY rfl]at m;exact⟨⟨(false,k,ty),e,by show k<=_;omega,.inr ⟨rfl,m.symm⟩⟩,by simp[G],eW [(2,.nm 2),(3,.nm 3),(4,.nm 4),(30,.nm 30)]⟩
   rw[As (ACQ u)]at m;have ae:=(qD hk hi e o C).2 (ACQ u);refine⟨⟨(true,k,ty1),o,by show k<=_;omega,.inl ⟨rfl,m,by show Ml h ty1<k;omega⟩⟩,by simp[G],AC [(2,.nm 2),(3,.nm 3),(4,.nm 4),(30,.nm 30)] rfl rfl ?_ ?_⟩
   .exact eN
   refine eM ?_;rw[A,Z];simp[u]
  simp[a]at h1
 obtain⟨h1,-,-⟩|⟨-,m⟩:=E
 .simp[a]at h1
 have L:(CD f ty).length=f.length:=CV f ty;refine AI (ι:={j:Nat//j<=f.length}) (λj=>⟨[(3,.bp 3 [] 0),(4,.bp 4 [] 0),(6,.sr 30 T3 0 f.length),(13,.bp 13 [] 0),(14,.p (.int .i64) (j.1:Int))],[(3,.box 34 true [.p JD f]),(4,.box 34 true [.raw (.slice none 0 0)]),(13,.box 34 true [.sr 89 Md 0 j.1]),(30,.arr 3 T3 ty),(89,.arr 57 Md ((CD f ty).take j.1))]⟩) (λj=>f.length-j.1) ⟨0,By _⟩ (eW [(3,.nm 3),(4,.nm 4),(13,.nm 13),(30,.nm 30),(89,.nil)]) (λj=>?_)
 obtain⟨j,H⟩:=j;have tl:((CD f ty).take j).length=j:=by rw[OR];omega
 repeat'(first|exact trivial|apply eS rfl|apply AB|refine rX c ?_ ?_|refine rC ?_ ?_<;>intro a<;>try(cases a;done))
 .exact⟨a,a,by simp only[AO];omega⟩
 .exact eV
 .have n:j<f.length:=iF.1 a;have ts:(CD f ty).take j++[(ty.getD j 0,(f.getD j (0,[])).2)]=(CD f ty).take (j+1):=by
   rw[Ag (CD f ty) (0,[]) (by rw[L];exact n),GI f ty n]
  refine⟨⟨j+1,n⟩,by simp only;omega,AC [(3,.nm 3),(4,.nm 4),(13,.nm 13),(30,.nm 30),(89,.nm 89)] rfl rfl ?_ ?_⟩
  .simp only[<-ts];refine eM ?_;simp only[ABM,Nat.min_self]
  exact eN
 have n:j=f.length:=by
  have:=AAe.1 a;omega
 subst n;rw[show (CD f ty).take f.length=CD f ty from At (ACa L)];refine Ev.ent (σ':=⟨[(4,.bp 4 [] 0),(5,.p .bool true)],[(89,.arr 57 Md (CD f ty)),(4,.box 34 true [.sr 89 Md 0 f.length])]⟩) ?_ (AC [(89,.nm 89),(4,.nm 4)] rfl rfl ?_ ?_)
 .exact fM c [.cell 4 34,.tmp 5] (.tup [.ag [.sr 89 Md 0 f.length],.p .bool true]) eT (.inr ⟨ty,m,rfl,rfl⟩)
 .exact eN
 exact eN
end
section
attribute [local go_sem] Vb
theorem A7s (hh:H14 h) (a:VF h f):A0V h f:=⟨hh.ok,hh.inj,hh.ft,gO hh.b2 dg,a.good,aD a,a.ty⟩
noncomputable def aE (h:AE) (a b:List AD):List AD×Bool:=if (KP h a b).2=true then Cv h (KP h a b).1 else ([],false)
end
theorem A1v (hk:Fd h) {N:List AD} {P:List (Int×Int)}:∀(k:Nat) (p ty:List Int) (ar:List (List (Int×Int))) (W:List (Int×Int)),JI h N P p ty ar W->nR p*((KN N).length+1)+W.length<=k ->
  (∃E G o,JI h N P E G o [])\/(∀X v,Db h X->¬uR h N P X v):=by
 intro k;induction k with
 | zero =>
  intro p ty ar W c g;have:W=[]:=AAa O1;subst this;exact .inl ⟨p,ty,ar,c⟩
 | succ k l =>
  intro p ty ar W c g;cases j:W.getLast? with
  | none =>
   have:W=[]:=List.getLast?_eq_none_iff.1 j;subst this;exact .inl ⟨p,ty,ar,c⟩
  | some w =>
   have r:W=W.dropLast++[w]:=by
    obtain⟨K,e⟩:=List.getLast?_eq_some_iff.1 j;rw[e];simp
   obtain⟨s,t⟩:=w;rw[r]at c g;rw[Do,nO]at g;generalize W.dropLast=V at *;obtain⟨⟨m,s1⟩,n,F⟩:=c.wr (s,t) sc;simp only at m s1 n F;obtain⟨M,fo⟩:=c.fo;have lp:=c.lp;obtain⟨a,ha,H,I⟩:=fo.root m O1;obtain⟨b,d,q,b1⟩:=fo.root n O1;by_cases f:a=b
   .subst f;exact l p ty ar V (A4f c ha d) O1
   cases i:(Cn h (ty.getD a.toNat 0) (ty.getD b.toNat 0)).2 with
   | false =>
    right;intro X v u C;have:=(pQ hk c ha d u C).2.1;rw[i]at this;cases this
   | true =>
    have z:=A12 hk c ha d f i;refine l _ _ _ _ z ?_;have B:=A4g (a:=a) q b1 d.root f;have A:=pR (c.srt a.toNat) (λx D=>(c.arr a.toNat x D).2);have L:=gO (TD (x:=ar.getD a.toNat []) (y:=ar.getD b.toNat [])) A;have J:nR p*((KN N).length+1)=nR (p.set b.toNat a)*((KN N).length+1)+((KN N).length+1):=by rw[<-B,AC4,Nat.one_mul]
    rw[Do];omega
theorem YZ {h:AE} (hk:Fd h) {N:List AD}:∀(R P:List (Int×Int)) (p ty:List Int) (ar:List (List (Int×Int))),(∀q∈R,(0<=q.1/\q.1<(N.length:Int))/\(0<=q.2/\q.2<(N.length:Int)))->JI h N P p ty ar [] ->
  (∃l r g,JI h N (P++R) l r g [])\/(∀X v,Db h X->¬uR h N (P++R) X v)
 | [],P,p,ty,ar,f,e=>.inl ⟨p,ty,ar,by rw[AAn];exact e⟩
 | q :: R,P,p,ty,ar,f,e=>by
  obtain⟨a,b⟩:=q;have c:=f (a,b) sc;have i:P++(a,b) :: R=P++[(a,b)]++R:=by simp
  rw[i];rcases A1v hk _ _ _ _ _ (A13 e c.1 c.2) (Of _) with ⟨m,o,n,h1⟩|k
  .exact YZ hk R (P++[(a,b)]) m o n (λq c=>f q (by simp[c])) h1
  exact .inr λX v j d=>k X v j ⟨d.rng,d.ty,d.arc,λq c=>d.eq q (AA2 _ c)⟩
theorem A4z (hu:HU h) {a b X:List AD} (va:VF h a) (c:VF h b) (l:a.length+b.length<=100000) (j:Db h X) {n o:Int->Int} (h1:SY h a X n) (f:SY h b X o):∃i,l9 h a b i:=by
 have r:=HO a b;have hap:=va.pos;have s:=c.pos;have k:=mA va.good c.good l;rcases YZ hu.ok (N:=Eh a b) [(0,(a.length:Int))] [] _ _ _ (λq d=>by
  have e:q=(0,(a.length:Int)):=by simpa using d
  subst e;simp only;omega) (A4i k (A18 va.ty c.ty) (uV va.str c.str)) with ⟨p,ty,ar,g⟩|m
 .exact⟨_,A4h va c g (A1b g O1 (A19 (va.ft64 hu) (c.ft64 hu)))⟩
 exfalso;refine m X _ j (A15 (f7 va.good c.good (TG h1) (TG f)) λq d=>?_);have e:q=(0,(a.length:Int)):=by simpa using d
 subst e;try simp only
 rw[BY O1,As O1,Int.sub_self,h1.zero,f.zero]
abbrev Wt (h:AE) (f:List AD):Prop:=VF h f/\v8 h f (Ay f)
def qE (h:AE) (l:List (List AD)) (X:List AD):Prop:=∀x∈l,∃m,SY h x X m
structure TU (h:AE) (l:List (List AD)) (U:List AD):Prop where
 wt:Wt h U
 hom:qE h l U
 least:∀X,Wt h X->qE h l X->∃m,SY h U X m
def MB (h:AE) (l:List (List AD)) (r:List AD×Bool):Prop:=(r.2=true/\TU h l r.1)\/(r=([],false)/\∀X,Wt h X->¬qE h l X)
theorem MB.congr {l l':List (List AD)} {r:List AD×Bool} (H:MB h l r) (d:∀X,Wt h X->(qE h l X↔qE h l' X)):MB h l' r:=by
 rcases H with ⟨h1,a⟩|⟨h1,a⟩
 .exact .inl ⟨h1,a.wt,(d _ a.wt).1 a.hom,λX b c=>a.least X b ((d X b).2 c)⟩
 exact .inr ⟨h1,λX b c=>a X b ((d X b).2 c)⟩
theorem A1w (hk:Fd h) {l:List (List AD)} (c:∀x∈l,VF h x) {a X:List AD} (d:VF h a) (e:VF h X) (f:qE h l a) (g:SY h a X m):qE h l X:=λx b=>by
 obtain⟨k,q⟩:=f x b;exact⟨_,Vi hk (c x b).good (c x b).ty d.ty e.ty q g⟩
theorem HD {x X:List AD}:qE h [x] X↔∃m,SY h x X m:=by simp[qE]
theorem V6 {x X:List AD} {l:List (List AD)}:qE h (x :: l) X↔(∃m,SY h x X m)/\qE h l X:=by simp[qE]
section
variable {h:AE} (hh:H14 h)
include hh
theorem A7t (c:VF h f) {ty:List Int} (e:E9 h f=some ty):Wt h (CD f ty):=by
 obtain⟨h1,a,b,-⟩:=gL hh c e;refine⟨h1,?_⟩;rw[mL b.1];intro i hi;rw[Hy];exact a i (by rw[<-CV f ty];exact hi)
theorem A4A (c:VF h f):MB h [f] (Cv h f):=by
 cases e:E9 h f with
 | some ty =>
  rw[L9 e];refine .inl ⟨rfl,A7t hh c e,HD.2 ⟨_,(gL hh c e).2.2.2⟩,λX b d=>?_⟩;obtain⟨m,g⟩:=HD.1 d;obtain⟨i,a,q⟩:=qC hh c b.1 b.2 g;rw[e]at a;cases a;exact⟨m,q⟩
 | none =>
  rw[MA e];refine .inr ⟨rfl,λX b d=>?_⟩;obtain⟨m,g⟩:=HD.1 d;obtain⟨i,a,q⟩:=qC hh c b.1 b.2 g;rw[e]at a;cases a
theorem A4B {a b:List AD} (va:VF h a) (k:VF h b) (q:a.length+b.length<=10000):MB h [a,b] (aE h a b):=by
 unfold aE;rcases aC (h:=h) a b with ⟨l,c,e⟩|⟨e,p⟩
 .rw[e,BY rfl];refine(A4A hh c.vf).congr λX g=>?_;rw[HD,V6,HD];constructor
  .rintro⟨m,o⟩;obtain⟨i,d⟩:=c.left;obtain⟨j,f⟩:=c.right;exact⟨⟨_,Vi hh.ok va.good va.ty c.vf.ty g.1.ty d o⟩,_,Vi hh.ok k.good k.ty c.vf.ty g.1.ty f o⟩
  rintro⟨⟨i,d⟩,j,f⟩;exact c.least X g.1.ty i d j f
 rw[e,As Bool.false_ne_true];refine .inr ⟨rfl,λX g n=>?_⟩;rw[V6,HD]at n;obtain⟨⟨i,d⟩,j,f⟩:=n;obtain⟨l,c⟩:=A4z hh.hu va k O1 g.1.ty d f;exact p l c
omit hh in
theorem A1x {l l':List (List AD)} (c:∀x,x∈l↔x∈l') (X:List AD):qE h l X↔qE h l' X:=⟨λa x b=>a x ((c x).2 b),λa x b=>a x ((c x).1 b)⟩
omit hh in
theorem MB.perm {l l':List (List AD)} {r:List AD×Bool} (H:MB h l r) (a:∀x,x∈l↔x∈l'):MB h l' r:=H.congr λX _=>A1x a X
omit hh in
theorem qF {a b:List AD}:(aE h a b).1.length<=a.length+b.length:=by
 unfold aE
 split
 .rename_i e
  have:=(gA e).len
  cases c:E9 h (KP h a b).1 with
  | none=>rw[MA c];simp
  | some ty=>rw[L9 c,CV];exact this
 simp
omit hh in
theorem MB.vf {l:List (List AD)} {r:List AD×Bool} (H:MB h l r) (e:r.2=true):TU h l r.1:=by
 rcases H with ⟨-,b⟩|⟨a,-⟩
 .exact b
 rw[a]at e;cases e
end
theorem KS (p:List Int) (g:List AD):(CA p g).length=p.length+g.length:=by simp[CA,V2]
theorem SB {g:List AD} {i:Int} (a:0<=i) (b:i<(p.length:Int)):(CA p g).getD i.toNat (0,[])=(0,[(p.getD i.toNat 0,i+1)]):=by grind [CA,OO,V2]
theorem P4 {g:List AD} {y:Int} (a:0<=y) (b:y<(g.length:Int)):(CA p g).getD ((p.length:Int)+y).toNat (0,[])=((g.getD y.toNat (0,[])).1,Dr p.length (g.getD y.toNat (0,[])).2):=by
 unfold CA;have e:((p.length:Int)+y).toNat=p.length+y.toNat:=by omega
 rw[e,AS,rQ (by rw[OO];omega),OO,ABh];rw[<-AS];exact YL (λx:AD=>(x.1,Dr p.length x.2)) (0,[]) (0,[]) O1
theorem KT {g:List AD} {x:AD} (a:x∈CA p g):(∃i,i<p.length/\x=(0,[(p.getD i 0,(i:Int)+1)]))\/∃y∈g,x=(y.1,Dr p.length y.2):=by
 rcases Is.1 a with h|h
 .obtain⟨i,hi,rfl⟩:=IN.1 h;exact .inl ⟨i,by simpa using hi,rfl⟩
 obtain⟨y,b,rfl⟩:=IN.1 h;exact .inr ⟨y,b,rfl⟩
theorem mO {b:Nat} (h:Wa l):Wa (Dr b l):=by
 unfold Dr Wa;rw[AAA];exact h
theorem SC {g:List AD} (l:p.length<=1000) (c:AX g) (j:0<g.length) (k:g.length<=10000):AX (CA p g):=by
 have d:=KS p g;refine⟨by omega,λx h=>?_⟩;rcases KT h with ⟨i,hi,rfl⟩|⟨y,e,rfl⟩
 .refine⟨by simp,λa ha=>?_⟩;have:a=(p.getD i 0,(i:Int)+1):=by simpa using ha
  subst this;rw[d];simp only;omega
 refine⟨by unfold Dr;rw[aS];exact(c.2 y e).1,λa ha=>?_⟩;obtain⟨b,f,rfl⟩:=IN.1 ha;have:=(c.2 y e).2 b f;rw[d];simp only;omega
theorem vC (vf:VF h f):EC f f.length [] 0=(List.range f.length).map λ(i:Nat)=>(i:Int):=by
 have q:=vf.pos;have d:=KO vf.good (r:=0) O1 O1;have l:=L3 f 0;have c:=λi=>L2 (f:=f) (r:=0) (i:=i);rw[vf.can]at l;simp only[vf.can]at c;generalize p:EC f f.length [] 0=o at *;have m:SY h f f (λi=>o.getD i.toNat 0):=by
  refine⟨d.zero.1,λi g j=>d.ok.rng _ (AG o 0 O1),λi g j=>?_,λi g j a ha=>?_⟩
  .rw[c i.toNat O1];exact Q2 h _
  rw[Aj,c i.toNat O1]at ha;obtain⟨b,e,rfl⟩:=IN.1 ha;have k:=d.cl _ (AG o 0 O1) b e;show Bz (Aj f (o.getD i.toNat 0)) b.1=o.getD (EE o b.2).toNat 0;rw[(Fg k).2.2];exact Pt (Z5 vf.str _) e
 have hu:=A16 vf.ro m (A17 vf.str);apply AAx
 .rw[aS,AC6];omega
 intro i h1 n;rw[ABQ,ABV];have:=hu i (i:Int) O1 O1 O1;simp only[iN,id]at this;rw[<-this,AS,AT h1];rfl
theorem vD (hf:AX f) (h:EC f f.length [] 0=(List.range f.length).map λ(i:Nat)=>(i:Int)):AP f 0=f:=by
 unfold AP;generalize q:EC f f.length [] 0=l at *;have r:l.length=f.length:=by rw[h];simp
 have b:∀k,(hk:k<l.length)->l[k]=(k:Int):=λk hk=>by subst h;simp
 clear h;have o:l.Nodup:=by
  unfold List.Nodup;rw[oR];intro i j hi n p e;rw[b i hi,b j n]at e;omega
 have m:∀x,0<=x->x<(l.length:Int)->EE l x=x:=λx s t=>by
  have:=JW o (i:=x.toNat) O1;have e:l.getD x.toNat 0=x:=by
   rw[AS,AT O1];show l[x.toNat]=x;rw[b _ O1];omega
  rw[e]at this;rw[this];omega
 apply AAx
 .rw[aS];omega
 intro i h1 c;rw[ABQ,b i (by simpa using h1)];have d:f.getD (i:Int).toNat (0,[])=f[i]:=by simp[AS,c]
 unfold Gw;rw[d];have:∀a∈f[i].2,M0 l a=a:=λa ha=>by
  have g:=(hf.2 _ (AAm c)).2 a ha;unfold M0;rw[m a.2 g.1 O1]
 rw[AAd this,List.map_id']
theorem qG {Q R:List AD} {ψ:Int->Int} {C:Int->Prop} (h:Iso Q R ψ C) {pre:List Int} (j:∀i,C i->ψ i∉pre):∀(k:Nat) (t:List Int) (i:Int),(∀x∈t,C x)->C i->EC R k (pre++t.map ψ) (ψ i)=pre++(EC Q k t i).map ψ/\∀x∈EC Q k t i,C x
 | 0,t,i,c,hi=>⟨rfl,c⟩
 | k+1,t,i,c,hi=>by
  have key:∀(l:List (Int×Int)) (t:List Int),(∀a∈l,C a.2)->(∀x∈t,C x) ->
    (l.map λa=>(a.1,ψ a.2)).foldl (A6 R k) (pre++t.map ψ)=pre++(l.foldl (A6 Q k) t).map ψ/\∀x∈l.foldl (A6 Q k) t,C x:=by
   intro l;induction l with
   | nil=>intro t _ c;exact⟨rfl,c⟩
   | cons a l p =>
    intro t g c;have ha:=g a sc;have hs:A6 R k (pre++t.map ψ) (a.1,ψ a.2)=pre++(A6 Q k t a).map ψ/\∀x∈A6 Q k t a,C x:=by
     unfold A6;by_cases f:a.2∈t
     .rw[BY f,BY (Is.2 (.inr (IN.2 ⟨_,f,rfl⟩)))];exact⟨rfl,c⟩
     have o:¬ψ a.2∈pre++t.map ψ:=by
      intro hh;rcases Is.1 hh with hh|hh
      .exact j _ ha hh
      obtain⟨x,d,e⟩:=IN.1 hh;exact f (h.inj x a.2 (c x d) ha e▸d)
     rw[As f];simp only[As o];exact qG h j k t a.2 c ha
    rw[iS,OS,OS,hs.1];exact p _ (λb n=>g b (by simp[n])) hs.2
  rw[CZ,CZ];have e:pre++t.map ψ++[ψ i]=pre++(t++[i]).map ψ:=by simp
  have m:(R.getD (ψ i).toNat (0,[])).2=(Aj Q i).map λa=>(a.1,ψ a.2):=h.arc i hi;rw[m,e];refine key _ _ (h.cl i hi) λx d=>?_;rcases Is.1 d with d|d
  .exact c x d
  have:x=i:=by simpa using d
  rw[this];exact hi
abbrev aF (n:Nat):List Int:=(List.range n).map λ(i:Nat)=>(i:Int)
theorem gR {n:Nat} {x:Int} (h:x∈aF n):0<=x/\x<(n:Int):=by grind
theorem vE (n:Nat):aF (n+1)=aF n++[(n:Int)]:=by unfold aF;rw[AAt,AAF];rfl
theorem V7 {p:List Int} {g:List AD}:∀(r j:Nat) (k:Nat),j+r=p.length->EC (CA p g) (r+k) (aF j) (j:Int)=EC (CA p g) k (aF p.length) (p.length:Int)
 | 0,j,k,h=>by rw[show j=p.length by omega,AAH]
 | r+1,j,k,h=>by
  rw[show r+1+k=(r+k)+1 by omega,CZ,SB O1 O1,iN];show A6 (CA p g) (r+k) (aF j++[(j:Int)]) (p.getD j 0,(j:Int)+1)=_;rw[<-vE];unfold A6;rw[As (λa=>by have:=gR a;simp only at this;omega)];have e:((j:Int)+1)=((j+1:Nat):Int):=by omega
  simp only[e];exact V7 r (j+1) k O1
theorem vF {g:List AD} (b:VF h g) (n:p.length<=1000) (l:g.length<=10000):AP (CA p g) 0=CA p g:=by
 have f:=b.pos;refine vD (SC n b.good f l) ?_;rw[KS];have d:=V7 (p:=p) (g:=g) p.length 0 g.length O1;rw[show aF 0=[] from rfl,show ((0:Nat):Int)=0 from rfl]at d;rw[d];have k:Iso g (CA p g) (λi=>(p.length:Int)+i) (λi=>0<=i/\i<(g.length:Int)):=by
  refine⟨λi hi=>?_,λi hi a ha=>CF b.good ha,λi j hi q e=>by have e:(p.length:Int)+i=(p.length:Int)+j:=e;omega⟩;rw[Aj,P4 hi.1 hi.2];show Dr p.length (Aj g i)=_;unfold Dr;refine AAd λa _=>?_;show (a.1,a.2+(p.length:Int))=(a.1,(p.length:Int)+a.2);rw[Int.add_comm]
 have c:=(qG k (pre:=aF p.length) (λi hi m=>by have:=gR m;omega) g.length [] 0 (λx o=>by cases o) ⟨by omega,by omega⟩).1;rw[AB9,AAn,ACy,vC b]at c;rw[c];rw[List.range_add,AAF,ABa,ABa];refine AAS _ (AAd λi _=>?_);show (p.length:Int)+(i:Int)=((p.length+i:Nat):Int);omega
theorem A1y (h0:0<h.1.length) {g:List AD} (d:VF h g) (m:FtP h p) (l:p.length<=1000) (k:g.length<=10000):VF h (CA p g):=by
 have o:=d.pos;have r:=KS p g;refine⟨SC l d.good o k,by omega,λx c=>?_,λx c=>?_,λx c a ha=>?_,vF d l k,λi s t=>?_⟩
 .rcases KT c with ⟨i,hi,rfl⟩|⟨y,f,rfl⟩
  .exact⟨by simp,by simp only;omega⟩
  exact d.ty y f
 .rcases KT c with ⟨i,hi,rfl⟩|⟨y,f,rfl⟩
  .exact List.pairwise_singleton _ _
  exact mO (d.str y f)
 .rcases KT c with ⟨i,hi,rfl⟩|⟨y,f,rfl⟩
  .have:a=(p.getD i 0,(i:Int)+1):=by simpa using ha
   rw[this];exact m _ (Ar hi)
  obtain⟨b,n,rfl⟩:=IN.1 ha;exact d.ft y f b n
 by_cases hi:i<=(p.length:Int)
 .refine⟨i-1,by omega,by omega,(p.getD (i-1).toNat 0,i-1+1),?_,by simp only;omega⟩;rw[Aj,SB O1 O1];exact oN.2 rfl
 obtain⟨j,q,u,x,c,e⟩:=d.ro (i-p.length) O1 O1;refine⟨(p.length:Int)+j,by omega,by omega,(x.1,x.2+(p.length:Int)),?_,by simp only;omega⟩;rw[Aj,P4 q O1];exact IN.2 ⟨x,c,rfl⟩
theorem vG (hf:AX f) {r:Int} (l:0<=r) (m:r<(f.length:Int)):AX (AP f r)/\0<(AP f r).length:=by
 have c:=KO hf l m;have h:=L3 f r;have g:=λi=>L2 (f:=f) (r:=r) (i:=i);generalize p:EC f f.length [] r=o at *;have q:=c.ok.len;have n:=hf.1;have t:=c.zero.2;refine⟨⟨by omega,λx j=>?_⟩,by omega⟩;obtain⟨i,hi,rfl⟩:=B7 (0,[]) j;rw[g i O1];have d:o.getD i 0∈o:=AG o 0 O1;have s:=c.ok.rng _ d;refine⟨?_,λa ha=>?_⟩
 .show (List.map (M0 o) _).length<=_;rw[aS];exact(hf.2 _ (AG f (0,[]) (k:=(o.getD i 0).toNat) O1)).1
 obtain⟨b,e,rfl⟩:=IN.1 ha;have:=Fg (c.cl _ d b e);rw[h];exact⟨this.1,this.2.1⟩
theorem A4C (hf:AX f) (b:Db h f) {r:Int} (d:0<=r) (e:r<(f.length:Int)):Db h (AP f r):=by
 have a:=KO hf d e;intro x c;obtain⟨n,hn,rfl⟩:=IN.1 c;have g:=a.ok.rng n hn;exact b (f.getD n.toNat (0,[])) (AG f (0,[]) (k:=n.toNat) O1)
structure PF (h:AE) (S:List AD):Prop where
 good:AX S
 pos:0<S.length
 ty:Db h S
 str:∀x∈S,Wa x.2
 ft:∀x∈S,∀a∈x.2,0<=a.1/\a.1<(h.2.length:Int)
theorem gS {S:List AD} (a:AX S) {r:Int} (c:0<=r) (d:r<(S.length:Int)):∀x∈AP S r,∃n∈EC S S.length [] r,(0<=n/\n<(S.length:Int))/\x=Gw S (EC S S.length [] r) n:=λx b=>by
 obtain⟨n,hn,rfl⟩:=IN.1 b;exact⟨n,hn,(KO a c d).ok.rng n hn,rfl⟩
theorem A4D {S:List AD} (b:AX S) {r:Int} (c:0<=r) (d:r<(S.length:Int)):RO (AP S r):=by
 have k:=KO b c d;have h:=Vd b S.length [] r (KM _) c d sc;have n:=L3 S r;have g:=λi=>L2 (f:=S) (r:=r) (i:=i);generalize AP S r=C at *;generalize EC S S.length [] r=o at *;intro i l m;obtain⟨j,p,a,ha,e⟩:=h i.toNat (by simp only[AAl];omega) O1;refine⟨(j:Int),by omega,by omega,M0 o a,?_,?_⟩
 .rw[Aj,iN,g j O1];exact IN.2 ⟨a,ha,rfl⟩
 show EE o a.2=i;rw[e,JW k.ok.nd O1];omega
theorem A7u {S:List AD} (p:PF h S) {r:Int} (c:0<=r) (d:r<(S.length:Int)):VF h (AP S r):=by
 have f:=vG p.good c d;refine⟨f.1,f.2,A4C p.good p.ty c d,λx e=>?_,λx e a ha=>?_,f9 p.good c d,A4D p.good c d⟩
 .obtain⟨n,-,hn,rfl⟩:=gS p.good c d x e;show List.Pairwise _ (List.map _ _);rw[AAA];exact(Z5 p.str n).imp λh=>h
 obtain⟨n,-,hn,rfl⟩:=gS p.good c d x e;obtain⟨b,g,rfl⟩:=IN.1 ha;exact p.ft _ (AG S (0,[]) O1) b g
def A9a (f:List AD) (e:Int):List (Int×Int):=(f.getD 0 (0,[])).2.filter λa=>a.1 != e
def A9b (f:List AD) (e:Int):List AD:=((f.getD 0 (0,[])).1,Dr 1 (A9a f e)) :: f.map λx=>(x.1,Dr 1 x.2)
def A5S (f:List AD) (e:Int):List AD:=AP (A9b f e) 0
def Fy (l:List (Int×Int)) (e:Int):Int×Bool:=match l with
 | []=>(0,false)
 | a :: l=>if a.1=e then (a.2,true) else Fy l e
theorem V8 (e:Int) (l:List (Int×Int)) (h:k<l.length):Fy (l.drop k) e=if (l.getD k (0,0)).1=e then ((l.getD k (0,0)).2,true) else Fy (l.drop (k+1)) e:=by
 rw[OF h];have e:l.getD k (0,0)=l[k]:=by simp[AS,h]
 rw[e];rfl
def A1z:AW:={ ins:=[Fm,T3,T3],pre:=λ(f,n,_,_)=>GH f/\0<=n/\n<(List.length f:Int),out:=λ(f,n,e,_)=>[.p T3 (Fy (List.getD f n.toNat (0,[])).2 e).1,.p .bool (Fy (List.getD f n.toNat (0,[])).2 e).2] }
theorem A4E:AY Tryz.prog 128 A1z:=by
 refine fK [0,1,2,3,6,7,9,15,16,17,18,24] Tryz.func128 Tryz.ntmps128 AH ?_;rintro w0 O0 ⟨f,n,e,u⟩ c-⟨hf,h0,h1⟩;simp only[A1z,AL];repeat'(first|exact trivial|apply eS rfl|apply AB|refine rX c ?_ ?_|refine rC ?_ ?_<;>intro a<;>try(cases a;done))
 .exact⟨h0,h1⟩
 generalize g:(f.getD n.toNat (0,[])).2=xs at *;have i:xs.length<=100000:=by
  rw[<-g];have hn:n.toNat<f.length:=by
   have h0:(0:Int)<=n:=h0;have h1:(n:Int)<(List.length f:Int):=h1;exact(ACe h0).2 h1
  exact hf.2 _ (AG f (0,[]) hn)
 refine AI (ι:={k:Nat//k<=xs.length/\Fy xs e=Fy (xs.drop k) e}) (λk=>⟨[(2,.p T3 e),(15,.p Mx xs),(16,.p (.int .i64) (xs.length:Int)),(17,.p (.int .i64) (k.1:Int))],[]⟩) (λk=>xs.length-k.1) ⟨0,By _,rfl⟩ (AC [] rfl rfl ?_ ?_) (λk=>?_)
 .first|exact eN|refine eM ?_
 .first|exact eN|refine eM ?_
 obtain⟨k,hk,d⟩:=k;repeat'(first|exact trivial|apply eS rfl|apply AB|refine rX c ?_ ?_|refine rC ?_ ?_<;>intro a<;>try(cases a;done))
 .exact a
 .have b:k<xs.length:=iF.1 (by assumption);have h:=V8 e xs b;rw[BY a]at h;rw[d,h];exact fI c [.tmp 6,.tmp 7]
 .omega
 .have b:k<xs.length:=iF.1 (by assumption);have h:=V8 e xs b;rw[As a]at h;refine⟨⟨k+1,b,d.trans h⟩,by simp only;omega,AC [] rfl rfl ?_ ?_⟩
  .first|exact eN|refine eM ?_
  first|exact eN|refine eM ?_
 have b:xs.drop k=[]:=NO (AAe.1 a);rw[b]at d;rw[d];exact fI c [.tmp 6,.tmp 7] (by first|exact eR|refine Kv ?_;exact⟨rfl,rfl⟩)
section
attribute [local go_sem] A1z
def SZ (f:List AD):Int->List Int->Int×Bool
 | n,[]=>(n,true)
 | n,e :: p=>if (Fy (Aj f n) e).2=true then SZ f (Fy (Aj f n) e).1 p else (0,false)
theorem Ya (h:k<p.length):p.drop k=p.getD k 0 :: p.drop (k+1):=by
 rw[OF h];simp[AS,h]
theorem A1A {e:Int} (h:(Fy l e).2=true):∃a∈l,a.1=e/\a.2=(Fy l e).1:=by
 induction l with
 | nil=>simp[Fy]at h
 | cons a l g =>
  simp only[Fy]at h ⊢;split
  .rename_i c;exact⟨a,by simp,c,rfl⟩
  rename_i c;rw[As c]at h;obtain⟨b,f,h1,d⟩:=g h;exact⟨b,by simp[f],h1,d⟩
def atS:AW:={ ins:=[Fm,Br],pre:=λ(f,_,_)=>AX f/\0<List.length f,out:=λ(f,p,_)=>[.p T3 (SZ f 0 p).1,.p .bool (SZ f 0 p).2] }
attribute [local go_sem] atS
theorem A9c:AY Tryz.prog 80 atS:=by
 refine fK [0,1,2,4,5,6,8,9,10,11,12,13,14,25] Tryz.func80 Tryz.ntmps80 (AF A4E AH) ?_;rintro w0 O0 ⟨f,p,u⟩ e ⟨-,⟨i,-⟩,-⟩ ⟨hf,h0⟩;simp only[AO]at i;simp only[atS,AL];have j:GH f:=⟨hf.1,λx l=>(hf.2 x l).1⟩;have h0:0<f.length:=h0;repeat'(first|exact trivial|apply eS rfl|apply AB|refine rX e ?_ ?_|refine rC ?_ ?_<;>intro b<;>try(cases b;done))
 refine AI (ι:={s:Nat×Int//s.1<=p.length/\(0<=s.2/\s.2<(f.length:Int))/\SZ f 0 p=SZ f s.2 (p.drop s.1)}) (λs=>⟨[(2,.bp 2 [] 0),(6,.p T3 s.1.2),(11,.p Br p),(12,.p (.int .i64) (p.length:Int)),(13,.p (.int .i64) (s.1.1:Int))],[(2,.box 34 true [.p JD f])]⟩) (λs=>p.length-s.1.1) ⟨(0,0),By _,⟨ABf 0,by show (0:Int)<_;omega⟩,rfl⟩ (AC [(2,.nm 2)] rfl rfl ?_ ?_) (λs=>?_)
 .first|exact eN|refine eM ?_
 .first|exact eN|refine eM ?_
 obtain⟨⟨k,n⟩,hk,hn,d⟩:=s;simp only at hk hn d ⊢;repeat'(first|exact trivial|apply eS rfl|apply AB|refine rX e ?_ ?_|refine rC ?_ ?_<;>intro b<;>try(cases b;done))
 .exact b
 .exact⟨j,hn⟩
 .have c:k<p.length:=iF.1 (by assumption);have h1:SZ f 0 p=(0,false):=by
   rw[d,Ya c];simp only[SZ];rw[As (by rw[b];simp)]
  exact fI e [.tmp 4,.tmp 5] (by rw[h1];exact eR)
 .omega
 .have c:k<p.length:=iF.1 (by assumption);have h1:=d;rw[Ya c]at h1;simp only[SZ]at h1;rw[BY b]at h1;obtain⟨a,ha,-,h⟩:=A1A b;have g:=CF hf ha;rw[h]at g;refine⟨⟨(k+1,(Fy (f.getD n.toNat (0,[])).2 (p.getD k 0)).1),c,g,h1⟩,by simp only;omega,AC [(2,.nm 2)] rfl rfl ?_ ?_⟩
  .first|exact eN|refine eM ?_
  first|exact eN|refine eM ?_
 have c:p.drop k=[]:=NO (AAe.1 b);rw[c]at d;exact fI e [.tmp 4,.tmp 5] (by rw[d];first|exact eR|refine Kv ?_;exact⟨rfl,rfl⟩)
end
def gT (h:AE):Int:=A9 h (sb [65,82,71,83])
def mP (h:AE) (i:Nat):List Int:=gT h :: (List.replicate i (EF h).rest++[(EF h).first])
theorem A4F (h:AE) (i:Nat):(mP h i).length=i+2:=by simp[mP]
def H0 (pl:Nat->List Int):Nat->List (List AD)->List (List AD)
 | _,[]=>[]
 | i,k :: l=>CA (pl i) k :: H0 pl (i+1) l
noncomputable def GK (h:AE) (pl:Nat->List Int):Nat->List AD->List (List AD)->List AD×Bool
 | _,f,[]=>(f,true)
 | i,f,k :: l=>if (aE h f (CA (pl i) k)).2=true then GK h pl (i+1) (aE h f (CA (pl i) k)).1 l else ([],false)
theorem V9 {pl:Nat->List Int} {x:List AD}:∀ {l:List (List AD)} {i:Nat},x∈H0 pl i l->∃j,j<l.length/\x=CA (pl (i+j)) (l.getD j [])
 | k :: l,i,h=>by
  rcases DO.1 h with rfl|h
  .exact⟨0,by simp,rfl⟩
  obtain⟨j,a,rfl⟩:=V9 h;exact⟨j+1,by simpa using a,by rw[show i+(j+1)=i+1+j by omega];rfl⟩
theorem WA {h:AE} {pl:Nat->List Int}:∀ {l:List (List AD)} {i:Nat} {f:List AD},(∀x∈H0 pl i l,x.length<=100)->(GK h pl i f l).1.length<=f.length+100*l.length
 | [],i,f,_=>Of _
 | k :: l,i,f,c=>by
  unfold GK;split
  .have h1:=qF (h:=h) (a:=f) (b:=CA (pl i) k);have e:=c _ (iT (a:=CA (pl i) k) (l:=H0 pl (i+1) l));have g:=WA (h:=h) (pl:=pl) (l:=l) (i:=i+1) (f:=(aE h f (CA (pl i) k)).1) λx d=>c x (IF _ d);simp only[IS];omega
  simp
section
variable {h:AE} (hh:H14 h)
include hh
theorem WB {pl:Nat->List Int}:∀(l:List (List AD)) (i:Nat) (f:List AD) (L:List (List AD)),MB h L (f,true)->(∀x∈L,VF h x)->(∀x∈H0 pl i l,VF h x/\x.length<=100)->f.length+100*l.length<=10000->MB h (L++H0 pl i l) (GK h pl i f l)
 | [],i,f,L,H,o,q,r=>by
  show MB h (L++[]) (f,true);rw[AAn];exact H
 | k :: l,i,f,L,H,o,q,r=>by
  have hu:=q _ (iT (a:=CA (pl i) k) (l:=H0 pl (i+1) l));have g:=H.vf rfl;simp only[IS]at r;have v:=qF (h:=h) (a:=f) (b:=CA (pl i) k);have hs:MB h (L++[CA (pl i) k]) (aE h f (CA (pl i) k)):=by
   refine(A4B hh g.wt.1 hu.1 (by have:=hu.2;show f.length+_<=10000;omega)).congr λX j=>?_;rw[V6,HD];constructor
   .rintro⟨⟨m,d⟩,s⟩ x t;rcases Is.1 t with c|c
    .exact A1w hh.ok o g.wt.1 j.1 g.hom d x c
    rw[oN.1 c];exact s
   intro n;exact⟨g.least X j λx d=>n x (AA2 _ d),n _ (AAI _ (oN.2 rfl))⟩
  show MB h (L++CA (pl i) k :: H0 pl (i+1) l) (GK h pl i f (k :: l));unfold GK;split
  .rename_i p;have:=WB l (i+1) (aE h f (CA (pl i) k)).1 (L++[CA (pl i) k]) (by rw[<-p];exact hs) (λx d=>by
    rcases Is.1 d with c|c
    .exact o x c
    rw[oN.1 c];exact hu.1) (λx d=>q x (IF _ d)) O1
   rwa [AA9,AB8]at this
  rename_i p;refine .inr ⟨rfl,λX j n=>?_⟩;rcases hs with ⟨e,-⟩|⟨-,u⟩
  .exact p e
  refine u X j λx d=>n x ?_;rcases Is.1 d with c|c
  .exact AA2 _ c
  exact AAI _ (by rw[oN.1 c];exact iT)
omit hh in
theorem vH {f:List AD} (a:Wt h f):MB h [f] (f,true):=.inl ⟨rfl,a,HD.2 ⟨id,A17 a.1.str⟩,λ_ _ b=>HD.1 b⟩
end
theorem A7v (e:SX h=true) (ha:0<=gT h) (i:Nat):FtP h (mP h i):=by
 obtain⟨⟨h1,b⟩,-⟩:=A0Q e;have c:=GP h (sb [70,73,82,83,84]);have d:=GP h (sb [82,69,83,84]);have f:=GP h (sb [65,82,71,83]);intro x a;rcases DO.1 a with rfl|a
 .exact⟨ha,f.2⟩
 rcases Is.1 a with a|a
 .rw[(List.mem_replicate.1 a).2];exact⟨b,d.2⟩
 rw[oN.1 a];exact⟨h1,c.2⟩
structure A7w (h:AE) (ar:Int) (f:List AD):Prop where
 arb:1<=ar/\ar<=2
 chk:Z0 h f=0
 args:0<=gT h
 lw:SX h=true
 walk:∀i:Nat,(i:Int)<ar->∃n,A5M f 0 (mP h i)=some n
section
attribute [local go_sem] OJ OI Va
def Dd (h:AE) (w:LW):Obj:=.box 248 true [.p FK h,.p T3 w.list,.p T3 w.cons,.p T3 w.null,.p T3 w.dlist,.p T3 w.first,.p T3 w.rest,.p T3 w.head,.p T3 w.last]
theorem A1B (h:AE) (w:LW) (f:List AD) (n:Int):A5 Tryz.prog 170 [.p dG (wdF h w),.p Fm f,.p T3 n] [] [] (λres c=>res=.clo 187 [5,3,4]/\c=[(5,.box 3 false [.p T3 n]),(4,.box 34 true [.p JD f]),(3,Dd h w)]):=by
 refine Ix [0,1,2,3,4,5,6] [] [] Tryz.func170 Tryz.ntmps170 AH ?_;intro w0 K O0 ρ0 a d e;simp only[Ai,wdF];repeat'(first|exact trivial|apply eS rfl|apply AB|refine rX a ?_ ?_|refine rC ?_ ?_<;>intro b<;>try(cases b;done))
 exact fM a [.tmp 6] (.clo 187 [5,3,4]) eT ⟨rfl,rfl⟩
abbrev WS:=List Int×List Int×Bool×Int
def Av (f:List AD) (n:Int):AD:=f.getD n.toNat (0,[])
def Yb (h:AE) (w:LW) (f:List AD) (s:WS):WS:=(s.1++[s.2.2.2],if Fx h w (Av f s.2.2.2)=2 then s.2.1++[Bz (Av f s.2.2.2).2 w.first] else s.2.1,decide (Fx h w (Av f s.2.2.2)=1),Bz (Av f s.2.2.2).2 w.rest)
def CN (h:AE) (w:LW) (f:List AD) (n:Int):Nat->WS
 | 0=>([],[],false,n)
 | i+1=>Yb h w f (CN h w f n i)
def WGo (h:AE) (w:LW) (f:List AD) (n:Int) (i:Nat):Prop:=∀j,j<i->Fx h w (Av f (CN h w f n j).2.2.2)=2/\(CN h w f n j).2.2.2∉(CN h w f n j).1
theorem TK {h:AE} {w:LW} {f:List AD} {n:Int} (hf:AX f) (n0:0<=n) (n1:n<(f.length:Int)):∀i,WGo h w f n i->Mk f (CN h w f n i).1/\(CN h w f n i).1.length=i/\(0<=(CN h w f n i).2.2.2/\(CN h w f n i).2.2.2<(f.length:Int))/\(CN h w f n i).2.1.length=i
 | 0,_=>⟨KM f,rfl,⟨n0,n1⟩,rfl⟩
 | i+1,c=>by
  obtain⟨h1,d,a,e⟩:=TK hf n0 n1 i (λj l=>c j O1);obtain⟨b,g⟩:=c i O1;have hk:=YH b;refine⟨h1.snoc a.1 a.2 g,?_,⟨hk.2,?_⟩,?_⟩
  .show ((CN h w f n i).1++_).length=_;rw[Do,d];rfl
  .exact Pp O1 _ λx k=>(CF hf (n:=(CN h w f n i).2.2.2) k).2
  show (if _ then _ else _:List Int).length=_;rw[BY b,Do,e];rfl
def Gy (L:Go.Loop):Go.Loop:={ L with state:=.done,pending:=some .ret }
end
section
attribute [local go_sem] NQ JV VX Xe Kw Kh My Jc Iu NH
theorem Fh (h:AE) (s:ByteArray):Ae h s<(h.1.length:Int):=by
 have:=Z1 s h.1 0;unfold Ae;omega
def OP (h:AE) (s:ByteArray) (t:Int):Bool:=decide (0<=Ae h s)&&Aa h (Ae h s) t
def gU:AW:={ ins:=[FK,T9,T3],pre:=λ(h,_,t,_)=>Fd h/\(0:Int)<=t/\t<(List.length (h:AE).1:Int),out:=λ(h,s,t,_)=>[.p .bool (OP h s t)],lend:=true }
attribute [local go_sem] gU
theorem A7x:AY Tryz.prog 34 gU:=by
 refine fK [0,1,2,3,6,7] Tryz.func34 Tryz.ntmps34 (AF Mm (AF A0O AH)) ?_;rintro w0 O0 ⟨h,s,t,u⟩ a-⟨hk,h0,h1⟩;have hk:Fd h:=hk;have c:(h.1,h.2)=h:=rfl;have d:=Fh h s;simp only[gU,AL];repeat'(first|exact trivial|apply eS rfl|apply AB|refine rX a ?_ ?_|refine rC ?_ ?_<;>intro b<;>try(cases b;done))
 all_goals try simp only[c]at *
 .exact λe=>⟨⟨⟨e,d⟩,h0,h1⟩,hk⟩
 exact fI a [.tmp 6] (by first|exact eR|refine Kv ?_;rfl)
def Cb (h:AE) (t:Int):ByteArray :=
 if OP h ⟨#[104,97,110,100,108,101]⟩ t=true then ⟨#[104]⟩ else if OP h ⟨#[101,118,101,110,116]⟩ t=true then ⟨#[101]⟩
 else if OP h ⟨#[101,110,116,105,116,121]⟩ t=true then ⟨#[120]⟩ else if OP h ⟨#[105,110,100,101,120]⟩ t=true then ⟨#[105]⟩ else ⟨#[]⟩
def Cw (h:AE) (f:List AD) (n:Int) (s:ByteArray):Int:=if 0<=A9 h s then Bz (Av f n).2 (A9 h s) else -1
def M4 (h:AE) (f:List AD) (n:Int):ByteArray:=if n<0 then ⟨#[]⟩ else Cb h (Av f n).1
end
section
attribute [local go_sem] NQ JV VX Jc Iu
def WC:AW:={ ins:=[FK],pre:=λ(h,_)=>Fd h,out:=λ(h,_)=>[.p .bool (SX h)],lend:=true }
attribute [local go_sem] WC
def mQ:AW:={ ins:=[FK,Fm,T3,T9],pre:=λ(_,f,n,_)=>AX f/\(0:Int)<=n/\n<(List.length f:Int),out:=λ(h,f,n,s,_)=>[.p T3 (Bz (List.getD (f:List AD) n.toNat (0,[])).2 (A9 h s))],lend:=true }
attribute [local go_sem] mQ
def aG:AW:={ ins:=[FK,Fm,T3],pre:=λ(h,f,n,_)=>(SX h=true/\Fd h)/\AX f/\Db h f/\(0:Int)<=n/\n<(List.length f:Int),out:=λ(h,f,n,_)=>[.p .bool (l0 h (EF h) (List.getD (f:List AD) n.toNat (0,[])))],lend:=true }
attribute [local go_sem] aG
def aH:AW:={ ins:=[FK,Fm,T3],pre:=λ(h,f,n,_)=>(SX h=true/\Fd h)/\AX f/\Db h f/\(0:Int)<=n/\n<(List.length f:Int),out:=λ(h,f,n,_)=>[.p .bool (VY h (EF h) (List.getD (f:List AD) n.toNat (0,[])))],lend:=true }
attribute [local go_sem] aH
def WD:AW:={ ins:=[FK,Fm,T3],pre:=λ(h,f,n,_)=>(SX h=true/\Fd h)/\AX f/\Db h f/\(0:Int)<=n/\n<(List.length f:Int),out:=λ(h,f,n,_)=>[.p .bool (!l0 h (EF h) (List.getD (f:List AD) n.toNat (0,[]))&&YG h (EF h) (List.getD (f:List AD) n.toNat (0,[])))],lend:=true }
attribute [local go_sem] WD
def A1C:AW:={ ins:=[Br,T3],pre:=λ_=>True,out:=λ(l,n,_)=>[.p .bool (inF l n)],lend:=true }
attribute [local go_sem] A1C
end
section
attribute [local go_sem] atS
theorem VF.h0 (vf:VF h f):0<h.1.length:=by
 have a:=vf.pos;have:=vf.ty _ (AG f (0,[]) (k:=0) O1);omega
end
noncomputable def mR (h:AE) (ar:Int) (f:List AD) (A:List (List AD)):List AD×Bool :=
 if (A.length:Int)≠ar then ([],false) else if (GK h (mP h) 0 f A).2=true then (A5S (GK h (mP h) 0 f A).1 (gT h),true) else ([],false)
structure RA (h:AE) (ar:Int) (f:List AD) (A:List (List AD)):Prop where
 hh:H14 h
 top:A96 h
 vf:VF h f
 lf:f.length<=12
 ok:A7w h ar f
 va:∀x∈A,VF h x/\x.length<=12
 la:A.length<=3
theorem RA.wt {ar:Int} (r:RA h ar f A):Wt h f:=⟨r.vf,u7 r.ok.chk⟩
theorem RA.un {ar:Int} (r:RA h ar f A):∀x∈H0 (mP h) 0 A,VF h x/\x.length<=100:=λx b=>by
 obtain⟨j,a,rfl⟩:=V9 b;have d:=A4F h (0+j);have hk:=r.va _ (AG A [] a);have c:=r.la;exact⟨A1y r.vf.h0 hk.1 (A7v r.ok.lw r.ok.args _) O1 O1,by rw[KS];omega⟩
theorem RA.all {ar:Int} (r:RA h ar f A):MB h (f :: H0 (mP h) 0 A) (GK h (mP h) 0 f A) :=
 WB r.hh A 0 f [f] (vH r.wt) (by simp[r.vf]) r.un (by have:=r.lf;have:=r.la;omega)
theorem RA.len {ar:Int} (r:RA h ar f A):(GK h (mP h) 0 f A).1.length<=312:=by
 have:=WA (h:=h) (pl:=mP h) (l:=A) (i:=0) (f:=f) λx a=>(r.un x a).2;have:=r.lf;have:=r.la;omega
theorem RA.res {ar:Int} (r:RA h ar f A) (a:(mR h ar f A).2=true):(A.length:Int)=ar/\TU h (f :: H0 (mP h) 0 A) (GK h (mP h) 0 f A).1/\mR h ar f A=(A5S (GK h (mP h) 0 f A).1 (gT h),true):=by
 unfold mR at a ⊢;by_cases h1:(A.length:Int)≠ar
 .rw[BY h1]at a;cases a
 rw[As h1]at a ⊢;by_cases b:(GK h (mP h) 0 f A).2=true
 .rw[BY b];exact⟨by omega,r.all.vf b,rfl⟩
 rw[As b]at a;cases a
section
attribute [local go_sem] OJ OI Va
def gV (h:AE) (w:LW) (f:List AD) (la:Int) (a out:List Int) (m:Int):Option (List Int×Int) :=
 if m=la then some (if Fx h w (Av f m)=3 then (out,0) else ([],13)) else if m∈a then some ([],6) else if Fx h w (Av f m)=2 then none else some ([],13)
def Fi (h:AE) (w:LW) (f:List AD) (la:Int):Nat->List Int->List Int->Int->List Int×Int
 | 0,_,_,_=>([],6)
 | k+1,a,out,m=>match gV h w f la a out m with
  | some r=>r
  | none=>Fi h w f la k (a++[m]) (out++[Bz (Av f m).2 w.first]) (Bz (Av f m).2 w.rest)
def BK (h:AE) (f:List AD) (n:Int):List Int×Int :=
 if SX h=true then
  if Bz (Av f n).2 (EF h).head<0\/Bz (Av f n).2 (EF h).last<0 then ([],13)
  else Fi h (EF h) f (Bz (Av f n).2 (EF h).last) (f.length+1) [] [] (Bz (Av f n).2 (EF h).head)
 else ([],5)
def NT (h:AE) (w:LW) (f:List AD) (la:Int) (s:WS):Option (List Int×Int):=gV h w f la s.1 s.2.1 s.2.2.2
def DGo (h:AE) (w:LW) (f:List AD) (la n:Int) (i:Nat):Prop:=∀j,j<i->NT h w f la (CN h w f n j)=none
theorem Ja {w:LW} {la:Int} {a out:List Int} {m:Int} (e:gV h w f la a out m=none):m≠la/\m∉a/\Fx h w (Av f m)=2:=by
 unfold gV at e;split at e
 .cases e
 split at e
 .cases e
 split at e
 .exact⟨by assumption,by assumption,by assumption⟩
 cases e
theorem aI {w:LW} {la n:Int} {i:Nat} (a:DGo h w f la n i):WGo h w f n i:=λj b=>⟨(Ja (a j b)).2.2,(Ja (a j b)).2.1⟩
theorem Yc {h:AE} {w:LW} {f:List AD} {la n:Int} (k:Nat):∀i,DGo h w f la n i->Fi h w f la (k+i) [] [] n=Fi h w f la k (CN h w f n i).1 (CN h w f n i).2.1 (CN h w f n i).2.2.2
 | 0,_=>rfl
 | i+1,b=>by
  have c:=Yc (h:=h) (w:=w) (f:=f) (la:=la) (n:=n) (k+1) i (λj d=>b j O1);have a:gV h w f la (CN h w f n i).1 (CN h w f n i).2.1 (CN h w f n i).2.2.2=none:=b i O1;rw[show k+(i+1)=k+1+i by omega,c];rw[Fi,a];show _=Fi h w f la k (Yb h w f (CN h w f n i)).1 (Yb h w f (CN h w f n i)).2.1 (Yb h w f (CN h w f n i)).2.2.2;unfold Yb;rw[BY (Ja a).2.2]
theorem Yd {w:LW} {la n:Int} (hf:AX f) (n0:0<=n) (n1:n<(f.length:Int)) {i:Nat} (a:DGo h w f la n i) {r:List Int×Int} (b:NT h w f la (CN h w f n i)=some r):Fi h w f la (f.length+1) [] [] n=r:=by
 obtain⟨h1,c,d,-⟩:=TK hf n0 n1 i (aI a);have e:=h1.len;rw[show f.length+1=(f.length-i)+1+i by omega,Yc _ _ a,Fi,show gV h w f la (CN h w f n i).1 (CN h w f n i).2.1 (CN h w f n i).2.2.2=some r from b]
def dE:List (Nat×AV):=[(4,.bp 4 [] 0),(6,.bp 6 [] 0),(7,.bp 7 [] 0),(8,.bp 8 [] 0),(11,.bp 11 [] 0),(12,.bp 12 [] 0),(13,.bp 13 [] 0)]
def dO (h:AE) (w:LW) (f:List AD) (L:Go.Loop) (a:Array Value) (la:Int) (s:WS) (m:Int) (c:AV) (e:Int):List (Nat×Obj):=[(50,.box 3 false [.p T3 m]),(51,Dd h w),(52,.box 34 true [.p JD f]),(101,.loop L),(102,.frame a dE),(6,.box 101 false [c]),(7,.box 35 false [.p C6 e]),(8,Dd h w),(4,.box 34 true [.p JD f]),(11,.box 3 false [.p T3 la]),(12,.box 101 false [.sr 60 T3 0 s.2.1.length]),(60,.arr 3 T3 s.2.1),(13,.box 215 false [.mp 24]),(24,.mapo T3 .bool (Kp s.1))]
def DRd (h:AE) (w:LW) (f:List AD) (la n:Int) (L:Go.Loop) (a:Array Value) (i:Nat) (b:Bool) (O:List (Nat×Obj)):Prop :=
 (NT h w f la (CN h w f n i)=some ((CN h w f n i).2.1,0)/\b=false/\O=dO h w f (Gy L) a la (CN h w f n i) (CN h w f n i).2.2.2 (.sr 60 T3 0 (CN h w f n i).2.1.length) 0) \/
 (∃e,NT h w f la (CN h w f n i)=some ([],e)/\b=false/\O=dO h w f (Gy L) a la (CN h w f n i) (CN h w f n i).2.2.2 (.raw (.slice none 0 0)) e) \/
 (NT h w f la (CN h w f n i)=none/\b=true/\O=dO h w f L a la (CN h w f n (i+1)) (CN h w f n i).2.2.2 (.raw (.slice none 0 0)) 0)
theorem vI (h:AE) (w:LW) (f:List AD) (la n:Int) (D:WOk h w) (hf:AX f) (C:Db h f) (n0:0<=n) (n1:n<(f.length:Int)) (L:Go.Loop) (d:Array Value)
  (m:∀i,DGo h w f la n i->XV Tryz.prog 101 [.p T3 (CN h w f n i).2.2.2] (dO h w f L d la (CN h w f n i) (CN h w f n i).2.2.2 (.raw (.slice none 0 0)) 0) [50,51,52,101,102,6,7,8,4,11,12,13,24] (λres l=>∃b,res=.p .bool b/\DRd h w f la n L d i b l)) :
  A5 Tryz.prog 187 [.yl 101,.bp 50 [] 0,.bp 51 [] 0,.bp 52 [] 0] (dO h w f L d la (CN h w f n 0) n (.raw (.slice none 0 0)) 0) [50,51,52,101,102,6,7,8,4,11,12,13,24] (λres l=>res=.raw (.tuple #[])/\∃i,DGo h w f la n i/\DRd h w f la n L d i false l):=by
 refine Ix [0,1,2,3,14] [] [] Tryz.func187 Tryz.ntmps187 (AF fW (AF Z2 AH)) ?_;intro w0 K O0 ρ0 a A B;simp only[Ai,dO,Dd];have t:=m;clear m;repeat'(first|exact trivial|apply eS rfl|apply AB|refine rX a ?_ ?_|refine rC ?_ ?_<;>intro c<;>try(cases c;done))
 refine AI (ι:={i:Nat//DGo h w f la n i}) (λi=>⟨[(0,.yl 101),(1,.bp 50 [] 0),(2,.bp 51 [] 0),(3,.bp 52 [] 0)],dO h w f L d la (CN h w f n i.1) (CN h w f n i.1).2.2.2 (.raw (.slice none 0 0)) 0⟩) (λi=>f.length+1-i.1) ⟨0,λj o=>by omega⟩ (AC [(50,.nm 50),(51,.nm 51),(52,.nm 52),(101,.nm 101),(102,.nm 102),(6,.nm 6),(7,.nm 7),(8,.nm 8),(4,.nm 4),(11,.nm 11),(60,.nm 60),(12,.nm 12),(13,.nm 13),(24,.nm 24)] rfl rfl ?_ ?_) (λi=>?_)
 .simp only[dO,Dd,dE,CN];first|exact eN|refine eM ?_
 .simp only[dO,Dd,dE,CN];first|exact eN|refine eM ?_
 obtain⟨i,hi⟩:=i;obtain⟨q,v,r,x⟩:=TK hf n0 n1 i (aI hi);have u:=t i hi;have y:=q.len;have z:CN h w f n (i+1)=Yb h w f (CN h w f n i):=rfl;simp only[dO,Dd,dE];repeat'(first|exact trivial|apply eS rfl|apply AB|refine rX a ?_ ?_|refine rC ?_ ?_<;>intro c<;>try(cases c;done))
 refine cG 2 a ?_ ?_
 .trivial
 refine rY 101 101 a (u) [(50,.nm 50),(51,.nm 51),(52,.nm 52),(101,.nm 101),(102,.nm 102),(6,.nm 6),(7,.nm 7),(8,.nm 8),(4,.nm 4),(11,.nm 11),(60,.nm 60),(12,.nm 12),(13,.nm 13),(24,.nm 24)] [60] ?_ ?_ ?_
 .first|exact eN|refine eM ?_
 .simp only[dO,Dd,dE];first|exact eN|refine eM ?_
 rintro _ _ ⟨b,rfl,k⟩;have s:=k;rcases s with ⟨g,rfl,rfl⟩|⟨e,g,rfl,rfl⟩|⟨g,rfl,rfl⟩
 .refine⟨[(50,.nm 50),(51,.nm 51),(52,.nm 52),(101,.nm 101),(102,.nm 102),(6,.nm 6),(7,.nm 7),(8,.nm 8),(4,.nm 4),(11,.nm 11),(60,.nm 60),(12,.nm 12),(13,.nm 13),(24,.nm 24)],.p .bool false,dO h w f (Gy L) d la (CN h w f n i) (CN h w f n i).2.2.2 (.sr 60 T3 0 (CN h w f n i).2.1.length) 0,rfl,rfl,?_,?_,rfl,rfl,?_⟩
  .simp only[dO,Dd,dE];first|exact eN|refine eM ?_
  .first|exact eN|refine eM ?_
  simp only[dO,Dd,dE];refine rL a ?_ ?_
  .trivial
  repeat'(first|exact trivial|apply eS rfl|apply AB|refine rX a ?_ ?_|refine rC ?_ ?_<;>intro c<;>try(cases c;done))
  refine Ev.ent (σ':=⟨[],dO h w f (Gy L) d la (CN h w f n i) (CN h w f n i).2.2.2 (.sr 60 T3 0 (CN h w f n i).2.1.length) 0⟩) ?_ (AC [(50,.nm 50),(51,.nm 51),(52,.nm 52),(101,.nm 101),(102,.nm 102),(6,.nm 6),(7,.nm 7),(8,.nm 8),(4,.nm 4),(11,.nm 11),(60,.nm 60),(12,.nm 12),(13,.nm 13),(24,.nm 24)] rfl rfl ?_ ?_)
  .exact fM a [] (.raw (.tuple #[])) rfl ⟨rfl,i,hi,k⟩
  .simp only[dO,Dd,dE];first|exact eN|refine eM ?_
  first|exact eN|refine eM ?_
 .refine⟨[(50,.nm 50),(51,.nm 51),(52,.nm 52),(101,.nm 101),(102,.nm 102),(6,.nm 6),(7,.nm 7),(8,.nm 8),(4,.nm 4),(11,.nm 11),(60,.nm 60),(12,.nm 12),(13,.nm 13),(24,.nm 24)],.p .bool false,dO h w f (Gy L) d la (CN h w f n i) (CN h w f n i).2.2.2 (.raw (.slice none 0 0)) e,rfl,rfl,?_,?_,rfl,rfl,?_⟩
  .simp only[dO,Dd,dE];first|exact eN|refine eM ?_
  .first|exact eN|refine eM ?_
  simp only[dO,Dd,dE];refine rL a ?_ ?_
  .trivial
  repeat'(first|exact trivial|apply eS rfl|apply AB|refine rX a ?_ ?_|refine rC ?_ ?_<;>intro c<;>try(cases c;done))
  refine Ev.ent (σ':=⟨[],dO h w f (Gy L) d la (CN h w f n i) (CN h w f n i).2.2.2 (.raw (.slice none 0 0)) e⟩) ?_ (AC [(50,.nm 50),(51,.nm 51),(52,.nm 52),(101,.nm 101),(102,.nm 102),(6,.nm 6),(7,.nm 7),(8,.nm 8),(4,.nm 4),(11,.nm 11),(60,.nm 60),(12,.nm 12),(13,.nm 13),(24,.nm 24)] rfl rfl ?_ ?_)
  .exact fM a [] (.raw (.tuple #[])) rfl ⟨rfl,i,hi,k⟩
  .simp only[dO,Dd,dE];first|exact eN|refine eM ?_
  first|exact eN|refine eM ?_
 have hk:=Ja g;refine⟨[(50,.nm 50),(51,.nm 51),(52,.nm 52),(101,.nm 101),(102,.nm 102),(6,.nm 6),(7,.nm 7),(8,.nm 8),(4,.nm 4),(11,.nm 11),(60,.nm 60),(12,.nm 12),(13,.nm 13),(24,.nm 24)],.p .bool true,dO h w f L d la (CN h w f n (i+1)) (CN h w f n i).2.2.2 (.raw (.slice none 0 0)) 0,rfl,rfl,?_,?_,rfl,rfl,?_⟩
 .simp only[dO,Dd,dE];first|exact eN|refine eM ?_
 .first|exact eN|refine eM ?_
 simp only[dO,Dd,dE];refine rL a ?_ ?_
 .trivial
 repeat'(first|exact trivial|apply eS rfl|apply AB|refine rX a ?_ ?_|refine rC ?_ ?_<;>intro c<;>try(cases c;done))
 .exact⟨hf,r⟩
 .refine⟨⟨i+1,λj o=>(Nat.lt_succ_iff_lt_or_eq.1 o).elim (hi j) λe=>by rw[e];exact g⟩,by simp only;omega,AC [(50,.nm 50),(51,.nm 51),(52,.nm 52),(101,.nm 101),(102,.nm 102),(6,.nm 6),(7,.nm 7),(8,.nm 8),(4,.nm 4),(11,.nm 11),(60,.nm 60),(12,.nm 12),(13,.nm 13),(24,.nm 24)] rfl rfl ?_ ?_⟩
  .simp only[dO,Dd,dE];first|exact eN|refine eM ?_
   rfl
  first|exact eN|refine eM ?_
 exact absurd hk.2.2 c
end
end Go.Proofs.YtglkoagnnnpimaaGreatDoor.Fw
