/- Contracts of functions and plain laws. -/
import Derived.Test.YtglkoagnnnpimaaGreatDoorCYA
import Derived.Test.YtglkoagnnnpimaaGreatDoorCZI
import Derived.Test.YtglkoagnnnpimaaGreatDoorCZJ
import Derived.Laws.Strings
set_option linter.unusedVariables false
set_option linter.unusedSimpArgs false
namespace Go.Proofs.YtglkoagnnnpimaaGreatDoor.Fw
attribute [local irreducible] Ev
attribute [local go_sem] nY AK List.toList_toArray Bv evG evK Wj E0 LE IB G5 GU Rk LD CU Dg Ou DI Cr frz sD Gl DW BA Fx BZ AV.frz AV.frzs AV.drp AV.drps AV.names AV.namess aq Gm K3 K4 Tn Ji Br B1 KX EJ Jl EK Jn Jm Jo Wh Rc HQ MR Fz EZ Wi SX qUn KY I0 Nf FM D5 Jp K6 Ep Tq Cw Eq FN SY I1 Oq FO Oo Re SZ ND Jq K7 DX DC K0 D6 Ic DR FP DS Er GT DI C3 Ol SW QV G0 Jk Jj K5 Ot Rh NE Nj Nh K9 Tr Ni LA bT Rj Ri AV.trn AV.trns EI Cv Obj.trn Kg kB DU Dr DT Es CZ FQ Ag lk H6 Gr Ia bin sB Y3 sF Tp Tl zfx AV.cellss sC zfs pfs AV.cells CO Eo Iz F0 Rg CP Om Ty.cell1 Jh E3 D4 GR IZ Em Kw NC Oj GQ Gz Nc Tk Wg Mz Kv bP i8 Tm H7 C4 HP RV.flat Ty.flat Ty.size St.add upd del Bd Value.oneCell' Y0 Ty.dflt Jg S3 I7 S9 List.take_succ_cons List.take_zero List.length_cons n5 n6 S8 LV PO I9 Me A3k G6 PB PC PD PE UK UL PG J0 ZP Option.map_some Option.map_none Option.bind_some Option.getD_some Option.getD_none Option.isNone_none Option.isNone_some Bool.and_true Bool.true_and Bool.and_false Bool.false_and Bool.not_true Bool.not_false if_true if_false List.length_cons List.length_nil and_true true_and and_self List.all_cons List.all_nil List.append_nil List.nil_append List.cons_append List.getElem?_cons_zero List.getElem?_cons_succ List.getElem?_nil List.map_cons List.map_nil List.set_cons_zero List.set_cons_succ List.isEmpty_nil List.isEmpty_cons decide_true decide_false beq_self_eq_true bne_self_eq_false Nat.zero_add Nat.add_zero Nat.sub_zero Int.toNat_natCast Int.toNat_zero Int.toNat_one List.take_length List.length_append List.length_singleton true_or or_true or_self false_or or_false Ty.agg.injEq Ty.slice.injEq Ty.prod.injEq Ty.int.injEq Option.some.injEq beq_iff_eq LT evMG evMQ opM Im NI CA Ke G7 UO Kd Il J1 Mc LS Qf PJ Qg UP PI S5 S6 Mb Ab Aj Op.operands Call.operands List.filterMap_cons List.filterMap_nil List.append_eq Bool.cond_false_right Bool.cond_true_left cond_true cond_false implies_true decide_eq_true_eq beq_true beq_false Bool.or_true Bool.or_false Bool.true_or Bool.false_or Option.isSome_some Array.empty_append List.append_toArray Fy Ov FT H8 bS Rf bR GS HH HG I2 Ib K8 Ng Y4 sE HF inB LB GK G1 LC Am oA List.drop_zero D2 ID cX C6 Nw Cq AV.fgt AV.fgts Obj.fgt Az Ax Ab EP LY Bt LZ List.any_cons List.any_nil oD jZ dA j5 M0 Sd qs List.flatMap_cons List.flatMap_nil List.cons_append tn dG NJ List.take_succ_cons List.drop_succ_cons dI Hb Ba yK Qo CR Cn Al FW LN B3 matchAVs DD Ik Jy HX Jz
attribute [local go_sem] ty1 ty2 ty3 ty4 ty5 ty9 A6K A6L A6M A6N A6O A6P A6Q A6R A6S A6T A6U A6V A6W A6X A6Y A6Z A70 A71 A72 A73 A74 A75 A76 A77 A78 A79 A7a A7b yW yX yY yZ y3 y4 y5 y6 y7 y8 y9 zA zB zC zD zE zF zG zH zI zJ zK zL zN zO zP zQ zR zS zT zU zV zW zX zY zZ z0 z4
set_option maxRecDepth 100000
set_option maxHeartbeats 4000000
variable {f g c:List AD} {p q Q:List Int} {n b S:Int} {k j P:Nat} {h:AF} {l U:List (Int×Int)} {s x y:ByteArray} {Z:List (Int×List (Int×Int))} {Y:List (List (Int×Int))} {m w:Int->Int} {A:List (List AD)} {X:Type} {a:Int->Nat} {W d:D3} {V:List (Int×Bool)} {T:List (List Int)} {v:Int×Int} {R:List Bool} {O:AD} {N:AQ}
theorem fR {L:Go.Loop} (h1:L.state=.ready) (a:L.pending=none):{ { L with state:=.busy } with state:=.ready,pending:=none }=L:=by
 cases L;simp_all
theorem YA (l:List (Int×Int)):BB Tryz.prog 139 [.p K2 l] [] [] (λres b=>res=.clo 177 [1]/\b=[(1,.box 55 false [.p K2 l])]):=by
 refine Jf [0,1,2] [] [] Tryz.func139 Tryz.ntmps139 AH ?_;intro w0 K O0 ρ0 a c d;simp only[Am];repeat'(first|exact trivial|apply eS rfl|refine rX a ?_ ?_)
 exact fM a [.tmp 2] (.clo 177 [1]) eT ⟨rfl,rfl⟩
def CM (l:List (Int×Int)) (L:Go.Loop) (a:Array Value) (i:Nat):List (Nat×Obj):=[(1,.box 55 false [.p K2 l]),(101,.loop L),(102,.frame a [(2,.bp 2 [] 0),(6,.clo 177 [1])]),(2,.box 55 false [.sr 7 C9 0 i]),(7,.arr 59 C9 (l.take i))]
theorem l6 (l:List (Int×Int)) (g:l.length<=100000) (L:Go.Loop) (b:Array Value) (f:∀i,i<l.length->Xa Tryz.prog 101 [.p C9 (l.getD i (0,0))] (CM l L b i) [1,101,102,2] (λres e=>res=.p .bool true/\e=CM l L b (i+1))) :
  BB Tryz.prog 177 [.yl 101,.bp 1 [] 0] (CM l L b 0) [1,101,102,2] (λres e=>res=.raw (.tuple #[])/\e=CM l L b l.length):=by
 refine Jf [0,1,4,5,6,7,8,14] [] [] Tryz.func177 Tryz.ntmps177 AH ?_;intro w0 K O0 ρ0 a h j;simp only[Am,CM];repeat'(first|exact trivial|apply eS rfl|refine rX a ?_ ?_)
 refine AI (ι:={i:Nat//i<=l.length}) (λi=>⟨[(0,.yl 101),(1,.bp 1 [] 0),(5,.p K2 l),(6,.p (.int .i64) (l.length:Int)),(7,.p (.int .i64) (i.1:Int))],CM l L b i.1⟩) (λi=>l.length-i.1) ⟨0,by omega⟩ (AC [(1,.nm 1),(101,.nm 101),(102,.nm 102),(2,.nm 2),(7,.nm 7)] rfl rfl ?_ ?_) (λi=>?_)
 .simp only[CM];exact eN
 .exact eN
 obtain⟨i,hi⟩:=i;simp only[CM];repeat'(first|exact trivial|apply eS rfl|refine rX a ?_ ?_|refine rC ?_ ?_<;>intro c<;>try(cases c;done))
 .exact eV
 .have d:i<l.length:=by exact eV
  refine cP 2 a ?_ ?_
  .trivial
  refine rY 101 101 a (f i d) [(1,.nm 1),(101,.nm 101),(102,.nm 102),(2,.nm 2),(7,.nm 7)] [7] ?_ ?_ ?_
  .exact eN
  .simp only[CM];exact eN
  rintro _ _ ⟨rfl,rfl⟩;refine⟨[(1,.nm 1),(101,.nm 101),(102,.nm 102),(2,.nm 2),(7,.nm 7)],.p .bool true,CM l L b (i+1),rfl,rfl,?_,?_,rfl,rfl,?_⟩
  .simp only[CM];exact eN
  .exact eN
  simp only[CM];refine GX [0,1,5,6,7,14] a (by simp only[go_sem,Nat.reduceEqDiff,reduceCtorEq,Nat.reduceAdd,Nat.reduceSub,Nat.reduceMul,Nat.reduceLeDiff,Nat.reduceLT,Int.reduceLE,Int.reduceToNat,Int.reduceNeg,↓reduceIte];rfl) ?_ ?_
  .trivial
  repeat'(first|apply eS rfl|apply AB|refine rX a ?_ ?_|refine rC ?_ ?_<;>intro c<;>try(cases c;done))
  .exact eV
  refine⟨⟨i+1,by omega⟩,by simp only;omega,AC [(1,.nm 1),(101,.nm 101),(102,.nm 102),(2,.nm 2),(7,.nm 7)] rfl rfl ?_ ?_⟩
  .simp only[CM];exact eN
  exact eN
 have d:i=l.length:=by exact eV
 subst d;refine fM a [] (.raw (.tuple #[])) rfl ⟨rfl,?_⟩;simp only[CM,tO]
theorem Z4 (l:List (Int×Int)) (n:l.length<=100000):BB Tryz.prog 189 [.raw (.slice none 0 0),.clo 177 [1]] [(1,.box 55 false [.p K2 l])] [] (λres q=>res=.sr 7 C9 0 l.length/\q=[(7,.arr 59 C9 l)]):=by
 refine fKR [0,1,2,4,5,6,7] [] [] Tryz.func189 Tryz.ntmps189 AH ?_;intro w0 K O0 ρ0 a t u;simp only[Am];repeat'(first|exact trivial|apply eS rfl|refine rX a ?_ ?_)
 refine dL a rfl rfl (by simp only[go_sem,Nat.reduceEqDiff,reduceCtorEq,Nat.reduceAdd,Nat.reduceSub,Nat.reduceMul,Nat.reduceLeDiff,Nat.reduceLT,Int.reduceLE,Int.reduceToNat,Int.reduceNeg,↓reduceIte];rfl) 101 103 102 rfl rfl rfl rfl ?_;intro L c d f g h j k o;refine⟨_,CM l L c 0,[1,101,102,2],_,[(1,.nm 1),(101,.nm 101),(102,.nm 102),(2,.nm 2),(7,.nil)],[],l6 l n L c ?_,rfl,rfl,?_,?_,rfl,?_⟩
 .intro i hi;refine dJ (fr:=102) rfl rfl d h j k g o rfl (by kernel_rfl) sc rfl rfl (by kernel_rfl) (by kernel_rfl) (tyTab_ok [] [0,1,2,4,5,6,7]) AH ?_;intro y r s z x a v w m;simp only[CM,Hb];repeat'(first|exact trivial|apply AB|refine rX a ?_ ?_)
  refine⟨rfl,?_⟩;repeat'(first|apply eS rfl|refine rX a ?_ ?_)
  .simp only[AO];omega
  have e:List.take i (List.take i l)++[((l.getD i (0,0)).1,(l.getD i (0,0)).2)]=l.take (i+1):=by
   rw[Ar l (0,0) hi,BY (Nat.le_of_eq (by rw[Of];omega):(l.take i).length<=i)]
  refine Ev.ent (σ':=⟨[],[(1,.box 55 false [.p K2 l]),(101,.loop { L with state:=.busy }),(102,.frame c [(2,.bp 2 [] 0),(6,.clo 177 [1])]),(2,.box 55 false [.sr 7 C9 0 (i+1)]),(7,.arr 59 C9 (l.take (i+1)))]⟩) ?_ (AC [(1,.nm 1),(101,.nm 101),(102,.nm 102),(2,.nm 2),(7,.nm 7)] rfl rfl ?_ ?_)
  .refine Xb a (yn:=101) rfl rfl sc m ⟨rfl,?_⟩;simp only[CM,go_sem,Nat.reduceEqDiff,reduceCtorEq,Nat.reduceAdd,Nat.reduceSub,Nat.reduceMul,Nat.reduceLeDiff,Nat.reduceLT,Int.reduceLE,Int.reduceToNat,Int.reduceNeg,↓reduceIte,fR d f]
  .refine eM ?_;exact e
  exact eN
 .simp only[Ba];exact eN
 .simp only[Ba,CM];exact eN
 rintro _ _ ⟨rfl,rfl⟩;refine⟨[(1,.nm 1),(101,.nm 101),(102,.nm 102),(2,.nm 2),(7,.nm 7)],CM l L c l.length,L,rfl,rfl,?_,rfl,rfl,rfl,by rw[d];rfl,?_⟩
 .simp only[CM];exact eN
 intro b;rw[f];simp only[EvJ,CM,Ba,go_sem,Nat.reduceEqDiff,reduceCtorEq,Nat.reduceAdd,Nat.reduceSub,Nat.reduceMul,Nat.reduceLeDiff,Nat.reduceLT,Int.reduceLE,Int.reduceToNat,Int.reduceNeg,↓reduceIte];replace a:=Qp (dn:=103) (b:=b) a;repeat'(first|exact trivial|apply eS rfl|refine rX a ?_ ?_)
 refine Ev.ent (σ':=⟨[(4,.sr 7 C9 0 l.length)],[(7,.arr 59 C9 l),(103,.dfr)]⟩) ?_ (AC [(7,.nm 7),(103,.nm 103)] rfl rfl ?_ ?_)
 .exact Un a [.tmp 4] rfl (.inl rfl) rfl rfl (.sr 7 C9 0 l.length) eT ⟨rfl,by simp only[go_sem,Nat.reduceEqDiff,reduceCtorEq,Nat.reduceAdd,Nat.reduceSub,Nat.reduceMul,Nat.reduceLeDiff,Nat.reduceLT,Int.reduceLE,Int.reduceToNat,Int.reduceNeg,↓reduceIte]⟩
 .exact eN
 exact eN
theorem l7 (l:List (Int×Int)) (b:l.length<=100000):BB Tryz.prog 175 [.clo 177 [1]] [(1,.box 55 false [.p K2 l])] [] (λres c=>res=.sr 7 C9 0 l.length/\c=[(7,.arr 59 C9 l)]):=by
 refine Jf [0,2] [] [] Tryz.func175 Tryz.ntmps175 AH ?_;intro w0 K O0 ρ0 a d e;simp only[Am];repeat'(first|exact trivial|apply eS rfl|refine rX a ?_ ?_)
 refine cP 1 a ?_ ?_
 .trivial
 refine rM a (Z4 l b) [(1,.nm 1)] [1] ?_ ?_ ?_
 .exact eN
 .exact eN
 rintro _ _ ⟨rfl,rfl⟩;refine⟨[(7,.nm 7)],.sr 7 C9 0 l.length,[(7,.arr 59 C9 l)],rfl,rfl,?_,?_,rfl,rfl,?_⟩
 .exact eN
 .exact eN
 refine GX [2] a (by simp only[go_sem,Nat.reduceEqDiff,reduceCtorEq,Nat.reduceAdd,Nat.reduceSub,Nat.reduceMul,Nat.reduceLeDiff,Nat.reduceLT,Int.reduceLE,Int.reduceToNat,Int.reduceNeg,↓reduceIte];rfl) ?_ ?_
 .trivial
 repeat' apply eS rfl
 exact fM a [.tmp 2] (.sr 7 C9 0 l.length) eT ⟨rfl,rfl⟩
theorem A0W (x:Int) (h0:0<=x) (h1:x<256):BB Tryz.prog 209 [.p (.int .u64) x] [] [] (λres g=>(∃n:Int,res=.p T3 n/\(13<=x->n≠0))/\g=[]):=by
 refine Jf [0,2,4,8,14] [] [] Tryz.func209 Tryz.ntmps209 AH ?_;intro w0 K O0 ρ0 a i j;simp only[Am];repeat'(first|exact trivial|apply eS rfl|refine rX a ?_ ?_|refine rC ?_ ?_<;>intro b<;>try(cases b;done))
 all_goals first|(exfalso;omega)|skip
 refine La [0,2] a rfl (by simp only[go_sem,Nat.reduceEqDiff,reduceCtorEq,Nat.reduceAdd,Nat.reduceSub,Nat.reduceMul,Nat.reduceLeDiff,Nat.reduceLT,Int.reduceLE,Int.reduceToNat,Int.reduceNeg,↓reduceIte,ByteArray.size,List.size_toArray,AO];rfl) ?_ ?_
 .have hu:∀u:UInt8,((u.toNat:Nat):Int)<=255:=λu=>by have:=u.toNat_lt;omega
  refine⟨⟨h0,by omega⟩,⟨h0,?_⟩,⟨?_,?_⟩,?_,?_⟩
  .have c:x<((256:Nat):Int):=h1;exact c
  .exact ABs dg (AAE _)
  .exact ABs (hu _) dg
  .rw[Int.zero_add];exact ABs dg (AAE _)
  rw[Int.zero_add];exact ABs (hu _) dg
 repeat' apply eS rfl
 refine fM a [.tmp 2] (.p T3 _) (by simp only[R4,s4,Qj,XS,Ii,Jx,Ij,go_sem,Nat.reduceEqDiff,reduceCtorEq,Nat.reduceAdd,Nat.reduceSub,Nat.reduceMul,Nat.reduceLeDiff,Nat.reduceLT,Int.reduceLE,Int.reduceToNat,Int.reduceNeg,↓reduceIte];rfl) ⟨⟨_,rfl,λh=>?_⟩,rfl⟩;rw[Int.zero_add];intro e;replace e:=Int.ofNat.inj e;have d:x.toNat<256:=by omega
 have f:13<=x.toNat:=by omega
 generalize x.toNat=k at *;clear b;exact absurd e (by
  clear e;revert f;revert d;revert k;decide)
theorem A7m (x:Int) (h0:0<=x) (h1:x<256):BB Tryz.prog 191 [.p (.int .u64) x] [] [] (λres d=>(∃n:Int,res=.p T3 n/\(13<=x->n≠0))/\d=[]):=by
 refine Jf [0,2] [] [] Tryz.func191 Tryz.ntmps191 AH ?_;intro w0 K O0 ρ0 a e f;simp only[Am];repeat'(first|exact trivial|apply eS rfl|refine rX a ?_ ?_|refine rC ?_ ?_<;>intro b<;>try(cases b;done))
 refine cP 1 a ?_ ?_
 .trivial
 refine rM a (A0W x h0 h1) [] [] ?_ ?_ ?_
 .exact eN
 .exact eN
 rintro _ _ ⟨⟨n,rfl,c⟩,rfl⟩;refine⟨[],.p T3 n,[],rfl,rfl,?_,?_,rfl,rfl,?_⟩
 .exact eN
 .exact eN
 refine GX [2] a (by simp only[go_sem,Nat.reduceEqDiff,reduceCtorEq,Nat.reduceAdd,Nat.reduceSub,Nat.reduceMul,Nat.reduceLeDiff,Nat.reduceLT,Int.reduceLE,Int.reduceToNat,Int.reduceNeg,↓reduceIte];rfl) ?_ ?_
 .trivial
 repeat' apply eS rfl
 exact fM a [.tmp 2] (.p T3 n) eT ⟨⟨_,rfl,c⟩,rfl⟩
theorem fS (l:List (Int×Int)) (b:SS l) (hs:Z1 l):BB Tryz.prog 176 [.sr 1000000 C9 0 l.length,.fn 140] [(1000000,.arr 59 C9 l)] [1000000] (λres e=>res=.raw (.tuple #[])/\e=[(1000000,.arr 59 C9 (AZ l))]):=by
 have f:=b.1;refine Jf [0,1,4] [] [] Tryz.func176 Tryz.ntmps176 AH ?_;intro w0 K O0 ρ0 a g h;simp only[Am];repeat'(first|exact trivial|apply eS rfl|refine rX a ?_ ?_)
 refine cP 4 a ?_ ?_
 .exact eV
 refine rM a (A7m (l.length:Int) O1 O1) [] [] ?_ ?_ ?_
 .exact eN
 .exact eN
 rintro _ _ ⟨⟨n,rfl,d⟩,rfl⟩;refine⟨[],.p T3 n,[],rfl,rfl,?_,?_,rfl,rfl,?_⟩
 .exact eN
 .exact eN
 have key:=A4f l b.1 hs b.2 n λq=>d O1;refine PN a 1 (by simp only[go_sem,Nat.reduceEqDiff,reduceCtorEq,Nat.reduceAdd,Nat.reduceSub,Nat.reduceMul,Nat.reduceLeDiff,Nat.reduceLT,Int.reduceLE,Int.reduceToNat,Int.reduceNeg,↓reduceIte];rfl) ?_ ?_
 .trivial
 refine rM a (key) [(1000000,.nm 1000000)] [] ?_ ?_ ?_
 .exact eN
 .exact eN
 rintro _ _ ⟨rfl,rfl⟩;have i:=CT l;refine⟨[(1000000,.nm 1000000)],.raw (.tuple #[]),[(1000000,.arr 59 C9 (AZ l))],rfl,rfl,?_,?_,rfl,rfl,E2 ?_⟩
 .exact eN
 .exact eN
 repeat'(first|exact trivial|apply eS rfl|apply AB|refine rX a ?_ ?_|refine rC ?_ ?_<;>intro c<;>try(cases c;done))
 exact fM a [] (.raw (.tuple #[])) rfl ⟨rfl,rfl⟩
theorem NT (l:List (Int×Int)) (b:SS l) (hs:Z1 l):BB Tryz.prog 138 [.clo 177 [1],.fn 140] [(1,.box 55 false [.p K2 l])] [] (λres c=>res=.sr 7 C9 0 l.length/\c=[(7,.arr 59 C9 (AZ l))]):=by
 have g:=CT l;have d:=b.1;refine Jf [0,1,4,5] [] [] Tryz.func138 Tryz.ntmps138 AH ?_;intro w0 K O0 ρ0 a e f;simp only[Am];repeat'(first|exact trivial|apply eS rfl|refine rX a ?_ ?_)
 refine cP 1 a ?_ ?_
 .trivial
 refine rM a (l7 l O1) [(1,.nm 1)] [1] ?_ ?_ ?_
 .exact eN
 .exact eN
 rintro _ _ ⟨rfl,rfl⟩;refine⟨[(1000000,.nm 7)],.sr 1000000 C9 0 l.length,[(1000000,.arr 59 C9 l)],rfl,rfl,?_,?_,rfl,rfl,?_⟩
 .exact eN
 .exact eN
 refine GX [1,5] a (by simp only[go_sem,Nat.reduceEqDiff,reduceCtorEq,Nat.reduceAdd,Nat.reduceSub,Nat.reduceMul,Nat.reduceLeDiff,Nat.reduceLT,Int.reduceLE,Int.reduceToNat,Int.reduceNeg,↓reduceIte];rfl) ?_ ?_
 .trivial
 repeat' apply eS rfl
 refine cP 2 a ?_ ?_
 .trivial
 refine rM a (fS l b hs) [(1000000,.nm 1000000)] [] ?_ ?_ ?_
 .exact eN
 .exact eN
 rintro _ _ ⟨rfl,rfl⟩;refine⟨[(1000000,.nm 1000000)],.raw (.tuple #[]),[(1000000,.arr 59 C9 (AZ l))],rfl,rfl,?_,?_,rfl,rfl,E2 ?_⟩
 .exact eN
 .exact eN
 repeat'(first|exact trivial|apply eS rfl|refine rX a ?_ ?_)
 refine Ev.ent (σ':=⟨[(4,.sr 7 C9 0 l.length)],[(7,.arr 59 C9 (AZ l))]⟩) ?_ (AC [(7,.nm 1000000)] rfl rfl ?_ ?_)
 .exact fM a [.tmp 4] (.sr 7 C9 0 l.length) eT ⟨rfl,rfl⟩
 .exact eN
 exact eN
def Kq (f:List AD) (o:List Int):List (Nat×Obj):=[(1,.box 101 false [.sr 5 T3 0 o.length]),(2,.box 79 false [.mp 6]),(3,.box 34 true [.p HJ f]),(4,.box 176 false [.clo 137 [1,2,3,4]]),(5,.arr 3 T3 o),(6,.mapo T3 T3 (wK o))]
theorem A9h {o:List Int} (h:Mp f o):Mp (C1 f) o:=⟨h.nd,λx a=>by rw[CF];exact h.rng x a⟩
theorem A5T {o:List Int} (h:Mp (C1 f) o):Mp f o:=⟨h.nd,λx a=>by have:=h.rng x a;rwa [CF]at this⟩
theorem uQ (f:List AD) (hf:AX f) (hs:NdF f):∀(k:Nat) (o:List Int) (n:Int),Mp f o->0<=n->n<f.length->n∉o->f.length-o.length<=k ->
  BB Tryz.prog 137 [.p T3 n,.bp 1 [] 0,.bp 2 [] 0,.bp 3 [] 0,.bp 4 [] 0] (Kq f o) [1,2,3,4,6] (λres Q=>res=.raw (.tuple #[])/\Q=Kq f (D9 (C1 f) k o n)):=by
 intro k;induction k with
 | zero =>
  intro o n h0 h1 B C R;have:=(h0.snoc h1 B C).len;simp only[Do,i5]at this;omega
 | succ k P =>
  intro o n E u v w hk;have t:=E.snoc u v w;have I:=t.len;simp only[Do,i5]at I;have S:=hf.1;refine Jf [0,1,2,3,4,7,9,25,26,27,28,39] [] [] Tryz.func137 Tryz.ntmps137 AH ?_;intro w0 K O0 ρ0 b U V;simp only[Kq,Am];repeat'(first|exact trivial|apply eS rfl|refine rX b ?_ ?_)
  .simp only[AO];omega
  rw[A0T w];obtain⟨O,A⟩:=pS hs n;have T:=A.1;have s:=λa (ha:a∈AZ (f.getD n.toNat (0,[])).2)=>B7 hf ((Ed _).mem_iff.1 ha);have G:D9 (C1 f) (k+1) o n=(AZ (f.getD n.toNat (0,[])).2).foldl (A5 (C1 f) k) (o++[n]):=by rw[Cc,JT]
  have F:=A9h (f:=f) t;refine cP 6 b ?_ ?_
  .exact⟨u,v⟩
  generalize (f.getD n.toNat (0,[])).2=g at *;refine rM b (YA g) [] [] ?_ ?_ ?_
  .exact eN
  .exact eN
  rintro _ _ ⟨rfl,rfl⟩;refine⟨[(50,.nm 1)],.clo 177 [50],[(50,.box 55 false [.p K2 g])],rfl,rfl,?_,?_,rfl,rfl,?_⟩
  .exact eN
  .exact eN
  refine rM b (NT g A O) [(1,.nm 50)] [50] ?_ ?_ ?_
  .exact eN
  .exact eN
  rintro _ _ ⟨rfl,rfl⟩;have D:=CT g;rw[<-D];generalize AZ g=L at *;refine⟨[(51,.nm 7)],.sr 51 C9 0 L.length,[(51,.arr 59 C9 L)],rfl,rfl,?_,?_,rfl,rfl,?_⟩
  .exact eN
  .exact eN
  refine GX [0,1,2,3,4,25,26,27] b (by simp only[go_sem,Nat.reduceEqDiff,reduceCtorEq,Nat.reduceAdd,Nat.reduceSub,Nat.reduceMul,Nat.reduceLeDiff,Nat.reduceLT,Int.reduceLE,Int.reduceToNat,Int.reduceNeg,↓reduceIte];rfl) ?_ ?_
  .trivial
  have N:∀i,Mp (C1 f) ((L.take i).foldl (A5 (C1 f) k) (o++[n]))/\o++[n] <+: (L.take i).foldl (A5 (C1 f) k) (o++[n]):=λi=>Hr (GD (GE hf) k) _ _ (λa ha=>by rw[CF];exact s a (AAx ha)) F;generalize J:o++[n]=q at *;have M:q.length=o.length+1:=by rw[<-J];simp
  rw[<-M];repeat' apply eS rfl
  refine AI (ι:={i:Nat//i<=L.length}) (λi=>⟨[(0,.p T3 n),(1,.bp 1 [] 0),(2,.bp 2 [] 0),(3,.bp 3 [] 0),(4,.bp 4 [] 0),(25,.p K2 L),(26,.p (.int .i64) (L.length:Int)),(27,.p (.int .i64) (i.1:Int))],Kq f ((L.take i.1).foldl (A5 (C1 f) k) q)⟩) (λi=>L.length-i.1) ⟨0,by omega⟩ (A8M [51] (AC [(1,.nm 1),(2,.nm 2),(3,.nm 3),(4,.nm 4),(5,.nm 5),(6,.nm 6)] rfl rfl ?_ ?_)) (λi=>?_)
  .simp only[Kq,AB0,List.foldl_nil];exact eN
  .exact eN
  obtain⟨i,hi⟩:=i;obtain⟨j,y⟩:=N i;replace j:=A5T j;have r:=λ(h:i<L.length)=>RC (A5 (C1 f) k) L (0,0) q h;have H:=y.length_le;generalize x:(L.take i).foldl (A5 (C1 f) k) q=c at j y r H;simp only[Kq];repeat'(first|exact trivial|apply eS rfl|apply AB|refine rX b ?_ ?_|refine rC ?_ ?_<;>intro d<;>try(cases d;done))
  .exact eV
  .have l:i<L.length:=by exact eV
   have z:=s _ (AG L (0,0) l);have m:(L.getD i (0,0)).2∉c:=by rw[VY]at d;simpa using d
   refine cP 3 b ?_ ?_
   .trivial
   refine rM b (P c (L.getD i (0,0)).2 j z.1 z.2 m O1) [(1,.nm 1),(2,.nm 2),(3,.nm 3),(4,.nm 4),(5,.nm 5),(6,.nm 6)] [5] ?_ ?_ ?_
   .exact eN
   .simp only[Kq];exact eN
   rintro _ _ ⟨rfl,rfl⟩;refine⟨[(1,.nm 1),(2,.nm 2),(3,.nm 3),(4,.nm 4),(5,.nm 5),(6,.nm 6)],.raw (.tuple #[]),Kq f (D9 (C1 f) k c (L.getD i (0,0)).2),rfl,rfl,?_,?_,rfl,rfl,E2 ?_⟩
   .simp only[Kq];exact eN
   .exact eN
   simp only[Kq];repeat'(first|apply eS rfl|apply AB|refine rX b ?_ ?_)
   .exact eV
   have e:A5 (C1 f) k c (L.getD i (0,0))=D9 (C1 f) k c (L.getD i (0,0)).2:=As m;refine⟨⟨i+1,by omega⟩,by simp only;omega,AC [(1,.nm 1),(2,.nm 2),(3,.nm 3),(4,.nm 4),(5,.nm 5),(6,.nm 6)] rfl rfl ?_ ?_⟩
   .simp only[r l,e];exact eN
   exact eN
  .exact eV
  .have l:i<L.length:=by exact eV
   have m:(L.getD i (0,0)).2∈c:=by rw[VY]at d;simpa using d
   have e:A5 (C1 f) k c (L.getD i (0,0))=c:=At m;refine⟨⟨i+1,by omega⟩,by simp only;omega,AC [(1,.nm 1),(2,.nm 2),(3,.nm 3),(4,.nm 4),(5,.nm 5),(6,.nm 6)] rfl rfl ?_ ?_⟩
   .simp only[r l,e];exact eN
   exact eN
  have hk:L.take i=L:=BY (by exact eV);rw[hk]at x;rw[G,x];exact fM b [] (.raw (.tuple #[])) rfl ⟨rfl,rfl⟩
section
theorem uR {α a:Type} (g:α->a) (o:List α) (d:α) (z:a) {i:Nat} (h:i<o.length):((o.take i).map g++List.replicate (o.length-i) z).set i (g (o.getD i d))=(o.take (i+1)).map g++List.replicate (o.length-(i+1)) z:=by
 obtain⟨m,c⟩:∃m,o.length-i=m+1:=⟨o.length-i-1,by omega⟩;have e:o.length-(i+1)=m:=by omega
 have b:((o.take i).map g).length=i:=by rw[aS,Of];omega
 rw[c,e,ACj _ _ O1,b,ABh,List.replicate_succ,ACx,Ar o d h,AAN];simp
def TM:AW:={ ins:=[FL,T3],pre:=λ(f,n,_)=>AX f/\NdF f/\0<=n/\n<(List.length f:Int),out:=λ(f,n,_)=>[.p FL (AP (C1 f) n)] }
attribute [local go_sem] TM
theorem uS:AY Tryz.prog 92 TM:=by
 refine fK [0,1,2,4,5,6,7,8,9,10,11,12,22,23,24,25,38,39,40] Tryz.func92 Tryz.ntmps92 AH ?_;rintro w0 O0 ⟨f,root,u⟩ a-⟨hf,hs,r,s⟩;simp only[TM,AK];have z:=hf.1;have l:Mp f []:=⟨by simp,λx D=>by cases D⟩;obtain⟨g,I⟩:=GD (GE hf) f.length [] root (A9h l) r (by rw[CF];exact s) sc;replace g:=A5T g;have w:AP (C1 f) root=(D9 (C1 f) f.length [] root).map (Gx (C1 f) (D9 (C1 f) f.length [] root)):=by unfold AP;rw[CF]
 rw[w];repeat'(first|exact trivial|apply eS rfl|apply AB|refine rX a ?_ ?_|refine rC ?_ ?_<;>intro c<;>try(cases c;done))
 refine cP 2 a ?_ ?_
 .trivial
 refine rM a (uQ f hf hs (List.length f) [] root l r s sc sc) [(1,.nm 6),(2,.nm 5),(3,.nm 2),(4,.nm 7),(5,.nil),(6,.nm 13)] [] ?_ ?_ ?_
 .exact eN
 .simp only[Kq];refine eM ?_;rfl
 rintro _ _ ⟨rfl,rfl⟩;refine⟨[(6,.nm 1),(5,.nm 2),(2,.nm 3),(7,.nm 4),(101,.nm 5),(13,.nm 6)],.raw (.tuple #[]),[(6,.box 101 false [.sr 101 T3 0 (D9 (C1 f) (List.length f) [] root).length]),(5,.box 79 false [.mp 13]),(2,.box 34 true [.p HJ f]),(7,.box 176 false [.clo 137 [6,5,2,7]]),(101,.arr 3 T3 (D9 (C1 f) (List.length f) [] root)),(13,.mapo T3 T3 (wK (D9 (C1 f) (List.length f) [] root)))],rfl,rfl,?_,?_,rfl,rfl,E2 ?_⟩
 .simp only[Kq];exact eN
 .exact eN
 generalize D9 (C1 f) (List.length f) [] root=o at *;have H:=g.len;repeat'(first|exact trivial|apply eS rfl|apply AB|refine rX a ?_ ?_|refine rC ?_ ?_<;>intro c<;>try(cases c;done))
 .simp only[AO];omega
 refine AI (ι:={i:Nat//i<=o.length}) (λi=>⟨[(2,.bp 2 [] 0),(4,.bp 4 [] 0),(5,.bp 5 [] 0),(8,.bp 8 [] 0),(22,.sr 101 T3 0 o.length),(23,.p (.int .i64) (o.length:Int)),(24,.p (.int .i64) (i.1:Int))],[(8,.box 34 true [.sr 20 Sf 0 o.length]),(20,.arr 57 Sf ((o.take i.1).map (Gx (C1 f) o)++List.replicate (o.length-i.1) (0,[]))),(5,.box 79 false [.mp 13]),(2,.box 34 true [.p HJ f]),(101,.arr 3 T3 o),(13,.mapo T3 T3 (wK o)),(4,.box 34 true [.raw (.slice none 0 0)])]⟩) (λi=>o.length-i.1) ⟨0,by omega⟩ (eW [(8,.nm 8),(20,.nm 20),(5,.nm 5),(2,.nm 2),(101,.nm 101),(13,.nm 13),(4,.nm 4)]) (λi=>?_)
 obtain⟨i,hi⟩:=i;repeat'(first|exact trivial|apply eS rfl|apply AB|refine rX a ?_ ?_|refine rC ?_ ?_<;>intro c<;>try(cases c;done))
 .exact eV
 .have m:i<o.length:=by exact eV
  have hn:=g.rng _ (AG o 0 m);have q:Gx (C1 f) o (o.getD i 0)=((f.getD (o.getD i 0).toNat (0,[])).1,(AZ (f.getD (o.getD i 0).toNat (0,[])).2).map (M7 o)):=by unfold Gx;rw[JT]
  obtain⟨t,j⟩:=pS hs (o.getD i 0);have B:=j.1;refine cP 6 a ?_ ?_
  .exact hn
  have G:List.length f<=100000:=z;generalize C:o.getD i 0=n at *;generalize A:f.getD n.toNat (0,[])=x at *;obtain⟨J,d⟩:=x;simp only at t j B q;refine rM a (YA d) [] [] ?_ ?_ ?_
  .exact eN
  .exact eN
  rintro _ _ ⟨rfl,rfl⟩;refine⟨[(50,.nm 1)],.clo 177 [50],[(50,.box 55 false [.p K2 d])],rfl,rfl,?_,?_,rfl,rfl,?_⟩
  .exact eN
  .exact eN
  refine rM a (NT d j t) [(1,.nm 50)] [50] ?_ ?_ ?_
  .exact eN
  .exact eN
  rintro _ _ ⟨rfl,rfl⟩;have v:=CT d;rw[<-v];generalize F:AZ d=L at *;refine⟨[(51,.nm 7)],.sr 51 C9 0 L.length,[(51,.arr 59 C9 L)],rfl,rfl,?_,?_,rfl,rfl,?_⟩
  .exact eN
  .exact eN
  refine GX [2,4,5,8,9,10,11,22,23,24] a (by simp only[go_sem,Nat.reduceEqDiff,reduceCtorEq,Nat.reduceAdd,Nat.reduceSub,Nat.reduceMul,Nat.reduceLeDiff,Nat.reduceLT,Int.reduceLE,Int.reduceToNat,Int.reduceNeg,↓reduceIte];rfl) ?_ ?_
  .trivial
  repeat'(first|exact trivial|apply eS rfl|apply AB|refine rX a ?_ ?_|refine rC ?_ ?_<;>intro c<;>try(cases c;done))
  refine AI (ι:={k:Nat//k<=L.length}) (λk=>⟨[(2,.bp 2 [] 0),(4,.bp 4 [] 0),(5,.bp 5 [] 0),(8,.bp 8 [] 0),(9,.p (.int .i64) (i:Int)),(10,.p T3 n),(11,.sr 51 C9 0 L.length),(22,.sr 101 T3 0 o.length),(23,.p (.int .i64) (o.length:Int)),(24,.p (.int .i64) (i:Int)),(38,.p (.int .i64) (L.length:Int)),(39,.p (.int .i64) (k.1:Int))],[(51,.arr 59 C9 ((L.take k.1).map (M7 o)++L.drop k.1)),(8,.box 34 true [.sr 20 Sf 0 o.length]),(20,.arr 57 Sf ((o.take i).map (Gx (C1 f) o)++List.replicate (o.length-i) (0,[]))),(5,.box 79 false [.mp 13]),(2,.box 34 true [.p HJ f]),(101,.arr 3 T3 o),(13,.mapo T3 T3 (wK o)),(4,.box 34 true [.raw (.slice none 0 0)])]⟩) (λk=>L.length-k.1) ⟨0,by omega⟩ (eW [(51,.nm 51),(8,.nm 8),(20,.nm 20),(5,.nm 5),(2,.nm 2),(101,.nm 101),(13,.nm 13),(4,.nm 4)]) (λk=>?_)
  obtain⟨k,hk⟩:=k;repeat'(first|exact trivial|apply eS rfl|apply AB|refine rX a ?_ ?_|refine rC ?_ ?_<;>intro c<;>try(cases c;done))
  .exact eV
  .exact eV
  .have h:k<L.length:=by exact eV
   have e:=VW (M7 o) (λb=>b) L (0,0) h (M7 o);refine⟨⟨k+1,by omega⟩,by simp only;omega,AC [(51,.nm 51),(8,.nm 8),(20,.nm 20),(5,.nm 5),(2,.nm 2),(101,.nm 101),(13,.nm 13),(4,.nm 4)] rfl rfl ?_ ?_⟩
   .refine eM ?_;rw[e.2];rw[<-e.1];unfold M7;rw[<-A4b]
   exact eN
  .exact⟨hn,by exact eV⟩
  .exact eV
  have h:L.take k=L:=BY (by exact eV);have y:L.drop k=[]:=If (by exact eV);refine⟨⟨i+1,by omega⟩,by simp only;omega,AC [(8,.nm 8),(20,.nm 20),(5,.nm 5),(2,.nm 2),(101,.nm 101),(13,.nm 13),(4,.nm 4)] rfl rfl ?_ ?_⟩
  .refine eM ?_;rw[h,y,AAv];have e:=uR (Gx (C1 f) o) o 0 (0,[]) m;rw[C,q]at e;rw[<-e,A,BY (by simp:(L.map (M7 o)).length<=L.length)]
  exact eN
 have hk:o.take i=o:=BY (by exact eV);have E:o.length-i=0:=by exact eV
 rw[hk,E];exact fI a [.cell 4 34] (by simp only[List.replicate_zero,AAv];first|exact eR|refine Je ?_;exact BY (by rw[aS];exact eV))
end
def Gg (n:Int) (seen:List (Int×Int)):List (Int×Int)->Int
 | []=>0
 | x :: r=>if x.1<0\/x.2<0\/n<=x.2 then 2 else if (seen.any λy=>y.1==x.1)=true then 4 else Gg n (seen++[x]) r
def Gh (l:List (Int×Int)) (n:Int):Int:=Gg n [] l
def fT:AW:={ ins:=[K2,T3],pre:=λ_=>True,out:=λ(l,n,_)=>[.p C0 (Gh l n)] }
theorem OO (n:Int) (l:List (Int×Int)) (h:k<l.length):Gg n (l.take k) (l.drop k)=if (l.getD k (0,0)).1<0\/(l.getD k (0,0)).2<0\/n<=(l.getD k (0,0)).2 then 2 else if ((l.take k).any λy=>y.1==(l.getD k (0,0)).1)=true then 4 else Gg n (l.take (k+1)) (l.drop (k+1)):=by
 rw[Ar l (0,0) h,ON h,AS,AT h];rfl
theorem Wy (l:List (Int×Int)) (f:Int) (h:k<l.length):((l.take (k+1)).any λy=>y.1==f)=((l.take k).any (λy=>y.1==f)||((l.getD k (0,0)).1==f)):=by
 rw[Ar l (0,0) h,ABU];simp
theorem A4g:AY Tryz.prog 126 fT:=by
 refine fK [0,1,4,5,6,10,35,38,51] Tryz.func126 Tryz.ntmps126 AH ?_;rintro w0 O0 ⟨l,n,u⟩ b ⟨⟨h,-⟩,-⟩ -;simp only[AO]at h;simp only[fT,AK];repeat'(first|exact trivial|apply eS rfl|refine rX b ?_ ?_)
 refine AI (ι:={k:Nat//k<=l.length/\Gg n (l.take k) (l.drop k)=Gh l n}) (λk=>⟨[(0,.p K2 l),(1,.p T3 n),(5,.p (.int .i64) (k.1:Int))],[]⟩) (λk=>l.length-k.1) ⟨0,by simp[Gh]⟩ (AC [] rfl rfl ?_ ?_) (λk=>?_)
 .exact eN
 .exact eN
 obtain⟨k,hk,c⟩:=k;repeat'(first|exact trivial|apply eS rfl|refine rX b ?_ ?_|refine rC ?_ ?_<;>intro a<;>try(cases a;done))
 .exact eV
 .have hk:k<l.length:=by exact eV
  have h1:Gh l n=2:=by
   rw[<-c,OO n l hk,At (by rw[<-or_assoc];exact a)]
  exact fI b [.tmp 4] (by rw[h1];exact eR)
 .have hk:k<l.length:=by exact eV
  have hn:¬((l.getD k (0,0)).1<0\/(l.getD k (0,0)).2<0\/n<=(l.getD k (0,0)).2):=by
   have:=a;generalize l.getD k (0,0)=x at this;exact eV
  rw[OO n l hk,As hn]at c;refine AI (ι:={j:Nat//j<=k/\((l.take j).any λy=>y.1==(l.getD k (0,0)).1)=false}) (λj=>⟨[(0,.p K2 l),(1,.p T3 n),(5,.p (.int .i64) (k:Int)),(6,.p (.int .i64) (j.1:Int))],[]⟩) (λj=>k-j.1) ⟨0,by simp⟩ (AC [] rfl rfl ?_ ?_) (λj=>?_)
  .exact eN
  .exact eN
  obtain⟨j,i,f⟩:=j;repeat'(first|exact trivial|apply eS rfl|apply AB|refine rX b ?_ ?_|refine rC ?_ ?_<;>intro a<;>try(cases a;done))
  .exact eV
  .have e:j<l.length:=by exact eV
   have h1:Gh l n=4:=by
    have d:((l.take k).any λy=>y.1==(l.getD k (0,0)).1)=true:=by
     rw[aT];refine⟨l.getD j (0,0),?_,by simpa using a⟩;rw[AS,AT e];exact ABF.2 ⟨j,by exact eV,rfl⟩
    rw[<-c,At d]
   exact fI b [.tmp 4] (by rw[h1];exact eR)
  .exact eV
  .have e:j<l.length:=by exact eV
   refine⟨⟨j+1,by exact eV,?_⟩,by simp only;exact eV,AC [] rfl rfl ?_ ?_⟩
   .have d:=Wy l (l.getD k (0,0)).1 e;refine d.trans ?_;rw[f];simpa using a
   .exact eN
   exact eN
  .exact eV
  have g:j=k:=by exact eV
  subst g;refine⟨⟨j+1,by exact eV,?_⟩,by simp only;exact eV,AC [] rfl rfl ?_ ?_⟩
  .rw[<-c,As (by rw[f];simp)]
  .exact eN
  exact eN
 have h1:Gh l n=0:=by
  have hk:l.length<=k:=by exact eV
  rw[<-c,If hk];rfl
 exact fI b [.tmp 4] (by rw[h1];exact eR)
def uT (n:Int×List (Int×Int)):List Int:=n.1 :: (n.2.length:Int) :: n.2.flatMap λa=>[a.1,a.2]
def B8 (f:List (Int×List (Int×Int))):List Int:=(f.length:Int) :: f.flatMap uT
def Wz (l:List (Int×List (Int×Int))) (k:Nat):List Int:=(l.length:Int) :: (l.take k).flatMap uT
def Va (l:List (Int×List (Int×Int))) (k j:Nat):List Int:=Wz l k++[(l.getD k (0,[])).1,((l.getD k (0,[])).2.length:Int)]++((l.getD k (0,[])).2.take j).flatMap λa=>[a.1,a.2]
theorem RE:∀l:List (Int×Int),(l.flatMap λa=>[a.1,a.2]).length=2*l.length
 | []=>rfl
 | x :: l=>by simp[RE l];omega
theorem A0X (n:Int×List (Int×Int)):(uT n).length=2+2*n.2.length:=by
 have:=RE n.2;simp only[uT,Is];omega
theorem Vb:∀l:List (Int×List (Int×Int)),(∀n∈l,n.2.length<=100000)->(l.flatMap uT).length<=l.length*200002
 | [],_=>by simp
 | x :: l,h=>by
  have h1:=h x sc;have a:=Vb l (λn hn=>h n (by simp[hn]));have b:=A0X x;simp only[ABJ,Do,Is];omega
theorem fU {l:List (Int×List (Int×Int))} (h:∀n∈l,n.2.length<=100000) (hk:k<=l.length):(Wz l k).length<=1+k*200002:=by
 have h1:=Vb (l.take k) (λn hn=>h n (AAx hn));rw[Of,ABw hk]at h1;simp only[Wz,Is];omega
theorem A0Y {l:List (Int×List (Int×Int))} (h:∀n∈l,n.2.length<=100000) (hk:k<l.length) (b:j<=(l.getD k (0,[])).2.length):(Va l k j).length<=3+k*200002+2*j:=by
 have h1:=fU h (Nat.le_of_lt hk);have a:=RE ((l.getD k (0,[])).2.take j);rw[Of,ABw b]at a;simp only[Va,Do,Is,AAs];omega
theorem YB {l:List (Int×List (Int×Int))} (hk:k<l.length):Wz l (k+1)=Va l k (l.getD k (0,[])).2.length:=by
 unfold Wz Va;rw[Ar l (0,[]) hk,ABy,tO];simp[uT,Wz]
theorem YC {l:List (Int×List (Int×Int))} (a:j<(l.getD k (0,[])).2.length):Va l k (j+1)=Va l k j++[((l.getD k (0,[])).2.getD j (0,0)).1,((l.getD k (0,[])).2.getD j (0,0)).2]:=by
 unfold Va;rw[Ar _ (0,0) a,ABy];simp
def Vc:AW:={ ins:=[FL],pre:=λ(f,_)=>f.length<=100000/\∀n∈f,n.2.length<=100000,out:=λ(f,_)=>[.p Bz (B8 f)] }
theorem l8:AY Tryz.prog 97 Vc:=by
 refine fK [0,1,2,3,4,5,6,15,38] Tryz.func97 Tryz.ntmps97 AH ?_;rintro w0 O0 ⟨l,u⟩ a ⟨h,-⟩ ⟨n,d⟩;simp only[Vc,AK];repeat'(first|exact trivial|apply eS rfl|refine rX a ?_ ?_)
 refine AI (ι:={k:Nat//k<=l.length}) (λk=>⟨[(0,.p FL l),(1,.bp 1 [] 0),(3,.sr 10 T3 0 (Wz l k.1).length),(4,.p (.int .i64) (k.1:Int))],[(1,.box 34 true [.p HJ l]),(10,.arr 3 T3 (Wz l k.1))]⟩) (λk=>l.length-k.1) ⟨0,by simp⟩ (AC [(1,.nm 1),(10,.nm 10)] rfl rfl ?_ ?_) (λk=>?_)
 .refine eM ?_;rfl
 .refine eM ?_;rfl
 obtain⟨k,hk⟩:=k;have i:=fU d hk;repeat'(first|exact trivial|apply eS rfl|refine rX a ?_ ?_|refine rC ?_ ?_<;>intro c<;>try(cases c;done))
 .exact eV
 .refine⟨by exact eV,?_⟩;simp only[AO];exact eV
 .have b:k<l.length:=by exact eV
  have o:=d _ (AG l (0,[]) b);refine AI (ι:={j:Nat//j<=(l.getD k (0,[])).2.length}) (λj=>⟨[(0,.p FL l),(1,.bp 1 [] 0),(3,.sr 10 T3 0 (Va l k j.1).length),(4,.p (.int .i64) (k:Int)),(5,.p K2 (l.getD k (0,[])).2),(6,.p (.int .i64) (j.1:Int))],[(1,.box 34 true [.p HJ l]),(10,.arr 3 T3 (Va l k j.1))]⟩) (λj=>(l.getD k (0,[])).2.length-j.1) ⟨0,by simp⟩ (AC [(1,.nm 1),(10,.nm 10)] rfl rfl ?_ ?_) (λj=>?_)
  .refine eM ?_;simp[Va]
  .refine eM ?_;simp[Va]
  obtain⟨j,f⟩:=j;have m:=A0Y d b f;repeat'(first|exact trivial|apply eS rfl|apply AB|refine rX a ?_ ?_|refine rC ?_ ?_<;>intro c<;>try(cases c;done))
  .refine⟨by exact eV,by exact eV,?_⟩;simp only[AO];exact eV
  .exact eV
  .have e:j<(l.getD k (0,[])).2.length:=by exact eV
   refine⟨⟨j+1,by exact eV⟩,by simp only;exact eV,AC [(1,.nm 1),(10,.nm 10)] rfl rfl ?_ ?_⟩
   .refine eM ?_;exact(YC e).symm
   refine eM ?_;have:=AB3 List.length (YC (l:=l) e);rw[Do]at this;exact this.symm
  .exact eV
  have g:j=(l.getD k (0,[])).2.length:=by exact eV
  subst g;refine⟨⟨k+1,by exact eV⟩,by simp only;exact eV,AC [(1,.nm 1),(10,.nm 10)] rfl rfl ?_ ?_⟩
  .refine eM ?_;exact(YB b).symm
  refine eM ?_;exact AB3 List.length (YB b).symm
 have hk:l.take k=l:=BY (by exact eV);have h1:Wz l k=B8 l:=by unfold Wz B8;rw[hk]
 exact fI a [.tmp 2] (by first|exact eR|refine Je ?_;exact h1)
section
attribute [local go_sem] Vc
def W2:List Int->List Int->Int
 | x :: xs,y :: ys=>if x<y then -1 else if y<x then 1 else W2 xs ys
 | _,_=>0
theorem RF (xs ys:List Int) (h1:k<xs.length) (a:k<ys.length):W2 (xs.drop k) (ys.drop k)=if xs.getD k 0<ys.getD k 0 then -1 else if ys.getD k 0<xs.getD k 0 then 1 else W2 (xs.drop (k+1)) (ys.drop (k+1)):=by
 rw[ON h1,ON a,AS,AT h1,AS,AT a];rfl
theorem A0Z (xs ys:List Int) (h:xs.length<=k\/ys.length<=k):W2 (xs.drop k) (ys.drop k)=0:=by
 rcases h with h|h
 .rw[If h];simp[W2]
 rw[If h];simp[W2]
def Ey (a b:List (Int×List (Int×Int))):Int:=W2 (B8 a) (B8 b)
def EU (f:List (Int×List (Int×Int))):Prop:=f.length<=100000/\∀n∈f,n.2.length<=100000
def Vd:AW:={ ins:=[FL,FL],pre:=λ(a,b,_)=>EU a/\EU b,out:=λ(a,b,_)=>[.p T3 (Ey a b)] }
theorem Py {f:List (Int×List (Int×Int))} (h:EU f):(B8 f).length<=1+f.length*200002:=by
 have:=Vb f h.2;simp only[B8,Is];omega
theorem l9:AY Tryz.prog 52 Vd:=by
 refine fK [0,1,2,3,4,5,6,7,21,32,41] Tryz.func52 Tryz.ntmps52 (AE l8 AH) ?_;rintro w0 O0 ⟨a,b,u⟩ e-⟨⟨g,i⟩,⟨j,l⟩⟩;have m:=Py ⟨g,i⟩;have n:=Py ⟨j,l⟩;simp only[Vd,AK];repeat'(first|exact trivial|apply eS rfl|refine rX e ?_ ?_)
 .exact⟨g,i⟩
 .exact⟨j,l⟩
 refine AI (ι:={k:Nat//W2 ((B8 a).drop k) ((B8 b).drop k)=Ey a b}) (λk=>⟨[(5,.p Bz (B8 a)),(6,.p Bz (B8 b)),(7,.p (.int .i64) (k.1:Int))],[]⟩) (λk=>(B8 a).length-k.1) ⟨0,by simp[Ey]⟩ (AC [] rfl rfl ?_ ?_) (λk=>?_)
 .exact eN
 .exact eN
 obtain⟨k,hk⟩:=k;repeat'(first|exact trivial|apply eS rfl|apply AB|refine rX e ?_ ?_|refine rC ?_ ?_<;>intro f<;>try(cases f;done))
 .exact eV
 .obtain⟨h1,c⟩:k<(B8 a).length/\k<(B8 b).length:=by exact eV
  have d:Ey a b=-1:=by rw[<-hk,RF _ _ h1 c,At f]
  exact fI e [.tmp 4] (by rw[d];exact eR)
 .exact eV
 .obtain⟨h1,c⟩:k<(B8 a).length/\k<(B8 b).length:=by exact eV
  have d:Ey a b=1:=by rw[<-hk,RF _ _ h1 c,As (by exact eV),At f]
  exact fI e [.tmp 4] (by rw[d];exact eR)
 .exact eV
 .obtain⟨h1,c⟩:k<(B8 a).length/\k<(B8 b).length:=by exact eV
  refine⟨⟨k+1,?_⟩,by simp only;exact eV,AC [] rfl rfl ?_ ?_⟩
  .rw[<-hk,RF _ _ h1 c,As (by exact eV),As (by exact eV)]
  .exact eN
  exact eN
 have d:Ey a b=0:=by
  rw[<-hk];apply A0Z;by_cases h:k<(B8 a).length
  .right;have:=f (by exact eV);exact eV
  left;exact eV
 exact fI e [.tmp 4] (by rw[d];exact eR)
def OP:AW:={ ins:=[FL,FL],pre:=λ(a,b,_)=>EU a/\EU b,out:=λ(a,b,_)=>[.p .bool (Ey a b==0)] }
end
section
attribute [local go_sem] Vd fT
theorem A10:AY Tryz.prog 21 OP:=by
 refine fK [0,1,2,3,4] Tryz.func21 Tryz.ntmps21 (AE l9 AH) ?_;rintro w0 O0 ⟨a,b,u⟩ c-d;simp only[OP,AK];repeat'(first|exact trivial|apply eS rfl|refine rX c ?_ ?_)
 .exact d
 exact fI c [.tmp 4]
def Hs (m:Int):List (Int×List (Int×Int))->Int
 | []=>0
 | n :: r=>if n.1<0 then 2 else if Gh n.2 m≠0 then Gh n.2 m else Hs m r
def CC (f:List (Int×List (Int×Int))):Int:=if f.length=0 then 1 else if 4096<f.length then 7 else Hs f.length f
def A11:AW:={ ins:=[FL],pre:=λ_=>True,out:=λ(f,_)=>[.p C0 (CC f)] }
theorem Ht (m:Int) (l:List (Int×List (Int×Int))) (h:k<l.length):Hs m (l.drop k)=if (l.getD k (0,[])).1<0 then 2 else if Gh (l.getD k (0,[])).2 m≠0 then Gh (l.getD k (0,[])).2 m else Hs m (l.drop (k+1)):=by
 rw[ON h,AS,AT h];rfl
theorem A4h:AY Tryz.prog 78 A11:=by
 refine fK [0,1,2,3,4,8,12,17,26,38] Tryz.func78 Tryz.ntmps78 (AE A4g AH) ?_;rintro w0 O0 ⟨l,u⟩ a ⟨f,-⟩ -;simp only[A11,AK];repeat'(first|exact trivial|apply eS rfl|refine rX a ?_ ?_|refine rC ?_ ?_<;>intro b<;>try(cases b;done))
 .have h1:CC l=1:=by
   have h:l.length=0:=by exact eV
   unfold CC;rw[At h]
  exact fI a [.tmp 2] (by rw[h1];exact eR)
 .have h1:CC l=7:=by
   have h:¬l.length=0:=by exact eV
   have e:4096<l.length:=by exact eV
   unfold CC;rw[As h,At e]
  exact fI a [.tmp 2] (by rw[h1];exact eR)
 have h1:CC l=Hs l.length l:=by
  have h:¬l.length=0:=by exact eV
  have e:¬4096<l.length:=by exact eV
  unfold CC;rw[As h,As e]
 refine AI (ι:={k:Nat//k<=l.length/\Hs l.length (l.drop k)=CC l}) (λk=>⟨[(1,.bp 1 [] 0),(3,.p (.int .i64) (k.1:Int))],[(1,.box 34 true [.p HJ l])]⟩) (λk=>l.length-k.1) ⟨0,by simp[h1]⟩ (AC [(1,.nm 1)] rfl rfl ?_ ?_) (λk=>?_)
 .exact eN
 .exact eN
 obtain⟨k,hk,hf⟩:=k;repeat'(first|exact trivial|apply eS rfl|apply AB|refine rX a ?_ ?_|refine rC ?_ ?_<;>intro b<;>try(cases b;done))
 .exact eV
 .have d:k<l.length:=by exact eV
  have c:CC l=2:=by rw[<-hf,Ht _ _ d,At b]
  exact fI a [.tmp 2] (by rw[c];exact eR)
 .exact eV
 .have d:k<l.length:=by exact eV
  have c:CC l=Gh (l.getD k (0,[])).2 l.length:=by rw[<-hf,Ht _ _ d,As (by exact eV),At b]
  exact fI a [.tmp 2] (by rw[c];exact eR)
 .exact eV
 .have d:k<l.length:=by exact eV
  refine⟨⟨k+1,by exact eV,?_⟩,by simp only;exact eV,AC [(1,.nm 1)] rfl rfl ?_ ?_⟩
  .rw[<-hf,Ht _ _ d,As (by exact eV),As (by simpa using b)]
  .exact eN
  exact eN
 have c:CC l=0:=by
  have hk:l.length<=k:=by exact eV
  rw[<-hf,If hk];rfl
 exact fI a [.tmp 2] (by rw[c];exact eR)
end
section
attribute [local go_sem] A11 lY
theorem Ve {n:Int}:∀ {l seen:List (Int×Int)},Gg n seen l=0->∀a∈l,0<=a.1/\0<=a.2/\a.2<n
 | [],_,_,a,ha=>by cases ha
 | x :: l,seen,h,a,ha=>by
  simp only[Gg]at h;split at h
  .cases h
  split at h
  .cases h
  rename_i h1 _;rcases GO.1 ha with rfl|ha
  .omega
  exact Ve h a ha
theorem OQ {m:Int}:∀ {f:List (Int×List (Int×Int))},Hs m f=0->∀x∈f,0<=x.1/\∀a∈x.2,0<=a.1/\0<=a.2/\a.2<m
 | [],_,x,c=>by cases c
 | y :: f,h,x,c=>by
  simp only[Hs]at h;split at h
  .cases h
  split at h
  .rename_i h1 b;exact absurd h b
  rename_i h1 b;have b:Gh y.2 m=0:=By b;rcases GO.1 c with rfl|c
  .exact⟨by omega,Ve b⟩
  exact OQ h x c
def Lz (f:List (Int×List (Int×Int))):Prop:=∀x∈f,x.2.length<=100000
def mA (f:List (Int×List (Int×Int))):Prop:=∀x∈f,x.2.length<=8796093022207
theorem Lz.big {f:List (Int×List (Int×Int))} (h:Lz f):mA f:=λx a=>iF (h x a) dg
theorem Vf {f:List (Int×List (Int×Int))} (h:CC f=0) (hs:mA f):Pw f/\0<f.length:=by
 unfold CC at h;split at h
 .cases h
 split at h
 .cases h
 refine⟨⟨by omega,λx b=>⟨hs x b,λa ha=>?_⟩⟩,by omega⟩;have:=(OQ h x b).2 a ha;exact⟨this.2.1,this.2.2⟩
theorem OT {f:List (Int×List (Int×Int))} (h:CC f=0) (hs:Lz f):AX f/\0<f.length :=
 have k:=Vf h hs.big
 ⟨⟨k.1.1,λx a=>⟨hs x a,(k.1.2 x a).2⟩⟩,k.2⟩
def A0 (f:List AD):List AD×Int:=if CC f=0 then (Ko f 0,0) else ([],CC f)
def Z5:AW:={ ins:=[FL],pre:=λ(f,_)=>Lz f,out:=λ(f,_)=>[.p FL (A0 f).1,.p C0 (A0 f).2] }
def pT:AW:={ ins:=[FL],pre:=λ(f,_)=>mA f,out:=λ(f,_)=>[.p FL (A0 f).1,.p C0 (A0 f).2] }
theorem uU:AY Tryz.prog 35 pT:=by
 refine fK [0,1,2,3,4,8] Tryz.func35 Tryz.ntmps35 (AE A4h (AE A0S AH)) ?_;rintro w0 O0 ⟨f,u⟩ b-hs;simp only[pT,AK];repeat'(first|exact trivial|apply eS rfl|refine rX b ?_ ?_|refine rC ?_ ?_<;>intro a<;>try(cases a;done))
 .have h:¬CC f=0:=by simpa using a
  have e:A0 f=([],CC f):=As h;exact fI b [.cell 2 34,.tmp 3] (by rw[e];exact eR)
 .have h:CC f=0:=by simpa using a
  have:=Vf h hs;exact⟨this.1,by exact eV⟩
 have h:CC f=0:=by simpa using a
 have e:A0 f=(Ko f 0,0):=At h;exact fI b [.cell 2 34,.tmp 3] (by rw[e];exact eR)
theorem fV:AY Tryz.prog 35 Z5:=A7k uU λ_ h=>Lz.big h
end
section
attribute [local go_sem] Gf fT
theorem pU {α:Type} (d:α) {l:List α} (h:k<l.length):l.drop k=l.getD k d :: l.drop (k+1):=by
 rw[ON h];have e:l.getD k d=l[k]:=by simp[AS,h]
 rw[e]
end
section
attribute [local go_sem] Gf fT TM
def fW (l:List (Int×Int)):List (Int×Bool):=l.foldl (λm a=>E4 T3 .bool a.1 true m) []
theorem Vg {b:Ty} (x k:Int) (v:b.den) (m:List (Int×b.den)):BP T3 b x (E4 T3 b k v m)=if x=k then some v else BP T3 b x m:=by
 induction m with
 | nil=>simp[E4,BP,HF]
 | cons y m g =>
  simp only[E4];by_cases c:HF T3 k y.1=true
  .rw[At c];have d:k=y.1:=by simpa[HF] using c
   simp only[BP,HF,AAb];by_cases a:x=k
   .rw[At a,At a]
   rw[As a,As a,As (by rw[<-d];exact a)]
  rw[As c];have d:¬k=y.1:=by simpa[HF] using c
  simp only[BP];by_cases a:HF T3 x y.1=true
  .have f:x=y.1:=by simpa[HF] using a
   rw[At a,At a,As (by rw[f];exact λe=>d e.symm)]
  rw[As a,As a,g]
theorem uV (x:Int) (l:List (Int×Int)):(BP T3 .bool x (fW l)).getD false=l.any λy=>y.1==x:=by
 induction l using GM with
 | h0=>rfl
 | h1 l a c =>
  have e:fW (l++[a])=E4 T3 .bool a.1 true (fW l):=by unfold fW;rw[ABt];rfl
  rw[e,Vg,ABU,<-c];by_cases h:x=a.1
  .rw[At h,h];simp
  rw[As h];have b:¬a.1=x:=λe=>h e.symm;simp[b]
def Fe (x:AD) (n:Int):Int:=if x.1<0 then 2 else Gh x.2 n
def Vh:AW:={ ins:=[Sf,T3],pre:=λ_=>True,out:=λ(x,n,_)=>[.p C0 (Fe x n)] }
attribute [local go_sem] Vh
theorem mB:AY Tryz.prog 91 Vh:=by
 refine fK [0,1,2,4,5,7,10,13,14,15,16,32,36] Tryz.func91 Tryz.ntmps91 AH ?_;rintro w0 O0 ⟨⟨t,l⟩,n,u⟩ d ⟨⟨-,⟨o,-⟩⟩,-⟩ -;simp only[AO]at o;simp only[Vh,AK];repeat'(first|exact trivial|apply eS rfl|refine rX d ?_ ?_|refine rC ?_ ?_<;>intro b<;>try(cases b;done))
 .have h1:Fe (t,l) n=2:=At b;exact fI d [.tmp 4] (by rw[h1];exact eR)
 have h0:Fe (t,l) n=Gg n [] l:=As (AAW.2 b);rw[h0];refine AI (ι:={k:Nat//k<=List.length l/\Gg n [] l=Gg n ((l:List (Int×Int)).take k) ((l:List (Int×Int)).drop k)}) (λk=>⟨[(1,.p T3 n),(5,.mp 11),(13,.p K2 l),(14,.p (.int .i64) (List.length l:Int)),(15,.p (.int .i64) (k.1:Int))],[(11,.mapo T3 .bool (fW ((l:List (Int×Int)).take k.1)))]⟩) (λk=>List.length l-k.1) ⟨0,DO _,rfl⟩ (AC [(11,.nm 11)] rfl rfl ?_ ?_) (λk=>?_)
 .refine eM ?_;rfl
 .exact eN
 obtain⟨k,hk,f⟩:=k;have g:=λh:k<l.length=>OO n l h;have q:=λh:k<l.length=>RC (λ(m:List (Int×Bool)) (a:Int×Int)=>E4 T3 .bool a.1 true m) l (0,0) [] h;have i:=λx=>uV x (List.take k (l:List (Int×Int)));simp only;repeat'(first|exact trivial|apply eS rfl|apply AB|refine rX d ?_ ?_|refine rC ?_ ?_<;>intro b<;>try(cases b;done))
 .exact b
 .have c:k<List.length l:=by exact eV
  have e:Gg n [] l=2:=by rw[f,g c,At O1]
  exact fI d [.tmp 4] (by rw[e];exact eR)
 .have c:k<List.length l:=by exact eV
  rw[i]at b;have e:Gg n [] l=4:=by rw[f,g c,As O1,At b]
  exact fI d [.tmp 4] (by rw[e];exact eR)
 .exact eV
 .have c:k<List.length l:=by exact eV
  rw[i]at b;refine⟨⟨k+1,c,by rw[f,g c,As O1,As (by rw[b];simp)]⟩,by simp only;omega,AC [(11,.nm 11)] rfl rfl ?_ ?_⟩
  .refine eM ?_;exact(q c).symm
  exact eN
 have j:List.drop k (l:List (Int×Int))=[]:=If (by exact eV);have e:Gg n [] l=0:=by rw[f,j];rfl
 exact fI d [.tmp 4] (by rw[e];exact eR)
theorem fX {n:Int}:∀ {l seen:List (Int×Int)},Gg n seen l=0->(∀a∈l,∀b∈seen,b.1≠a.1)/\Z1 l
 | [],_,_=>⟨λa ha=>(by cases ha),List.Pairwise.nil⟩
 | x :: l,seen,h=>by
  simp only[Gg]at h;split at h
  .cases h
  split at h
  .cases h
  rename_i h1 g;obtain⟨c,f⟩:=fX h;refine⟨λa ha b d=>?_,AAw.2 ⟨λa ha e=>c a ha x sc e,f⟩⟩;rcases GO.1 ha with rfl|ha
  .intro e;exact g (aT.2 ⟨b,d,by simp[e]⟩)
  exact c a ha b (by simp[d])
theorem fY {m:Int}:∀ {f:List AD},Hs m f=0->∀x∈f,Z1 x.2
 | [],_,x,b=>by cases b
 | y :: f,h,x,b=>by
  simp only[Hs]at h;split at h
  .cases h
  split at h
  .rename_i h1 a;exact absurd h a
  rename_i h1 a;have a:Gh y.2 m=0:=By a;rcases GO.1 b with rfl|b
  .exact(fX a).2
  exact fY h x b
def SL (f:List AD):Prop:=∀x∈f,SS x.2
theorem fZ (h:CC f=0) (hs:SL f):NdF f:=by
 unfold CC at h;split at h
 .cases h
 split at h
 .cases h
 exact λx a=>⟨fY h x a,hs x a⟩
def Pz:AW:={ ins:=[FL],pre:=λ(f,_)=>SL f,out:=λ(f,_)=>[.p FL (A0 f).1,.p C0 (A0 f).2] }
attribute [local go_sem] Pz
theorem uW:AY Tryz.prog 49 Pz:=by
 refine fK [0,1,2,3,5,6,10,15,18,19,20,21,30] Tryz.func49 Tryz.ntmps49 (AE mB (AE uS AH)) ?_;rintro w0 O0 ⟨f,u⟩ c ⟨⟨n,-⟩,-⟩ hs;simp only[AO]at n;have hs:SL f:=hs;have l:Lz f:=λx o=>iF (hs x o).1 O1;simp only[Pz,AK];repeat'(first|exact trivial|apply eS rfl|refine rX c ?_ ?_|refine rC ?_ ?_<;>intro a<;>try(cases a;done))
 .have h1:CC f=1:=by
   have h:f.length=0:=by exact eV
   unfold CC;rw[At h]
  have e:A0 f=([],1):=by unfold A0;rw[h1];rfl
  exact fI c [.cell 2 34,.tmp 3] (by rw[e];exact eR)
 .have h1:CC f=7:=by
   have h:¬f.length=0:=by exact eV
   have i:4096<f.length:=by exact eV
   unfold CC;rw[As h,At i]
  have e:A0 f=([],7):=by unfold A0;rw[h1];rfl
  exact fI c [.cell 2 34,.tmp 3] (by rw[e];exact eR)
 have h1:CC f=Hs f.length f:=by
  have h:¬f.length=0:=by exact eV
  have i:¬4096<f.length:=by exact eV
  unfold CC;rw[As h,As i]
 have j:0<f.length:=by exact eV
 refine AI (ι:={k:Nat//k<=f.length/\Hs f.length (f.drop k)=CC f}) (λk=>⟨[(1,.bp 1 [] 0),(2,.bp 2 [] 0),(18,.p HJ f),(19,.p (.int .i64) (f.length:Int)),(20,.p (.int .i64) (k.1:Int))],[(1,.box 34 true [.p HJ f]),(2,.box 34 true [.raw (.slice none 0 0)])]⟩) (λk=>f.length-k.1) ⟨0,by simp[h1]⟩ (eW [(1,.nm 1),(2,.nm 2)]) (λk=>?_)
 obtain⟨k,hk,hf⟩:=k;simp only;repeat'(first|exact trivial|apply eS rfl|apply AB|refine rX c ?_ ?_|refine rC ?_ ?_<;>intro a<;>try(cases a;done))
 .exact a
 .have g:k<f.length:=by exact eV
  have a:¬Fe (f.getD k (0,[])) f.length=0:=a;have m:CC f=Fe (f.getD k (0,[])) f.length:=by
   rw[<-hf,Ht _ _ g];unfold Fe at a ⊢;by_cases b:(f.getD k (0,[])).1<0
   .rw[At b,At b]
   rw[As b]at a;rw[As b,As b,At a]
  have e:A0 f=([],Fe (f.getD k (0,[])) f.length):=by unfold A0;rw[m,As a]
  exact fI c [.cell 2 34,.tmp 3] (by rw[e];exact eR)
 .exact eV
 .have g:k<f.length:=by exact eV
  have a:Fe (f.getD k (0,[])) f.length=0:=by simpa using a
  refine⟨⟨k+1,g,?_⟩,by simp only;omega,AC [(1,.nm 1),(2,.nm 2)] rfl rfl ?_ ?_⟩
  .rw[<-hf,Ht _ _ g];unfold Fe at a;by_cases b:(f.getD k (0,[])).1<0
   .rw[At b]at a;cases a
   rw[As b]at a;rw[As b,As (by rw[a];simp)]
  .exact eN
  exact eN
 .have d:CC f=0:=by rw[<-hf,If (by exact eV)];rfl
  exact⟨(OT d l).1,fZ d hs,On.2 j⟩
 have d:CC f=0:=by rw[<-hf,If (by exact eV)];rfl
 have e:A0 f=(AP (C1 f) 0,0):=by unfold A0;rw[At d,IT (OT d l).1 (fZ d hs) (ABg 0) (On.2 j)]
 exact fI c [.cell 2 34,.tmp 3] (by rw[e];exact eR)
end
def Kr (h:AF) (f:Int):Int:=(h.2.getD f.toNat (ByteArray.empty,0)).2
def L1 (h:AF) (n:Int):List (Int×Int)->D3->Option D3
 | [],s=>some s
 | a :: l,s=>(C8 h s n (Kr h a.1)).bind (L1 h n l)
def M8 (h:AF) (n:Int):List (Int×Int)->D3->Option D3
 | [],s=>some s
 | a :: l,s=>if (CE h (s.1.getD n.toNat 0) a.1).2=true then (C8 h s a.2 (CE h (s.1.getD n.toNat 0) a.1).1).bind (M8 h n l) else none
def Ks (h:AF) (f:List AD) (n:Int) (s:D3):Option D3:=(L1 h n (f.getD n.toNat (0,[])).2 s).bind (M8 h n (f.getD n.toNat (0,[])).2)
def wL (h:AF) (f:List AD):Nat->Nat->D3->Option (List Int)
 | 0,_,_=>none
 | k+1,i,s=>if i<s.2.length then (Ks h f (s.2.getD i 0) s).bind (wL h f k (i+1)) else some s.1
def Bc (f:List AD):List Int:=f.map λx=>x.1
def EA (f:List AD):List Int:=(List.range f.length).map λi:Nat=>(i:Int)
def Df (f:List AD) (ty:List Int):List AD:=(List.range f.length).map λi=>(ty.getD i 0,(f.getD i (0,[])).2)
structure bN (h:AF):Prop where
 int:∀x∈h.2,0<=x.2/\x.2<(h.1.length:Int)
 val:∀t∈h.1,∀p∈t.2.2.2,0<=p.2/\p.2<(h.1.length:Int)
structure M9 (h:AF) (m:Nat) (s:D3):Prop where
 len:s.1.length=m
 ty:∀t∈s.1,0<=t/\t<(h.1.length:Int)
 wt:∀n∈s.2,0<=n/\n<(m:Int)
theorem M9.get {m:Nat} {s:D3} (hs:M9 h m s) (n0:0<=n) (n1:n<(m:Int)):0<=s.1.getD n.toNat 0/\s.1.getD n.toNat 0<(h.1.length:Int):=by
 have a:n.toNat<s.1.length:=by rw[hs.len];omega
 rw[AS,AT a];exact hs.ty _ (AAu a)
def uX (h:AF) (t:Int):Nat:=((List.range h.1.length).filter λi:Nat=>Ae h t (i:Int)).length
def YD (h:AF) (ty:List Int):Nat:=(ty.map (uX h)).sum
theorem YE {α:Type} {p q:α->Bool}:∀ {l:List α},(∀x∈l,q x=true->p x=true)->(∃b∈l,p b=true/\q b=false)->(l.filter q).length<(l.filter p).length
 | [],_,⟨b,c,_⟩=>by cases c
 | x :: l,h1,⟨b,c,f,g⟩=>by
  have i:∀ {l:List α},(∀x∈l,q x=true->p x=true)->(l.filter q).length<=(l.filter p).length:=by
   intro l h;induction l with
   | nil=>exact OS _
   | cons y l j =>
    have e:=j λz d=>h z (IF _ d);rw[AAH,AAH];by_cases a:q y=true
    .rw[At a,At (h y sc a)];simp only[Is];omega
    rw[As a];split
    .simp only[Is];omega
    exact e
  rw[AAH,AAH];rcases GO.1 c with rfl|c
  .rw[As (by rw[g];simp),At f];have:=i λz d=>h1 z (IF _ d);simp only[Is];omega
  have e:=YE (λz d=>h1 z (IF _ d)) ⟨b,c,f,g⟩;by_cases a:q x=true
  .rw[At a,At (h1 x sc a)];simp only[Is];omega
  rw[As a];split
  .simp only[Is];omega
  exact e
theorem TN (hk:GL h) {a:Int} (b:0<=a) (c:a<(h.1.length:Int)):Ae h a a=true:=(Bu hk b c b c).2 λ_ h=>h
theorem HA (hk:GL h) {a c:Int} (d:0<=a) (e:a<(h.1.length:Int)) (f:0<=b) (b1:b<(h.1.length:Int)) (c0:0<=c) (c1:c<(h.1.length:Int)) (h1:Ae h a b=true) (g:Ae h b c=true):Ae h a c=true :=
 (Bu hk d e c0 c1).2 λi hi=>(Bu hk d e f b1).1 h1 i ((Bu hk f b1 c0 c1).1 g i hi)
theorem A4i (hk:GL h) (hi:Iu h) {a m:Int} (b:0<=a) (c:a<(h.1.length:Int)) (f:0<=m) (g:m<(h.1.length:Int)) (hs:Ae h a m=true) (i:m≠a):uX h m<uX h a:=by
 refine YE (λx d e=>?_) ⟨a.toNat,wH.2 O1,?_,?_⟩
 .have d:=wH.1 d;exact HA hk b c f g (AAE _) O1 hs e
 .rw[ABf b];exact TN hk b c
 rw[ABf b];cases e:Ae h m a with
 | false=>rfl
 | true=>exact absurd (hi m a f g b c e hs) i
theorem pV {α:Type} (g:α->Nat) (d:α):∀ {l:List α} {i:Nat} {v:α},i<l.length->((l.set i v).map g).sum+g (l.getD i d)=(l.map g).sum+g v
 | [],i,v,h=>by simp at h
 | x :: l,0,v,h=>by simp only[ACx,nO,List.sum_cons,List.getD_cons_zero];omega
 | x :: l,i+1,v,h=>by
  have:=pV g d (l:=l) (i:=i) (v:=v) (by simpa using h);simp only[ACy,nO,List.sum_cons,List.getD_cons_succ];omega
theorem Ee (hk:GL h) (hi:Iu h) {m:Nat} {s b:D3} (hs:M9 h m s) {t:Int} (n0:0<=n) (n1:n<(m:Int)) (o:0<=t) (p:t<(h.1.length:Int)) (e:C8 h s n t=some b) :
  M9 h m b/\YD h b.1+b.2.length<=YD h s.1+s.2.length/\s.2.length<=b.2.length:=by
 obtain⟨c,d⟩:=hs.get n0 n1;unfold C8 at e;split at e
 .rename_i j;obtain⟨f,g,l,u⟩:=(Lu hk c d o p).1 j;generalize (Co h (s.1.getD n.toNat 0) t).1=v at *;injection e with e
  split at e
  .subst e;exact⟨hs,OS _,OS _⟩
  rename_i k;subst e;have r:=A4i hk hi c d f g l k;have i:n.toNat<s.1.length:=by rw[hs.len];omega
  have q:=pV (uX h) 0 (v:=v) i;refine⟨⟨by simp only[AAq];exact hs.len,λx a=>?_,λx a=>?_⟩,?_,by simp⟩
  .rcases AB5 a with a|rfl
   .exact hs.ty x a
   exact⟨f,g⟩
  .rcases NO.1 a with a|a
   .exact hs.wt x a
   rw[oR.1 a];exact⟨n0,n1⟩
  unfold YD;simp only[Do,i5];omega
 cases e
def JU (h:AF) (m:Nat) (a:Int×Int):Prop:=(0<=a.1/\a.1<(h.2.length:Int))/\0<=a.2/\a.2<(m:Int)
theorem L2 (hf:bN h) {f:Int} (b:0<=f) (c:f<(h.2.length:Int)):0<=Kr h f/\Kr h f<(h.1.length:Int):=by
 have a:f.toNat<h.2.length:=by omega
 unfold Kr;rw[AS,AT a];exact hf.int _ (AAu a)
theorem YF {f:Int}:∀ {l:List (Int×Int)},(Dw f l).2=true->(f,(Dw f l).1)∈l
 | [],h=>by cases h
 | x :: l,h=>by
  unfold Dw at h ⊢;split
  .rename_i e;rw[<-e];simp
  rename_i e;rw[As e]at h;exact IF _ (YF h)
theorem uY {t:Int} (a:0<=t) (b:t<(h.1.length:Int)):h.1.getD t.toNat Q4∈h.1:=AG h.1 Q4 O1
theorem Hu (hf:bN h) {t f:Int} (a:0<=t) (b:t<(h.1.length:Int)) (e:(CE h t f).2=true):0<=(CE h t f).1/\(CE h t f).1<(h.1.length:Int) :=
 hf.val _ (uY a b) _ (YF e)
theorem P0 {h:AF} (hk:GL h) (hi:Iu h) (hf:bN h) {m:Nat} {n:Int} (n0:0<=n) (n1:n<(m:Int)):∀ {l:List (Int×Int)} {s c:D3},(∀a∈l,JU h m a)->M9 h m s->L1 h n l s=some c ->
  M9 h m c/\YD h c.1+c.2.length<=YD h s.1+s.2.length/\s.2.length<=c.2.length
 | [],s,c,_,hs,e=>by
  injection e with e
  subst e;exact⟨hs,OS _,OS _⟩
 | a :: l,s,c,f,hs,e=>by
  unfold L1 at e;cases d:C8 h s n (Kr h a.1) with
  | none=>rw[d]at e;cases e
  | some s1 =>
   rw[d]at e;obtain⟨⟨g,i⟩,-⟩:=f a sc;obtain⟨o,p⟩:=L2 hf g i;obtain⟨j,r,t⟩:=Ee hk hi hs n0 n1 o p d;obtain⟨q,u,v⟩:=P0 hk hi hf n0 n1 (λb k=>f b (by simp[k])) j e;exact⟨q,by omega,by omega⟩
theorem TP {h:AF} (hk:GL h) (hi:Iu h) (hf:bN h) {m:Nat} {n:Int} (n0:0<=n) (n1:n<(m:Int)):∀ {l:List (Int×Int)} {s c:D3},(∀a∈l,JU h m a)->M9 h m s->M8 h n l s=some c ->
  M9 h m c/\YD h c.1+c.2.length<=YD h s.1+s.2.length/\s.2.length<=c.2.length
 | [],s,c,_,hs,e=>by
  injection e with e
  subst e;exact⟨hs,OS _,OS _⟩
 | a :: l,s,c,g,hs,e=>by
  unfold M8 at e;split at e
  .rename_i o;obtain⟨j,f⟩:=hs.get n0 n1;obtain⟨p,q⟩:=Hu hf j f o;cases d:C8 h s a.2 (CE h (s.1.getD n.toNat 0) a.1).1 with
   | none=>rw[d]at e;cases e
   | some s1 =>
    rw[d]at e;obtain⟨-,i,b1⟩:=g a sc;obtain⟨f,t,u⟩:=Ee hk hi hs i b1 p q d;obtain⟨r,v,w⟩:=TP hk hi hf n0 n1 (λb k=>g b (by simp[k])) f e;exact⟨r,by omega,by omega⟩
  cases e
def OU (h:AF) (f:List AD):Prop:=∀x∈f,∀a∈x.2,JU h f.length a
theorem L3 (ha:OU h f) (n0:0<=n) (n1:n<(f.length:Int)):∀a∈(f.getD n.toNat (0,[])).2,JU h f.length a:=ha _ (AG f (0,[]) O1)
theorem Vi (hk:GL h) (hi:Iu h) (hf:bN h) (ha:OU h f) (n0:0<=n) (n1:n<(f.length:Int)) {s a:D3} (hs:M9 h f.length s) (e:Ks h f n s=some a) :
  M9 h f.length a/\YD h a.1+a.2.length<=YD h s.1+s.2.length/\s.2.length<=a.2.length:=by
 unfold Ks at e;cases b:L1 h n (f.getD n.toNat (0,[])).2 s with
 | none=>rw[b]at e;cases e
 | some s1 =>
  rw[b]at e;obtain⟨c,g,i⟩:=P0 hk hi hf n0 n1 (L3 ha n0 n1) hs b;obtain⟨d,j,k⟩:=TP hk hi hf n0 n1 (L3 ha n0 n1) c e;exact⟨d,by omega,by omega⟩
theorem A4j (h:AF) (t:Int):uX h t<=h.1.length:=by
 unfold uX;exact iF (ABl _ _) sc
theorem A12 (h:AF):∀ty:List Int,YD h ty<=ty.length*h.1.length
 | []=>by simp[YD]
 | t :: ty=>by
  have h1:=A12 h ty;have a:=A4j h t;unfold YD at h1 ⊢;simp only[nO,List.sum_cons,Is,ACd,Nat.one_mul];omega
def NU (h:AF) (f:List AD):Nat:=f.length*h.1.length+f.length+1
def Ff (h:AF) (f:List AD):Option (List Int):=wL h f (NU h f) 0 (Bc f,EA f)
def Ck (h:AF) (f:List AD):List AD×Bool:=match Ff h f with
 | some ty=>(Df f ty,true)
 | none=>([],false)
theorem A13 (a:∀x∈f,0<=x.1/\x.1<(h.1.length:Int)):M9 h f.length (Bc f,EA f):=by
 refine⟨by simp[Bc],λt h1=>?_,λn hn=>?_⟩
 .obtain⟨x,b,rfl⟩:=IS.1 h1;exact a x b
 obtain⟨i,hi,rfl⟩:=IS.1 hn;have:=wH.1 hi;omega
theorem A14 (h:AF) (f:List AD):YD h (Bc f)+(EA f).length+1<=NU h f:=by
 have:=A12 h (Bc f);unfold NU;rw[show (Bc f).length=f.length by simp[Bc]]at this;rw[show (EA f).length=f.length by simp[EA]];omega
def inF (l:List Int) (n:Int):Bool:=l.any λx=>x==n
def f4:AW:={ ins:=[T3],pre:=λ_=>True,out:=λ(t,_)=>[.p FL [(t,[])]] }
theorem A4k:AY Tryz.prog 31 f4:=by
 refine fK [0,2] Tryz.func31 Tryz.ntmps31 AH ?_;rintro w0 O0 ⟨t,u⟩ a - -;simp only[f4,AK];repeat'(first|exact trivial|apply eS rfl|apply AB|refine rX a ?_ ?_|refine rC ?_ ?_<;>intro b<;>try(cases b;done))
 exact fI a [.cell 2 34]
section
attribute [local go_sem] Z5 OP
theorem mC (hf:AX f) (h0:0<=n) (h1:n<f.length):EU (Ko f n):=by
 obtain⟨⟨b,c⟩,_⟩:=A4a hf h0 h1;have d:=hf.1;refine⟨?_,λx a=>?_⟩
 .unfold Ko;rw[aS];omega
 obtain⟨m,_,rfl⟩:=IS.1 a;unfold NS;simp only[aS,CT];exact A0R hf m
theorem f5 (hs:Lz f):EU (A0 f).1:=by
 unfold A0;split
 .rename_i h;obtain⟨h1,b⟩:=OT h hs;exact mC h1 O1 O1
 exact⟨by simp,λx a=>by cases a⟩
end
theorem f6 (l:List (Int×Int)):Pu l↔l.Pairwise (λa b=>a.1<b.1):=by
 constructor
 .intro h;rw[oS];have key:∀d i,i+d+1<l.length->(l.getD i (0,0)).1<(l.getD (i+d+1) (0,0)).1:=by
   intro d;induction d with
   | zero=>intro i hi;exact h i hi
   | succ d e =>
    intro i hi;have h1:=e i O1;have f:=h (i+d+1) O1;have:i+(d+1)+1=i+d+1+1:=by omega
    rw[this];omega
  intro i j hi c g;have h1:=key (j-i-1) i O1;rw[show i+(j-i-1)+1=j by omega]at h1;simpa[AS,hi,c] using h1
 intro h i hi;rw[oS]at h;have:=h i (i+1) O1 hi O1;simpa[AS,hi,show i<l.length by omega] using this
def Kt (l:List Int):List (Int×Bool):=l.foldl (λm x=>E4 T3 .bool x true m) []
theorem mD {b:Ty} (x k:Int) (v:b.den) (m:List (Int×b.den)):BP T3 b x (E4 T3 b k v m)=if x=k then some v else BP T3 b x m:=by
 induction m with
 | nil=>simp[E4,BP,HF]
 | cons y m g =>
  simp only[E4];by_cases c:HF T3 k y.1=true
  .rw[At c];have d:k=y.1:=by simpa[HF] using c
   simp only[BP,HF,AAb];by_cases a:x=k
   .rw[At a,At a]
   rw[As a,As a,As (by rw[<-d];exact a)]
  rw[As c];have d:¬k=y.1:=by simpa[HF] using c
  simp only[BP];by_cases a:HF T3 x y.1=true
  .have f:x=y.1:=by simpa[HF] using a
   rw[At a,At a,As (by rw[f];exact λe=>d e.symm)]
  rw[As a,As a,g]
theorem A4l (l:List Int) (x:Int):(BP T3 .bool x (Kt l)).getD false=inF l x:=by
 induction l using GM with
 | h0=>rfl
 | h1 l a c =>
  have e:Kt (l++[a])=E4 T3 .bool a true (Kt l):=by simp[Kt]
  rw[e,mD];by_cases b:x=a
  .rw[At b];subst b;simp[inF]
  rw[As b,c];simp only[inF,ABU,List.any_cons,List.any_nil,AC8];have:(a==x)=false:=by simpa using λe=>b e.symm
  rw[this,AC8]
theorem YG:∀l:List Int,W2 l l=0
 | []=>rfl
 | x :: l=>by simp[W2,YG l]
theorem W3 (a:List AD):Ey a a=0:=YG _
section
attribute [local go_sem] Z5 OP
def ftR (h:AF) (a:Int×Int):Bool:=decide (a.1<(h.2.length:Int))
def pW (h:AF) (x:AD):Bool:=decide (x.1<(h.1.length:Int))&&x.2.all (ftR h)
def EB (h:AF) (f:List AD):Int:=if (A0 f).2≠0 then (A0 f).2 else if f.all (pW h)=false then 2 else if (Ey f (A0 f).1==0)=false then 3 else 0
def KN:AW:={ ins:=[FY,FL],pre:=λ(_,f,_)=>EU f,out:=λ(h,f,_)=>[.p C0 (EB h f)] }
theorem YH:AY Tryz.prog 13 KN:=by
 refine fK [0,1,2,3,4,5,6,7,8,9,16,22,35,40,52,56] Tryz.func13 Tryz.ntmps13 (AE fV (AE A10 AH)) ?_;rintro w0 O0 ⟨⟨b,hf⟩,f,u⟩ d-hs;have hs:EU f:=hs;simp only[KN,AK];repeat'(first|exact trivial|apply eS rfl|refine rX d ?_ ?_|refine rC ?_ ?_<;>intro a<;>try(cases a;done))
 .exact hs.2
 .have h1:EB (b,hf) f=(A0 f).2:=by unfold EB;rw[At a]
  exact fI d [.tmp 4] (by rw[h1];exact eR)
 have t:(A0 f).2=0:=by simpa using a
 have q:=f5 hs.2;have w:=hs.1;have g:EB (b,hf) f=if f.all (pW (b,hf))=false then 2 else if (Ey f (A0 f).1==0)=false then 3 else 0:=by unfold EB;rw[As (by rw[t];simp)]
 refine AI (ι:={i:Nat//i<=f.length/\(f.take i).all (pW (b,hf))=true}) (λi=>⟨[(2,.bp 2 [] 0),(3,.bp 3 [] 0),(5,.bp 5 [] 0),(7,.p (.int .i64) (i.1:Int))],[(2,.box 26 true [.p M4 b,.p N3 hf]),(3,.box 34 true [.p HJ f]),(5,.box 34 true [.p HJ (A0 f).1])]⟩) (λi=>f.length-i.1) ⟨0,by simp⟩ (eW [(2,.nm 2),(3,.nm 3),(5,.nm 5)]) (λi=>?_)
 obtain⟨i,hi,l⟩:=i;have r:=λh:i<f.length=>JE f (0,[]) (pW (b,hf)) h;simp only;repeat'(first|exact trivial|apply eS rfl|refine rX d ?_ ?_|refine rC ?_ ?_<;>intro a<;>try(cases a;done))
 .exact a
 .have c:i<f.length:=On.1 (by assumption);have e:f.all (pW (b,hf))=false:=by
   rw[ABW];refine⟨_,AG f (0,[]) c,?_⟩;unfold pW;rw[AC3 (AAW.2 a)];simp
  rw[At e]at g;exact fI d [.tmp 4] (by rw[g];exact eR)
 .have c:i<f.length:=On.1 (by assumption);have n:=AG f (0,[]) c;have o:pW (b,hf) (f.getD i (0,[]))=(f.getD i (0,[])).2.all (ftR (b,hf)):=by
   unfold pW;rw[AAZ (show (f.getD i (0,[])).1<(b.length:Int) from a)];rfl
  have v:(f.getD i (0,[])).2.length<=100000:=hs.2 _ n;refine AI (ι:={k:Nat//k<=(f.getD i (0,[])).2.length/\((f.getD i (0,[])).2.take k).all (ftR (b,hf))=true}) (λk=>⟨[(2,.bp 2 [] 0),(3,.bp 3 [] 0),(5,.bp 5 [] 0),(7,.p (.int .i64) (i:Int)),(8,.bp 8 [] 0),(9,.p (.int .i64) (k.1:Int))],[(2,.box 26 true [.p M4 b,.p N3 hf]),(3,.box 34 true [.p HJ f]),(5,.box 34 true [.p HJ (A0 f).1]),(8,.box 57 true [.p T3 (f.getD i (0,[])).1,.p K2 (f.getD i (0,[])).2])]⟩) (λk=>(f.getD i (0,[])).2.length-k.1) ⟨0,by simp⟩ (eW [(2,.nm 2),(3,.nm 3),(5,.nm 5),(8,.nm 8)]) (λk=>?_)
  obtain⟨k,hk,m⟩:=k;have s:=λh:k<(f.getD i (0,[])).2.length=>JE (f.getD i (0,[])).2 (0,0) (ftR (b,hf)) h;simp only;repeat'(first|exact trivial|apply eS rfl|apply AB|refine rX d ?_ ?_|refine rC ?_ ?_<;>intro a<;>try(cases a;done))
  .exact a
  .have j:k<(f.getD i (0,[])).2.length:=On.1 (by assumption);have e:f.all (pW (b,hf))=false:=by
    rw[ABW];refine⟨_,n,?_⟩;rw[o,ABW.2 ⟨_,AG (f.getD i (0,[])).2 (0,0) j,by unfold ftR;rw[AC3 (AAW.2 a)];simp⟩];simp
   rw[At e]at g;exact fI d [.tmp 4] (by rw[g];exact eR)
  .exact eV
  .have j:k<(f.getD i (0,[])).2.length:=On.1 (by assumption);refine⟨⟨k+1,j,?_⟩,by simp only;omega,AC [(2,.nm 2),(3,.nm 3),(5,.nm 5),(8,.nm 8)] rfl rfl ?_ ?_⟩
   .rw[s j,m];unfold ftR;exact AAZ a
   .exact eN
   exact eN
  .exact eV
  have j:(f.getD i (0,[])).2.take k=(f.getD i (0,[])).2:=BY (AAc.1 a);rw[j]at m;refine⟨⟨i+1,c,?_⟩,by simp only;omega,AC [(2,.nm 2),(3,.nm 3),(5,.nm 5)] rfl rfl ?_ ?_⟩
  .rw[r c,l,o,m];rfl
  .exact eN
  exact eN
 .exact⟨hs,q⟩
 .have c:f.take i=f:=BY (AAc.1 (by assumption));rw[c]at l;rw[As (by rw[l];simp),At (by simpa using a)]at g;exact fI d [.tmp 4] (by rw[g];exact eR)
 have c:f.take i=f:=BY (AAc.1 (by assumption));rw[c]at l;rw[As (by rw[l];simp),As (by rw[a];simp)]at g;exact fI d [.tmp 4] (by rw[g];exact eR)
end
section
attribute [local go_sem] NR NQ
def GG (h:AF) (f:List AD) (t:Int):List (Int×Int)->Int
 | []=>0
 | a :: l=>if (CE h t a.1).2=false then 10 else if Ae h (CE h t a.1).1 (f.getD a.2.toNat (0,[])).1=false then 11 else GG h f t l
def Ez (h:AF) (f:List AD):List AD->Int
 | []=>0
 | x :: l=>if GG h f x.1 x.2=0 then Ez h f l else GG h f x.1 x.2
def Fg (h:AF) (f:List AD):Int:=if EB h f=0 then Ez h f f else EB h f
structure Chk (h:AF) (f:List AD):Prop where
 ty:∀x∈f,0<=x.1/\x.1<(h.1.length:Int)
 arc:∀x∈f,∀a∈x.2,JU h f.length a
theorem A7n (e:EB h f=0):Chk h f:=by
 have h1:(A0 f).2=0:=by
  refine By λhn=>?_;unfold EB at e;rw[At hn]at e;exact hn e
 have c:CC f=0:=by
  refine By λhn=>?_;unfold A0 at h1;rw[As hn]at h1;exact hn h1
 have d:f.all (pW h)=true:=by
  cases k:f.all (pW h) with
  | true=>rfl
  | false =>
   unfold EB at e;rw[As (by rw[h1];simp),At k]at e;cases e
 have j:Hs f.length f=0:=by
  unfold CC at c;split at c
  .cases c
  split at c
  .cases c
  exact c
 have g:=OQ j;rw[OF]at d;have i:∀x∈f,x.1<(h.1.length:Int)/\∀a∈x.2,a.1<(h.2.length:Int):=λx b=>by
  have:=d x b;unfold pW at this;rw[An,IN,OF]at this;exact⟨this.1,λa ha=>by have:=this.2 a ha;unfold ftR at this;simpa using this⟩
 exact⟨λx b=>⟨(g x b).1,(i x b).1⟩,λx b a ha=>by
  obtain⟨l,m,n⟩:=(g x b).2 a ha;exact⟨⟨l,(i x b).2 a ha⟩,m,n⟩⟩
theorem W4 (h:AF) (f l:List AD) (hk:k<l.length):Ez h f (l.drop k)=if GG h f (l.getD k (0,[])).1 (l.getD k (0,[])).2=0 then Ez h f (l.drop (k+1)) else GG h f (l.getD k (0,[])).1 (l.getD k (0,[])).2:=by
 rw[pU (0,[]) hk];rfl
theorem f7 (h:AF) (f:List AD) (t:Int) (l:List (Int×Int)) (hk:k<l.length):GG h f t (l.drop k)=if (CE h t (l.getD k (0,0)).1).2=false then 10 else if Ae h (CE h t (l.getD k (0,0)).1).1 (f.getD (l.getD k (0,0)).2.toNat (0,[])).1=false then 11 else GG h f t (l.drop (k+1)):=by
 rw[pU (0,0) hk];rfl
theorem A15:AY Tryz.prog 36 NR:=by
 refine fK [0,1,2,3,6,7,8,9,19,28] Tryz.func36 Tryz.ntmps36 AH ?_;rintro w0 O0 ⟨⟨b,hf⟩,t,f,u⟩ d q ⟨j,m⟩;simp only[NR,AK];refine Ev.ent (σ':=⟨[(0,.p FY (b,hf)),(1,.p T3 t),(2,.p T3 f)],[]⟩) ?_ (AC [] rfl rfl ?_ ?_)
 .repeat'(first|exact trivial|apply eS rfl|refine rX d ?_ ?_)
  .exact⟨j,m⟩
  have o:∀l,l=(List.getD b (Int.toNat t) (ByteArray.empty,[],[],[])).2.2.2->CE (b,hf) t f=Dw f l:=λl e=>by rw[e];rfl
  have r:List.length (List.getD b (Int.toNat t) (ByteArray.empty,[],[],[])).2.2.2<=140737488355328:=(q.1.1.2 _ (AG (b:List FI) Q4 ((ACE j).2 m))).2.2.2.1;generalize (List.getD b (Int.toNat t) (ByteArray.empty,[],[],[])).2.2.2=l at *;rw[o l rfl];refine AI (ι:={k:Nat//k<=List.length l/\Dw f l=Dw f (l.drop k)}) (λk=>⟨[(2,.p T3 f),(8,.p Wr l),(9,.p (.int .i64) (k.1:Int))],[]⟩) (λk=>List.length l-k.1) ⟨0,DO _,rfl⟩ (eW []) (λk=>?_)
  obtain⟨k,hk,a⟩:=k;have i:=λh:k<List.length l=>VU f l h;simp only;repeat'(first|exact trivial|apply eS rfl|apply AB|refine rX d ?_ ?_|refine rC ?_ ?_<;>intro c<;>try(cases c;done))
  .exact c
  .exact On.2 (by exact eV)
  .have g:k<List.length l:=by exact eV
   rw[i g,At c]at a;exact fI d [.tmp 6,.tmp 7] (by rw[a];exact eR)
  .omega
  .have g:k<List.length l:=by exact eV
   rw[i g,As c]at a;exact⟨⟨k+1,g,a⟩,by simp only;omega,eW []⟩
  have n:List.drop k (l:List (Int×Int))=[]:=If (by exact eV);rw[n]at a;have a:Dw f l=(0,false):=a;exact fI d [.tmp 6,.tmp 7] (by rw[a];exact eR)
 .exact eN
 exact eN
end
section
attribute [local go_sem] KN NR PW
theorem A16 (hk:GL h) {a:Int} (c:0<=a) (d:a<(h.1.length:Int)) (e:0<=b) (b1:b<(h.1.length:Int)):Eb (BX h b) (BX h a)=Ae h a b:=by
 have f:=hk.1.wds _ (CS c d);have g:=hk.1.wds _ (CS e b1);rw[ABL,E8 g f];exact(Bu hk c d e b1).symm
def Vj:AW:={ ins:=[FY,T3,T3],pre:=λ(h,a,b,_)=>(((0:Int)<=a/\a<(List.length (h:AF).1:Int))/\((0:Int)<=b/\b<(List.length (h:AF).1:Int)))/\GL h,out:=λ(h,a,b,_)=>[.p .bool (Ae h a b)],lend:=true }
attribute [local go_sem] Vj
theorem f9:AY Tryz.prog 37 Vj:=by
 refine fK [0,1,2,3,6] Tryz.func37 Tryz.ntmps37 (AE Qu AH) ?_;rintro w0 O0 ⟨⟨e,hf⟩,a,b,u⟩ d-⟨⟨ha,c⟩,hk⟩;have hk:GL (e,hf):=hk;have f:=A16 hk ha.1 ha.2 c.1 c.2;have g:(BX (e,hf) b).length<=100000:=iF (hk.1.wid _ (CS c.1 c.2)) O1;simp only[Vj,AK];repeat'(first|exact trivial|apply eS rfl|refine rX d ?_ ?_)
 .exact⟨c,ha,g⟩
 exact fI d [.tmp 6] (by rw[<-f];unfold BX;exact eR)
def L4:AW:={ ins:=[FY,FL],pre:=λ(h,f,_)=>bN h/\EU f/\GL h,out:=λ(h,f,_)=>[.p C0 (Fg h f)] }
attribute [local go_sem] L4
theorem mE:AY Tryz.prog 14 L4:=by
 refine fK [0,1,2,3,4,5,6,7,8,9,10,15,21,33,53,67] Tryz.func14 Tryz.ntmps14 (AE YH (AE A15 (AE f9 AH))) ?_;rintro w0 O0 ⟨⟨a,hf⟩,f,u⟩ e-⟨n,hs,r⟩;have n:bN (a,hf):=n;have hs:EU f:=hs;have r:GL (a,hf):=r;have I:=hs.1;simp only[L4,AK];repeat'(first|exact trivial|apply eS rfl|refine rX e ?_ ?_|refine rC ?_ ?_<;>intro b<;>try(cases b;done))
 .exact hs
 .have j:Fg (a,hf) f=EB (a,hf) f:=As b;exact fI e [.tmp 4] (by rw[j];exact eR)
 have x:EB (a,hf) f=0:=by simpa using b
 have j:Fg (a,hf) f=Ez (a,hf) f f:=At x;obtain⟨w,B⟩:=A7n x;refine AI (ι:={i:Nat//i<=f.length/\Ez (a,hf) f f=Ez (a,hf) f (f.drop i)}) (λi=>⟨[(2,.bp 2 [] 0),(3,.bp 3 [] 0),(6,.p (.int .i64) (i.1:Int))],[(2,.box 26 true [.p M4 a,.p N3 hf]),(3,.box 34 true [.p HJ f])]⟩) (λi=>f.length-i.1) ⟨0,DO _,rfl⟩ (eW [(2,.nm 2),(3,.nm 3)]) (λi=>?_)
 obtain⟨i,hi,g⟩:=i;have F:=λh:i<f.length=>W4 (a,hf) f f h;have E:=λh:i<f.length=>AG f (0,[]) h;simp only;repeat'(first|exact trivial|apply eS rfl|refine rX e ?_ ?_|refine rC ?_ ?_<;>intro b<;>try(cases b;done))
 .exact b
 .have o:i<f.length:=On.1 b;have s:=F o;have q:=E o;obtain⟨y,z⟩:=w _ q;have C:=B _ q;have H:=hs.2 _ q;generalize J:(f.getD i (0,[])).2=L at *;refine AI (ι:={k:Nat//k<=L.length/\GG (a,hf) f (f.getD i (0,[])).1 L=GG (a,hf) f (f.getD i (0,[])).1 (L.drop k)}) (λk=>⟨[(2,.bp 2 [] 0),(3,.bp 3 [] 0),(6,.p (.int .i64) (i:Int)),(7,.p K2 L),(8,.p (.int .i64) (k.1:Int))],[(2,.box 26 true [.p M4 a,.p N3 hf]),(3,.box 34 true [.p HJ f])]⟩) (λk=>L.length-k.1) ⟨0,DO _,rfl⟩ (eW [(2,.nm 2),(3,.nm 3)]) (λk=>?_)
  obtain⟨k,hk,c⟩:=k;have t:=λh:k<L.length=>f7 (a,hf) f (f.getD i (0,[])).1 L h;have D:=λh:k<L.length=>C _ (AG L (0,0) h);simp only;have G:=Hu (f:=(L.getD k (0,0)).1) n y z;repeat'(first|exact trivial|apply eS rfl|apply AB|refine rX e ?_ ?_|refine rC ?_ ?_<;>intro b<;>try(cases b;done))
  .exact⟨by assumption,b,y,z⟩
  .have d:k<L.length:=by exact eV
   rw[t d,At b]at c;have l:Fg (a,hf) f=10:=by rw[j,g,s,As (by rw[c];simp),c]
   exact fI e [.tmp 4] (by rw[l];exact eR)
  .have d:k<L.length:=by exact eV
   obtain⟨-,A,b1⟩:=D d;exact⟨by assumption,⟨A,b1⟩,⟨G b,w _ (AG f (0,[]) O1)⟩,r⟩
  .have d:k<L.length:=by exact eV
   have v:(CE (a,hf) (List.getD f i (0,[])).1 (List.getD L k (0,0)).1).2=true:=by assumption
   rw[t d,As (by rw[v];simp),At b]at c;have l:Fg (a,hf) f=11:=by rw[j,g,s,As (by rw[c];simp),c]
   exact fI e [.tmp 4] (by rw[l];exact eR)
  .omega
  .have d:k<L.length:=by exact eV
   have v:(CE (a,hf) (List.getD f i (0,[])).1 (List.getD L k (0,0)).1).2=true:=by assumption
   rw[t d,As (by rw[v];simp),As (by rw[b];simp)]at c;exact⟨⟨k+1,d,c⟩,by simp only;omega,eW [(2,.nm 2),(3,.nm 3)]⟩
  .omega
  have m:L.drop k=[]:=If (AAc.1 b);rw[m]at c;have c:GG (a,hf) f (f.getD i (0,[])).1 L=0:=c;rw[s,At c]at g;exact⟨⟨i+1,o,g⟩,by simp only;omega,eW [(2,.nm 2),(3,.nm 3)]⟩
 have m:f.drop i=[]:=If (AAc.1 b);rw[m]at g;have l:Fg (a,hf) f=0:=by rw[j,g];rfl
 exact fI e [.tmp 4] (by rw[l];exact eR)
end
section
attribute [local go_sem] NQ
def BR (l:List (Int×Int)) (e:Int):Int:=match l with
 | []=>-1
 | a :: l=>if a.1=e then a.2 else BR l e
theorem RG (e:Int) (l:List (Int×Int)) (h:k<l.length):BR (l.drop k) e=if (l.getD k (0,0)).1=e then (l.getD k (0,0)).2 else BR (l.drop (k+1)) e:=by
 rw[ON h];have e:l.getD k (0,0)=l[k]:=by simp[AS,h]
 rw[e];rfl
def TQ:AW:={ ins:=[Sf,T3],pre:=λ_=>True,out:=λ(x,e,_)=>[.p T3 (BR x.2 e)],lend:=true }
attribute [local go_sem] TQ
theorem uZ:AY Tryz.prog 106 TQ:=by
 refine fK [0,1,2,4,6,8,9,10,11,17] Tryz.func106 Tryz.ntmps106 AH ?_;rintro w0 O0 ⟨⟨ty,l⟩,e,u⟩ c ⟨⟨-,f,-⟩,-⟩ -;simp only[AO]at f;simp only[TQ,AK];repeat'(first|exact trivial|apply eS rfl|refine rX c ?_ ?_)
 refine AI (ι:={k:Nat//k<=l.length/\BR (l.drop k) e=BR l e}) (λk=>⟨[(1,.p T3 e),(8,.p K2 l),(9,.p (.int .i64) (l.length:Int)),(10,.p (.int .i64) (k.1:Int))],[]⟩) (λk=>l.length-k.1) ⟨0,DO _,rfl⟩ (eW []) (λk=>?_)
 obtain⟨k,hk,hf⟩:=k;have d:=λh:k<l.length=>RG e l h;simp only;repeat'(first|exact trivial|apply eS rfl|apply AB|refine rX c ?_ ?_|refine rC ?_ ?_<;>intro b<;>try(cases b;done))
 .exact b
 .have a:k<l.length:=by exact eV
  rw[d a,At b]at hf;exact fI c [.tmp 4] (by rw[<-hf];exact eR)
 .exact eV
 .have a:k<l.length:=by exact eV
  rw[d a,As (by simpa using b)]at hf;exact⟨⟨k+1,a,hf⟩,by simp only;omega,eW []⟩
 have a:l.drop k=[]:=If (by exact eV);rw[a]at hf;exact fI c [.tmp 4] (by rw[<-hf];first|exact eR|refine Je ?_;rfl)
end
section
attribute [local go_sem] NQ TQ
def IU (n i:Nat):List Int:=(List.range n).map λj=>if j<i then -1 else 0
theorem u3 (n i:Nat):(IU n i).length=n:=by simp[IU]
theorem mF (n:Nat):IU n 0=List.replicate n 0:=by
 apply AAt
 .simp[IU]
 intro j h1 a;simp[IU]
theorem u4 (n i:Nat):(IU n i).set i (-1)=IU n (i+1):=by
 apply AAt
 .simp[IU]
 intro j h1 b;simp only[IU,List.getElem_set,ABA,ABD];split
 .rename_i e;rw[At O1]
 rename_i e;by_cases a:j<i
 .rw[At a,At O1]
 rw[As a,As O1]
theorem u5 (n:Nat):IU n n=List.replicate n (-1):=by
 apply AAt
 .simp[IU]
 intro j h1 a;simp only[IU,ABA,ABD,List.getElem_replicate];rw[At (by simpa[IU] using h1)]
def OV (bl:List (Int×Int)) (m:List Int) (x:Int×Int):Bool:=decide (BR bl x.1<0)||decide (0<=m.getD x.2.toNat 0)&&!(m.getD x.2.toNat 0==BR bl x.1)
def GN (bl:List (Int×Int)):List (Int×Int)->List Int->Option (List Int)
 | [],m=>some m
 | x :: l,m=>if OV bl m x=true then none else GN bl l (m.set x.2.toNat (BR bl x.1))
def IV (h:AF) (b:List AD) (n:AD) (k:Int):Bool:=decide (k<0)||!Ae h n.1 (b.getD k.toNat (0,[])).1
def Hv (h:AF) (b:List AD):List AD->Nat->List Int->Option (List Int)
 | [],_,m=>some m
 | n :: r,i,m=>if IV h b n (m.getD i 0)=true then none else match GN (b.getD (m.getD i 0).toNat (0,[])).2 n.2 m with
  | none=>none
  | some a=>Hv h b r (i+1) a
def gA (h:AF) (a b:List AD):Option (List Int):=Hv h b a 0 ((List.replicate a.length (-1)).set 0 0)
theorem Z6 (bl l:List (Int×Int)) (m:List Int) (h:k<l.length):GN bl (l.drop k) m=if OV bl m (l.getD k (0,0))=true then none else GN bl (l.drop (k+1)) (m.set (l.getD k (0,0)).2.toNat (BR bl (l.getD k (0,0)).1)):=by
 rw[ON h];have e:l.getD k (0,0)=l[k]:=by simp[AS,h]
 rw[e];rfl
theorem NV (h:AF) (b a:List AD) (m:List Int) {i:Nat} (hi:i<a.length):Hv h b (a.drop i) i m=if IV h b (a.getD i (0,[])) (m.getD i 0)=true then none else match GN (b.getD (m.getD i 0).toNat (0,[])).2 (a.getD i (0,[])).2 m with
  | none=>none
  | some c=>Hv h b (a.drop (i+1)) (i+1) c:=by
 rw[ON hi];have e:a.getD i (0,[])=a[i]:=by simp[AS,hi]
 rw[e];rfl
structure Z7 (a b:List AD) (m:List Int):Prop where
 len:m.length=a.length
 rng:∀x∈m,x<(b.length:Int)
theorem Mq {n:Int} (hn:0<=n):∀ {l:List (Int×Int)} (e:Int),(∀x∈l,x.2<n)->BR l e<n
 | [],_,_=>by simp only[BR];omega
 | x :: l,e,h=>by
  simp only[BR];split
  .exact h x sc
  exact Mq hn e (λy a=>h y (by simp[a]))
theorem Z7.set {a b:List AD} {m:List Int} (h:Z7 a b m) (k:Nat) {v:Int} (d:v<(b.length:Int)):Z7 a b (m.set k v):=by
 refine⟨by simp[h.len],λx c=>?_⟩;rcases AB5 c with c|c
 .exact h.rng x c
 rw[c];exact d
theorem Z7.get {a b:List AD} {m:List Int} (h:Z7 a b m) (c:0<b.length) (k:Nat):m.getD k 0<(b.length:Int):=by
 rw[AS];cases hh:m[k]? with
 | none=>show (0:Int)<_;omega
 | some x=>exact h.rng x (AAF hh)
def C2 (h:AF) (f:List AD):Prop:=∀x∈f,0<=x.1/\x.1<(h.1.length:Int)
theorem JV (hf:AX f) (k:Nat):∀x∈(f.getD k (0,[])).2,0<=x.2/\x.2<(f.length:Int):=by
 intro x a;by_cases h:k<f.length
 .exact(hf.2 _ (AG f (0,[]) h)).2 x a
 rw[AS,oF O1]at a;cases a
def A7o:AW:={ ins:=[FY,FL,FL],pre:=λ(h,a,b,_)=>AX a/\0<List.length a/\AX b/\0<List.length b/\C2 h a/\C2 h b,out:=λ(h,a,b,_)=>[.p Bz ((gA h a b).getD []),.p .bool (gA h a b).isSome] }
attribute [local go_sem] A7o
theorem A7p:AY Tryz.prog 63 A7o:=by
 refine fK [0,1,2,3,4,5,6,7,8,9,10,11,12,13,15,16,22,23,24,33,34,35,36,58,60,61,62,63,92,101] Tryz.func63 Tryz.ntmps63 (AE Mn (AE uZ AH)) ?_;rintro w0 O0 ⟨⟨e,hf⟩,a,b,u⟩ n-⟨A,J,L,D,S,T⟩;have W:=A.1;simp only[A7o,AK];repeat'(first|exact trivial|apply eS rfl|refine rX n ?_ ?_)
 refine Ev.ent (σ':=⟨[(3,.bp 3 [] 0),(4,.bp 4 [] 0),(5,.bp 5 [] 0)],[(3,.box 26 true [.p M4 e,.p N3 hf]),(4,.box 34 true [.p HJ a]),(5,.box 34 true [.p HJ b])]⟩) ?_ (AC [(3,.nm 3),(4,.nm 4),(5,.nm 5)] rfl rfl ?_ ?_)
 .refine yM yO ?_;repeat'(first|exact trivial|apply eS rfl|refine rX n ?_ ?_)
  .simp only[AO];omega
  refine AI (ι:={i:Nat//i<=a.length}) (λi=>⟨[(3,.bp 3 [] 0),(4,.bp 4 [] 0),(5,.bp 5 [] 0),(8,.sr 20 T3 0 a.length),(22,.p (.int .i64) (a.length:Int)),(23,.p (.int .i64) (i.1:Int))],[(3,.box 26 true [.p M4 e,.p N3 hf]),(4,.box 34 true [.p HJ a]),(5,.box 34 true [.p HJ b]),(20,.arr 3 T3 (IU a.length i.1))]⟩) (λi=>a.length-i.1) ⟨0,DO _⟩ (AC [(3,.nm 3),(4,.nm 4),(5,.nm 5),(20,.nm 20)] rfl rfl ?_ ?_) (λi=>?_)
  .refine eM ?_;rw[mF]
  .exact eN
  obtain⟨i,hi⟩:=i;have Y:=u3 a.length i;simp only;repeat'(first|exact trivial|apply eS rfl|apply AB|refine rX n ?_ ?_|refine rC ?_ ?_<;>intro c<;>try(cases c;done))
  .exact c
  .omega
  .have f:i<a.length:=On.1 c;refine⟨⟨i+1,f⟩,by simp only;omega,AC [(3,.nm 3),(4,.nm 4),(5,.nm 5),(20,.nm 20)] rfl rfl ?_ ?_⟩
   .simp only[<-u4];exact eN
   exact eN
  .exact On.2 J
  have f:i=a.length:=by omega
  subst f;rw[u5];have P:Z7 a b ((List.replicate a.length (-1)).set 0 0):=Z7.set ⟨by simp,λx q=>by rw[(ACA.1 q).2];omega⟩ 0 O1;have Q:gA (e,hf) a b=Hv (e,hf) b (a.drop 0) 0 ((List.replicate a.length (-1)).set 0 0):=rfl;generalize (List.replicate a.length (-1:Int)).set 0 0=U at *;refine yN ?_;repeat'(first|exact trivial|apply eS rfl|refine rX n ?_ ?_)
  refine AI (ι:={x:Nat×List Int//x.1<=a.length/\Z7 a b x.2/\Hv (e,hf) b (a.drop x.1) x.1 x.2=gA (e,hf) a b}) (λx=>⟨[(3,.bp 3 [] 0),(5,.bp 5 [] 0),(8,.sr 20 T3 0 a.length),(10,.p .bool true),(33,.p HJ a),(34,.p (.int .i64) (a.length:Int)),(35,.p (.int .i64) (x.1.1:Int))],[(3,.box 26 true [.p M4 e,.p N3 hf]),(5,.box 34 true [.p HJ b]),(20,.arr 3 T3 x.1.2)]⟩) (λx=>a.length-x.1.1) ⟨(0,U),DO _,P,Q.symm⟩ (eW [(3,.nm 3),(5,.nm 5),(20,.nm 20)]) (λx=>?_)
  obtain⟨⟨i,m⟩,hi,s,d⟩:=x;simp only at hi s d;have R:=s.len;have G:=λh:i<a.length=>NV (e,hf) b a m h;simp only;repeat'(first|exact trivial|apply eS rfl|refine rX n ?_ ?_|refine rC ?_ ?_<;>intro c<;>try(cases c;done))
  .exact c
  .exact c
  .have f:i<a.length:=On.1 c;have hk:=s.get D i;refine⟨λh=>⟨by simpa using h,hk⟩,λh=>⟨S _ (AG a (0,[]) f),T _ (AG b (0,[]) ?_)⟩⟩;have:(0:Int)<=m.getD i 0:=by simpa using h
   omega
  .have f:i<a.length:=On.1 (by assumption);have w:IV (e,hf) b (a.getD i (0,[])) (m.getD i 0)=true:=by
    unfold IV;rw[oN,IN,TO];assumption
   rw[G f,At w]at d;exact fI n [.tmp 6,.tmp 7] (by rw[<-d];first|exact eR|refine Je ?_;first|rfl|exact⟨rfl,rfl⟩)
  .have f:i<a.length:=On.1 (by assumption);have w:¬IV (e,hf) b (a.getD i (0,[])) (m.getD i 0)=true:=by
    unfold IV;rw[oN,IN,TO];rintro (h|h)
    .have:=c.1;omega
    rw[show Ae (e,hf) (a.getD i (0,[])).1 (b.getD (m.getD i 0).toNat (0,[])).1=true from c.2]at h;cases h
   rw[G f,As w]at d;have N:(0:Int)<=m.getD i 0:=c.1;have O:=s.get D i;have K:(a.getD i (0,[])).2.length<=100000:=(A.2 _ (AG a (0,[]) f)).1;have F:=JV A i;have E:=JV L (m.getD i 0).toNat;have Z:((m.getD i 0).toNat:Int)=m.getD i 0:=by omega
   generalize aa:m.getD i 0=r at *;have X:(b.getD r.toNat (0,[])).2=(b.getD r.toNat (0,[])).2:=rfl;generalize t:(b.getD r.toNat (0,[])).2=bl at d E;generalize V:(a.getD i (0,[])).2=l at d K F;refine AI (ι:={y:Nat×List Int//y.1<=l.length/\Z7 a b y.2/\GN bl (l.drop y.1) y.2=GN bl l m}) (λy=>⟨[(3,.bp 3 [] 0),(5,.bp 5 [] 0),(8,.sr 20 T3 0 a.length),(10,.p .bool true),(13,.p T3 r),(33,.p HJ a),(34,.p (.int .i64) (a.length:Int)),(35,.p (.int .i64) (i:Int)),(60,.p K2 l),(61,.p (.int .i64) (l.length:Int)),(62,.p (.int .i64) (y.1.1:Int))],[(3,.box 26 true [.p M4 e,.p N3 hf]),(5,.box 34 true [.p HJ b]),(20,.arr 3 T3 y.1.2)]⟩) (λy=>l.length-y.1.1) ⟨(0,m),DO _,s,rfl⟩ (eW [(3,.nm 3),(5,.nm 5),(20,.nm 20)]) (λy=>?_)
   obtain⟨⟨j,o⟩,M,v,g⟩:=y;simp only at M v g;have ab:=v.len;have C:=λh:j<l.length=>Z6 bl l o h;have q:=λh:j<l.length=>F _ (AG l (0,0) h);have H:BR bl (l.getD j (0,0)).1<(b.length:Int):=Mq (AAE _) _ λx q=>(E x q).2;have B:OV bl o (l.getD j (0,0))=(decide (BR bl (l.getD j (0,0)).1<0)||decide (0<=o.getD (l.getD j (0,0)).2.toNat 0)&&!(o.getD (l.getD j (0,0)).2.toNat 0==BR bl (l.getD j (0,0)).1)):=rfl;rw[<-t]at C B g H;simp only;repeat'(first|exact trivial|apply eS rfl|apply AB|refine rX n ?_ ?_|refine rC ?_ ?_<;>intro c<;>try(cases c;done))
   .exact c
   .exact⟨N,O⟩
   .have k:j<l.length:=On.1 c;exact⟨λ_=>q k,λ_=>q k⟩
   .have k:j<l.length:=On.1 (by assumption);have z:OV (b.getD r.toNat (0,[])).2 o (l.getD j (0,0))=true:=by
     rw[B,oN,An,IN,IN,TO,AAR];assumption
    rw[C k,At z]at g;rw[t]at g;rw[<-g]at d;have d:none=gA (e,hf) a b:=d;exact fI n [.tmp 6,.tmp 7] (by rw[<-d];first|exact eR|refine Je ?_;first|rfl|exact⟨rfl,rfl⟩)
   .have k:j<l.length:=On.1 (by assumption);exact q k
   .omega
   .have k:j<l.length:=On.1 (by assumption);have z:¬OV (b.getD r.toNat (0,[])).2 o (l.getD j (0,0))=true:=by
     rw[B,oN,An,IN,IN,TO,AAR];rintro (h|⟨h1,I⟩)
     .exact absurd c.1 (ACM.2 h)
     have:=c.2 h1;rw[ABN]at this;exact I this
    rw[C k,As z]at g;exact⟨⟨(j+1,o.set (l.getD j (0,0)).2.toNat (BR (b.getD r.toNat (0,[])).2 (l.getD j (0,0)).1)),k,v.set _ H,by rw[t]at g ⊢;exact g⟩,by simp only;omega,eW [(3,.nm 3),(5,.nm 5),(20,.nm 20)]⟩
   .omega
   have k:j=l.length:=by omega
   subst k;rw[AC1]at g;have g:some o=GN bl l m:=by rw[<-t];exact g
   rw[<-g]at d;exact⟨⟨(i+1,o),f,v,d⟩,by simp only;omega,eW [(3,.nm 3),(5,.nm 5),(20,.nm 20)]⟩
  have f:i=a.length:=by exact eV
  subst f;rw[AC1]at d;have d:some m=gA (e,hf) a b:=d;refine CK [20] ?_;exact fI n [.tmp 6,.tmp 7] (by rw[<-d];first|exact eR|refine Je ?_;exact BY (by rw[R];exact OS _))
 .exact eN
 exact eN
def pX (h:AF) (a b:List AD):Bool:=(gA h a b).isSome
def A17:AW:={ ins:=[FY,FL,FL],pre:=λ(h,a,b,_)=>AX a/\0<List.length a/\AX b/\0<List.length b/\C2 h a/\C2 h b,out:=λ(h,a,b,_)=>[.p .bool (pX h a b)],lend:=true }
theorem A4m:AY Tryz.prog 27 A17:=by
 refine fK [0,1,2,3,4,5,6,8] Tryz.func27 Tryz.ntmps27 (AE A7p AH) ?_;rintro w0 O0 ⟨⟨e,hf⟩,a,b,u⟩ c-d;simp only[A17,AK];repeat'(first|exact trivial|apply eS rfl|refine rX c ?_ ?_)
 .exact d
 exact fI c [.tmp 6] (by unfold pX;exact eR)
end
def YI (s:ByteArray):Nat->List FI->Int
 | _,[]=>-1
 | k,x :: l=>if AM x.1 s=true then (k:Int) else YI s (k+1) l
def Ad (h:AF) (s:ByteArray):Int:=YI s 0 h.1
def i7 (s:ByteArray):Nat->List SI->Int
 | _,[]=>-1
 | k,x :: l=>if AM x.1 s=true then (k:Int) else i7 s (k+1) l
def A8 (h:AF) (s:ByteArray):Int:=i7 s 0 h.2
theorem Z8 (s:ByteArray):∀(l:List FI) (k:Nat),YI s k l=-1\/((k:Int)<=YI s k l/\YI s k l<((k+l.length:Nat):Int))
 | [],_=>.inl rfl
 | x :: l,k=>by
  unfold YI;split
  .exact .inr ⟨ABg _,by simp only[Is];omega⟩
  have:=Z8 s l (k+1);simp only[Is];omega
theorem pY (s:ByteArray):∀(l:List SI) (k:Nat),i7 s k l=-1\/((k:Int)<=i7 s k l/\i7 s k l<((k+l.length:Nat):Int))
 | [],_=>.inl rfl
 | x :: l,k=>by
  unfold i7;split
  .exact .inr ⟨ABg _,by simp only[Is];omega⟩
  have:=pY s l (k+1);simp only[Is];omega
theorem DH (h:AF) (s:ByteArray):-1<=Ad h s/\Ad h s<(h.1.length:Int):=by
 have:=Z8 s h.1 0;unfold Ad;omega
theorem GP (h:AF) (s:ByteArray):-1<=A8 h s/\A8 h s<(h.2.length:Int):=by
 have:=pY s h.2 0;unfold A8;omega
structure LW where
 list:Int
 cons:Int
 null:Int
 dlist:Int
 first:Int
 rest:Int
 head:Int
 last:Int
def sb (l:List UInt8):ByteArray:=⟨l.toArray⟩
def EF (h:AF):LW:=⟨Ad h (sb [108,105,115,116]),Ad h (sb [99,111,110,115]),Ad h (sb [110,117,108,108]),Ad h (sb [100,108,105,115,116]),A8 h (sb [70,73,82,83,84]),A8 h (sb [82,69,83,84]),A8 h (sb [76,73,83,84]),A8 h (sb [76,65,83,84])⟩
def Sm (h:AF):Bool:=decide (0<=(EF h).list/\0<=(EF h).cons/\0<=(EF h).null/\0<=(EF h).dlist/\0<=(EF h).first/\0<=(EF h).rest/\0<=(EF h).head/\0<=(EF h).last)&&Ae h (EF h).list (EF h).cons&&Ae h (EF h).list (EF h).null
def YJ (w:LW) (row:List (Int×Int)):Bool:=decide (BR row w.first<0)&&decide (BR row w.rest<0)
def YK (w:LW) (row:List (Int×Int)):Bool:=decide (0<=BR row w.first)&&decide (0<=BR row w.rest)
def mG (h:AF) (w:LW) (x:AD):Bool:=Ae h w.null x.1&&YJ w x.2
def Vk (h:AF) (w:LW) (x:AD):Bool:=Ae h w.cons x.1&&YK w x.2
def YL (h:AF) (w:LW) (x:AD):Bool:=Ae h x.1 w.cons&&YJ w x.2
def Fu (h:AF) (w:LW) (x:AD):Int:=if mG h w x=true then 1 else if Vk h w x=true then 2 else if YL h w x=true then 3 else 0
theorem YM {w:LW} {x:AD} (e:Fu h w x=2):0<=BR x.2 w.first/\0<=BR x.2 w.rest:=by
 unfold Fu at e;split at e
 .cases e
 split at e
 .rename_i a;unfold Vk YK at a;simp only[An,IN]at a;exact a.2
 split at e<;>cases e
theorem A18 (e:Sm h=true):(0<=(EF h).first/\0<=(EF h).rest)/\0<=(EF h).cons/\0<=(EF h).null/\0<=(EF h).list/\0<=(EF h).dlist/\0<=(EF h).head/\0<=(EF h).last:=by
 unfold Sm at e;rw[An,An,IN]at e;obtain⟨⟨⟨h1,a,b,c,d,f,g,i⟩,-⟩,-⟩:=e;exact⟨⟨d,f⟩,a,b,h1,c,g,i⟩
section
theorem gB (s:ByteArray) (l:List FI) (h:k<l.length):YI s k (l.drop k)=if AM (l.getD k Q4).1 s=true then (k:Int) else YI s (k+1) (l.drop (k+1)):=by
 rw[ON h];have e:l.getD k Q4=l[k]:=by simp[AS,h]
 rw[e];rfl
theorem gC (s:ByteArray) (l:List SI) (h:k<l.length):i7 s k (l.drop k)=if AM (l.getD k (ByteArray.empty,0)).1 s=true then (k:Int) else i7 s (k+1) (l.drop (k+1)):=by
 rw[ON h];have e:l.getD k (ByteArray.empty,0)=l[k]:=by simp[AS,h]
 rw[e];rfl
def NW:AW:={ ins:=[FY,T9],pre:=λ_=>True,out:=λ(h,s,_)=>[.p T3 (Ad h s)],lend:=true }
attribute [local go_sem] NW
theorem Mr:AY Tryz.prog 23 NW:=by
 refine fK [0,1,2,4,5,10,20] Tryz.func23 Tryz.ntmps23 AH ?_;rintro w0 O0 ⟨⟨a,hf⟩,s,u⟩ e ⟨⟨⟨g,-⟩,-⟩,-⟩ -;simp only[AO]at g;simp only[NW,AK];repeat'(first|exact trivial|apply eS rfl|apply AB|refine rX e ?_ ?_|refine rC ?_ ?_<;>intro b<;>try(cases b;done))
 refine AI (ι:={k:Nat//k<=a.length/\YI s k (a.drop k)=Ad (a,hf) s}) (λk=>⟨[(1,.p T9 s),(2,.bp 2 [] 0),(5,.p (.int .i64) (k.1:Int))],[(2,.box 26 true [.p M4 a,.p N3 hf])]⟩) (λk=>a.length-k.1) ⟨0,DO _,rfl⟩ (eW [(2,.nm 2)]) (λk=>?_)
 obtain⟨k,hk,c⟩:=k;have f:=λh:k<a.length=>gB s a h;simp only;repeat'(first|exact trivial|apply eS rfl|apply AB|refine rX e ?_ ?_|refine rC ?_ ?_<;>intro b<;>try(cases b;done))
 .exact b
 .have d:k<a.length:=by exact eV
  rw[f d,At b]at c;exact fI e [.tmp 4] (by rw[<-c];exact eR)
 .omega
 .have d:k<a.length:=by exact eV
  rw[f d,As (by rw[b];simp)]at c;exact⟨⟨k+1,by omega,c⟩,by simp only;omega,eW [(2,.nm 2)]⟩
 have d:a.drop k=[]:=If (by exact eV);rw[d]at c;exact fI e [.tmp 4] (by rw[<-c];first|exact eR|refine Je ?_;rfl)
def JW:AW:={ ins:=[FY,T9],pre:=λ_=>True,out:=λ(h,s,_)=>[.p T3 (A8 h s)],lend:=true }
attribute [local go_sem] JW
theorem A19:AY Tryz.prog 59 JW:=by
 refine fK [0,1,2,4,5,10,20] Tryz.func59 Tryz.ntmps59 AH ?_;rintro w0 O0 ⟨⟨f,hf⟩,s,u⟩ d ⟨⟨-,g,-⟩,-⟩ -;simp only[AO]at g;simp only[JW,AK];repeat'(first|exact trivial|apply eS rfl|apply AB|refine rX d ?_ ?_|refine rC ?_ ?_<;>intro a<;>try(cases a;done))
 refine AI (ι:={k:Nat//k<=hf.length/\i7 s k (hf.drop k)=A8 (f,hf) s}) (λk=>⟨[(1,.p T9 s),(2,.bp 2 [] 0),(5,.p (.int .i64) (k.1:Int))],[(2,.box 26 true [.p M4 f,.p N3 hf])]⟩) (λk=>hf.length-k.1) ⟨0,DO _,rfl⟩ (eW [(2,.nm 2)]) (λk=>?_)
 obtain⟨k,hk,b⟩:=k;have e:=λh:k<hf.length=>gC s hf h;simp only;repeat'(first|exact trivial|apply eS rfl|apply AB|refine rX d ?_ ?_|refine rC ?_ ?_<;>intro a<;>try(cases a;done))
 .exact a
 .have c:k<hf.length:=by exact eV
  rw[e c,At a]at b;exact fI d [.tmp 4] (by rw[<-b];exact eR)
 .omega
 .have c:k<hf.length:=by exact eV
  rw[e c,As (by rw[a];simp)]at b;exact⟨⟨k+1,by omega,b⟩,by simp only;omega,eW [(2,.nm 2)]⟩
 have c:hf.drop k=[]:=If (by exact eV);rw[c]at b;exact fI d [.tmp 4] (by rw[<-b];first|exact eR|refine Je ?_;rfl)
def A1a:AW:=JW
attribute [local go_sem] A1a
theorem Vl:AY Tryz.prog 81 JW:=by
 refine fK [0,1,2,4,5,6,8,9,10,11,20] Tryz.func81 Tryz.ntmps81 AH ?_;rintro w0 O0 ⟨⟨g,hf⟩,s,u⟩ b ⟨⟨-,f,-⟩,-⟩ -;simp only[AO]at f;simp only[JW,AK];repeat'(first|exact trivial|apply eS rfl|apply AB|refine rX b ?_ ?_|refine rC ?_ ?_<;>intro a<;>try(cases a;done))
 refine AI (ι:={k:Nat//k<=hf.length/\i7 s k (hf.drop k)=A8 (g,hf) s}) (λk=>⟨[(1,.p T9 s),(8,.p N3 hf),(9,.p (.int .i64) (hf.length:Int)),(10,.p (.int .i64) (k.1:Int))],[]⟩) (λk=>hf.length-k.1) ⟨0,DO _,rfl⟩ (eW []) (λk=>?_)
 obtain⟨k,hk,c⟩:=k;have e:=λh:k<hf.length=>gC s hf h;simp only;repeat'(first|exact trivial|apply eS rfl|apply AB|refine rX b ?_ ?_|refine rC ?_ ?_<;>intro a<;>try(cases a;done))
 .exact a
 .refine cP 5 b ?_ ?_
  .trivial
  refine AA3 (j:=.i64) b (by kernel_rfl) ?_;refine rL b ?_ ?_
  .trivial
  repeat'(first|exact trivial|apply eS rfl|apply AB|refine rX b ?_ ?_|refine rC ?_ ?_<;>intro a<;>try(cases a;done))
  .have d:k<hf.length:=by exact eV
   rw[e d,At a]at c;exact fI b [.tmp 4] (by rw[<-c];exact eR)
  .omega
  have d:k<hf.length:=by exact eV
  rw[e d,As (by rw[a];simp)]at c;exact⟨⟨k+1,by omega,c⟩,by simp only;omega,eW []⟩
 have d:hf.drop k=[]:=If (by exact eV);rw[d]at c;exact fI b [.tmp 4] (by rw[<-c];first|exact eR|refine Je ?_;rfl)
theorem A4n (s:ByteArray) (t:FI):BB Tryz.prog 77 [.p kL t,.bp 1 [] 0] [(1,.box 9 false [.p T9 s])] [1] (λres c=>res=.p .bool (AM t.1 s)/\c=[(1,.box 9 false [.p T9 s])]):=by
 refine Jf [0,1,2,3] [] [] Tryz.func77 Tryz.ntmps77 AH ?_;intro w0 K O0 ρ0 a d e;simp only[Am];repeat'(first|exact trivial|apply eS rfl|apply AB|refine rX a ?_ ?_|refine rC ?_ ?_<;>intro b<;>try(cases b;done))
 refine Ev.ent (σ':=⟨[(3,.p .bool (AM t.1 s))],[(1,.box 9 false [.p T9 s])]⟩) ?_ (AC [(1,.nm 1)] rfl rfl ?_ ?_)
 .exact fM a [.tmp 3] (.p .bool (AM t.1 s)) eT ⟨rfl,rfl⟩
 .exact eN
 exact eN
theorem u6 (l:List FI) (s:ByteArray):BB Tryz.prog 76 [.p M4 l,.clo 77 [1]] [(1,.box 9 false [.p T9 s])] [1] (λres g=>res=.p T3 (YI s 0 l)/\g=[(1,.box 9 false [.p T9 s])]):=by
 refine Jf [0,1,4,5,7,8,9,16] [] [] Tryz.func76 Tryz.ntmps76 AH ?_;intro w0 K O0 ρ0 b e j;have i:l.length<=140737488355328:=e.1.1;simp only[Am];repeat'(first|exact trivial|apply eS rfl|apply AB|refine rX b ?_ ?_|refine rC ?_ ?_<;>intro a<;>try(cases a;done))
 refine AI (ι:={k:Nat//k<=l.length/\YI s k (l.drop k)=YI s 0 l}) (λk=>⟨[(0,.p M4 l),(1,.clo 77 [1]),(7,.p (.int .i64) (l.length:Int)),(8,.p (.int .i64) (k.1:Int))],[(1,.box 9 false [.p T9 s])]⟩) (λk=>l.length-k.1) ⟨0,DO _,rfl⟩ (eW [(1,.nm 1)]) (λk=>?_)
 obtain⟨k,hk,hf⟩:=k;have f:=λh:k<l.length=>gB s l h;simp only;repeat'(first|exact trivial|apply eS rfl|apply AB|refine rX b ?_ ?_|refine rC ?_ ?_<;>intro a<;>try(cases a;done))
 .have c:k<l.length:=On.1 a;have d:=f c;refine cP 5 b ?_ ?_
  .exact a
  refine rM b (A4n s (l.getD k Q4)) [(1,.nm 1)] [] ?_ ?_ ?_
  .exact eN
  .exact eN
  rintro _ _ ⟨rfl,rfl⟩;refine⟨[(1,.nm 1)],.p .bool (AM (l.getD k Q4).1 s),[(1,.box 9 false [.p T9 s])],rfl,rfl,?_,?_,rfl,rfl,E2 ?_⟩
  .exact eN
  .exact eN
  repeat'(first|exact trivial|apply eS rfl|apply AB|refine rX b ?_ ?_|refine rC ?_ ?_<;>intro a<;>try(cases a;done))
  .rw[At a,hf]at d;refine Ev.ent (σ':=⟨[(4,.p (.int .i64) (k:Int))],[(1,.box 9 false [.p T9 s])]⟩) ?_ (AC [(1,.nm 1)] rfl rfl ?_ ?_)
   .exact fM b [.tmp 4] (.p T3 (k:Int)) eT ⟨by rw[d],rfl⟩
   .exact eN
   exact eN
  .omega
  rw[As (by rw[a];simp)]at d;exact⟨⟨k+1,c,d.symm.trans hf⟩,by simp only;omega,eW [(1,.nm 1)]⟩
 have c:l.drop k=[]:=If (AAc.1 a);rw[c]at hf;have hf:(-1:Int)=YI s 0 l:=hf;refine Ev.ent (σ':=⟨[(4,.p (.int .i64) (-1))],[(1,.box 9 false [.p T9 s])]⟩) ?_ (AC [(1,.nm 1)] rfl rfl ?_ ?_)
 .exact fM b [.tmp 4] (.p T3 (-1)) eT ⟨by rw[hf],rfl⟩
 .exact eN
 exact eN
def P1:AW:={ ins:=[FY,T9],pre:=λ_=>True,out:=λ(h,s,_)=>[.p T3 (Ad h s)],lend:=true }
attribute [local go_sem] P1
theorem P2:AY Tryz.prog 33 P1:=by
 refine fK [0,1,2,3,4] Tryz.func33 Tryz.ntmps33 AH ?_;rintro w0 O0 ⟨⟨c,hf⟩,s,u⟩ a - -;simp only[P1,AK];refine Ev.ent (σ':=⟨[(0,.p FY (c,hf)),(1,.p T9 s)],[]⟩) ?_ (AC [] rfl rfl ?_ ?_)
 .repeat'(first|exact trivial|apply eS rfl|apply AB|refine rX a ?_ ?_|refine rC ?_ ?_<;>intro b<;>try(cases b;done))
  refine cP 3 a ?_ ?_
  .trivial
  refine rM a (u6 c s) [(1,.nm 3)] [] ?_ ?_ ?_
  .exact eN
  .exact eN
  rintro _ _ ⟨rfl,rfl⟩;refine⟨[(3,.nm 1)],.p T3 (YI s 0 c),[(3,.box 9 false [.p T9 s])],rfl,rfl,?_,?_,rfl,rfl,?_⟩
  .exact eN
  .exact eN
  refine rL a ?_ ?_
  .trivial
  repeat'(first|exact trivial|apply eS rfl|apply AB|refine rX a ?_ ?_|refine rC ?_ ?_<;>intro b<;>try(cases b;done))
  exact fI a [.tmp 4] (by unfold Ad;exact eR)
 .exact eN
 exact eN
theorem A7q (h:AF):Ad h ⟨#[108,105,115,116]⟩=(EF h).list/\Ad h ⟨#[99,111,110,115]⟩=(EF h).cons/\Ad h ⟨#[110,117,108,108]⟩=(EF h).null/\Ad h ⟨#[100,108,105,115,116]⟩=(EF h).dlist/\A8 h ⟨#[70,73,82,83,84]⟩=(EF h).first/\A8 h ⟨#[82,69,83,84]⟩=(EF h).rest/\A8 h ⟨#[76,73,83,84]⟩=(EF h).head/\A8 h ⟨#[76,65,83,84]⟩=(EF h).last:=⟨rfl,rfl,rfl,rfl,rfl,rfl,rfl,rfl⟩
theorem A1b (h:AF):((EF h).list<(h.1.length:Int)/\(EF h).cons<(h.1.length:Int)/\(EF h).null<(h.1.length:Int)/\(EF h).dlist<(h.1.length:Int))/\(-1<=(EF h).list/\-1<=(EF h).cons/\-1<=(EF h).null/\-1<=(EF h).dlist) :=
 ⟨⟨(DH h _).2,(DH h _).2,(DH h _).2,(DH h _).2⟩,(DH h _).1,(DH h _).1,(DH h _).1,(DH h _).1⟩
theorem L5 {α:Type} {f:List α} (h:0<=n/\n<(f.length:Int)):n.toNat<f.length:=by omega
end
section
attribute [local go_sem] P1 A1a JW NQ JJ IJ
def wdF (h:AF) (w:LW):dR.den:=(h,w.list,w.cons,w.null,w.dlist,w.first,w.rest,w.head,w.last)
def lwO (w:dR.den):LW:=⟨w.2.1,w.2.2.1,w.2.2.2.1,w.2.2.2.2.1,w.2.2.2.2.2.1,w.2.2.2.2.2.2.1,w.2.2.2.2.2.2.2.1,w.2.2.2.2.2.2.2.2⟩
def Vm:AW:={ ins:=[FL,T3,T3],pre:=λ(f,n,_)=>AX f/\(0:Int)<=n/\n<(List.length f:Int),out:=λ(f,n,e,_)=>[.p T3 (BR (List.getD (f:List AD) n.toNat (0,[])).2 e)],lend:=true }
attribute [local go_sem] Vm
theorem Z9:AY Tryz.prog 169 Vm:=by
 refine fK [0,1,2,3,6,8,14,15,16,17,23] Tryz.func169 Tryz.ntmps169 AH ?_;rintro w0 O0 ⟨f,n,e,u⟩ d-⟨g,hn⟩;have g:AX f:=g;have hn:0<=n/\n<(f.length:Int):=hn;simp only[Vm,AK];repeat'(first|exact trivial|apply eS rfl|apply AB|refine rX d ?_ ?_|refine rC ?_ ?_<;>intro a<;>try(cases a;done))
 .exact hn
 have j:=(g.2 _ (AG f (0,[]) (L5 hn))).1;generalize (f.getD n.toNat (0,[])).2=L at *;refine AI (ι:={k:Nat//k<=L.length/\BR L e=BR (L.drop k) e}) (λk=>⟨[(2,.p T3 e),(14,.p K2 L),(15,.p (.int .i64) (L.length:Int)),(16,.p (.int .i64) (k.1:Int))],[]⟩) (λk=>L.length-k.1) ⟨0,DO _,rfl⟩ (eW []) (λk=>?_)
 obtain⟨k,hk,b⟩:=k;have i:=λh:k<L.length=>RG e L h;simp only;repeat'(first|exact trivial|apply eS rfl|apply AB|refine rX d ?_ ?_|refine rC ?_ ?_<;>intro a<;>try(cases a;done))
 .exact a
 .have c:k<L.length:=by exact eV
  rw[i c,At a]at b;exact fI d [.tmp 6] (by rw[b];exact eR)
 .omega
 .have c:k<L.length:=by exact eV
  rw[i c,As a]at b;exact⟨⟨k+1,by omega,b⟩,by simp only;omega,eW []⟩
 have c:L.drop k=[]:=If (by exact eV);rw[c]at b;exact fI d [.tmp 6] (by rw[b];first|exact eR|refine Je ?_;rfl)
def WOk (h:AF) (w:LW):Prop:=(0<=w.cons/\w.cons<(h.1.length:Int))/\(0<=w.null/\w.null<(h.1.length:Int))
def OW:AW:={ ins:=[dR,FL,T3],pre:=λ(w,f,n,_)=>WOk w.1 (lwO w)/\AX f/\C2 w.1 f/\(0:Int)<=n/\n<(List.length f:Int),out:=λ(w,f,n,_)=>[.p T3 (Fu w.1 (lwO w) (List.getD (f:List AD) n.toNat (0,[])))],lend:=true }
attribute [local go_sem] OW
theorem gD:AY Tryz.prog 171 OW:=by
 refine fK [0,1,2,3,4,6,7,8,9,28,43,56] Tryz.func171 Tryz.ntmps171 (AE Z9 (AE Mn AH)) ?_;rintro w0 O0 ⟨⟨h,l,c,d,dl,a,e,b,la⟩,f,n,u⟩ i-⟨j,k,m,hn⟩;have j:WOk h ⟨l,c,d,dl,a,e,b,la⟩:=j;have k:AX f:=k;have m:C2 h f:=m;have hn:0<=n/\n<(f.length:Int):=hn;have o:=m _ (AG f (0,[]) (L5 hn));simp only[OW,AK];repeat'(first|exact trivial|apply eS rfl|apply AB|refine rX i ?_ ?_|refine rC ?_ ?_<;>intro p<;>try(cases p;done))
 .exact hn
 .exact⟨k,hn⟩
 .exact⟨j.2,o⟩
 .have g:Fu h ⟨l,c,d,dl,a,e,b,la⟩ (f.getD n.toNat (0,[]))=1:=by
   unfold Fu mG Vk YL YJ YK;simp only[An,IN];grind
  exact fI i [.tmp 6] (by rw[show lwO (h,l,c,d,dl,a,e,b,la)=⟨l,c,d,dl,a,e,b,la⟩ from rfl,g];exact eR)
 .exact⟨j.1,o⟩
 .have g:Fu h ⟨l,c,d,dl,a,e,b,la⟩ (f.getD n.toNat (0,[]))=2:=by
   unfold Fu mG Vk YL YJ YK;simp only[An,IN];grind
  exact fI i [.tmp 6] (by rw[show lwO (h,l,c,d,dl,a,e,b,la)=⟨l,c,d,dl,a,e,b,la⟩ from rfl,g];exact eR)
 .exact⟨o,j.1⟩
 .have g:Fu h ⟨l,c,d,dl,a,e,b,la⟩ (f.getD n.toNat (0,[]))=3:=by
   unfold Fu mG Vk YL YJ YK;simp only[An,IN];grind
  exact fI i [.tmp 6] (by rw[show lwO (h,l,c,d,dl,a,e,b,la)=⟨l,c,d,dl,a,e,b,la⟩ from rfl,g];exact eR)
 have g:Fu h ⟨l,c,d,dl,a,e,b,la⟩ (f.getD n.toNat (0,[]))=0:=by
  unfold Fu mG Vk YL YJ YK;simp only[An,IN];grind
 exact fI i [.tmp 6] (by rw[show lwO (h,l,c,d,dl,a,e,b,la)=⟨l,c,d,dl,a,e,b,la⟩ from rfl,g];exact eR)
theorem A4o {a:Int}:(if b<a then b else a)<0↔a<0\/b<0:=by split<;>omega
theorem A4p {a:Int}:(0<=if b<a then b else a)↔0<=a/\0<=b:=by split<;>omega
def A5V:dR.den:=(([],[]),0,0,0,0,0,0,0,0)
def OX:AW:={ ins:=[FY],pre:=λ_=>True,out:=λ(h,_)=>[.p dR (if Sm h=true then wdF h (EF h) else A5V),.p C0 (if Sm h=true then 0 else 5)] }
attribute [local go_sem] OX
theorem A1c:AY Tryz.prog 168 OX:=by
 refine fK [0,1,2,3,4,58] Tryz.func168 Tryz.ntmps168 (AE P2 (AE Vl (AE Mn AH))) ?_;rintro w0 O0 ⟨⟨a,hf⟩,u⟩ b - -;obtain⟨f,g,i,j,k,l,m,n⟩:=A7q (a,hf);obtain⟨⟨s,t,v,w⟩,o,p,q,r⟩:=A1b (a,hf);simp only[OX,AK];repeat'(first|exact trivial|apply eS rfl|apply AB|refine rX b ?_ ?_|refine rC ?_ ?_<;>intro e<;>try(cases e;done))
 all_goals simp only[f,g,i,j,k,l,m,n,A4o,A4p]at *
 .refine⟨λh=>?_,λh=>?_⟩<;>simp only[TO,AAr,To,not_or]at h<;>grind
 .have c:Sm (a,hf)=false:=by
   rw[ABM];intro d;unfold Sm at d;simp only[An,IN]at d;grind
  exact fI b [.cell 2 248,.tmp 3] (by simp only[c,AB4,AB9,A5V];exact eR)
 have c:Sm (a,hf)=true:=by
  unfold Sm;simp only[An,IN];grind
 exact fI b [.cell 2 248,.tmp 3] (by simp only[c,AAQ,wdF];exact eR)
end
section
attribute [local go_sem] Fc Hp KN
def Ms (d:List AJ):AF:=if d.length<=12/\(Aa d).2=0 then (Aa d).1 else (Aa Bm).1
end
section
attribute [local go_sem] NR
theorem mH (h:AF) (hk:GL h) (hi:Iu h) (hf:bN h) (X:h.2.length<=100000) (f:List AD) (P:AX f) (ha:OU h f) (s:D3) (hs:M9 h f.length s) (n0:0<=n) (n1:n<(f.length:Int)) (T:YD h s.1+s.2.length<=1000000000) :
  BB Tryz.prog 93 [.bp 1 [] 0,.p FL f,.p T3 n] (Dm h s) [1]
  (λres z=>(Ks h f n s=none/\res=.p .bool false/\∃A,z=Dm h A)\/∃A,Ks h f n s=some A/\res=.p .bool true/\z=Dm h A):=by
 have H:=L3 ha n0 n1;have Z:(f.getD n.toNat (0,[])).2.length<=100000:=(P.2 _ (AG f (0,[]) O1)).1;have O:Ks h f n s=(L1 h n (f.getD n.toNat (0,[])).2 s).bind (M8 h n (f.getD n.toNat (0,[])).2):=rfl;rw[O];refine Jf [0,1,2,4,6,8,10,11,12,18,19,20,21,37,44,45,46,47,76] [] [] Tryz.func93 Tryz.ntmps93 (AE A47 AH) ?_;intro w0 K O0 ρ0 a aa ab;simp only[Dm,Am];repeat'(first|exact trivial|apply eS rfl|refine rX a ?_ ?_)
 .exact⟨n0,n1⟩
 have Y:f.getD n.toNat (0,[])=f.getD n.toNat (0,[]):=rfl;generalize M:(f.getD n.toNat (0,[])).2=L at *;refine AI (ι:={x:Nat×D3//x.1<=L.length/\M9 h f.length x.2/\YD h x.2.1+x.2.2.length<=1000000000/\L1 h n L s=L1 h n (L.drop x.1) x.2}) (λx=>⟨[(0,.bp 1 [] 0),(2,.p T3 n),(4,.bp 4 [] 0),(18,.p K2 L),(19,.p (.int .i64) (L.length:Int)),(20,.p (.int .i64) (x.1.1:Int))],[(4,.box 34 true [.p HJ f]),(1,.box 163 true [.p FY h,.sr 2 T3 0 x.1.2.1.length,.p Bz x.1.2.2]),(2,.arr 3 T3 x.1.2.1)]⟩) (λx=>L.length-x.1.1) ⟨(0,s),DO _,hs,T,rfl⟩ (eW [(4,.nm 4),(1,.nm 1),(2,.nm 2)]) (λx=>?_)
 obtain⟨⟨k,s1⟩,R,r,C,i⟩:=x;simp only at R r C i ⊢;repeat'(first|exact trivial|apply eS rfl|refine rX a ?_ ?_|refine rC ?_ ?_<;>intro b<;>try(cases b;done))
 .exact b
 .have l:k<L.length:=On.1 b;have d:L1 h n (L.drop k) s1=(C8 h s1 n (Kr h (L.getD k (0,0)).1)).bind (L1 h n (L.drop (k+1))):=by rw[pU (0,0) l];rfl
  obtain⟨⟨F,G⟩,u,b1⟩:=H _ (AG L (0,0) l);obtain⟨o,q⟩:=L2 hf F G;obtain⟨w,y⟩:=r.get n0 n1;refine cD 12 a ?_ ?_
  .exact⟨F,G⟩
  refine rM a (fJ h hk s1 n0 (by rw[r.len];exact n1) w y o q O1) [(1,.nm 1),(2,.nm 2)] [2] ?_ ?_ ?_
  .refine eM ?_;rfl
  .simp only[Dm];exact eN
  rintro res z (⟨c,rfl,rfl⟩|⟨s2,c,rfl,rfl⟩)
  .refine⟨[(1,.nm 1),(2,.nm 2)],.p .bool false,Dm h s1,rfl,rfl,?_,?_,rfl,rfl,?_⟩
   .simp only[Dm];exact eN
   .exact eN
   simp only[Dm];refine rL a ?_ ?_
   .trivial
   repeat'(first|exact trivial|apply eS rfl|refine rX a ?_ ?_|refine rC ?_ ?_<;>intro b<;>try(cases b;done))
   refine Ev.ent (σ':=⟨[(6,.p .bool false)],Dm h s1⟩) ?_ (AC [(1,.nm 1),(2,.nm 2)] rfl rfl ?_ ?_)
   .exact fM a [.tmp 6] (.p .bool false) eT (.inl ⟨by rw[i,d,c];rfl,rfl,s1,rfl⟩)
   .unfold Dm;exact eN
   exact eN
  refine⟨[(1,.nm 1),(2,.nm 2)],.p .bool true,Dm h s2,rfl,rfl,?_,?_,rfl,rfl,?_⟩
  .simp only[Dm];exact eN
  .exact eN
  simp only[Dm];refine rL a ?_ ?_
  .trivial
  obtain⟨D,E,U⟩:=Ee hk hi r n0 n1 o q c;repeat'(first|apply eS rfl|apply AB|refine rX a ?_ ?_|refine rC ?_ ?_<;>intro b<;>try(cases b;done))
  .omega
  exact⟨⟨(k+1,s2),l,D,iF E C,by rw[i,d,c];rfl⟩,by simp only;omega,eW [(4,.nm 4),(1,.nm 1),(2,.nm 2)]⟩
 .exact⟨n0,n1⟩
 have B:L.drop k=[]:=If (AAc.1 b);rw[B]at i;have i:L1 h n L s=some s1:=i;rw[i];have N:(List.getD f n.toNat (0,[])).2=L:=M;rw[N];refine AI (ι:={x:Nat×D3//x.1<=L.length/\M9 h f.length x.2/\YD h x.2.1+x.2.2.length<=1000000000/\(some s1).bind (M8 h n L)=M8 h n (L.drop x.1) x.2}) (λx=>⟨[(0,.bp 1 [] 0),(2,.p T3 n),(44,.p K2 L),(45,.p (.int .i64) (L.length:Int)),(46,.p (.int .i64) (x.1.1:Int))],[(1,.box 163 true [.p FY h,.sr 2 T3 0 x.1.2.1.length,.p Bz x.1.2.2]),(2,.arr 3 T3 x.1.2.1)]⟩) (λx=>L.length-x.1.1) ⟨(0,s1),DO _,r,C,rfl⟩ (eW [(1,.nm 1),(2,.nm 2)]) (λx=>?_)
 obtain⟨⟨j,s2⟩,Q,m,I,g⟩:=x;simp only at Q m I g ⊢;obtain⟨w,y⟩:=m.get n0 n1;repeat'(first|exact trivial|apply eS rfl|refine rX a ?_ ?_|refine rC ?_ ?_<;>intro b<;>try(cases b;done))
 .exact b
 .exact⟨⟨n0,by rw[m.len];exact n1⟩,w,y⟩
 .have l:j<L.length:=On.1 b;have d:M8 h n (L.drop j) s2=if (CE h (s2.1.getD n.toNat 0) (L.getD j (0,0)).1).2=true then (C8 h s2 (L.getD j (0,0)).2 (CE h (s2.1.getD n.toNat 0) (L.getD j (0,0)).1).1).bind (M8 h n (L.drop (j+1))) else none:=by rw[pU (0,0) l];rfl
  obtain⟨-,u,b1⟩:=H _ (AG L (0,0) l);have S:=λe=>Hu (f:=(L.getD j (0,0)).1) hf w y e;generalize CE h (s2.1.getD n.toNat 0) (L.getD j (0,0)).1=v at *;obtain⟨t,ok⟩:=v;refine evP a 3 ?_ ?_
  .trivial
  cases ok with
  | false =>
   rw[As sc]at d;refine rL a ?_ ?_
   .trivial
   repeat'(first|exact trivial|apply eS rfl|refine rX a ?_ ?_|refine rC ?_ ?_<;>intro b<;>try(cases b;done))
   refine Ev.ent (σ':=⟨[(6,.p .bool false)],Dm h s2⟩) ?_ (AC [(1,.nm 1),(2,.nm 2)] rfl rfl ?_ ?_)
   .exact fM a [.tmp 6] (.p .bool false) eT (.inl ⟨by rw[g,d],rfl,s2,rfl⟩)
   .unfold Dm;exact eN
   exact eN
  | true =>
   rw[At rfl]at d;obtain⟨o,q⟩:=S rfl;simp only at o q d;obtain⟨V,W⟩:=m.get u b1;refine rN 4 a ?_ ?_
   .trivial
   refine clG a (fJ h hk s2 u (by rw[m.len];exact b1) V W o q O1) [(1,.nm 1),(2,.nm 2)] [2] ?_ ?_ ?_
   .exact eN
   .simp only[Dm];exact eN
   rintro res z (⟨c,rfl,rfl⟩|⟨J,c,rfl,rfl⟩)
   .refine⟨[(1,.nm 1),(2,.nm 2)],.p .bool false,Dm h s2,rfl,rfl,?_,?_,rfl,rfl,?_⟩
    .simp only[Dm];exact eN
    .exact eN
    simp only[Dm];refine rL a ?_ ?_
    .trivial
    repeat'(first|exact trivial|apply eS rfl|refine rX a ?_ ?_|refine rC ?_ ?_<;>intro b<;>try(cases b;done))
    refine Ev.ent (σ':=⟨[(6,.p .bool false)],Dm h s2⟩) ?_ (AC [(1,.nm 1),(2,.nm 2)] rfl rfl ?_ ?_)
    .exact fM a [.tmp 6] (.p .bool false) eT (.inl ⟨by rw[g,d,c];rfl,rfl,s2,rfl⟩)
    .unfold Dm;exact eN
    exact eN
   refine⟨[(1,.nm 1),(2,.nm 2)],.p .bool true,Dm h J,rfl,rfl,?_,?_,rfl,rfl,?_⟩
   .simp only[Dm];exact eN
   .exact eN
   simp only[Dm];refine rL a ?_ ?_
   .trivial
   obtain⟨D,E,U⟩:=Ee hk hi m u b1 o q c;repeat'(first|apply eS rfl|apply AB|refine rX a ?_ ?_|refine rC ?_ ?_<;>intro b<;>try(cases b;done))
   .omega
   exact⟨⟨(j+1,J),l,D,iF E I,by rw[g,d,c];rfl⟩,by simp only;omega,eW [(1,.nm 1),(2,.nm 2)]⟩
 have B:L.drop j=[]:=If (AAc.1 b);rw[B]at g;have g:(some s1).bind (M8 h n L)=some s2:=g;refine Ev.ent (σ':=⟨[(6,.p .bool true)],Dm h s2⟩) ?_ (AC [(1,.nm 1),(2,.nm 2)] rfl rfl ?_ ?_)
 .exact fM a [.tmp 6] (.p .bool true) eT (.inr ⟨s2,g,rfl,rfl⟩)
 .unfold Dm;exact eN
 exact eN
end
section
def aA:AW:={ ins:=[HJ],pre:=λ(l,_)=>List.length l<=100000,out:=λ(l,_)=>[.own 57 Sf l] }
attribute [local go_sem] aA
theorem u7:AY Tryz.prog 94 aA:=by
 refine fK [0,2,4] Tryz.func94 Tryz.ntmps94 AH ?_;rintro w0 O0 ⟨l,u⟩ a-d;have d:List.length l<=100000:=d;simp only[aA,AK];repeat'(first|exact trivial|apply eS rfl|refine rX a ?_ ?_)
 refine cP 1 a ?_ ?_
 .trivial
 refine tL a false rfl rfl ?_;intro b e;refine rL a ?_ ?_
 .trivial
 repeat'(first|exact trivial|apply eS rfl|refine rX a ?_ ?_|refine rC ?_ ?_<;>intro c<;>try(cases c;done))
 .have f:l=[]:=e c;subst f;refine Ev.ent (σ':=⟨[(2,.sr 5 Sf 0 0)],[(5,.arr 57 Sf [])]⟩) ?_ (AC [(5,.nil)] rfl rfl ?_ ?_)
  .exact Nt a (.inl rfl) (rv:=.tmp 2) rfl (by simp only[Ka,Ii,Gu,go_sem,Nat.reduceEqDiff,reduceCtorEq,Nat.reduceAdd,Nat.reduceSub,Nat.reduceMul,Nat.reduceLeDiff,Nat.reduceLT,Int.reduceLE,Int.reduceToNat,Int.reduceNeg,↓reduceIte])
  .exact eN
  exact eN
 .simp only[AO];omega
 exact Nt a (.inl rfl) (rv:=.tmp 2) rfl (by simp only[Ka,Ii,Gu,go_sem,Nat.reduceEqDiff,reduceCtorEq,Nat.reduceAdd,Nat.reduceSub,Nat.reduceMul,Nat.reduceLeDiff,Nat.reduceLT,Int.reduceLE,Int.reduceToNat,Int.reduceNeg,↓reduceIte])
structure A1d (h:AF) (f:List AD):Prop where
 ok:GL h
 inj:Iu h
 ft:bN h
 fl:h.2.length<=100000
 good:AX f
 arcs:OU h f
 ty:∀x∈f,0<=x.1/\x.1<(h.1.length:Int)
def Vn:AW:={ ins:=[FY,FL],pre:=λ(h,f,_)=>A1d h f,out:=λ(h,f,_)=>[.p FL (Ck h f).1,.p .bool (Ck h f).2] }
theorem CX (f:List AD) (ty:List Int):(Df f ty).length=f.length:=by simp[Df]
theorem HN (f:List AD) (ty:List Int) {i:Nat} (h:i<f.length):(Df f ty).getD i (0,[])=(ty.getD i 0,(f.getD i (0,[])).2):=by
 unfold Df;simp[AS,h]
theorem u9 {α:Type} (F f:List α) (d:α) (b:F.length=f.length) {j:Nat} (h:j<f.length):(F.take j++f.drop j).set j (F.getD j d)=F.take (j+1)++f.drop (j+1)/\(F.take j++f.drop j).getD j d=f.getD j d:=by
 have h1:(F.take j).length=j:=by rw[Of];omega
 have a:f.drop j=f.getD j d :: f.drop (j+1):=by
  rw[ON h,AS,AT h];rfl
 constructor
 .rw[Ar F d O1,ACj _ _ O1,h1,ABh,a];simp
 rw[AS,sA O1,h1,ABh,a];rfl
theorem A1e:AY Tryz.prog 50 Vn:=by
 refine fK [0,1,2,3,4,5,6,7,8,9,10,11,16,17,18,19,51,64,72,73,74] Tryz.func50 Tryz.ntmps50 (AE u7 AH) ?_;rintro w0 O0 ⟨⟨a,hf⟩,f,u⟩ c-d;have d:A1d (a,hf) f:=d;have E:=A14 (a,hf) f;have y:=d.good.1;have T:NU (a,hf) f<=30000000:=by
  have h1:a.length<=256:=d.ok.2;have D:f.length*a.length<=100000*256:=Nat.mul_le_mul y h1;have S:f.length*(a,hf).1.length<=100000*256:=D;unfold NU;omega
 have K:=A13 d.ty;simp only[Vn,AK];repeat'(first|exact trivial|apply eS rfl|refine rX c ?_ ?_)
 refine AI (ι:={i:Nat//i<=f.length}) (λi=>⟨[(3,.bp 3 [] 0),(4,.bp 4 [] 0),(6,.bp 14 [] 0),(16,.p HJ f),(17,.p (.int .i64) (f.length:Int)),(18,.p (.int .i64) (i.1:Int))],[(3,.box 34 true [.p HJ f]),(4,.box 34 true [.raw (.slice none 0 0)]),(14,.box 163 true [.p FY (a,hf),.sr 31 T3 0 i.1,.sr 41 T3 0 i.1]),(31,.arr 3 T3 ((Bc f).take i.1)),(41,.arr 3 T3 ((EA f).take i.1))]⟩) (λi=>f.length-i.1) ⟨0,DO _⟩ (eW [(3,.nm 3),(4,.nm 4),(14,.nm 14),(31,.nil),(41,.nil)]) (λi=>?_)
 obtain⟨i,hi⟩:=i;have tl:((Bc f).take i).length=i:=by rw[Of];simp[Bc];omega
 have Y:((EA f).take i).length=i:=by rw[Of];simp[EA];omega
 have ts:i<f.length->(Bc f).take i++[(f.getD i (0,[])).1]=(Bc f).take (i+1):=λh=>by
  rw[Ar (Bc f) 0 (by simpa[Bc] using h)];simp[Bc,AS,h]
 have Q:i<f.length->(EA f).take i++[(i:Int)]=(EA f).take (i+1):=λh=>by
  rw[Ar (EA f) 0 (by simpa[EA] using h)];simp[EA,AS,h]
 repeat'(first|exact trivial|apply eS rfl|refine rX c ?_ ?_|refine rC ?_ ?_<;>intro b<;>try(cases b;done))
 .exact b
 .have l:i<f.length:=On.1 b;have P:=ts l;have R:=Q l;refine J5 drawsAny c 9 [([1,2,3,4,5,6,7],8)] [0] (by kernel_rfl) (mxA ?_ ?_)
  .trivial
  refine mxL c [31] ?_ ?_
  .simp only[AO];omega
  refine mxE c ?_ ?_ ?_
  .trivial
  .trivial
  repeat'(first|apply eS rfl|apply AB|refine rX c ?_ ?_)
  .simp only[AO];omega
  .omega
  refine⟨⟨i+1,l⟩,by simp only;omega,AC [(3,.nm 3),(4,.nm 4),(14,.nm 14),(31,.nm 31),(41,.nm 41)] rfl rfl ?_ ?_⟩
  .simp only[<-P,<-R];refine eM ?_;simp only[ACI,Nat.min_self,and_self]
  exact eN
 have l:i=f.length:=by
  have:=AAc.1 b;omega
 subst l;have et:(Bc f).take f.length=Bc f:=BY (by simp[Bc]);have w:(EA f).take f.length=EA f:=BY (by simp[EA]);have O:(Bc f).length=f.length:=by simp[Bc]
 have Z:(EA f).length=f.length:=by simp[EA]
 rw[et,w];have C:(EA f).take f.length=EA f:=w;refine CK [41] ?_;rw[C];refine AI (ι:={x:Nat×D3//M9 (a,hf) f.length x.2/\YD (a,hf) x.2.1+x.2.2.length+1<=NU (a,hf) f/\x.1<=x.2.2.length/\∃k,YD (a,hf) x.2.1+x.2.2.length+1<=k+x.1/\wL (a,hf) f k x.1 x.2=Ff (a,hf) f}) (λx=>⟨[(3,.bp 3 [] 0),(4,.bp 4 [] 0),(6,.bp 14 [] 0),(9,.p (.int .i64) (x.1.1:Int))],[(3,.box 34 true [.p HJ f]),(4,.box 34 true [.raw (.slice none 0 0)]),(14,.box 163 true [.p FY (a,hf),.sr 31 T3 0 x.1.2.1.length,.p Bz x.1.2.2]),(31,.arr 3 T3 x.1.2.1)]⟩) (λx=>YD (a,hf) x.1.2.1+x.1.2.2.length-x.1.1) ⟨(0,Bc f,EA f),K,E,DO _,NU (a,hf) f,by simp only;omega,rfl⟩ (AC [(3,.nm 3),(4,.nm 4),(14,.nm 14),(31,.nm 31)] rfl rfl ?_ ?_) (λx=>?_)
 .simp only[O];exact eN
 .exact eN
 obtain⟨⟨i,s⟩,hs,J,hi,k,hk,g⟩:=x;simp only at hs J hi hk g ⊢;repeat'(first|exact trivial|apply eS rfl|refine rX c ?_ ?_|refine rC ?_ ?_<;>intro b<;>try(cases b;done))
 .have n:i<s.2.length:=On.1 b;obtain⟨A,B⟩:=hs.wt _ (AG s.2 (0:Int) n);obtain⟨k,rfl⟩:∃v,k=v+1:=⟨k-1,by omega⟩;have t:wL (a,hf) f (k+1) i s=(Ks (a,hf) f (s.2.getD i 0) s).bind (wL (a,hf) f k (i+1)):=At n;rw[t]at g;refine cD 9 c ?_ ?_
  .exact b
  refine rM c (mH (a,hf) d.ok d.inj d.ft d.fl f d.good d.arcs s hs A B O1) [(1,.nm 14),(2,.nm 31)] [31] ?_ ?_ ?_
  .exact eN
  .simp only[Dm];exact eN
  rintro res X (⟨m,rfl,e,rfl⟩|⟨e,m,rfl,rfl⟩)
  .refine⟨[(14,.nm 1),(31,.nm 2)],.p .bool false,[(14,.box 163 true [.p FY (a,hf),.sr 31 T3 0 e.1.length,.p Bz e.2]),(31,.arr 3 T3 e.1)],rfl,rfl,?_,?_,rfl,rfl,?_⟩
   .simp only[Dm];exact eN
   .exact eN
   refine rL c ?_ ?_
   .trivial
   repeat'(first|exact trivial|apply eS rfl|refine rX c ?_ ?_|refine rC ?_ ?_<;>intro b<;>try(cases b;done))
   have q:Ck (a,hf) f=([],false):=by unfold Ck;rw[<-g,m];rfl
   exact fI c [.cell 4 34,.tmp 5] (by rw[q];exact eR)
  obtain⟨N,V,W⟩:=Vi d.ok d.inj d.ft d.arcs A B hs m;rw[m]at g;refine⟨[(14,.nm 1),(31,.nm 2)],.p .bool true,[(14,.box 163 true [.p FY (a,hf),.sr 31 T3 0 e.1.length,.p Bz e.2]),(31,.arr 3 T3 e.1)],rfl,rfl,?_,?_,rfl,rfl,?_⟩
  .simp only[Dm];exact eN
  .exact eN
  refine rL c ?_ ?_
  .trivial
  repeat'(first|apply eS rfl|apply AB|refine rX c ?_ ?_|refine rC ?_ ?_<;>intro b<;>try(cases b;done))
  .omega
  exact⟨⟨(i+1,e),N,by simp only;omega,by simp only;omega,k,by simp only;omega,g⟩,by simp only;omega,eW [(3,.nm 3),(4,.nm 4),(14,.nm 14),(31,.nm 31)]⟩
 .exact y
 have n:¬i<s.2.length:=λh=>by
  have:=AAc.1 b;omega
 obtain⟨k,rfl⟩:∃v,k=v+1:=⟨k-1,by omega⟩;have t:wL (a,hf) f (k+1) i s=some s.1:=As n;have q:Ck (a,hf) f=(Df f s.1,true):=by unfold Ck;rw[<-g,t]
 have r:=CX f s.1;have L:=λi h=>HN f s.1 (i:=i) h;generalize hT:Df f s.1=F at *;have M:=hs.len;refine AI (ι:={j:Nat//j<=f.length}) (λj=>⟨[(4,.bp 4 [] 0),(6,.bp 14 [] 0),(10,.bp 10 [] 0),(72,.p (.int .i64) (f.length:Int)),(73,.p (.int .i64) (j.1:Int))],[(10,.box 34 true [.sr 68 Sf 0 f.length]),(68,.arr 57 Sf (F.take j.1++f.drop j.1)),(4,.box 34 true [.raw (.slice none 0 0)]),(14,.box 163 true [.p FY (a,hf),.sr 31 T3 0 s.1.length,.p Bz s.2]),(31,.arr 3 T3 s.1)]⟩) (λj=>f.length-j.1) ⟨0,DO _⟩ (eW [(10,.nm 10),(68,.nm 68),(4,.nm 4),(14,.nm 14),(31,.nm 31)]) (λj=>?_)
 obtain⟨j,U⟩:=j;have I:=λh:j<f.length=>u9 F f (0,[]) r h;repeat'(first|exact trivial|apply eS rfl|apply AB|refine rX c ?_ ?_|refine rC ?_ ?_<;>intro b<;>try(cases b;done))
 .exact⟨by rw[M];exact b,b⟩
 .omega
 .have o:j<f.length:=On.1 b;obtain⟨z,H⟩:=I o;rw[L j o]at z;refine⟨⟨j+1,o⟩,by simp only;omega,AC [(10,.nm 10),(68,.nm 68),(4,.nm 4),(14,.nm 14),(31,.nm 31)] rfl rfl ?_ ?_⟩
  .simp only[<-z];refine eM ?_;rw[H]
  exact eN
 have hF:F.take j=F:=BY (by rw[r];exact AAc.1 b);have G:List.drop j f=[]:=If (AAc.1 b);rw[hF,G,AAv];exact fI c [.cell 4 34,.tmp 5] (by rw[q];first|exact eR|refine Je ?_;exact BY (by rw[r];exact OS _))
end
structure MI (m:List (Int×Bool)) (l:List Bool):Prop where
 nd:(m.map (·.1)).Nodup
 get:∀k:Int,BP T3 .bool k m=if 0<=k/\l.getD k.toNat false=true then some true else none
theorem pZ (k:Int) (v:Bool):∀ {m:List (Int×Bool)},(m.map (·.1)).Nodup->((E4 T3 .bool k v m).map (·.1)).Nodup/\∀x,x∈(E4 T3 .bool k v m).map (·.1)->x=k\/x∈m.map (·.1)
 | [],_=>by simp[E4]
 | y :: m,h=>by
  rw[nO,AAB]at h;unfold E4;split
  .rename_i e;have e:k=y.1:=by simpa[HF] using e
   refine⟨?_,λx a=>?_⟩
   .rw[nO,AAB,e];exact h
   rcases GO.1 a with a|a
   .exact .inl a
   exact .inr (IF _ a)
  rename_i e;have e:¬k=y.1:=by simpa[HF] using e
  obtain⟨c,b⟩:=pZ k v h.2;refine⟨?_,λx a=>?_⟩
  .rw[nO,AAB];refine⟨λd=>?_,c⟩;rcases b _ d with a|a
   .exact e a.symm
   exact h.1 a
  rcases GO.1 a with a|a
  .exact .inr (by rw[a];simp)
  exact(b x a).imp id λg=>IF _ g
theorem gE (k:Int):∀m:List (Int×Bool),(kG T3 .bool k m).Sublist m
 | []=>List.Sublist.refl _
 | y :: m=>by
  unfold kG;split
  .exact List.sublist_cons_self _ _
  exact(gE k m).cons_cons _
theorem YN {x:Int}:∀ {m:List (Int×Bool)},x∉m.map (·.1)->BP T3 .bool x m=none
 | [],_=>rfl
 | y :: m,h=>by
  unfold BP;rw[As (by
   intro e;have e:x=y.1:=by simpa[HF] using e
   exact h (by rw[e];simp))]
  exact YN λa=>h (IF _ a)
theorem YO (x k:Int):∀ {m:List (Int×Bool)},(m.map (·.1)).Nodup->BP T3 .bool x (kG T3 .bool k m)=if x=k then none else BP T3 .bool x m
 | [],_=>by simp[kG,BP]
 | y :: m,h=>by
  rw[nO,AAB]at h;unfold kG;split
  .rename_i e;have e:k=y.1:=by simpa[HF] using e
   by_cases a:x=k
   .rw[At a,a,e];exact YN h.1
   rw[As a];have c:¬x=y.1:=by rw[<-e];exact a
   simp[BP,HF,c]
  rename_i e;have e:¬k=y.1:=by simpa[HF] using e
  have f:=YO x k h.2;by_cases b:x=y.1
  .have d:¬x=k:=by rw[b];exact λg=>e g.symm
   rw[As d];simp[BP,HF,b]
  have hn:¬HF T3 x y.1=true:=by simpa[HF] using b
  simp only[BP];rw[As hn,As hn,f]
theorem MI.zero:MI [] (List.replicate 0 true):=⟨List.nodup_nil,λk=>by simp[BP]⟩
theorem MI.put {m:List (Int×Bool)} {i:Nat} (h:MI m (List.replicate i true)):MI (E4 T3 .bool (i:Int) true m) (List.replicate (i+1) true):=by
 refine⟨(pZ _ _ h.nd).1,λ(k:Int)=>?_⟩;rw[Vg,h.get];by_cases hk:k=(i:Int)
 .rw[At hk,At];subst hk;refine⟨AAE _,?_⟩;simp[AS,ABa]
 rw[As hk];have e:(0<=k/\(List.replicate i true).getD k.toNat false=true)↔(0<=k/\(List.replicate (i+1) true).getD k.toNat false=true):=by
  simp only[AS,ABa];constructor
  .rintro⟨a,b⟩;refine⟨a,?_⟩;split at b
   .rw[At O1];rfl
   simp at b
  rintro⟨a,b⟩;refine⟨a,?_⟩;split at b
  .rw[At O1];rfl
  simp at b
 by_cases c:0<=k/\(List.replicate i true).getD k.toNat false=true
 .rw[At c,At (e.1 c)]
 rw[As c,As λg=>c (e.2 g)]
theorem MI.del {m:List (Int×Bool)} {l:List Bool} (h:MI m l) (i:Nat):MI (kG T3 .bool (i:Int) m) (l.set i false):=by
 refine⟨h.nd.sublist ((gE _ m).map _),λ(k:Int)=>?_⟩;rw[YO _ _ h.nd,h.get];by_cases hk:k=(i:Int)
 .subst hk;rw[At rfl,As];rintro⟨-,b⟩;rw[gO]at b;simp only[AS,AAU]at b;rw[At trivial]at b;split at b<;>simp at b
 rw[As hk];by_cases a:0<=k
 .have c:¬i=k.toNat:=by omega
  simp only[AS,AAU];rw[As c]
 rw[As λg=>a g.1,As λg=>a g.1]
theorem Mt {x:Int}:∀ {m:List (Int×Bool)},x∈m.map (·.1)->BP T3 .bool x m≠none
 | y :: m,h=>by
  unfold BP;split
  .simp
  rename_i e;rcases GO.1 h with h|h
  .exact absurd (by simp[HF,h]) e
  exact Mt h
theorem MI.len {m:List (Int×Bool)} {l:List Bool} (h:MI m l):m.length<=l.length:=by
 have h1:((m.map (·.1)).map Int.toNat).Nodup:=by
  rw[List.Nodup,AAG];refine h.nd.imp_of_mem λ{a b:Int} ha d i e=>i ?_;have h1:=Mt ha;have c:=Mt d;rw[h.get]at h1 c;have n:0<=a:=By λg=>h1 (As λq=>g q.1);have o:0<=b:=By λg=>c (As λq=>g q.1);omega
 have:=DZ l.length _ h1 (λj f=>by
  obtain⟨x,k,rfl⟩:=IS.1 f;have h1:=Mt k;rw[h.get]at h1;refine By λhn=>h1 (As λg=>?_);have:=g.2;rw[AS,oF O1]at this;cases this)
 simpa using this
def vA (N:List AD) (i:Nat) (v:Int×Int):List AD:=N.set i ((N.getD i (0,[])).1,(N.getD i (0,[])).2++[(v.1,(N.length:Int))])++[(v.2,[])]
theorem A1f (N:List AD) (i:Nat) (v:Int×Int):(vA N i v).length=N.length+1:=by simp[vA]
structure TI2 (h:AF) (m i k:Nat) (N:List AD):Prop where
 len:N.length<=m
 ty:∀x∈N,0<=x.1/\x.1<(h.1.length:Int)
 lo:∀j,j<i->(N.getD j (0,[])).2.length<=200
 at':(N.getD i (0,[])).2.length<=100+k
 hi:∀j,i<j->(N.getD j (0,[])).2.length<=100
theorem A1g {α:Type} (l:List α) (x d:α) (j:Nat):(l++[x]).getD j d=if j<l.length then l.getD j d else if j=l.length then x else d:=by
 simp only[AS];by_cases h:j<l.length
 .rw[At h,AA7 h]
 rw[As h,sA O1];by_cases e:j=l.length
 .rw[At e,e,ABh];rfl
 rw[As e,oF (by simp only[i5];omega)];rfl
theorem Mu {α:Type} (l:List α) (x d:α) {i:Nat} (h:i<l.length) (j:Nat):(l.set i x).getD j d=if j=i then x else l.getD j d:=by
 simp only[AS,AAU];by_cases e:i=j
 .rw[At e,At h,At e.symm];rfl
 rw[As e,As (show ¬j=i by omega)]
theorem A1h {N:List AD} {i:Nat} (h:i<N.length) (v:Int×Int) (j:Nat):(vA N i v).getD j (0,[])=if j=i then ((N.getD i (0,[])).1,(N.getD i (0,[])).2++[(v.1,(N.length:Int))]) else if j=N.length then (v.2,[]) else N.getD j (0,[]):=by
 unfold vA;rw[A1g,Mu _ _ _ h,AAq];by_cases a:j=i
 .rw[At a,At O1,At a]
 rw[As a,As a];by_cases c:j<N.length
 .rw[At c,As O1]
 rw[As c];by_cases b:j=N.length
 .rw[At b,At b]
 rw[As b,As b,AS,oF O1];rfl
theorem TI2.add {m i k:Nat} {N:List AD} (b:TI2 h m i k N) (hi:i<N.length) (f:4096<=m) (e:N.length<4096) (v0:0<=v.2) (v1:v.2<(h.1.length:Int)):TI2 h m i (k+1) (vA N i v):=by
 have c:=λj=>A1h hi v j;refine⟨by rw[A1f];omega,λx a=>?_,λj d=>?_,?_,λj d=>?_⟩
 .unfold vA at a;rcases NO.1 a with a|a
  .rcases AB5 a with a|rfl
   .exact b.ty x a
   exact(b.ty (N.getD i (0,[])) (AG N (0,[]) hi) :)
  rw[oR.1 a];exact⟨v0,v1⟩
 .rw[c,As O1,As O1];exact b.lo j d
 .rw[c,At rfl];have:=b.at';simp only[Do,i5];omega
 rw[c,As O1];split
 .simp
 exact b.hi j d
theorem TI2.skip {m i k:Nat} {N:List AD} (a:TI2 h m i k N):TI2 h m i (k+1) N:=⟨a.len,a.ty,a.lo,by have:=a.at';omega,a.hi⟩
theorem TI2.next {m i k:Nat} {N:List AD} (a:TI2 h m i k N) (hk:k<=100):TI2 h m (i+1) 0 N:=⟨a.len,a.ty,λj b=>by
 by_cases e:j=i
 .have:=a.at';rw[e];omega
 exact a.lo j O1,a.hi (i+1) O1,λj b=>a.hi j O1⟩
theorem getD_set_ne {α:Type} (l:List α) (d v:α) {i:Nat} (h:i≠j):(l.set i v).getD j d=l.getD j d:=by
 simp only[AS];rw[ACo h]
theorem W5 {α:Type} (l:List α) (d v:α) {i:Nat} (h:i<l.length):(l.set i v).getD i d=v:=by
 simp only[AS];rw[ACa h];rfl
def toF (l:List (Int×Int)) (x:Int):Int:=l.foldl (λt a=>if a.1=x then a.2 else t) (-1)
abbrev Af (f:List AD) (n:Int):List (Int×Int):=(f.getD n.toNat (0,[])).2
def A5W (f:List AD):Int->List Int->Option Int
 | n,[]=>some n
 | n,x :: r=>if toF (Af f n) x<0 then none else A5W f (toF (Af f n) x) r
theorem gF {f:List AD} (hf:AX f):∀(k:Nat) (o:List Int) (n:Int),Mp f o->0<=n->n<f.length->n∉o->f.length-o.length<=k->D9 f (k+1) o n=D9 f k o n
 | 0,o,n,h,h0,h1,c,hk=>by
  have:=(h.snoc h0 h1 c).len;grind
 | k+1,o,n,h,h0,h1,c,hk=>by
  rw[Cc,Cc];have key:∀(l:List (Int×Int)) (t:List Int),(∀a∈l,0<=a.2/\a.2<(f.length:Int))->Mp f t->f.length-t.length<=k->l.foldl (A5 f (k+1)) t=l.foldl (A5 f k) t:=by
   intro l;induction l with
   | nil=>intros;rfl
   | cons a l p =>
    intro t e m j;have g:=e a sc;have hs:A5 f (k+1) t a=A5 f k t a:=by
     unfold A5;split
     .rfl
     rename_i hn;exact gF hf k t a.2 m g.1 g.2 hn j
    have d:Mp f (A5 f k t a)/\t <+: A5 f k t a:=by grind [A5,GD]
    rw[OR,OR,hs];have:=d.2.length_le;exact p _ (λb i=>e b (by simp[i])) d.1 O1
  exact key _ _ (λa ha=>B7 hf ha) (h.snoc h0 h1 c) (by simp only[Do,i5];omega)
theorem KO (f:List AD):Mp f []:=⟨by simp,λx a=>by cases a⟩
theorem Vo {f:List AD} (hf:AX f) {n:Int} (h0:0<=n) (h1:n<f.length):∀m,D9 f (f.length+m) [] n=D9 f f.length [] n
 | 0=>rfl
 | m+1=>by
  rw[<-ACq,gF hf _ [] n (KO f) h0 h1 sc (by simp only[AAs];omega)];exact Vo hf h0 h1 m
structure Iso (Q R:List AD) (ψ:Int->Int) (C:Int->Prop):Prop where
 arc:∀i,C i->Af R (ψ i)=(Af Q i).map λa=>(a.1,ψ a.2)
 cl:∀i,C i->∀a∈Af Q i,C a.2
 inj:∀i j,C i->C j->ψ i=ψ j->i=j
theorem TR {Q R:List AD} {ψ:Int->Int} {C:Int->Prop} (h:Iso Q R ψ C):∀(k:Nat) (t:List Int) (i:Int),(∀x∈t,C x)->C i->D9 R k (t.map ψ) (ψ i)=(D9 Q k t i).map ψ/\∀x∈D9 Q k t i,C x
 | 0,t,i,c,hi=>⟨rfl,c⟩
 | k+1,t,i,c,hi=>by
  have key:∀(l:List (Int×Int)) (t:List Int),(∀a∈l,C a.2)->(∀x∈t,C x) ->
    (l.map λa=>(a.1,ψ a.2)).foldl (A5 R k) (t.map ψ)=(l.foldl (A5 Q k) t).map ψ/\∀x∈l.foldl (A5 Q k) t,C x:=by
   intro l;induction l with
   | nil=>intro t _ c;exact⟨rfl,c⟩
   | cons a l o =>
    intro t f c;have ha:=f a sc;have hs:A5 R k (t.map ψ) (a.1,ψ a.2)=(A5 Q k t a).map ψ/\∀x∈A5 Q k t a,C x:=by
     unfold A5;by_cases g:a.2∈t
     .grind
     have n:¬ψ a.2∈t.map ψ:=by
      intro hh;obtain⟨x,d,e⟩:=IS.1 hh;exact g (h.inj x a.2 (c x d) ha e▸d)
     rw[As g];simp only[As n];exact TR h k t a.2 c ha
    rw[nO,OR,OR,hs.1];exact o _ (λb m=>f b (by simp[m])) hs.2
  rw[Cc,Cc];have e:t.map ψ++[ψ i]=(t++[i]).map ψ:=by simp
  have j:(R.getD (ψ i).toNat (0,[])).2=(Af Q i).map λa=>(a.1,ψ a.2):=h.arc i hi;rw[j,e];refine key _ _ (h.cl i hi) λx d=>?_;grind
theorem A1i {o:List Int} {ψ:Int->Int} {x:Int} (h:∀y∈o,ψ y=ψ x->y=x):EE (o.map ψ) (ψ x)=EE o x:=by
 have hi:(o.map ψ).idxOf (ψ x)=o.idxOf x:=by
  induction o with
  | nil=>rfl
  | cons y o b =>
   rw[nO,List.idxOf_cons,List.idxOf_cons];have a:=h y sc;by_cases e:y=x
   .subst e;simp
   grind
 grind [EE]
theorem W6 {Q R:List AD} {ψ:Int->Int} {C:Int->Prop} (h:Iso Q R ψ C) (g:AX Q) (f:C 0) (h0:ψ 0=0) (p:0<Q.length) (q:Q.length<=R.length)
  (j:∀i,C i->(R.getD (ψ i).toNat (0,[])).1=(Q.getD i.toNat (0,[])).1):AP R 0=AP Q 0:=by
 have c:D9 R R.length [] 0=(D9 Q Q.length [] 0).map ψ/\∀x∈D9 Q Q.length [] 0,C x:=by
  have h1:=TR h R.length [] 0 (λx k=>by cases k) f;rw[h0]at h1;have m:=Vo g (n:=0) O1 O1 (R.length-Q.length)
  simp_all
 unfold AP;rw[c.1];generalize D9 Q Q.length [] 0=o at *;rw[ABk];refine AAd λi hi=>?_;have b:=c.2 i hi;show Gx R (o.map ψ) (ψ i)=Gx Q o i;unfold Gx;have d:(R.getD (ψ i).toNat (0,[])).2=(Af Q i).map λa=>(a.1,ψ a.2):=h.arc i b;rw[j i b,d,ABk];refine AB3 _ (AAd λa ha=>?_);show (a.1,EE (o.map ψ) (ψ a.2))=(a.1,EE o a.2);rw[A1i λy l e=>h.inj y a.2 (c.2 y l) (h.cl i b a ha) e]
theorem JY {o:List Int} (hn:o.Nodup) {i:Nat} (hi:i<o.length):EE o (o.getD i 0)=(i:Int):=by grind [EE]
theorem Fh {o:List Int} {x:Int} (h:x∈o):0<=EE o x/\EE o x<(o.length:Int)/\o.getD (EE o x).toNat 0=x:=by
 unfold EE;rw[At h];have a:=List.idxOf_lt_length_of_mem h
 simp_all
theorem A1j (hs:lZ f) (n:Int):(Af f n).Pairwise (λa b=>a.1<b.1):=(f6 _).1 (l0 hs n).1
structure RH (h:AF) (a b:List AD) (m:Int->Int):Prop where
 zero:m 0=0
 rng:∀i,0<=i->i<(a.length:Int)->0<=m i/\m i<(b.length:Int)
 ty:∀i,0<=i->i<(a.length:Int)->Ae h (a.getD i.toNat (0,[])).1 (b.getD (m i).toNat (0,[])).1=true
 arc:∀i,0<=i->i<(a.length:Int)->∀x∈Af a i,BR (Af b (m i)) x.1=m x.2
theorem P3 (h:l.Pairwise (λa b=>a.1<b.1)) {a:Int×Int} (ha:a∈l):BR l a.1=a.2:=by
 induction l with
 | nil=>cases ha
 | cons b l d =>
  obtain⟨h1,c⟩:=AAw.1 h;simp only[BR];rcases GO.1 ha with rfl|ha
  .rw[At rfl]
  grind
theorem gG {e:Int} (h:0<=BR l e):∃a∈l,a.1=e/\a.2=BR l e:=by
 induction l with
 | nil=>simp only[BR]at h;omega
 | cons b l c =>
  simp only[BR]at h ⊢;split
  .grind
  grind
theorem A7t (hs:lZ f) {a:Int×Int} (ha:a∈Af f n):BR (Af f n) a.1=a.2:=P3 (A1j hs n) ha
def RO (f:List AD):Prop:=∀i:Int,0<i->i<(f.length:Int)->∃j,0<=j/\j<i/\∃x∈Af f j,x.2=i
structure MH (a:List AD) (m:Int->Int) (M:List Int):Prop where
 len:M.length=a.length
 val:∀k:Nat,k<a.length->M.getD k 0=-1\/M.getD k 0=m (k:Int)
theorem TS {v:Int} (hk:k<p.length):(p.set k v).getD j 0=if k=j then v else p.getD j 0:=by grind
theorem gH {a:List AD} (ha:AX a) {m:Int->Int} {n:Int} (g:∀i,0<=i->i<(a.length:Int)->0<=m i) {bl:List (Int×Int)}:∀ {l:List (Int×Int)} {M:List Int},(∀x∈l,x∈Af a n)->(∀x∈l,BR bl x.1=m x.2)->MH a m M ->
  ∃b,GN bl l M=some b/\MH a m b/\(∀k:Nat,k<a.length->M.getD k 0=m (k:Int)->b.getD k 0=m (k:Int))/\∀x∈l,b.getD x.2.toNat 0=m x.2
 | [],M,_,_,h=>⟨M,rfl,h,λ_ _ h=>h,λx d=>by cases d⟩
 | x :: l,M,f,o,h=>by
  have j:=B7 ha (f x sc);have d:=o x sc;have B:=g x.2 j.1 j.2;have q:x.2.toNat<a.length:=by omega
  have p:((x.2.toNat:Nat):Int)=x.2:=by omega
  have u:=h.val x.2.toNat q;rw[p]at u;have z:¬OV bl M x=true:=by grind [OV]
  have t:MH a m (M.set x.2.toNat (BR bl x.1)):=by
   refine⟨by rw[AAq];exact h.len,λk hk=>?_⟩;rw[TS (by rw[h.len];exact q)];split
   .rename_i e;right;rw[d,<-e,p]
   exact h.val k hk
  obtain⟨b,v,r,s,w⟩:=gH ha g (l:=l) (λy c=>f y (by simp[c])) (λy c=>o y (by simp[c])) t;refine⟨b,?_,r,λk hk A=>s k hk ?_,λy c=>?_⟩
  .grind [GN]
  .grind
  grind
theorem YP {h:AF} {a b:List AD} (ha:AX a) (q:RO a) {m:Int->Int} (c:RH h a b m):∀(r i:Nat) (M:List Int),r+i=a.length->MH a m M->(0<a.length->M.getD 0 0=0) ->
  (∀k:Nat,k<a.length->(∃j:Int,0<=j/\j<(i:Int)/\∃x∈Af a j,x.2=(k:Int))->M.getD k 0=m (k:Int))->∃f,Hv h b (a.drop i) i M=some f
 | 0,i,M,D,_,_,_=>by
  rw[If O1];exact⟨M,rfl⟩
 | r+1,i,M,D,y,o,z=>by
  have hi:i<a.length:=by omega
  have C:M.getD i 0=m (i:Int):=by
   cases i with
   | zero =>
    rw[o hi];exact c.zero.symm
   | succ i =>
    obtain⟨j,F,G,x,d,e⟩:=q ((i+1:Nat):Int) O1 O1;exact z (i+1) hi ⟨j,F,G,x,d,e⟩
  have J:=c.rng (i:Int) O1 O1;have E:=c.ty (i:Int) O1 O1;have A:=c.arc (i:Int) O1 O1;rw[gO]at E;have B:¬IV h b (a.getD i (0,[])) (M.getD i 0)=true:=by grind [IV]
  rw[NV h b a M hi,As B,C];have p:Af a (i:Int)=(a.getD i (0,[])).2:=by rw[Af,gO]
  obtain⟨f,s,t,u,H⟩:=gH (n:=(i:Int)) ha (λk v w=>(c.rng k v w).1) (bl:=(b.getD (m (i:Int)).toNat (0,[])).2) (l:=(a.getD i (0,[])).2) (λx d=>by rw[p];exact d) (λx d=>A x (by rw[p];exact d)) y;rw[s];simp only;refine YP ha q c r (i+1) f O1 t (λg=>?_) (λk hk I=>?_)
  .have:=u 0 g (by rw[o g];exact c.zero.symm);rw[this];exact c.zero
  grind
theorem A4r {a b:List AD} (ha:AX a) (h0:0<a.length) (f:RO a) (c:RH h a b m):pX h a b=true:=by
 have g:((List.replicate a.length (-1:Int)).set 0 0).getD 0 0=0:=by rw[TS (by simpa using h0),At rfl]
 obtain⟨i,e⟩:=YP ha f c a.length 0 ((List.replicate a.length (-1)).set 0 0) O1 ⟨by simp,λk hk=>by
  rw[TS (by simpa using h0)];split
  .rename_i e;right;rw[<-e];exact c.zero.symm
  .left;simp[AS,ABa,hk]⟩ (λ_=>g) (λk hk d=>by
  obtain⟨j,l,n,_⟩:=d;omega)
 grind [pX,gA]
theorem Vp {f:List AD} (hf:AX f):∀(k:Nat) (t:List Int) (n:Int),Mp f t->0<=n->n<f.length->n∉t ->
  ∀q,t.length<q->q<(D9 f k t n).length->∃j,j<q/\∃a∈Af f ((D9 f k t n).getD j 0),a.2=(D9 f k t n).getD q 0
 | 0,t,n,h,h0,h1,x,q,A,d=>by simp only[D9]at d;omega
 | k+1,t,n,h,h0,h1,x,q,A,d=>by
  have key:∀(l:List (Int×Int)) (u:List Int),(∀a∈l,a∈Af f n)->Mp f u->t++[n] <+: u ->
    (∀q,t.length<q->q<u.length->∃j,j<q/\∃a∈Af f (u.getD j 0),a.2=u.getD q 0) ->
    ∀q,t.length<q->q<(l.foldl (A5 f k) u).length->∃j,j<q/\∃a∈Af f ((l.foldl (A5 f k) u).getD j 0),a.2=(l.foldl (A5 f k) u).getD q 0:=by
   intro l;induction l with
   | nil=>intro u _ _ _ hu q o c;exact hu q o c
   | cons a l H =>
    intro u y hu s E;have ha:=y a sc;have g:=B7 hf ha;rw[OR];by_cases p:a.2∈u
    .grind [A5]
    have hs:A5 f k u a=D9 f k u a.2:=by unfold A5;rw[As p]
    rw[hs];obtain⟨C,w⟩:=GD hf k u a.2 hu g.1 g.2 p;have r:∀j,j<u.length->(D9 f k u a.2).getD j 0=u.getD j 0:=λj D=>by
     obtain⟨v,m⟩:=w;rw[<-m];simp only[AS];rw[AA7 D]
    have G:u.getD t.length 0=n:=by
     obtain⟨v,m⟩:=s;rw[<-m];simp[AS]
    have B:t.length<u.length:=by
     have:=s.length_le;simp at this;omega
    refine H (D9 f k u a.2) (λb i=>y b (by simp[i])) C (s.trans w) (λq o c=>?_);by_cases z:q<u.length
    .obtain⟨j,I,b,i,e⟩:=E q o z;refine⟨j,I,b,?_,?_⟩
     .rw[r j O1];exact i
     rw[r q z];exact e
    by_cases d:q=u.length
    .subst d;refine⟨t.length,B,a,?_,?_⟩
     .rw[r _ B,G];exact ha
     cases k with
     | zero=>simp only[D9]at c;omega
     | succ k =>
      have F:u++[a.2] <+: D9 f (k+1) u a.2:=by
       rw[Cc];exact(Hr (GD hf k) _ _ (λb i=>B7 hf i) (hu.snoc g.1 g.2 p)).2
      obtain⟨v,m⟩:=F;rw[<-m];simp[AS]
    exact Vp hf k u a.2 hu g.1 g.2 p q O1 c
  rw[Cc]at d ⊢;exact key _ (t++[n]) (λa ha=>ha) (h.snoc h0 h1 x) (ABb _) (λq o c=>by simp only[Do,i5]at c;omega) q A d
theorem mI (x:List Int):Lt x x=true:=by grind [Lt,HK,SE]
theorem RI (h:AF) (t:Int):Ae h t t=true:=mI _
abbrev P4 (p:List Int) (n:Int):Int:=p.getD n.toNat 0
structure Fo (p:List Int) (rk:Int->Nat):Prop where
 rng:∀n,0<=n->n<(p.length:Int)->0<=P4 p n/\P4 p n<(p.length:Int)
 dec:∀n,0<=n->n<(p.length:Int)->P4 p n≠n->rk (P4 p n)<rk n
inductive Rt (p:List Int):Int->Int->Prop
 | base {n:Int} (h:P4 p n=n):Rt p n n
 | step {n r:Int} (h:P4 p n≠n) (h2:Rt p (P4 p n) r):Rt p n r
theorem Rt.det {r s:Int} (h:Rt p n r) (g:Rt p n s):r=s:=by
 induction h with
 | base h =>
  cases g with
  | base g=>rfl
  | step g _=>exact absurd h g
 | step h _ b =>
  cases g with
  | base g=>exact absurd g h
  | step _ a=>exact b a
theorem Rt.root {r:Int} (h:Rt p n r):P4 p r=r:=by
 induction h with
 | base h=>exact h
 | step _ _ a=>exact a
theorem Fo.ex {b:Int->Nat} (h:Fo p b):∀(k:Nat) (n:Int),b n<=k->0<=n->n<(p.length:Int)->∃r,Rt p n r/\0<=r/\r<(p.length:Int)
 | 0,n,hk,h0,h1=>by
  by_cases e:P4 p n=n
  .exact⟨n,.base e,h0,h1⟩
  have:=h.dec n h0 h1 e;omega
 | k+1,n,hk,h0,h1=>by
  by_cases e:P4 p n=n
  .exact⟨n,.base e,h0,h1⟩
  have g:=h.dec n h0 h1 e;have a:=h.rng n h0 h1;obtain⟨r,c,d,f⟩:=h.ex k (P4 p n) O1 a.1 a.2;exact⟨r,.step e c,d,f⟩
theorem Fo.root (h:Fo p a) (h0:0<=n) (h1:n<(p.length:Int)):∃r,Rt p n r/\0<=r/\r<(p.length:Int):=h.ex (a n) n (OS _) h0 h1
theorem HB {v:Int} (h0:0<=n) (h1:n<(p.length:Int)) (x:Int) (a:0<=x):P4 (p.set n.toNat v) x=if x=n then v else P4 p x:=by
 unfold P4;rw[TS O1];by_cases e:x=n
 .subst e;rw[At rfl,At rfl]
 rw[As O1,As e]
def RJ (p q:List Int):Prop:=p.length=q.length/\∀x r,0<=x->x<(p.length:Int)->(Rt p x r↔Rt q x r)
theorem RJ.refl (p:List Int):RJ p p:=⟨rfl,λ_ _ _ _=>Iff.rfl⟩
theorem RJ.trans {s:List Int} (h:RJ p q) (g:RJ q s):RJ p s :=
 ⟨h.1.trans g.1,λx r a b=>(h.2 x r a b).trans (g.2 x r a (by rw[<-h.1];exact b))⟩
def SM (b n:Nat):List Int:=(List.range n).map λi=>((b+i:Nat):Int)
def Dp (b:Nat) (l:List (Int×Int)):List (Int×Int):=l.map λa=>(a.1,a.2+(b:Int))
theorem vB (b n:Nat):(SM b n).length=n:=by simp[SM]
section
attribute [local go_sem] pG
def EV:List (Int×Int)->List (Int×Int)->List (Int×Int)×List (Int×Int)
 | [],y=>(y,[])
 | a :: x,[]=>(a :: x,[])
 | a :: x,b :: y =>
  if a.1<b.1 then (a :: (EV x (b :: y)).1,(EV x (b :: y)).2)
  else if b.1<a.1 then (b :: (EV (a :: x) y).1,(EV (a :: x) y).2)
  else (a :: (EV x y).1,(a.2,b.2) :: (EV x y).2)
termination_by x y=>x.length+y.length
end
theorem OY (hk:GL h) {a c:Int} (d:0<=a) (e:a<(h.1.length:Int)) (f:0<=b) (b1:b<(h.1.length:Int)) (c0:0<=c) (c1:c<(h.1.length:Int)) (h1:Ae h a b=true) (g:Ae h b c=true):Ae h a c=true :=
 (Bu hk d e c0 c1).2 λi hi=>(Bu hk d e f b1).1 h1 i ((Bu hk f b1 c0 c1).1 g i hi)
theorem P5:∀ {x y:List (Int×Int)} {a:Int×Int},a∈x->a∈(EV x y).1
 | [],_,_,h=>by cases h
 | b :: x,[],a,h=>by simpa[EV] using h
 | b :: x,c :: y,a,h=>by
  rw[EV];split
  .rcases GO.1 h with rfl|h
   .simp
   exact IF _ (P5 h)
  split
  .exact IF _ (P5 h)
  rcases GO.1 h with rfl|h
  .simp
  exact IF _ (P5 h)
termination_by x y=>x.length+y.length
theorem Mv:∀ {x y:List (Int×Int)} {a:Int×Int},a∈y->a∈(EV x y).1\/∃t,(a.1,t)∈(EV x y).1/\(t,a.2)∈(EV x y).2
 | [],y,a,h=>by
  left;simpa[EV] using h
 | b :: x,[],a,h=>by cases h
 | b :: x,c :: y,a,h=>by
  rw[EV];split
  .rcases Mv (x:=x) h with g|⟨t,d,e⟩
   .exact .inl (IF _ g)
   exact .inr ⟨t,IF _ d,e⟩
  split
  .rcases GO.1 h with rfl|h
   .left;simp
   rcases Mv (x:=b :: x) h with g|⟨t,d,e⟩
   .exact .inl (IF _ g)
   exact .inr ⟨t,IF _ d,e⟩
  rcases GO.1 h with rfl|h
  .right;exact⟨b.2,by rw[show a.1=b.1 by omega];simp,by simp⟩
  rcases Mv (x:=x) h with g|⟨t,d,e⟩
  .exact .inl (IF _ g)
  exact .inr ⟨t,IF _ d,IF _ e⟩
termination_by x y=>x.length+y.length
theorem IW:∀ {x y:List (Int×Int)} {a:Int×Int},a∈(EV x y).1->a∈x\/a∈y
 | [],y,a,h=>by
  right;simpa[EV] using h
 | b :: x,[],a,h=>by
  left;simpa[EV] using h
 | b :: x,c :: y,a,h=>by
  rw[EV]at h;split at h
  .rcases GO.1 h with rfl|h
   .left;simp
   rcases IW h with g|g
   .exact .inl (IF _ g)
   exact .inr g
  split at h
  .rcases GO.1 h with rfl|h
   .right;simp
   rcases IW h with g|g
   .exact .inl g
   exact .inr (IF _ g)
  rcases GO.1 h with rfl|h
  .left;simp
  rcases IW h with g|g
  .exact .inl (IF _ g)
  exact .inr (IF _ g)
termination_by x y=>x.length+y.length
theorem P6:∀ {x y:List (Int×Int)} {q:Int×Int},q∈(EV x y).2->∃e,(e,q.1)∈x/\(e,q.2)∈y
 | [],y,q,h=>by simp[EV]at h
 | b :: x,[],q,h=>by simp[EV]at h
 | b :: x,c :: y,q,h=>by
  rw[EV]at h;split at h
  .obtain⟨e,h1,a⟩:=P6 h;exact⟨e,IF _ h1,a⟩
  split at h
  .obtain⟨e,h1,a⟩:=P6 h;exact⟨e,h1,IF _ a⟩
  rcases GO.1 h with rfl|h
  .exact⟨b.1,by simp,by rw[show b.1=c.1 by omega];simp⟩
  obtain⟨e,h1,a⟩:=P6 h;exact⟨e,IF _ h1,IF _ a⟩
termination_by x y=>x.length+y.length
theorem TT:∀ {x y:List (Int×Int)},(EV x y).2.length<=x.length
 | [],y=>by simp[EV]
 | b :: x,[]=>by simp[EV]
 | b :: x,c :: y=>by
  rw[EV];split
  .have:=TT (x:=x) (y:=c :: y);simp only[Is];omega
  split
  .exact TT (x:=b :: x) (y:=y)
  have:=TT (x:=x) (y:=y);simp only[Is];omega
termination_by x y=>x.length+y.length
abbrev Vq (l:List (Int×Int)):Prop:=l.Pairwise (λa b=>a.1<b.1)
theorem TV:∀ {x y:List (Int×Int)},Vq x->Vq y->Vq (EV x y).1
 | [],y,_,h=>by simpa[EV] using h
 | b :: x,[],h,_=>by simpa[EV] using h
 | b :: x,c :: y,i,j=>by
  have d:=AAw.1 i;have e:=AAw.1 j;rw[EV];split
  .rename_i f;refine AAw.2 ⟨λa ha=>?_,TV d.2 j⟩;rcases IW ha with g|g
   .exact d.1 a g
   rcases GO.1 g with rfl|g
   .exact f
   have:=e.1 a g;omega
  split
  .rename_i f;refine AAw.2 ⟨λa ha=>?_,TV i e.2⟩;rcases IW ha with g|g
   .rcases GO.1 g with rfl|g
    .exact f
    have:=d.1 a g;omega
   exact e.1 a g
  refine AAw.2 ⟨λa ha=>?_,TV d.2 e.2⟩;rcases IW ha with g|g
  .exact d.1 a g
  have:=e.1 a g;omega
termination_by x y=>x.length+y.length
theorem A4s {q:Int->Nat} (m:Fo p q) {a:Int} (j:0<=a) (c:0<=b) (b1:b<(p.length:Int)) (ha:P4 p a=a) (k:P4 p b=b) (f:a≠b) {x r:Int} (d:0<=x) (s:x<(p.length:Int)) (h:Rt p x r):Rt (p.set b.toNat a) x (if r=b then a else r):=by
 have l:Rt (p.set b.toNat a) a a:=.base (by rw[HB c b1 a j,As f];exact ha);induction h with
 | @base n hn =>
  split
  .rename_i e;rw[e];exact .step (by rw[HB c b1 b c,At rfl];exact f) (by rw[HB c b1 b c,At rfl];exact l)
  rename_i e;exact .base (by rw[HB c b1 n d,As e];exact hn)
 | @step n r hn _ o =>
  have g:n≠b:=λe=>hn (e▸k);have i:=m.rng n d s;exact .step (by rw[HB c b1 n d,As g];exact hn) (by rw[HB c b1 n d,As g];exact o i.1 i.2)
theorem A4t {c:Int->Nat} (h:Fo p c) {a:Int} (i:0<=a) (j:a<(p.length:Int)) (d:0<=b) (b1:b<(p.length:Int)) (ha:P4 p a=a) (m:P4 p b=b) (l:a≠b):∃q,Fo (p.set b.toNat a) q:=by
 classical
 refine⟨λx=>if Rt p x b then c x+c a+1 else c x,λn n0 n1=>?_,λn n0 n1 hn=>?_⟩
 .rw[AAq]at n1 ⊢;rw[HB d b1 n n0];split
  .exact⟨i,j⟩
  exact h.rng n n0 n1
 rw[AAq]at n1;rw[HB d b1 n n0]at hn ⊢;by_cases e:n=b
 .subst e;rw[At rfl];have h1:¬Rt p a n:=λg=>l (g.det (.base ha)).symm;rw[As h1,At (.base m)];omega
 rw[As e]at hn ⊢;have o:=h.dec n n0 n1 hn;have f:Rt p n b↔Rt p (P4 p n) b:=by
  constructor
  .intro g;cases g with
   | base g=>exact absurd g hn
   | step _ g=>exact g
  exact λg=>.step hn g
 by_cases g:Rt p n b
 .rw[At g,At (f.1 g)];omega
 rw[As g,As (λk=>g (f.2 k))];exact o
inductive EG (n:Nat) (p:List Int) (W:List (Int×Int)):Int->Int->Prop
 | cls {x y r:Int} (x0:0<=x) (x1:x<(n:Int)) (y0:0<=y) (y1:y<(n:Int)) (h:Rt p x r) (g:Rt p y r):EG n p W x y
 | wt {x y:Int} (h:(x,y)∈W):EG n p W x y
 | symm {x y:Int} (h:EG n p W x y):EG n p W y x
 | trans {x y z:Int} (h:EG n p W x y) (g:EG n p W y z):EG n p W x z
theorem EG.mono {n:Nat} {V:List (Int×Int)} (h1:∀x y r,0<=x->x<(n:Int)->0<=y->y<(n:Int)->Rt p x r->Rt p y r->EG n q V x y) (a:∀x y,(x,y)∈l->EG n q V x y) {x y:Int} (h:EG n p l x y):EG n q V x y:=by
 induction h with
 | cls e f i j h g=>exact h1 _ _ _ e f i j h g
 | wt h=>exact a _ _ h
 | symm _ b=>exact .symm b
 | trans _ _ c d=>exact .trans c d
structure vC (h:AF) (N:List AD) (P:List (Int×Int)) (X:List AD) (v:Int->Int):Prop where
 rng:∀x,0<=x->x<(N.length:Int)->0<=v x/\v x<(X.length:Int)
 ty:∀x,0<=x->x<(N.length:Int)->Ae h (N.getD x.toNat (0,[])).1 (X.getD (v x).toNat (0,[])).1=true
 arc:∀x,0<=x->x<(N.length:Int)->∀a∈Af N x,BR (Af X (v x)) a.1=v a.2
 eq:∀q∈P,v q.1=v q.2
structure JX (h:AF) (X:List AD) (v:Int->Int) (n:Nat) (p ty:List Int) (ar:List (List (Int×Int))) (W:List (Int×Int)):Prop where
 cls:∀x r,0<=x->x<(n:Int)->Rt p x r->v x=v r
 wt:∀w∈W,v w.1=v w.2
 ty:∀r,0<=r->r<(n:Int)->P4 p r=r->Ae h (ty.getD r.toNat 0) (X.getD (v r).toNat (0,[])).1=true
 arc:∀r,0<=r->r<(n:Int)->P4 p r=r->∀a∈ar.getD r.toNat [],BR (Af X (v r)) a.1=v a.2
def KP (N:List AD):List Int:=N.flatMap λx=>x.2.map (·.1)
structure JI (h:AF) (N:List AD) (P:List (Int×Int)) (p ty:List Int) (ar:List (List (Int×Int))) (W:List (Int×Int)):Prop where
 nty:C2 h N
 fo:∃rk,Fo p rk
 lp:p.length=N.length
 lt:ty.length=N.length
 la:ar.length=N.length
 wr:∀w∈W,(0<=w.1/\w.1<(N.length:Int))/\(0<=w.2/\w.2<(N.length:Int))
 tyr:∀x,0<=x->x<(N.length:Int)->0<=ty.getD x.toNat 0/\ty.getD x.toNat 0<(h.1.length:Int)
 arr:∀k,∀a∈ar.getD k [],(0<=a.2/\a.2<(N.length:Int))/\a.1∈KP N
 srt:∀k,Vq (ar.getD k [])
 sp:∀q∈P,EG N.length p W q.1 q.2
 st:∀x r,0<=x->x<(N.length:Int)->Rt p x r->Ae h (N.getD x.toNat (0,[])).1 (ty.getD r.toNat 0)=true
 sa:∀x r,0<=x->x<(N.length:Int)->Rt p x r->∀a∈Af N x,∃t,(a.1,t)∈ar.getD r.toNat []/\EG N.length p W a.2 t
 co:∀X v,C2 h X->vC h N P X v->JX h X v N.length p ty ar W
theorem Hw {b:Int->Nat} (a:Fo p b) {x r:Int} (d:0<=x) (e:x<(p.length:Int)) (h:Rt p x r):0<=r/\r<(p.length:Int):=by
 obtain⟨s,hs,c,s1⟩:=a.root d e;rw[h.det hs];exact⟨c,s1⟩
section
variable {h:AF} {N:List AD} {P:List (Int×Int)} {p ty:List Int} {ar:List (List (Int×Int))} {W:List (Int×Int)} {s t a b:Int}
theorem A4u (n:JI h N P p ty ar (W++[(s,t)])) (hs:Rt p s a) (u:Rt p t a):JI h N P p ty ar W:=by
 obtain⟨nty,fo,lp,lt,la,wr,tyr,arr,srt,sp,st,sa,co⟩:=n;have b:=wr (s,t) sc;have l:∀ {x y},EG N.length p (W++[(s,t)]) x y->EG N.length p W x y:=λ{x y} g=>g.mono (λx y r d f A B h1 k=>.cls d f A B h1 k) (λx y c=>by
  rcases NO.1 c with c|c
  .exact .wt c
  have e:(x,y)=(s,t):=by simpa using c
  cases e;exact .cls b.1.1 b.1.2 b.2.1 b.2.2 hs u)
 refine⟨nty,fo,lp,lt,la,λw b=>wr w (AA6 _ b),tyr,arr,srt,λq o=>l (sp q o),st,λx r d f C a ha=>?_,λX v m z=>?_⟩
 .grind
 obtain⟨c1,c2,i,j⟩:=co X v m z;exact⟨c1,λw b=>c2 w (AA6 _ b),i,j⟩
theorem p5 (hk:GL h) (c:JI h N P p ty ar (W++[(s,t)])) (hs:Rt p s a) (g:Rt p t b) {X:List AD} {v:Int->Int} (o:C2 h X) (q:vC h N P X v) :
  v a=v b/\(Co h (ty.getD a.toNat 0) (ty.getD b.toNat 0)).2=true/\Ae h (Co h (ty.getD a.toNat 0) (ty.getD b.toNat 0)).1 (X.getD (v a).toNat (0,[])).1=true:=by
 obtain⟨D,fo⟩:=c.fo;obtain⟨⟨i,s1⟩,j,l⟩:=c.wr (s,t) sc;simp only at i s1 j l;have d:=Hw fo i (by rw[c.lp];exact s1) hs;have f:=Hw fo j (by rw[c.lp];exact l) g;rw[c.lp]at d f;obtain⟨c1,c2,m,B⟩:=c.co X v o q;have u:=c1 s a i s1 hs;have w:=c1 t b j l g;have x:v s=v t:=c2 (s,t) sc;have e:v a=v b:=by rw[<-u,<-w,x]
 have y:=m a d.1 d.2 hs.root;have n:=m b f.1 f.2 g.root;rw[<-e]at n;have C:=q.rng a d.1 d.2;have r:=o _ (AG X (0,[]) (k:=(v a).toNat) O1);have ta:=c.tyr a d.1 d.2;have tb:=c.tyr b f.1 f.2;obtain⟨z,A⟩:=(Lu hk ta.1 ta.2 tb.1 tb.2).2 _ r.1 r.2 y n;exact⟨e,z,A⟩
theorem YQ {α:Type} {l:List α} {d v:α} {a r:Int} (b:0<=a) (c:a<(l.length:Int)) (e:0<=r):(l.set a.toNat v).getD r.toNat d=if r=a then v else l.getD r.toNat d:=by grind
theorem A1k (hk:GL h) (ae:JI h N P p ty ar (W++[(s,t)])) (hs:Rt p s a) (L:Rt p t b) (Y:a≠b) (al:(Co h (ty.getD a.toNat 0) (ty.getD b.toNat 0)).2=true) :
  JI h N P (p.set b.toNat a) (ty.set a.toNat (Co h (ty.getD a.toNat 0) (ty.getD b.toNat 0)).1) (ar.set a.toNat (EV (ar.getD a.toNat []) (ar.getD b.toNat [])).1) (W++(EV (ar.getD a.toNat []) (ar.getD b.toNat [])).2):=by
 have am:=λX v J M=>p5 (X:=X) (v:=v) hk ae hs L J M;obtain⟨nty,⟨bb,fo⟩,lp,lt,la,wr,tyr,arr,srt,sp,st,sa,co⟩:=ae;obtain⟨⟨Q,s1⟩,R,S⟩:=wr (s,t) sc;simp only at Q s1 R S;have n:=Hw fo Q (by rw[lp];exact s1) hs;have A:=Hw fo R (by rw[lp];exact S) L;have ha:=hs.root;have Z:=L.root;have F:=λ{x r:Int} (c:0<=x) (i:x<(N.length:Int)) (O:Rt p x r)=>A4s fo n.1 A.1 A.2 ha Z Y c (by rw[lp];exact i) O;have aa:∀ {x r:Int},0<=x->x<(N.length:Int)->Rt (p.set b.toNat a) x r->∃j,Rt p x j/\r=if j=b then a else j:=λ{x r} c i O=>by
  obtain⟨j,h1,-,-⟩:=fo.root c (by rw[lp];exact i);exact⟨j,h1,O.det (F c i h1)⟩
 have ta:=tyr a n.1 (by rw[<-lp];exact n.2);have tb:=tyr b A.1 (by rw[<-lp];exact A.2);obtain⟨ax,ay,az,ba⟩:=(Lu hk ta.1 ta.2 tb.1 tb.2).1 al;generalize aq:(Co h (ty.getD a.toNat 0) (ty.getD b.toNat 0)).1=m at *;generalize ag:ar.getD a.toNat []=xs at *;generalize ah:ar.getD b.toNat []=ys at *;have ao:EG N.length (p.set b.toNat a) (W++(EV xs ys).2) s t:=by
  have h1:=F Q s1 hs;have I:=F R S L;rw[As Y]at h1;rw[At rfl]at I;exact .cls Q s1 R S h1 I
 have E:∀ {x y},EG N.length p (W++[(s,t)]) x y->EG N.length (p.set b.toNat a) (W++(EV xs ys).2) x y:=λ{x y} g=>g.mono (λx y r c i aj ak h1 I=>.cls c i aj ak (F c i h1) (F aj ak I)) (λx y G=>by
  rcases NO.1 G with G|G
  .exact .wt (AA6 _ G)
  have e:(x,y)=(s,t):=by simpa using G
  cases e;exact ao)
 have av:=λ{r:Int} (D:0<=r)=>YQ (l:=ty) (d:=0) (v:=m) n.1 (by rw[lt,<-lp];exact n.2) D;have K:=λ{r:Int} (D:0<=r)=>YQ (l:=ar) (d:=[]) (v:=(EV xs ys).1) n.1 (by rw[la,<-lp];exact n.2) D;refine⟨nty,A4t fo n.1 n.2 A.1 A.2 ha Z Y,by rw[AAq];exact lp,by rw[AAq];exact lt,by rw[AAq];exact la,λw o=>?_,λx c i=>?_,λk y C=>?_,λk=>?_,λq an=>E (sp q an),λx r c i z=>?_,λx r c i z y C=>?_,λX v J M=>?_⟩
 .rcases NO.1 o with o|o
  .exact wr w (AA6 _ o)
  grind [P6]
 .grind
 .have h1:=K (r:=(k:Int)) O1;rw[gO]at h1;rw[h1]at C;split at C
  .grind [IW]
  exact arr _ _ C
 .have h1:=K (r:=(k:Int)) O1;rw[gO]at h1;rw[h1];split
  .grind [TV]
  exact srt k
 .obtain⟨j,h1,rfl⟩:=aa c i z;have O:=nty _ (AG N (0,[]) (k:=x.toNat) O1);have af:=Hw fo c (by rw[lp];exact i) h1;by_cases e:j=b
  .grind [OY]
  grind [OY]
 .obtain⟨j,h1,rfl⟩:=aa c i z;have af:=Hw fo c (by rw[lp];exact i) h1;obtain⟨u,H,T⟩:=sa x j c i h1 y C;by_cases e:j=b
  .rw[At e,K n.1,At rfl];rw[e,ah]at H;rcases Mv (x:=xs) H with g|⟨w,U,V⟩
   .exact⟨u,g,E T⟩
   exact⟨w,U,.trans (E T) (.symm (.wt (AAP _ V)))⟩
  rw[As e,K af.1];split
  .rename_i B;rw[B,ag]at H;exact⟨u,P5 H,E T⟩
  exact⟨u,H,E T⟩
 obtain⟨c1,c2,ap,ab⟩:=co X v J M;obtain⟨e,-,aw⟩:=am X v J M;have au:∀r,0<=r->r<(N.length:Int)->P4 (p.set b.toNat a) r=r->r≠b/\P4 p r=r:=λr D ai z=>by grind [HB]
 refine⟨λx r c i z=>?_,λw o=>?_,λr D ai z=>?_,λr D ai z y C=>?_⟩
 .obtain⟨j,h1,rfl⟩:=aa c i z;have:=c1 x j c i h1;split
  .rename_i B;rw[this,B,e]
  exact this
 .rcases NO.1 o with o|o
  .exact c2 w (AA6 _ o)
  obtain⟨f,ad,B⟩:=P6 o;rw[<-ag]at ad;rw[<-ah]at B;have U:=ab a n.1 (by rw[<-lp];exact n.2) ha _ ad;have V:=ab b A.1 (by rw[<-lp];exact A.2) Z _ B;rw[<-U,<-V,e]
 .grind
 grind [IW]
end
theorem gI {l:List Nat} {f g:Nat->Bool} {b:Nat} (hn:l.Nodup) (c:b∈l) (h1:f b=true) (d:g b=false) (h:∀x∈l,x≠b->g x=f x):(l.filter g).length+1=(l.filter f).length:=by
 induction l with
 | nil=>cases c
 | cons x l m =>
  obtain⟨k,j⟩:=AAB.1 hn;by_cases e:x=b
  .subst e;have:l.filter g=l.filter f:=List.filter_congr λy a=>h y (by simp[a]) (λe=>k (e▸a));rw[AAH,AAH,As (by rw[d];simp),At h1,this];rfl
  have i:b∈l:=by
   rcases GO.1 c with g|g
   .exact absurd g.symm e
   exact g
  have n:=m j i (λy a=>h y (by simp[a]));rw[AAH,AAH,h x sc e];split
  .simp only[Is];omega
  exact n
def nR (p:List Int):Nat:=((List.range p.length).filter λk=>p.getD k 0==(k:Int)).length
theorem A4v {a:Int} (d:0<=b) (b1:b<(p.length:Int)) (c:P4 p b=b) (e:a≠b):nR (p.set b.toNat a)+1=nR p:=by
 unfold nR;rw[AAq];refine gI (b:=b.toNat) List.nodup_range (wH.2 O1) ?_ ?_ λx _ f=>?_
 .rw[AAb];unfold P4 at c;omega
 .rw[W5 _ _ _ O1,AAR];omega
 rw[getD_set_ne _ _ _ O1]
theorem RK {α:Type} [DecidableEq α]:∀ {l l':List α},l.Nodup->(∀x∈l,x∈l')->l.length<=l'.length
 | [],_,_,_=>by simp
 | x :: l,l',hn,h=>by
  obtain⟨d,c⟩:=AAB.1 hn;have a:=h x sc;have:=RK (l:=l) (l':=l'.erase x) c (λy b=>(ACn (λe:y=x=>d (by rw[<-e];exact b))).2 (h y (by simp[b])));rw[List.length_erase_of_mem a]at this;have:=AC9 a;simp only[Is];omega
theorem p6 (h:Vq l) {S:List Int} (hs:∀a∈l,a.1∈S):l.length<=S.length:=by
 have hn:(l.map (·.1)).Nodup:=by
  unfold List.Nodup;rw[AAG];exact h.imp λg=>by omega
 have:=RK hn (l':=S) (λx b=>by
  obtain⟨a,ha,rfl⟩:=IS.1 b;exact hs a ha)
 rwa [aS]at this
theorem A1l {N:List AD} {P:List (Int×Int)} {ty:List Int} {ar:List (List (Int×Int))} (t:JI h N P p ty ar []) {a:Int} (ha:0<=a/\a<(N.length:Int)) (s:0<=b/\b<(N.length:Int)):JI h N (P++[(a,b)]) p ty ar [(a,b)]:=by
 obtain⟨nty,fo,lp,lt,la,wr,tyr,arr,srt,sp,st,sa,co⟩:=t;have l:∀ {x y},EG N.length p [] x y->EG N.length p [(a,b)] x y:=λ{x y} g=>g.mono (λx y r j k C D h1 f=>.cls j k C D h1 f) (λx y A=>by cases A);refine⟨nty,fo,lp,lt,la,λw i=>?_,tyr,arr,srt,λq c=>?_,st,λx r j k z y B=>?_,λX v o d=>?_⟩
 .have e:w=(a,b):=by simpa using i
  subst e;exact⟨ha,s⟩
 .rcases NO.1 c with c|c
  .exact l (sp q c)
  have e:q=(a,b):=by simpa using c
  subst e;exact .wt sc
 .obtain⟨u,h1,f⟩:=sa x r j k z y B;exact⟨u,h1,l f⟩
 obtain⟨c1,c2,m,n⟩:=co X v o ⟨d.rng,d.ty,d.arc,λq c=>d.eq q (AA6 _ c)⟩;refine⟨c1,λw i=>?_,m,n⟩;have e:w=(a,b):=by simpa using i
 subst e;exact d.eq _ sc
open Classical in
noncomputable def H4 (p:List Int) (x:Int):Int:=if h:∃r,Rt p x r then h.choose else x
theorem mJ {x r:Int} (h:Rt p x r):H4 p x=r:=by
 unfold H4;rw[dif_pos ⟨r,h⟩];exact(Exists.choose_spec (p:=λr=>Rt p x r) ⟨r,h⟩).det h
theorem RL {b:Int->Nat} (a:Fo p b) {x:Int} (c:0<=x) (d:x<(p.length:Int)):Rt p x (H4 p x):=by
 obtain⟨r,h,-,-⟩:=a.root c d;rw[mJ h];exact h
noncomputable def quo (p ty:List Int) (ar:List (List (Int×Int))):List AD:=(List.range p.length).map λk=>(ty.getD k 0,(ar.getD k []).map λa=>(a.1,H4 p a.2))
theorem TW (p ty:List Int) (ar:List (List (Int×Int))):(quo p ty ar).length=p.length:=by simp[quo]
theorem P7 {ty:List Int} {ar:List (List (Int×Int))} (n0:0<=n) (n1:n<(p.length:Int)):(quo p ty ar).getD n.toNat (0,[])=(ty.getD n.toNat 0,(ar.getD n.toNat []).map λa=>(a.1,H4 p a.2)):=by
 unfold quo;rw[AS,AAD,ABx O1];rfl
theorem YR {α β:Type} (f:α->β) {l:List α} (d:α) (e:β) {i:Nat} (h:i<l.length):(l.map f).getD i e=f (l.getD i d):=by
 simp[AS,AT h]
structure A9j (f:List AD) (r:Int) (o:List Int):Prop where
 ok:Mp f o
 zero:o.getD 0 0=r/\0<o.length
 cl:∀n∈o,∀a∈Af f n,a.2∈o
theorem IX (hf:AX f) {r:Int} (b:0<=r) (c:r<(f.length:Int)):A9j f r (D9 f f.length [] r):=by
 have h1:=GD hf f.length [] r (KO f) b c sc;have d:=OM hf f.length [] r (KO f) b c sc sc;have e:[r] <+: D9 f f.length [] r:=by
  obtain⟨k,hk⟩:∃k,f.length=k+1:=⟨f.length-1,by omega⟩;rw[hk,Cc];exact(Hr (GD hf k) _ _ (λa ha=>B7 hf ha) ((KO f).snoc b c sc)).2
 refine⟨h1.1,?_,λn hn a ha=>?_⟩
 .obtain⟨t,g⟩:=e;rw[<-g];exact⟨rfl,by simp⟩
 rcases d.2 n hn with h|h
 .cases h
 exact h a ha
theorem L6 {r:Int} {i:Nat} (hi:i<(D9 f f.length [] r).length):(AP f r).getD i (0,[])=Gx f (D9 f f.length [] r) ((D9 f f.length [] r).getD i 0):=by
 unfold AP;simp[AS,hi]
theorem JZ (f:List AD) (r:Int):(AP f r).length=(D9 f f.length [] r).length:=by simp[AP]
def Eh (f g:List AD):List AD:=f++g.map λx=>(x.1,Dp f.length x.2)
theorem HO (f g:List AD):(Eh f g).length=f.length+g.length:=by simp[Eh]
theorem OZ {x:Int} (a:0<=x) (b:x<(f.length:Int)):(Eh f g).getD x.toNat (0,[])=f.getD x.toNat (0,[]):=by
 unfold Eh;rw[AS,AS,AA7 O1]
theorem L7 {y:Int} (a:0<=y) (b:y<(g.length:Int)):(Eh f g).getD ((f.length:Int)+y).toNat (0,[])=((g.getD y.toNat (0,[])).1,Dp f.length (g.getD y.toNat (0,[])).2):=by
 unfold Eh;have e:((f.length:Int)+y).toNat=f.length+y.toNat:=by omega
 rw[e,AS,sA O1,ABq];rw[<-AS];exact YR (λx:AD=>(x.1,Dp f.length x.2)) (0,[]) (0,[]) O1
theorem p7 {n:Nat} {x y:Int} (h:EG n p [] x y):H4 p x=H4 p y:=by
 induction h with
 | cls _ _ _ _ h g=>rw[mJ h,mJ g]
 | wt h=>cases h
 | symm _ a=>exact a.symm
 | trans _ _ b c=>exact b.trans c
noncomputable abbrev RM (p ty:List Int) (ar:List (List (Int×Int))):List Int:=D9 (quo p ty ar) (quo p ty ar).length [] (H4 p 0)
structure A5X (h:AF) (N:List AD) (P:List (Int×Int)) (U:List AD) (v:Int->Int):Prop where
 good:AX U
 pos:0<U.length
 str:∀x∈U,Vq x.2
 feat:∀x∈U,∀a∈x.2,a.1∈KP N
 ty:C2 h U
 ro:RO U
 zero:v 0=0
 proj:vC h N P U v
 least:∀X w,C2 h X->vC h N P X w->w 0=0->∃m,RH h U X m
 len:U.length<=N.length
section
variable {h:AF} {N:List AD} {P:List (Int×Int)} {p ty:List Int} {ar:List (List (Int×Int))}
theorem RN (a:JI h N P p ty ar []) (b:AX (quo p ty ar)) (c:0<N.length):A9j (quo p ty ar) (H4 p 0) (RM p ty ar):=by
 obtain⟨d,fo⟩:=a.fo;have lp:=a.lp;have:=Hw fo (x:=0) O1 O1 (RL fo O1 O1);exact IX b this.1 (by rw[TW];exact this.2)
theorem Vr (d:JI h N P p ty ar []) (c:AX (quo p ty ar)) (b:0<N.length):H4 p 0∈RM p ty ar:=by
 have a:=RN d c b;have:=AG (RM p ty ar) 0 a.zero.2;rw[a.zero.1]at this;exact this
theorem A1m (a:JI h N P p ty ar []) {x y:Int} (b:(x,y)∈P) (c:H4 p x∈RM p ty ar):H4 p y∈RM p ty ar:=by
 rw[<-p7 (a.sp (x,y) b)];exact c
theorem mK (b:JI h N P p ty ar []) (f:AX (quo p ty ar)) (e:0<N.length) {x:Int} (c:0<=x) (k:x<(N.length:Int)) (j:H4 p x∈RM p ty ar) {a:Int×Int} (ha:a∈Af N x):H4 p a.2∈RM p ty ar:=by
 obtain⟨l,fo⟩:=b.fo;have lp:=b.lp;obtain⟨t,i,g⟩:=b.sa x _ c k (RL fo c O1) a ha;rw[p7 g];have d:=Hw fo c O1 (RL fo c O1);refine(RN b f e).cl _ j (a.1,H4 p t) ?_;rw[Af,P7 d.1 d.2];exact IS.2 ⟨(a.1,t),i,rfl⟩
def vD (N:List AD) (k:Nat) (g:List AD):Prop:=∀i:Int,0<=i->i<(g.length:Int)->(k:Int)+i<(N.length:Int)/\N.getD ((k:Int)+i).toNat (0,[])=((g.getD i.toNat (0,[])).1,Dp k (g.getD i.toNat (0,[])).2)
theorem Vs (m:JI h N P p ty ar []) (f:AX (quo p ty ar)) (e:0<N.length) {g:List AD} (l:vD N k g) (r:RO g) (hk:H4 p (k:Int)∈RM p ty ar):∀(n:Nat) (i:Int),i.toNat<=n->0<=i->i<(g.length:Int)->H4 p ((k:Int)+i)∈RM p ty ar:=by
 intro n;induction n with
 | zero =>
  intro i hn o c;have:i=0:=by omega
  subst this;rw[ACG];exact hk
 | succ n q =>
  intro i hn o c;by_cases hi:i=0
  .subst hi;rw[ACG];exact hk
  obtain⟨j,d,s,a,ha,rfl⟩:=r i O1 c;have b:=l j d O1;have:=mK m f e (x:=(k:Int)+j) O1 b.1 (q j O1 d O1) (a:=(a.1,a.2+(k:Int))) (by
   rw[Af,b.2];exact IS.2 ⟨a,ha,rfl⟩)
  rw[Int.add_comm];exact this
end
theorem gJ {N:List AD} {P:List (Int×Int)} {f:List AD} {v:Int->Int} (e:vC h N P f v) {g:List AD} (d:vD N k g) (j:v (k:Int)=0):RH h g f λi=>v ((k:Int)+i):=by
 refine⟨by show v ((k:Int)+0)=0;rw[ACG];exact j,λi b c=>?_,λi b c=>?_,λi b c a ha=>?_⟩
 .exact e.rng _ O1 (d i b c).1
 .have:=e.ty _ O1 (d i b c).1;rw[(d i b c).2]at this;exact this
 have:=e.arc _ O1 (d i b c).1 (a.1,a.2+(k:Int)) (by
  rw[Af,(d i b c).2];exact IS.2 ⟨a,ha,rfl⟩)
 rw[Int.add_comm (k:Int) a.2];exact this
theorem TX {g X:List AD} (a:RH h g X m):vC h g [] X m:=⟨a.rng,a.ty,a.arc,λq b=>by cases b⟩
theorem gK {X:List AD} (hf:AX f) (m:AX g) {v:Int->Int} (h1:vC h f [] X v) (i:vC h g [] X w):vC h (Eh f g) [] X (λx=>if x<(f.length:Int) then v x else w (x-(f.length:Int))):=by
 have j:=HO f g;refine⟨λx d e=>?_,λx d e=>?_,λx d e a ha=>?_,λq n=>by cases n⟩
 .rw[j]at e;show _/\_;try simp only
  split
  .exact h1.rng x d (by assumption)
  exact i.rng _ O1 O1
 .rw[j]at e;try simp only
  by_cases c:x<(f.length:Int)
  .rw[At c,OZ d c];exact h1.ty x d c
  rw[As c];have:=L7 (f:=f) (g:=g) (y:=x-(f.length:Int)) O1 O1;rw[show (f.length:Int)+(x-(f.length:Int))=x by omega]at this;rw[this];exact i.ty _ O1 O1
 rw[j]at e;try simp only
 by_cases c:x<(f.length:Int)
 .rw[At c];rw[Af,OZ d c]at ha;have l:=B7 hf ha;rw[At l.2];exact h1.arc x d c a ha
 rw[As c];have:=L7 (f:=f) (g:=g) (y:=x-(f.length:Int)) O1 O1;rw[show (f.length:Int)+(x-(f.length:Int))=x by omega]at this;rw[Af,this]at ha;obtain⟨b,k,rfl⟩:=IS.1 ha;have l:=B7 m k;rw[As (by simp only;omega)];try simp only
 rw[show b.2+(f.length:Int)-(f.length:Int)=b.2 by omega];exact i.arc _ O1 O1 b k
theorem A1n {N X:List AD} {P:List (Int×Int)} {v:Int->Int} (h1:vC h N [] X v) (a:∀q∈P,v q.1=v q.2):vC h N P X v:=⟨h1.rng,h1.ty,h1.arc,a⟩
theorem YS {N f g:List AD} (h:vD f k N):vD (Eh f g) k N:=by
 intro i a b;have:=h i a b;rw[HO,OZ O1 this.1];exact⟨by omega,this.2⟩
theorem YT:vD f 0 f:=by
 intro i c b;rw[show ((0:Nat):Int)+i=i by omega];refine⟨b,?_⟩;have:Dp 0 (f.getD i.toNat (0,[])).2=(f.getD i.toNat (0,[])).2:=by
  unfold Dp;rw[AAd (g:=id) (λa _=>by show (a.1,a.2+((0:Nat):Int))=a;rw[Int.natCast_zero,ACG]),List.map_id]
 rw[this]
theorem Vt:vD (Eh f g) f.length g:=by
 intro i a b;rw[HO,L7 a b];exact⟨by omega,rfl⟩
set_option maxHeartbeats 1000000 in
theorem A7u {h:AF} {N:List AD} {P:List (Int×Int)} {p ty:List Int} {ar:List (List (Int×Int))} (L:JI h N P p ty ar []) (E:AX (quo p ty ar)) (O:0<N.length) (H:∀x,0<=x->x<(N.length:Int)->H4 p x∈RM p ty ar) :
  A5X h N P (AP (quo p ty ar) (H4 p 0)) (λx=>EE (RM p ty ar) (H4 p x)):=by
 have s:=RN L E O
 have af:=Vr L E O
 obtain⟨nty,⟨av,fo⟩,lp,lt,la,wr,tyr,arr,srt,sp,st,sa,co⟩:=L
 have aj:=TW p ty ar
 have w:=λ{x:Int} (C:0<=x) (D:x<(N.length:Int))=>RL fo C (by rw[lp];exact D)
 have J:=λ{x:Int} (C:0<=x) (D:x<(N.length:Int))=>Hw fo C (by rw[lp];exact D) (w C D)
 have K:=JZ (quo p ty ar) (H4 p 0)
 have aa:=λi=>L6 (f:=quo p ty ar) (r:=H4 p 0) (i:=i)
 have M:∀x:Int,0<=x->x<(N.length:Int)->Af (quo p ty ar) x=(ar.getD x.toNat []).map λa=>(a.1,H4 p a.2):=λx C D=>by
  rw[Af,P7 C (by rw[lp];exact D)]
 have u:∀x∈RM p ty ar,(0<=x/\x<(N.length:Int))/\P4 p x=x:=by
  have ag:Iso (quo p ty ar) (quo p ty ar) id (λx=>(0<=x/\x<(N.length:Int))/\P4 p x=x):=by
   refine⟨λi _=>by simp,λi hi a ha=>?_,λi j _ _ e=>e⟩
   rw[M i hi.1.1 hi.1.2]at ha
   obtain⟨b,m,rfl⟩:=List.mem_map.1 ha
   have c:=(arr _ b m).1
   have:=J c.1 c.2
   rw[lp]at this
   exact⟨this,(w c.1 c.2).root⟩
  have R:=J (x:=0) O1 O1
  rw[lp]at R
  exact(TR ag _ [] _ (λx d=>by cases d) ⟨R,(w (x:=0) O1 O1).root⟩).2
 have ah:=λ(q:Nat)=>Vp E (quo p ty ar).length [] (H4 p 0) (KO _) (J (x:=0) O1 O1).1 (by rw[aj];exact(J (x:=0) O1 O1).2) sc q
 unfold RM at s af H u ⊢
 generalize ao:AP (quo p ty ar) (H4 p 0)=F at *
 generalize aq:D9 (quo p ty ar) (quo p ty ar).length [] (H4 p 0)=o at *
 have z:∀i:Int,0<=i->i<(o.length:Int)->o.getD i.toNat 0∈o/\EE o (o.getD i.toNat 0)=i:=λi g l=>by
  refine⟨AG o 0 O1,?_⟩
  rw[JY s.ok.nd O1]
  omega
 have A:∀x∈o,F.getD (EE o x).toNat (0,[])=(ty.getD x.toNat 0,(ar.getD x.toNat []).map λa=>(a.1,EE o (H4 p a.2))):=λx d=>by
  have am:=Fh d
  have c:=(u x d).1
  rw[aa _ O1,am.2.2]
  unfold Gx
  rw[P7 c.1 (by rw[lp];exact c.2),List.map_map]
  rfl
 have Q:∀x∈o,∀a∈ar.getD x.toNat [],H4 p a.2∈o:=λx d a ha=>by
  have c:=(u x d).1
  exact s.cl x d (a.1,H4 p a.2) (by rw[M x c.1 c.2];exact List.mem_map.2 ⟨a,ha,rfl⟩)
 have S:∀k,Vq ((ar.getD k []).map λa=>(a.1,EE o (H4 p a.2))):=λk=>by
  unfold Vq
  rw[List.pairwise_map]
  exact srt k
 have G:∀x∈F,∃y∈o,x=(ty.getD y.toNat 0,(ar.getD y.toNat []).map λa=>(a.1,EE o (H4 p a.2))):=λx d=>by
  obtain⟨i,hi,rfl⟩:=B5 (0,[]) d
  have h1:=z (i:Int) O1 O1
  refine⟨_,h1.1,?_⟩
  rw[<-A _ h1.1,h1.2]
  rw[Int.toNat_natCast]
 have ae:EE o (H4 p 0)=0:=by
  have:=JY s.ok.nd s.zero.2
  rw[s.zero.1]at this
  exact this
 have ap:=s.ok.len
 have an:=E.1
 refine⟨⟨by omega,λx d=>?_⟩,by rw[K];exact s.zero.2,λx d=>?_,λx d a ha=>?_,λx d=>?_,λi g l=>?_,ae,⟨λi g l=>?_,λi g l=>?_,λi g l a ha=>?_,λq ai=>?_⟩,λX v ab T al=>?_,by omega⟩
 .obtain⟨y,B,rfl⟩:=G x d
  have c:=(u y B).1
  refine⟨?_,λa ha=>?_⟩
  .have:=(E.2 _ (AG (quo p ty ar) (0,[]) (k:=y.toNat) O1)).1
   rw[P7 c.1 (by rw[lp];exact c.2),List.length_map]at this
   simp only[List.length_map]
   exact this
  obtain⟨b,m,rfl⟩:=List.mem_map.1 ha
  have:=Fh (Q y B b m)
  rw[K]
  exact⟨this.1,this.2.1⟩
 .obtain⟨y,B,rfl⟩:=G x d
  exact S _
 .obtain⟨y,B,rfl⟩:=G x d
  obtain⟨b,m,rfl⟩:=List.mem_map.1 ha
  exact(arr _ b m).2
 .obtain⟨y,B,rfl⟩:=G x d
  have c:=(u y B).1
  exact tyr y c.1 c.2
 . -- in order
  obtain⟨j,au,a,ha,e⟩:=ah i.toNat (by simp only[List.length_nil];omega) O1
  have h1:=z (j:Int) O1 O1
  have W:=z i O1 O1
  rw[Int.toNat_natCast]at h1
  have c:=(u _ h1.1).1
  rw[M _ c.1 c.2]at ha
  obtain⟨b,m,rfl⟩:=List.mem_map.1 ha
  refine⟨(j:Int),by omega,by omega,(b.1,EE o (H4 p b.2)),?_,?_⟩
  .have:=A _ h1.1
   rw[h1.2]at this
   rw[Af,this]
   exact List.mem_map.2 ⟨b,m,rfl⟩
  show EE o (H4 p b.2)=i
  simp only at e
  rw[e,W.2]
 .have:=Fh (H i g l)
  rw[K]
  exact⟨this.1,this.2.1⟩
 .show Ae h _ (F.getD (EE o (H4 p i)).toNat (0,[])).1=true
  rw[A _ (H i g l)]
  exact st i _ g l (w g l)
 .obtain⟨t,ak,ad⟩:=sa i _ g l (w g l) a ha
  have e:=p7 ad
  show BR (Af F (EE o (H4 p i))) a.1=EE o (H4 p a.2)
  rw[e,Af,A _ (H i g l)]
  exact P3 (S _) (a:=(a.1,EE o (H4 p t))) (List.mem_map.2 ⟨(a.1,t),ak,rfl⟩)
 .show EE o (H4 p q.1)=EE o (H4 p q.2)
  rw[p7 (sp q ai)]
 obtain⟨c1,c2,U,V⟩:=co X v ab T
 refine⟨λi=>v (o.getD i.toNat 0),?_,λi g l=>?_,λi g l=>?_,λi g l a ha=>?_⟩
 .show v (o.getD 0 0)=0
  rw[s.zero.1,<-c1 0 _ O1 O1 (w O1 O1)]
  exact al
 .have n:=z i g O1
  have c:=(u _ n.1).1
  exact T.rng _ c.1 c.2
 .have n:=z i g O1
  have c:=u _ n.1
  have hn:=A _ n.1
  rw[n.2]at hn
  rw[hn]
  exact U _ c.1.1 c.1.2 c.2
 have n:=z i g O1
 have c:=u _ n.1
 have hn:=A _ n.1
 rw[n.2]at hn
 rw[Af,hn]at ha
 obtain⟨b,m,rfl⟩:=List.mem_map.1 ha
 have Y:=V _ c.1.1 c.1.2 c.2 b m
 have I:=(arr _ b m).1
 have Z:=Fh (Q _ n.1 b m)
 simp only
 rw[Z.2.2,<-c1 b.2 _ I.1 I.2 (w I.1 I.2)]
 exact Y
structure VF (h:AF) (f:List AD):Prop where
 good:AX f
 pos:0<f.length
 ty:C2 h f
 str:∀x∈f,Vq x.2
 ft:∀x∈f,∀a∈x.2,0<=a.1/\a.1<(h.2.length:Int)
 can:AP f 0=f
 ro:RO f
structure HU (h:AF):Prop where
 ok:GL h
 inj:Iu h
 ft:h.2.length<=64
def gL (U:List AD):Prop:=(D9 U U.length [] 0).length=U.length/\∀k,(hk:k<(D9 U U.length [] 0).length)->(D9 U U.length [] 0)[k]=(k:Int)
theorem aB {Q:List AD} (m:AX Q) {r:Int} (L:0<=r) (M:r<(Q.length:Int)):AX (AP Q r)/\gL (AP Q r):=by
 have d:=IX m L M;have D:=JZ Q r;have C:=λi=>L6 (f:=Q) (r:=r) (i:=i);generalize O:AP Q r=c at *;generalize H:D9 Q Q.length [] r=o at *;have R:=d.ok.len;have N:=m.1;have g:∀i:Int,0<=i->i<(o.length:Int)->o.getD i.toNat 0∈o/\EE o (o.getD i.toNat 0)=i:=λi J K=>by
  refine⟨AG o 0 O1,?_⟩;rw[JY d.ok.nd O1];omega
 have p:∀i:Int,0<=i->i<(o.length:Int)->Af c i=(Af Q (o.getD i.toNat 0)).map (M7 o):=λi J K=>by
  rw[Af,C i.toNat O1];rfl
 have F:Iso c Q (λi=>o.getD i.toNat 0) (λi=>0<=i/\i<(o.length:Int)):=by
  refine⟨λi hi=>?_,λi hi a ha=>?_,λi j hi B e=>?_⟩
  .rw[p i hi.1 hi.2,ABk];have:∀a∈Af Q (o.getD i.toNat 0),((λa:Int×Int=>(a.1,o.getD a.2.toNat 0))∘M7 o) a=a:=λa ha=>by
    show (a.1,o.getD (EE o a.2).toNat 0)=a;rw[(Fh (d.cl _ (g i hi.1 hi.2).1 a ha)).2.2]
   rw[AAd this,List.map_id']
  .rw[p i hi.1 hi.2]at ha;obtain⟨b,q,rfl⟩:=IS.1 ha;have:=Fh (d.cl _ (g i hi.1 hi.2).1 b q);exact⟨this.1,this.2.1⟩
  have h1:=(g i hi.1 hi.2).2;have h:=(g j B.1 B.2).2;have e:o.getD i.toNat 0=o.getD j.toNat 0:=e;rw[<-h1,<-h,e]
 have h0:(0:Int)<(o.length:Int):=by have:=d.zero.2;omega
 have v:AX c:=by
  refine⟨by omega,λx u=>?_⟩;obtain⟨i,hi,rfl⟩:=B5 (0,[]) u;have h1:=p (i:Int) O1 O1;rw[Af,gO]at h1;rw[h1];have t:=g (i:Int) O1 O1;rw[gO]at t;have S:=d.ok.rng _ t.1;refine⟨?_,λa ha=>?_⟩
  .rw[aS];exact(m.2 _ (AG Q (0,[]) (k:=(o.getD i 0).toNat) O1)).1
  obtain⟨b,q,rfl⟩:=IS.1 ha;have:=Fh (d.cl _ t.1 b q);rw[D];exact⟨this.1,this.2.1⟩
 have s:=TR F Q.length [] 0 (λx u=>by cases u) ⟨by omega,h0⟩;have I:o.getD (0:Int).toNat 0=r:=d.zero.1;rw[ABj,I,H]at s;have A:=Vo v (n:=0) O1 O1 (Q.length-c.length);rw[show c.length+(Q.length-c.length)=Q.length by omega]at A;rw[A]at s;unfold gL;refine⟨v,?_⟩;generalize D9 c c.length [] 0=l at *;obtain⟨y,E⟩:=s;have P:l.length=o.length:=by
  have:=AB3 List.length y;rw[aS]at this;exact this.symm
 have G:∀k,(hk:k<l.length)->l[k]=(k:Int):=λk hk=>by
  have w:=E l[k] (AAu hk);have h1:=(g l[k] w.1 w.2).2;have h:=(g (k:Int) O1 O1).2;have e:o.getD k 0=o.getD (l[k]).toNat 0:=by
   exact(AB3 (λz:List Int=>z.getD k 0) y).trans (by simp[AS,hk])
  rw[gO,e]at h;rw[<-h1,h]
 exact⟨by omega,G⟩
theorem Vu {b:List AD} (g:AX b) (k:gL b):AP b 0=b:=by
 unfold AP;obtain⟨q,c⟩:=k;generalize D9 b b.length [] 0=l at *;have o:l.Nodup:=by
  unfold List.Nodup;rw[oS];intro i j hi n p e;rw[c i hi,c j n]at e;omega
 have m:∀x,0<=x->x<(l.length:Int)->EE l x=x:=λx r s=>by
  have:=JY o (i:=x.toNat) O1;have e:l.getD x.toNat 0=x:=by
   rw[AS,AT O1];show l[x.toNat]=x;rw[c _ O1];omega
  rw[e]at this;rw[this];omega
 apply AAt
 .rw[aS];omega
 intro i h1 d;rw[ABA,c i (by simpa using h1)];have f:b.getD (i:Int).toNat (0,[])=b[i]:=by simp[AS,d]
 unfold Gx;rw[f];have:∀a∈b[i].2,M7 l a=a:=λa ha=>by
  have h:=(g.2 _ (AAu d)).2 a ha;unfold M7;rw[m a.2 h.1 O1]
 rw[AAd this,List.map_id']
theorem gM {Q:List AD} (a:AX Q) {r:Int} (b:0<=r) (c:r<(Q.length:Int)):AP (AP Q r) 0=AP Q r :=
 Vu (aB a b c).1 (aB a b c).2
theorem A1o {a X:List AD} (g:RO a) {f:Int->Int} (h1:RH h a X m) (b:RH h a X f):∀(k:Nat) (i:Int),i.toNat<=k->0<=i->i<(a.length:Int)->m i=f i:=by
 intro k;induction k with
 | zero =>
  intro i hk l e;have:i=0:=by omega
  subst this;rw[h1.zero,b.zero]
 | succ k n =>
  intro i hk l e;by_cases hi:i=0
  .subst hi;rw[h1.zero,b.zero]
  obtain⟨j,c,o,x,d,rfl⟩:=g i O1 e;rw[<-h1.arc j c O1 x d,<-b.arc j c O1 x d,n j O1 c O1]
theorem Vv (hk:GL h) {a b:List AD} (w:AX a) (ta:C2 h a) (tb:C2 h b) (A:C2 h c) {n:Int->Int} (h1:RH h a b m) (j:RH h b c n):RH h a c λi=>n (m i):=by
 refine⟨by show n (m 0)=0;rw[h1.zero,j.zero],λi f g=>?_,λi f g=>?_,λi f g x p=>?_⟩
 .have:=h1.rng i f g;exact j.rng _ this.1 this.2
 .have d:=h1.rng i f g;have B:=j.rng _ d.1 d.2;have r:=ta _ (AG a (0,[]) (k:=i.toNat) O1);have s:=tb _ (AG b (0,[]) (k:=(m i).toNat) O1);have t:=A _ (AG c (0,[]) (k:=(n (m i)).toNat) O1);exact OY hk r.1 r.2 s.1 s.2 t.1 t.2 (h1.ty i f g) (j.ty _ d.1 d.2)
 have d:=h1.rng i f g;have q:=B7 w p;have o:=h1.arc i f g x p;obtain⟨y,z,u,v⟩:=gG (l:=Af b (m i)) (e:=x.1) (by rw[o];exact(h1.rng _ q.1 q.2).1);have:=j.arc (m i) d.1 d.2 y z;rw[u,v,o]at this;exact this
theorem aC {a:List AD} (hs:∀x∈a,Vq x.2) (n:Int):Vq (Af a n):=by
 unfold Af;by_cases h:n.toNat<a.length
 .exact hs _ (AG a (0,[]) h)
 rw[AS,oF O1];exact .nil
theorem A1p {a:List AD} (hs:∀x∈a,Vq x.2):RH h a a id :=
 ⟨rfl,λi c d=>⟨c,d⟩,λi _ _=>RI h _,λi _ _ x b=>P3 (aC hs i) b⟩
structure mL (h:AF) (a b U:List AD):Prop where
 vf:VF h U
 left:∃m,RH h a U m
 right:∃m,RH h b U m
 least:∀X,C2 h X->∀m1,RH h a X m1->∀m2,RH h b X m2->∃m,RH h U X m
 len:U.length<=a.length+b.length
open Classical in
noncomputable def KQ (h:AF) (a b:List AD):List AD×Bool:=if H:∃U,mL h a b U then (H.choose,true) else ([],false)
theorem gN {a b:List AD} (h1:(KQ h a b).2=true):mL h a b (KQ h a b).1:=by
 unfold KQ at h1 ⊢;split at h1
 .rename_i H;rw[dif_pos H];exact H.choose_spec
 cases h1
theorem Vx {e:Int} (h:e∈KP f):∃x∈f,∃a∈x.2,a.1=e:=by
 unfold KP at h;obtain⟨x,c,b⟩:=ABo.1 h;obtain⟨a,ha,e⟩:=IS.1 b;exact⟨x,c,a,ha,e⟩
theorem A7v {N:List AD} {P:List (Int×Int)} {ty:List Int} {ar:List (List (Int×Int))} (d:JI h N P p ty ar []) (g:AX (quo p ty ar)) (m:0<N.length) (j:∀x∈N,∀a∈x.2,0<=a.1/\a.1<(h.2.length:Int)) {v:Int->Int} (c:A5X h N P (AP (quo p ty ar) (H4 p 0)) v):VF h (AP (quo p ty ar) (H4 p 0)):=by
 have f:0<=H4 p 0/\H4 p 0<((quo p ty ar).length:Int):=by
  obtain⟨n,fo⟩:=d.fo;have:=d.lp;have:=Hw fo (x:=0) O1 O1 (RL fo O1 O1);rw[TW];exact this
 refine⟨c.good,c.pos,c.ty,c.str,λx k a ha=>?_,gM g f.1 f.2,c.ro⟩;obtain⟨y,l,b,i,e⟩:=Vx (c.feat x k a ha);rw[<-e];exact j y l b i
theorem vE (hf:VF h f) (e:VF h g):∀x∈Eh f g,∀a∈x.2,0<=a.1/\a.1<(h.2.length:Int):=by
 intro x c;unfold Eh at c;rcases NO.1 c with c|c
 .exact hf.ft x c
 obtain⟨y,i,rfl⟩:=IS.1 c;intro a ha;obtain⟨b,d,rfl⟩:=IS.1 ha;exact e.ft y i b d
theorem A4w (hf:VF h f) (i:VF h g) {ty:List Int} {ar:List (List (Int×Int))} (b:JI h (Eh f g) [(0,(f.length:Int))] p ty ar []) (d:AX (quo p ty ar)):mL h f g (AP (quo p ty ar) (H4 p 0)):=by
 have v:=hf.pos;have u:=HO f g;have c:0<(Eh f g).length:=by omega
 have h0:=Vr b d c;have l:=Vs b d c (YS (g:=g) YT) hf.ro h0;have n:=Vs b d c (Vt (f:=f)) i.ro (A1m b sc h0);have a:=A7u b d c λx t w=>by
  by_cases o:x<(f.length:Int)
  .have:=l x.toNat x (OS _) t o
   rwa [show ((0:Nat):Int)+x=x by omega]at this
  have:=n _ (x-(f.length:Int)) (OS _) O1 O1
  rwa [show (f.length:Int)+(x-(f.length:Int))=x by omega]at this
 refine⟨A7v b d c (vE hf i) a,⟨_,gJ a.proj (YS (g:=g) YT) a.zero⟩,⟨_,gJ a.proj (Vt (f:=f)) (by rw[<-a.proj.eq (0,(f.length:Int)) sc];exact a.zero)⟩,λX k r h1 s j=>?_,by have:=a.len;omega⟩;refine a.least X _ k (A1n (gK hf.good i.good (TX h1) (TX j)) λq m=>?_) ?_
 .have e:q=(0,(f.length:Int)):=by simpa using m
  subst e;try simp only
  rw[At O1,As O1,Int.sub_self,h1.zero,j.zero]
 show (if (0:Int)<(f.length:Int) then r 0 else s (0-(f.length:Int)))=0;rw[At O1];exact h1.zero
theorem vF {n k:Nat} (h:k<n):(SM 0 n).getD k 0=(k:Int):=by
 unfold SM;rw[AS,AAD,ABx h];show ((0+k:Nat):Int)=k;rw[AAX]
theorem L8 {n:Nat} {x:Int} (a:0<=x) (b:x<(n:Int)):P4 (SM 0 n) x=x:=by
 unfold P4;rw[vF O1];omega
def aD (N:List AD):List Int:=N.map (·.1)
def p8 (N:List AD):List (List (Int×Int)):=N.map (·.2)
theorem Oa (N:List AD) (k:Nat):(aD N).getD k 0=(N.getD k (0,[])).1:=by
 unfold aD;rw[AS,AAD,AS];cases N[k]?<;>rfl
theorem Mw (N:List AD) (k:Nat):(p8 N).getD k []=(N.getD k (0,[])).2:=by
 unfold p8;rw[AS,AAD,AS];cases N[k]?<;>rfl
theorem aE {n:Nat} {x r:Int} (a:0<=x) (b:x<(n:Int)) (h:Rt (SM 0 n) x r):r=x:=h.det (.base (L8 a b))
theorem A4x {N:List AD} (l:AX N) (m:C2 h N) (hs:∀x∈N,Vq x.2):JI h N [] (SM 0 N.length) (aD N) (p8 N) []:=by
 have f:(SM 0 N.length).length=N.length:=vB 0 N.length;refine⟨m,⟨λ_=>0,λn n0 n1=>?_,λn n0 n1 hn=>?_⟩,f,by simp[aD],by simp[p8],λw g=>(by cases g),λx c d=>?_,λk a ha=>?_,λk=>?_,λq p=>(by cases p),λx r c d e=>?_,λx r c d e a ha=>?_,λX v s o=>?_⟩
 .rw[f]at n1 ⊢;rw[L8 n0 n1];exact⟨n0,n1⟩
 .rw[f]at n1;exact absurd (L8 n0 n1) hn
 .rw[Oa];exact m _ (AG N (0,[]) O1)
 .rw[Mw]at ha;refine⟨JV l k a ha,?_⟩;by_cases hk:k<N.length
  .exact ABo.2 ⟨_,AG N (0,[]) hk,IS.2 ⟨a,ha,rfl⟩⟩
  rw[AS,oF O1]at ha;cases ha
 .rw[Mw];have:=aC hs (k:Int)
  rwa [Af,gO]at this
 .rw[aE c d e,Oa];exact RI h _
 .rw[aE c d e,Mw];have b:=B7 l ha;exact⟨a.2,ha,.cls b.1 b.2 b.1 b.2 (.base (L8 b.1 b.2)) (.base (L8 b.1 b.2))⟩
 refine⟨λx r c d e=>by rw[aE c d e],λw g=>(by cases g),λr i j _=>?_,λr i j _ a ha=>?_⟩
 .rw[Oa];exact o.ty r i j
 rw[Mw]at ha;exact o.arc r i j a ha
theorem mM (hf:AX f) (d:AX g) (j:f.length+g.length<=100000):AX (Eh f g):=by
 have i:=HO f g;refine⟨by omega,λx c=>?_⟩;unfold Eh at c;rcases NO.1 c with c|c
 .refine⟨(hf.2 x c).1,λa ha=>?_⟩;have:=(hf.2 x c).2 a ha;omega
 obtain⟨y,e,rfl⟩:=IS.1 c;refine⟨by simp only[Dp,aS];exact(d.2 y e).1,λa ha=>?_⟩;obtain⟨b,h,rfl⟩:=IS.1 ha;have:=(d.2 y e).2 b h;simp only;omega
theorem vG (hf:∀x∈f,Vq x.2) (b:∀x∈g,Vq x.2):∀x∈Eh f g,Vq x.2:=by
 intro x a;unfold Eh at a;rcases NO.1 a with a|a
 .exact hf x a
 obtain⟨y,c,rfl⟩:=IS.1 a;unfold Vq Dp;rw[AAG];exact b y c
theorem A1q (hf:C2 h f) (b:C2 h g):C2 h (Eh f g):=by
 intro x a;unfold Eh at a;rcases NO.1 a with a|a
 .exact hf x a
 obtain⟨y,c,rfl⟩:=IS.1 a;exact b y c
def vH (N:List AD):Prop:=∀x∈N,∀a∈x.2,0<=a.1/\a.1<64
theorem A1r (hf:vH f) (e:vH g):vH (Eh f g):=by
 intro x c;unfold Eh at c;rcases NO.1 c with c|c
 .exact hf x c
 obtain⟨y,h,rfl⟩:=IS.1 c;intro a ha;obtain⟨b,d,rfl⟩:=IS.1 ha;exact e y h b d
theorem A1s (h:Vq l) (hf:∀a∈l,0<=a.1/\a.1<64):l.length<=64:=by
 have:=p6 h (S:=(List.range 64).map λ(i:Nat)=>(i:Int)) (λa ha=>IS.2 ⟨a.1.toNat,wH.2 (by have:=hf a ha;omega),by have:=hf a ha;omega⟩)
 rwa [aS,ACf]at this
theorem vI {N:List AD} (h:vH N) {e:Int} (b:e∈KP N):0<=e/\e<64:=by
 obtain⟨x,c,a,ha,rfl⟩:=Vx b;exact h x c a ha
theorem A1t {N:List AD} {P:List (Int×Int)} {ty:List Int} {ar:List (List (Int×Int))} (c:JI h N P p ty ar []) (k:N.length<=100000) (hf:vH N):AX (quo p ty ar):=by
 have g:=TW p ty ar;obtain⟨l,fo⟩:=c.fo;have lp:=c.lp;refine⟨by omega,λx j=>?_⟩;obtain⟨i,hi,rfl⟩:=B5 (0,[]) j;have e:=P7 (p:=p) (ty:=ty) (ar:=ar) (n:=(i:Int)) O1 O1;rw[gO]at e;rw[e];refine⟨?_,λa ha=>?_⟩
 .simp only[aS];have:=A1s (c.srt i) (λa ha=>vI hf (c.arr i a ha).2);omega
 obtain⟨b,f,rfl⟩:=IS.1 ha;have d:=(c.arr i b f).1;have:=Hw fo (x:=b.2) d.1 O1 (RL fo d.1 O1);rw[g];exact this
theorem VF.ft64 (b:VF h f) (hu:HU h):vH f:=λx c a ha=>by
 have h1:=b.ft x c a ha;have d:=hu.ft;omega
def A9k (d:List AJ) (o:List ByteArray) (i:Nat):Prop:=∀j,j<i->∀x∈d,AU x.2.1 (o.getD j ByteArray.empty)=true->AU o x.1=true
theorem A1u {c:ByteArray} {o:List ByteArray} {x:AJ} (h:AU x.2.1 c=true):AU (Eu c o x) x.1=true:=by grind [Eu,N8,Ct]
theorem YU {c:ByteArray} {x:AJ} (h:AU x.2.1 c=true):∀ {l:List AJ} {o:List ByteArray},x∈l->AU (l.foldl (Eu c) o) x.1=true
 | [],_,a=>by cases a
 | y :: l,o,a=>by
  rw[OR];rcases GO.1 a with rfl|a
  .grind [HL,Mm,A1u]
  exact YU h a
theorem Vy {d:List AJ}:∀ {n i:Nat} {o:List ByteArray},Zh d o->d.length<=n+i->A9k d o i->i<=o.length->∃m,A9k d (Ci d n i o) m/\(Ci d n i o).length<=m
 | 0,i,o,ha,f,a,hi=>⟨i,a,by
  have:=ha.len;show o.length<=i;omega⟩
 | n+1,i,o,ha,f,a,hi=>by
  unfold Ci;split
  .rename_i q;obtain⟨c,k⟩:=U0 (o.getD i ByteArray.empty) (l:=d) (o:=o) (λ_ h=>h) ha;refine Vy c O1 (λj p x b hs=>?_) O1;rw[Qw _ O1]at hs;by_cases e:j=i
   .subst e;exact YU hs b
   exact HL (λz g=>Mm g) (a j O1 x b hs)
  exact⟨i,a,by omega⟩
theorem RP {α:Type} {p:α->Bool}:∀ {l:List α},l.countP p=1->∀x∈l,p x=true->∀y∈l,p y=true->x=y
 | [],h,x,a,_,_,_,_=>by cases a
 | z :: l,h,x,a,d,y,b,e=>by
  rw[ABB]at h;by_cases c:p z=true
  .rw[At c]at h;grind
  rw[As c]at h;have a:x∈l:=by grind
  have b:y∈l:=by grind
  exact RP O1 x a d y b e
theorem Vz (s:ByteArray):∀(l:List AJ) (k:Nat),0<=Cs s k l->∃x∈l,AM x.1 s=true
 | [],k,h=>by
  simp only[Cs]at h;omega
 | y :: l,k,h=>by
  simp only[Cs]at h;split at h
  .rename_i e;exact⟨y,by simp,e⟩
  obtain⟨x,a,e⟩:=Vz s l (k+1) h;exact⟨x,by simp[a],e⟩
theorem mN {d:List AJ} (t:A6 d=0):∃r∈d,∀x∈d,AU (Cj d r.1) x.1=true:=by
 obtain⟨hs,I,h1,hn,l⟩:=Ay t;have C:0<d.countP λx=>x.2.1.length==0:=by grind [Hg]
 obtain⟨r,c,q⟩:=List.countP_pos_iff.1 C;refine⟨r,c,?_⟩;have D:=DL c;have u:Zh d [r.1]:=⟨λs hs=>by
  have:s=r.1:=by simpa using hs
  rw[this];exact D,by simp⟩
 obtain⟨m,B,J⟩:=Vy (d:=d) (n:=d.length) (i:=0) u O1 (λj A=>by omega) O1;have p:r.1∈Ci d d.length 0 [r.1]:=KF sc;have v:Cj d r.1=JG (Ci d d.length 0 [r.1]):=by unfold Cj;rw[As O1]
 rw[v];generalize Ci d d.length 0 [r.1]=o at *;have key:∀(k:Nat) (x:AJ),x∈d->Fs d x.1<=k->AU o x.1=true:=by
  intro k;induction k with
  | zero =>
   intro x a hk;by_cases g:x.2.1.length=0
   .have e:=RP h1 x a (by simpa using g) r c q;rw[e];exact FG p
   obtain⟨s,b⟩:∃s,s∈x.2.1:=ACm O1;have:=KE hn l a (FG b);omega
  | succ k H =>
   intro x a hk;by_cases g:x.2.1.length=0
   .have e:=RP h1 x a (by simpa using g) r c q;rw[e];exact FG p
   obtain⟨s,b⟩:∃s,s∈x.2.1:=ACm O1;have E:=KE hn l a (FG b);obtain⟨y,G,e⟩:=Vz s d 0 (hs x a s b);rw[<-Hl d e]at E;obtain⟨z,h,f⟩:=aT.1 (H y G O1);obtain⟨j,A,rfl⟩:=B5 ByteArray.empty h;refine B j O1 x a ?_;exact aT.2 ⟨s,b,Bp (BI f e)⟩
 intro x a;obtain⟨z,h,e⟩:=aT.1 (key _ x a (OS _));obtain⟨w,F,f⟩:=aT.1 (Pj (o:=[]) h);exact aT.2 ⟨w,F,BI f e⟩
abbrev cnt (c:List Int):Nat:=(Hc c).length
theorem A1v {w:Int} (a:U64 w) {r:Nat} (d:r<64):A03 w (r:Int)=w.toNat.testBit r:=by
 have h0:=a.1;have h1:=a.2;have b:w.toNat / 2 ^ r<=w.toNat:=Nat.div_le_self _ _;have e:bQ .u64 w (r:Int)=((w.toNat / 2 ^ r:Nat):Int):=by
  unfold bQ;have c:min ((r:Int)).toNat IntKind.u64.bits=r:=by
   show min ((r:Int)).toNat 64=r;omega
  grind
 unfold A03;rw[Nat.testBit_eq_decide_div_mod_eq,e];generalize w.toNat / 2 ^ r=z at *;rw[Hj ⟨by omega,by omega⟩ ⟨by decide,by decide⟩,gO,show (1:Int).toNat=1 from rfl,Nat.and_one_is_mod,ABL,AAb,IN];omega
theorem TY {b:List Int} (d:Hk b) (i:Nat):Sh b (i:Int)=BE b i:=by
 have a:Int.tdiv (i:Int) 64=((i / 64:Nat):Int):=by rw[ABe O1];omega
 have c:Int.tmod (i:Int) 64=((i % 64:Nat):Int):=by rw[ABz O1];omega
 unfold Sh BE;rw[a,c,gO];by_cases hk:i / 64<b.length
 .rw[As (by rw[oN,IN,IN];omega),A1v (BJ d _) O1]
 rw[At (by rw[oN,IN,IN];omega),Gd hk];simp
theorem gP (c:List Int):(Hc c).Nodup:=by
 unfold Hc NM List.Nodup;rw[AAG];refine List.Pairwise.imp (λh e=>h ?_) (List.Pairwise.filter _ List.nodup_range);exact Int.ofNat.inj e
theorem YV {c:List Int} (b:Hk c) {x:Int}:x∈Hc c↔∃i:Nat,x=(i:Int)/\BE c i=true:=by
 unfold Hc NM;rw[IS];constructor
 .grind [TY]
 rintro⟨i,rfl,a⟩;refine⟨i,AB6.2 ⟨wH.2 ?_,by rw[TY b];exact a⟩,rfl⟩;refine By λd=>?_;unfold BE at a;rw[Gd O1]at a;simp at a
theorem A7w {a b:List Int} (ha:Hk a) (d:Hk b) (h:∀i,BE a i=true->BE b i=true) (e:cnt b<=cnt a) (i:Nat) (hi:BE b i=true):BE a i=true:=by
 refine By λhn=>?_;have c:(i:Int)∉Hc a:=λf=>by grind [YV]
 have:=RK (l:=(i:Int) :: Hc a) (l':=Hc b) (AAB.2 ⟨c,gP a⟩) λx c=>by grind [YV]
 grind
theorem V0 (x:AQ) (out:List AQ):∀n,(FH x out n=0->n=0\/FZ x (out.getD 0 c0)=true)/\∀k,FH x out n=k+1->FZ x (out.getD k c0)=false
 | 0=>⟨λ_=>.inl rfl,λk h=>by simp[FH]at h⟩
 | n+1=>by
  obtain⟨h1,a⟩:=V0 x out n;grind [FH]
theorem gQ {a b:AQ} (h:FZ a b=true):cnt b.2<=cnt a.2:=by
 unfold FZ at h;grind
theorem aF {a b:AQ} (h:FZ a b=false):cnt a.2<=cnt b.2:=by
 unfold FZ at h;grind
def HM (out:List AQ):Prop:=∀y∈out,cnt y.2<=cnt (out.getD 0 c0).2
theorem A4y {out:List AQ} (h:HM out) (x:AQ):HM (Zr out x):=by
 obtain⟨s1,s2⟩:=V0 x out out.length;have c:=eO x out out.length;intro y a;rw[eX]at a;unfold Zr;cases hk:FH x out out.length with
 | zero =>
  rw[AB0,AAL,iN];have e:([x]++out).getD 0 c0=x:=rfl;rw[e];rcases a with rfl|a
  .exact OS _
  have h1:=h y a;rcases s1 hk with e|e
  .grind
  exact iF h1 (gQ e)
 | succ k =>
  have b:=aF (s2 k hk);rw[hk]at c;have e:(out.take (k+1)++[x]++out.drop (k+1)).getD 0 c0=out.getD 0 c0:=by grind
  rw[e];rcases a with rfl|a
  .exact iF b (h _ (Aq O1))
  exact h y a
theorem gR {d:List AJ}:∀ {l:List (List Int)} {o:List AQ},HM o->HM (l.foldl (Q1 d) o)
 | [],_,h=>h
 | b :: l,o,h=>by
  rw[OR];exact gR (A4y h _)
def In (n:Nat) (c:List Int):Prop:=Hk c/\∀i,BE c i=true->i<n
theorem A7x (n:Nat):In n []:=⟨λx a=>(by cases a),λi hi=>by unfold BE at hi;simp at hi⟩
theorem A7y {n:Nat} {a b:List Int} (ha:In n a) (c:In n b):In n (ED a b) :=
 ⟨Ps ha.1 c.1,λi hi=>by
  rw[Pr ha.1 c.1,An]at hi;exact ha.2 i hi.1⟩
theorem A4z {n:Nat} {l:List (List Int)} (h:∀c∈l,In n c) (k:Nat):In n (l.getD k []):=by grind [Aq,Q6,A7x]
theorem A4A {n:Nat} {l:List (List Int)} (h:∀c∈l,In n c) (i k:Nat):∀c∈GA l i k,In n c:=by grind [GA,ED,A7y,A4z]
theorem p9 {q i:Nat}:∀ {n k:Nat} {l:List (List Int)},(∀c∈l,In q c)->∀c∈GB i n k l,In q c
 | 0,_,_,h=>h
 | n+1,k,l,h=>by
  unfold GB;split
  .exact p9 (A4A h i k)
  exact h
theorem aG {q:Nat}:∀ {n i:Nat} {l:List (List Int)},(∀c∈l,In q c)->∀c∈Hi n i l,In q c
 | 0,_,_,h=>h
 | n+1,i,l,h=>by
  unfold Hi;split
  .exact aG (p9 h)
  exact h
def A9l (h:AF):Prop:=∀t,0<=t->t<(h.1.length:Int)->Ae h 0 t=true
theorem gS (d:List AJ):A9l (Aa d).1:=by
 have hk:=Ge d;unfold Aa at hk ⊢;split
 .intro t h0 h1;simp at h1;omega
 rename_i g;rw[As g]at hk;have g:(A4 d).2=0:=By g;have A:Ak d=0:=by grind [A4]
 obtain⟨M,-,-⟩:=CB A;obtain⟨j,Q,-⟩:=BW M;obtain⟨-,z,-,hn,P⟩:=Ay j;have G:=Dk d d.length;rw[tO]at G;have k:(AN d).length<=4096:=by omega
 obtain⟨r,I,O⟩:=mN j;have a:∀c∈Aw (AR d),In (AN d).length c:=aG λc f=>by
  obtain⟨s,hs,rfl⟩:=IS.1 f;exact⟨(B4 (d:=d) k s 0).2.1,λi hi=>((B4 (d:=d) k s i).1.1 hi).1⟩
 obtain⟨s,hs,N⟩:=aT.1 (OG I);have J:s=r.1:=by grind [DM,Pi]
 subst J;have n:ET d (AN d) r.1∈Aw (AR d):=by
  have H:AR d <+: Aw (AR d):=Pp 257 0 (AR d);exact H.subset (IS.2 ⟨_,hs,rfl⟩)
 have l:∀i,i<(AN d).length->BE (ET d (AN d) r.1) i=true:=λi hi=>by grind [B4,DM,Aq]
 have B:HM (AL d):=gR λy L=>by cases L
 have q:=DN.2 ⟨_,n,rfl⟩;have u:0<(AL d).length:=AC9 q;have p:=B _ q;obtain⟨b,m,h⟩:=DN.1 (Aq (d:=c0) u);rw[h]at p;have E:=A7w (a b m).1 (a _ n).1 (λi hi=>l i ((a b m).2 i hi)) p;have D:BX (Bi d) 0=b:=by
  show ((D7 (AL d) _ _).getD 0 Q4).2.1=b;have:(D7 (AL d) (A4 d).1 (AL d).length).getD 0 Q4=(((AL d).getD 0 c0).1,((AL d).getD 0 c0).2,Xw (AL d) ((0:Nat):Int),(A4 d).1.getD 0 []):=by
   unfold D7;rw[AS,AAD,ABx u];rfl
  rw[this,h]
 have R:(Bi d).1.length=(AL d).length:=JR _ _ _;intro t v w;refine(Bu hk O1 (by show (0:Int)<((Bi d).1.length:Int);omega) v w).2 λi hi=>?_;show BE (BX (Bi d) 0) i=true;rw[D];refine E i (l i ?_);have C:=CS v w;have F:BX (Bi d) t∈Aw (AR d):=by
  have e:((Bi d).1.map λt=>t.2.1)=(AL d).map λx=>x.2:=by
   show ((D7 _ _ _).map λt=>t.2.1)=_;unfold D7;rw[ABk];apply AAt
   .simp
   intro i h1 z;simp[AS,show i<(AL d).length by simpa using h1]
  have o:BX (Bi d) t∈(Bi d).1.map λt=>t.2.1:=C;rw[e]at o;obtain⟨x,K,ex⟩:=IS.1 o;obtain⟨c,f,rfl⟩:=DN.1 K;rw[<-ex];exact f
 exact(a _ F).2 i hi
theorem V1 (d:List AJ):Nd ((Aa d).1.1.map λt=>t.2.1):=by
 unfold Aa;split
 .exact⟨.nil,λc h=>(by cases h)⟩
 rename_i a;have a:(A4 d).2=0:=By a;have g:Ak d=0:=by
  unfold A4 at a;split at a
  .rename_i h;exact absurd a h
  rename_i h;exact By h
 obtain⟨m,-,-⟩:=CB g;obtain⟨f,o,-⟩:=BW m;have hf:Nd (Aw (AR d)):=TK (Q7 f);have e:((Bi d).1.map λt=>t.2.1)=(AL d).map λx=>x.2:=by
  show ((D7 _ _ _).map λt=>t.2.1)=_;unfold D7;rw[ABk];apply AAt
  .simp
  intro i h1 n;simp[AS,show i<(AL d).length by simpa using h1]
 show Nd ((Bi d).1.map λt=>t.2.1);rw[e];refine⟨Lv (by simpa using hf.nd),λc k=>?_⟩;obtain⟨x,l,rfl⟩:=IS.1 k;obtain⟨b,j,rfl⟩:=DN.1 l;exact hf.nrm b j
structure CI (n:Nat) (o:List Int) (ar:List (List (Int×Int))) (W:List (Int×Int)):Prop where
 lo:o.length=n
 la:ar.length=n
 rep:∀k:Nat,k<n->0<=o.getD k 0/\o.getD k 0<=(k:Int)/\o.getD (o.getD k 0).toNat 0=o.getD k 0
 wr:∀w∈W,(0<=w.1/\w.1<(n:Int))/\(0<=w.2/\w.2<(n:Int))
 ta:∀k,∀a∈ar.getD k [],0<=a.2/\a.2<(n:Int)
theorem CI.rng {n:Nat} {o:List Int} {ar:List (List (Int×Int))} (h:CI n o ar l) {x:Int} (c:0<=x) (d:x<(n:Int)):0<=o.getD x.toNat 0/\o.getD x.toNat 0<(n:Int)/\o.getD (o.getD x.toNat 0).toNat 0=o.getD x.toNat 0:=by
 obtain⟨h1,b,a⟩:=h.rep x.toNat O1;exact⟨h1,by omega,a⟩
section
attribute [local go_sem] Uy A06
def A5Z (b:List Int):List FI->Nat->Int×Bool
 | [],_=>(0,false)
 | t :: r,k=>if t.2.1=b then ((k:Int),true) else A5Z b r (k+1)
def A1w (h:AF) (a b:Int):Int×Bool:=A5Z (ED (BX h a) (BX h b)) h.1 0
end
section
def A9m (h:AF) (l:List AD) (c:List Int):Nat->Option (List Int)
 | 0=>some (List.replicate l.length 0)
 | i+1=>match A9m h l c i with
  | none=>none
  | some o=>if (A1w h (o.getD (c.getD i 0).toNat 0) (l.getD i (0,[])).1).2=true then some (o.set (c.getD i 0).toNat (A1w h (o.getD (c.getD i 0).toNat 0) (l.getD i (0,[])).1).1) else none
def A1x (h:AF) (l:List AD) (c:List Int):List Int×Bool:=match A9m h l c l.length with
 | none=>([],false)
 | some o=>((List.range l.length).map λ(k:Nat)=>o.getD (c.getD k 0).toNat 0,true)
def AAf (n:Nat) (c:List Int):Prop:=c.length=n/\∀k:Nat,k<n->0<=c.getD k 0/\c.getD k 0<=(k:Int)/\c.getD (c.getD k 0).toNat 0=c.getD k 0
def A1y:AW:={ ins:=[FY,HJ,Bz],pre:=λ(h,l,c,_)=>AAf (List.length l) c/\C2 h l/\0<List.length (h:AF).1/\List.length l<=100000/\(∀x∈(h:AF).1,x.2.1.length<=100000),out:=λ(h,l,c,_)=>[.p Bz (A1x h l c).1,.p .bool (A1x h l c).2] }
attribute [local go_sem] A1y
end
inductive EQ (n:Nat) (o:List Int) (W:List (Int×Int)):Int->Int->Prop
 | cls {x y:Int} (x0:0<=x) (x1:x<(n:Int)) (y0:0<=y) (y1:y<(n:Int)) (h:o.getD x.toNat 0=o.getD y.toNat 0):EQ n o W x y
 | wt {x y:Int} (h:(x,y)∈W):EQ n o W x y
 | symm {x y:Int} (h:EQ n o W x y):EQ n o W y x
 | trans {x y z:Int} (h:EQ n o W x y) (g:EQ n o W y z):EQ n o W x z
theorem EQ.mono {n:Nat} {o b:List Int} {a:List (Int×Int)} (h1:∀x y,0<=x->x<(n:Int)->0<=y->y<(n:Int)->o.getD x.toNat 0=o.getD y.toNat 0->EQ n b a x y) (c:∀x y,(x,y)∈l->EQ n b a x y) {x y:Int} (h:EQ n o l x y):EQ n b a x y:=by
 induction h with
 | cls g i j k h=>exact h1 _ _ g i j k h
 | wt h=>exact c _ _ h
 | symm _ d=>exact .symm d
 | trans _ _ e f=>exact .trans e f
theorem EQ.nil {n:Nat} {o:List Int} {x y:Int} (h:EQ n o [] x y):o.getD x.toNat 0=o.getD y.toNat 0:=by
 induction h with
 | cls _ _ _ _ h=>exact h
 | wt h=>cases h
 | symm _ a=>exact a.symm
 | trans _ _ b c=>exact b.trans c
def A7z (h:AF):Prop:=∀t∈h.1,Nrm t.2.1
section
variable {d:List AJ}
theorem Ja (d:List AJ):((Bi d).1.map λt=>t.2.1)=(AL d).map λx=>x.2:=by
 show ((D7 _ _ _).map λt=>t.2.1)=_;unfold D7;rw[ABk];apply AAt
 .simp
 intro i h1 a;simp[AS,show i<(AL d).length by simpa using h1]
theorem V2 (d:List AJ):(Bi d).1.length=(AL d).length:=JR _ _ _
theorem mO (d:List AJ) (hk:k<(AL d).length):(Bi d).1.getD k Q4=(((AL d).getD k c0).1,((AL d).getD k c0).2,Xw (AL d) (k:Int),(A4 d).1.getD k []):=by
 unfold Bi D7;simp[AS,hk]
theorem Mx (d:List AJ) {t:Int} (a:0<=t) (b:t<((AL d).length:Int)):BX (Bi d) t=((AL d).getD t.toNat c0).2:=by
 unfold BX;rw[mO d O1]
theorem gT (a:Ak d=0):(A4 d).2=0/\(A4 d).1=JQ d (AL d) (BG d) (AL d).length:=by
 unfold A4;rw[As (by rw[a];simp)];exact⟨rfl,rfl⟩
theorem KR (a:Ak d=0):(Aa d).1=Bi d:=by
 unfold Aa;rw[As (by rw[(gT a).1];simp)]
theorem A60 (b:Ak d=0):GL (Bi d)/\Nd ((Bi d).1.map λt=>t.2.1):=by
 have h1:=Ge d;have a:=V1 d;rw[KR b]at h1 a;exact⟨h1,a⟩
theorem L9 (a:Ak d=0):(Bi d).2=(BG d).map (Ls d):=by
 unfold Bi DB;rw[As (by rw[a];simp)]
theorem A1z (a:Ak d=0) {t:Int} (b:0<=t) (c:t<((AL d).length:Int)):Zz (Bi d) t=Sl d (AL d) (BG d) t.toNat (BG d).length:=by
 unfold Zz;rw[mO d O1];show (A4 d).1.getD t.toNat []=_;rw[(gT a).2];unfold JQ;simp[AS,show t.toNat<(AL d).length by omega]
theorem V3 (a:Ak d=0):A6 d=0/\(B6 d).1=AL d/\KH d=0/\(∀s∈BG d,(DP d s).2=true)/\Ho d (AL d) (BG d) (AL d).length=false:=by
 obtain⟨b,-,f⟩:=CB a;obtain⟨e,-,c⟩:=BW b;refine⟨e,c,f,?_,?_⟩
 .unfold Ak at a;split at a
  .rename_i h;exact absurd b h
  split at a
  .cases a
  split at a
  .rename_i h;exact absurd a h
  split at a
  .cases a
  rename_i h;exact OF.1 (by simpa using h)
 unfold Ak at a;split at a
 .rename_i h;exact absurd b h
 split at a
 .cases a
 split at a
 .rename_i h;exact absurd a h
 split at a
 .cases a
 split at a
 .cases a
 rename_i h;rw[c]at h;simpa using h
def Cd (l:List (List Int)) (c:List Int):Prop:=c=[]\/c∈l
theorem A1A {l:List (List Int)} (hk:IP l) {c:List Int} (h:Cd l c):Hk c:=by
 rcases h with rfl|h
 .exact λx a=>by cases a
 exact hk.wds c h
theorem A7A {l:List (List Int)} (hk:IP l) (hn:Nd l) {a b:List Int} (ha:Cd l a) (j:b∈l):Cd l (ED a b):=by
 have f:=A1A hk ha;have g:=hk.wds b j;have m:Nrm (ED a b):=by unfold ED;exact OL _
 have k:=λi=>Pr f g i;by_cases hi:∃i,BE a i=true/\BE b i=true
 .rcases ha with rfl|ha
  .obtain⟨i,h1,-⟩:=hi;unfold BE at h1;simp at h1
  obtain⟨t,d,e⟩:=hk.meet a ha b j hi;right;rw[lU (Ps f g) (hk.wds t d) m (hn.nrm t d) λi=>by rw[k,e]];exact d
 left;refine By λn=>?_;unfold ED at n;have o:Hk (ED a b):=Ps f g;have:∃i,BE (ED a b) i=true:=by
  have c:=m;rcases c with c|c
  .exact absurd (AA9 c) n
  exact fG o c
 obtain⟨i,h⟩:=this;rw[k,An]at h;exact hi ⟨i,h⟩
def UsD (d:List AJ) (t:Int) (s:ByteArray) (x:AJ):Prop:=(C7 x s).2=true/\Ae (Bi d) (BH (AL d) x.1) t=true
def vcD (d:List AJ) (s:ByteArray) (x:AJ):List Int:=((AL d).getD (BH (AL d) (C7 x s).1).toNat c0).2
theorem TZ (hn:lH d (AL d)) {x:AJ} (a:x∈d):0<=BH (AL d) x.1/\BH (AL d) x.1<((AL d).length:Int):=⟨hn.1 x a,Hn _ _⟩
theorem A1B (hn:lH d (AL d)) {x:AJ} (b:x∈d) (a:(C7 x s).2=true):0<=BH (AL d) (C7 x s).1/\BH (AL d) (C7 x s).1<((AL d).length:Int):=⟨hn.value b a,Hn _ _⟩
theorem qA (d:List AJ) {k:Int} (a:0<=k) (b:k<((AL d).length:Int)):((AL d).getD k.toNat c0).2∈(AL d).map λx=>x.2:=IS.2 ⟨_,Aq O1,rfl⟩
theorem vJ (hk:GL (Bi d)) {a t:Int} (b:0<=a) (g:a<((AL d).length:Int)) (c:0<=t) (h:t<((AL d).length:Int)):Ki (AL d) a t=Ae (Bi d) a t:=by
 have j:=V2 d;have e:a<((Bi d).1.length:Int):=by omega
 have f:t<((Bi d).1.length:Int):=by omega
 have i:=hk.1.wds _ (CS b e);have wt:=hk.1.wds _ (CS c f);rw[ABL];unfold Ki;rw[<-Mx d b g,<-Mx d c h,E8 wt i];exact(Bu hk b e c f).symm
theorem aH (hk:GL (Bi d)) (h:Nd ((Bi d).1.map λt=>t.2.1)) (hn:lH d (AL d)) {t:Int} (p:0<=t) (q:t<((AL d).length:Int)) (s:ByteArray):∀(r:List AJ) (o:List Int×Bool),(∀x∈r,x∈d)->Cd ((AL d).map λx=>x.2) o.1 ->
  Cd ((AL d).map λx=>x.2) (r.foldl (JP (AL d) t s) o).1/\((r.foldl (JP (AL d) t s) o).2=true↔o.2=true\/∃x∈r,UsD d t s x)/\∀i,BE (r.foldl (JP (AL d) t s) o).1 i=true↔BE o.1 i=true/\∀x∈r,UsD d t s x->BE (vcD d s x) i=true
 | [],o,_,g=>⟨g,by simp,λi=>by simp⟩
 | x :: r,o,n,g=>by
  rw[Ja]at h;have m:IP ((AL d).map λx=>x.2):=by have:=hk.1;rwa [Ja]at this
  have w:=n x sc;obtain⟨n0,n1⟩:=TZ hn w;have u:=vJ hk n0 n1 p q;rw[OR];by_cases hu:UsD d t s x
  .obtain⟨v0,v1⟩:=A1B hn w hu.1;have e:JP (AL d) t s o x=(ED o.1 (vcD d s x),true):=by
    unfold JP;rw[As]
    .rfl
    rw[hu.1,u,hu.2];simp
   have v:vcD d s x∈(AL d).map λx=>x.2:=qA d v0 v1;obtain⟨h1,k,l⟩:=aH hk (by rw[Ja];exact h) hn p q s r (JP (AL d) t s o x) (λy f=>n y (by simp[f])) (by rw[e];exact A7A m h g v);refine⟨h1,?_,λi=>?_⟩
   .rw[k,e];exact⟨λ_=>.inr ⟨x,by simp,hu⟩,λ_=>.inl rfl⟩
   rw[l,e];simp only;rw[Pr (A1A m g) (m.wds _ v),An];constructor
   .rintro⟨⟨a,b⟩,c⟩;refine⟨a,λy f j=>?_⟩;rcases GO.1 f with rfl|f
    .exact b
    exact c y f j
   rintro⟨a,b⟩;exact⟨⟨a,b x sc hu⟩,λy f=>b y (by simp[f])⟩
  have e:JP (AL d) t s o x=o:=by
   unfold JP;rw[At];rw[u];unfold UsD at hu;cases h1:(C7 x s).2 with
   | false=>simp
   | true =>
    rw[h1]at hu;have:Ae (Bi d) (BH (AL d) x.1) t=false:=by simpa using hu
    rw[this];simp
  obtain⟨h1,k,l⟩:=aH hk (by rw[Ja];exact h) hn p q s r (JP (AL d) t s o x) (λy f=>n y (by simp[f])) (by rw[e];exact g);refine⟨h1,?_,λi=>?_⟩
  .rw[k,e];constructor
   .rintro (a|⟨y,f,a⟩)
    .exact .inl a
    exact .inr ⟨y,by simp[f],a⟩
   rintro (a|⟨y,f,a⟩)
   .exact .inl a
   rcases GO.1 f with rfl|f
   .exact absurd a hu
   exact .inr ⟨y,f,a⟩
  rw[l,e];constructor
  .rintro⟨a,b⟩;refine⟨a,λy f j=>?_⟩;rcases GO.1 f with rfl|f
   .exact absurd j hu
   exact b y f j
  rintro⟨a,b⟩;exact⟨a,λy f=>b y (by simp[f])⟩
theorem V4 {b:List Int}:∀ {l:List AQ} {k:Nat},(∃x∈l,x.2=b)->∃j:Nat,j<l.length/\Pd b k l=((k+j:Nat):Int)/\(l.getD j c0).2=b
 | [],k,⟨x,a,_⟩=>by cases a
 | y :: l,k,⟨x,a,e⟩=>by
  unfold Pd;by_cases h:Gv y.2 b=true
  .rw[At h];exact⟨0,by simp,rfl,by simpa[Gv] using h⟩
  rw[As h];rcases GO.1 a with rfl|a
  .exact absurd (by simpa[Gv] using e) h
  obtain⟨j,h1,c,d⟩:=V4 (k:=k+1) ⟨x,a,e⟩;exact⟨j+1,by simp only[Is];omega,by rw[c];congr 1;omega,by simpa using d⟩
theorem mP {b:List Int} (h:Nrm b):BN b=b:=by
 unfold BN;have:Cb b b.length=b.length:=by
  rcases h with h|h
  .rw[h];rfl
  cases e:b.length with
  | zero=>rfl
  | succ m =>
   rw[e]at h;show (if b.getD m 0=0 then Cb b m else m+1)=m+1;rw[As (by simpa using h)]
 rw[this,tO]
theorem P8 (b:Ak d=0) {t:Int} (z:0<=t) (J:t<((AL d).length:Int)) (hs:s∈BG d) :
  ((E7 d (AL d) t s).2=true↔∃x∈d,UsD d t s x)/\((E7 d (AL d) t s).2=true->(0<=Gn (AL d) (E7 d (AL d) t s).1/\Gn (AL d) (E7 d (AL d) t s).1<((AL d).length:Int)) /\
   ∀i,BE (BX (Bi d) (Gn (AL d) (E7 d (AL d) t s).1)) i=true↔∀x∈d,UsD d t s x->BE (vcD d s x) i=true):=by
 obtain⟨n,-,D,-,u⟩:=V3 b;obtain⟨hk,p⟩:=A60 b;have hn:=Pn n D;have L:=pC n;have r:=gS d;rw[KR b]at r;have K:IP ((AL d).map λx=>x.2):=by have:=hk.1;rwa [Ja]at this
 have q:=p;rw[Ja]at q;have A:=qA d (ABg 0) (by omega:(0:Int)<((AL d).length:Int));obtain⟨g,a,m⟩:=aH hk p hn z J s d (((AL d).getD 0 c0).2,false) (λx f=>f) (.inr A);have e:E7 d (AL d) t s=d.foldl (JP (AL d) t s) (((AL d).getD 0 c0).2,false):=rfl;rw[<-e]at g a m;refine⟨by rw[a];simp,λhu=>?_⟩;have E:(E7 d (AL d) t s).1≠[]:=by
  intro G;have h1:KJ d (AL d) t.toNat s=true:=by
   unfold KJ;rw[ABf z,hu,G];rfl
  have B:Ho d (AL d) (BG d) (AL d).length=true:=by
   unfold Ho;refine aT.2 ⟨t.toNat,wH.2 O1,?_⟩;unfold Zt;exact aT.2 ⟨s,hs,h1⟩
  rw[B]at u;cases u
 have o:(E7 d (AL d) t s).1∈(AL d).map λx=>x.2:=g.resolve_left E;obtain⟨x,f,ex⟩:=IS.1 o;obtain⟨j,M,H,I⟩:=V4 (l:=AL d) (k:=0) ⟨x,f,ex⟩;have hf:Gn (AL d) (E7 d (AL d) t s).1=(j:Int):=by
  unfold Gn;rw[mP (q.nrm _ o),H];simp
 rw[hf];refine⟨⟨AAE _,by omega⟩,λi=>?_⟩;rw[Mx d (AAE _) O1,gO,I,m];constructor
 .exact λh=>h.2
 intro h;refine⟨?_,h⟩;obtain⟨y,v,w⟩:=(a.1 hu).resolve_left sc;obtain⟨v0,v1⟩:=A1B hn v w.1;have C:=h y v w;have c:=V2 d;have F:=r _ v0 (by rw[c];exact v1);have:=(Bu hk (ABg 0) (by rw[c];omega) v0 (by rw[c];exact v1)).1 F i;unfold Tb2 at this;rw[Mx d (ABg 0) O1,Mx d v0 v1]at this;exact this C
theorem RQ {s:ByteArray}:∀ {r:List AJ} {o:List ByteArray} {y:ByteArray},y∈r.foldl (Gw s) o->y∈o\/∃x∈r,x.1=y/\(C7 x s).2=true
 | [],_,_,h=>.inl h
 | x :: r,o,y,h=>by
  rw[OR]at h;rcases RQ h with h|⟨z,b,h⟩
  .unfold Gw at h;split at h
   .rename_i a;rcases Fb h with h|h
    .exact .inl h
    exact .inr ⟨x,by simp,h.symm,a⟩
   exact .inl h
  exact .inr ⟨z,by simp[b],h⟩
theorem V5 (h:(DP d s).2=true):∃x∈d,x.1=(DP d s).1/\(C7 x s).2=true:=by
 unfold DP at h ⊢;split
 .rename_i h1;have a:(A3 d (E6 d s)).getD 0 ByteArray.empty∈A3 d (E6 d s):=Aq O1;exact(RQ (G9 a)).resolve_left sc
 rename_i h1;rw[As h1]at h;cases h
theorem mQ (d:List AJ):bN (Aa d).1:=by
 by_cases a:Ak d=0
 .rw[KR a];obtain⟨l,-,m,n,-⟩:=V3 a;have hn:=Pn l m;have h:=V2 d;refine⟨λx b=>?_,λt g p c=>?_⟩
  .rw[L9 a]at b;obtain⟨s,hs,rfl⟩:=IS.1 b;obtain⟨y,o,e,-⟩:=V5 (n s hs);rw[h];show 0<=BH (AL d) (DP d s).1/\BH (AL d) (DP d s).1<((AL d).length:Int);rw[<-e];exact TZ hn o
  obtain⟨k,hk,e⟩:=B5 Q4 g;rw[h]at hk ⊢;have f:=A1z a (t:=(k:Int)) (AAE _) O1;unfold Zz at f;rw[gO,e]at f;rw[f]at c;unfold Sl at c;obtain⟨i,hi,rfl⟩:=IS.1 c;obtain⟨h1,j⟩:=AB6.1 hi;have h1:=wH.1 h1;exact((P8 a (t:=(k:Int)) (AAE _) O1 (Aq h1)).2 j).1
 have:(Aa d).1=([],[]):=by
  unfold Aa A4;rw[At a,At a]
 rw[this];exact⟨λx b=>(by cases b),λt g=>(by cases g)⟩
end
structure HAp (h:AF):Prop where
 iff:∀t f,0<=t->t<(h.1.length:Int)->0<=f->f<(h.2.length:Int)->((CE h t f).2=true↔Ae h (Kr h f) t=true)
 mono:∀t t' f,0<=t->t<(h.1.length:Int)->0<=t'->t'<(h.1.length:Int)->0<=f->f<(h.2.length:Int)->Ae h t t'=true->(CE h t f).2=true->Ae h (CE h t f).1 (CE h t' f).1=true
def Ta (h:AF) (m:Nat) (u:List Int):Prop:=u.length=m/\∀t∈u,0<=t/\t<(h.1.length:Int)
theorem Ta.get {m:Nat} {u:List Int} (hu:Ta h m u) {n:Nat} (n1:n<m):0<=u.getD n 0/\u.getD n 0<(h.1.length:Int):=by
 have a:n<u.length:=by rw[hu.1];exact n1
 rw[AS,AT a];exact hu.2 _ (AAu a)
theorem M9.tyl {m:Nat} {s:D3} (hs:M9 h m s):Ta h m s.1:=⟨hs.len,hs.ty⟩
def QP (h:AF) (m:Nat) (u v:List Int):Prop:=∀i,i<m->Ae h (u.getD i 0) (v.getD i 0)=true
def mR (h:AF) (u:List Int) (n:Int) (l:List (Int×Int)):Prop:=∀a∈l,(CE h (u.getD n.toNat 0) a.1).2=true/\Ae h (CE h (u.getD n.toNat 0) a.1).1 (u.getD a.2.toNat 0)=true
def WTy (h:AF) (f:List AD) (u:List Int):Prop:=∀i,i<f.length->mR h u (i:Int) (f.getD i (0,[])).2
theorem QP.refl (hk:GL h) {m:Nat} {u:List Int} (hu:Ta h m u):QP h m u u:=λi hi=>TN hk (hu.get hi).1 (hu.get hi).2
theorem QP.trans (hk:GL h) {m:Nat} {u v w:List Int} (hu:Ta h m u) (a:Ta h m v) (b:Ta h m w) (h1:QP h m u v) (c:QP h m v w):QP h m u w:=λi hi =>
 HA hk (hu.get hi).1 (hu.get hi).2 (a.get hi).1 (a.get hi).2 (b.get hi).1 (b.get hi).2 (h1 i hi) (c i hi)
theorem QP.anti (hi:Iu h) {m:Nat} {u v:List Int} (hu:Ta h m u) (b:Ta h m v) (h1:QP h m u v) (d:QP h m v u):u=v:=by
 refine AAt (by rw[hu.1,b.1]) λi c e=>?_;have a:i<m:=by rw[<-hu.1];exact c
 have:=hi _ _ (hu.get a).1 (hu.get a).2 (b.get a).1 (b.get a).2 (h1 i a) (d i a)
 rwa [AS,AT c,AS,AT e]at this
structure qB (h:AF) (m:Nat) (s s':D3):Prop where
 up:QP h m s.1 s'.1
 pre:s.2 <+: s'.2
 ch:∀k:Nat,k<m->s'.1.getD k 0=s.1.getD k 0\/(k:Int)∈s'.2.drop s.2.length
theorem qB.refl (hk:GL h) {m:Nat} {s:D3} (hs:M9 h m s):qB h m s s:=⟨QP.refl hk hs.tyl,ABb _,λ_ _=>.inl rfl⟩
theorem RR {l l':List Int} (a:l <+: l') {n:Nat} {x:Int} (h:x∈l.drop n):x∈l'.drop n:=by
 obtain⟨r,rfl⟩:=a;rw[ACT];exact AA6 _ h
theorem P9 {l:List Int} {a b:Nat} (c:a<=b) {x:Int} (h:x∈l.drop b):x∈l.drop a:=by
 have:l.drop b=(l.drop a).drop (b-a):=by rw[ABZ];congr 1;omega
 rw[this]at h;exact ABp h
theorem qB.trans (hk:GL h) {m:Nat} {a b c:D3} (ha:M9 h m a) (i:M9 h m b) (j:M9 h m c) (h1:qB h m a b) (d:qB h m b c):qB h m a c:=by
 refine⟨h1.up.trans hk ha.tyl i.tyl j.tyl d.up,h1.pre.trans d.pre,λk g=>?_⟩;rcases d.ch k g with f|f
 .rcases h1.ch k g with e|e
  .exact .inl (f.trans e)
  exact .inr (RR d.pre e)
 exact .inr (P9 h1.pre.length_le f)
theorem RS (hk:GL h) (hi:Iu h) {m:Nat} {s c:D3} (hs:M9 h m s) {t:Int} (n0:0<=n) (n1:n<(m:Int)) (f:0<=t) (g:t<(h.1.length:Int)) (e:C8 h s n t=some c) :
  qB h m s c/\Ae h t (c.1.getD n.toNat 0)=true:=by
 have r:=(Ee hk hi hs n0 n1 f g e).1;obtain⟨i,j⟩:=hs.get n0 n1;unfold C8 at e;split at e
 .rename_i o;obtain⟨u,w,q,d⟩:=(Lu hk i j f g).1 o;generalize (Co h (s.1.getD n.toNat 0) t).1=v at *;injection e with e
  split at e
  .rename_i p;subst e;exact⟨qB.refl hk hs,by rw[<-p];exact d⟩
  subst e;have l:n.toNat<s.1.length:=by rw[hs.len];omega
  have a:∀k:Nat,(s.1.set n.toNat v).getD k 0=if k=n.toNat then v else s.1.getD k 0:=λk=>Mu _ _ _ l k
  refine⟨⟨λk b=>?_,ACz _ _,λk b=>?_⟩,?_⟩
  .simp only;rw[a];split
   .rename_i e;rw[e];exact q
   exact TN hk (hs.tyl.get b).1 (hs.tyl.get b).2
  .simp only;rw[a];split
   .rename_i e;right;rw[ACT,ABh,AAL];exact AAP _ (by simp;omega)
   exact .inl rfl
  simp only;rw[a,At rfl];exact d
 cases e
theorem YW (hk:GL h) (hi:Iu h) {m:Nat} {s:D3} (hs:M9 h m s) {t:Int} (n0:0<=n) (n1:n<(m:Int)) (p:0<=t) (q:t<(h.1.length:Int)) {u:List Int} (hu:Ta h m u) (a:QP h m s.1 u) (j:Ae h t (u.getD n.toNat 0)=true) :
  ∃c,C8 h s n t=some c/\QP h m c.1 u:=by
 obtain⟨d,f⟩:=hs.get n0 n1;have b:n.toNat<m:=by omega
 obtain⟨r,v⟩:=hu.get b;obtain⟨l,o⟩:=(Lu hk d f p q).2 _ r v (a _ b) j;unfold C8;rw[At l];refine⟨_,rfl,?_⟩;split
 .exact a
 intro k g;have i:n.toNat<s.1.length:=by rw[hs.len];omega
 simp only;rw[Mu _ _ _ i k];split
 .rename_i e;rw[e];exact o
 exact a k g
section
variable {h:AF} (hk:GL h) (hi:Iu h) (hf:bN h) (hap:HAp h) {m:Nat} {n:Int} (n0:0<=n) (n1:n<(m:Int))
include hk hi hf n0 n1
theorem aI:∀ {l:List (Int×Int)} {s c:D3},(∀a∈l,JU h m a)->M9 h m s->L1 h n l s=some c->qB h m s c/\∀a∈l,Ae h (Kr h a.1) (c.1.getD n.toNat 0)=true
 | [],s,c,_,hs,e=>by
  injection e with e
  subst e;exact⟨qB.refl hk hs,λa ha=>by cases ha⟩
 | a :: l,s,c,o,hs,e=>by
  unfold L1 at e;cases g:C8 h s n (Kr h a.1) with
  | none=>rw[g]at e;cases e
  | some s1 =>
   rw[g]at e;obtain⟨⟨r,t⟩,-⟩:=o a sc;obtain⟨j,k⟩:=L2 hf r t;obtain⟨d,-,-⟩:=Ee hk hi hs n0 n1 j k g;obtain⟨v,w⟩:=RS hk hi hs n0 n1 j k g;have p:∀b∈l,JU h m b:=λb f=>o b (IF _ f);have e:L1 h n l s1=some c:=e;obtain⟨q,u⟩:=aI p d e;have i:=(P0 hk hi hf n0 n1 p d e).1;refine⟨v.trans hk hs d i q,λb f=>?_⟩;rcases GO.1 f with rfl|f
   .exact HA hk j k (d.get n0 n1).1 (d.get n0 n1).2 (i.get n0 n1).1 (i.get n0 n1).2 w (q.up _ O1)
   exact u b f
theorem qC:∀ {l:List (Int×Int)} {s c:D3},(∀a∈l,JU h m a)->M9 h m s->M8 h n l s=some c->qB h m s c/\(n∈c.2.drop s.2.length\/(c.1.getD n.toNat 0=s.1.getD n.toNat 0/\∀a∈l,(CE h (s.1.getD n.toNat 0) a.1).2=true/\Ae h (CE h (s.1.getD n.toNat 0) a.1).1 (c.1.getD a.2.toNat 0)=true))
 | [],s,c,_,hs,e=>by
  injection e with e
  subst e;exact⟨qB.refl hk hs,.inr ⟨rfl,λa ha=>by cases ha⟩⟩
 | a :: l,s,c,t,hs,e=>by
  unfold M8 at e;split at e
  .rename_i v;obtain⟨w,x⟩:=hs.get n0 n1;obtain⟨o,p⟩:=Hu hf w x v;cases j:C8 h s a.2 (CE h (s.1.getD n.toNat 0) a.1).1 with
   | none=>rw[j]at e;cases e
   | some s1 =>
    rw[j]at e;obtain⟨-,d,b1⟩:=t a sc;obtain⟨g,-,-⟩:=Ee hk hi hs d b1 o p j;obtain⟨r,A⟩:=RS hk hi hs d b1 o p j;have u:∀b∈l,JU h m b:=λb f=>t b (IF _ f);have e:M8 h n l s1=some c:=e;obtain⟨q,i⟩:=qC u g e;have k:=(TP hk hi hf n0 n1 u g e).1;refine⟨r.trans hk hs g k q,?_⟩;have y:((n.toNat:Nat):Int)=n:=ABf n0;rcases r.ch n.toNat O1 with c1|c1
    .rcases i with i|⟨i,z⟩
     .exact .inl (P9 r.pre.length_le i)
     refine .inr ⟨i.trans c1,λb f=>?_⟩;rcases GO.1 f with rfl|f
     .exact⟨v,HA hk o p (g.get d b1).1 (g.get d b1).2 (k.get d b1).1 (k.get d b1).2 A (q.up _ O1)⟩
     have:=z b f
     rwa [c1]at this
    rw[y]at c1;exact .inl (RR q.pre c1)
  cases e
include hap
theorem qD {u:List Int} (hu:Ta h m u):∀ {l:List (Int×Int)} {s:D3},(∀a∈l,JU h m a)->M9 h m s->QP h m s.1 u->(∀a∈l,(CE h (u.getD n.toNat 0) a.1).2=true)->∃c,L1 h n l s=some c/\QP h m c.1 u
 | [],s,_,_,e,_=>⟨s,rfl,e⟩
 | a :: l,s,j,hs,e,k=>by
  obtain⟨⟨f,g⟩,-⟩:=j a sc;obtain⟨o,p⟩:=L2 hf f g;obtain⟨v,w⟩:=hu.get (show n.toNat<m by omega);obtain⟨s1,i,h1⟩:=YW hk hi hs n0 n1 o p hu e ((hap.iff _ _ v w f g).1 (k a sc));obtain⟨r,-,-⟩:=Ee hk hi hs n0 n1 o p i;obtain⟨c,q,t⟩:=qD hu (λb d=>j b (IF _ d)) r h1 λb d=>k b (IF _ d);exact⟨c,by unfold L1;rw[i];exact q,t⟩
theorem qE {u:List Int} (hu:Ta h m u):∀ {l:List (Int×Int)} {s:D3},(∀a∈l,JU h m a)->M9 h m s->QP h m s.1 u->(∀a∈l,Ae h (Kr h a.1) (s.1.getD n.toNat 0)=true)->mR h u n l->∃j,M8 h n l s=some j/\QP h m j.1 u
 | [],s,_,_,f,_,_=>⟨s,rfl,f⟩
 | a :: l,s,p,hs,f,y,z=>by
  obtain⟨⟨v,w⟩,k,b1⟩:=p a sc;obtain⟨d,e⟩:=hs.get n0 n1;have q:n.toNat<m:=by omega
  have x:a.2.toNat<m:=by omega
  obtain⟨A,B⟩:=hu.get q;have r:=(hap.iff _ _ d e v w).2 (y a sc);obtain⟨g,i⟩:=Hu hf d e r;obtain⟨I,J⟩:=z a sc;obtain⟨v0,v1⟩:=Hu hf A B I;have E:=hap.mono _ _ a.1 d e A B v w (f _ q) r;obtain⟨s1,o,h1⟩:=YW hk hi hs k b1 g i hu f (HA hk g i v0 v1 (hu.get x).1 (hu.get x).2 E J);obtain⟨t,-,-⟩:=Ee hk hi hs k b1 g i o;obtain⟨H,-⟩:=RS hk hi hs k b1 g i o;obtain⟨j,C,D⟩:=qE hu (λb c=>p b (IF _ c)) t h1 (λb c=>by
   obtain⟨⟨c0,c1⟩,-⟩:=p b (IF _ c);obtain⟨F,G⟩:=L2 hf c0 c1;exact HA hk F G d e (t.get n0 n1).1 (t.get n0 n1).2 (y b (IF _ c)) (H.up _ q)) λb c=>z b (IF _ c)
  exact⟨j,by unfold M8;rw[At r,o];exact C,D⟩
end
section
variable {h:AF} (hk:GL h) (hi:Iu h) (hf:bN h) (hap:HAp h) {f:List AD} (ha:OU h f)
include hk hi hf hap ha
theorem A1C (n0:0<=n) (n1:n<(f.length:Int)) {s c:D3} (hs:M9 h f.length s) (e:Ks h f n s=some c):qB h f.length s c/\(n∈c.2.drop s.2.length\/mR h c.1 n (f.getD n.toNat (0,[])).2):=by
 have _:=hap;have g:=L3 ha n0 n1;unfold Ks at e;cases d:L1 h n (f.getD n.toNat (0,[])).2 s with
 | none=>rw[d]at e;cases e
 | some s1 =>
  rw[d]at e;have i:=(P0 hk hi hf n0 n1 g hs d).1;obtain⟨j,-⟩:=aI hk hi hf n0 n1 g hs d;have e:M8 h n (f.getD n.toNat (0,[])).2 s1=some c:=e;have k:=(TP hk hi hf n0 n1 g i e).1;obtain⟨l,b⟩:=qC hk hi hf n0 n1 g i e;refine⟨j.trans hk hs i k l,?_⟩;rcases b with b|⟨b,m⟩
  .exact .inl (P9 j.pre.length_le b)
  refine .inr λa ha=>?_;rw[b];exact m a ha
theorem A1D (n0:0<=n) (n1:n<(f.length:Int)) {s:D3} (hs:M9 h f.length s) {u:List Int} (hu:Ta h f.length u) (d:mR h u n (f.getD n.toNat (0,[])).2) (j:QP h f.length s.1 u):∃e,Ks h f n s=some e/\QP h f.length e.1 u:=by
 have b:=L3 ha n0 n1;obtain⟨s1,c,h1⟩:=qD hk hi hf hap n0 n1 hu b hs j λa ha=>(d a ha).1;have k:=(P0 hk hi hf n0 n1 b hs c).1;obtain⟨-,l⟩:=aI hk hi hf n0 n1 b hs c;obtain⟨s2,g,i⟩:=qE hk hi hf hap n0 n1 hu b k h1 l d;exact⟨s2,by unfold Ks;rw[c];exact g,i⟩
def A9n (h:AF) (f:List AD) (i:Nat) (s:D3):Prop:=∀n:Nat,n<f.length->mR h s.1 (n:Int) (f.getD n (0,[])).2\/(n:Int)∈s.2.drop i
theorem A4B {n:Nat} (hn:n<f.length) {s:D3} (hs:M9 h f.length s) (i:M9 h f.length d) (j:qB h f.length s d) (p:mR h s.1 (n:Int) (f.getD n (0,[])).2):mR h d.1 (n:Int) (f.getD n (0,[])).2\/(n:Int)∈d.2.drop s.2.length:=by
 have _:=hap;have _:=hi;have o:∀a∈(f.getD n (0,[])).2,JU h f.length a:=ha _ (AG f (0,[]) hn);rcases j.ch n hn with c|c
 .left;intro a g;obtain⟨e,k⟩:=p a g;obtain⟨-,b,b1⟩:=o a g;rw[gO]at e k ⊢;rw[c];obtain⟨l,m⟩:=hs.tyl.get hn;obtain⟨q,r⟩:=Hu hf l m e;exact⟨e,HA hk q r (hs.get b b1).1 (hs.get b b1).2 (i.get b b1).1 (i.get b b1).2 k (j.up _ O1)⟩
 exact .inr c
theorem qF:∀ {k i:Nat} {s:D3} {ty:List Int},M9 h f.length s->A9n h f i s->wL h f k i s=some ty->WTy h f ty/\QP h f.length s.1 ty/\Ta h f.length ty
 | 0,_,_,_,_,_,e=>by cases e
 | k+1,i,s,ty,hs,m,e=>by
  unfold wL at e;split at e
  .rename_i d;have q:=AG s.2 (0:Int) d;obtain⟨n0,n1⟩:=hs.wt _ q;generalize hn:s.2.getD i 0=n at *;cases c:Ks h f n s with
   | none=>rw[c]at e;cases e
   | some s1 =>
    rw[c]at e;have g:=(Vi hk hi hf ha n0 n1 hs c).1;obtain⟨j,b⟩:=A1C hk hi hf hap ha n0 n1 hs c;have t:A9n h f (i+1) s1:=by
     intro o l;rcases m o l with r|a
     .rcases A4B hk hi hf hap ha l hs g j r with h1|h1
      .exact .inl h1
      exact .inr (P9 O1 h1)
     have u:s.2.drop i=n :: s.2.drop (i+1):=by
      rw[ON d,<-hn,AS,AT d];rfl
     rw[u]at a;rcases GO.1 a with a|a
     .rcases b with b|b
      .exact .inr (by rw[a];exact P9 O1 b)
      left;rw[a];have:n.toNat=o:=by omega
      rw[this]at b;exact b
     exact .inr (RR j.pre a)
    have e:wL h f k (i+1) s1=some ty:=e;obtain⟨v,w,p⟩:=qF g t e;exact⟨v,j.up.trans hk hs.tyl g.tyl p w,p⟩
  rename_i d;injection e with e
  subst e;refine⟨λn hn=>?_,QP.refl hk hs.tyl,hs.tyl⟩;rcases m n hn with h1|h1
  .exact h1
  rw[If O1]at h1;cases h1
theorem A1E {u:List Int} (hu:Ta h f.length u) (d:WTy h f u):∀ {k i:Nat} {s:D3},M9 h f.length s->i<=s.2.length->YD h s.1+s.2.length+1<=k+i->QP h f.length s.1 u->∃ty,wL h f k i s=some ty/\QP h f.length ty u
 | 0,i,s,hs,j,l,b=>by omega
 | k+1,i,s,hs,j,l,b=>by
  unfold wL;by_cases a:i<s.2.length
  .rw[At a];obtain⟨n0,n1⟩:=hs.wt _ (AG s.2 (0:Int) a);have e:=d (s.2.getD i 0).toNat O1;rw[ABf n0]at e;obtain⟨s1,c,h1⟩:=A1D hk hi hf hap ha n0 n1 hs hu e b;obtain⟨g,m,n⟩:=Vi hk hi hf ha n0 n1 hs c;rw[c];exact A1E hu d g O1 O1 h1
  rw[As a];exact⟨s.1,rfl,b⟩
theorem mS (a:∀x∈f,0<=x.1/\x.1<(h.1.length:Int)) {ty:List Int} (e:Ff h f=some ty):WTy h f ty/\QP h f.length (Bc f) ty/\Ta h f.length ty:=by
 have e:wL h f (NU h f) 0 (Bc f,EA f)=some ty:=e;refine qF hk hi hf hap ha (k:=NU h f) (i:=0) (s:=(Bc f,EA f)) (A13 a) (λn hn=>.inr ?_) e;rw[AAL];exact IS.2 ⟨n,wH.2 hn,rfl⟩
theorem gU (b:∀x∈f,0<=x.1/\x.1<(h.1.length:Int)) {u:List Int} (hu:Ta h f.length u) (c:WTy h f u) (a:QP h f.length (Bc f) u):∃ty,Ff h f=some ty/\QP h f.length ty u :=
 A1E hk hi hf hap ha hu c (k:=NU h f) (i:=0) (s:=(Bc f,EA f)) (A13 b) (DO _) (A14 h f) a
end
inductive Up (d:List AJ) (m:ByteArray):ByteArray->Prop
 | base {x:ByteArray}:AM m x=true->Up d m x
 | step {x s:ByteArray} {y:AJ}:y∈d->AM y.1 x=true->AU y.2.1 s=true->Up d m s->Up d m x
section
variable {d:List AJ}
theorem V6 {m:ByteArray} (h:Up d m x) (e:AM x y=true):Up d m y:=by
 cases h with
 | base h=>exact .base (BI h e)
 | step h1 a b c=>exact .step h1 (BI a e) b c
theorem A7C {c s:ByteArray} (h:Up d c x) {y:AJ} (f:y∈d) (e:AM y.1 c=true) (hs:AU y.2.1 s=true):Up d s x:=by
 induction h with
 | base h=>exact .step f (BI e h) hs (.base (Ct s))
 | step h1 a b i g=>exact .step h1 a b g
theorem QA {a b c:ByteArray} (h1:Up d a b) (i:Up d b c):Up d a c:=by
 induction i with
 | base h=>exact V6 h1 h
 | step e f g k j=>exact .step e f g j
theorem A4C {m a x:ByteArray} (e:AM a m=true) (h:Up d m x):Up d a x:=QA (.base e) h
theorem A4D (hn:Cg d=0) (f:d.length<=(Bh d).length) {m:ByteArray} (h:Up d m x):AM m x=true\/Fs d m<Fs d x:=by
 induction h with
 | base h=>exact .inl h
 | step h1 c e g a =>
  right;have b:=KE hn f h1 e;rw[Hl d c]at b;rcases a with a|a
  .rw[Hl d a];exact b
  omega
theorem A1F {o:List ByteArray} {t:ByteArray} (h:t∈JF o s):t∈o\/t=s:=by
 unfold JF at h;split at h
 .exact .inl h
 rcases NO.1 h with h|h
 .exact .inl h
 exact .inr (by simpa using h)
theorem YX:∀ {l o:List ByteArray} {t:ByteArray},t∈l.foldl JF o->t∈o\/t∈l
 | [],_,_,h=>.inl h
 | s :: l,o,t,h=>by
  rw[OR]at h;rcases YX h with h|h
  .rcases A1F h with h|h
   .exact .inl h
   exact .inr (by simp[h])
  exact .inr (by simp[h])
theorem vK (h:0<=Ao d s):d.getD (Ao d s).toNat d0∈d/\AM (d.getD (Ao d s).toNat d0).1 s=true:=by
 rcases DG d s with g|⟨b,c,a⟩
 .omega
 exact⟨Aq O1,a⟩
theorem YY (hs:PY d) {x:ByteArray}:∀ {n i:Nat} {o:List ByteArray},(∀t∈o,0<=Ao d t/\Up d t x)->∀t∈Hh d n i o,0<=Ao d t/\Up d t x
 | 0,_,_,b=>b
 | n+1,i,o,b=>by
  unfold Hh;split
  .rename_i hi;refine YY hs λt a=>?_;rcases YX a with a|a
   .exact b t a
   obtain⟨c1,c2⟩:=b _ (Aq (d:=ByteArray.empty) hi);obtain⟨c,e⟩:=vK c1;exact⟨hs _ c t a,A7C c2 c e (FG a)⟩
  exact b
theorem YZ {l:List ByteArray} {t:ByteArray} (h:t∈JG l):t∈l:=(U9 (o:=[]) h).resolve_left sc
theorem A1G (hs:PY d) {x t:ByteArray} (b:0<=Ao d x) (h:AU (KA d x) t=true):Up d t x:=by
 obtain⟨u,hu,e⟩:=aT.1 h;unfold KA at hu;rw[As O1]at hu;have:=(YY hs (x:=x) (n:=d.length) (i:=0) (o:=[x]) (λt a=>by
  have:t=x:=by simpa using a
  subst this;exact⟨b,.base (Ct _)⟩) u (YZ hu)).2
 exact A4C (Bp e) this
theorem Ya {m:ByteArray}:∀ {n i:Nat} {o:List ByteArray},(∀t∈o,Up d m t)->∀t∈Ci d n i o,Up d m t
 | 0,_,_,a=>a
 | n+1,i,o,a=>by
  unfold Ci;split
  .rename_i hi;have f:=a _ (Aq (d:=ByteArray.empty) hi);generalize o.getD i ByteArray.empty=c at *;have key:∀(l:List AJ) (o:List ByteArray),(∀y∈l,y∈d)->(∀t∈o,Up d m t)->∀t∈l.foldl (Eu c) o,Up d m t:=by
    intro l;induction l with
    | nil=>exact λo _ a=>a
    | cons y l j =>
     intro o e a;rw[OR];refine j _ (λz g=>e z (by simp[g])) λt b=>?_;unfold Eu at b;split at b
     .rename_i h;rw[An]at h;rcases NO.1 b with b|b
      .exact a t b
      have:t=y.1:=by simpa using b
      subst this;exact .step (e y sc) (Ct _) h.1 f
     exact a t b
   exact Ya (key d o (λ_ h=>h) a)
  exact a
theorem V7 {m:ByteArray} (h:AU (Cj d m) x=true):Up d m x:=by
 obtain⟨u,hu,e⟩:=aT.1 h;unfold Cj at hu;split at hu
 .cases hu
 exact V6 (Ya (m:=m) (n:=d.length) (i:=0) (o:=[m]) (λt a=>by
  have:t=m:=by simpa using a
  subst this;exact .base (Ct _)) u (YZ hu)) e
theorem V8 {m:ByteArray} (u:0<=Ao d m) (h:Up d m x):AU (Cj d m) x=true:=by
 have q:Zh d [m]:=⟨λs hs=>by
  have:s=m:=by simpa using hs
  rw[this];exact u,by simp⟩
 obtain⟨k,v,D⟩:=Vy (d:=d) (n:=d.length) (i:=0) q O1 (λj t=>by omega) O1;have A:m∈Ci d d.length 0 [m]:=KF sc;have r:Cj d m=JG (Ci d d.length 0 [m]):=by unfold Cj;rw[As O1]
 rw[r];generalize Ci d d.length 0 [m]=o at *;have key:AU o x=true:=by
  induction h with
  | base h=>exact aT.2 ⟨m,A,h⟩
  | step h1 l p C B =>
   obtain⟨z,c,a⟩:=aT.1 B;obtain⟨j,t,rfl⟩:=B5 ByteArray.empty c;obtain⟨s,y,f⟩:=aT.1 p;obtain⟨w,b,g⟩:=aT.1 (v j O1 _ h1 (aT.2 ⟨s,y,BI f (Bp a)⟩));exact aT.2 ⟨w,b,BI g l⟩
 obtain⟨z,c,e⟩:=aT.1 key;obtain⟨w,b,a⟩:=aT.1 (Pj (o:=[]) c);exact aT.2 ⟨w,b,BI a e⟩
theorem Yb:∀ {l o:List ByteArray} {x:ByteArray},AU o x=true->AU (l.foldl (Ew d) o) x=true
 | [],_,_,h=>h
 | s :: l,o,x,h=>by
  rw[OR];refine Yb ?_;unfold Ew;split
  .exact HL (λz a=>JO a) h
  exact h
theorem QB:∀ {l o:List ByteArray} {x:ByteArray},x∈l->0<=Ao d x->AU (l.foldl (Ew d) o) x=true
 | s :: l,o,x,h,a=>by
  rw[OR];rcases GO.1 h with rfl|h
  .refine Yb ?_;unfold Ew;rw[At a];exact Lq
  exact QB h a
theorem NX:∀ {l o:List ByteArray},(∀x∈o,0<=Ao d x)->∀x∈l.foldl (Ew d) o,0<=Ao d x
 | [],_,b=>b
 | s :: l,o,b=>by
  rw[OR];refine NX λx a=>?_;unfold Ew at a;split at a
  .rcases Fb a with a|rfl
   .exact b x a
   assumption
  exact b x a
theorem A7D {l:List ByteArray} (h:pK l) {i:Nat} (hi:i<l.length) (a:j<l.length) (d:i≠j):AM (l.getD i ByteArray.empty) (l.getD j ByteArray.empty)=false:=by
 have c:∀k (h:k<l.length),l.getD k ByteArray.empty=l[k]:=λk h=>by rw[AS,AT h];rfl
 rw[c i hi,c j a];rcases Nat.lt_or_gt_of_ne d with b|b
 .exact(oS.1 h) i j hi a b
 exact IQ ((oS.1 h) j i a hi b)
theorem QC:∀ {l o:List ByteArray},pK o->(∀s∈l,∀x∈o,AM x s=false)->pK l->pK (l.foldl (Ew d) o)
 | [],_,h,_,_=>h
 | s :: l,o,h,b,f=>by
  rw[OR];have e:=AAw.1 f;refine QC ?_ (λy c x a=>?_) e.2
  .unfold Ew;split
   .exact VS h (b s sc)
   exact h
  unfold Ew at a;split at a
  .rcases Fb a with a|rfl
   .exact b y (by simp[c]) x a
   exact e.1 y c
  exact b y (by simp[c]) x a
theorem vL (hn:Cg d=0) (s:ByteArray):pK (E6 d s):=by
 have key:∀(r:List AJ) (o:List ByteArray),pK o->(∀y∈r,∀x∈o,AM x y.1=false)->r.Pairwise (λa b=>AM a.1 b.1=false)->pK (r.foldl (Gw s) o):=by
  intro r;induction r with
  | nil=>exact λo h _ _=>h
  | cons y r t =>
   intro o h f q;rw[OR];have l:=AAw.1 q;refine t _ ?_ (λz g x c=>?_) l.2
   .unfold Gw;split
    .exact VS h (f y sc)
    exact h
   unfold Gw at c;split at c
   .rcases Fb c with c|rfl
    .exact f z (by simp[g]) x c
    exact l.1 z g
   exact f z (by simp[g]) x c
 refine key d [] .nil (λy _ x c=>by cases c) (oS.2 λi j hi k u=>?_);cases e:AM d[i].1 d[j].1 with
 | false=>rfl
 | true =>
  have h1:=Lp hn hi;have p:=Lp hn k;have m:d.getD i d0=d[i]:=by rw[AS,AT hi];rfl
  have n:d.getD j d0=d[j]:=by rw[AS,AT k];rfl
  rw[m,IL d e]at h1;rw[n]at p;omega
theorem RT (r:A6 d=0) {l:List ByteArray} (t:pK l) {x:ByteArray} (g:x∈l) (w:0<=Ao d x):∃m∈A3 d l,Up d m x:=by
 obtain⟨hs,C,-,hn,A⟩:=Ay r;have z:∀y∈Bb d l,0<=Ao d y:=NX λy c=>by cases c
 obtain⟨q,n,ex⟩:=aT.1 (QB (d:=d) (o:=[]) g w);have n:q∈Bb d l:=n;have v:pK (Bb d l):=QC .nil (λs _ x g=>by cases g) t;have u:A3 d l=Pb d (Bb d l) (Bb d l).length:=rfl;rw[u];generalize Bb d l=all at *;have key:∀(k:Nat) (y:ByteArray),Fs d y<k->y∈all->Up d y x->∃m∈Pb d all all.length,Up d m x:=by
  intro k;induction k with
  | zero=>exact λy h=>by omega
  | succ k B =>
   intro y D c hu;obtain⟨i,hi,rfl⟩:=B5 ByteArray.empty c;by_cases a:Pa d all i all.length=true
   .exact⟨_,IS.2 ⟨i,AB6.2 ⟨wH.2 hi,a⟩,rfl⟩,hu⟩
   have a:Pa d all i all.length=false:=by simpa using a
   unfold Pa at a;obtain⟨j,b,hf⟩:=ABW.1 a;have b:=wH.1 b;unfold oZ at hf;simp only[oN,AAb,TO,not_or,Bool.not_eq_false]at hf;obtain⟨f,ha⟩:=hf;have f:j≠i:=λe=>f (by rw[e]);have p:=A1G hs (z _ c) ha;rcases A4D hn A p with e|e
   .exact absurd e (by rw[A7D v b hi f];simp)
   exact B _ O1 (Aq b) (QA p hu)
 exact key _ q (AB7 _) n (.base ex)
theorem KS (hs:s∈AN d):0<=Ao d s:=by
 obtain⟨x,a,rfl⟩:=DM hs;exact DL a
theorem QD {x:AJ} (a:x∈d) (hn:Cg d=0):x.1∈AN d:=by
 obtain⟨s,hs,e⟩:=aT.1 (OG a);obtain⟨y,b,rfl⟩:=DM hs;rw[<-Pi hn b a e];exact hs
theorem A4E (b:A6 d=0) {m:ByteArray} (c:0<=Ao d m) (h:Up d m x) {i:Nat} (hi:BE (ET d (AN d) x) i=true):BE (ET d (AN d) m) i=true:=by
 obtain⟨-,j,-,hn,k⟩:=Ay b;have e:=Dk d d.length;rw[tO]at e;have a:(AN d).length<=4096:=by omega
 obtain⟨f,g⟩:=(B4 (d:=d) a x i).1.1 hi;exact(B4 (d:=d) a m i).1.2 ⟨f,V8 c (QA h (V7 g))⟩
end
section
variable {d:List AJ}
def Dc (d:List AJ) (c:List Int):Prop:=Hk c/\∀i j,BE c i=true->j<(AN d).length->Up d ((AN d).getD i ByteArray.empty) ((AN d).getD j ByteArray.empty)->BE c j=true
theorem A7E:Dc d []:=⟨λx a=>(by cases a),λi j hi=>by unfold BE at hi;simp at hi⟩
theorem A7F {a b:List Int} (ha:Dc d a) (c:Dc d b):Dc d (ED a b) :=
 ⟨Ps ha.1 c.1,λi j hi e hu=>by
  rw[Pr ha.1 c.1,An]at hi ⊢;exact⟨ha.2 i j hi.1 e hu,c.2 i j hi.2 e hu⟩⟩
theorem A4F {l:List (List Int)} (h:∀c∈l,Dc d c) (k:Nat):Dc d (l.getD k []):=by grind [Aq,Q6,A7E]
theorem A4G {l:List (List Int)} (h:∀c∈l,Dc d c) (i k:Nat):∀c∈GA l i k,Dc d c:=by grind [GA,ED,A7F,A4F]
theorem qG {i:Nat}:∀ {n k:Nat} {l:List (List Int)},(∀c∈l,Dc d c)->∀c∈GB i n k l,Dc d c
 | 0,_,_,h=>h
 | n+1,k,l,h=>by
  unfold GB;split
  .exact qG (A4G h i k)
  exact h
theorem qH:∀ {n i:Nat} {l:List (List Int)},(∀c∈l,Dc d c)->∀c∈Hi n i l,Dc d c
 | 0,_,_,h=>h
 | n+1,i,l,h=>by
  unfold Hi;split
  .exact qH (qG h)
  exact h
theorem SN (a:A6 d=0):(AN d).length<=4096:=by
 obtain⟨-,c,-⟩:=Ay a;have b:=Dk d d.length;rw[tO]at b;omega
theorem A4H (a:A6 d=0) (hs:0<=Ao d s):Dc d (ET d (AN d) s):=by
 have b:=SN a;refine⟨(B4 (d:=d) b s 0).2.1,λi j hi c hu=>?_⟩;grind [B4,V8,QA,V7]
theorem A7G (a:A6 d=0):∀c∈Aw (AR d),Dc d c:=qH λc b=>by
 obtain⟨s,hs,rfl⟩:=IS.1 b;exact A4H a (KS hs)
theorem qI {all:List ByteArray} {codes:List (List Int)} {b:List Int} {u:ByteArray}:∀ {m i:Nat} {l:List ByteArray},o8 d all codes b m i l=.inl u->∃j,i<=j/\j<i+m/\DF (codes.getD j []) b=true/\u=all.getD j ByteArray.empty
 | 0,_,_,h=>by cases h
 | m+1,i,l,h=>by
  unfold o8 at h;split at h
  .grind
  obtain⟨j,e,f,a,c⟩:=qI h;exact⟨j,by omega,by omega,a,c⟩
theorem qJ {all:List ByteArray} {codes:List (List Int)} {b:List Int} {r:List ByteArray}:∀ {m i:Nat} {l:List ByteArray},o8 d all codes b m i l=.inr r->(∀j,i<=j->j<i+m->DF (codes.getD j []) b=false)/\r=l++((List.range' i m).filter λj:Nat=>Sh b (j:Int)).map λj=>all.getD j ByteArray.empty
 | 0,i,l,h=>by grind [o8]
 | m+1,i,l,h=>by
  unfold o8 at h;split at h
  .cases h
  rename_i f;obtain⟨c,a⟩:=qJ h;refine⟨λj h1 e=>?_,?_⟩
  .grind
  rw[a,ACR,AAH];grind
theorem qK {a b:ByteArray} {x:UInt8}:x∈(a++b).toList↔x∈a.toList\/x∈b.toList:=by
 rw[ByteArray.toList_eq,ByteArray.toList_eq,ByteArray.toList_eq];simp
theorem vM {l:List ByteArray}:∀ {n:Nat},2<=n->(38:UInt8)∈(Pk l n).toList
 | n+1,hn=>by
  rw[OH];unfold Xu;rw[At O1];rw[qK,qK]
  simp_all
theorem mT (hn:Cg d=0) (hs:s∈AN d):(38:UInt8)∉s.toList:=by
 obtain⟨x,g,rfl⟩:=DM hs;obtain⟨j,c,e⟩:=B5 d0 g;have h1:=(IM (d:=d) (r:=d) (k:=0) hn j c).2;rw[e]at h1;intro a;unfold BM at h1;rw[An,OF]at h1;rw[ByteArray.toList_eq]at a;obtain⟨k,hk,h⟩:=AAy.1 a;have f:k<x.1.data.size:=by simpa using hk
 have:=h1.2 k (wH.2 f);unfold NL at this;have b:x.1.data.getD k 0=38:=by simp_all
 rw[b]at this;revert this;decide
theorem vN (h:A6 d=0) {y:AQ} (V:y∈AL d) (hf:IP (Aw (AR d))) (hs:s∈AN d) (e:AM y.1 s=true):y.2=ET d (AN d) s:=by
 obtain⟨ah,ab,-,hn,af⟩:=Ay h;have o:=SN h;have L:Nd (Aw (AR d)):=TK (Q7 h);have ae:(AR d).length=(AN d).length:=by simp[AR]
 have M:AR d <+: Aw (AR d):=Pp 257 0 (AR d);have U:∀ {t:ByteArray},t∈AN d->AM t s=true->t=s:=λ{t} x e=>by grind [DM,Pi]
 have heq:∀j,j<(AN d).length->∀b∈Aw (AR d),DF ((AR d).getD j []) b=true->b=ET d (AN d) ((AN d).getD j ByteArray.empty):=λj R b f p=>by
  have g:(AR d).getD j []∈Aw (AR d):=M.subset (Aq O1);unfold DF at p;rw[An,E8 (hf.wds _ g) (hf.wds b f),E8 (hf.wds b f) (hf.wds _ g)]at p;rw[<-X1 d R];refine lU (hf.wds b f) (hf.wds _ g) (L.nrm b f) (L.nrm _ g) λi=>?_;rw[ABL];exact⟨p.2 i,p.1 i⟩
 obtain⟨b,f,rfl⟩:=DN.1 V;show b=_;have e:AM (Ga d (AN d) (AR d) b) s=true:=e;unfold Ga at e;cases w:o8 d (AN d) (AR d) b (AN d).length 0 [] with
 | inl u =>
  rw[w]at e;obtain⟨j,-,C,X,rfl⟩:=qI w;rw[AAX]at C;rw[<-U (Aq C) e];exact heq j C b f X
 | inr l =>
  exfalso;rw[w]at e;have e:AM (eL (A3 d l)) s=true:=e;obtain⟨O,D⟩:=qJ w;rw[iN]at D;have N:=hf.wds b f;have v:∀i,i<(AN d).length->BE b i=true->(AN d).getD i ByteArray.empty∈l:=λi hi ad=>by grind [TY]
  have K:∀t∈l,∃i,i<(AN d).length/\t=(AN d).getD i ByteArray.empty/\BE b i=true:=λt x=>by grind [TY]
  have T:(List.range' 0 (AN d).length).map (λj=>(AN d).getD j ByteArray.empty)=AN d:=by
   apply AAt
   .simp
   intro i ai W;simp[AS,W]
  have E:pK l:=by
   rw[D];have:=VT hn;rw[<-T]at this;exact this.sublist (List.filter_sublist.map _)
  obtain⟨z,r⟩:=hf.some b f;have B:∀i,BE b i=true->i<(AN d).length:=by
   have:=aG (q:=(AN d).length) (n:=257) (i:=0) (l:=AR d) (λc Q=>by
    obtain⟨t,x,rfl⟩:=IS.1 Q;exact⟨(B4 (d:=d) o t 0).2.1,λi hi=>((B4 (d:=d) o t i).1.1 hi).1⟩) b f
   exact this.2
  have F:∀t∈l,0<=Ao d t:=λt x=>by
   obtain⟨i,hi,rfl,-⟩:=K t x;exact KS (Aq hi)
  obtain⟨m,g,-⟩:=RT h E (v z (B z r) r) (F _ (v z (B z r) r));have ag:0<(A3 d l).length:=AC9 g;have S:eL (A3 d l)=Pk (A3 d l) (A3 d l).length:=rfl;rw[S]at e;by_cases h1:(A3 d l).length=1
  .obtain⟨k,H,rfl,P⟩:=K m (G9 g);have G:DF ((AR d).getD k []) b=true:=by
    have J:(AR d).getD k []∈Aw (AR d):=M.subset (Aq O1);unfold DF;rw[An,E8 (hf.wds _ J) N,E8 N (hf.wds _ J),X1 d H];refine⟨λi hi=>?_,λi hi=>?_⟩
    .obtain⟨Z,aa⟩:=(B4 (d:=d) o _ i).1.1 hi;exact(A7G h b f).2 k i P Z (V7 aa)
    have A:=B i hi;obtain⟨Y,I,hu⟩:=RT h E (v i A hi) (F _ (v i A hi));have:Y=(AN d).getD k ByteArray.empty:=by
     obtain⟨a,ha⟩:=AAV.1 h1;rw[ha]at g I;rw[oR.1 I,oR.1 g]
    rw[this]at hu;exact(B4 (d:=d) o _ i).1.2 ⟨A,V8 (KS (Aq H)) hu⟩
   rw[O k (DO _) O1]at G;cases G
  grind [vM,A3,F9,mT]
theorem Yc (s:ByteArray):∀(l:List AQ) (k:Nat),0<=KC s k l->∃j,j<l.length/\KC s k l=((k+j:Nat):Int)/\AM (l.getD j c0).1 s=true
 | [],k,h=>by simp only[KC]at h;omega
 | x :: l,k,h=>by
  simp only[KC]at h ⊢;split
  .grind
  rename_i e;rw[As e]at h;obtain⟨j,c,a,b⟩:=Yc s l (k+1) h;exact⟨j+1,by simp only[Is];omega,by rw[a];congr 1;omega,by simpa using b⟩
theorem A1H (a:A6 d=0) (hf:IP (Aw (AR d))) (hs:s∈AN d):((AL d).getD (BH (AL d) s).toNat c0).2=ET d (AN d) s:=by
 have h0:0<=BH (AL d) s:=Gb a (FG hs);grind [Yc,AL,BH,vN,Aq]
theorem Yd {s:ByteArray} (hn:Cg d=0):∀ {r:List AJ} {o:List ByteArray} {x:AJ},(∀y∈r,y∈d)->x∈d->((∃z∈o,AM z x.1=true)\/(x∈r/\(C7 x s).2=true))->∃z∈r.foldl (Gw s) o,AM z x.1=true
 | [],o,x,_,_,h=>h.resolve_right λg=>by cases g.1
 | y :: r,o,x,f,i,h=>by
  rw[OR];refine Yd hn (λz c=>f z (by simp[c])) i ?_;rcases h with ⟨z,c,e⟩|⟨a,b⟩
  .grind [Gw,JO]
  rcases GO.1 a with rfl|a
  .left;unfold Gw;rw[At b];exact aT.1 (Lq (l:=o) (s:=x.1))
  exact .inr ⟨a,b⟩
theorem Ye (f:Int):∀(a b:List (Int×Int)),Dw f (a++b)=if (Dw f a).2=true then Dw f a else Dw f b
 | [],_=>rfl
 | x :: a,b=>by
  have h1:Dw f (x :: a++b)=if x.1=f then (x.2,true) else Dw f (a++b):=rfl
  have c:Dw f (x :: a)=if x.1=f then (x.2,true) else Dw f a:=rfl
  rw[h1,c];split
  .rfl
  exact Ye f a b
theorem qL (l:List AQ) (fs:List ByteArray) (t:Nat) (f:Int):∀n,Dw f (Sl d l fs t n)=if 0<=f/\f<(n:Int)/\(E7 d l (t:Int) (fs.getD f.toNat ByteArray.empty)).2=true then (Gn l (E7 d l (t:Int) (fs.getD f.toNat ByteArray.empty)).1,true) else (0,false)
 | 0=>by
  rw[As O1];rfl
 | n+1=>by
  rw[Xz,Ye,qL l fs t f n];grind [E7,Dw]
theorem V9 (c:Ak d=0) {t f:Int} (e:0<=t) (g:t<((AL d).length:Int)) (a:0<=f) (b:f<((BG d).length:Int)):CE (Bi d) t f=if (E7 d (AL d) t ((BG d).getD f.toNat ByteArray.empty)).2=true then (Gn (AL d) (E7 d (AL d) t ((BG d).getD f.toNat ByteArray.empty)).1,true) else (0,false):=by
 unfold CE;grind [A1z,qL,E7,AL,BG]
theorem A4I (c:Ak d=0) {f:Int} (a:0<=f) (b:f<((BG d).length:Int)):Kr (Bi d) f=BH (AL d) (DP d ((BG d).getD f.toNat ByteArray.empty)).1:=by grind [Kr,L9,BG,Ls]
theorem A9o (b:Ak d=0):HAp (Bi d):=by
 obtain⟨j,-,T,F,-⟩:=V3 b;obtain⟨u,-,-⟩:=CB b;obtain⟨-,U,-⟩:=BW u;have al:=VP j U;obtain⟨ao,ak,-,hn,am⟩:=Ay j;obtain⟨hk,an⟩:=A60 b;have I:=Pn j T;have n:=V2 d;have hF:(Bi d).2.length=(BG d).length:=by rw[L9 b,aS]
 have E:∀s∈AN d,BX (Bi d) (BH (AL d) s)=ET d (AN d) s:=λs hs=>by grind [Mx,Gb,FG,Hn,A1H]
 refine⟨λt f g l k c=>?_,λt w f g l A ai k c X q=>?_⟩
 .rw[n]at l;rw[hF]at c;have hs:=Aq (d:=ByteArray.empty) (show f.toNat<(BG d).length by omega);rw[V9 b g l k c,A4I b k c];generalize (BG d).getD f.toNat ByteArray.empty=s at *;obtain⟨v,-⟩:=P8 b g l hs;obtain⟨aj,aa,S,Y⟩:=V5 (F s hs);have hi:(if (E7 d (AL d) t s).2=true then (Gn (AL d) (E7 d (AL d) t s).1,true) else ((0:Int),false)).2=true↔(E7 d (AL d) t s).2=true:=by
   split<;>simp[*]
  rw[hi,v];constructor
  .rintro⟨x,a,Z,W⟩;have hint:=F s hs;unfold DP at hint ⊢;split at hint
   .rename_i h1;rw[At h1];obtain⟨ap,V⟩:=AAV.1 h1;obtain⟨z,u,C⟩:=Yd (d:=d) (s:=s) hn (r:=d) (o:=[]) (λy ad=>ad) a (.inr ⟨a,Z⟩);have ae:0<=Ao d z:=by rw[IL d C];exact DL a
    obtain⟨m,p,hu⟩:=RT j (vL hn s) u ae;have hu:=V6 hu C;have e:(A3 d (E6 d s)).getD 0 ByteArray.empty=m:=by
     rw[V]at p ⊢;rw[oR.1 p];rfl
    rw[show ((A3 d (E6 d s)).getD 0 ByteArray.empty,true).1=m from e];obtain⟨ar,K,B,-⟩:=(RQ (G9 p)).resolve_left sc;have H:m∈AN d:=by rw[<-B];exact QD K hn
    have ab:=QD a hn;obtain⟨n0,n1⟩:=TZ I a;have L:0<=BH (AL d) m:=Gb j (FG H);have aq:=Hn (AL d) m;refine HA hk L O1 n0 O1 g O1 ((Bu hk L O1 n0 O1).2 λi hi=>?_) W;unfold Tb2 at hi ⊢;rw[E x.1 ab]at hi;rw[E m H];exact A4E j (by rw[<-B];exact DL K) hu hi
   cases hint
  intro h;rw[<-S]at h;exact⟨aj,aa,Y,h⟩
 have M:t<((AL d).length:Int):=by omega
 have N:w<((AL d).length:Int):=by omega
 rw[hF]at c;have hs:=Aq (d:=ByteArray.empty) (show f.toNat<(BG d).length by omega);rw[V9 b g M k c]at q ⊢;rw[V9 b A N k c];generalize (BG d).getD f.toNat ByteArray.empty=s at *;obtain⟨v,af⟩:=P8 b g M hs;obtain⟨ag,ah⟩:=P8 b A N hs;have hi:(E7 d (AL d) t s).2=true:=by
  split at q
  .assumption
  cases q
 have J:∀x∈d,UsD d t s x->UsD d w s x:=λx a hu=>by
  obtain⟨n0,n1⟩:=TZ I a;exact⟨hu.1,HA hk n0 O1 g l A ai hu.2 X⟩
 have G:(E7 d (AL d) w s).2=true:=by
  obtain⟨x,a,hu⟩:=v.1 hi;exact ag.2 ⟨x,a,J x a hu⟩
 rw[At hi,At G];obtain⟨⟨O,P⟩,Q⟩:=af hi;obtain⟨⟨R,b1⟩,b2⟩:=ah G;refine(Bu hk O (by rw[n];exact P) R (by rw[n];exact b1)).2 λi D=>?_;unfold Tb2 at D ⊢;exact(Q i).2 λx a hu=>(b2 i).1 D x a (J x a hu)
theorem mU (d:List AJ):HAp (Aa d).1:=by
 by_cases a:Ak d=0
 .rw[KR a];exact A9o a
 have:(Aa d).1=([],[]):=by
  unfold Aa A4;rw[At a,At a]
 rw[this];exact⟨λt f c b=>by simp at b;omega,λt e f c b=>by simp at b;omega⟩
end
theorem MA (d:List AJ):(Aa d).1.1.length<=256/\(Aa d).1.2.length<=64:=by
 unfold Aa;split
 .exact⟨by simp,by simp⟩
 rename_i a;have a:(A4 d).2=0:=By a;have b:Ak d=0:=by
  unfold A4 at a;split at a
  .rename_i h;exact absurd a h
  rename_i h;exact By h
 obtain⟨f,c,-⟩:=CB b;obtain⟨-,e,-⟩:=BW f;refine⟨?_,?_⟩
 .show (D7 _ _ _).length<=256;rw[JR,Hm];exact e
 show (DB d).1.length<=64;unfold DB;rw[As (by rw[b];simp)];show ((BG d).map (Ls d)).length<=64;rw[aS];exact c
theorem mV (hf:AX f):EU f:=⟨hf.1,λx a=>(hf.2 x a).1⟩
structure H14 (h:AF):Prop where
 ok:GL h
 inj:Iu h
 ft:bN h
 nrm:A7z h
 ap:HAp h
 b1:h.1.length<=256
 b2:h.2.length<=64
theorem WA (d:List AJ):H14 (Aa d).1:=⟨Ge d,SJ d,mQ d,λt a=>(V1 d).nrm _ (IS.2 ⟨t,a,rfl⟩),mU d,(MA d).1,(MA d).2⟩
theorem h14 (d:List AJ):H14 (Ms d):=by
 unfold Ms;split
 .exact WA d
 exact WA Bm
theorem RU {ty:List Int} {x:AD} (b:x∈Df f ty):∃i,i<f.length/\x=(ty.getD i 0,(f.getD i (0,[])).2):=by
 obtain⟨i,hi,rfl⟩:=List.getElem_of_mem b;have a:i<f.length:=by rw[CX]at hi;exact hi
 refine⟨i,a,?_⟩;rw[<-HN f ty a,AS,AT hi];rfl
theorem Jb {α:Type} {f:List α} {i:Nat} (h:i<f.length) (d:α):f.getD i d∈f:=by
 rw[AS,AT h];exact AAu _
def WB (p:List Int) (n:Nat):List AD:=(List.range n).map λ(i:Nat)=>((0:Int),[(p.getD i 0,(i:Int)+1)])
def B9 (p:List Int) (g:List AD):List AD:=WB p p.length++g.map λx=>(x.1,Dp p.length x.2)
theorem Ob (p:List Int) (n:Nat):(WB p n).length=n:=by simp[WB]
def FtP (h:AF) (p:List Int):Prop:=∀e∈p,0<=e/\e<(h.2.length:Int)
theorem VF.srt (hu:HU h) (a:VF h f):lZ f:=λx b=>by
 have:=A1s (a.str x b) (a.ft64 hu x b);exact⟨(f6 _).2 (a.str x b),by omega⟩
theorem VF.small (a:VF h f):EU f:=mV a.good
theorem aJ (a b:List AD):(∃c,mL h a b c/\KQ h a b=(c,true))\/(KQ h a b=([],false)/\∀c,¬mL h a b c):=by
 unfold KQ;by_cases H:∃c,mL h a b c
 .left;rw[dif_pos H];exact⟨_,H.choose_spec,rfl⟩
 right;rw[dif_neg H];exact⟨rfl,λc d=>H ⟨c,d⟩⟩
theorem GH (f:List AD) (ty:List Int) (n:Nat):((Df f ty).getD n (0,[])).2=(f.getD n (0,[])).2:=by
 by_cases h:n<f.length
 .rw[HN f ty h]
 rw[AS,oF (by rw[CX];omega),AS,oF O1]
theorem gV {f g:List AD} (h:∀n:Nat,(f.getD n (0,[])).2=(g.getD n (0,[])).2):∀(k:Nat) (o:List Int) (n:Int),D9 f k o n=D9 g k o n
 | 0,_,_=>rfl
 | k+1,o,n=>by
  have e:A5 f k=A5 g k:=by
   funext o a;unfold A5;rw[gV h k o a.2]
  rw[Cc,Cc,h,e]
theorem mW (hf:AX f) (h0:0<f.length) (a:AP f 0=f):gL f:=by
 have:=(aB hf (r:=0) O1 O1).2
 rwa [a]at this
theorem A1I (b:VF h f) {ty:List Int} (l:Ta h f.length ty):VF h (Df f ty):=by
 have c:=CX f ty;have g:AX (Df f ty):=by
  refine⟨by rw[c];exact b.good.1,λx a=>?_⟩;obtain⟨i,hi,rfl⟩:=RU a;rw[c];exact b.good.2 (f.getD i (0,[])) (Jb hi (0,[]))
 have k:∀x∈Df f ty,∃y∈f,x.2=y.2:=λx a=>by
  obtain⟨i,hi,rfl⟩:=RU a;exact⟨_,Jb hi (0,[]),rfl⟩
 refine⟨g,by rw[c];exact b.pos,λx a=>?_,λx a=>?_,λx a=>?_,Vu g ?_,λi m n=>?_⟩
 .obtain⟨i,hi,rfl⟩:=RU a;exact l.get hi
 .obtain⟨y,d,e⟩:=k x a;rw[e];exact b.str y d
 .obtain⟨y,d,e⟩:=k x a;rw[e];exact b.ft y d
 .have:=mW b.good b.pos b.can;unfold gL at this ⊢;rw[c,gV (GH f ty)];exact this
 obtain⟨j,o,p,x,a,e⟩:=b.ro i m (by rw[<-c];exact n);exact⟨j,o,p,x,by show x∈((Df f ty).getD j.toNat (0,[])).2;rw[GH];exact a,e⟩
theorem Dq (f:List AD) (i:Nat):(Bc f).getD i 0=(f.getD i (0,[])).1:=by
 unfold Bc;rw[AS,AAD,AS];cases f[i]?<;>rfl
theorem WC {ty:List Int} (a:ty.length=f.length):Bc (Df f ty)=ty:=by
 refine AAt (by simp[Bc,CX,a]) λi b c=>?_;have:=Dq (Df f ty) i;rw[HN f ty O1]at this;simpa[AS,b,c] using this
theorem SP {h:AF} {f:List AD} {t:Int}:∀ {l:List (Int×Int)},GG h f t l=0↔∀a∈l,(CE h t a.1).2=true/\Ae h (CE h t a.1).1 (f.getD a.2.toNat (0,[])).1=true
 | []=>⟨λ_ a ha=>(by cases ha),λ_=>rfl⟩
 | a :: l=>by
  unfold GG;rw[List.forall_mem_cons,<-SP (l:=l)];cases h1:(CE h t a.1).2
  .simp
  cases b:Ae h (CE h t a.1).1 (f.getD a.2.toNat (0,[])).1<;>simp
theorem NY {h:AF} {f:List AD}:∀ {l:List AD},Ez h f l=0↔∀x∈l,∀a∈x.2,(CE h x.1 a.1).2=true/\Ae h (CE h x.1 a.1).1 (f.getD a.2.toNat (0,[])).1=true
 | []=>⟨λ_ a ha=>(by cases ha),λ_=>rfl⟩
 | x :: l=>by
  unfold Ez;rw[List.forall_mem_cons,<-NY (l:=l),<-SP];by_cases h1:GG h f x.1 x.2=0
  .simp[h1]
  simp[h1]
theorem qM:Ez h f f=0↔WTy h f (Bc f):=by
 rw[NY];constructor
 .intro h1 i hi a ha;have:=h1 _ (Jb hi (0,[])) a ha
  rwa [Dq,Dq,gO]
 intro h1 x b a ha;obtain⟨i,hi,rfl⟩:=B5 (0,[]) b;have:=h1 i hi a ha
 rwa [Dq,Dq,gO]at this
theorem gW {n:Int}:∀ {l seen:List (Int×Int)},(∀a∈l,0<=a.1/\0<=a.2/\a.2<n)->(l.map (·.1)).Nodup->(∀y∈seen,∀x∈l,y.1≠x.1)->Gg n seen l=0
 | [],_,_,_,_=>rfl
 | x :: l,seen,h,c,hs=>by
  rw[nO,AAB]at c;have h1:=h x sc;have f:(seen.any λy=>y.1==x.1)=false:=by
   rw[ACL];intro y b;have:=hs y b x sc;simpa using this
  unfold Gg;rw[As O1,As (by rw[f];simp)];refine gW (λa ha=>h a (by simp[ha])) c.2 λy b z d=>?_;rcases NO.1 b with b|b
  .exact hs y b z (by simp[d])
  rw[oR.1 b];exact λe=>c.1 (IS.2 ⟨z,d,e.symm⟩)
theorem gX {m:Int} (hs:(l.map (·.1)).Nodup) (h:∀a∈l,0<=a.1/\0<=a.2/\a.2<m):Gh l m=0:=gW h hs λy b=>by cases b
theorem mX {m:Int} (hs:Vq l) (h:∀a∈l,0<=a.1/\0<=a.2/\a.2<m):Gh l m=0:=gX (by rw[List.Nodup,AAG];exact hs.imp λh e=>by omega) h
theorem WD {m:Int}:∀ {l:List AD},(∀x∈l,0<=x.1/\Gh x.2 m=0)->Hs m l=0
 | [],_=>rfl
 | x :: l,h=>by
  have:=h x sc;unfold Hs;rw[As O1,As (by rw[this.2];simp)];exact WD λy a=>h y (by simp[a])
theorem A1J (hu:HU h) (b:VF h f) (e:f.length<=4096):A0 f=(f,0):=by
 have d:CC f=0:=by
  unfold CC;rw[As (by have:=b.pos;omega),As O1];refine WD λx c=>⟨(b.ty x c).1,mX (b.str x c) λa ha=>⟨(b.ft x c a ha).1,((b.good.2 x c).2 a ha)⟩⟩
 unfold A0;rw[At d,Lx b.good (b.srt hu) O1 (by have:=b.pos;omega),b.can]
theorem gY (hu:HU h) (b:VF h f) (e:f.length<=4096):EB h f=0:=by
 have d:=A1J hu b e;have ha:f.all (pW h)=true:=by
  rw[OF];intro x c;unfold pW;rw[An,IN,OF];exact⟨(b.ty x c).2,λa ha=>by unfold ftR;exact AAZ (b.ft x c a ha).2⟩
 unfold EB;rw[d,As sc,ha,As sc,W3];rfl
section
variable {h:AF} (hh:H14 h)
include hh
theorem H14.hu:HU h:=⟨hh.ok,hh.inj,hh.b2⟩
omit hh in
theorem aK {f:List AD} (b:VF h f):OU h f:=λx c a ha=>⟨b.ft x c a ha,(b.good.2 x c).2 a ha⟩
theorem QE (a:VF h f) {ty:List Int} (e:Ff h f=some ty):VF h (Df f ty)/\WTy h f ty/\Ta h f.length ty/\RH h f (Df f ty) id:=by
 obtain⟨h1,g,d⟩:=mS hh.ok hh.inj hh.ft hh.ap (aK a) a.ty e;refine⟨A1I a d,h1,d,rfl,λi b c=>⟨b,by rw[CX];exact c⟩,λi b c=>?_,λi b c x j=>?_⟩
 .have:=g i.toNat O1;rw[Dq]at this;show Ae h _ ((Df f ty).getD i.toNat (0,[])).1=true
  rwa [HN f ty O1]
 show BR ((Df f ty).getD i.toNat (0,[])).2 x.1=x.2;rw[GH];exact A7t (a.srt hh.hu) j
theorem vO (d:VF h f) (c:f.length<=4096) {ty:List Int} (e:Ff h f=some ty):Fg h (Df f ty)=0:=by
 obtain⟨h1,a,b,-⟩:=QE hh d e;unfold Fg;rw[At (gY hh.hu h1 (by rw[CX];exact c)),qM,WC b.1];intro i hi;rw[GH];exact a i (by rw[<-CX f ty];exact hi)
theorem qO (n:VF h f) (p:VF h g) (E:WTy h g (Bc g)) (c:RH h f g m):∃ty,Ff h f=some ty/\RH h (Df f ty) g m:=by
 have H:=p.pos
 let u:List Int:=(List.range f.length).map λi:Nat=>(g.getD (m (i:Int)).toNat (0,[])).1
 have k:∀i:Nat,i<f.length->u.getD i 0=(g.getD (m (i:Int)).toNat (0,[])).1:=λi hi=>by
  simp[u,AS,hi]
 have q:∀i:Nat,i<f.length->(m (i:Int)).toNat<g.length/\0<=m (i:Int):=λi hi=>by
  have:=c.rng (i:Int) O1 O1;omega
 have D:Ta h f.length u:=⟨by simp[u],λt C=>by
  obtain⟨i,hi,rfl⟩:=IS.1 C;exact p.ty _ (Jb (q i (wH.1 hi)).1 (0,[]))⟩
 have F:WTy h f u:=λi hi a ha=>by
  have z:a∈Af f (i:Int):=by show a∈(f.getD (i:Int).toNat (0,[])).2;rwa [gO]
  have h1:=c.arc (i:Int) O1 O1 a z;obtain⟨s,G⟩:=(n.good.2 _ (Jb hi (0,[]))).2 a ha;have y:=c.rng a.2 s G;obtain⟨b,A,v,w⟩:=gG (l:=Af g (m (i:Int))) (e:=a.1) (by rw[h1];exact y.1);have o:=E _ (q i hi).1 b (by exact A);rw[Dq,Dq,v,w,h1,gO]at o;rw[gO,k i hi,k a.2.toNat O1,ABf s];exact o
 obtain⟨ty,e,B⟩:=gU hh.ok hh.inj hh.ft hh.ap (aK n) n.ty D F λi hi=>by
  rw[Dq,k i hi];have:=c.ty (i:Int) O1 O1
  rwa [gO]at this
 refine⟨ty,e,c.zero,λi j d=>c.rng i j (by rw[CX]at d;exact d),λi j d=>?_,λi j d x r=>?_⟩
 .rw[CX]at d;have:=B i.toNat O1;rw[k _ O1,ABf j]at this
  rwa [HN f ty O1]
 rw[CX]at d;exact c.arc i j d x (by rw[Af,GH]at r;exact r)
omit hh in
theorem vQ {f:List AD} (e:Fg h f=0):WTy h f (Bc f):=by
 unfold Fg at e
 split at e
 .exact qM.1 e
 rename_i hn;exact absurd e hn
end
theorem MB {ty:List Int} (e:Ff h f=some ty):Ck h f=(Df f ty,true):=by unfold Ck;rw[e]
theorem MC (e:Ff h f=none):Ck h f=([],false):=by unfold Ck;rw[e]
theorem Ta.set {m:Nat} {u:List Int} (hu:Ta h m u) {t:Int} (b:0<=t) (c:t<(h.1.length:Int)) (i:Nat):Ta h m (u.set i t):=⟨by rw[AAq];exact hu.1,λx a=>by
 rcases AB5 a with a|rfl
 .exact hu.2 x a
 exact⟨b,c⟩⟩
theorem QP.set (hk:GL h) {m:Nat} {u:List Int} (hu:Ta h m u) {t:Int} {i:Nat} (hi:i<m) (hs:Ae h (u.getD i 0) t=true):QP h m u (u.set i t):=λk a=>by
 rw[Mu _ _ _ (by rw[hu.1];exact hi) k];split
 .rename_i e;rw[e];exact hs
 exact TN hk (hu.get a).1 (hu.get a).2
section
variable {h:AF} (hk:GL h) (hn:A7z h) (hi:Iu h) (hf:bN h) (hap:HAp h) {m:Nat}
include hk hn hi hf hap
end
section
variable {h:AF} (hk:GL h) (hn:A7z h) (hi:Iu h) (hf:bN h) (hap:HAp h) {f:List AD} (ha:OU h f)
include hk hn hi hf hap ha
end
section
attribute [local go_sem] Vn
theorem A7H (hh:H14 h) (a:VF h f):A1d h f:=⟨hh.ok,hh.inj,hh.ft,iF hh.b2 dg,a.good,aK a,a.ty⟩
noncomputable def aL (h:AF) (a b:List AD):List AD×Bool:=if (KQ h a b).2=true then Ck h (KQ h a b).1 else ([],false)
end
theorem A1K (hk:GL h) {N:List AD} {P:List (Int×Int)}:∀(k:Nat) (p ty:List Int) (ar:List (List (Int×Int))) (W:List (Int×Int)),JI h N P p ty ar W->nR p*((KP N).length+1)+W.length<=k ->
  (∃E G o,JI h N P E G o [])\/(∀X v,C2 h X->¬vC h N P X v):=by
 intro k;induction k with
 | zero =>
  intro p ty ar W c g;have:W=[]:=AA9 O1;subst this;exact .inl ⟨p,ty,ar,c⟩
 | succ k l =>
  intro p ty ar W c g;cases j:W.getLast? with
  | none =>
   have:W=[]:=List.getLast?_eq_none_iff.1 j;subst this;exact .inl ⟨p,ty,ar,c⟩
  | some w =>
   have r:W=W.dropLast++[w]:=by
    obtain⟨K,e⟩:=List.getLast?_eq_some_iff.1 j;rw[e];simp
   obtain⟨s,t⟩:=w;rw[r]at c g;rw[Do,i5]at g;generalize W.dropLast=V at *;obtain⟨⟨m,s1⟩,n,F⟩:=c.wr (s,t) sc;simp only at m s1 n F;obtain⟨M,fo⟩:=c.fo;have lp:=c.lp;obtain⟨a,ha,H,I⟩:=fo.root m O1;obtain⟨b,d,q,b1⟩:=fo.root n O1;by_cases f:a=b
   .subst f;exact l p ty ar V (A4u c ha d) O1
   cases i:(Co h (ty.getD a.toNat 0) (ty.getD b.toNat 0)).2 with
   | false =>
    right;intro X v u C;have:=(p5 hk c ha d u C).2.1;rw[i]at this;cases this
   | true =>
    have z:=A1k hk c ha d f i;refine l _ _ _ _ z ?_;have B:=A4v (a:=a) q b1 d.root f;have A:=p6 (c.srt a.toNat) (λx D=>(c.arr a.toNat x D).2);have L:=iF (TT (x:=ar.getD a.toNat []) (y:=ar.getD b.toNat [])) A;have J:nR p*((KP N).length+1)=nR (p.set b.toNat a)*((KP N).length+1)+((KP N).length+1):=by rw[<-B,ACd,Nat.one_mul]
    rw[Do];omega
theorem Yf {h:AF} (hk:GL h) {N:List AD}:∀(R P:List (Int×Int)) (p ty:List Int) (ar:List (List (Int×Int))),(∀q∈R,(0<=q.1/\q.1<(N.length:Int))/\(0<=q.2/\q.2<(N.length:Int)))->JI h N P p ty ar [] ->
  (∃l r g,JI h N (P++R) l r g [])\/(∀X v,C2 h X->¬vC h N (P++R) X v)
 | [],P,p,ty,ar,f,e=>.inl ⟨p,ty,ar,by rw[AAv];exact e⟩
 | q :: R,P,p,ty,ar,f,e=>by
  obtain⟨a,b⟩:=q;have c:=f (a,b) sc;have i:P++(a,b) :: R=P++[(a,b)]++R:=by simp
  rw[i];rcases A1K hk _ _ _ _ _ (A1l e c.1 c.2) (OS _) with ⟨m,o,n,h1⟩|k
  .exact Yf hk R (P++[(a,b)]) m o n (λq c=>f q (by simp[c])) h1
  exact .inr λX v j d=>k X v j ⟨d.rng,d.ty,d.arc,λq c=>d.eq q (AA6 _ c)⟩
theorem A4K (hu:HU h) {a b X:List AD} (va:VF h a) (c:VF h b) (l:a.length+b.length<=100000) (j:C2 h X) {n o:Int->Int} (h1:RH h a X n) (f:RH h b X o):∃i,mL h a b i:=by
 have r:=HO a b;have hap:=va.pos;have s:=c.pos;have k:=mM va.good c.good l;rcases Yf hu.ok (N:=Eh a b) [(0,(a.length:Int))] [] _ _ _ (λq d=>by
  have e:q=(0,(a.length:Int)):=by simpa using d
  subst e;simp only;omega) (A4x k (A1q va.ty c.ty) (vG va.str c.str)) with ⟨p,ty,ar,g⟩|m
 .exact⟨_,A4w va c g (A1t g O1 (A1r (va.ft64 hu) (c.ft64 hu)))⟩
 exfalso;refine m X _ j (A1n (gK va.good c.good (TX h1) (TX f)) λq d=>?_);have e:q=(0,(a.length:Int)):=by simpa using d
 subst e;try simp only
 rw[At O1,As O1,Int.sub_self,h1.zero,f.zero]
abbrev Wt (h:AF) (f:List AD):Prop:=VF h f/\WTy h f (Bc f)
def qP (h:AF) (l:List (List AD)) (X:List AD):Prop:=∀x∈l,∃m,RH h x X m
structure TU (h:AF) (l:List (List AD)) (U:List AD):Prop where
 wt:Wt h U
 hom:qP h l U
 least:∀X,Wt h X->qP h l X->∃m,RH h U X m
def MD (h:AF) (l:List (List AD)) (r:List AD×Bool):Prop:=(r.2=true/\TU h l r.1)\/(r=([],false)/\∀X,Wt h X->¬qP h l X)
theorem MD.congr {l l':List (List AD)} {r:List AD×Bool} (H:MD h l r) (d:∀X,Wt h X->(qP h l X↔qP h l' X)):MD h l' r:=by
 rcases H with ⟨h1,a⟩|⟨h1,a⟩
 .exact .inl ⟨h1,a.wt,(d _ a.wt).1 a.hom,λX b c=>a.least X b ((d X b).2 c)⟩
 exact .inr ⟨h1,λX b c=>a X b ((d X b).2 c)⟩
theorem A1L (hk:GL h) {l:List (List AD)} (c:∀x∈l,VF h x) {a X:List AD} (d:VF h a) (e:VF h X) (f:qP h l a) (g:RH h a X m):qP h l X:=λx b=>by
 obtain⟨k,q⟩:=f x b;exact⟨_,Vv hk (c x b).good (c x b).ty d.ty e.ty q g⟩
theorem HC {x X:List AD}:qP h [x] X↔∃m,RH h x X m:=by simp[qP]
theorem WE {x X:List AD} {l:List (List AD)}:qP h (x :: l) X↔(∃m,RH h x X m)/\qP h l X:=by simp[qP]
section
variable {h:AF} (hh:H14 h)
include hh
theorem A7I (c:VF h f) {ty:List Int} (e:Ff h f=some ty):Wt h (Df f ty):=by
 obtain⟨h1,a,b,-⟩:=QE hh c e;refine⟨h1,?_⟩;rw[WC b.1];intro i hi;rw[GH];exact a i (by rw[<-CX f ty];exact hi)
theorem A4L (c:VF h f):MD h [f] (Ck h f):=by
 cases e:Ff h f with
 | some ty =>
  rw[MB e];refine .inl ⟨rfl,A7I hh c e,HC.2 ⟨_,(QE hh c e).2.2.2⟩,λX b d=>?_⟩;obtain⟨m,g⟩:=HC.1 d;obtain⟨i,a,q⟩:=qO hh c b.1 b.2 g;rw[e]at a;cases a;exact⟨m,q⟩
 | none =>
  rw[MC e];refine .inr ⟨rfl,λX b d=>?_⟩;obtain⟨m,g⟩:=HC.1 d;obtain⟨i,a,q⟩:=qO hh c b.1 b.2 g;rw[e]at a;cases a
theorem A4M {a b:List AD} (va:VF h a) (k:VF h b) (q:a.length+b.length<=10000):MD h [a,b] (aL h a b):=by
 unfold aL;rcases aJ (h:=h) a b with ⟨l,c,e⟩|⟨e,p⟩
 .rw[e,At rfl];refine(A4L hh c.vf).congr λX g=>?_;rw[HC,WE,HC];constructor
  .rintro⟨m,o⟩;obtain⟨i,d⟩:=c.left;obtain⟨j,f⟩:=c.right;exact⟨⟨_,Vv hh.ok va.good va.ty c.vf.ty g.1.ty d o⟩,_,Vv hh.ok k.good k.ty c.vf.ty g.1.ty f o⟩
  rintro⟨⟨i,d⟩,j,f⟩;exact c.least X g.1.ty i d j f
 rw[e,As Bool.false_ne_true];refine .inr ⟨rfl,λX g n=>?_⟩;rw[WE,HC]at n;obtain⟨⟨i,d⟩,j,f⟩:=n;obtain⟨l,c⟩:=A4K hh.hu va k O1 g.1.ty d f;exact p l c
omit hh in
theorem A1M {l l':List (List AD)} (c:∀x,x∈l↔x∈l') (X:List AD):qP h l X↔qP h l' X:=⟨λa x b=>a x ((c x).2 b),λa x b=>a x ((c x).1 b)⟩
omit hh in
theorem MD.perm {l l':List (List AD)} {r:List AD×Bool} (H:MD h l r) (a:∀x,x∈l↔x∈l'):MD h l' r:=H.congr λX _=>A1M a X
omit hh in
theorem qQ {a b:List AD}:(aL h a b).1.length<=a.length+b.length:=by
 unfold aL
 split
 .rename_i e
  have:=(gN e).len
  cases c:Ff h (KQ h a b).1 with
  | none=>rw[MC c];simp
  | some ty=>rw[MB c,CX];exact this
 simp
omit hh in
theorem MD.vf {l:List (List AD)} {r:List AD×Bool} (H:MD h l r) (e:r.2=true):TU h l r.1:=by
 rcases H with ⟨-,b⟩|⟨a,-⟩
 .exact b
 rw[a]at e;cases e
end
theorem KT (p:List Int) (g:List AD):(B9 p g).length=p.length+g.length:=by simp[B9,WB]
theorem SQ {g:List AD} {i:Int} (a:0<=i) (b:i<(p.length:Int)):(B9 p g).getD i.toNat (0,[])=(0,[(p.getD i.toNat 0,i+1)]):=by grind [B9,Ob,WB]
theorem QF {g:List AD} {y:Int} (a:0<=y) (b:y<(g.length:Int)):(B9 p g).getD ((p.length:Int)+y).toNat (0,[])=((g.getD y.toNat (0,[])).1,Dp p.length (g.getD y.toNat (0,[])).2):=by
 unfold B9;have e:((p.length:Int)+y).toNat=p.length+y.toNat:=by omega
 rw[e,AS,sA (by rw[Ob];omega),Ob,ABq];rw[<-AS];exact YR (λx:AD=>(x.1,Dp p.length x.2)) (0,[]) (0,[]) O1
theorem KU {g:List AD} {x:AD} (a:x∈B9 p g):(∃i,i<p.length/\x=(0,[(p.getD i 0,(i:Int)+1)]))\/∃y∈g,x=(y.1,Dp p.length y.2):=by
 rcases NO.1 a with h|h
 .obtain⟨i,hi,rfl⟩:=IS.1 h;exact .inl ⟨i,by simpa using hi,rfl⟩
 obtain⟨y,b,rfl⟩:=IS.1 h;exact .inr ⟨y,b,rfl⟩
theorem mY {b:Nat} (h:Vq l):Vq (Dp b l):=by
 unfold Dp Vq;rw[AAG];exact h
theorem SR {g:List AD} (l:p.length<=1000) (c:AX g) (j:0<g.length) (k:g.length<=10000):AX (B9 p g):=by
 have d:=KT p g;refine⟨by omega,λx h=>?_⟩;rcases KU h with ⟨i,hi,rfl⟩|⟨y,e,rfl⟩
 .refine⟨by simp,λa ha=>?_⟩;have:a=(p.getD i 0,(i:Int)+1):=by simpa using ha
  subst this;rw[d];simp only;omega
 refine⟨by unfold Dp;rw[aS];exact(c.2 y e).1,λa ha=>?_⟩;obtain⟨b,f,rfl⟩:=IS.1 ha;have:=(c.2 y e).2 b f;rw[d];simp only;omega
theorem vR (vf:VF h f):D9 f f.length [] 0=(List.range f.length).map λ(i:Nat)=>(i:Int):=by
 have q:=vf.pos;have d:=IX vf.good (r:=0) O1 O1;have l:=JZ f 0;have c:=λi=>L6 (f:=f) (r:=0) (i:=i);rw[vf.can]at l;simp only[vf.can]at c;generalize p:D9 f f.length [] 0=o at *;have m:RH h f f (λi=>o.getD i.toNat 0):=by
  refine⟨d.zero.1,λi g j=>d.ok.rng _ (AG o 0 O1),λi g j=>?_,λi g j a ha=>?_⟩
  .rw[c i.toNat O1];exact RI h _
  rw[Af,c i.toNat O1]at ha;obtain⟨b,e,rfl⟩:=IS.1 ha;have k:=d.cl _ (AG o 0 O1) b e;show BR (Af f (o.getD i.toNat 0)) b.1=o.getD (EE o b.2).toNat 0;rw[(Fh k).2.2];exact P3 (aC vf.str _) e
 have hu:=A1o vf.ro m (A1p vf.str);apply AAt
 .rw[aS,ACf];omega
 intro i h1 n;rw[ABA,ABD];have:=hu i (i:Int) O1 O1 O1;simp only[gO,id]at this;rw[<-this,AS,AT h1];rfl
theorem vS (hf:AX f) (h:D9 f f.length [] 0=(List.range f.length).map λ(i:Nat)=>(i:Int)):AP f 0=f:=by
 unfold AP;generalize q:D9 f f.length [] 0=l at *;have r:l.length=f.length:=by rw[h];simp
 have b:∀k,(hk:k<l.length)->l[k]=(k:Int):=λk hk=>by subst h;simp
 clear h;have o:l.Nodup:=by
  unfold List.Nodup;rw[oS];intro i j hi n p e;rw[b i hi,b j n]at e;omega
 have m:∀x,0<=x->x<(l.length:Int)->EE l x=x:=λx s t=>by
  have:=JY o (i:=x.toNat) O1;have e:l.getD x.toNat 0=x:=by
   rw[AS,AT O1];show l[x.toNat]=x;rw[b _ O1];omega
  rw[e]at this;rw[this];omega
 apply AAt
 .rw[aS];omega
 intro i h1 c;rw[ABA,b i (by simpa using h1)];have d:f.getD (i:Int).toNat (0,[])=f[i]:=by simp[AS,c]
 unfold Gx;rw[d];have:∀a∈f[i].2,M7 l a=a:=λa ha=>by
  have g:=(hf.2 _ (AAu c)).2 a ha;unfold M7;rw[m a.2 g.1 O1]
 rw[AAd this,List.map_id']
theorem qR {Q R:List AD} {ψ:Int->Int} {C:Int->Prop} (h:Iso Q R ψ C) {pre:List Int} (j:∀i,C i->ψ i∉pre):∀(k:Nat) (t:List Int) (i:Int),(∀x∈t,C x)->C i->D9 R k (pre++t.map ψ) (ψ i)=pre++(D9 Q k t i).map ψ/\∀x∈D9 Q k t i,C x
 | 0,t,i,c,hi=>⟨rfl,c⟩
 | k+1,t,i,c,hi=>by
  have key:∀(l:List (Int×Int)) (t:List Int),(∀a∈l,C a.2)->(∀x∈t,C x) ->
    (l.map λa=>(a.1,ψ a.2)).foldl (A5 R k) (pre++t.map ψ)=pre++(l.foldl (A5 Q k) t).map ψ/\∀x∈l.foldl (A5 Q k) t,C x:=by
   intro l;induction l with
   | nil=>intro t _ c;exact⟨rfl,c⟩
   | cons a l p =>
    intro t g c;have ha:=g a sc;have hs:A5 R k (pre++t.map ψ) (a.1,ψ a.2)=pre++(A5 Q k t a).map ψ/\∀x∈A5 Q k t a,C x:=by
     unfold A5;by_cases f:a.2∈t
     .rw[At f,At (NO.2 (.inr (IS.2 ⟨_,f,rfl⟩)))];exact⟨rfl,c⟩
     have o:¬ψ a.2∈pre++t.map ψ:=by
      intro hh;rcases NO.1 hh with hh|hh
      .exact j _ ha hh
      obtain⟨x,d,e⟩:=IS.1 hh;exact f (h.inj x a.2 (c x d) ha e▸d)
     rw[As f];simp only[As o];exact qR h j k t a.2 c ha
    rw[nO,OR,OR,hs.1];exact p _ (λb n=>g b (by simp[n])) hs.2
  rw[Cc,Cc];have e:pre++t.map ψ++[ψ i]=pre++(t++[i]).map ψ:=by simp
  have m:(R.getD (ψ i).toNat (0,[])).2=(Af Q i).map λa=>(a.1,ψ a.2):=h.arc i hi;rw[m,e];refine key _ _ (h.cl i hi) λx d=>?_;rcases NO.1 d with d|d
  .exact c x d
  have:x=i:=by simpa using d
  rw[this];exact hi
abbrev aM (n:Nat):List Int:=(List.range n).map λ(i:Nat)=>(i:Int)
theorem gZ {n:Nat} {x:Int} (h:x∈aM n):0<=x/\x<(n:Int):=by grind
theorem vT (n:Nat):aM (n+1)=aM n++[(n:Int)]:=by unfold aM;rw[AAA,AAN];rfl
theorem WF {p:List Int} {g:List AD}:∀(r j:Nat) (k:Nat),j+r=p.length->D9 (B9 p g) (r+k) (aM j) (j:Int)=D9 (B9 p g) k (aM p.length) (p.length:Int)
 | 0,j,k,h=>by rw[show j=p.length by omega,AAX]
 | r+1,j,k,h=>by
  rw[show r+1+k=(r+k)+1 by omega,Cc,SQ O1 O1,gO];show A5 (B9 p g) (r+k) (aM j++[(j:Int)]) (p.getD j 0,(j:Int)+1)=_;rw[<-vT];unfold A5;rw[As (λa=>by have:=gZ a;simp only at this;omega)];have e:((j:Int)+1)=((j+1:Nat):Int):=by omega
  simp only[e];exact WF r (j+1) k O1
theorem vU {g:List AD} (b:VF h g) (n:p.length<=1000) (l:g.length<=10000):AP (B9 p g) 0=B9 p g:=by
 have f:=b.pos;refine vS (SR n b.good f l) ?_;rw[KT];have d:=WF (p:=p) (g:=g) p.length 0 g.length O1;rw[show aM 0=[] from rfl,show ((0:Nat):Int)=0 from rfl]at d;rw[d];have k:Iso g (B9 p g) (λi=>(p.length:Int)+i) (λi=>0<=i/\i<(g.length:Int)):=by
  refine⟨λi hi=>?_,λi hi a ha=>B7 b.good ha,λi j hi q e=>by have e:(p.length:Int)+i=(p.length:Int)+j:=e;omega⟩;rw[Af,QF hi.1 hi.2];show Dp p.length (Af g i)=_;unfold Dp;refine AAd λa _=>?_;show (a.1,a.2+(p.length:Int))=(a.1,(p.length:Int)+a.2);rw[Int.add_comm]
 have c:=(qR k (pre:=aM p.length) (λi hi m=>by have:=gZ m;omega) g.length [] 0 (λx o=>by cases o) ⟨by omega,by omega⟩).1;rw[ABj,AAv,ACG,vR b]at c;rw[c];rw[List.range_add,AAN,ABk,ABk];refine AB3 _ (AAd λi _=>?_);show (p.length:Int)+(i:Int)=((p.length+i:Nat):Int);omega
theorem A1N (h0:0<h.1.length) {g:List AD} (d:VF h g) (m:FtP h p) (l:p.length<=1000) (k:g.length<=10000):VF h (B9 p g):=by
 have o:=d.pos;have r:=KT p g;refine⟨SR l d.good o k,by omega,λx c=>?_,λx c=>?_,λx c a ha=>?_,vU d l k,λi s t=>?_⟩
 .rcases KU c with ⟨i,hi,rfl⟩|⟨y,f,rfl⟩
  .exact⟨by simp,by simp only;omega⟩
  exact d.ty y f
 .rcases KU c with ⟨i,hi,rfl⟩|⟨y,f,rfl⟩
  .exact List.pairwise_singleton _ _
  exact mY (d.str y f)
 .rcases KU c with ⟨i,hi,rfl⟩|⟨y,f,rfl⟩
  .have:a=(p.getD i 0,(i:Int)+1):=by simpa using ha
   rw[this];exact m _ (Aq hi)
  obtain⟨b,n,rfl⟩:=IS.1 ha;exact d.ft y f b n
 by_cases hi:i<=(p.length:Int)
 .refine⟨i-1,by omega,by omega,(p.getD (i-1).toNat 0,i-1+1),?_,by simp only;omega⟩;rw[Af,SQ O1 O1];exact oR.2 rfl
 obtain⟨j,q,u,x,c,e⟩:=d.ro (i-p.length) O1 O1;refine⟨(p.length:Int)+j,by omega,by omega,(x.1,x.2+(p.length:Int)),?_,by simp only;omega⟩;rw[Af,QF q O1];exact IS.2 ⟨x,c,rfl⟩
theorem vV (hf:AX f) {r:Int} (l:0<=r) (m:r<(f.length:Int)):AX (AP f r)/\0<(AP f r).length:=by
 have c:=IX hf l m;have h:=JZ f r;have g:=λi=>L6 (f:=f) (r:=r) (i:=i);generalize p:D9 f f.length [] r=o at *;have q:=c.ok.len;have n:=hf.1;have t:=c.zero.2;refine⟨⟨by omega,λx j=>?_⟩,by omega⟩;obtain⟨i,hi,rfl⟩:=B5 (0,[]) j;rw[g i O1];have d:o.getD i 0∈o:=AG o 0 O1;have s:=c.ok.rng _ d;refine⟨?_,λa ha=>?_⟩
 .show (List.map (M7 o) _).length<=_;rw[aS];exact(hf.2 _ (AG f (0,[]) (k:=(o.getD i 0).toNat) O1)).1
 obtain⟨b,e,rfl⟩:=IS.1 ha;have:=Fh (c.cl _ d b e);rw[h];exact⟨this.1,this.2.1⟩
theorem A4N (hf:AX f) (b:C2 h f) {r:Int} (d:0<=r) (e:r<(f.length:Int)):C2 h (AP f r):=by
 have a:=IX hf d e;intro x c;obtain⟨n,hn,rfl⟩:=IS.1 c;have g:=a.ok.rng n hn;exact b (f.getD n.toNat (0,[])) (AG f (0,[]) (k:=n.toNat) O1)
structure PF (h:AF) (S:List AD):Prop where
 good:AX S
 pos:0<S.length
 ty:C2 h S
 str:∀x∈S,Vq x.2
 ft:∀x∈S,∀a∈x.2,0<=a.1/\a.1<(h.2.length:Int)
theorem g8 {S:List AD} (a:AX S) {r:Int} (c:0<=r) (d:r<(S.length:Int)):∀x∈AP S r,∃n∈D9 S S.length [] r,(0<=n/\n<(S.length:Int))/\x=Gx S (D9 S S.length [] r) n:=λx b=>by
 obtain⟨n,hn,rfl⟩:=IS.1 b;exact⟨n,hn,(IX a c d).ok.rng n hn,rfl⟩
theorem A4O {S:List AD} (b:AX S) {r:Int} (c:0<=r) (d:r<(S.length:Int)):RO (AP S r):=by
 have k:=IX b c d;have h:=Vp b S.length [] r (KO _) c d sc;have n:=JZ S r;have g:=λi=>L6 (f:=S) (r:=r) (i:=i);generalize AP S r=C at *;generalize D9 S S.length [] r=o at *;intro i l m;obtain⟨j,p,a,ha,e⟩:=h i.toNat (by simp only[AAs];omega) O1;refine⟨(j:Int),by omega,by omega,M7 o a,?_,?_⟩
 .rw[Af,gO,g j O1];exact IS.2 ⟨a,ha,rfl⟩
 show EE o a.2=i;rw[e,JY k.ok.nd O1];omega
theorem A7J {S:List AD} (p:PF h S) {r:Int} (c:0<=r) (d:r<(S.length:Int)):VF h (AP S r):=by
 have f:=vV p.good c d;refine⟨f.1,f.2,A4N p.good p.ty c d,λx e=>?_,λx e a ha=>?_,gM p.good c d,A4O p.good c d⟩
 .obtain⟨n,-,hn,rfl⟩:=g8 p.good c d x e;show List.Pairwise _ (List.map _ _);rw[AAG];exact(aC p.str n).imp λh=>h
 obtain⟨n,-,hn,rfl⟩:=g8 p.good c d x e;obtain⟨b,g,rfl⟩:=IS.1 ha;exact p.ft _ (AG S (0,[]) O1) b g
def A9p (f:List AD) (e:Int):List (Int×Int):=(f.getD 0 (0,[])).2.filter λa=>a.1 != e
def A9q (f:List AD) (e:Int):List AD:=((f.getD 0 (0,[])).1,Dp 1 (A9p f e)) :: f.map λx=>(x.1,Dp 1 x.2)
def A62 (f:List AD) (e:Int):List AD:=AP (A9q f e) 0
def Fv (l:List (Int×Int)) (e:Int):Int×Bool:=match l with
 | []=>(0,false)
 | a :: l=>if a.1=e then (a.2,true) else Fv l e
theorem WG (e:Int) (l:List (Int×Int)) (h:k<l.length):Fv (l.drop k) e=if (l.getD k (0,0)).1=e then ((l.getD k (0,0)).2,true) else Fv (l.drop (k+1)) e:=by
 rw[ON h];have e:l.getD k (0,0)=l[k]:=by simp[AS,h]
 rw[e];rfl
def A1O:AW:={ ins:=[FL,T3,T3],pre:=λ(f,n,_,_)=>EU f/\0<=n/\n<(List.length f:Int),out:=λ(f,n,e,_)=>[.p T3 (Fv (List.getD f n.toNat (0,[])).2 e).1,.p .bool (Fv (List.getD f n.toNat (0,[])).2 e).2] }
theorem A4P:AY Tryz.prog 128 A1O:=by
 refine fK [0,1,2,3,6,7,9,15,16,17,18,24] Tryz.func128 Tryz.ntmps128 AH ?_;rintro w0 O0 ⟨f,n,e,u⟩ c-⟨hf,h0,h1⟩;simp only[A1O,AK];repeat'(first|exact trivial|apply eS rfl|apply AB|refine rX c ?_ ?_|refine rC ?_ ?_<;>intro a<;>try(cases a;done))
 .exact⟨h0,h1⟩
 generalize g:(f.getD n.toNat (0,[])).2=xs at *;have i:xs.length<=100000:=by
  rw[<-g];have hn:n.toNat<f.length:=by
   have h0:(0:Int)<=n:=h0;have h1:(n:Int)<(List.length f:Int):=h1;exact(ACE h0).2 h1
  exact hf.2 _ (AG f (0,[]) hn)
 refine AI (ι:={k:Nat//k<=xs.length/\Fv xs e=Fv (xs.drop k) e}) (λk=>⟨[(2,.p T3 e),(15,.p K2 xs),(16,.p (.int .i64) (xs.length:Int)),(17,.p (.int .i64) (k.1:Int))],[]⟩) (λk=>xs.length-k.1) ⟨0,DO _,rfl⟩ (AC [] rfl rfl ?_ ?_) (λk=>?_)
 .first|exact eN|refine eM ?_
 .first|exact eN|refine eM ?_
 obtain⟨k,hk,d⟩:=k;repeat'(first|exact trivial|apply eS rfl|apply AB|refine rX c ?_ ?_|refine rC ?_ ?_<;>intro a<;>try(cases a;done))
 .exact a
 .have b:k<xs.length:=On.1 (by assumption);have h:=WG e xs b;rw[At a]at h;rw[d,h];exact fI c [.tmp 6,.tmp 7]
 .omega
 .have b:k<xs.length:=On.1 (by assumption);have h:=WG e xs b;rw[As a]at h;refine⟨⟨k+1,b,d.trans h⟩,by simp only;omega,AC [] rfl rfl ?_ ?_⟩
  .first|exact eN|refine eM ?_
  first|exact eN|refine eM ?_
 have b:xs.drop k=[]:=If (AAc.1 a);rw[b]at d;rw[d];exact fI c [.tmp 6,.tmp 7] (by first|exact eR|refine Je ?_;exact⟨rfl,rfl⟩)
section
attribute [local go_sem] A1O
def Sn (f:List AD):Int->List Int->Int×Bool
 | n,[]=>(n,true)
 | n,e :: p=>if (Fv (Af f n) e).2=true then Sn f (Fv (Af f n) e).1 p else (0,false)
theorem Yg (h:k<p.length):p.drop k=p.getD k 0 :: p.drop (k+1):=by
 rw[ON h];simp[AS,h]
theorem A1P {e:Int} (h:(Fv l e).2=true):∃a∈l,a.1=e/\a.2=(Fv l e).1:=by
 induction l with
 | nil=>simp[Fv]at h
 | cons a l g =>
  simp only[Fv]at h ⊢;split
  .rename_i c;exact⟨a,by simp,c,rfl⟩
  rename_i c;rw[As c]at h;obtain⟨b,f,h1,d⟩:=g h;exact⟨b,by simp[f],h1,d⟩
def atS:AW:={ ins:=[FL,Bz],pre:=λ(f,_,_)=>AX f/\0<List.length f,out:=λ(f,p,_)=>[.p T3 (Sn f 0 p).1,.p .bool (Sn f 0 p).2] }
attribute [local go_sem] atS
theorem A9r:AY Tryz.prog 80 atS:=by
 refine fK [0,1,2,4,5,6,8,9,10,11,12,13,14,25] Tryz.func80 Tryz.ntmps80 (AE A4P AH) ?_;rintro w0 O0 ⟨f,p,u⟩ e ⟨-,⟨i,-⟩,-⟩ ⟨hf,h0⟩;simp only[AO]at i;simp only[atS,AK];have j:EU f:=⟨hf.1,λx l=>(hf.2 x l).1⟩;have h0:0<f.length:=h0;repeat'(first|exact trivial|apply eS rfl|apply AB|refine rX e ?_ ?_|refine rC ?_ ?_<;>intro b<;>try(cases b;done))
 refine AI (ι:={s:Nat×Int//s.1<=p.length/\(0<=s.2/\s.2<(f.length:Int))/\Sn f 0 p=Sn f s.2 (p.drop s.1)}) (λs=>⟨[(2,.bp 2 [] 0),(6,.p T3 s.1.2),(11,.p Bz p),(12,.p (.int .i64) (p.length:Int)),(13,.p (.int .i64) (s.1.1:Int))],[(2,.box 34 true [.p HJ f])]⟩) (λs=>p.length-s.1.1) ⟨(0,0),DO _,⟨ABg 0,by show (0:Int)<_;omega⟩,rfl⟩ (AC [(2,.nm 2)] rfl rfl ?_ ?_) (λs=>?_)
 .first|exact eN|refine eM ?_
 .first|exact eN|refine eM ?_
 obtain⟨⟨k,n⟩,hk,hn,d⟩:=s;simp only at hk hn d ⊢;repeat'(first|exact trivial|apply eS rfl|apply AB|refine rX e ?_ ?_|refine rC ?_ ?_<;>intro b<;>try(cases b;done))
 .exact b
 .exact⟨j,hn⟩
 .have c:k<p.length:=On.1 (by assumption);have h1:Sn f 0 p=(0,false):=by
   rw[d,Yg c];simp only[Sn];rw[As (by rw[b];simp)]
  exact fI e [.tmp 4,.tmp 5] (by rw[h1];exact eR)
 .omega
 .have c:k<p.length:=On.1 (by assumption);have h1:=d;rw[Yg c]at h1;simp only[Sn]at h1;rw[At b]at h1;obtain⟨a,ha,-,h⟩:=A1P b;have g:=B7 hf ha;rw[h]at g;refine⟨⟨(k+1,(Fv (f.getD n.toNat (0,[])).2 (p.getD k 0)).1),c,g,h1⟩,by simp only;omega,AC [(2,.nm 2)] rfl rfl ?_ ?_⟩
  .first|exact eN|refine eM ?_
  first|exact eN|refine eM ?_
 have c:p.drop k=[]:=If (AAc.1 b);rw[c]at d;exact fI e [.tmp 4,.tmp 5] (by rw[d];first|exact eR|refine Je ?_;exact⟨rfl,rfl⟩)
end
def g9 (h:AF):Int:=A8 h (sb [65,82,71,83])
def mZ (h:AF) (i:Nat):List Int:=g9 h :: (List.replicate i (EF h).rest++[(EF h).first])
theorem A4Q (h:AF) (i:Nat):(mZ h i).length=i+2:=by simp[mZ]
def Hx (pl:Nat->List Int):Nat->List (List AD)->List (List AD)
 | _,[]=>[]
 | i,k :: l=>B9 (pl i) k :: Hx pl (i+1) l
noncomputable def GI (h:AF) (pl:Nat->List Int):Nat->List AD->List (List AD)->List AD×Bool
 | _,f,[]=>(f,true)
 | i,f,k :: l=>if (aL h f (B9 (pl i) k)).2=true then GI h pl (i+1) (aL h f (B9 (pl i) k)).1 l else ([],false)
theorem WH {pl:Nat->List Int} {x:List AD}:∀ {l:List (List AD)} {i:Nat},x∈Hx pl i l->∃j,j<l.length/\x=B9 (pl (i+j)) (l.getD j [])
 | k :: l,i,h=>by
  rcases GO.1 h with rfl|h
  .exact⟨0,by simp,rfl⟩
  obtain⟨j,a,rfl⟩:=WH h;exact⟨j+1,by simpa using a,by rw[show i+(j+1)=i+1+j by omega];rfl⟩
theorem WI {h:AF} {pl:Nat->List Int}:∀ {l:List (List AD)} {i:Nat} {f:List AD},(∀x∈Hx pl i l,x.length<=100)->(GI h pl i f l).1.length<=f.length+100*l.length
 | [],i,f,_=>OS _
 | k :: l,i,f,c=>by
  unfold GI;split
  .have h1:=qQ (h:=h) (a:=f) (b:=B9 (pl i) k);have e:=c _ (iS (a:=B9 (pl i) k) (l:=Hx pl (i+1) l));have g:=WI (h:=h) (pl:=pl) (l:=l) (i:=i+1) (f:=(aL h f (B9 (pl i) k)).1) λx d=>c x (IF _ d);simp only[Is];omega
  simp
section
variable {h:AF} (hh:H14 h)
include hh
theorem WJ {pl:Nat->List Int}:∀(l:List (List AD)) (i:Nat) (f:List AD) (L:List (List AD)),MD h L (f,true)->(∀x∈L,VF h x)->(∀x∈Hx pl i l,VF h x/\x.length<=100)->f.length+100*l.length<=10000->MD h (L++Hx pl i l) (GI h pl i f l)
 | [],i,f,L,H,o,q,r=>by
  show MD h (L++[]) (f,true);rw[AAv];exact H
 | k :: l,i,f,L,H,o,q,r=>by
  have hu:=q _ (iS (a:=B9 (pl i) k) (l:=Hx pl (i+1) l));have g:=H.vf rfl;simp only[Is]at r;have v:=qQ (h:=h) (a:=f) (b:=B9 (pl i) k);have hs:MD h (L++[B9 (pl i) k]) (aL h f (B9 (pl i) k)):=by
   refine(A4M hh g.wt.1 hu.1 (by have:=hu.2;show f.length+_<=10000;omega)).congr λX j=>?_;rw[WE,HC];constructor
   .rintro⟨⟨m,d⟩,s⟩ x t;rcases NO.1 t with c|c
    .exact A1L hh.ok o g.wt.1 j.1 g.hom d x c
    rw[oR.1 c];exact s
   intro n;exact⟨g.least X j λx d=>n x (AA6 _ d),n _ (AAP _ (oR.2 rfl))⟩
  show MD h (L++B9 (pl i) k :: Hx pl (i+1) l) (GI h pl i f (k :: l));unfold GI;split
  .rename_i p;have:=WJ l (i+1) (aL h f (B9 (pl i) k)).1 (L++[B9 (pl i) k]) (by rw[<-p];exact hs) (λx d=>by
    rcases NO.1 d with c|c
    .exact o x c
    rw[oR.1 c];exact hu.1) (λx d=>q x (IF _ d)) O1
   rwa [AA8,ABi]at this
  rename_i p;refine .inr ⟨rfl,λX j n=>?_⟩;rcases hs with ⟨e,-⟩|⟨-,u⟩
  .exact p e
  refine u X j λx d=>n x ?_;rcases NO.1 d with c|c
  .exact AA6 _ c
  exact AAP _ (by rw[oR.1 c];exact iS)
omit hh in
theorem vW {f:List AD} (a:Wt h f):MD h [f] (f,true):=.inl ⟨rfl,a,HC.2 ⟨id,A1p a.1.str⟩,λ_ _ b=>HC.1 b⟩
end
theorem A7K (e:Sm h=true) (ha:0<=g9 h) (i:Nat):FtP h (mZ h i):=by
 obtain⟨⟨h1,b⟩,-⟩:=A18 e;have c:=GP h (sb [70,73,82,83,84]);have d:=GP h (sb [82,69,83,84]);have f:=GP h (sb [65,82,71,83]);intro x a;rcases GO.1 a with rfl|a
 .exact⟨ha,f.2⟩
 rcases NO.1 a with a|a
 .rw[(ACA.1 a).2];exact⟨b,d.2⟩
 rw[oR.1 a];exact⟨h1,c.2⟩
structure A7L (h:AF) (ar:Int) (f:List AD):Prop where
 arb:1<=ar/\ar<=2
 chk:Fg h f=0
 args:0<=g9 h
 lw:Sm h=true
 walk:∀i:Nat,(i:Int)<ar->∃n,A5W f 0 (mZ h i)=some n
section
attribute [local go_sem] OX OW Vm
def Da (h:AF) (w:LW):Obj:=.box 248 true [.p FY h,.p T3 w.list,.p T3 w.cons,.p T3 w.null,.p T3 w.dlist,.p T3 w.first,.p T3 w.rest,.p T3 w.head,.p T3 w.last]
theorem A1Q (h:AF) (w:LW) (f:List AD) (n:Int):BB Tryz.prog 170 [.p dR (wdF h w),.p FL f,.p T3 n] [] [] (λres c=>res=.clo 187 [5,3,4]/\c=[(5,.box 3 false [.p T3 n]),(4,.box 34 true [.p HJ f]),(3,Da h w)]):=by
 refine Jf [0,1,2,3,4,5,6] [] [] Tryz.func170 Tryz.ntmps170 AH ?_;intro w0 K O0 ρ0 a d e;simp only[Am,wdF];repeat'(first|exact trivial|apply eS rfl|apply AB|refine rX a ?_ ?_|refine rC ?_ ?_<;>intro b<;>try(cases b;done))
 exact fM a [.tmp 6] (.clo 187 [5,3,4]) eT ⟨rfl,rfl⟩
abbrev WS:=List Int×List Int×Bool×Int
def Av (f:List AD) (n:Int):AD:=f.getD n.toNat (0,[])
def Yh (h:AF) (w:LW) (f:List AD) (s:WS):WS:=(s.1++[s.2.2.2],if Fu h w (Av f s.2.2.2)=2 then s.2.1++[BR (Av f s.2.2.2).2 w.first] else s.2.1,decide (Fu h w (Av f s.2.2.2)=1),BR (Av f s.2.2.2).2 w.rest)
def CN (h:AF) (w:LW) (f:List AD) (n:Int):Nat->WS
 | 0=>([],[],false,n)
 | i+1=>Yh h w f (CN h w f n i)
def WGo (h:AF) (w:LW) (f:List AD) (n:Int) (i:Nat):Prop:=∀j,j<i->Fu h w (Av f (CN h w f n j).2.2.2)=2/\(CN h w f n j).2.2.2∉(CN h w f n j).1
theorem Tc {h:AF} {w:LW} {f:List AD} {n:Int} (hf:AX f) (n0:0<=n) (n1:n<(f.length:Int)):∀i,WGo h w f n i->Mp f (CN h w f n i).1/\(CN h w f n i).1.length=i/\(0<=(CN h w f n i).2.2.2/\(CN h w f n i).2.2.2<(f.length:Int))/\(CN h w f n i).2.1.length=i
 | 0,_=>⟨KO f,rfl,⟨n0,n1⟩,rfl⟩
 | i+1,c=>by
  obtain⟨h1,d,a,e⟩:=Tc hf n0 n1 i (λj l=>c j O1);obtain⟨b,g⟩:=c i O1;have hk:=YM b;refine⟨h1.snoc a.1 a.2 g,?_,⟨hk.2,?_⟩,?_⟩
  .show ((CN h w f n i).1++_).length=_;rw[Do,d];rfl
  .exact Mq O1 _ λx k=>(B7 hf (n:=(CN h w f n i).2.2.2) k).2
  show (if _ then _ else _:List Int).length=_;rw[At b,Do,e];rfl
def Gy (L:Go.Loop):Go.Loop:={ L with state:=.done,pending:=some .ret }
end
section
attribute [local go_sem] NW JW Vj Xi Kj KD Mj JJ IJ M5
theorem Fi (h:AF) (s:ByteArray):Ad h s<(h.1.length:Int):=by
 have:=Z8 s h.1 0;unfold Ad;omega
def Oc (h:AF) (s:ByteArray) (t:Int):Bool:=decide (0<=Ad h s)&&Ae h (Ad h s) t
def hJ:AW:={ ins:=[FY,T9,T3],pre:=λ(h,_,t,_)=>GL h/\(0:Int)<=t/\t<(List.length (h:AF).1:Int),out:=λ(h,s,t,_)=>[.p .bool (Oc h s t)],lend:=true }
attribute [local go_sem] hJ
theorem A7M:AY Tryz.prog 34 hJ:=by
 refine fK [0,1,2,3,6,7] Tryz.func34 Tryz.ntmps34 (AE Mr (AE f9 AH)) ?_;rintro w0 O0 ⟨h,s,t,u⟩ a-⟨hk,h0,h1⟩;have hk:GL h:=hk;have c:(h.1,h.2)=h:=rfl;have d:=Fi h s;simp only[hJ,AK];repeat'(first|exact trivial|apply eS rfl|apply AB|refine rX a ?_ ?_|refine rC ?_ ?_<;>intro b<;>try(cases b;done))
 all_goals try simp only[c]at *
 .exact λe=>⟨⟨⟨e,d⟩,h0,h1⟩,hk⟩
 exact fI a [.tmp 6] (by first|exact eR|refine Je ?_;rfl)
def Ce (h:AF) (t:Int):ByteArray :=
 if Oc h ⟨#[104,97,110,100,108,101]⟩ t=true then ⟨#[104]⟩ else if Oc h ⟨#[101,118,101,110,116]⟩ t=true then ⟨#[101]⟩
 else if Oc h ⟨#[101,110,116,105,116,121]⟩ t=true then ⟨#[120]⟩ else if Oc h ⟨#[105,110,100,101,120]⟩ t=true then ⟨#[105]⟩ else ⟨#[]⟩
def Cu (h:AF) (f:List AD) (n:Int) (s:ByteArray):Int:=if 0<=A8 h s then BR (Av f n).2 (A8 h s) else -1
def NA (h:AF) (f:List AD) (n:Int):ByteArray:=if n<0 then ⟨#[]⟩ else Ce h (Av f n).1
end
section
attribute [local go_sem] NW JW Vj JJ IJ
def WK:AW:={ ins:=[FY],pre:=λ(h,_)=>GL h,out:=λ(h,_)=>[.p .bool (Sm h)],lend:=true }
attribute [local go_sem] WK
def m3:AW:={ ins:=[FY,FL,T3,T9],pre:=λ(_,f,n,_)=>AX f/\(0:Int)<=n/\n<(List.length f:Int),out:=λ(h,f,n,s,_)=>[.p T3 (BR (List.getD (f:List AD) n.toNat (0,[])).2 (A8 h s))],lend:=true }
attribute [local go_sem] m3
def aN:AW:={ ins:=[FY,FL,T3],pre:=λ(h,f,n,_)=>(Sm h=true/\GL h)/\AX f/\C2 h f/\(0:Int)<=n/\n<(List.length f:Int),out:=λ(h,f,n,_)=>[.p .bool (mG h (EF h) (List.getD (f:List AD) n.toNat (0,[])))],lend:=true }
attribute [local go_sem] aN
def aO:AW:={ ins:=[FY,FL,T3],pre:=λ(h,f,n,_)=>(Sm h=true/\GL h)/\AX f/\C2 h f/\(0:Int)<=n/\n<(List.length f:Int),out:=λ(h,f,n,_)=>[.p .bool (Vk h (EF h) (List.getD (f:List AD) n.toNat (0,[])))],lend:=true }
attribute [local go_sem] aO
def WL:AW:={ ins:=[FY,FL,T3],pre:=λ(h,f,n,_)=>(Sm h=true/\GL h)/\AX f/\C2 h f/\(0:Int)<=n/\n<(List.length f:Int),out:=λ(h,f,n,_)=>[.p .bool (!mG h (EF h) (List.getD (f:List AD) n.toNat (0,[]))&&YL h (EF h) (List.getD (f:List AD) n.toNat (0,[])))],lend:=true }
attribute [local go_sem] WL
def A1R:AW:={ ins:=[Bz,T3],pre:=λ_=>True,out:=λ(l,n,_)=>[.p .bool (inF l n)],lend:=true }
attribute [local go_sem] A1R
end
section
attribute [local go_sem] atS
theorem VF.h0 (vf:VF h f):0<h.1.length:=by
 have a:=vf.pos;have:=vf.ty _ (AG f (0,[]) (k:=0) O1);omega
end
noncomputable def m4 (h:AF) (ar:Int) (f:List AD) (A:List (List AD)):List AD×Bool :=
 if (A.length:Int)≠ar then ([],false) else if (GI h (mZ h) 0 f A).2=true then (A62 (GI h (mZ h) 0 f A).1 (g9 h),true) else ([],false)
structure RA (h:AF) (ar:Int) (f:List AD) (A:List (List AD)):Prop where
 hh:H14 h
 top:A9l h
 vf:VF h f
 lf:f.length<=12
 ok:A7L h ar f
 va:∀x∈A,VF h x/\x.length<=12
 la:A.length<=3
theorem RA.wt {ar:Int} (r:RA h ar f A):Wt h f:=⟨r.vf,vQ r.ok.chk⟩
theorem RA.un {ar:Int} (r:RA h ar f A):∀x∈Hx (mZ h) 0 A,VF h x/\x.length<=100:=λx b=>by
 obtain⟨j,a,rfl⟩:=WH b;have d:=A4Q h (0+j);have hk:=r.va _ (AG A [] a);have c:=r.la;exact⟨A1N r.vf.h0 hk.1 (A7K r.ok.lw r.ok.args _) O1 O1,by rw[KT];omega⟩
theorem RA.all {ar:Int} (r:RA h ar f A):MD h (f :: Hx (mZ h) 0 A) (GI h (mZ h) 0 f A) :=
 WJ r.hh A 0 f [f] (vW r.wt) (by simp[r.vf]) r.un (by have:=r.lf;have:=r.la;omega)
theorem RA.len {ar:Int} (r:RA h ar f A):(GI h (mZ h) 0 f A).1.length<=312:=by
 have:=WI (h:=h) (pl:=mZ h) (l:=A) (i:=0) (f:=f) λx a=>(r.un x a).2;have:=r.lf;have:=r.la;omega
theorem RA.res {ar:Int} (r:RA h ar f A) (a:(m4 h ar f A).2=true):(A.length:Int)=ar/\TU h (f :: Hx (mZ h) 0 A) (GI h (mZ h) 0 f A).1/\m4 h ar f A=(A62 (GI h (mZ h) 0 f A).1 (g9 h),true):=by
 unfold m4 at a ⊢;by_cases h1:(A.length:Int)≠ar
 .rw[At h1]at a;cases a
 rw[As h1]at a ⊢;by_cases b:(GI h (mZ h) 0 f A).2=true
 .rw[At b];exact⟨by omega,r.all.vf b,rfl⟩
 rw[As b]at a;cases a
section
attribute [local go_sem] OX OW Vm
def iA (h:AF) (w:LW) (f:List AD) (la:Int) (a out:List Int) (m:Int):Option (List Int×Int) :=
 if m=la then some (if Fu h w (Av f m)=3 then (out,0) else ([],13)) else if m∈a then some ([],6) else if Fu h w (Av f m)=2 then none else some ([],13)
def Fj (h:AF) (w:LW) (f:List AD) (la:Int):Nat->List Int->List Int->Int->List Int×Int
 | 0,_,_,_=>([],6)
 | k+1,a,out,m=>match iA h w f la a out m with
  | some r=>r
  | none=>Fj h w f la k (a++[m]) (out++[BR (Av f m).2 w.first]) (BR (Av f m).2 w.rest)
def BK (h:AF) (f:List AD) (n:Int):List Int×Int :=
 if Sm h=true then
  if BR (Av f n).2 (EF h).head<0\/BR (Av f n).2 (EF h).last<0 then ([],13)
  else Fj h (EF h) f (BR (Av f n).2 (EF h).last) (f.length+1) [] [] (BR (Av f n).2 (EF h).head)
 else ([],5)
def NZ (h:AF) (w:LW) (f:List AD) (la:Int) (s:WS):Option (List Int×Int):=iA h w f la s.1 s.2.1 s.2.2.2
def DGo (h:AF) (w:LW) (f:List AD) (la n:Int) (i:Nat):Prop:=∀j,j<i->NZ h w f la (CN h w f n j)=none
theorem Jc {w:LW} {la:Int} {a out:List Int} {m:Int} (e:iA h w f la a out m=none):m≠la/\m∉a/\Fu h w (Av f m)=2:=by
 unfold iA at e;split at e
 .cases e
 split at e
 .cases e
 split at e
 .exact⟨by assumption,by assumption,by assumption⟩
 cases e
theorem aP {w:LW} {la n:Int} {i:Nat} (a:DGo h w f la n i):WGo h w f n i:=λj b=>⟨(Jc (a j b)).2.2,(Jc (a j b)).2.1⟩
theorem Yi {h:AF} {w:LW} {f:List AD} {la n:Int} (k:Nat):∀i,DGo h w f la n i->Fj h w f la (k+i) [] [] n=Fj h w f la k (CN h w f n i).1 (CN h w f n i).2.1 (CN h w f n i).2.2.2
 | 0,_=>rfl
 | i+1,b=>by
  have c:=Yi (h:=h) (w:=w) (f:=f) (la:=la) (n:=n) (k+1) i (λj d=>b j O1);have a:iA h w f la (CN h w f n i).1 (CN h w f n i).2.1 (CN h w f n i).2.2.2=none:=b i O1;rw[show k+(i+1)=k+1+i by omega,c];rw[Fj,a];show _=Fj h w f la k (Yh h w f (CN h w f n i)).1 (Yh h w f (CN h w f n i)).2.1 (Yh h w f (CN h w f n i)).2.2.2;unfold Yh;rw[At (Jc a).2.2]
theorem Yj {w:LW} {la n:Int} (hf:AX f) (n0:0<=n) (n1:n<(f.length:Int)) {i:Nat} (a:DGo h w f la n i) {r:List Int×Int} (b:NZ h w f la (CN h w f n i)=some r):Fj h w f la (f.length+1) [] [] n=r:=by
 obtain⟨h1,c,d,-⟩:=Tc hf n0 n1 i (aP a);have e:=h1.len;rw[show f.length+1=(f.length-i)+1+i by omega,Yi _ _ a,Fj,show iA h w f la (CN h w f n i).1 (CN h w f n i).2.1 (CN h w f n i).2.2.2=some r from b]
def dE:List (Nat×AV):=[(4,.bp 4 [] 0),(6,.bp 6 [] 0),(7,.bp 7 [] 0),(8,.bp 8 [] 0),(11,.bp 11 [] 0),(12,.bp 12 [] 0),(13,.bp 13 [] 0)]
def dO (h:AF) (w:LW) (f:List AD) (L:Go.Loop) (a:Array Value) (la:Int) (s:WS) (m:Int) (c:AV) (e:Int):List (Nat×Obj):=[(50,.box 3 false [.p T3 m]),(51,Da h w),(52,.box 34 true [.p HJ f]),(101,.loop L),(102,.frame a dE),(6,.box 101 false [c]),(7,.box 35 false [.p C0 e]),(8,Da h w),(4,.box 34 true [.p HJ f]),(11,.box 3 false [.p T3 la]),(12,.box 101 false [.sr 60 T3 0 s.2.1.length]),(60,.arr 3 T3 s.2.1),(13,.box 215 false [.mp 24]),(24,.mapo T3 .bool (Kt s.1))]
def DRd (h:AF) (w:LW) (f:List AD) (la n:Int) (L:Go.Loop) (a:Array Value) (i:Nat) (b:Bool) (O:List (Nat×Obj)):Prop :=
 (NZ h w f la (CN h w f n i)=some ((CN h w f n i).2.1,0)/\b=false/\O=dO h w f (Gy L) a la (CN h w f n i) (CN h w f n i).2.2.2 (.sr 60 T3 0 (CN h w f n i).2.1.length) 0) \/
 (∃e,NZ h w f la (CN h w f n i)=some ([],e)/\b=false/\O=dO h w f (Gy L) a la (CN h w f n i) (CN h w f n i).2.2.2 (.raw (.slice none 0 0)) e) \/
 (NZ h w f la (CN h w f n i)=none/\b=true/\O=dO h w f L a la (CN h w f n (i+1)) (CN h w f n i).2.2.2 (.raw (.slice none 0 0)) 0)
theorem vX (h:AF) (w:LW) (f:List AD) (la n:Int) (D:WOk h w) (hf:AX f) (C:C2 h f) (n0:0<=n) (n1:n<(f.length:Int)) (L:Go.Loop) (d:Array Value)
  (m:∀i,DGo h w f la n i->Xa Tryz.prog 101 [.p T3 (CN h w f n i).2.2.2] (dO h w f L d la (CN h w f n i) (CN h w f n i).2.2.2 (.raw (.slice none 0 0)) 0) [50,51,52,101,102,6,7,8,4,11,12,13,24] (λres l=>∃b,res=.p .bool b/\DRd h w f la n L d i b l)) :
  BB Tryz.prog 187 [.yl 101,.bp 50 [] 0,.bp 51 [] 0,.bp 52 [] 0] (dO h w f L d la (CN h w f n 0) n (.raw (.slice none 0 0)) 0) [50,51,52,101,102,6,7,8,4,11,12,13,24] (λres l=>res=.raw (.tuple #[])/\∃i,DGo h w f la n i/\DRd h w f la n L d i false l):=by
 refine Jf [0,1,2,3,14] [] [] Tryz.func187 Tryz.ntmps187 (AE gD (AE Z9 AH)) ?_;intro w0 K O0 ρ0 a A B;simp only[Am,dO,Da];have t:=m;clear m;repeat'(first|exact trivial|apply eS rfl|apply AB|refine rX a ?_ ?_|refine rC ?_ ?_<;>intro c<;>try(cases c;done))
 refine AI (ι:={i:Nat//DGo h w f la n i}) (λi=>⟨[(0,.yl 101),(1,.bp 50 [] 0),(2,.bp 51 [] 0),(3,.bp 52 [] 0)],dO h w f L d la (CN h w f n i.1) (CN h w f n i.1).2.2.2 (.raw (.slice none 0 0)) 0⟩) (λi=>f.length+1-i.1) ⟨0,λj o=>by omega⟩ (AC [(50,.nm 50),(51,.nm 51),(52,.nm 52),(101,.nm 101),(102,.nm 102),(6,.nm 6),(7,.nm 7),(8,.nm 8),(4,.nm 4),(11,.nm 11),(60,.nm 60),(12,.nm 12),(13,.nm 13),(24,.nm 24)] rfl rfl ?_ ?_) (λi=>?_)
 .simp only[dO,Da,dE,CN];first|exact eN|refine eM ?_
 .simp only[dO,Da,dE,CN];first|exact eN|refine eM ?_
 obtain⟨i,hi⟩:=i;obtain⟨q,v,r,x⟩:=Tc hf n0 n1 i (aP hi);have u:=t i hi;have y:=q.len;have z:CN h w f n (i+1)=Yh h w f (CN h w f n i):=rfl;simp only[dO,Da,dE];repeat'(first|exact trivial|apply eS rfl|apply AB|refine rX a ?_ ?_|refine rC ?_ ?_<;>intro c<;>try(cases c;done))
 refine cG 2 a ?_ ?_
 .trivial
 refine rY 101 101 a (u) [(50,.nm 50),(51,.nm 51),(52,.nm 52),(101,.nm 101),(102,.nm 102),(6,.nm 6),(7,.nm 7),(8,.nm 8),(4,.nm 4),(11,.nm 11),(60,.nm 60),(12,.nm 12),(13,.nm 13),(24,.nm 24)] [60] ?_ ?_ ?_
 .first|exact eN|refine eM ?_
 .simp only[dO,Da,dE];first|exact eN|refine eM ?_
 rintro _ _ ⟨b,rfl,k⟩;have s:=k;rcases s with ⟨g,rfl,rfl⟩|⟨e,g,rfl,rfl⟩|⟨g,rfl,rfl⟩
 .refine⟨[(50,.nm 50),(51,.nm 51),(52,.nm 52),(101,.nm 101),(102,.nm 102),(6,.nm 6),(7,.nm 7),(8,.nm 8),(4,.nm 4),(11,.nm 11),(60,.nm 60),(12,.nm 12),(13,.nm 13),(24,.nm 24)],.p .bool false,dO h w f (Gy L) d la (CN h w f n i) (CN h w f n i).2.2.2 (.sr 60 T3 0 (CN h w f n i).2.1.length) 0,rfl,rfl,?_,?_,rfl,rfl,?_⟩
  .simp only[dO,Da,dE];first|exact eN|refine eM ?_
  .first|exact eN|refine eM ?_
  simp only[dO,Da,dE];refine rL a ?_ ?_
  .trivial
  repeat'(first|exact trivial|apply eS rfl|apply AB|refine rX a ?_ ?_|refine rC ?_ ?_<;>intro c<;>try(cases c;done))
  refine Ev.ent (σ':=⟨[],dO h w f (Gy L) d la (CN h w f n i) (CN h w f n i).2.2.2 (.sr 60 T3 0 (CN h w f n i).2.1.length) 0⟩) ?_ (AC [(50,.nm 50),(51,.nm 51),(52,.nm 52),(101,.nm 101),(102,.nm 102),(6,.nm 6),(7,.nm 7),(8,.nm 8),(4,.nm 4),(11,.nm 11),(60,.nm 60),(12,.nm 12),(13,.nm 13),(24,.nm 24)] rfl rfl ?_ ?_)
  .exact fM a [] (.raw (.tuple #[])) rfl ⟨rfl,i,hi,k⟩
  .simp only[dO,Da,dE];first|exact eN|refine eM ?_
  first|exact eN|refine eM ?_
 .refine⟨[(50,.nm 50),(51,.nm 51),(52,.nm 52),(101,.nm 101),(102,.nm 102),(6,.nm 6),(7,.nm 7),(8,.nm 8),(4,.nm 4),(11,.nm 11),(60,.nm 60),(12,.nm 12),(13,.nm 13),(24,.nm 24)],.p .bool false,dO h w f (Gy L) d la (CN h w f n i) (CN h w f n i).2.2.2 (.raw (.slice none 0 0)) e,rfl,rfl,?_,?_,rfl,rfl,?_⟩
  .simp only[dO,Da,dE];first|exact eN|refine eM ?_
  .first|exact eN|refine eM ?_
  simp only[dO,Da,dE];refine rL a ?_ ?_
  .trivial
  repeat'(first|exact trivial|apply eS rfl|apply AB|refine rX a ?_ ?_|refine rC ?_ ?_<;>intro c<;>try(cases c;done))
  refine Ev.ent (σ':=⟨[],dO h w f (Gy L) d la (CN h w f n i) (CN h w f n i).2.2.2 (.raw (.slice none 0 0)) e⟩) ?_ (AC [(50,.nm 50),(51,.nm 51),(52,.nm 52),(101,.nm 101),(102,.nm 102),(6,.nm 6),(7,.nm 7),(8,.nm 8),(4,.nm 4),(11,.nm 11),(60,.nm 60),(12,.nm 12),(13,.nm 13),(24,.nm 24)] rfl rfl ?_ ?_)
  .exact fM a [] (.raw (.tuple #[])) rfl ⟨rfl,i,hi,k⟩
  .simp only[dO,Da,dE];first|exact eN|refine eM ?_
  first|exact eN|refine eM ?_
 have hk:=Jc g;refine⟨[(50,.nm 50),(51,.nm 51),(52,.nm 52),(101,.nm 101),(102,.nm 102),(6,.nm 6),(7,.nm 7),(8,.nm 8),(4,.nm 4),(11,.nm 11),(60,.nm 60),(12,.nm 12),(13,.nm 13),(24,.nm 24)],.p .bool true,dO h w f L d la (CN h w f n (i+1)) (CN h w f n i).2.2.2 (.raw (.slice none 0 0)) 0,rfl,rfl,?_,?_,rfl,rfl,?_⟩
 .simp only[dO,Da,dE];first|exact eN|refine eM ?_
 .first|exact eN|refine eM ?_
 simp only[dO,Da,dE];refine rL a ?_ ?_
 .trivial
 repeat'(first|exact trivial|apply eS rfl|apply AB|refine rX a ?_ ?_|refine rC ?_ ?_<;>intro c<;>try(cases c;done))
 .exact⟨hf,r⟩
 .refine⟨⟨i+1,λj o=>(Nat.lt_succ_iff_lt_or_eq.1 o).elim (hi j) λe=>by rw[e];exact g⟩,by simp only;omega,AC [(50,.nm 50),(51,.nm 51),(52,.nm 52),(101,.nm 101),(102,.nm 102),(6,.nm 6),(7,.nm 7),(8,.nm 8),(4,.nm 4),(11,.nm 11),(60,.nm 60),(12,.nm 12),(13,.nm 13),(24,.nm 24)] rfl rfl ?_ ?_⟩
  .simp only[dO,Da,dE];first|exact eN|refine eM ?_
   rfl
  first|exact eN|refine eM ?_
 exact absurd hk.2.2 c
end
end Go.Proofs.YtglkoagnnnpimaaGreatDoor.Fw
