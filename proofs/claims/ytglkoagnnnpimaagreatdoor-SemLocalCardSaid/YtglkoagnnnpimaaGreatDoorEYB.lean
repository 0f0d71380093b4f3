/- Contracts of functions and plain laws. -/
import Derived.Test.YtglkoagnnnpimaaGreatDoorEYA
import Derived.Test.YtglkoagnnnpimaaGreatDoorEZI
import Derived.Test.YtglkoagnnnpimaaGreatDoorEZJ
import Derived.Laws.Strings
set_option linter.unusedVariables false
set_option linter.unusedSimpArgs false
namespace Go.Proofs.YtglkoagnnnpimaaGreatDoor.Fw
attribute [local irreducible] Ev
attribute [local go_sem] n8 AM List.toList_toArray B2 evG evK W6 FD Lb Ig HO Ge R1 La Cc Dp O3 DM Cw frz sO G1 Db BE F6 Bg AV.frz AV.frzs AV.drp AV.drps AV.names AV.namess aq G2 LP LQ UB J4 Bx B6 Kx EV J7 EW J9 J8 KA W4 Rr Hn Mg F8 El W5 Sn qUn Ky JT Np Fg EL KB LS E4 UD C0 E5 Fh So JU Oz Fi Oy Ru Sp NM KC LT Dd DE Fl EM I4 DX Fj DY E6 Gd DM C5 Ow Sm Qm HI J6 J5 LR O2 Rx NN Nt Nr LV UE Ns LX bZ Rz Ry AV.trn AV.trns EU Cz Obj.trn K6 kH Da D1 DZ E7 Ci Fk Aj lk Ia G9 I2 bin sM ZB sQ UC T8 zfx AV.cellss sN zfs pfs AV.cells CU E3 JS F9 Rw CV Ox Ty.cell1 J3 FG EK Gb I1 E2 LJ NL Ov Ga HH Nn T7 W3 NC LI bU jE UA Ib C6 Hm RV.flat Ty.flat Ty.size St.add upd del Bk Value.oneCell' Y9 Ty.dflt J2 TH Jb TP List.take_succ_cons List.take_zero List.length_cons oB oC TN Lt PW Jd Mt A3F HP PJ PK PM PN Ua Ub PO KM ZX Option.map_some Option.map_none Option.bind_some Option.getD_some Option.getD_none Option.isNone_none Option.isNone_some Bool.and_true Bool.true_and Bool.and_false Bool.false_and Bool.not_true Bool.not_false if_true if_false List.length_cons List.length_nil and_true true_and and_self List.all_cons List.all_nil List.append_nil List.nil_append List.cons_append List.getElem?_cons_zero List.getElem?_cons_succ List.getElem?_nil List.map_cons List.map_nil List.set_cons_zero List.set_cons_succ List.isEmpty_nil List.isEmpty_cons decide_true decide_false beq_self_eq_true bne_self_eq_false Nat.zero_add Nat.add_zero Nat.sub_zero Int.toNat_natCast Int.toNat_zero Int.toNat_one List.take_length List.length_append List.length_singleton true_or or_true or_self false_or or_false Ty.agg.injEq Ty.slice.injEq Ty.prod.injEq Ty.int.injEq Option.some.injEq beq_iff_eq Lr evMG evMQ opM JD NS CD K5 HQ Ue K4 JC KN Mr Lq Qv PR Qw Uf PQ TK TL Mq Ag Ao Op.operands Call.operands List.filterMap_cons List.filterMap_nil List.append_eq Bool.cond_false_right Bool.cond_true_left cond_true cond_false implies_true decide_eq_true_eq beq_true beq_false Bool.or_true Bool.or_false Bool.true_or Bool.false_or Option.isSome_some Array.empty_append List.append_toArray F7 O4 Fm Ic bX Rv bW Gc Hf He JV I3 LU Nq ZC sP Hc inB LY GU HJ LZ Au oH List.drop_zero EF Ii dF C8 N5 Cv AV.fgt AV.fgts Obj.fgt A5 A1 Ag Ea Lv Bz Lw List.any_cons List.any_nil oK kA dH kB ND Ss qs List.flatMap_cons List.flatMap_nil List.cons_append tn dM NT List.take_succ_cons List.drop_succ_cons dP Hy Bh yP Q4 CX Cr Ar Fs Lk B8 matchAVs DF JB KK Hu KL
attribute [local go_sem] ty1 ty2 ty3 ty4 ty5 ty9 A77 A78 A79 A7a A7b A7c A7d A7e A7f A7g A7h A7i A7j A7k A7l A7m A7n A7o A7p A7q A7r A7s A7t A7u A7v A7w A7x A7y yY yZ y3 y4 y5 y6 y7 y8 y9 zA zB zC zD zE zF zG zH zI zJ zK zL zN zO zP zQ zR zS zT zU zV zW zX zY zZ z0 z4 z5 z6
set_option maxRecDepth 100000
set_option maxHeartbeats 4000000
variable {f g c:List AD} {p q Q:List Int} {n b S:Int} {k j P:Nat} {h:AE} {l U:List (Int×Int)} {s x y:ByteArray} {Z:List (Int×List (Int×Int))} {Y:List (List (Int×Int))} {A:List (List AD)} {m w:Int->Int} {X:Type} {a:Int->Nat} {W d:EI} {V:List (Int×Bool)} {T:List (List Int)} {v:Int×Int} {R:List Bool} {O:AD} {N:AR}
theorem fY {L:Go.Loop} (h1:L.state=.ready) (a:L.pending=none):{ { L with state:=.busy } with state:=.ready,pending:=none }=L:=by
 cases L;simp_all
theorem YS (l:List (Int×Int)):BF Tryz.prog 139 [.p L5 l] [] [] (λres b=>res=.clo 177 [1]/\b=[(1,.box 55 false [.p L5 l])]):=by
 refine J0 [0,1,2] [] [] Tryz.func139 Tryz.ntmps139 AH ?_;intro w0 K O0 ρ0 a c d;simp only[Au];repeat'(first|exact a6|apply eS rfl|refine rX a ?_ ?_)
 exact fM a [.tmp 2] (.clo 177 [1]) eT ⟨rfl,rfl⟩
def CR (l:List (Int×Int)) (L:Go.Loop) (a:Array Value) (i:Nat):List (Nat×Obj):=[(1,.box 55 false [.p L5 l]),(101,.loop L),(102,.frame a [(2,.bp 2 [] 0),(6,.clo 177 [1])]),(2,.box 55 false [.sr 7 C4 0 i]),(7,.arr 59 C4 (l.take i))]
theorem mA (l:List (Int×Int)) (g:l.length<=100000) (L:Go.Loop) (b:Array Value) (f:∀i,i<l.length->Xq Tryz.prog 101 [.p C4 (l.getD i (0,0))] (CR l L b i) [1,101,102,2] (λres e=>res=.p .bool true/\e=CR l L b (i+1))) :
  BF Tryz.prog 177 [.yl 101,.bp 1 [] 0] (CR l L b 0) [1,101,102,2] (λres e=>res=.raw (.tuple #[])/\e=CR l L b l.length):=by
 refine J0 [0,1,4,5,6,7,8,14] [] [] Tryz.func177 Tryz.ntmps177 AH ?_;intro w0 K O0 ρ0 a h j;simp only[Au,CR];repeat'(first|exact a6|apply eS rfl|refine rX a ?_ ?_)
 refine AJ (ι:={i:Nat//i<=l.length}) (λi=>⟨[(0,.yl 101),(1,.bp 1 [] 0),(5,.p L5 l),(6,.p (.int .i64) (l.length:Int)),(7,.p (.int .i64) (i.1:Int))],CR l L b i.1⟩) (λi=>l.length-i.1) ⟨0,O1⟩ (AC [(1,.nm 1),(101,.nm 101),(102,.nm 102),(2,.nm 2),(7,.nm 7)] rfl rfl ?_ ?_) (λi=>?_)
 .simp only[CR];exact eN
 .exact eN
 obtain⟨i,hi⟩:=i;simp only[CR];repeat'(first|exact a6|apply eS rfl|refine rX a ?_ ?_|refine rC ?_ ?_<;>intro c<;>try(cases c;done))
 .exact eV
 .have d:i<l.length:=by exact eV
  refine cP 2 a ?_ ?_
  .trivial
  refine rY 101 101 a (f i d) [(1,.nm 1),(101,.nm 101),(102,.nm 102),(2,.nm 2),(7,.nm 7)] [7] ?_ ?_ ?_
  .exact eN
  .simp only[CR];exact eN
  rintro _ _ ⟨rfl,rfl⟩;refine⟨[(1,.nm 1),(101,.nm 101),(102,.nm 102),(2,.nm 2),(7,.nm 7)],.p .bool true,CR l L b (i+1),rfl,rfl,?_,?_,rfl,rfl,?_⟩
  .simp only[CR];exact eN
  .exact eN
  simp only[CR];refine Gg [0,1,5,6,7,14] a a1 ?_ ?_
  .trivial
  repeat'(first|apply eS rfl|apply AB|refine rX a ?_ ?_|refine rC ?_ ?_<;>intro c<;>try(cases c;done))
  .exact eV
  refine⟨⟨i+1,O1⟩,a2,AC [(1,.nm 1),(101,.nm 101),(102,.nm 102),(2,.nm 2),(7,.nm 7)] rfl rfl ?_ ?_⟩
  .simp only[CR];exact eN
  exact eN
 have d:i=l.length:=by exact eV
 subst d;refine fM a [] (.raw (.tuple #[])) rfl ⟨rfl,?_⟩;simp only[CR,sL]
theorem aA (l:List (Int×Int)) (n:l.length<=100000):BF Tryz.prog 189 [.raw (.slice none 0 0),.clo 177 [1]] [(1,.box 55 false [.p L5 l])] [] (λres q=>res=.sr 7 C4 0 l.length/\q=[(7,.arr 59 C4 l)]):=by
 refine fKR [0,1,2,4,5,6,7] [] [] Tryz.func189 Tryz.ntmps189 AH ?_;intro w0 K O0 ρ0 a t u;simp only[Au];repeat'(first|exact a6|apply eS rfl|refine rX a ?_ ?_)
 refine dS a rfl rfl a1 101 103 102 rfl rfl rfl rfl ?_;intro L c d f g h j k o;refine⟨_,CR l L c 0,[1,101,102,2],_,[(1,.nm 1),(101,.nm 101),(102,.nm 102),(2,.nm 2),(7,.nil)],[],mA l n L c ?_,rfl,rfl,?_,?_,rfl,?_⟩
 .intro i hi;refine dQ (fr:=102) rfl rfl d h j k g o rfl a5 sc rfl rfl a5 a5 (tyTab_ok [] [0,1,2,4,5,6,7]) AH ?_;intro y r s z x a v w m;simp only[CR,Hy];repeat'(first|exact a6|apply AB|refine rX a ?_ ?_)
  refine⟨rfl,?_⟩;repeat'(first|apply eS rfl|refine rX a ?_ ?_)
  .simp only[AP];omega
  have e:List.take i (List.take i l)++[((l.getD i (0,0)).1,(l.getD i (0,0)).2)]=l.take (i+1):=by
   rw[Ay l (0,0) hi,BY (Nat.le_of_eq (by rw[Of];omega):(l.take i).length<=i)]
  refine Ev.ent (σ':=⟨[],[(1,.box 55 false [.p L5 l]),(101,.loop { L with state:=.busy }),(102,.frame c [(2,.bp 2 [] 0),(6,.clo 177 [1])]),(2,.box 55 false [.sr 7 C4 0 (i+1)]),(7,.arr 59 C4 (l.take (i+1)))]⟩) ?_ (AC [(1,.nm 1),(101,.nm 101),(102,.nm 102),(2,.nm 2),(7,.nm 7)] rfl rfl ?_ ?_)
  .refine Xr a (yn:=101) rfl rfl sc m ⟨rfl,?_⟩;simp only[CR,go_sem,Nat.reduceEqDiff,reduceCtorEq,Nat.reduceAdd,Nat.reduceSub,Nat.reduceMul,Nat.reduceLeDiff,Nat.reduceLT,Int.reduceLE,Int.reduceToNat,Int.reduceNeg,↓reduceIte,fY d f]
  .refine eM ?_;exact e
  exact eN
 .simp only[Bh];exact eN
 .simp only[Bh,CR];exact eN
 rintro _ _ ⟨rfl,rfl⟩;refine⟨[(1,.nm 1),(101,.nm 101),(102,.nm 102),(2,.nm 2),(7,.nm 7)],CR l L c l.length,L,rfl,rfl,?_,rfl,rfl,rfl,by rw[d];rfl,?_⟩
 .simp only[CR];exact eN
 intro b;rw[f];simp only[EvJ,CR,Bh,go_sem,Nat.reduceEqDiff,reduceCtorEq,Nat.reduceAdd,Nat.reduceSub,Nat.reduceMul,Nat.reduceLeDiff,Nat.reduceLT,Int.reduceLE,Int.reduceToNat,Int.reduceNeg,↓reduceIte];replace a:=Q5 (dn:=103) (b:=b) a;repeat'(first|exact a6|apply eS rfl|refine rX a ?_ ?_)
 refine Ev.ent (σ':=⟨[(4,.sr 7 C4 0 l.length)],[(7,.arr 59 C4 l),(103,.dfr)]⟩) ?_ (AC [(7,.nm 7),(103,.nm 103)] rfl rfl ?_ ?_)
 .exact U4 a [.tmp 4] rfl (.inl rfl) rfl rfl (.sr 7 C4 0 l.length) eT ⟨rfl,by simp only[go_sem,Nat.reduceEqDiff,reduceCtorEq,Nat.reduceAdd,Nat.reduceSub,Nat.reduceMul,Nat.reduceLeDiff,Nat.reduceLT,Int.reduceLE,Int.reduceToNat,Int.reduceNeg,↓reduceIte]⟩
 .exact eN
 exact eN
theorem mB (l:List (Int×Int)) (b:l.length<=100000):BF Tryz.prog 175 [.clo 177 [1]] [(1,.box 55 false [.p L5 l])] [] (λres c=>res=.sr 7 C4 0 l.length/\c=[(7,.arr 59 C4 l)]):=by
 refine J0 [0,2] [] [] Tryz.func175 Tryz.ntmps175 AH ?_;intro w0 K O0 ρ0 a d e;simp only[Au];repeat'(first|exact a6|apply eS rfl|refine rX a ?_ ?_)
 refine cP 1 a ?_ ?_
 .trivial
 refine rM a (aA l b) [(1,.nm 1)] [1] ?_ ?_ ?_
 .exact eN
 .exact eN
 rintro _ _ ⟨rfl,rfl⟩;refine⟨[(7,.nm 7)],.sr 7 C4 0 l.length,[(7,.arr 59 C4 l)],rfl,rfl,?_,?_,rfl,rfl,?_⟩
 .exact eN
 .exact eN
 refine Gg [2] a a1 ?_ ?_
 .trivial
 repeat' apply eS rfl
 exact fM a [.tmp 2] (.sr 7 C4 0 l.length) eT ⟨rfl,rfl⟩
theorem A10 (x:Int) (h0:0<=x) (h1:x<256):BF Tryz.prog 209 [.p (.int .u64) x] [] [] (λres g=>(∃n:Int,res=.p T3 n/\(13<=x->n≠0))/\g=[]):=by
 refine J0 [0,2,4,8,14] [] [] Tryz.func209 Tryz.ntmps209 AH ?_;intro w0 K O0 ρ0 a i j;simp only[Au];repeat'(first|exact a6|apply eS rfl|refine rX a ?_ ?_|refine rC ?_ ?_<;>intro b<;>try(cases b;done))
 all_goals first|(exfalso;omega)|skip
 refine Lx [0,2] a rfl (by simp only[go_sem,Nat.reduceEqDiff,reduceCtorEq,Nat.reduceAdd,Nat.reduceSub,Nat.reduceMul,Nat.reduceLeDiff,Nat.reduceLT,Int.reduceLE,Int.reduceToNat,Int.reduceNeg,↓reduceIte,ByteArray.size,List.size_toArray,AP];rfl) ?_ ?_
 .have hu:∀u:UInt8,((u.toNat:Nat):Int)<=255:=λu=>by have:=u.toNat_lt;omega
  refine⟨⟨h0,O1⟩,⟨h0,?_⟩,⟨?_,?_⟩,?_,?_⟩
  .have c:x<((256:Nat):Int):=h1;exact c
  .exact ABK df (AAX _)
  .exact ABK (hu _) df
  .rw[Int.zero_add];exact ABK df (AAX _)
  rw[Int.zero_add];exact ABK (hu _) df
 repeat' apply eS rfl
 refine fM a [.tmp 2] (.p T3 _) (by simp only[SI,tF,Qz,Xi,I9,KJ,JA,go_sem,Nat.reduceEqDiff,reduceCtorEq,Nat.reduceAdd,Nat.reduceSub,Nat.reduceMul,Nat.reduceLeDiff,Nat.reduceLT,Int.reduceLE,Int.reduceToNat,Int.reduceNeg,↓reduceIte];rfl) ⟨⟨_,rfl,λh=>?_⟩,rfl⟩;rw[Int.zero_add];intro e;replace e:=Int.ofNat.inj e;have d:x.toNat<256:=by omega
 have f:13<=x.toNat:=by omega
 generalize x.toNat=k at *;clear b;exact absurd e (by
  clear e;revert f;revert d;revert k;decide)
theorem A7J (x:Int) (h0:0<=x) (h1:x<256):BF Tryz.prog 191 [.p (.int .u64) x] [] [] (λres d=>(∃n:Int,res=.p T3 n/\(13<=x->n≠0))/\d=[]):=by
 refine J0 [0,2] [] [] Tryz.func191 Tryz.ntmps191 AH ?_;intro w0 K O0 ρ0 a e f;simp only[Au];repeat'(first|exact a6|apply eS rfl|refine rX a ?_ ?_|refine rC ?_ ?_<;>intro b<;>try(cases b;done))
 refine cP 1 a ?_ ?_
 .trivial
 refine rM a (A10 x h0 h1) [] [] ?_ ?_ ?_
 .exact eN
 .exact eN
 rintro _ _ ⟨⟨n,rfl,c⟩,rfl⟩;refine⟨[],.p T3 n,[],rfl,rfl,?_,?_,rfl,rfl,?_⟩
 .exact eN
 .exact eN
 refine Gg [2] a a1 ?_ ?_
 .trivial
 repeat' apply eS rfl
 exact fM a [.tmp 2] (.p T3 n) eT ⟨⟨_,rfl,c⟩,rfl⟩
theorem fZ (l:List (Int×Int)) (b:SS l) (hs:YP l):BF Tryz.prog 176 [.sr 1000000 C4 0 l.length,.fn 140] [(1000000,.arr 59 C4 l)] [1000000] (λres e=>res=.raw (.tuple #[])/\e=[(1000000,.arr 59 C4 (Ae l))]):=by
 have f:=b.1;refine J0 [0,1,4] [] [] Tryz.func176 Tryz.ntmps176 AH ?_;intro w0 K O0 ρ0 a g h;simp only[Au];repeat'(first|exact a6|apply eS rfl|refine rX a ?_ ?_)
 refine cP 4 a ?_ ?_
 .exact eV
 refine rM a (A7J (l.length:Int) O1 O1) [] [] ?_ ?_ ?_
 .exact eN
 .exact eN
 rintro _ _ ⟨⟨n,rfl,d⟩,rfl⟩;refine⟨[],.p T3 n,[],rfl,rfl,?_,?_,rfl,rfl,?_⟩
 .exact eN
 .exact eN
 have key:=A4v l b.1 hs b.2 n λq=>d O1;refine PU a 1 a1 ?_ ?_
 .trivial
 refine rM a (key) [(1000000,.nm 1000000)] [] ?_ ?_ ?_
 .exact eN
 .exact eN
 rintro _ _ ⟨rfl,rfl⟩;have i:=CZ l;refine⟨[(1000000,.nm 1000000)],.raw (.tuple #[]),[(1000000,.arr 59 C4 (Ae l))],rfl,rfl,?_,?_,rfl,rfl,FF ?_⟩
 .exact eN
 .exact eN
 repeat'(first|exact a6|apply eS rfl|apply AB|refine rX a ?_ ?_|refine rC ?_ ?_<;>intro c<;>try(cases c;done))
 exact fM a [] (.raw (.tuple #[])) rfl ⟨rfl,rfl⟩
theorem Nc (l:List (Int×Int)) (b:SS l) (hs:YP l):BF Tryz.prog 138 [.clo 177 [1],.fn 140] [(1,.box 55 false [.p L5 l])] [] (λres c=>res=.sr 7 C4 0 l.length/\c=[(7,.arr 59 C4 (Ae l))]):=by
 have g:=CZ l;have d:=b.1;refine J0 [0,1,4,5] [] [] Tryz.func138 Tryz.ntmps138 AH ?_;intro w0 K O0 ρ0 a e f;simp only[Au];repeat'(first|exact a6|apply eS rfl|refine rX a ?_ ?_)
 refine cP 1 a ?_ ?_
 .trivial
 refine rM a (mB l O1) [(1,.nm 1)] [1] ?_ ?_ ?_
 .exact eN
 .exact eN
 rintro _ _ ⟨rfl,rfl⟩;refine⟨[(1000000,.nm 7)],.sr 1000000 C4 0 l.length,[(1000000,.arr 59 C4 l)],rfl,rfl,?_,?_,rfl,rfl,?_⟩
 .exact eN
 .exact eN
 refine Gg [1,5] a a1 ?_ ?_
 .trivial
 repeat' apply eS rfl
 refine cP 2 a ?_ ?_
 .trivial
 refine rM a (fZ l b hs) [(1000000,.nm 1000000)] [] ?_ ?_ ?_
 .exact eN
 .exact eN
 rintro _ _ ⟨rfl,rfl⟩;refine⟨[(1000000,.nm 1000000)],.raw (.tuple #[]),[(1000000,.arr 59 C4 (Ae l))],rfl,rfl,?_,?_,rfl,rfl,FF ?_⟩
 .exact eN
 .exact eN
 repeat'(first|exact a6|apply eS rfl|refine rX a ?_ ?_)
 refine Ev.ent (σ':=⟨[(4,.sr 7 C4 0 l.length)],[(7,.arr 59 C4 (Ae l))]⟩) ?_ (AC [(7,.nm 1000000)] rfl rfl ?_ ?_)
 .exact fM a [.tmp 4] (.sr 7 C4 0 l.length) eT ⟨rfl,rfl⟩
 .exact eN
 exact eN
def LE (f:List AD) (o:List Int):List (Nat×Obj):=[(1,.box 101 false [.sr 5 T3 0 o.length]),(2,.box 79 false [.mp 6]),(3,.box 34 true [.p J1 f]),(4,.box 176 false [.clo 137 [1,2,3,4]]),(5,.arr 3 T3 o),(6,.mapo T3 T3 (wO o))]
theorem A9O {o:List Int} (h:LM f o):LM (DK f) o:=⟨h.nd,λx a=>by rw[Ee];exact h.rng x a⟩
theorem A6b {o:List Int} (h:LM (DK f) o):LM f o:=⟨h.nd,λx a=>by have:=h.rng x a;rwa [Ee]at this⟩
theorem u3 (f:List AD) (hf:AX f) (hs:wP f):∀(k:Nat) (o:List Int) (n:Int),LM f o->0<=n->n<f.length->n∉o->f.length-o.length<=k ->
  BF Tryz.prog 137 [.p T3 n,.bp 1 [] 0,.bp 2 [] 0,.bp 3 [] 0,.bp 4 [] 0] (LE f o) [1,2,3,4,6] (λres Q=>res=.raw (.tuple #[])/\Q=LE f (Dn (DK f) k o n)):=by
 intro k;induction k with
 | zero =>
  intro o n h0 h1 B C R;have:=(h0.snoc h1 B C).len;simp only[IS,nO]at this;omega
 | succ k P =>
  intro o n E u v w hk;have t:=E.snoc u v w;have I:=t.len;simp only[IS,nO]at I;have S:=hf.1;refine J0 [0,1,2,3,4,7,9,25,26,27,28,39] [] [] Tryz.func137 Tryz.ntmps137 AH ?_;intro w0 K O0 ρ0 b U V;simp only[LE,Au];repeat'(first|exact a6|apply eS rfl|refine rX b ?_ ?_)
  .simp only[AP];omega
  rw[A0V w];obtain⟨O,A⟩:=p5 hs n;have T:=A.1;have s:=λa (ha:a∈Ae (f.getD n.toNat (0,[])).2)=>CM hf ((Er _).mem_iff.1 ha);have G:Dn (DK f) (k+1) o n=(Ae (f.getD n.toNat (0,[])).2).foldl (BA (DK f) k) (o++[n]):=by rw[Ca,P7]
  have F:=A9O (f:=f) t;refine cP 6 b ?_ ?_
  .exact⟨u,v⟩
  generalize (f.getD n.toNat (0,[])).2=g at *;refine rM b (YS g) [] [] ?_ ?_ ?_
  .exact eN
  .exact eN
  rintro _ _ ⟨rfl,rfl⟩;refine⟨[(50,.nm 1)],.clo 177 [50],[(50,.box 55 false [.p L5 g])],rfl,rfl,?_,?_,rfl,rfl,?_⟩
  .exact eN
  .exact eN
  refine rM b (Nc g A O) [(1,.nm 50)] [50] ?_ ?_ ?_
  .exact eN
  .exact eN
  rintro _ _ ⟨rfl,rfl⟩;have D:=CZ g;rw[<-D];generalize Ae g=L at *;refine⟨[(51,.nm 7)],.sr 51 C4 0 L.length,[(51,.arr 59 C4 L)],rfl,rfl,?_,?_,rfl,rfl,?_⟩
  .exact eN
  .exact eN
  refine Gg [0,1,2,3,4,25,26,27] b a1 ?_ ?_
  .trivial
  have N:∀i,LM (DK f) ((L.take i).foldl (BA (DK f) k) (o++[n]))/\o++[n] <+: (L.take i).foldl (BA (DK f) k) (o++[n]):=λi=>Gr (FN (M3 hf) k) _ _ (λa ha=>by rw[Ee];exact s a (AAC ha)) F;generalize J:o++[n]=q at *;have M:q.length=o.length+1:=by rw[<-J];simp
  rw[<-M];repeat' apply eS rfl
  refine AJ (ι:={i:Nat//i<=L.length}) (λi=>⟨[(0,.p T3 n),(1,.bp 1 [] 0),(2,.bp 2 [] 0),(3,.bp 3 [] 0),(4,.bp 4 [] 0),(25,.p L5 L),(26,.p (.int .i64) (L.length:Int)),(27,.p (.int .i64) (i.1:Int))],LE f ((L.take i.1).foldl (BA (DK f) k) q)⟩) (λi=>L.length-i.1) ⟨0,O1⟩ (A9j [51] (AC [(1,.nm 1),(2,.nm 2),(3,.nm 3),(4,.nm 4),(5,.nm 5),(6,.nm 6)] rfl rfl ?_ ?_)) (λi=>?_)
  .simp only[LE,ABi,ACY];exact eN
  .exact eN
  obtain⟨i,hi⟩:=i;obtain⟨j,y⟩:=N i;replace j:=A6b j;have r:=λ(h:i<L.length)=>RW (BA (DK f) k) L (0,0) q h;have H:=y.length_le;generalize x:(L.take i).foldl (BA (DK f) k) q=c at j y r H;simp only[LE];repeat'(first|exact a6|apply eS rfl|apply AB|refine rX b ?_ ?_|refine rC ?_ ?_<;>intro d<;>try(cases d;done))
  .exact eV
  .have l:i<L.length:=by exact eV
   have z:=s _ (AF L (0,0) l);have m:(L.getD i (0,0)).2∉c:=by rw[Vq]at d;simpa using d
   refine cP 3 b ?_ ?_
   .trivial
   refine rM b (P c (L.getD i (0,0)).2 j z.1 z.2 m O1) [(1,.nm 1),(2,.nm 2),(3,.nm 3),(4,.nm 4),(5,.nm 5),(6,.nm 6)] [5] ?_ ?_ ?_
   .exact eN
   .simp only[LE];exact eN
   rintro _ _ ⟨rfl,rfl⟩;refine⟨[(1,.nm 1),(2,.nm 2),(3,.nm 3),(4,.nm 4),(5,.nm 5),(6,.nm 6)],.raw (.tuple #[]),LE f (Dn (DK f) k c (L.getD i (0,0)).2),rfl,rfl,?_,?_,rfl,rfl,FF ?_⟩
   .simp only[LE];exact eN
   .exact eN
   simp only[LE];repeat'(first|apply eS rfl|apply AB|refine rX b ?_ ?_)
   .exact eV
   have e:BA (DK f) k c (L.getD i (0,0))=Dn (DK f) k c (L.getD i (0,0)).2:=An m;refine⟨⟨i+1,O1⟩,a2,AC [(1,.nm 1),(2,.nm 2),(3,.nm 3),(4,.nm 4),(5,.nm 5),(6,.nm 6)] rfl rfl ?_ ?_⟩
   .simp only[r l,e];exact eN
   exact eN
  .exact eV
  .have l:i<L.length:=by exact eV
   have m:(L.getD i (0,0)).2∈c:=by rw[Vq]at d;simpa using d
   have e:BA (DK f) k c (L.getD i (0,0))=c:=At m;refine⟨⟨i+1,O1⟩,a2,AC [(1,.nm 1),(2,.nm 2),(3,.nm 3),(4,.nm 4),(5,.nm 5),(6,.nm 6)] rfl rfl ?_ ?_⟩
   .simp only[r l,e];exact eN
   exact eN
  have hk:L.take i=L:=BY eV;rw[hk]at x;rw[G,x];exact fM b [] (.raw (.tuple #[])) rfl ⟨rfl,rfl⟩
section
theorem u4 {α a:Type} (g:α->a) (o:List α) (d:α) (z:a) {i:Nat} (h:i<o.length):((o.take i).map g++List.replicate (o.length-i) z).set i (g (o.getD i d))=(o.take (i+1)).map g++List.replicate (o.length-(i+1)) z:=by
 obtain⟨m,c⟩:∃m,o.length-i=m+1:=⟨o.length-i-1,O1⟩;have e:o.length-(i+1)=m:=by omega
 have b:((o.take i).map g).length=i:=by rw[On,Of];omega
 rw[c,e,ACy _ _ O1,b,ABB,List.replicate_succ,ACO,Ay o d h,AAH];simp
def Tg:Ab:={ ins:=[Ff,T3],pre:=λ(f,n,_)=>AX f/\wP f/\0<=n/\n<(List.length f:Int),out:=λ(f,n,_)=>[.p Ff (AN (DK f) n)] }
attribute [local go_sem] Tg
theorem u5:Af Tryz.prog 92 Tg:=by
 refine fK [0,1,2,4,5,6,7,8,9,10,11,12,22,23,24,25,38,39,40] Tryz.func92 Tryz.ntmps92 AH ?_;rintro w0 O0 ⟨f,root,u⟩ a-⟨hf,hs,r,s⟩;simp only[Tg,AM];have z:=hf.1;have l:LM f []:=⟨sc,λx D=>by cases D⟩;obtain⟨g,I⟩:=FN (M3 hf) f.length [] root (A9O l) r (by rw[Ee];exact s) sc;replace g:=A6b g;have w:AN (DK f) root=(Dn (DK f) f.length [] root).map (HD (DK f) (Dn (DK f) f.length [] root)):=by unfold AN;rw[Ee]
 rw[w];repeat'(first|exact a6|apply eS rfl|apply AB|refine rX a ?_ ?_|refine rC ?_ ?_<;>intro c<;>try(cases c;done))
 refine cP 2 a ?_ ?_
 .trivial
 refine rM a (u3 f hf hs (List.length f) [] root l r s sc sc) [(1,.nm 6),(2,.nm 5),(3,.nm 2),(4,.nm 7),(5,.nil),(6,.nm 13)] [] ?_ ?_ ?_
 .exact eN
 .simp only[LE];refine eM ?_;rfl
 rintro _ _ ⟨rfl,rfl⟩;refine⟨[(6,.nm 1),(5,.nm 2),(2,.nm 3),(7,.nm 4),(101,.nm 5),(13,.nm 6)],.raw (.tuple #[]),[(6,.box 101 false [.sr 101 T3 0 (Dn (DK f) (List.length f) [] root).length]),(5,.box 79 false [.mp 13]),(2,.box 34 true [.p J1 f]),(7,.box 176 false [.clo 137 [6,5,2,7]]),(101,.arr 3 T3 (Dn (DK f) (List.length f) [] root)),(13,.mapo T3 T3 (wO (Dn (DK f) (List.length f) [] root)))],rfl,rfl,?_,?_,rfl,rfl,FF ?_⟩
 .simp only[LE];exact eN
 .exact eN
 generalize Dn (DK f) (List.length f) [] root=o at *;have H:=g.len;repeat'(first|exact a6|apply eS rfl|apply AB|refine rX a ?_ ?_|refine rC ?_ ?_<;>intro c<;>try(cases c;done))
 .simp only[AP];omega
 refine AJ (ι:={i:Nat//i<=o.length}) (λi=>⟨[(2,.bp 2 [] 0),(4,.bp 4 [] 0),(5,.bp 5 [] 0),(8,.bp 8 [] 0),(22,.sr 101 T3 0 o.length),(23,.p (.int .i64) (o.length:Int)),(24,.p (.int .i64) (i.1:Int))],[(8,.box 34 true [.sr 20 TX 0 o.length]),(20,.arr 57 TX ((o.take i.1).map (HD (DK f) o)++List.replicate (o.length-i.1) (0,[]))),(5,.box 79 false [.mp 13]),(2,.box 34 true [.p J1 f]),(101,.arr 3 T3 o),(13,.mapo T3 T3 (wO o)),(4,.box 34 true [.raw (.slice none 0 0)])]⟩) (λi=>o.length-i.1) ⟨0,O1⟩ (eW [(8,.nm 8),(20,.nm 20),(5,.nm 5),(2,.nm 2),(101,.nm 101),(13,.nm 13),(4,.nm 4)]) (λi=>?_)
 obtain⟨i,hi⟩:=i;repeat'(first|exact a6|apply eS rfl|apply AB|refine rX a ?_ ?_|refine rC ?_ ?_<;>intro c<;>try(cases c;done))
 .exact eV
 .have m:i<o.length:=by exact eV
  have hn:=g.rng _ (AF o 0 m);have q:HD (DK f) o (o.getD i 0)=((f.getD (o.getD i 0).toNat (0,[])).1,(Ae (f.getD (o.getD i 0).toNat (0,[])).2).map (LN o)):=by unfold HD;rw[P7]
  obtain⟨t,j⟩:=p5 hs (o.getD i 0);have B:=j.1;refine cP 6 a ?_ ?_
  .exact hn
  have G:List.length f<=100000:=z;generalize C:o.getD i 0=n at *;generalize A:f.getD n.toNat (0,[])=x at *;obtain⟨J,d⟩:=x;simp only at t j B q;refine rM a (YS d) [] [] ?_ ?_ ?_
  .exact eN
  .exact eN
  rintro _ _ ⟨rfl,rfl⟩;refine⟨[(50,.nm 1)],.clo 177 [50],[(50,.box 55 false [.p L5 d])],rfl,rfl,?_,?_,rfl,rfl,?_⟩
  .exact eN
  .exact eN
  refine rM a (Nc d j t) [(1,.nm 50)] [50] ?_ ?_ ?_
  .exact eN
  .exact eN
  rintro _ _ ⟨rfl,rfl⟩;have v:=CZ d;rw[<-v];generalize F:Ae d=L at *;refine⟨[(51,.nm 7)],.sr 51 C4 0 L.length,[(51,.arr 59 C4 L)],rfl,rfl,?_,?_,rfl,rfl,?_⟩
  .exact eN
  .exact eN
  refine Gg [2,4,5,8,9,10,11,22,23,24] a a1 ?_ ?_
  .trivial
  repeat'(first|exact a6|apply eS rfl|apply AB|refine rX a ?_ ?_|refine rC ?_ ?_<;>intro c<;>try(cases c;done))
  refine AJ (ι:={k:Nat//k<=L.length}) (λk=>⟨[(2,.bp 2 [] 0),(4,.bp 4 [] 0),(5,.bp 5 [] 0),(8,.bp 8 [] 0),(9,.p (.int .i64) (i:Int)),(10,.p T3 n),(11,.sr 51 C4 0 L.length),(22,.sr 101 T3 0 o.length),(23,.p (.int .i64) (o.length:Int)),(24,.p (.int .i64) (i:Int)),(38,.p (.int .i64) (L.length:Int)),(39,.p (.int .i64) (k.1:Int))],[(51,.arr 59 C4 ((L.take k.1).map (LN o)++L.drop k.1)),(8,.box 34 true [.sr 20 TX 0 o.length]),(20,.arr 57 TX ((o.take i).map (HD (DK f) o)++List.replicate (o.length-i) (0,[]))),(5,.box 79 false [.mp 13]),(2,.box 34 true [.p J1 f]),(101,.arr 3 T3 o),(13,.mapo T3 T3 (wO o)),(4,.box 34 true [.raw (.slice none 0 0)])]⟩) (λk=>L.length-k.1) ⟨0,O1⟩ (eW [(51,.nm 51),(8,.nm 8),(20,.nm 20),(5,.nm 5),(2,.nm 2),(101,.nm 101),(13,.nm 13),(4,.nm 4)]) (λk=>?_)
  obtain⟨k,hk⟩:=k;repeat'(first|exact a6|apply eS rfl|apply AB|refine rX a ?_ ?_|refine rC ?_ ?_<;>intro c<;>try(cases c;done))
  .exact eV
  .exact eV
  .have h:k<L.length:=by exact eV
   have e:=Vm (LN o) (λb=>b) L (0,0) h (LN o);refine⟨⟨k+1,O1⟩,a2,AC [(51,.nm 51),(8,.nm 8),(20,.nm 20),(5,.nm 5),(2,.nm 2),(101,.nm 101),(13,.nm 13),(4,.nm 4)] rfl rfl ?_ ?_⟩
   .refine eM ?_;rw[e.2];rw[<-e.1];unfold LN;rw[<-A4r]
   exact eN
  .exact⟨hn,eV⟩
  .exact eV
  have h:L.take k=L:=BY eV;have y:L.drop k=[]:=No eV;refine⟨⟨i+1,O1⟩,a2,AC [(8,.nm 8),(20,.nm 20),(5,.nm 5),(2,.nm 2),(101,.nm 101),(13,.nm 13),(4,.nm 4)] rfl rfl ?_ ?_⟩
  .refine eM ?_;rw[h,y,AAu];have e:=u4 (HD (DK f) o) o 0 (0,[]) m;rw[C,q]at e;rw[<-e,A,BY (by simp:(L.map (LN o)).length<=L.length)]
  exact eN
 have hk:o.take i=o:=BY eV;have E:o.length-i=0:=by exact eV
 rw[hk,E];exact fI a [.cell 4 34] (by simp only[List.replicate_zero,AAu];first|exact eR|refine OC ?_;exact BY (by rw[On];exact eV))
end
def Gu (n:Int) (seen:List (Int×Int)):List (Int×Int)->Int
 | []=>0
 | x :: r=>if x.1<0\/x.2<0\/n<=x.2 then 2 else if (seen.any λy=>y.1==x.1)=true then 4 else Gu n (seen++[x]) r
def HE (l:List (Int×Int)) (n:Int):Int:=Gu n [] l
def f4:Ab:={ ins:=[L5,T3],pre:=λ_=>True,out:=λ(l,n,_)=>[.p C3 (HE l n)] }
theorem OY (n:Int) (l:List (Int×Int)) (h:k<l.length):Gu n (l.take k) (l.drop k)=if (l.getD k (0,0)).1<0\/(l.getD k (0,0)).2<0\/n<=(l.getD k (0,0)).2 then 2 else if ((l.take k).any λy=>y.1==(l.getD k (0,0)).1)=true then 4 else Gu n (l.take (k+1)) (l.drop (k+1)):=by
 rw[Ay l (0,0) h,OR h,AS,As h];rfl
theorem XJ (l:List (Int×Int)) (f:Int) (h:k<l.length):((l.take (k+1)).any λy=>y.1==f)=((l.take k).any (λy=>y.1==f)||((l.getD k (0,0)).1==f)):=by
 rw[Ay l (0,0) h,AC8];simp
theorem A4w:Af Tryz.prog 126 f4:=by
 refine fK [0,1,4,5,6,10,35,38,51] Tryz.func126 Tryz.ntmps126 AH ?_;rintro w0 O0 ⟨l,n,u⟩ b ⟨⟨h,-⟩,-⟩ -;simp only[AP]at h;simp only[f4,AM];repeat'(first|exact a6|apply eS rfl|refine rX b ?_ ?_)
 refine AJ (ι:={k:Nat//k<=l.length/\Gu n (l.take k) (l.drop k)=HE l n}) (λk=>⟨[(0,.p L5 l),(1,.p T3 n),(5,.p (.int .i64) (k.1:Int))],[]⟩) (λk=>l.length-k.1) ⟨0,by simp[HE]⟩ (AC [] rfl rfl ?_ ?_) (λk=>?_)
 .exact eN
 .exact eN
 obtain⟨k,hk,c⟩:=k;repeat'(first|exact a6|apply eS rfl|refine rX b ?_ ?_|refine rC ?_ ?_<;>intro a<;>try(cases a;done))
 .exact eV
 .have hk:k<l.length:=by exact eV
  have h1:HE l n=2:=by
   rw[<-c,OY n l hk,At (by rw[<-or_assoc];exact a)]
  exact fI b [.tmp 4] (by rw[h1];exact eR)
 .have hk:k<l.length:=by exact eV
  have hn:¬((l.getD k (0,0)).1<0\/(l.getD k (0,0)).2<0\/n<=(l.getD k (0,0)).2):=by
   have:=a;generalize l.getD k (0,0)=x at this;exact eV
  rw[OY n l hk,An hn]at c;refine AJ (ι:={j:Nat//j<=k/\((l.take j).any λy=>y.1==(l.getD k (0,0)).1)=false}) (λj=>⟨[(0,.p L5 l),(1,.p T3 n),(5,.p (.int .i64) (k:Int)),(6,.p (.int .i64) (j.1:Int))],[]⟩) (λj=>k-j.1) ⟨0,sc⟩ (AC [] rfl rfl ?_ ?_) (λj=>?_)
  .exact eN
  .exact eN
  obtain⟨j,i,f⟩:=j;repeat'(first|exact a6|apply eS rfl|apply AB|refine rX b ?_ ?_|refine rC ?_ ?_<;>intro a<;>try(cases a;done))
  .exact eV
  .have e:j<l.length:=by exact eV
   have h1:HE l n=4:=by
    have d:((l.take k).any λy=>y.1==(l.getD k (0,0)).1)=true:=by
     rw[bY];refine⟨l.getD j (0,0),?_,by simpa using a⟩;rw[AS,As e];exact ABU.2 ⟨j,eV,rfl⟩
    rw[<-c,At d]
   exact fI b [.tmp 4] (by rw[h1];exact eR)
  .exact eV
  .have e:j<l.length:=by exact eV
   refine⟨⟨j+1,eV,?_⟩,by simp only;exact eV,AC [] rfl rfl ?_ ?_⟩
   .have d:=XJ l (l.getD k (0,0)).1 e;refine d.trans ?_;rw[f];simpa using a
   .exact eN
   exact eN
  .exact eV
  have g:j=k:=by exact eV
  subst g;refine⟨⟨j+1,eV,?_⟩,by simp only;exact eV,AC [] rfl rfl ?_ ?_⟩
  .rw[<-c,An (by rw[f];simp)]
  .exact eN
  exact eN
 have h1:HE l n=0:=by
  have hk:l.length<=k:=by exact eV
  rw[<-c,No hk];rfl
 exact fI b [.tmp 4] (by rw[h1];exact eR)
def Vt (n:Int×List (Int×Int)):List Int:=n.1 :: (n.2.length:Int) :: n.2.flatMap λa=>[a.1,a.2]
def B1 (f:List (Int×List (Int×Int))):List Int:=(f.length:Int) :: f.flatMap Vt
def XK (l:List (Int×List (Int×Int))) (k:Nat):List Int:=(l.length:Int) :: (l.take k).flatMap Vt
def Vu (l:List (Int×List (Int×Int))) (k j:Nat):List Int:=XK l k++[(l.getD k (0,[])).1,((l.getD k (0,[])).2.length:Int)]++((l.getD k (0,[])).2.take j).flatMap λa=>[a.1,a.2]
theorem RZ:∀l:List (Int×Int),(l.flatMap λa=>[a.1,a.2]).length=2*l.length
 | []=>rfl
 | x :: l=>by simp[RZ l];omega
theorem A11 (n:Int×List (Int×Int)):(Vt n).length=2+2*n.2.length:=by
 have:=RZ n.2;simp only[Vt,Is];omega
theorem Vv:∀l:List (Int×List (Int×Int)),(∀n∈l,n.2.length<=100000)->(l.flatMap Vt).length<=l.length*200002
 | [],_=>by simp
 | x :: l,h=>by
  have h1:=h x sc;have a:=Vv l (λn hn=>h n (by simp[hn]));have b:=A11 x;simp only[ABZ,IS,Is];omega
theorem f5 {l:List (Int×List (Int×Int))} (h:∀n∈l,n.2.length<=100000) (hk:k<=l.length):(XK l k).length<=1+k*200002:=by
 have h1:=Vv (l.take k) (λn hn=>h n (AAC hn));rw[Of,ABO hk]at h1;simp only[XK,Is];omega
theorem A12 {l:List (Int×List (Int×Int))} (h:∀n∈l,n.2.length<=100000) (hk:k<l.length) (b:j<=(l.getD k (0,[])).2.length):(Vu l k j).length<=3+k*200002+2*j:=by
 have h1:=f5 h (Nat.le_of_lt hk);have a:=RZ ((l.getD k (0,[])).2.take j);rw[Of,ABO b]at a;simp only[Vu,IS,Is,AAt];omega
theorem YT {l:List (Int×List (Int×Int))} (hk:k<l.length):XK l (k+1)=Vu l k (l.getD k (0,[])).2.length:=by
 unfold XK Vu;rw[Ay l (0,[]) hk,ABP,sL];simp[Vt,XK]
theorem YU {l:List (Int×List (Int×Int))} (a:j<(l.getD k (0,[])).2.length):Vu l k (j+1)=Vu l k j++[((l.getD k (0,[])).2.getD j (0,0)).1,((l.getD k (0,[])).2.getD j (0,0)).2]:=by
 unfold Vu;rw[Ay _ (0,0) a,ABP];simp
def Vx:Ab:={ ins:=[Ff],pre:=λ(f,_)=>f.length<=100000/\∀n∈f,n.2.length<=100000,out:=λ(f,_)=>[.p CH (B1 f)] }
theorem mC:Af Tryz.prog 97 Vx:=by
 refine fK [0,1,2,3,4,5,6,15,38] Tryz.func97 Tryz.ntmps97 AH ?_;rintro w0 O0 ⟨l,u⟩ a ⟨h,-⟩ ⟨n,d⟩;simp only[Vx,AM];repeat'(first|exact a6|apply eS rfl|refine rX a ?_ ?_)
 refine AJ (ι:={k:Nat//k<=l.length}) (λk=>⟨[(0,.p Ff l),(1,.bp 1 [] 0),(3,.sr 10 T3 0 (XK l k.1).length),(4,.p (.int .i64) (k.1:Int))],[(1,.box 34 true [.p J1 l]),(10,.arr 3 T3 (XK l k.1))]⟩) (λk=>l.length-k.1) ⟨0,sc⟩ (AC [(1,.nm 1),(10,.nm 10)] rfl rfl ?_ ?_) (λk=>?_)
 .refine eM ?_;rfl
 .refine eM ?_;rfl
 obtain⟨k,hk⟩:=k;have i:=f5 d hk;repeat'(first|exact a6|apply eS rfl|refine rX a ?_ ?_|refine rC ?_ ?_<;>intro c<;>try(cases c;done))
 .exact eV
 .refine⟨eV,?_⟩;simp only[AP];exact eV
 .have b:k<l.length:=by exact eV
  have o:=d _ (AF l (0,[]) b);refine AJ (ι:={j:Nat//j<=(l.getD k (0,[])).2.length}) (λj=>⟨[(0,.p Ff l),(1,.bp 1 [] 0),(3,.sr 10 T3 0 (Vu l k j.1).length),(4,.p (.int .i64) (k:Int)),(5,.p L5 (l.getD k (0,[])).2),(6,.p (.int .i64) (j.1:Int))],[(1,.box 34 true [.p J1 l]),(10,.arr 3 T3 (Vu l k j.1))]⟩) (λj=>(l.getD k (0,[])).2.length-j.1) ⟨0,sc⟩ (AC [(1,.nm 1),(10,.nm 10)] rfl rfl ?_ ?_) (λj=>?_)
  .refine eM ?_;simp[Vu]
  .refine eM ?_;simp[Vu]
  obtain⟨j,f⟩:=j;have m:=A12 d b f;repeat'(first|exact a6|apply eS rfl|apply AB|refine rX a ?_ ?_|refine rC ?_ ?_<;>intro c<;>try(cases c;done))
  .refine⟨eV,eV,?_⟩;simp only[AP];exact eV
  .exact eV
  .have e:j<(l.getD k (0,[])).2.length:=by exact eV
   refine⟨⟨j+1,eV⟩,by simp only;exact eV,AC [(1,.nm 1),(10,.nm 10)] rfl rfl ?_ ?_⟩
   .refine eM ?_;exact(YU e).symm
   refine eM ?_;have:=ABj List.length (YU (l:=l) e);rw[IS]at this;exact this.symm
  .exact eV
  have g:j=(l.getD k (0,[])).2.length:=by exact eV
  subst g;refine⟨⟨k+1,eV⟩,by simp only;exact eV,AC [(1,.nm 1),(10,.nm 10)] rfl rfl ?_ ?_⟩
  .refine eM ?_;exact(YT b).symm
  refine eM ?_;exact ABj List.length (YT b).symm
 have hk:l.take k=l:=BY eV;have h1:XK l k=B1 l:=by unfold XK B1;rw[hk]
 exact fI a [.tmp 2] (by first|exact eR|refine OC ?_;exact h1)
section
attribute [local go_sem] Vx
def MR:List Int->List Int->Int
 | x :: xs,y :: ys=>if x<y then -1 else if y<x then 1 else MR xs ys
 | _,_=>0
theorem Ra (xs ys:List Int) (h1:k<xs.length) (a:k<ys.length):MR (xs.drop k) (ys.drop k)=if xs.getD k 0<ys.getD k 0 then -1 else if ys.getD k 0<xs.getD k 0 then 1 else MR (xs.drop (k+1)) (ys.drop (k+1)):=by
 rw[OR h1,OR a,AS,As h1,AS,As a];rfl
theorem A13 (xs ys:List Int) (h:xs.length<=k\/ys.length<=k):MR (xs.drop k) (ys.drop k)=0:=by
 rcases h with h|h
 .rw[No h];simp[MR]
 rw[No h];simp[MR]
def Dg (a b:List (Int×List (Int×Int))):Int:=MR (B1 a) (B1 b)
def FO (f:List (Int×List (Int×Int))):Prop:=f.length<=100000/\∀n∈f,n.2.length<=100000
def Vy:Ab:={ ins:=[Ff,Ff],pre:=λ(a,b,_)=>FO a/\FO b,out:=λ(a,b,_)=>[.p T3 (Dg a b)] }
theorem P8 {f:List (Int×List (Int×Int))} (h:FO f):(B1 f).length<=1+f.length*200002:=by
 have:=Vv f h.2;simp only[B1,Is];omega
theorem mD:Af Tryz.prog 52 Vy:=by
 refine fK [0,1,2,3,4,5,6,7,21,32,41] Tryz.func52 Tryz.ntmps52 (AG mC AH) ?_;rintro w0 O0 ⟨a,b,u⟩ e-⟨⟨g,i⟩,⟨j,l⟩⟩;have m:=P8 ⟨g,i⟩;have n:=P8 ⟨j,l⟩;simp only[Vy,AM];repeat'(first|exact a6|apply eS rfl|refine rX e ?_ ?_)
 .exact⟨g,i⟩
 .exact⟨j,l⟩
 refine AJ (ι:={k:Nat//MR ((B1 a).drop k) ((B1 b).drop k)=Dg a b}) (λk=>⟨[(5,.p CH (B1 a)),(6,.p CH (B1 b)),(7,.p (.int .i64) (k.1:Int))],[]⟩) (λk=>(B1 a).length-k.1) ⟨0,by simp[Dg]⟩ (AC [] rfl rfl ?_ ?_) (λk=>?_)
 .exact eN
 .exact eN
 obtain⟨k,hk⟩:=k;repeat'(first|exact a6|apply eS rfl|apply AB|refine rX e ?_ ?_|refine rC ?_ ?_<;>intro f<;>try(cases f;done))
 .exact eV
 .obtain⟨h1,c⟩:k<(B1 a).length/\k<(B1 b).length:=by exact eV
  have d:Dg a b=-1:=by rw[<-hk,Ra _ _ h1 c,At f]
  exact fI e [.tmp 4] (by rw[d];exact eR)
 .exact eV
 .obtain⟨h1,c⟩:k<(B1 a).length/\k<(B1 b).length:=by exact eV
  have d:Dg a b=1:=by rw[<-hk,Ra _ _ h1 c,An eV,At f]
  exact fI e [.tmp 4] (by rw[d];exact eR)
 .exact eV
 .obtain⟨h1,c⟩:k<(B1 a).length/\k<(B1 b).length:=by exact eV
  refine⟨⟨k+1,?_⟩,by simp only;exact eV,AC [] rfl rfl ?_ ?_⟩
  .rw[<-hk,Ra _ _ h1 c,An eV,An eV]
  .exact eN
  exact eN
 have d:Dg a b=0:=by
  rw[<-hk];apply A13;by_cases h:k<(B1 a).length
  .right;have:=f eV;exact eV
  left;exact eV
 exact fI e [.tmp 4] (by rw[d];exact eR)
def OZ:Ab:={ ins:=[Ff,Ff],pre:=λ(a,b,_)=>FO a/\FO b,out:=λ(a,b,_)=>[.p .bool (Dg a b==0)] }
end
section
attribute [local go_sem] Vy f4
theorem f6:Af Tryz.prog 21 OZ:=by
 refine fK [0,1,2,3,4] Tryz.func21 Tryz.ntmps21 (AG mD AH) ?_;rintro w0 O0 ⟨a,b,u⟩ c-d;simp only[OZ,AM];repeat'(first|exact a6|apply eS rfl|refine rX c ?_ ?_)
 .exact d
 exact fI c [.tmp 4]
def Gv (m:Int):List (Int×List (Int×Int))->Int
 | []=>0
 | n :: r=>if n.1<0 then 2 else if HE n.2 m≠0 then HE n.2 m else Gv m r
def B3 (f:List (Int×List (Int×Int))):Int:=if f.length=0 then 1 else if 4096<f.length then 7 else Gv f.length f
def p6:Ab:={ ins:=[Ff],pre:=λ_=>True,out:=λ(f,_)=>[.p C3 (B3 f)] }
theorem IG (m:Int) (l:List (Int×List (Int×Int))) (h:k<l.length):Gv m (l.drop k)=if (l.getD k (0,[])).1<0 then 2 else if HE (l.getD k (0,[])).2 m≠0 then HE (l.getD k (0,[])).2 m else Gv m (l.drop (k+1)):=by
 rw[OR h,AS,As h];rfl
theorem A4x:Af Tryz.prog 78 p6:=by
 refine fK [0,1,2,3,4,8,12,17,26,38] Tryz.func78 Tryz.ntmps78 (AG A4w AH) ?_;rintro w0 O0 ⟨l,u⟩ a ⟨f,-⟩ -;simp only[p6,AM];repeat'(first|exact a6|apply eS rfl|refine rX a ?_ ?_|refine rC ?_ ?_<;>intro b<;>try(cases b;done))
 .have h1:B3 l=1:=by
   have h:l.length=0:=by exact eV
   unfold B3;rw[At h]
  exact fI a [.tmp 2] (by rw[h1];exact eR)
 .have h1:B3 l=7:=by
   have h:¬l.length=0:=by exact eV
   have e:4096<l.length:=by exact eV
   unfold B3;rw[An h,At e]
  exact fI a [.tmp 2] (by rw[h1];exact eR)
 have h1:B3 l=Gv l.length l:=by
  have h:¬l.length=0:=by exact eV
  have e:¬4096<l.length:=by exact eV
  unfold B3;rw[An h,An e]
 refine AJ (ι:={k:Nat//k<=l.length/\Gv l.length (l.drop k)=B3 l}) (λk=>⟨[(1,.bp 1 [] 0),(3,.p (.int .i64) (k.1:Int))],[(1,.box 34 true [.p J1 l])]⟩) (λk=>l.length-k.1) ⟨0,by simp[h1]⟩ (AC [(1,.nm 1)] rfl rfl ?_ ?_) (λk=>?_)
 .exact eN
 .exact eN
 obtain⟨k,hk,hf⟩:=k;repeat'(first|exact a6|apply eS rfl|apply AB|refine rX a ?_ ?_|refine rC ?_ ?_<;>intro b<;>try(cases b;done))
 .exact eV
 .have d:k<l.length:=by exact eV
  have c:B3 l=2:=by rw[<-hf,IG _ _ d,At b]
  exact fI a [.tmp 2] (by rw[c];exact eR)
 .exact eV
 .have d:k<l.length:=by exact eV
  have c:B3 l=HE (l.getD k (0,[])).2 l.length:=by rw[<-hf,IG _ _ d,An eV,At b]
  exact fI a [.tmp 2] (by rw[c];exact eR)
 .exact eV
 .have d:k<l.length:=by exact eV
  refine⟨⟨k+1,eV,?_⟩,by simp only;exact eV,AC [(1,.nm 1)] rfl rfl ?_ ?_⟩
  .rw[<-hf,IG _ _ d,An eV,An (by simpa using b)]
  .exact eN
  exact eN
 have c:B3 l=0:=by
  have hk:l.length<=k:=by exact eV
  rw[<-hf,No hk];rfl
 exact fI a [.tmp 2] (by rw[c];exact eR)
end
section
attribute [local go_sem] p6 l7
theorem Vz {n:Int}:∀ {l seen:List (Int×Int)},Gu n seen l=0->∀a∈l,0<=a.1/\0<=a.2/\a.2<n
 | [],_,_,a,ha=>by cases ha
 | x :: l,seen,h,a,ha=>by
  simp only[Gu]at h;split at h
  .cases h
  split at h
  .cases h
  rename_i h1 _;rcases By.1 ha with rfl|ha
  .omega
  exact Vz h a ha
theorem IH {m:Int}:∀ {f:List (Int×List (Int×Int))},Gv m f=0->∀x∈f,0<=x.1/\∀a∈x.2,0<=a.1/\0<=a.2/\a.2<m
 | [],_,x,c=>by cases c
 | y :: f,h,x,c=>by
  simp only[Gv]at h;split at h
  .cases h
  split at h
  .rename_i h1 b;exact absurd h b
  rename_i h1 b;have b:HE y.2 m=0:=DO b;rcases By.1 c with rfl|c
  .exact⟨O1,Vz b⟩
  exact IH h x c
def Kk (f:List (Int×List (Int×Int))):Prop:=∀x∈f,x.2.length<=100000
def MS (f:List (Int×List (Int×Int))):Prop:=∀x∈f,x.2.length<=8796093022207
theorem Kk.big {f:List (Int×List (Int×Int))} (h:Kk f):MS f:=λx a=>aS (h x a) df
theorem V0 {f:List (Int×List (Int×Int))} (h:B3 f=0) (hs:MS f):P5 f/\0<f.length:=by
 unfold B3 at h;split at h
 .cases h
 split at h
 .cases h
 refine⟨⟨O1,λx b=>⟨hs x b,λa ha=>?_⟩⟩,O1⟩;have:=(IH h x b).2 a ha;exact⟨this.2.1,this.2.2⟩
theorem Kl {f:List (Int×List (Int×Int))} (h:B3 f=0) (hs:Kk f):AX f/\0<f.length :=
 have k:=V0 h hs.big
 ⟨⟨k.1.1,λx a=>⟨hs x a,(k.1.2 x a).2⟩⟩,k.2⟩
def A4 (f:List AD):List AD×Int:=if B3 f=0 then (Gq f 0,0) else ([],B3 f)
def mE:Ab:={ ins:=[Ff],pre:=λ(f,_)=>Kk f,out:=λ(f,_)=>[.p Ff (A4 f).1,.p C3 (A4 f).2] }
def aB:Ab:={ ins:=[Ff],pre:=λ(f,_)=>MS f,out:=λ(f,_)=>[.p Ff (A4 f).1,.p C3 (A4 f).2] }
theorem YV:Af Tryz.prog 35 aB:=by
 refine fK [0,1,2,3,4,8] Tryz.func35 Tryz.ntmps35 (AG A4x (AG fW AH)) ?_;rintro w0 O0 ⟨f,u⟩ b-hs;simp only[aB,AM];repeat'(first|exact a6|apply eS rfl|refine rX b ?_ ?_|refine rC ?_ ?_<;>intro a<;>try(cases a;done))
 .have h:¬B3 f=0:=by simpa using a
  have e:A4 f=([],B3 f):=An h;exact fI b [.cell 2 34,.tmp 3] (by rw[e];exact eR)
 .have h:B3 f=0:=by simpa using a
  have:=V0 h hs;exact⟨this.1,eV⟩
 have h:B3 f=0:=by simpa using a
 have e:A4 f=(Gq f 0,0):=At h;exact fI b [.cell 2 34,.tmp 3] (by rw[e];exact eR)
theorem A14:Af Tryz.prog 35 mE:=A0S YV λ_ h=>Kk.big h
end
section
attribute [local go_sem] Gp f4
theorem p7 {α:Type} (d:α) {l:List α} (h:k<l.length):l.drop k=l.getD k d :: l.drop (k+1):=by
 rw[OR h];have e:l.getD k d=l[k]:=by simp[AS,h]
 rw[e]
end
section
attribute [local go_sem] Gp f4 Tg
def f8 (l:List (Int×Int)):List (Int×Bool):=l.foldl (λm a=>FH T3 .bool a.1 true m) []
theorem V1 {b:Ty} (x k:Int) (v:b.den) (m:List (Int×b.den)):BV T3 b x (FH T3 b k v m)=if x=k then some v else BV T3 b x m:=by
 induction m with
 | nil=>simp[FH,BV,Hc]
 | cons y m g =>
  simp only[FH];by_cases c:Hc T3 k y.1=true
  .rw[At c];have d:k=y.1:=by simpa[Hc] using c
   simp only[BV,Hc,AAh];by_cases a:x=k
   .rw[At a,At a]
   rw[An a,An a,An (by rw[<-d];exact a)]
  rw[An c];have d:¬k=y.1:=by simpa[Hc] using c
  simp only[BV];by_cases a:Hc T3 x y.1=true
  .have f:x=y.1:=by simpa[Hc] using a
   rw[At a,At a,An (by rw[f];exact λe=>d e.symm)]
  rw[An a,An a,g]
theorem u6 (x:Int) (l:List (Int×Int)):(BV T3 .bool x (f8 l)).getD false=l.any λy=>y.1==x:=by
 induction l using GX with
 | h0=>rfl
 | h1 l a c =>
  have e:f8 (l++[a])=FH T3 .bool a.1 true (f8 l):=by unfold f8;rw[ABz];rfl
  rw[e,V1,AC8,<-c];by_cases h:x=a.1
  .rw[At h,h];simp
  rw[An h];have b:¬a.1=x:=λe=>h e.symm;simp[b]
def Fz (x:AD) (n:Int):Int:=if x.1<0 then 2 else HE x.2 n
def V2:Ab:={ ins:=[TX,T3],pre:=λ_=>True,out:=λ(x,n,_)=>[.p C3 (Fz x n)] }
attribute [local go_sem] V2
theorem mF:Af Tryz.prog 91 V2:=by
 refine fK [0,1,2,4,5,7,10,13,14,15,16,32,36] Tryz.func91 Tryz.ntmps91 AH ?_;rintro w0 O0 ⟨⟨t,l⟩,n,u⟩ d ⟨⟨-,⟨o,-⟩⟩,-⟩ -;simp only[AP]at o;simp only[V2,AM];repeat'(first|exact a6|apply eS rfl|refine rX d ?_ ?_|refine rC ?_ ?_<;>intro b<;>try(cases b;done))
 .have h1:Fz (t,l) n=2:=At b;exact fI d [.tmp 4] (by rw[h1];exact eR)
 have h0:Fz (t,l) n=Gu n [] l:=An (ABh.2 b);rw[h0];refine AJ (ι:={k:Nat//k<=List.length l/\Gu n [] l=Gu n ((l:List (Int×Int)).take k) ((l:List (Int×Int)).drop k)}) (λk=>⟨[(1,.p T3 n),(5,.mp 11),(13,.p L5 l),(14,.p (.int .i64) (List.length l:Int)),(15,.p (.int .i64) (k.1:Int))],[(11,.mapo T3 .bool (f8 ((l:List (Int×Int)).take k.1)))]⟩) (λk=>List.length l-k.1) ⟨0,GO _,rfl⟩ (AC [(11,.nm 11)] rfl rfl ?_ ?_) (λk=>?_)
 .refine eM ?_;rfl
 .exact eN
 obtain⟨k,hk,f⟩:=k;have g:=λh:k<l.length=>OY n l h;have q:=λh:k<l.length=>RW (λ(m:List (Int×Bool)) (a:Int×Int)=>FH T3 .bool a.1 true m) l (0,0) [] h;have i:=λx=>u6 x (List.take k (l:List (Int×Int)));simp only;repeat'(first|exact a6|apply eS rfl|apply AB|refine rX d ?_ ?_|refine rC ?_ ?_<;>intro b<;>try(cases b;done))
 .exact b
 .have c:k<List.length l:=by exact eV
  have e:Gu n [] l=2:=by rw[f,g c,At O1]
  exact fI d [.tmp 4] (by rw[e];exact eR)
 .have c:k<List.length l:=by exact eV
  rw[i]at b;have e:Gu n [] l=4:=by rw[f,g c,An O1,At b]
  exact fI d [.tmp 4] (by rw[e];exact eR)
 .exact eV
 .have c:k<List.length l:=by exact eV
  rw[i]at b;refine⟨⟨k+1,c,by rw[f,g c,An O1,An (by rw[b];simp)]⟩,a2,AC [(11,.nm 11)] rfl rfl ?_ ?_⟩
  .refine eM ?_;exact(q c).symm
  exact eN
 have j:List.drop k (l:List (Int×Int))=[]:=No eV;have e:Gu n [] l=0:=by rw[f,j];rfl
 exact fI d [.tmp 4] (by rw[e];exact eR)
theorem f9 {n:Int}:∀ {l seen:List (Int×Int)},Gu n seen l=0->(∀a∈l,∀b∈seen,b.1≠a.1)/\YP l
 | [],_,_=>⟨λa ha=>(by cases ha),List.Pairwise.nil⟩
 | x :: l,seen,h=>by
  simp only[Gu]at h;split at h
  .cases h
  split at h
  .cases h
  rename_i h1 g;obtain⟨c,f⟩:=f9 h;refine⟨λa ha b d=>?_,AAv.2 ⟨λa ha e=>c a ha x sc e,f⟩⟩;rcases By.1 ha with rfl|ha
  .intro e;exact g (bY.2 ⟨b,d,by simp[e]⟩)
  exact c a ha b (by simp[d])
theorem P9 {m:Int}:∀ {f:List AD},Gv m f=0->∀x∈f,YP x.2
 | [],_,x,b=>by cases b
 | y :: f,h,x,b=>by
  simp only[Gv]at h;split at h
  .cases h
  split at h
  .rename_i h1 a;exact absurd h a
  rename_i h1 a;have a:HE y.2 m=0:=DO a;rcases By.1 b with rfl|b
  .exact(f9 a).2
  exact P9 h x b
def Sb (f:List AD):Prop:=∀x∈f,SS x.2
theorem gA (h:B3 f=0) (hs:Sb f):wP f:=by
 unfold B3 at h;split at h
 .cases h
 split at h
 .cases h
 exact λx a=>⟨P9 h x a,hs x a⟩
def QA:Ab:={ ins:=[Ff],pre:=λ(f,_)=>Sb f,out:=λ(f,_)=>[.p Ff (A4 f).1,.p C3 (A4 f).2] }
attribute [local go_sem] QA
theorem u7:Af Tryz.prog 49 QA:=by
 refine fK [0,1,2,3,5,6,10,15,18,19,20,21,30] Tryz.func49 Tryz.ntmps49 (AG mF (AG u5 AH)) ?_;rintro w0 O0 ⟨f,u⟩ c ⟨⟨n,-⟩,-⟩ hs;simp only[AP]at n;have hs:Sb f:=hs;have l:Kk f:=λx o=>aS (hs x o).1 O1;simp only[QA,AM];repeat'(first|exact a6|apply eS rfl|refine rX c ?_ ?_|refine rC ?_ ?_<;>intro a<;>try(cases a;done))
 .have h1:B3 f=1:=by
   have h:f.length=0:=by exact eV
   unfold B3;rw[At h]
  have e:A4 f=([],1):=by unfold A4;rw[h1];rfl
  exact fI c [.cell 2 34,.tmp 3] (by rw[e];exact eR)
 .have h1:B3 f=7:=by
   have h:¬f.length=0:=by exact eV
   have i:4096<f.length:=by exact eV
   unfold B3;rw[An h,At i]
  have e:A4 f=([],7):=by unfold A4;rw[h1];rfl
  exact fI c [.cell 2 34,.tmp 3] (by rw[e];exact eR)
 have h1:B3 f=Gv f.length f:=by
  have h:¬f.length=0:=by exact eV
  have i:¬4096<f.length:=by exact eV
  unfold B3;rw[An h,An i]
 have j:0<f.length:=by exact eV
 refine AJ (ι:={k:Nat//k<=f.length/\Gv f.length (f.drop k)=B3 f}) (λk=>⟨[(1,.bp 1 [] 0),(2,.bp 2 [] 0),(18,.p J1 f),(19,.p (.int .i64) (f.length:Int)),(20,.p (.int .i64) (k.1:Int))],[(1,.box 34 true [.p J1 f]),(2,.box 34 true [.raw (.slice none 0 0)])]⟩) (λk=>f.length-k.1) ⟨0,by simp[h1]⟩ (eW [(1,.nm 1),(2,.nm 2)]) (λk=>?_)
 obtain⟨k,hk,hf⟩:=k;simp only;repeat'(first|exact a6|apply eS rfl|apply AB|refine rX c ?_ ?_|refine rC ?_ ?_<;>intro a<;>try(cases a;done))
 .exact a
 .have g:k<f.length:=by exact eV
  have a:¬Fz (f.getD k (0,[])) f.length=0:=a;have m:B3 f=Fz (f.getD k (0,[])) f.length:=by
   rw[<-hf,IG _ _ g];unfold Fz at a ⊢;by_cases b:(f.getD k (0,[])).1<0
   .rw[At b,At b]
   rw[An b]at a;rw[An b,An b,At a]
  have e:A4 f=([],Fz (f.getD k (0,[])) f.length):=by unfold A4;rw[m,An a]
  exact fI c [.cell 2 34,.tmp 3] (by rw[e];exact eR)
 .exact eV
 .have g:k<f.length:=by exact eV
  have a:Fz (f.getD k (0,[])) f.length=0:=by simpa using a
  refine⟨⟨k+1,g,?_⟩,a2,AC [(1,.nm 1),(2,.nm 2)] rfl rfl ?_ ?_⟩
  .rw[<-hf,IG _ _ g];unfold Fz at a;by_cases b:(f.getD k (0,[])).1<0
   .rw[At b]at a;cases a
   rw[An b]at a;rw[An b,An (by rw[a];simp)]
  .exact eN
  exact eN
 .have d:B3 f=0:=by rw[<-hf,No eV];rfl
  exact⟨(Kl d l).1,gA d hs,aT.2 j⟩
 have d:B3 f=0:=by rw[<-hf,No eV];rfl
 have e:A4 f=(AN (DK f) 0,0):=by unfold A4;rw[At d,Iw (Kl d l).1 (gA d hs) (ABt 0) (aT.2 j)]
 exact fI c [.cell 2 34,.tmp 3] (by rw[e];exact eR)
end
def LF (h:AE) (f:Int):Int:=(h.2.getD f.toNat (ByteArray.empty,0)).2
def MT (h:AE) (n:Int):List (Int×Int)->EI->Option EI
 | [],s=>some s
 | a :: l,s=>(DB h s n (LF h a.1)).bind (MT h n l)
def NI (h:AE) (n:Int):List (Int×Int)->EI->Option EI
 | [],s=>some s
 | a :: l,s=>if (CL h (s.1.getD n.toNat 0) a.1).2=true then (DB h s a.2 (CL h (s.1.getD n.toNat 0) a.1).1).bind (NI h n l) else none
def LG (h:AE) (f:List AD) (n:Int) (s:EI):Option EI:=(MT h n (f.getD n.toNat (0,[])).2 s).bind (NI h n (f.getD n.toNat (0,[])).2)
def wQ (h:AE) (f:List AD):Nat->Nat->EI->Option (List Int)
 | 0,_,_=>none
 | k+1,i,s=>if i<s.2.length then (LG h f (s.2.getD i 0) s).bind (wQ h f k (i+1)) else some s.1
def Bj (f:List AD):List Int:=f.map λx=>x.1
def ER (f:List AD):List Int:=(List.range f.length).map λi:Nat=>(i:Int)
def Ex (f:List AD) (ty:List Int):List AD:=(List.range f.length).map λi=>(ty.getD i 0,(f.getD i (0,[])).2)
structure bT (h:AE):Prop where
 int:∀x∈h.2,0<=x.2/\x.2<(h.1.length:Int)
 val:∀t∈h.1,∀p∈t.2.2.2,0<=p.2/\p.2<(h.1.length:Int)
structure NJ (h:AE) (m:Nat) (s:EI):Prop where
 len:s.1.length=m
 ty:∀t∈s.1,0<=t/\t<(h.1.length:Int)
 wt:∀n∈s.2,0<=n/\n<(m:Int)
theorem NJ.get {m:Nat} {s:EI} (hs:NJ h m s) (n0:0<=n) (n1:n<(m:Int)):0<=s.1.getD n.toNat 0/\s.1.getD n.toNat 0<(h.1.length:Int):=by
 have a:n.toNat<s.1.length:=by rw[hs.len];omega
 rw[AS,As a];exact hs.ty _ (AAd a)
def u9 (h:AE) (t:Int):Nat:=((List.range h.1.length).filter λi:Nat=>Ai h t (i:Int)).length
def YW (h:AE) (ty:List Int):Nat:=(ty.map (u9 h)).sum
theorem YX {α:Type} {p q:α->Bool}:∀ {l:List α},(∀x∈l,q x=true->p x=true)->(∃b∈l,p b=true/\q b=false)->(l.filter q).length<(l.filter p).length
 | [],_,⟨b,c,_⟩=>by cases c
 | x :: l,h1,⟨b,c,f,g⟩=>by
  have i:∀ {l:List α},(∀x∈l,q x=true->p x=true)->(l.filter q).length<=(l.filter p).length:=by
   intro l h;induction l with
   | nil=>exact OS _
   | cons y l j =>
    have e:=j λz d=>h z (IF _ d);rw[AAW,AAW];by_cases a:q y=true
    .rw[At a,At (h y sc a)];simp only[Is];omega
    rw[An a];split
    .simp only[Is];omega
    exact e
  rw[AAW,AAW];rcases By.1 c with rfl|c
  .rw[An (by rw[g];simp),At f];have:=i λz d=>h1 z (IF _ d);simp only[Is];omega
  have e:=YX (λz d=>h1 z (IF _ d)) ⟨b,c,f,g⟩;by_cases a:q x=true
  .rw[At a,At (h1 x sc a)];simp only[Is];omega
  rw[An a];split
  .simp only[Is];omega
  exact e
theorem Th (hk:GV h) {a:Int} (b:0<=a) (c:a<(h.1.length:Int)):Ai h a a=true:=(B0 hk b c b c).2 λ_ h=>h
theorem HT (hk:GV h) {a c:Int} (d:0<=a) (e:a<(h.1.length:Int)) (f:0<=b) (b1:b<(h.1.length:Int)) (c0:0<=c) (c1:c<(h.1.length:Int)) (h1:Ai h a b=true) (g:Ai h b c=true):Ai h a c=true :=
 (B0 hk d e c0 c1).2 λi hi=>(B0 hk d e f b1).1 h1 i ((B0 hk f b1 c0 c1).1 g i hi)
theorem A4y (hk:GV h) (hi:JL h) {a m:Int} (b:0<=a) (c:a<(h.1.length:Int)) (f:0<=m) (g:m<(h.1.length:Int)) (hs:Ai h a m=true) (i:m≠a):u9 h m<u9 h a:=by
 refine YX (λx d e=>?_) ⟨a.toNat,tO.2 O1,?_,?_⟩
 .have d:=tO.1 d;exact HT hk b c f g (AAX _) O1 hs e
 .rw[ABq b];exact Th hk b c
 rw[ABq b];cases e:Ai h m a with
 | false=>rfl
 | true=>exact absurd (hi m a f g b c e hs) i
theorem p8 {α:Type} (g:α->Nat) (d:α):∀ {l:List α} {i:Nat} {v:α},i<l.length->((l.set i v).map g).sum+g (l.getD i d)=(l.map g).sum+g v
 | [],i,v,h=>by simp at h
 | x :: l,0,v,h=>by simp only[ACO,oR,List.sum_cons,List.getD_cons_zero];omega
 | x :: l,i+1,v,h=>by
  have:=p8 g d (l:=l) (i:=i) (v:=v) (by simpa using h);simp only[ACP,oR,List.sum_cons,List.getD_cons_succ];omega
theorem Es (hk:GV h) (hi:JL h) {m:Nat} {s b:EI} (hs:NJ h m s) {t:Int} (n0:0<=n) (n1:n<(m:Int)) (o:0<=t) (p:t<(h.1.length:Int)) (e:DB h s n t=some b) :
  NJ h m b/\YW h b.1+b.2.length<=YW h s.1+s.2.length/\s.2.length<=b.2.length:=by
 obtain⟨c,d⟩:=hs.get n0 n1;unfold DB at e;split at e
 .rename_i j;obtain⟨f,g,l,u⟩:=(ML hk c d o p).1 j;generalize (Cs h (s.1.getD n.toNat 0) t).1=v at *;injection e with e
  split at e
  .subst e;exact⟨hs,OS _,OS _⟩
  rename_i k;subst e;have r:=A4y hk hi c d f g l k;have i:n.toNat<s.1.length:=by rw[hs.len];omega
  have q:=p8 (u9 h) 0 (v:=v) i;refine⟨⟨by simp only[AAp];exact hs.len,λx a=>?_,λx a=>?_⟩,?_,sc⟩
  .rcases AB2 a with a|rfl
   .exact hs.ty x a
   exact⟨f,g⟩
  .rcases IN.1 a with a|a
   .exact hs.wt x a
   rw[iS.1 a];exact⟨n0,n1⟩
  unfold YW;simp only[IS,nO];omega
 cases e
def Js (h:AE) (m:Nat) (a:Int×Int):Prop:=(0<=a.1/\a.1<(h.2.length:Int))/\0<=a.2/\a.2<(m:Int)
theorem MU (hf:bT h) {f:Int} (b:0<=f) (c:f<(h.2.length:Int)):0<=LF h f/\LF h f<(h.1.length:Int):=by
 have a:f.toNat<h.2.length:=by omega
 unfold LF;rw[AS,As a];exact hf.int _ (AAd a)
theorem YY {f:Int}:∀ {l:List (Int×Int)},(D6 f l).2=true->(f,(D6 f l).1)∈l
 | [],h=>by cases h
 | x :: l,h=>by
  unfold D6 at h ⊢;split
  .rename_i e;rw[<-e];simp
  rename_i e;rw[An e]at h;exact IF _ (YY h)
theorem vA {t:Int} (a:0<=t) (b:t<(h.1.length:Int)):h.1.getD t.toNat RM∈h.1:=AF h.1 RM O1
theorem II (hf:bT h) {t f:Int} (a:0<=t) (b:t<(h.1.length:Int)) (e:(CL h t f).2=true):0<=(CL h t f).1/\(CL h t f).1<(h.1.length:Int) :=
 hf.val _ (vA a b) _ (YY e)
theorem QB {h:AE} (hk:GV h) (hi:JL h) (hf:bT h) {m:Nat} {n:Int} (n0:0<=n) (n1:n<(m:Int)):∀ {l:List (Int×Int)} {s c:EI},(∀a∈l,Js h m a)->NJ h m s->MT h n l s=some c ->
  NJ h m c/\YW h c.1+c.2.length<=YW h s.1+s.2.length/\s.2.length<=c.2.length
 | [],s,c,_,hs,e=>by
  injection e with e
  subst e;exact⟨hs,OS _,OS _⟩
 | a :: l,s,c,f,hs,e=>by
  unfold MT at e;cases d:DB h s n (LF h a.1) with
  | none=>rw[d]at e;cases e
  | some s1 =>
   rw[d]at e;obtain⟨⟨g,i⟩,-⟩:=f a sc;obtain⟨o,p⟩:=MU hf g i;obtain⟨j,r,t⟩:=Es hk hi hs n0 n1 o p d;obtain⟨q,u,v⟩:=QB hk hi hf n0 n1 (λb k=>f b (by simp[k])) j e;exact⟨q,O1,O1⟩
theorem Ti {h:AE} (hk:GV h) (hi:JL h) (hf:bT h) {m:Nat} {n:Int} (n0:0<=n) (n1:n<(m:Int)):∀ {l:List (Int×Int)} {s c:EI},(∀a∈l,Js h m a)->NJ h m s->NI h n l s=some c ->
  NJ h m c/\YW h c.1+c.2.length<=YW h s.1+s.2.length/\s.2.length<=c.2.length
 | [],s,c,_,hs,e=>by
  injection e with e
  subst e;exact⟨hs,OS _,OS _⟩
 | a :: l,s,c,g,hs,e=>by
  unfold NI at e;split at e
  .rename_i o;obtain⟨j,f⟩:=hs.get n0 n1;obtain⟨p,q⟩:=II hf j f o;cases d:DB h s a.2 (CL h (s.1.getD n.toNat 0) a.1).1 with
   | none=>rw[d]at e;cases e
   | some s1 =>
    rw[d]at e;obtain⟨-,i,b1⟩:=g a sc;obtain⟨f,t,u⟩:=Es hk hi hs i b1 p q d;obtain⟨r,v,w⟩:=Ti hk hi hf n0 n1 (λb k=>g b (by simp[k])) f e;exact⟨r,O1,O1⟩
  cases e
def Oa (h:AE) (f:List AD):Prop:=∀x∈f,∀a∈x.2,Js h f.length a
theorem MV (ha:Oa h f) (n0:0<=n) (n1:n<(f.length:Int)):∀a∈(f.getD n.toNat (0,[])).2,Js h f.length a:=ha _ (AF f (0,[]) O1)
theorem V3 (hk:GV h) (hi:JL h) (hf:bT h) (ha:Oa h f) (n0:0<=n) (n1:n<(f.length:Int)) {s a:EI} (hs:NJ h f.length s) (e:LG h f n s=some a) :
  NJ h f.length a/\YW h a.1+a.2.length<=YW h s.1+s.2.length/\s.2.length<=a.2.length:=by
 unfold LG at e;cases b:MT h n (f.getD n.toNat (0,[])).2 s with
 | none=>rw[b]at e;cases e
 | some s1 =>
  rw[b]at e;obtain⟨c,g,i⟩:=QB hk hi hf n0 n1 (MV ha n0 n1) hs b;obtain⟨d,j,k⟩:=Ti hk hi hf n0 n1 (MV ha n0 n1) c e;exact⟨d,O1,O1⟩
theorem A4z (h:AE) (t:Int):u9 h t<=h.1.length:=by
 unfold u9;exact aS (AB8 _ _) sc
theorem A15 (h:AE):∀ty:List Int,YW h ty<=ty.length*h.1.length
 | []=>by simp[YW]
 | t :: ty=>by
  have h1:=A15 h ty;have a:=A4z h t;unfold YW at h1 ⊢;simp only[oR,List.sum_cons,Is,ACt,Nat.one_mul];omega
def Nf (h:AE) (f:List AD):Nat:=f.length*h.1.length+f.length+1
def IJ (h:AE) (f:List AD):Option (List Int):=wQ h f (Nf h f) 0 (Bj f,ER f)
def EJ (h:AE) (f:List AD):List AD×Bool:=match IJ h f with
 | some ty=>(Ex f ty,true)
 | none=>([],false)
theorem A16 (ht:∀x∈f,0<=x.1/\x.1<(h.1.length:Int)):NJ h f.length (Bj f,ER f):=by
 refine⟨by simp[Bj],λt h1=>?_,λn hn=>?_⟩
 .obtain⟨x,a,rfl⟩:=Do.1 h1;exact ht x a
 obtain⟨i,hi,rfl⟩:=Do.1 hn;have:=tO.1 hi;omega
theorem A17 (h:AE) (f:List AD):YW h (Bj f)+(ER f).length+1<=Nf h f:=by
 have:=A15 h (Bj f);unfold Nf;rw[show (Bj f).length=f.length by simp[Bj]]at this;rw[show (ER f).length=f.length by simp[ER]];omega
def inF (l:List Int) (n:Int):Bool:=l.any λx=>x==n
def gB:Ab:={ ins:=[T3],pre:=λ_=>True,out:=λ(t,_)=>[.p Ff [(t,[])]] }
theorem A4A:Af Tryz.prog 31 gB:=by
 refine fK [0,2] Tryz.func31 Tryz.ntmps31 AH ?_;rintro w0 O0 ⟨t,u⟩ a - -;simp only[gB,AM];repeat'(first|exact a6|apply eS rfl|apply AB|refine rX a ?_ ?_|refine rC ?_ ?_<;>intro b<;>try(cases b;done))
 exact fI a [.cell 2 34]
section
attribute [local go_sem] mE OZ
theorem mG (hf:AX f) (h0:0<=n) (h1:n<f.length):FO (Gq f n):=by
 obtain⟨⟨b,c⟩,_⟩:=A4p hf h0 h1;have d:=hf.1;refine⟨?_,λx a=>?_⟩
 .unfold Gq;rw[On];omega
 obtain⟨m,_,rfl⟩:=Do.1 a;unfold Nb;simp only[On,CZ];exact A0U hf m
theorem Sc (hs:Kk f):FO (A4 f).1:=by
 unfold A4;split
 .rename_i h;obtain⟨h1,b⟩:=Kl h hs;exact mG h1 O1 O1
 exact⟨sc,λx a=>by cases a⟩
end
theorem QC (l:List (Int×Int)):MN l↔l.Pairwise (λa b=>a.1<b.1):=by
 constructor
 .intro h;rw[iN];have key:∀d i,i+d+1<l.length->(l.getD i (0,0)).1<(l.getD (i+d+1) (0,0)).1:=by
   intro d;induction d with
   | zero=>intro i hi;exact h i hi
   | succ d e =>
    intro i hi;have h1:=e i O1;have f:=h (i+d+1) O1;have:i+(d+1)+1=i+d+1+1:=by omega
    rw[this];omega
  intro i j hi c g;have h1:=key (j-i-1) i O1;rw[show i+(j-i-1)+1=j by omega]at h1;simpa[AS,hi,c] using h1
 intro h i hi;rw[iN]at h;have:=h i (i+1) O1 hi O1;simpa[AS,hi,show i<l.length by omega] using this
def LH (l:List Int):List (Int×Bool):=l.foldl (λm x=>FH T3 .bool x true m) []
theorem mH {b:Ty} (x k:Int) (v:b.den) (m:List (Int×b.den)):BV T3 b x (FH T3 b k v m)=if x=k then some v else BV T3 b x m:=by
 induction m with
 | nil=>simp[FH,BV,Hc]
 | cons y m g =>
  simp only[FH];by_cases c:Hc T3 k y.1=true
  .rw[At c];have d:k=y.1:=by simpa[Hc] using c
   simp only[BV,Hc,AAh];by_cases a:x=k
   .rw[At a,At a]
   rw[An a,An a,An (by rw[<-d];exact a)]
  rw[An c];have d:¬k=y.1:=by simpa[Hc] using c
  simp only[BV];by_cases a:Hc T3 x y.1=true
  .have f:x=y.1:=by simpa[Hc] using a
   rw[At a,At a,An (by rw[f];exact λe=>d e.symm)]
  rw[An a,An a,g]
theorem A4B (l:List Int) (x:Int):(BV T3 .bool x (LH l)).getD false=inF l x:=by
 induction l using GX with
 | h0=>rfl
 | h1 l a c =>
  have e:LH (l++[a])=FH T3 .bool a true (LH l):=by simp[LH]
  rw[e,mH];by_cases b:x=a
  .rw[At b];subst b;simp[inF]
  rw[An b,c];simp only[inF,AC8,List.any_cons,List.any_nil,ACo];have:(a==x)=false:=by simpa using λe=>b e.symm
  rw[this,ACo]
theorem Jt {x y:Int} {xs ys:List Int} (h:MR (x :: xs) (y :: ys)=0):x=y/\MR xs ys=0:=by
 simp only[MR]at h;split at h
 .cases h
 split at h
 .cases h
 exact⟨O1,h⟩
theorem V4:∀ {l m:List (Int×Int)} {r s:List Int},l.length=m.length->MR (l.flatMap (λa=>[a.1,a.2])++r) (m.flatMap (λa=>[a.1,a.2])++s)=0->l=m/\MR r s=0
 | [],[],_,_,_,h=>⟨rfl,by simpa using h⟩
 | [],_ :: _,_,_,b,_=>by simp at b
 | _ :: _,[],_,_,b,_=>by simp at b
 | (c,d) :: l,(b1,b2) :: m,r,s,b,h=>by
  have h:MR (c :: d :: (l.flatMap (λa=>[a.1,a.2])++r)) (b1 :: b2 :: (m.flatMap (λa=>[a.1,a.2])++s))=0:=by simpa using h
  obtain⟨e,i⟩:=Jt h;obtain⟨f,j⟩:=Jt i;obtain⟨g,k⟩:=V4 (l:=l) (m:=m) (by simpa using b) j;exact⟨by rw[e,f,g],k⟩
theorem V5:∀ {l m:List AD} {r s:List Int},l.length=m.length->MR (l.flatMap Vt++r) (m.flatMap Vt++s)=0->l=m/\MR r s=0
 | [],[],_,_,_,h=>⟨rfl,by simpa using h⟩
 | [],_ :: _,_,_,b,_=>by simp at b
 | _ :: _,[],_,_,b,_=>by simp at b
 | (d,c) :: l,(b1,b2) :: m,r,s,b,h=>by
  have h:MR (d :: (c.length:Int) :: (c.flatMap (λa=>[a.1,a.2])++(l.flatMap Vt++r))) (b1 :: (b2.length:Int) :: (b2.flatMap (λa=>[a.1,a.2])++(m.flatMap Vt++s)))=0:=by simpa[Vt] using h
  obtain⟨e,i⟩:=Jt h;obtain⟨o,j⟩:=Jt i;obtain⟨f,k⟩:=V4 (l:=c) (m:=b2) O1 j;obtain⟨g,n⟩:=V5 (l:=l) (m:=m) (by simpa using b) k;exact⟨by rw[e,f,g],n⟩
theorem gC {a b:List AD} (h:Dg a b=0):a=b:=by
 unfold Dg B1 at h;obtain⟨h1,c⟩:=Jt h;have:=V5 (l:=a) (m:=b) (r:=[]) (s:=[]) O1 (by simpa using c);exact this.1
section
attribute [local go_sem] mE OZ
def p9 (h:AE) (a:Int×Int):Bool:=decide (a.1<(h.2.length:Int))
def Sz (h:AE) (x:AD):Bool:=decide (x.1<(h.1.length:Int))&&x.2.all (p9 h)
def Cf (h:AE) (f:List AD):Int:=if (A4 f).2≠0 then (A4 f).2 else if f.all (Sz h)=false then 2 else if (Dg f (A4 f).1==0)=false then 3 else 0
def M4:Ab:={ ins:=[GH,Ff],pre:=λ(_,f,_)=>FO f,out:=λ(h,f,_)=>[.p C3 (Cf h f)] }
theorem vB:Af Tryz.prog 13 M4:=by
 refine fK [0,1,2,3,4,5,6,7,8,9,16,22,35,40,52,56] Tryz.func13 Tryz.ntmps13 (AG A14 (AG f6 AH)) ?_;rintro w0 O0 ⟨⟨ht,hf⟩,f,u⟩ c-hs;have hs:FO f:=hs;simp only[M4,AM];repeat'(first|exact a6|apply eS rfl|refine rX c ?_ ?_|refine rC ?_ ?_<;>intro a<;>try(cases a;done))
 .exact hs.2
 .have h1:Cf (ht,hf) f=(A4 f).2:=by unfold Cf;rw[At a]
  exact fI c [.tmp 4] (by rw[h1];exact eR)
 have s:(A4 f).2=0:=by simpa using a
 have o:=Sc hs.2;have v:=hs.1;have d:Cf (ht,hf) f=if f.all (Sz (ht,hf))=false then 2 else if (Dg f (A4 f).1==0)=false then 3 else 0:=by unfold Cf;rw[An (by rw[s];simp)]
 refine AJ (ι:={i:Nat//i<=f.length/\(f.take i).all (Sz (ht,hf))=true}) (λi=>⟨[(2,.bp 2 [] 0),(3,.bp 3 [] 0),(5,.bp 5 [] 0),(7,.p (.int .i64) (i.1:Int))],[(2,.box 26 true [.p SM ht,.p TW hf]),(3,.box 34 true [.p J1 f]),(5,.box 34 true [.p J1 (A4 f).1])]⟩) (λi=>f.length-i.1) ⟨0,sc⟩ (eW [(2,.nm 2),(3,.nm 3),(5,.nm 5)]) (λi=>?_)
 obtain⟨i,hi,j⟩:=i;have q:=λh:i<f.length=>GJ f (0,[]) (Sz (ht,hf)) h;simp only;repeat'(first|exact a6|apply eS rfl|refine rX c ?_ ?_|refine rC ?_ ?_<;>intro a<;>try(cases a;done))
 .exact a
 .have b:i<f.length:=aT.1 a4;have e:f.all (Sz (ht,hf))=false:=by
   rw[ABA];refine⟨_,AF f (0,[]) b,?_⟩;unfold Sz;rw[AC6 (ABh.2 a)];simp
  rw[At e]at d;exact fI c [.tmp 4] (by rw[d];exact eR)
 .have b:i<f.length:=aT.1 a4;have m:=AF f (0,[]) b;have n:Sz (ht,hf) (f.getD i (0,[]))=(f.getD i (0,[])).2.all (p9 (ht,hf)):=by
   unfold Sz;rw[ABm (show (f.getD i (0,[])).1<(ht.length:Int) from a)];rfl
  have t:(f.getD i (0,[])).2.length<=100000:=hs.2 _ m;refine AJ (ι:={k:Nat//k<=(f.getD i (0,[])).2.length/\((f.getD i (0,[])).2.take k).all (p9 (ht,hf))=true}) (λk=>⟨[(2,.bp 2 [] 0),(3,.bp 3 [] 0),(5,.bp 5 [] 0),(7,.p (.int .i64) (i:Int)),(8,.bp 8 [] 0),(9,.p (.int .i64) (k.1:Int))],[(2,.box 26 true [.p SM ht,.p TW hf]),(3,.box 34 true [.p J1 f]),(5,.box 34 true [.p J1 (A4 f).1]),(8,.box 57 true [.p T3 (f.getD i (0,[])).1,.p L5 (f.getD i (0,[])).2])]⟩) (λk=>(f.getD i (0,[])).2.length-k.1) ⟨0,sc⟩ (eW [(2,.nm 2),(3,.nm 3),(5,.nm 5),(8,.nm 8)]) (λk=>?_)
  obtain⟨k,hk,l⟩:=k;have r:=λh:k<(f.getD i (0,[])).2.length=>GJ (f.getD i (0,[])).2 (0,0) (p9 (ht,hf)) h;simp only;repeat'(first|exact a6|apply eS rfl|apply AB|refine rX c ?_ ?_|refine rC ?_ ?_<;>intro a<;>try(cases a;done))
  .exact a
  .have g:k<(f.getD i (0,[])).2.length:=aT.1 a4;have e:f.all (Sz (ht,hf))=false:=by
    rw[ABA];refine⟨_,m,?_⟩;rw[n,ABA.2 ⟨_,AF (f.getD i (0,[])).2 (0,0) g,by unfold p9;rw[AC6 (ABh.2 a)];simp⟩];simp
   rw[At e]at d;exact fI c [.tmp 4] (by rw[d];exact eR)
  .exact eV
  .have g:k<(f.getD i (0,[])).2.length:=aT.1 a4;refine⟨⟨k+1,g,?_⟩,a2,AC [(2,.nm 2),(3,.nm 3),(5,.nm 5),(8,.nm 8)] rfl rfl ?_ ?_⟩
   .rw[r g,l];unfold p9;exact ABm a
   .exact eN
   exact eN
  .exact eV
  have g:(f.getD i (0,[])).2.take k=(f.getD i (0,[])).2:=BY (AAf.1 a);rw[g]at l;refine⟨⟨i+1,b,?_⟩,a2,AC [(2,.nm 2),(3,.nm 3),(5,.nm 5)] rfl rfl ?_ ?_⟩
  .rw[q b,j,n,l];rfl
  .exact eN
  exact eN
 .exact⟨hs,o⟩
 .have b:f.take i=f:=BY (AAf.1 a4);rw[b]at j;rw[An (by rw[j];simp),At (by simpa using a)]at d;exact fI c [.tmp 4] (by rw[d];exact eR)
 have b:f.take i=f:=BY (AAf.1 a4);rw[b]at j;rw[An (by rw[j];simp),An (by rw[a];simp)]at d;exact fI c [.tmp 4] (by rw[d];exact eR)
end
section
attribute [local go_sem] Na NZ
def GQ (h:AE) (f:List AD) (t:Int):List (Int×Int)->Int
 | []=>0
 | a :: l=>if (CL h t a.1).2=false then 10 else if Ai h (CL h t a.1).1 (f.getD a.2.toNat (0,[])).1=false then 11 else GQ h f t l
def FB (h:AE) (f:List AD):List AD->Int
 | []=>0
 | x :: l=>if GQ h f x.1 x.2=0 then FB h f l else GQ h f x.1 x.2
def HV (h:AE) (f:List AD):Int:=if Cf h f=0 then FB h f f else Cf h f
structure Chk (h:AE) (f:List AD):Prop where
 ty:∀x∈f,0<=x.1/\x.1<(h.1.length:Int)
 arc:∀x∈f,∀a∈x.2,Js h f.length a
theorem A7K (e:Cf h f=0):Chk h f:=by
 have h1:(A4 f).2=0:=by
  refine DO λhn=>?_;unfold Cf at e;rw[At hn]at e;exact hn e
 have c:B3 f=0:=by
  refine DO λhn=>?_;unfold A4 at h1;rw[An hn]at h1;exact hn h1
 have d:f.all (Sz h)=true:=by
  cases k:f.all (Sz h) with
  | true=>rfl
  | false =>
   unfold Cf at e;rw[An (by rw[h1];simp),At k]at e;cases e
 have j:Gv f.length f=0:=by
  unfold B3 at c;split at c
  .cases c
  split at c
  .cases c
  exact c
 have g:=IH j;rw[NO]at d;have i:∀x∈f,x.1<(h.1.length:Int)/\∀a∈x.2,a.1<(h.2.length:Int):=λx b=>by
  have:=d x b;unfold Sz at this;rw[AT,If,NO]at this;exact⟨this.1,λa ha=>by have:=this.2 a ha;unfold p9 at this;simpa using this⟩
 exact⟨λx b=>⟨(g x b).1,(i x b).1⟩,λx b a ha=>by
  obtain⟨l,m,n⟩:=(g x b).2 a ha;exact⟨⟨l,(i x b).2 a ha⟩,m,n⟩⟩
theorem XL (h:AE) (f l:List AD) (hk:k<l.length):FB h f (l.drop k)=if GQ h f (l.getD k (0,[])).1 (l.getD k (0,[])).2=0 then FB h f (l.drop (k+1)) else GQ h f (l.getD k (0,[])).1 (l.getD k (0,[])).2:=by
 rw[p7 (0,[]) hk];rfl
theorem gD (h:AE) (f:List AD) (t:Int) (l:List (Int×Int)) (hk:k<l.length):GQ h f t (l.drop k)=if (CL h t (l.getD k (0,0)).1).2=false then 10 else if Ai h (CL h t (l.getD k (0,0)).1).1 (f.getD (l.getD k (0,0)).2.toNat (0,[])).1=false then 11 else GQ h f t (l.drop (k+1)):=by
 rw[p7 (0,0) hk];rfl
theorem A18:Af Tryz.prog 36 Na:=by
 refine fK [0,1,2,3,6,7,8,9,19,28] Tryz.func36 Tryz.ntmps36 AH ?_;rintro w0 O0 ⟨⟨ht,hf⟩,t,f,u⟩ c o ⟨i,j⟩;simp only[Na,AM];refine Ev.ent (σ':=⟨[(0,.p GH (ht,hf)),(1,.p T3 t),(2,.p T3 f)],[]⟩) ?_ (AC [] rfl rfl ?_ ?_)
 .repeat'(first|exact a6|apply eS rfl|refine rX c ?_ ?_)
  .exact⟨i,j⟩
  have n:∀l,l=(List.getD ht (Int.toNat t) (ByteArray.empty,[],[],[])).2.2.2->CL (ht,hf) t f=D6 f l:=λl e=>by rw[e];rfl
  have q:List.length (List.getD ht (Int.toNat t) (ByteArray.empty,[],[],[])).2.2.2<=140737488355328:=(o.1.1.2 _ (AF (ht:List FA) RM ((ACT i).2 j))).2.2.2.1;generalize (List.getD ht (Int.toNat t) (ByteArray.empty,[],[],[])).2.2.2=l at *;rw[n l rfl];refine AJ (ι:={k:Nat//k<=List.length l/\D6 f l=D6 f (l.drop k)}) (λk=>⟨[(2,.p T3 f),(8,.p XD l),(9,.p (.int .i64) (k.1:Int))],[]⟩) (λk=>List.length l-k.1) ⟨0,GO _,rfl⟩ (eW []) (λk=>?_)
  obtain⟨k,hk,a⟩:=k;have g:=λh:k<List.length l=>Vk f l h;simp only;repeat'(first|exact a6|apply eS rfl|apply AB|refine rX c ?_ ?_|refine rC ?_ ?_<;>intro b<;>try(cases b;done))
  .exact b
  .exact aT.2 eV
  .have d:k<List.length l:=by exact eV
   rw[g d,At b]at a;exact fI c [.tmp 6,.tmp 7] (by rw[a];exact eR)
  .omega
  .have d:k<List.length l:=by exact eV
   rw[g d,An b]at a;exact⟨⟨k+1,d,a⟩,a2,eW []⟩
  have m:List.drop k (l:List (Int×Int))=[]:=No eV;rw[m]at a;have a:D6 f l=(0,false):=a;exact fI c [.tmp 6,.tmp 7] (by rw[a];exact eR)
 .exact eN
 exact eN
end
section
attribute [local go_sem] M4 Na Pc
theorem A19 (hk:GV h) {a:Int} (c:0<=a) (d:a<(h.1.length:Int)) (e:0<=b) (b1:b<(h.1.length:Int)):Eo (Be h b) (Be h a)=Ai h a b:=by
 have f:=hk.1.wds _ (CY c d);have g:=hk.1.wds _ (CY e b1);rw[AC1,FM g f];exact(B0 hk c d e b1).symm
def V6:Ab:={ ins:=[GH,T3,T3],pre:=λ(h,a,b,_)=>(((0:Int)<=a/\a<(List.length (h:AE).1:Int))/\((0:Int)<=b/\b<(List.length (h:AE).1:Int)))/\GV h,out:=λ(h,a,b,_)=>[.p .bool (Ai h a b)],lend:=true }
attribute [local go_sem] V6
theorem A1a:Af Tryz.prog 37 V6:=by
 refine fK [0,1,2,3,6] Tryz.func37 Tryz.ntmps37 (AG RB AH) ?_;rintro w0 O0 ⟨⟨ht,hf⟩,a,b,u⟩ d-⟨⟨ha,c⟩,hk⟩;have hk:GV (ht,hf):=hk;have e:=A19 hk ha.1 ha.2 c.1 c.2;have f:(Be (ht,hf) b).length<=100000:=aS (hk.1.wid _ (CY c.1 c.2)) O1;simp only[V6,AM];repeat'(first|exact a6|apply eS rfl|refine rX d ?_ ?_)
 .exact⟨c,ha,f⟩
 exact fI d [.tmp 6] (by rw[<-e];unfold Be;exact eR)
def Ju:Ab:={ ins:=[GH,Ff],pre:=λ(h,f,_)=>bT h/\FO f/\GV h,out:=λ(h,f,_)=>[.p C3 (HV h f)] }
attribute [local go_sem] Ju
theorem mI:Af Tryz.prog 14 Ju:=by
 refine fK [0,1,2,3,4,5,6,7,8,9,10,15,21,33,53,67] Tryz.func14 Tryz.ntmps14 (AG vB (AG A18 (AG A1a AH))) ?_;rintro w0 O0 ⟨⟨ht,hf⟩,f,u⟩ d-⟨m,hs,q⟩;have m:bT (ht,hf):=m;have hs:FO f:=hs;have q:GV (ht,hf):=q;have H:=hs.1;simp only[Ju,AM];repeat'(first|exact a6|apply eS rfl|refine rX d ?_ ?_|refine rC ?_ ?_<;>intro a<;>try(cases a;done))
 .exact hs
 .have g:HV (ht,hf) f=Cf (ht,hf) f:=An a;exact fI d [.tmp 4] (by rw[g];exact eR)
 have w:Cf (ht,hf) f=0:=by simpa using a
 have g:HV (ht,hf) f=FB (ht,hf) f f:=At w;obtain⟨v,A⟩:=A7K w;refine AJ (ι:={i:Nat//i<=f.length/\FB (ht,hf) f f=FB (ht,hf) f (f.drop i)}) (λi=>⟨[(2,.bp 2 [] 0),(3,.bp 3 [] 0),(6,.p (.int .i64) (i.1:Int))],[(2,.box 26 true [.p SM ht,.p TW hf]),(3,.box 34 true [.p J1 f])]⟩) (λi=>f.length-i.1) ⟨0,GO _,rfl⟩ (eW [(2,.nm 2),(3,.nm 3)]) (λi=>?_)
 obtain⟨i,hi,e⟩:=i;have E:=λh:i<f.length=>XL (ht,hf) f f h;have D:=λh:i<f.length=>AF f (0,[]) h;simp only;repeat'(first|exact a6|apply eS rfl|refine rX d ?_ ?_|refine rC ?_ ?_<;>intro a<;>try(cases a;done))
 .exact a
 .have n:i<f.length:=aT.1 a;have r:=E n;have o:=D n;obtain⟨x,y⟩:=v _ o;have B:=A _ o;have G:=hs.2 _ o;generalize I:(f.getD i (0,[])).2=L at *;refine AJ (ι:={k:Nat//k<=L.length/\GQ (ht,hf) f (f.getD i (0,[])).1 L=GQ (ht,hf) f (f.getD i (0,[])).1 (L.drop k)}) (λk=>⟨[(2,.bp 2 [] 0),(3,.bp 3 [] 0),(6,.p (.int .i64) (i:Int)),(7,.p L5 L),(8,.p (.int .i64) (k.1:Int))],[(2,.box 26 true [.p SM ht,.p TW hf]),(3,.box 34 true [.p J1 f])]⟩) (λk=>L.length-k.1) ⟨0,GO _,rfl⟩ (eW [(2,.nm 2),(3,.nm 3)]) (λk=>?_)
  obtain⟨k,hk,b⟩:=k;have s:=λh:k<L.length=>gD (ht,hf) f (f.getD i (0,[])).1 L h;have C:=λh:k<L.length=>B _ (AF L (0,0) h);simp only;have F:=II (f:=(L.getD k (0,0)).1) m x y;repeat'(first|exact a6|apply eS rfl|apply AB|refine rX d ?_ ?_|refine rC ?_ ?_<;>intro a<;>try(cases a;done))
  .exact⟨a4,a,x,y⟩
  .have c:k<L.length:=by exact eV
   rw[s c,At a]at b;have j:HV (ht,hf) f=10:=by rw[g,e,r,An (by rw[b];simp),b]
   exact fI d [.tmp 4] (by rw[j];exact eR)
  .have c:k<L.length:=by exact eV
   obtain⟨-,z,b1⟩:=C c;exact⟨a4,⟨z,b1⟩,⟨F a,v _ (AF f (0,[]) O1)⟩,q⟩
  .have c:k<L.length:=by exact eV
   have t:(CL (ht,hf) (List.getD f i (0,[])).1 (List.getD L k (0,0)).1).2=true:=by assumption
   rw[s c,An (by rw[t];simp),At a]at b;have j:HV (ht,hf) f=11:=by rw[g,e,r,An (by rw[b];simp),b]
   exact fI d [.tmp 4] (by rw[j];exact eR)
  .omega
  .have c:k<L.length:=by exact eV
   have t:(CL (ht,hf) (List.getD f i (0,[])).1 (List.getD L k (0,0)).1).2=true:=by assumption
   rw[s c,An (by rw[t];simp),An (by rw[a];simp)]at b;exact⟨⟨k+1,c,b⟩,a2,eW [(2,.nm 2),(3,.nm 3)]⟩
  .omega
  have l:L.drop k=[]:=No (AAf.1 a);rw[l]at b;have b:GQ (ht,hf) f (f.getD i (0,[])).1 L=0:=b;rw[r,At b]at e;exact⟨⟨i+1,n,e⟩,a2,eW [(2,.nm 2),(3,.nm 3)]⟩
 have l:f.drop i=[]:=No (AAf.1 a);rw[l]at e;have j:HV (ht,hf) f=0:=by rw[g,e];rfl
 exact fI d [.tmp 4] (by rw[j];exact eR)
end
section
attribute [local go_sem] NZ
def BT (l:List (Int×Int)) (e:Int):Int:=match l with
 | []=>-1
 | a :: l=>if a.1=e then a.2 else BT l e
theorem YZ (e:Int) (l:List (Int×Int)) (h:k<l.length):BT (l.drop k) e=if (l.getD k (0,0)).1=e then (l.getD k (0,0)).2 else BT (l.drop (k+1)) e:=by
 rw[OR h];have e:l.getD k (0,0)=l[k]:=by simp[AS,h]
 rw[e];rfl
end
section
attribute [local go_sem] NZ
structure A1b (a b:List AD) (m:List Int):Prop where
 len:m.length=a.length
 rng:∀x∈m,x<(b.length:Int)
theorem QD {n:Int} (hn:0<=n):∀ {l:List (Int×Int)} (e:Int),(∀x∈l,x.2<n)->BT l e<n
 | [],_,_=>by simp only[BT];omega
 | x :: l,e,h=>by
  simp only[BT];split
  .exact h x sc
  exact QD hn e (λy a=>h y (by simp[a]))
theorem A1b.set {a b:List AD} {m:List Int} (h:A1b a b m) (k:Nat) {v:Int} (d:v<(b.length:Int)):A1b a b (m.set k v):=by
 refine⟨by simp[h.len],λx c=>?_⟩;rcases AB2 c with c|c
 .exact h.rng x c
 rw[c];exact d
theorem A1b.get {a b:List AD} {m:List Int} (h:A1b a b m) (c:0<b.length) (k:Nat):m.getD k 0<(b.length:Int):=by
 rw[AS];cases hh:m[k]? with
 | none=>show (0:Int)<_;omega
 | some x=>exact h.rng x (AAO hh)
def DU (h:AE) (f:List AD):Prop:=∀x∈f,0<=x.1/\x.1<(h.1.length:Int)
theorem QE (hf:AX f) (k:Nat):∀x∈(f.getD k (0,[])).2,0<=x.2/\x.2<(f.length:Int):=by
 intro x a;by_cases h:k<f.length
 .exact(hf.2 _ (AF f (0,[]) h)).2 x a
 rw[AS,oN O1]at a;cases a
end
def Ya (s:ByteArray):Nat->List FA->Int
 | _,[]=>-1
 | k,x :: l=>if AK x.1 s=true then (k:Int) else Ya s (k+1) l
def Aw (h:AE) (s:ByteArray):Int:=Ya s 0 h.1
def jC (s:ByteArray):Nat->List Pw->Int
 | _,[]=>-1
 | k,x :: l=>if AK x.1 s=true then (k:Int) else jC s (k+1) l
def BO (h:AE) (s:ByteArray):Int:=jC s 0 h.2
theorem aC (s:ByteArray):∀(l:List FA) (k:Nat),Ya s k l=-1\/((k:Int)<=Ya s k l/\Ya s k l<((k+l.length:Nat):Int))
 | [],_=>.inl rfl
 | x :: l,k=>by
  unfold Ya;split
  .exact .inr ⟨ABt _,by simp only[Is];omega⟩
  have:=aC s l (k+1);simp only[Is];omega
theorem qA (s:ByteArray):∀(l:List Pw) (k:Nat),jC s k l=-1\/((k:Int)<=jC s k l/\jC s k l<((k+l.length:Nat):Int))
 | [],_=>.inl rfl
 | x :: l,k=>by
  unfold jC;split
  .exact .inr ⟨ABt _,by simp only[Is];omega⟩
  have:=qA s l (k+1);simp only[Is];omega
theorem DL (h:AE) (s:ByteArray):-1<=Aw h s/\Aw h s<(h.1.length:Int):=by
 have:=aC s h.1 0;unfold Aw;omega
theorem GY (h:AE) (s:ByteArray):-1<=BO h s/\BO h s<(h.2.length:Int):=by
 have:=qA s h.2 0;unfold BO;omega
structure LW where
 list:Int
 cons:Int
 null:Int
 dlist:Int
 first:Int
 rest:Int
 head:Int
 last:Int
def sb (l:List UInt8):ByteArray:=⟨l.toArray⟩
def ED (h:AE):LW:=⟨Aw h (sb [108,105,115,116]),Aw h (sb [99,111,110,115]),Aw h (sb [110,117,108,108]),Aw h (sb [100,108,105,115,116]),BO h (sb [70,73,82,83,84]),BO h (sb [82,69,83,84]),BO h (sb [76,73,83,84]),BO h (sb [76,65,83,84])⟩
def S0 (h:AE):Bool:=decide (0<=(ED h).list/\0<=(ED h).cons/\0<=(ED h).null/\0<=(ED h).dlist/\0<=(ED h).first/\0<=(ED h).rest/\0<=(ED h).head/\0<=(ED h).last)&&Ai h (ED h).list (ED h).cons&&Ai h (ED h).list (ED h).null
def V7 (w:LW) (row:List (Int×Int)):Bool:=decide (BT row w.first<0)&&decide (BT row w.rest<0)
def V8 (w:LW) (row:List (Int×Int)):Bool:=decide (0<=BT row w.first)&&decide (0<=BT row w.rest)
def gE (h:AE) (w:LW) (x:AD):Bool:=Ai h w.null x.1&&V7 w x.2
def Sd (h:AE) (w:LW) (x:AD):Bool:=Ai h w.cons x.1&&V8 w x.2
def V9 (h:AE) (w:LW) (x:AD):Bool:=Ai h x.1 w.cons&&V7 w x.2
def FC (h:AE) (w:LW) (x:AD):Int:=if gE h w x=true then 1 else if Sd h w x=true then 2 else if V9 h w x=true then 3 else 0
theorem Rb {w:LW} {x:AD} (e:FC h w x=2):0<=BT x.2 w.first/\0<=BT x.2 w.rest:=by
 unfold FC at e;split at e
 .cases e
 split at e
 .rename_i a;unfold Sd V8 at a;simp only[AT,If]at a;exact a.2
 split at e<;>cases e
theorem A1c (e:S0 h=true):(0<=(ED h).first/\0<=(ED h).rest)/\0<=(ED h).cons/\0<=(ED h).null/\0<=(ED h).list/\0<=(ED h).dlist/\0<=(ED h).head/\0<=(ED h).last:=by
 unfold S0 at e;rw[AT,AT,If]at e;obtain⟨⟨⟨h1,a,b,c,d,f,g,i⟩,-⟩,-⟩:=e;exact⟨⟨d,f⟩,a,b,h1,c,g,i⟩
section
theorem gF (s:ByteArray) (l:List FA) (h:k<l.length):Ya s k (l.drop k)=if AK (l.getD k RM).1 s=true then (k:Int) else Ya s (k+1) (l.drop (k+1)):=by
 rw[OR h];have e:l.getD k RM=l[k]:=by simp[AS,h]
 rw[e];rfl
theorem gG (s:ByteArray) (l:List Pw) (h:k<l.length):jC s k (l.drop k)=if AK (l.getD k (ByteArray.empty,0)).1 s=true then (k:Int) else jC s (k+1) (l.drop (k+1)):=by
 rw[OR h];have e:l.getD k (ByteArray.empty,0)=l[k]:=by simp[AS,h]
 rw[e];rfl
def QF:Ab:={ ins:=[GH,T9],pre:=λ_=>True,out:=λ(h,s,_)=>[.p T3 (Aw h s)],lend:=true }
attribute [local go_sem] QF
theorem A4C:Af Tryz.prog 23 QF:=by
 refine fK [0,1,2,4,5,10,20] Tryz.func23 Tryz.ntmps23 AH ?_;rintro w0 O0 ⟨⟨ht,hf⟩,s,u⟩ d ⟨⟨⟨f,-⟩,-⟩,-⟩ -;simp only[AP]at f;simp only[QF,AM];repeat'(first|exact a6|apply eS rfl|apply AB|refine rX d ?_ ?_|refine rC ?_ ?_<;>intro a<;>try(cases a;done))
 refine AJ (ι:={k:Nat//k<=ht.length/\Ya s k (ht.drop k)=Aw (ht,hf) s}) (λk=>⟨[(1,.p T9 s),(2,.bp 2 [] 0),(5,.p (.int .i64) (k.1:Int))],[(2,.box 26 true [.p SM ht,.p TW hf])]⟩) (λk=>ht.length-k.1) ⟨0,GO _,rfl⟩ (eW [(2,.nm 2)]) (λk=>?_)
 obtain⟨k,hk,b⟩:=k;have e:=λh:k<ht.length=>gF s ht h;simp only;repeat'(first|exact a6|apply eS rfl|apply AB|refine rX d ?_ ?_|refine rC ?_ ?_<;>intro a<;>try(cases a;done))
 .exact a
 .have c:k<ht.length:=by exact eV
  rw[e c,At a]at b;exact fI d [.tmp 4] (by rw[<-b];exact eR)
 .omega
 .have c:k<ht.length:=by exact eV
  rw[e c,An (by rw[a];simp)]at b;exact⟨⟨k+1,O1,b⟩,a2,eW [(2,.nm 2)]⟩
 have c:ht.drop k=[]:=No eV;rw[c]at b;exact fI d [.tmp 4] (by rw[<-b];first|exact eR|refine OC ?_;rfl)
def JN:Ab:={ ins:=[GH,T9],pre:=λ_=>True,out:=λ(h,s,_)=>[.p T3 (BO h s)],lend:=true }
attribute [local go_sem] JN
theorem A7L:Af Tryz.prog 59 JN:=by
 refine fK [0,1,2,4,5,10,20] Tryz.func59 Tryz.ntmps59 AH ?_;rintro w0 O0 ⟨⟨ht,hf⟩,s,u⟩ d ⟨⟨-,f,-⟩,-⟩ -;simp only[AP]at f;simp only[JN,AM];repeat'(first|exact a6|apply eS rfl|apply AB|refine rX d ?_ ?_|refine rC ?_ ?_<;>intro a<;>try(cases a;done))
 refine AJ (ι:={k:Nat//k<=hf.length/\jC s k (hf.drop k)=BO (ht,hf) s}) (λk=>⟨[(1,.p T9 s),(2,.bp 2 [] 0),(5,.p (.int .i64) (k.1:Int))],[(2,.box 26 true [.p SM ht,.p TW hf])]⟩) (λk=>hf.length-k.1) ⟨0,GO _,rfl⟩ (eW [(2,.nm 2)]) (λk=>?_)
 obtain⟨k,hk,b⟩:=k;have e:=λh:k<hf.length=>gG s hf h;simp only;repeat'(first|exact a6|apply eS rfl|apply AB|refine rX d ?_ ?_|refine rC ?_ ?_<;>intro a<;>try(cases a;done))
 .exact a
 .have c:k<hf.length:=by exact eV
  rw[e c,At a]at b;exact fI d [.tmp 4] (by rw[<-b];exact eR)
 .omega
 .have c:k<hf.length:=by exact eV
  rw[e c,An (by rw[a];simp)]at b;exact⟨⟨k+1,O1,b⟩,a2,eW [(2,.nm 2)]⟩
 have c:hf.drop k=[]:=No eV;rw[c]at b;exact fI d [.tmp 4] (by rw[<-b];first|exact eR|refine OC ?_;rfl)
def A1d:Ab:=JN
attribute [local go_sem] A1d
theorem WA:Af Tryz.prog 81 JN:=by
 refine fK [0,1,2,4,5,6,8,9,10,11,20] Tryz.func81 Tryz.ntmps81 AH ?_;rintro w0 O0 ⟨⟨ht,hf⟩,s,u⟩ b ⟨⟨-,f,-⟩,-⟩ -;simp only[AP]at f;simp only[JN,AM];repeat'(first|exact a6|apply eS rfl|apply AB|refine rX b ?_ ?_|refine rC ?_ ?_<;>intro a<;>try(cases a;done))
 refine AJ (ι:={k:Nat//k<=hf.length/\jC s k (hf.drop k)=BO (ht,hf) s}) (λk=>⟨[(1,.p T9 s),(8,.p TW hf),(9,.p (.int .i64) (hf.length:Int)),(10,.p (.int .i64) (k.1:Int))],[]⟩) (λk=>hf.length-k.1) ⟨0,GO _,rfl⟩ (eW []) (λk=>?_)
 obtain⟨k,hk,c⟩:=k;have e:=λh:k<hf.length=>gG s hf h;simp only;repeat'(first|exact a6|apply eS rfl|apply AB|refine rX b ?_ ?_|refine rC ?_ ?_<;>intro a<;>try(cases a;done))
 .exact a
 .refine cP 5 b ?_ ?_
  .trivial
  refine AAz (j:=.i64) b a5 ?_;refine rL b ?_ ?_
  .trivial
  repeat'(first|exact a6|apply eS rfl|apply AB|refine rX b ?_ ?_|refine rC ?_ ?_<;>intro a<;>try(cases a;done))
  .have d:k<hf.length:=by exact eV
   rw[e d,At a]at c;exact fI b [.tmp 4] (by rw[<-c];exact eR)
  .omega
  have d:k<hf.length:=by exact eV
  rw[e d,An (by rw[a];simp)]at c;exact⟨⟨k+1,O1,c⟩,a2,eW []⟩
 have d:hf.drop k=[]:=No eV;rw[d]at c;exact fI b [.tmp 4] (by rw[<-c];first|exact eR|refine OC ?_;rfl)
theorem A4D (s:ByteArray) (t:FA):BF Tryz.prog 77 [.p kR t,.bp 1 [] 0] [(1,.box 9 false [.p T9 s])] [1] (λres c=>res=.p .bool (AK t.1 s)/\c=[(1,.box 9 false [.p T9 s])]):=by
 refine J0 [0,1,2,3] [] [] Tryz.func77 Tryz.ntmps77 AH ?_;intro w0 K O0 ρ0 a d e;simp only[Au];repeat'(first|exact a6|apply eS rfl|apply AB|refine rX a ?_ ?_|refine rC ?_ ?_<;>intro b<;>try(cases b;done))
 refine Ev.ent (σ':=⟨[(3,.p .bool (AK t.1 s))],[(1,.box 9 false [.p T9 s])]⟩) ?_ (AC [(1,.nm 1)] rfl rfl ?_ ?_)
 .exact fM a [.tmp 3] (.p .bool (AK t.1 s)) eT ⟨rfl,rfl⟩
 .exact eN
 exact eN
theorem vC (l:List FA) (s:ByteArray):BF Tryz.prog 76 [.p SM l,.clo 77 [1]] [(1,.box 9 false [.p T9 s])] [1] (λres g=>res=.p T3 (Ya s 0 l)/\g=[(1,.box 9 false [.p T9 s])]):=by
 refine J0 [0,1,4,5,7,8,9,16] [] [] Tryz.func76 Tryz.ntmps76 AH ?_;intro w0 K O0 ρ0 b e j;have i:l.length<=140737488355328:=e.1.1;simp only[Au];repeat'(first|exact a6|apply eS rfl|apply AB|refine rX b ?_ ?_|refine rC ?_ ?_<;>intro a<;>try(cases a;done))
 refine AJ (ι:={k:Nat//k<=l.length/\Ya s k (l.drop k)=Ya s 0 l}) (λk=>⟨[(0,.p SM l),(1,.clo 77 [1]),(7,.p (.int .i64) (l.length:Int)),(8,.p (.int .i64) (k.1:Int))],[(1,.box 9 false [.p T9 s])]⟩) (λk=>l.length-k.1) ⟨0,GO _,rfl⟩ (eW [(1,.nm 1)]) (λk=>?_)
 obtain⟨k,hk,hf⟩:=k;have f:=λh:k<l.length=>gF s l h;simp only;repeat'(first|exact a6|apply eS rfl|apply AB|refine rX b ?_ ?_|refine rC ?_ ?_<;>intro a<;>try(cases a;done))
 .have c:k<l.length:=aT.1 a;have d:=f c;refine cP 5 b ?_ ?_
  .exact a
  refine rM b (A4D s (l.getD k RM)) [(1,.nm 1)] [] ?_ ?_ ?_
  .exact eN
  .exact eN
  rintro _ _ ⟨rfl,rfl⟩;refine⟨[(1,.nm 1)],.p .bool (AK (l.getD k RM).1 s),[(1,.box 9 false [.p T9 s])],rfl,rfl,?_,?_,rfl,rfl,FF ?_⟩
  .exact eN
  .exact eN
  repeat'(first|exact a6|apply eS rfl|apply AB|refine rX b ?_ ?_|refine rC ?_ ?_<;>intro a<;>try(cases a;done))
  .rw[At a,hf]at d;refine Ev.ent (σ':=⟨[(4,.p (.int .i64) (k:Int))],[(1,.box 9 false [.p T9 s])]⟩) ?_ (AC [(1,.nm 1)] rfl rfl ?_ ?_)
   .exact fM b [.tmp 4] (.p T3 (k:Int)) eT ⟨by rw[d],rfl⟩
   .exact eN
   exact eN
  .omega
  rw[An (by rw[a];simp)]at d;exact⟨⟨k+1,c,d.symm.trans hf⟩,a2,eW [(1,.nm 1)]⟩
 have c:l.drop k=[]:=No (AAf.1 a);rw[c]at hf;have hf:(-1:Int)=Ya s 0 l:=hf;refine Ev.ent (σ':=⟨[(4,.p (.int .i64) (-1))],[(1,.box 9 false [.p T9 s])]⟩) ?_ (AC [(1,.nm 1)] rfl rfl ?_ ?_)
 .exact fM b [.tmp 4] (.p T3 (-1)) eT ⟨by rw[hf],rfl⟩
 .exact eN
 exact eN
def QG:Ab:={ ins:=[GH,T9],pre:=λ_=>True,out:=λ(h,s,_)=>[.p T3 (Aw h s)],lend:=true }
attribute [local go_sem] QG
theorem QH:Af Tryz.prog 33 QG:=by
 refine fK [0,1,2,3,4] Tryz.func33 Tryz.ntmps33 AH ?_;rintro w0 O0 ⟨⟨ht,hf⟩,s,u⟩ a - -;simp only[QG,AM];refine Ev.ent (σ':=⟨[(0,.p GH (ht,hf)),(1,.p T9 s)],[]⟩) ?_ (AC [] rfl rfl ?_ ?_)
 .repeat'(first|exact a6|apply eS rfl|apply AB|refine rX a ?_ ?_|refine rC ?_ ?_<;>intro b<;>try(cases b;done))
  refine cP 3 a ?_ ?_
  .trivial
  refine rM a (vC ht s) [(1,.nm 3)] [] ?_ ?_ ?_
  .exact eN
  .exact eN
  rintro _ _ ⟨rfl,rfl⟩;refine⟨[(3,.nm 1)],.p T3 (Ya s 0 ht),[(3,.box 9 false [.p T9 s])],rfl,rfl,?_,?_,rfl,rfl,?_⟩
  .exact eN
  .exact eN
  refine rL a ?_ ?_
  .trivial
  repeat'(first|exact a6|apply eS rfl|apply AB|refine rX a ?_ ?_|refine rC ?_ ?_<;>intro b<;>try(cases b;done))
  exact fI a [.tmp 4] (by unfold Aw;exact eR)
 .exact eN
 exact eN
theorem A7M (h:AE):Aw h ⟨#[108,105,115,116]⟩=(ED h).list/\Aw h ⟨#[99,111,110,115]⟩=(ED h).cons/\Aw h ⟨#[110,117,108,108]⟩=(ED h).null/\Aw h ⟨#[100,108,105,115,116]⟩=(ED h).dlist/\BO h ⟨#[70,73,82,83,84]⟩=(ED h).first/\BO h ⟨#[82,69,83,84]⟩=(ED h).rest/\BO h ⟨#[76,73,83,84]⟩=(ED h).head/\BO h ⟨#[76,65,83,84]⟩=(ED h).last:=⟨rfl,rfl,rfl,rfl,rfl,rfl,rfl,rfl⟩
theorem A1e (h:AE):((ED h).list<(h.1.length:Int)/\(ED h).cons<(h.1.length:Int)/\(ED h).null<(h.1.length:Int)/\(ED h).dlist<(h.1.length:Int))/\(-1<=(ED h).list/\-1<=(ED h).cons/\-1<=(ED h).null/\-1<=(ED h).dlist) :=
 ⟨⟨(DL h _).2,(DL h _).2,(DL h _).2,(DL h _).2⟩,(DL h _).1,(DL h _).1,(DL h _).1,(DL h _).1⟩
theorem IK {α:Type} {f:List α} (h:0<=n/\n<(f.length:Int)):n.toNat<f.length:=by omega
end
section
attribute [local go_sem] QG A1d JN NZ Jk Io
def wdF (h:AE) (w:LW):dX.den:=(h,w.list,w.cons,w.null,w.dlist,w.first,w.rest,w.head,w.last)
def lwO (w:dX.den):LW:=⟨w.2.1,w.2.2.1,w.2.2.2.1,w.2.2.2.2.1,w.2.2.2.2.2.1,w.2.2.2.2.2.2.1,w.2.2.2.2.2.2.2.1,w.2.2.2.2.2.2.2.2⟩
def WB:Ab:={ ins:=[Ff,T3,T3],pre:=λ(f,n,_)=>AX f/\(0:Int)<=n/\n<(List.length f:Int),out:=λ(f,n,e,_)=>[.p T3 (BT (List.getD (f:List AD) n.toNat (0,[])).2 e)],lend:=true }
attribute [local go_sem] WB
theorem aD:Af Tryz.prog 169 WB:=by
 refine fK [0,1,2,3,6,8,14,15,16,17,23] Tryz.func169 Tryz.ntmps169 AH ?_;rintro w0 O0 ⟨f,n,e,u⟩ d-⟨g,hn⟩;have g:AX f:=g;have hn:0<=n/\n<(f.length:Int):=hn;simp only[WB,AM];repeat'(first|exact a6|apply eS rfl|apply AB|refine rX d ?_ ?_|refine rC ?_ ?_<;>intro a<;>try(cases a;done))
 .exact hn
 have j:=(g.2 _ (AF f (0,[]) (IK hn))).1;generalize (f.getD n.toNat (0,[])).2=L at *;refine AJ (ι:={k:Nat//k<=L.length/\BT L e=BT (L.drop k) e}) (λk=>⟨[(2,.p T3 e),(14,.p L5 L),(15,.p (.int .i64) (L.length:Int)),(16,.p (.int .i64) (k.1:Int))],[]⟩) (λk=>L.length-k.1) ⟨0,GO _,rfl⟩ (eW []) (λk=>?_)
 obtain⟨k,hk,b⟩:=k;have i:=λh:k<L.length=>YZ e L h;simp only;repeat'(first|exact a6|apply eS rfl|apply AB|refine rX d ?_ ?_|refine rC ?_ ?_<;>intro a<;>try(cases a;done))
 .exact a
 .have c:k<L.length:=by exact eV
  rw[i c,At a]at b;exact fI d [.tmp 6] (by rw[b];exact eR)
 .omega
 .have c:k<L.length:=by exact eV
  rw[i c,An a]at b;exact⟨⟨k+1,O1,b⟩,a2,eW []⟩
 have c:L.drop k=[]:=No eV;rw[c]at b;exact fI d [.tmp 6] (by rw[b];first|exact eR|refine OC ?_;rfl)
def WOk (h:AE) (w:LW):Prop:=(0<=w.cons/\w.cons<(h.1.length:Int))/\(0<=w.null/\w.null<(h.1.length:Int))
def Ob:Ab:={ ins:=[dX,Ff,T3],pre:=λ(w,f,n,_)=>WOk w.1 (lwO w)/\AX f/\DU w.1 f/\(0:Int)<=n/\n<(List.length f:Int),out:=λ(w,f,n,_)=>[.p T3 (FC w.1 (lwO w) (List.getD (f:List AD) n.toNat (0,[])))],lend:=true }
attribute [local go_sem] Ob
theorem gH:Af Tryz.prog 171 Ob:=by
 refine fK [0,1,2,3,4,6,7,8,9,28,43,56] Tryz.func171 Tryz.ntmps171 (AG aD (AG Py AH)) ?_;rintro w0 O0 ⟨⟨h,l,c,d,dl,a,e,b,la⟩,f,n,u⟩ i-⟨j,k,ht,hn⟩;have j:WOk h ⟨l,c,d,dl,a,e,b,la⟩:=j;have k:AX f:=k;have ht:DU h f:=ht;have hn:0<=n/\n<(f.length:Int):=hn;have m:=ht _ (AF f (0,[]) (IK hn));simp only[Ob,AM];repeat'(first|exact a6|apply eS rfl|apply AB|refine rX i ?_ ?_|refine rC ?_ ?_<;>intro o<;>try(cases o;done))
 .exact hn
 .exact⟨k,hn⟩
 .exact⟨j.2,m⟩
 .have g:FC h ⟨l,c,d,dl,a,e,b,la⟩ (f.getD n.toNat (0,[]))=1:=by
   unfold FC gE Sd V9 V7 V8;simp only[AT,If];grind
  exact fI i [.tmp 6] (by rw[show lwO (h,l,c,d,dl,a,e,b,la)=⟨l,c,d,dl,a,e,b,la⟩ from rfl,g];exact eR)
 .exact⟨j.1,m⟩
 .have g:FC h ⟨l,c,d,dl,a,e,b,la⟩ (f.getD n.toNat (0,[]))=2:=by
   unfold FC gE Sd V9 V7 V8;simp only[AT,If];grind
  exact fI i [.tmp 6] (by rw[show lwO (h,l,c,d,dl,a,e,b,la)=⟨l,c,d,dl,a,e,b,la⟩ from rfl,g];exact eR)
 .exact⟨m,j.1⟩
 .have g:FC h ⟨l,c,d,dl,a,e,b,la⟩ (f.getD n.toNat (0,[]))=3:=by
   unfold FC gE Sd V9 V7 V8;simp only[AT,If];grind
  exact fI i [.tmp 6] (by rw[show lwO (h,l,c,d,dl,a,e,b,la)=⟨l,c,d,dl,a,e,b,la⟩ from rfl,g];exact eR)
 have g:FC h ⟨l,c,d,dl,a,e,b,la⟩ (f.getD n.toNat (0,[]))=0:=by
  unfold FC gE Sd V9 V7 V8;simp only[AT,If];grind
 exact fI i [.tmp 6] (by rw[show lwO (h,l,c,d,dl,a,e,b,la)=⟨l,c,d,dl,a,e,b,la⟩ from rfl,g];exact eR)
theorem A4E {a:Int}:(if b<a then b else a)<0↔a<0\/b<0:=by split<;>omega
theorem A4F {a:Int}:(0<=if b<a then b else a)↔0<=a/\0<=b:=by split<;>omega
def A6c:dX.den:=(([],[]),0,0,0,0,0,0,0,0)
def Oc:Ab:={ ins:=[GH],pre:=λ_=>True,out:=λ(h,_)=>[.p dX (if S0 h=true then wdF h (ED h) else A6c),.p C3 (if S0 h=true then 0 else 5)] }
attribute [local go_sem] Oc
theorem A1f:Af Tryz.prog 168 Oc:=by
 refine fK [0,1,2,3,4,58] Tryz.func168 Tryz.ntmps168 (AG QH (AG WA (AG Py AH))) ?_;rintro w0 O0 ⟨⟨ht,hf⟩,u⟩ a - -;obtain⟨e,f,g,i,j,k,l,m⟩:=A7M (ht,hf);obtain⟨⟨r,s,t,v⟩,n,o,p,q⟩:=A1e (ht,hf);simp only[Oc,AM];repeat'(first|exact a6|apply eS rfl|apply AB|refine rX a ?_ ?_|refine rC ?_ ?_<;>intro d<;>try(cases d;done))
 all_goals simp only[e,f,g,i,j,k,l,m,A4E,A4F]at *
 .refine⟨λh=>?_,λh=>?_⟩<;>simp only[gO,AAj,Wx,not_or]at h<;>grind
 .have b:S0 (ht,hf)=false:=by
   rw[ABL];intro c;unfold S0 at c;simp only[AT,If]at c;grind
  exact fI a [.cell 2 248,.tmp 3] (by simp only[b,ABl,ABs,A6c];exact eR)
 have b:S0 (ht,hf)=true:=by
  unfold S0;simp only[AT,If];grind
 exact fI a [.cell 2 248,.tmp 3] (by simp only[b,ABa,wdF];exact eR)
end
section
attribute [local go_sem] Fx IC M4
def M5 (d:List AI):AE:=if d.length<=12/\(Ad d).2=0 then (Ad d).1 else (Ad Bq).1
end
section
attribute [local go_sem] Na
theorem mJ (h:AE) (hk:GV h) (hi:JL h) (hf:bT h) (X:h.2.length<=100000) (f:List AD) (P:AX f) (ha:Oa h f) (s:EI) (hs:NJ h f.length s) (n0:0<=n) (n1:n<(f.length:Int)) (T:YW h s.1+s.2.length<=1000000000) :
  BF Tryz.prog 93 [.bp 1 [] 0,.p Ff f,.p T3 n] (Dv h s) [1]
  (λres z=>(LG h f n s=none/\res=.p .bool false/\∃A,z=Dv h A)\/∃A,LG h f n s=some A/\res=.p .bool true/\z=Dv h A):=by
 have H:=MV ha n0 n1;have Z:(f.getD n.toNat (0,[])).2.length<=100000:=(P.2 _ (AF f (0,[]) O1)).1;have O:LG h f n s=(MT h n (f.getD n.toNat (0,[])).2 s).bind (NI h n (f.getD n.toNat (0,[])).2):=rfl;rw[O];refine J0 [0,1,2,4,6,8,10,11,12,18,19,20,21,37,44,45,46,47,76] [] [] Tryz.func93 Tryz.ntmps93 (AG A4m AH) ?_;intro w0 K O0 ρ0 a aa ab;simp only[Dv,Au];repeat'(first|exact a6|apply eS rfl|refine rX a ?_ ?_)
 .exact⟨n0,n1⟩
 have Y:f.getD n.toNat (0,[])=f.getD n.toNat (0,[]):=rfl;generalize M:(f.getD n.toNat (0,[])).2=L at *;refine AJ (ι:={x:Nat×EI//x.1<=L.length/\NJ h f.length x.2/\YW h x.2.1+x.2.2.length<=1000000000/\MT h n L s=MT h n (L.drop x.1) x.2}) (λx=>⟨[(0,.bp 1 [] 0),(2,.p T3 n),(4,.bp 4 [] 0),(18,.p L5 L),(19,.p (.int .i64) (L.length:Int)),(20,.p (.int .i64) (x.1.1:Int))],[(4,.box 34 true [.p J1 f]),(1,.box 163 true [.p GH h,.sr 2 T3 0 x.1.2.1.length,.p CH x.1.2.2]),(2,.arr 3 T3 x.1.2.1)]⟩) (λx=>L.length-x.1.1) ⟨(0,s),GO _,hs,T,rfl⟩ (eW [(4,.nm 4),(1,.nm 1),(2,.nm 2)]) (λx=>?_)
 obtain⟨⟨k,s1⟩,R,r,C,i⟩:=x;simp only at R r C i ⊢;repeat'(first|exact a6|apply eS rfl|refine rX a ?_ ?_|refine rC ?_ ?_<;>intro b<;>try(cases b;done))
 .exact b
 .have l:k<L.length:=aT.1 b;have d:MT h n (L.drop k) s1=(DB h s1 n (LF h (L.getD k (0,0)).1)).bind (MT h n (L.drop (k+1))):=by rw[p7 (0,0) l];rfl
  obtain⟨⟨F,G⟩,u,b1⟩:=H _ (AF L (0,0) l);obtain⟨o,q⟩:=MU hf F G;obtain⟨w,y⟩:=r.get n0 n1;refine cD 12 a ?_ ?_
  .exact⟨F,G⟩
  refine rM a (fQ h hk s1 n0 (by rw[r.len];exact n1) w y o q O1) [(1,.nm 1),(2,.nm 2)] [2] ?_ ?_ ?_
  .refine eM ?_;rfl
  .simp only[Dv];exact eN
  rintro res z (⟨c,rfl,rfl⟩|⟨s2,c,rfl,rfl⟩)
  .refine⟨[(1,.nm 1),(2,.nm 2)],.p .bool false,Dv h s1,rfl,rfl,?_,?_,rfl,rfl,?_⟩
   .simp only[Dv];exact eN
   .exact eN
   simp only[Dv];refine rL a ?_ ?_
   .trivial
   repeat'(first|exact a6|apply eS rfl|refine rX a ?_ ?_|refine rC ?_ ?_<;>intro b<;>try(cases b;done))
   refine Ev.ent (σ':=⟨[(6,.p .bool false)],Dv h s1⟩) ?_ (AC [(1,.nm 1),(2,.nm 2)] rfl rfl ?_ ?_)
   .exact fM a [.tmp 6] (.p .bool false) eT (.inl ⟨by rw[i,d,c];rfl,rfl,s1,rfl⟩)
   .unfold Dv;exact eN
   exact eN
  refine⟨[(1,.nm 1),(2,.nm 2)],.p .bool true,Dv h s2,rfl,rfl,?_,?_,rfl,rfl,?_⟩
  .simp only[Dv];exact eN
  .exact eN
  simp only[Dv];refine rL a ?_ ?_
  .trivial
  obtain⟨D,E,U⟩:=Es hk hi r n0 n1 o q c;repeat'(first|apply eS rfl|apply AB|refine rX a ?_ ?_|refine rC ?_ ?_<;>intro b<;>try(cases b;done))
  .omega
  exact⟨⟨(k+1,s2),l,D,aS E C,by rw[i,d,c];rfl⟩,a2,eW [(4,.nm 4),(1,.nm 1),(2,.nm 2)]⟩
 .exact⟨n0,n1⟩
 have B:L.drop k=[]:=No (AAf.1 b);rw[B]at i;have i:MT h n L s=some s1:=i;rw[i];have N:(List.getD f n.toNat (0,[])).2=L:=M;rw[N];refine AJ (ι:={x:Nat×EI//x.1<=L.length/\NJ h f.length x.2/\YW h x.2.1+x.2.2.length<=1000000000/\(some s1).bind (NI h n L)=NI h n (L.drop x.1) x.2}) (λx=>⟨[(0,.bp 1 [] 0),(2,.p T3 n),(44,.p L5 L),(45,.p (.int .i64) (L.length:Int)),(46,.p (.int .i64) (x.1.1:Int))],[(1,.box 163 true [.p GH h,.sr 2 T3 0 x.1.2.1.length,.p CH x.1.2.2]),(2,.arr 3 T3 x.1.2.1)]⟩) (λx=>L.length-x.1.1) ⟨(0,s1),GO _,r,C,rfl⟩ (eW [(1,.nm 1),(2,.nm 2)]) (λx=>?_)
 obtain⟨⟨j,s2⟩,Q,m,I,g⟩:=x;simp only at Q m I g ⊢;obtain⟨w,y⟩:=m.get n0 n1;repeat'(first|exact a6|apply eS rfl|refine rX a ?_ ?_|refine rC ?_ ?_<;>intro b<;>try(cases b;done))
 .exact b
 .exact⟨⟨n0,by rw[m.len];exact n1⟩,w,y⟩
 .have l:j<L.length:=aT.1 b;have d:NI h n (L.drop j) s2=if (CL h (s2.1.getD n.toNat 0) (L.getD j (0,0)).1).2=true then (DB h s2 (L.getD j (0,0)).2 (CL h (s2.1.getD n.toNat 0) (L.getD j (0,0)).1).1).bind (NI h n (L.drop (j+1))) else none:=by rw[p7 (0,0) l];rfl
  obtain⟨-,u,b1⟩:=H _ (AF L (0,0) l);have S:=λe=>II (f:=(L.getD j (0,0)).1) hf w y e;generalize CL h (s2.1.getD n.toNat 0) (L.getD j (0,0)).1=v at *;obtain⟨t,ok⟩:=v;refine evP a 3 ?_ ?_
  .trivial
  cases ok with
  | false =>
   rw[An sc]at d;refine rL a ?_ ?_
   .trivial
   repeat'(first|exact a6|apply eS rfl|refine rX a ?_ ?_|refine rC ?_ ?_<;>intro b<;>try(cases b;done))
   refine Ev.ent (σ':=⟨[(6,.p .bool false)],Dv h s2⟩) ?_ (AC [(1,.nm 1),(2,.nm 2)] rfl rfl ?_ ?_)
   .exact fM a [.tmp 6] (.p .bool false) eT (.inl ⟨by rw[g,d],rfl,s2,rfl⟩)
   .unfold Dv;exact eN
   exact eN
  | true =>
   rw[At rfl]at d;obtain⟨o,q⟩:=S rfl;simp only at o q d;obtain⟨V,W⟩:=m.get u b1;refine rN 4 a ?_ ?_
   .trivial
   refine clG a (fQ h hk s2 u (by rw[m.len];exact b1) V W o q O1) [(1,.nm 1),(2,.nm 2)] [2] ?_ ?_ ?_
   .exact eN
   .simp only[Dv];exact eN
   rintro res z (⟨c,rfl,rfl⟩|⟨J,c,rfl,rfl⟩)
   .refine⟨[(1,.nm 1),(2,.nm 2)],.p .bool false,Dv h s2,rfl,rfl,?_,?_,rfl,rfl,?_⟩
    .simp only[Dv];exact eN
    .exact eN
    simp only[Dv];refine rL a ?_ ?_
    .trivial
    repeat'(first|exact a6|apply eS rfl|refine rX a ?_ ?_|refine rC ?_ ?_<;>intro b<;>try(cases b;done))
    refine Ev.ent (σ':=⟨[(6,.p .bool false)],Dv h s2⟩) ?_ (AC [(1,.nm 1),(2,.nm 2)] rfl rfl ?_ ?_)
    .exact fM a [.tmp 6] (.p .bool false) eT (.inl ⟨by rw[g,d,c];rfl,rfl,s2,rfl⟩)
    .unfold Dv;exact eN
    exact eN
   refine⟨[(1,.nm 1),(2,.nm 2)],.p .bool true,Dv h J,rfl,rfl,?_,?_,rfl,rfl,?_⟩
   .simp only[Dv];exact eN
   .exact eN
   simp only[Dv];refine rL a ?_ ?_
   .trivial
   obtain⟨D,E,U⟩:=Es hk hi m u b1 o q c;repeat'(first|apply eS rfl|apply AB|refine rX a ?_ ?_|refine rC ?_ ?_<;>intro b<;>try(cases b;done))
   .omega
   exact⟨⟨(j+1,J),l,D,aS E I,by rw[g,d,c];rfl⟩,a2,eW [(1,.nm 1),(2,.nm 2)]⟩
 have B:L.drop j=[]:=No (AAf.1 b);rw[B]at g;have g:(some s1).bind (NI h n L)=some s2:=g;refine Ev.ent (σ':=⟨[(6,.p .bool true)],Dv h s2⟩) ?_ (AC [(1,.nm 1),(2,.nm 2)] rfl rfl ?_ ?_)
 .exact fM a [.tmp 6] (.p .bool true) eT (.inr ⟨s2,g,rfl,rfl⟩)
 .unfold Dv;exact eN
 exact eN
end
section
def aE:Ab:={ ins:=[J1],pre:=λ(l,_)=>List.length l<=100000,out:=λ(l,_)=>[.own 57 TX l] }
attribute [local go_sem] aE
theorem vD:Af Tryz.prog 94 aE:=by
 refine fK [0,2,4] Tryz.func94 Tryz.ntmps94 AH ?_;rintro w0 O0 ⟨l,u⟩ a-d;have d:List.length l<=100000:=d;simp only[aE,AM];repeat'(first|exact a6|apply eS rfl|refine rX a ?_ ?_)
 refine cP 1 a ?_ ?_
 .trivial
 refine tX a false rfl rfl ?_;intro b e;refine rL a ?_ ?_
 .trivial
 repeat'(first|exact a6|apply eS rfl|refine rX a ?_ ?_|refine rC ?_ ?_<;>intro c<;>try(cases c;done))
 .have f:l=[]:=e c;subst f;refine Ev.ent (σ':=⟨[(2,.sr 5 TX 0 0)],[(5,.arr 57 TX [])]⟩) ?_ (AC [(5,.nil)] rfl rfl ?_ ?_)
  .exact N2 a (.inl rfl) (rv:=.tmp 2) rfl (by simp only[K2,I9,HA,go_sem,Nat.reduceEqDiff,reduceCtorEq,Nat.reduceAdd,Nat.reduceSub,Nat.reduceMul,Nat.reduceLeDiff,Nat.reduceLT,Int.reduceLE,Int.reduceToNat,Int.reduceNeg,↓reduceIte])
  .exact eN
  exact eN
 .simp only[AP];omega
 exact N2 a (.inl rfl) (rv:=.tmp 2) rfl (by simp only[K2,I9,HA,go_sem,Nat.reduceEqDiff,reduceCtorEq,Nat.reduceAdd,Nat.reduceSub,Nat.reduceMul,Nat.reduceLeDiff,Nat.reduceLT,Int.reduceLE,Int.reduceToNat,Int.reduceNeg,↓reduceIte])
structure A1g (h:AE) (f:List AD):Prop where
 ok:GV h
 inj:JL h
 ft:bT h
 fl:h.2.length<=100000
 good:AX f
 arcs:Oa h f
 ty:∀x∈f,0<=x.1/\x.1<(h.1.length:Int)
def WC:Ab:={ ins:=[GH,Ff],pre:=λ(h,f,_)=>A1g h f,out:=λ(h,f,_)=>[.p Ff (EJ h f).1,.p .bool (EJ h f).2] }
theorem Dh (f:List AD) (ty:List Int):(Ex f ty).length=f.length:=by simp[Ex]
theorem Hj (f:List AD) (ty:List Int) {i:Nat} (h:i<f.length):(Ex f ty).getD i (0,[])=(ty.getD i 0,(f.getD i (0,[])).2):=by
 unfold Ex;simp[AS,h]
theorem vE {α:Type} (F f:List α) (d:α) (b:F.length=f.length) {j:Nat} (h:j<f.length):(F.take j++f.drop j).set j (F.getD j d)=F.take (j+1)++f.drop (j+1)/\(F.take j++f.drop j).getD j d=f.getD j d:=by
 have h1:(F.take j).length=j:=by rw[Of];omega
 have a:f.drop j=f.getD j d :: f.drop (j+1):=by
  rw[OR h,AS,As h];rfl
 constructor
 .rw[Ay F d O1,ACy _ _ O1,h1,ABB,a];simp
 rw[AS,AAi O1,h1,ABB,a];rfl
theorem A1h:Af Tryz.prog 50 WC:=by
 refine fK [0,1,2,3,4,5,6,7,8,9,10,11,16,17,18,19,51,64,72,73,74] Tryz.func50 Tryz.ntmps50 (AG vD AH) ?_;rintro w0 O0 ⟨⟨ht,hf⟩,f,u⟩ b-c;have c:A1g (ht,hf) f:=c;have D:=A17 (ht,hf) f;have w:=c.good.1;have S:Nf (ht,hf) f<=30000000:=by
  have h1:ht.length<=256:=c.ok.2;have C:f.length*ht.length<=100000*256:=Nat.mul_le_mul w h1;have R:f.length*(ht,hf).1.length<=100000*256:=C;unfold Nf;omega
 have J:=A16 c.ty;simp only[WC,AM];repeat'(first|exact a6|apply eS rfl|refine rX b ?_ ?_)
 refine AJ (ι:={i:Nat//i<=f.length}) (λi=>⟨[(3,.bp 3 [] 0),(4,.bp 4 [] 0),(6,.bp 14 [] 0),(16,.p J1 f),(17,.p (.int .i64) (f.length:Int)),(18,.p (.int .i64) (i.1:Int))],[(3,.box 34 true [.p J1 f]),(4,.box 34 true [.raw (.slice none 0 0)]),(14,.box 163 true [.p GH (ht,hf),.sr 31 T3 0 i.1,.sr 41 T3 0 i.1]),(31,.arr 3 T3 ((Bj f).take i.1)),(41,.arr 3 T3 ((ER f).take i.1))]⟩) (λi=>f.length-i.1) ⟨0,GO _⟩ (eW [(3,.nm 3),(4,.nm 4),(14,.nm 14),(31,.nil),(41,.nil)]) (λi=>?_)
 obtain⟨i,hi⟩:=i;have tl:((Bj f).take i).length=i:=by rw[Of];simp[Bj];omega
 have X:((ER f).take i).length=i:=by rw[Of];simp[ER];omega
 have ts:i<f.length->(Bj f).take i++[(f.getD i (0,[])).1]=(Bj f).take (i+1):=λh=>by
  rw[Ay (Bj f) 0 (by simpa[Bj] using h)];simp[Bj,AS,h]
 have P:i<f.length->(ER f).take i++[(i:Int)]=(ER f).take (i+1):=λh=>by
  rw[Ay (ER f) 0 (by simpa[ER] using h)];simp[ER,AS,h]
 repeat'(first|exact a6|apply eS rfl|refine rX b ?_ ?_|refine rC ?_ ?_<;>intro a<;>try(cases a;done))
 .exact a
 .have g:i<f.length:=aT.1 a;have O:=ts g;have Q:=P g;refine Lz drawsAny b 9 [([1,2,3,4,5,6,7],8)] [0] a5 (mxA ?_ ?_)
  .trivial
  refine mxL b [31] ?_ ?_
  .simp only[AP];omega
  refine mxE b ?_ ?_ ?_
  .trivial
  .trivial
  repeat'(first|apply eS rfl|apply AB|refine rX b ?_ ?_)
  .simp only[AP];omega
  .omega
  refine⟨⟨i+1,g⟩,a2,AC [(3,.nm 3),(4,.nm 4),(14,.nm 14),(31,.nm 31),(41,.nm 41)] rfl rfl ?_ ?_⟩
  .simp only[<-O,<-Q];refine eM ?_;simp only[ACX,Nat.min_self,and_self]
  exact eN
 have g:i=f.length:=by
  have:=AAf.1 a;omega
 subst g;have et:(Bj f).take f.length=Bj f:=BY (by simp[Bj]);have v:(ER f).take f.length=ER f:=BY (by simp[ER]);have N:(Bj f).length=f.length:=by simp[Bj]
 have Y:(ER f).length=f.length:=by simp[ER]
 rw[et,v];have B:(ER f).take f.length=ER f:=v;refine C9 [41] ?_;rw[B];refine AJ (ι:={x:Nat×EI//NJ (ht,hf) f.length x.2/\YW (ht,hf) x.2.1+x.2.2.length+1<=Nf (ht,hf) f/\x.1<=x.2.2.length/\∃k,YW (ht,hf) x.2.1+x.2.2.length+1<=k+x.1/\wQ (ht,hf) f k x.1 x.2=IJ (ht,hf) f}) (λx=>⟨[(3,.bp 3 [] 0),(4,.bp 4 [] 0),(6,.bp 14 [] 0),(9,.p (.int .i64) (x.1.1:Int))],[(3,.box 34 true [.p J1 f]),(4,.box 34 true [.raw (.slice none 0 0)]),(14,.box 163 true [.p GH (ht,hf),.sr 31 T3 0 x.1.2.1.length,.p CH x.1.2.2]),(31,.arr 3 T3 x.1.2.1)]⟩) (λx=>YW (ht,hf) x.1.2.1+x.1.2.2.length-x.1.1) ⟨(0,Bj f,ER f),J,D,GO _,Nf (ht,hf) f,a2,rfl⟩ (AC [(3,.nm 3),(4,.nm 4),(14,.nm 14),(31,.nm 31)] rfl rfl ?_ ?_) (λx=>?_)
 .simp only[N];exact eN
 .exact eN
 obtain⟨⟨i,s⟩,hs,I,hi,k,hk,e⟩:=x;simp only at hs I hi hk e ⊢;repeat'(first|exact a6|apply eS rfl|refine rX b ?_ ?_|refine rC ?_ ?_<;>intro a<;>try(cases a;done))
 .have m:i<s.2.length:=aT.1 a;obtain⟨z,A⟩:=hs.wt _ (AF s.2 (0:Int) m);obtain⟨k,rfl⟩:∃t,k=t+1:=⟨k-1,O1⟩;have r:wQ (ht,hf) f (k+1) i s=(LG (ht,hf) f (s.2.getD i 0) s).bind (wQ (ht,hf) f k (i+1)):=At m;rw[r]at e;refine cD 9 b ?_ ?_
  .exact a
  refine rM b (mJ (ht,hf) c.ok c.inj c.ft c.fl f c.good c.arcs s hs z A O1) [(1,.nm 14),(2,.nm 31)] [31] ?_ ?_ ?_
  .exact eN
  .simp only[Dv];exact eN
  rintro res W (⟨l,rfl,d,rfl⟩|⟨d,l,rfl,rfl⟩)
  .refine⟨[(14,.nm 1),(31,.nm 2)],.p .bool false,[(14,.box 163 true [.p GH (ht,hf),.sr 31 T3 0 d.1.length,.p CH d.2]),(31,.arr 3 T3 d.1)],rfl,rfl,?_,?_,rfl,rfl,?_⟩
   .simp only[Dv];exact eN
   .exact eN
   refine rL b ?_ ?_
   .trivial
   repeat'(first|exact a6|apply eS rfl|refine rX b ?_ ?_|refine rC ?_ ?_<;>intro a<;>try(cases a;done))
   have o:EJ (ht,hf) f=([],false):=by unfold EJ;rw[<-e,l];rfl
   exact fI b [.cell 4 34,.tmp 5] (by rw[o];exact eR)
  obtain⟨M,U,V⟩:=V3 c.ok c.inj c.ft c.arcs z A hs l;rw[l]at e;refine⟨[(14,.nm 1),(31,.nm 2)],.p .bool true,[(14,.box 163 true [.p GH (ht,hf),.sr 31 T3 0 d.1.length,.p CH d.2]),(31,.arr 3 T3 d.1)],rfl,rfl,?_,?_,rfl,rfl,?_⟩
  .simp only[Dv];exact eN
  .exact eN
  refine rL b ?_ ?_
  .trivial
  repeat'(first|apply eS rfl|apply AB|refine rX b ?_ ?_|refine rC ?_ ?_<;>intro a<;>try(cases a;done))
  .omega
  exact⟨⟨(i+1,d),M,a2,a2,k,a2,e⟩,a2,eW [(3,.nm 3),(4,.nm 4),(14,.nm 14),(31,.nm 31)]⟩
 .exact w
 have m:¬i<s.2.length:=λh=>by
  have:=AAf.1 a;omega
 obtain⟨k,rfl⟩:∃t,k=t+1:=⟨k-1,O1⟩;have r:wQ (ht,hf) f (k+1) i s=some s.1:=An m;have o:EJ (ht,hf) f=(Ex f s.1,true):=by unfold EJ;rw[<-e,r]
 have q:=Dh f s.1;have K:=λi h=>Hj f s.1 (i:=i) h;generalize hT:Ex f s.1=F at *;have L:=hs.len;refine AJ (ι:={j:Nat//j<=f.length}) (λj=>⟨[(4,.bp 4 [] 0),(6,.bp 14 [] 0),(10,.bp 10 [] 0),(72,.p (.int .i64) (f.length:Int)),(73,.p (.int .i64) (j.1:Int))],[(10,.box 34 true [.sr 68 TX 0 f.length]),(68,.arr 57 TX (F.take j.1++f.drop j.1)),(4,.box 34 true [.raw (.slice none 0 0)]),(14,.box 163 true [.p GH (ht,hf),.sr 31 T3 0 s.1.length,.p CH s.2]),(31,.arr 3 T3 s.1)]⟩) (λj=>f.length-j.1) ⟨0,GO _⟩ (eW [(10,.nm 10),(68,.nm 68),(4,.nm 4),(14,.nm 14),(31,.nm 31)]) (λj=>?_)
 obtain⟨j,T⟩:=j;have H:=λh:j<f.length=>vE F f (0,[]) q h;repeat'(first|exact a6|apply eS rfl|apply AB|refine rX b ?_ ?_|refine rC ?_ ?_<;>intro a<;>try(cases a;done))
 .exact⟨by rw[L];exact a,a⟩
 .omega
 .have n:j<f.length:=aT.1 a;obtain⟨y,G⟩:=H n;rw[K j n]at y;refine⟨⟨j+1,n⟩,a2,AC [(10,.nm 10),(68,.nm 68),(4,.nm 4),(14,.nm 14),(31,.nm 31)] rfl rfl ?_ ?_⟩
  .simp only[<-y];refine eM ?_;rw[G]
  exact eN
 have hF:F.take j=F:=BY (by rw[q];exact AAf.1 a);have E:List.drop j f=[]:=No (AAf.1 a);rw[hF,E,AAu];exact fI b [.cell 4 34,.tmp 5] (by rw[o];first|exact eR|refine OC ?_;exact BY (by rw[q];exact OS _))
end
structure MI (m:List (Int×Bool)) (l:List Bool):Prop where
 nd:(m.map (·.1)).Nodup
 get:∀k:Int,BV T3 .bool k m=if 0<=k/\l.getD k.toNat false=true then some true else none
theorem qB (k:Int) (v:Bool):∀ {m:List (Int×Bool)},(m.map (·.1)).Nodup->((FH T3 .bool k v m).map (·.1)).Nodup/\∀x,x∈(FH T3 .bool k v m).map (·.1)->x=k\/x∈m.map (·.1)
 | [],_=>by simp[FH]
 | y :: m,h=>by
  rw[oR,AAF]at h;unfold FH;split
  .rename_i e;have e:k=y.1:=by simpa[Hc] using e
   refine⟨?_,λx a=>?_⟩
   .rw[oR,AAF,e];exact h
   rcases By.1 a with a|a
   .exact .inl a
   exact .inr (IF _ a)
  rename_i e;have e:¬k=y.1:=by simpa[Hc] using e
  obtain⟨c,b⟩:=qB k v h.2;refine⟨?_,λx a=>?_⟩
  .rw[oR,AAF];refine⟨λd=>?_,c⟩;rcases b _ d with a|a
   .exact e a.symm
   exact h.1 a
  rcases By.1 a with a|a
  .exact .inr (by rw[a];simp)
  exact(b x a).imp id λg=>IF _ g
theorem gI (k:Int):∀m:List (Int×Bool),(kM T3 .bool k m).Sublist m
 | []=>List.Sublist.refl _
 | y :: m=>by
  unfold kM;split
  .exact List.sublist_cons_self _ _
  exact(gI k m).cons_cons _
theorem Yb {x:Int}:∀ {m:List (Int×Bool)},x∉m.map (·.1)->BV T3 .bool x m=none
 | [],_=>rfl
 | y :: m,h=>by
  unfold BV;rw[An (by
   intro e;have e:x=y.1:=by simpa[Hc] using e
   exact h (by rw[e];simp))]
  exact Yb λa=>h (IF _ a)
theorem Yc (x k:Int):∀ {m:List (Int×Bool)},(m.map (·.1)).Nodup->BV T3 .bool x (kM T3 .bool k m)=if x=k then none else BV T3 .bool x m
 | [],_=>by simp[kM,BV]
 | y :: m,h=>by
  rw[oR,AAF]at h;unfold kM;split
  .rename_i e;have e:k=y.1:=by simpa[Hc] using e
   by_cases a:x=k
   .rw[At a,a,e];exact Yb h.1
   rw[An a];have c:¬x=y.1:=by rw[<-e];exact a
   simp[BV,Hc,c]
  rename_i e;have e:¬k=y.1:=by simpa[Hc] using e
  have f:=Yc x k h.2;by_cases b:x=y.1
  .have d:¬x=k:=by rw[b];exact λg=>e g.symm
   rw[An d];simp[BV,Hc,b]
  have hn:¬Hc T3 x y.1=true:=by simpa[Hc] using b
  simp only[BV];rw[An hn,An hn,f]
theorem MI.zero:MI [] (List.replicate 0 true):=⟨List.nodup_nil,λk=>by simp[BV]⟩
theorem MI.put {m:List (Int×Bool)} {i:Nat} (h:MI m (List.replicate i true)):MI (FH T3 .bool (i:Int) true m) (List.replicate (i+1) true):=by
 refine⟨(qB _ _ h.nd).1,λ(k:Int)=>?_⟩;rw[V1,h.get];by_cases hk:k=(i:Int)
 .rw[At hk,At];subst hk;refine⟨AAX _,?_⟩;simp[AS,ABI]
 rw[An hk];have e:(0<=k/\(List.replicate i true).getD k.toNat false=true)↔(0<=k/\(List.replicate (i+1) true).getD k.toNat false=true):=by
  simp only[AS,ABI];constructor
  .rintro⟨a,b⟩;refine⟨a,?_⟩;split at b
   .rw[At O1];rfl
   simp at b
  rintro⟨a,b⟩;refine⟨a,?_⟩;split at b
  .rw[At O1];rfl
  simp at b
 by_cases c:0<=k/\(List.replicate i true).getD k.toNat false=true
 .rw[At c,At (e.1 c)]
 rw[An c,An λg=>c (e.2 g)]
theorem MI.del {m:List (Int×Bool)} {l:List Bool} (h:MI m l) (i:Nat):MI (kM T3 .bool (i:Int) m) (l.set i false):=by
 refine⟨h.nd.sublist ((gI _ m).map _),λ(k:Int)=>?_⟩;rw[Yc _ _ h.nd,h.get];by_cases hk:k=(i:Int)
 .subst hk;rw[At rfl,An];rintro⟨-,b⟩;rw[oF]at b;simp only[AS,ABf]at b;rw[At trivial]at b;split at b<;>simp at b
 rw[An hk];by_cases a:0<=k
 .have c:¬i=k.toNat:=by omega
  simp only[AS,ABf];rw[An c]
 rw[An λg=>a g.1,An λg=>a g.1]
theorem M6 {x:Int}:∀ {m:List (Int×Bool)},x∈m.map (·.1)->BV T3 .bool x m≠none
 | y :: m,h=>by
  unfold BV;split
  .simp
  rename_i e;rcases By.1 h with h|h
  .exact absurd (by simp[Hc,h]) e
  exact M6 h
theorem MI.len {m:List (Int×Bool)} {l:List Bool} (h:MI m l):m.length<=l.length:=by
 have h1:((m.map (·.1)).map Int.toNat).Nodup:=by
  rw[List.Nodup,AAI];refine h.nd.imp_of_mem λ{a b:Int} ha d i e=>i ?_;have h1:=M6 ha;have c:=M6 d;rw[h.get]at h1 c;have n:0<=a:=DO λg=>h1 (An λq=>g q.1);have o:0<=b:=DO λg=>c (An λq=>g q.1);omega
 have:=DC l.length _ h1 (λj f=>by
  obtain⟨x,k,rfl⟩:=Do.1 f;have h1:=M6 k;rw[h.get]at h1;refine DO λhn=>h1 (An λg=>?_);have:=g.2;rw[AS,oN O1]at this;cases this)
 simpa using this
def vF (N:List AD) (i:Nat) (v:Int×Int):List AD:=N.set i ((N.getD i (0,[])).1,(N.getD i (0,[])).2++[(v.1,(N.length:Int))])++[(v.2,[])]
theorem A1i (N:List AD) (i:Nat) (v:Int×Int):(vF N i v).length=N.length+1:=by simp[vF]
structure TI2 (h:AE) (m i k:Nat) (N:List AD):Prop where
 len:N.length<=m
 ty:∀x∈N,0<=x.1/\x.1<(h.1.length:Int)
 lo:∀j,j<i->(N.getD j (0,[])).2.length<=200
 at':(N.getD i (0,[])).2.length<=100+k
 hi:∀j,i<j->(N.getD j (0,[])).2.length<=100
theorem A1j {α:Type} (l:List α) (x d:α) (j:Nat):(l++[x]).getD j d=if j<l.length then l.getD j d else if j=l.length then x else d:=by
 simp only[AS];by_cases h:j<l.length
 .rw[At h,AAn h]
 rw[An h,AAi O1];by_cases e:j=l.length
 .rw[At e,e,ABB];rfl
 rw[An e,oN (by simp only[nO];omega)];rfl
theorem M7 {α:Type} (l:List α) (x d:α) {i:Nat} (h:i<l.length) (j:Nat):(l.set i x).getD j d=if j=i then x else l.getD j d:=by
 simp only[AS,ABf];by_cases e:i=j
 .rw[At e,At h,At e.symm];rfl
 rw[An e,An (show ¬j=i by omega)]
theorem A1k {N:List AD} {i:Nat} (h:i<N.length) (v:Int×Int) (j:Nat):(vF N i v).getD j (0,[])=if j=i then ((N.getD i (0,[])).1,(N.getD i (0,[])).2++[(v.1,(N.length:Int))]) else if j=N.length then (v.2,[]) else N.getD j (0,[]):=by
 unfold vF;rw[A1j,M7 _ _ _ h,AAp];by_cases a:j=i
 .rw[At a,At O1,At a]
 rw[An a,An a];by_cases c:j<N.length
 .rw[At c,An O1]
 rw[An c];by_cases b:j=N.length
 .rw[At b,At b]
 rw[An b,An b,AS,oN O1];rfl
theorem TI2.add {m i k:Nat} {N:List AD} (b:TI2 h m i k N) (hi:i<N.length) (f:4096<=m) (e:N.length<4096) (v0:0<=v.2) (v1:v.2<(h.1.length:Int)):TI2 h m i (k+1) (vF N i v):=by
 have c:=λj=>A1k hi v j;refine⟨by rw[A1i];omega,λx a=>?_,λj d=>?_,?_,λj d=>?_⟩
 .unfold vF at a;rcases IN.1 a with a|a
  .rcases AB2 a with a|rfl
   .exact b.ty x a
   exact(b.ty (N.getD i (0,[])) (AF N (0,[]) hi) :)
  rw[iS.1 a];exact⟨v0,v1⟩
 .rw[c,An O1,An O1];exact b.lo j d
 .rw[c,At rfl];have:=b.at';simp only[IS,nO];omega
 rw[c,An O1];split
 .simp
 exact b.hi j d
theorem TI2.skip {m i k:Nat} {N:List AD} (a:TI2 h m i k N):TI2 h m i (k+1) N:=⟨a.len,a.ty,a.lo,by have:=a.at';omega,a.hi⟩
theorem TI2.next {m i k:Nat} {N:List AD} (a:TI2 h m i k N) (hk:k<=100):TI2 h m (i+1) 0 N:=⟨a.len,a.ty,λj b=>by
 by_cases e:j=i
 .have:=a.at';rw[e];omega
 exact a.lo j O1,a.hi (i+1) O1,λj b=>a.hi j O1⟩
theorem getD_set_ne {α:Type} (l:List α) (d v:α) {i:Nat} (h:i≠j):(l.set i v).getD j d=l.getD j d:=by
 simp only[AS];rw[ACF h]
theorem XM {α:Type} (l:List α) (d v:α) {i:Nat} (h:i<l.length):(l.set i v).getD i d=v:=by
 simp only[AS];rw[ACq h];rfl
def toF (l:List (Int×Int)) (x:Int):Int:=l.foldl (λt a=>if a.1=x then a.2 else t) (-1)
abbrev Ak (f:List AD) (n:Int):List (Int×Int):=(f.getD n.toNat (0,[])).2
def A6d (f:List AD):Int->List Int->Option Int
 | n,[]=>some n
 | n,x :: r=>if toF (Ak f n) x<0 then none else A6d f (toF (Ak f n) x) r
theorem gJ {f:List AD} (hf:AX f):∀(k:Nat) (o:List Int) (n:Int),LM f o->0<=n->n<f.length->n∉o->f.length-o.length<=k->Dn f (k+1) o n=Dn f k o n
 | 0,o,n,h,h0,h1,c,hk=>by
  have:=(h.snoc h0 h1 c).len;grind
 | k+1,o,n,h,h0,h1,c,hk=>by
  rw[Ca,Ca];have key:∀(l:List (Int×Int)) (t:List Int),(∀a∈l,0<=a.2/\a.2<(f.length:Int))->LM f t->f.length-t.length<=k->l.foldl (BA f (k+1)) t=l.foldl (BA f k) t:=by
   intro l;induction l with
   | nil=>intros;rfl
   | cons a l m =>
    intro t e ht j;have g:=e a sc;have hs:BA f (k+1) t a=BA f k t a:=by
     unfold BA;split
     .rfl
     rename_i hn;exact gJ hf k t a.2 ht g.1 g.2 hn j
    have d:LM f (BA f k t a)/\t <+: BA f k t a:=by grind [BA,FN]
    rw[ON,ON,hs];have:=d.2.length_le;exact m _ (λb i=>e b (by simp[i])) d.1 O1
  exact key _ _ (λa ha=>CM hf ha) (h.snoc h0 h1 c) (by simp only[IS,nO];omega)
theorem GZ (f:List AD):LM f []:=⟨sc,λx a=>by cases a⟩
theorem gK {f:List AD} (hf:AX f) {n:Int} (h0:0<=n) (h1:n<f.length):∀m,Dn f (f.length+m) [] n=Dn f f.length [] n
 | 0=>rfl
 | m+1=>by
  rw[<-AD2,gJ hf _ [] n (GZ f) h0 h1 sc (by simp only[AAt];omega)];exact gK hf h0 h1 m
structure Iso (Q R:List AD) (ψ:Int->Int) (C:Int->Prop):Prop where
 arc:∀i,C i->Ak R (ψ i)=(Ak Q i).map λa=>(a.1,ψ a.2)
 cl:∀i,C i->∀a∈Ak Q i,C a.2
 inj:∀i j,C i->C j->ψ i=ψ j->i=j
theorem aF {Q R:List AD} {c:Int->Int} {C:Int->Prop} (h:Iso Q R c C):∀(k:Nat) (t:List Int) (i:Int),(∀x∈t,C x)->C i->Dn R k (t.map c) (c i)=(Dn Q k t i).map c/\∀x∈Dn Q k t i,C x
 | 0,t,i,ht,hi=>⟨rfl,ht⟩
 | k+1,t,i,ht,hi=>by
  have key:∀(l:List (Int×Int)) (t:List Int),(∀a∈l,C a.2)->(∀x∈t,C x) ->
    (l.map λa=>(a.1,c a.2)).foldl (BA R k) (t.map c)=(l.foldl (BA Q k) t).map c/\∀x∈l.foldl (BA Q k) t,C x:=by
   intro l;induction l with
   | nil=>intro t _ ht;exact⟨rfl,ht⟩
   | cons a l o =>
    intro t f ht;have ha:=f a sc;have hs:BA R k (t.map c) (a.1,c a.2)=(BA Q k t a).map c/\∀x∈BA Q k t a,C x:=by
     unfold BA;by_cases g:a.2∈t
     .grind
     have n:¬c a.2∈t.map c:=by
      intro hh;obtain⟨x,d,e⟩:=Do.1 hh;exact g (h.inj x a.2 (ht x d) ha e▸d)
     rw[An g];simp only[An n];exact aF h k t a.2 ht ha
    rw[oR,ON,ON,hs.1];exact o _ (λb m=>f b (by simp[m])) hs.2
  rw[Ca,Ca];have e:t.map c++[c i]=(t++[i]).map c:=by simp
  have j:(R.getD (c i).toNat (0,[])).2=(Ak Q i).map λa=>(a.1,c a.2):=h.arc i hi;rw[j,e];refine key _ _ (h.cl i hi) λx d=>?_;grind
structure Ord (f:List AD) (o:List Int):Prop where
 ok:LM f o
 zero:o.getD 0 0=0/\0<o.length
 cl:∀n∈o,∀a∈Ak f n,a.2∈o
theorem A1l (hf:AX f) (h0:0<f.length):[0] <+: Dn f f.length [] 0:=by
 obtain⟨k,hk⟩:∃k,f.length=k+1:=⟨f.length-1,O1⟩;rw[hk,Ca];exact(Gr (FN hf k) _ _ (λa ha=>CM hf ha) ((GZ f).snoc O1 O1 sc)).2
theorem A7P (hf:AX f) (h0:0<f.length):Ord f (Dn f f.length [] 0):=by
 have h1:=FN hf f.length [] 0 (GZ f) O1 O1 sc;have c:=Kj hf f.length [] 0 (GZ f) O1 O1 sc sc;have b:=A1l hf h0;refine⟨h1.1,?_,λn hn a ha=>?_⟩
 .obtain⟨t,ht⟩:=b;rw[<-ht];exact⟨rfl,sc⟩
 grind
theorem IL {o:List Int} (hn:o.Nodup) {i:Nat} (hi:i<o.length):E1 o (o.getD i 0)=(i:Int):=by grind [E1]
theorem D7 {o:List Int} {x:Int} (h:x∈o):0<=E1 o x/\E1 o x<(o.length:Int)/\o.getD (E1 o x).toNat 0=x:=by
 unfold E1;rw[At h];have a:=List.idxOf_lt_length_of_mem h
 simp_all
theorem vG (f:List AD):(AN f 0).length=(Dn f f.length [] 0).length:=by simp[AN]
theorem mK (hf:AX f) (hs:JM f) (h0:0<f.length):AX (AN f 0)/\JM (AN f 0)/\0<(AN f 0).length/\(AN f 0).length<=f.length:=by
 have e:=A7P hf h0;have g:=e.ok.len;have d:=vG f;refine⟨⟨by rw[d];exact aS g hf.1,λx c=>?_⟩,λx c=>?_,by rw[d];exact e.zero.2,by rw[d];exact g⟩
 .rw[d];unfold AN at c;obtain⟨n,hn,rfl⟩:=Do.1 c;refine⟨?_,λa ha=>?_⟩
  .grind [HD,Vn]
  unfold HD at ha;obtain⟨b,h,rfl⟩:=Do.1 ha;have:=D7 (e.cl n hn b h);exact⟨this.1,this.2.1⟩
 unfold AN at c;obtain⟨n,hn,rfl⟩:=Do.1 c;have h1:=Vn hs n;unfold HD;refine⟨?_,by rw[On];exact h1.2⟩;rw[QC,AAI];exact(QC _).1 h1.1
theorem A1m (hs:JM f) (n:Int):(Ak f n).Pairwise (λa b=>a.1<b.1):=(QC _).1 (Vn hs n).1
structure S1 (h:AE) (a b:List AD) (m:Int->Int):Prop where
 zero:m 0=0
 rng:∀i,0<=i->i<(a.length:Int)->0<=m i/\m i<(b.length:Int)
 ty:∀i,0<=i->i<(a.length:Int)->Ai h (a.getD i.toNat (0,[])).1 (b.getD (m i).toNat (0,[])).1=true
 arc:∀i,0<=i->i<(a.length:Int)->∀x∈Ak a i,BT (Ak b (m i)) x.1=m x.2
theorem QI (h:l.Pairwise (λa b=>a.1<b.1)) {a:Int×Int} (ha:a∈l):BT l a.1=a.2:=by
 induction l with
 | nil=>cases ha
 | cons b l d =>
  obtain⟨h1,c⟩:=AAv.1 h;simp only[BT];rcases By.1 ha with rfl|ha
  .rw[At rfl]
  grind
theorem gL {e:Int} (h:0<=BT l e):∃a∈l,a.1=e/\a.2=BT l e:=by
 induction l with
 | nil=>simp only[BT]at h;omega
 | cons b l c =>
  simp only[BT]at h ⊢;split
  .grind
  grind
theorem A7Q (hs:JM f) {a:Int×Int} (ha:a∈Ak f n):BT (Ak f n) a.1=a.2:=QI (A1m hs n) ha
def RO (f:List AD):Prop:=∀i:Int,0<i->i<(f.length:Int)->∃j,0<=j/\j<i/\∃x∈Ak f j,x.2=i
theorem A4H {M:List Int} {v:Int} (hk:k<M.length):(M.set k v).getD j 0=if k=j then v else M.getD j 0:=by grind
theorem WD {f:List AD} (hf:AX f):∀(k:Nat) (t:List Int) (n:Int),LM f t->0<=n->n<f.length->n∉t ->
  ∀q,t.length<q->q<(Dn f k t n).length->∃j,j<q/\∃a∈Ak f ((Dn f k t n).getD j 0),a.2=(Dn f k t n).getD q 0
 | 0,t,n,h,h0,h1,x,q,A,d=>by simp only[Dn]at d;omega
 | k+1,t,n,h,h0,h1,x,q,A,d=>by
  have key:∀(l:List (Int×Int)) (u:List Int),(∀a∈l,a∈Ak f n)->LM f u->t++[n] <+: u ->
    (∀q,t.length<q->q<u.length->∃j,j<q/\∃a∈Ak f (u.getD j 0),a.2=u.getD q 0) ->
    ∀q,t.length<q->q<(l.foldl (BA f k) u).length->∃j,j<q/\∃a∈Ak f ((l.foldl (BA f k) u).getD j 0),a.2=(l.foldl (BA f k) u).getD q 0:=by
   intro l;induction l with
   | nil=>intro u _ _ _ hu q o c;exact hu q o c
   | cons a l H =>
    intro u y hu s E;have ha:=y a sc;have g:=CM hf ha;rw[ON];by_cases p:a.2∈u
    .grind [BA]
    have hs:BA f k u a=Dn f k u a.2:=by unfold BA;rw[An p]
    rw[hs];obtain⟨C,w⟩:=FN hf k u a.2 hu g.1 g.2 p;have r:∀j,j<u.length->(Dn f k u a.2).getD j 0=u.getD j 0:=λj D=>by
     obtain⟨v,m⟩:=w;rw[<-m];simp only[AS];rw[AAn D]
    have G:u.getD t.length 0=n:=by
     obtain⟨v,m⟩:=s;rw[<-m];simp[AS]
    have B:t.length<u.length:=by
     have:=s.length_le;simp at this;omega
    refine H (Dn f k u a.2) (λb i=>y b (by simp[i])) C (s.trans w) (λq o c=>?_);by_cases z:q<u.length
    .obtain⟨j,I,b,i,e⟩:=E q o z;refine⟨j,I,b,?_,?_⟩
     .rw[r j O1];exact i
     rw[r q z];exact e
    by_cases d:q=u.length
    .subst d;refine⟨t.length,B,a,?_,?_⟩
     .rw[r _ B,G];exact ha
     cases k with
     | zero=>simp only[Dn]at c;omega
     | succ k =>
      have F:u++[a.2] <+: Dn f (k+1) u a.2:=by
       rw[Ca];exact(Gr (FN hf k) _ _ (λb i=>CM hf i) (hu.snoc g.1 g.2 p)).2
      obtain⟨v,m⟩:=F;rw[<-m];simp[AS]
    exact WD hf k u a.2 hu g.1 g.2 p q O1 c
  rw[Ca]at d ⊢;exact key _ (t++[n]) (λa ha=>ha) (h.snoc h0 h1 x) (ABu _) (λq o c=>by simp only[IS,nO]at c;omega) q A d
theorem mL (x:List Int):MK x x=true:=by grind [MK,Hh,SV]
theorem Rc (h:AE) (t:Int):Ai h t t=true:=mL _
abbrev QJ (p:List Int) (n:Int):Int:=p.getD n.toNat 0
structure Fo (p:List Int) (rk:Int->Nat):Prop where
 rng:∀n,0<=n->n<(p.length:Int)->0<=QJ p n/\QJ p n<(p.length:Int)
 dec:∀n,0<=n->n<(p.length:Int)->QJ p n≠n->rk (QJ p n)<rk n
inductive Rt (p:List Int):Int->Int->Prop
 | base {n:Int} (h:QJ p n=n):Rt p n n
 | step {n r:Int} (h:QJ p n≠n) (h2:Rt p (QJ p n) r):Rt p n r
theorem Rt.det {r s:Int} (h:Rt p n r) (g:Rt p n s):r=s:=by
 induction h with
 | base h =>
  cases g with
  | base g=>rfl
  | step g _=>exact absurd h g
 | step h _ b =>
  cases g with
  | base g=>exact absurd g h
  | step _ a=>exact b a
theorem Rt.root {r:Int} (h:Rt p n r):QJ p r=r:=by
 induction h with
 | base h=>exact h
 | step _ _ a=>exact a
theorem Fo.ex {b:Int->Nat} (h:Fo p b):∀(k:Nat) (n:Int),b n<=k->0<=n->n<(p.length:Int)->∃r,Rt p n r/\0<=r/\r<(p.length:Int)
 | 0,n,hk,h0,h1=>by
  by_cases e:QJ p n=n
  .exact⟨n,.base e,h0,h1⟩
  have:=h.dec n h0 h1 e;omega
 | k+1,n,hk,h0,h1=>by
  by_cases e:QJ p n=n
  .exact⟨n,.base e,h0,h1⟩
  have g:=h.dec n h0 h1 e;have a:=h.rng n h0 h1;obtain⟨r,c,d,f⟩:=h.ex k (QJ p n) O1 a.1 a.2;exact⟨r,.step e c,d,f⟩
theorem Fo.root (h:Fo p a) (h0:0<=n) (h1:n<(p.length:Int)):∃r,Rt p n r/\0<=r/\r<(p.length:Int):=h.ex (a n) n (OS _) h0 h1
theorem HW {v:Int} (h0:0<=n) (h1:n<(p.length:Int)) (x:Int) (a:0<=x):QJ (p.set n.toNat v) x=if x=n then v else QJ p x:=by
 unfold QJ;rw[A4H O1];by_cases e:x=n
 .subst e;rw[At rfl,At rfl]
 rw[An O1,An e]
def Rd (p q:List Int):Prop:=p.length=q.length/\∀x r,0<=x->x<(p.length:Int)->(Rt p x r↔Rt q x r)
theorem Rd.refl (p:List Int):Rd p p:=⟨rfl,λ_ _ _ _=>Iff.rfl⟩
theorem Rd.trans {s:List Int} (h:Rd p q) (g:Rd q s):Rd p s :=
 ⟨h.1.trans g.1,λx r a b=>(h.2 x r a b).trans (g.2 x r a (by rw[<-h.1];exact b))⟩
def Se (b n:Nat):List Int:=(List.range n).map λi=>((b+i:Nat):Int)
def Dx (b:Nat) (l:List (Int×Int)):List (Int×Int):=l.map λa=>(a.1,a.2+(b:Int))
theorem vH (b n:Nat):(Se b n).length=n:=by simp[Se]
section
attribute [local go_sem] pQ
def Ef:List (Int×Int)->List (Int×Int)->List (Int×Int)×List (Int×Int)
 | [],y=>(y,[])
 | a :: x,[]=>(a :: x,[])
 | a :: x,b :: y =>
  if a.1<b.1 then (a :: (Ef x (b :: y)).1,(Ef x (b :: y)).2)
  else if b.1<a.1 then (b :: (Ef (a :: x) y).1,(Ef (a :: x) y).2)
  else (a :: (Ef x y).1,(a.2,b.2) :: (Ef x y).2)
termination_by x y=>x.length+y.length
end
theorem Od (hk:GV h) {a c:Int} (d:0<=a) (e:a<(h.1.length:Int)) (f:0<=b) (b1:b<(h.1.length:Int)) (c0:0<=c) (c1:c<(h.1.length:Int)) (h1:Ai h a b=true) (g:Ai h b c=true):Ai h a c=true :=
 (B0 hk d e c0 c1).2 λi hi=>(B0 hk d e f b1).1 h1 i ((B0 hk f b1 c0 c1).1 g i hi)
theorem QK:∀ {x y:List (Int×Int)} {a:Int×Int},a∈x->a∈(Ef x y).1
 | [],_,_,h=>by cases h
 | b :: x,[],a,h=>by simpa[Ef] using h
 | b :: x,c :: y,a,h=>by
  rw[Ef];split
  .rcases By.1 h with rfl|h
   .simp
   exact IF _ (QK h)
  split
  .exact IF _ (QK h)
  rcases By.1 h with rfl|h
  .simp
  exact IF _ (QK h)
termination_by x y=>x.length+y.length
theorem M8:∀ {x y:List (Int×Int)} {a:Int×Int},a∈y->a∈(Ef x y).1\/∃t,(a.1,t)∈(Ef x y).1/\(t,a.2)∈(Ef x y).2
 | [],y,a,h=>by
  left;simpa[Ef] using h
 | b :: x,[],a,h=>by cases h
 | b :: x,c :: y,a,h=>by
  rw[Ef];split
  .rcases M8 (x:=x) h with g|⟨t,d,e⟩
   .exact .inl (IF _ g)
   exact .inr ⟨t,IF _ d,e⟩
  split
  .rcases By.1 h with rfl|h
   .left;simp
   rcases M8 (x:=b :: x) h with g|⟨t,d,e⟩
   .exact .inl (IF _ g)
   exact .inr ⟨t,IF _ d,e⟩
  rcases By.1 h with rfl|h
  .right;exact⟨b.2,by rw[show a.1=b.1 by omega];simp,sc⟩
  rcases M8 (x:=x) h with g|⟨t,d,e⟩
  .exact .inl (IF _ g)
  exact .inr ⟨t,IF _ d,IF _ e⟩
termination_by x y=>x.length+y.length
theorem Ix:∀ {x y:List (Int×Int)} {a:Int×Int},a∈(Ef x y).1->a∈x\/a∈y
 | [],y,a,h=>by
  right;simpa[Ef] using h
 | b :: x,[],a,h=>by
  left;simpa[Ef] using h
 | b :: x,c :: y,a,h=>by
  rw[Ef]at h;split at h
  .rcases By.1 h with rfl|h
   .left;simp
   rcases Ix h with g|g
   .exact .inl (IF _ g)
   exact .inr g
  split at h
  .rcases By.1 h with rfl|h
   .right;simp
   rcases Ix h with g|g
   .exact .inl g
   exact .inr (IF _ g)
  rcases By.1 h with rfl|h
  .left;simp
  rcases Ix h with g|g
  .exact .inl (IF _ g)
  exact .inr (IF _ g)
termination_by x y=>x.length+y.length
theorem QL:∀ {x y:List (Int×Int)} {q:Int×Int},q∈(Ef x y).2->∃e,(e,q.1)∈x/\(e,q.2)∈y
 | [],y,q,h=>by simp[Ef]at h
 | b :: x,[],q,h=>by simp[Ef]at h
 | b :: x,c :: y,q,h=>by
  rw[Ef]at h;split at h
  .obtain⟨e,h1,a⟩:=QL h;exact⟨e,IF _ h1,a⟩
  split at h
  .obtain⟨e,h1,a⟩:=QL h;exact⟨e,h1,IF _ a⟩
  rcases By.1 h with rfl|h
  .exact⟨b.1,sc,by rw[show b.1=c.1 by omega];simp⟩
  obtain⟨e,h1,a⟩:=QL h;exact⟨e,IF _ h1,IF _ a⟩
termination_by x y=>x.length+y.length
theorem Tj:∀ {x y:List (Int×Int)},(Ef x y).2.length<=x.length
 | [],y=>by simp[Ef]
 | b :: x,[]=>by simp[Ef]
 | b :: x,c :: y=>by
  rw[Ef];split
  .have:=Tj (x:=x) (y:=c :: y);simp only[Is];omega
  split
  .exact Tj (x:=b :: x) (y:=y)
  have:=Tj (x:=x) (y:=y);simp only[Is];omega
termination_by x y=>x.length+y.length
abbrev Wz (l:List (Int×Int)):Prop:=l.Pairwise (λa b=>a.1<b.1)
theorem Tk:∀ {x y:List (Int×Int)},Wz x->Wz y->Wz (Ef x y).1
 | [],y,_,h=>by simpa[Ef] using h
 | b :: x,[],h,_=>by simpa[Ef] using h
 | b :: x,c :: y,i,j=>by
  have d:=AAv.1 i;have e:=AAv.1 j;rw[Ef];split
  .rename_i f;refine AAv.2 ⟨λa ha=>?_,Tk d.2 j⟩;rcases Ix ha with g|g
   .exact d.1 a g
   rcases By.1 g with rfl|g
   .exact f
   have:=e.1 a g;omega
  split
  .rename_i f;refine AAv.2 ⟨λa ha=>?_,Tk i e.2⟩;rcases Ix ha with g|g
   .rcases By.1 g with rfl|g
    .exact f
    have:=d.1 a g;omega
   exact e.1 a g
  refine AAv.2 ⟨λa ha=>?_,Tk d.2 e.2⟩;rcases Ix ha with g|g
  .exact d.1 a g
  have:=e.1 a g;omega
termination_by x y=>x.length+y.length
theorem A4I {q:Int->Nat} (m:Fo p q) {a:Int} (j:0<=a) (c:0<=b) (b1:b<(p.length:Int)) (ha:QJ p a=a) (k:QJ p b=b) (f:a≠b) {x r:Int} (d:0<=x) (s:x<(p.length:Int)) (h:Rt p x r):Rt (p.set b.toNat a) x (if r=b then a else r):=by
 have l:Rt (p.set b.toNat a) a a:=.base (by rw[HW c b1 a j,An f];exact ha);induction h with
 | @base n hn =>
  split
  .rename_i e;rw[e];exact .step (by rw[HW c b1 b c,At rfl];exact f) (by rw[HW c b1 b c,At rfl];exact l)
  rename_i e;exact .base (by rw[HW c b1 n d,An e];exact hn)
 | @step n r hn _ o =>
  have g:n≠b:=λe=>hn (e▸k);have i:=m.rng n d s;exact .step (by rw[HW c b1 n d,An g];exact hn) (by rw[HW c b1 n d,An g];exact o i.1 i.2)
theorem A4J {c:Int->Nat} (h:Fo p c) {a:Int} (i:0<=a) (j:a<(p.length:Int)) (d:0<=b) (b1:b<(p.length:Int)) (ha:QJ p a=a) (m:QJ p b=b) (l:a≠b):∃q,Fo (p.set b.toNat a) q:=by
 classical
 refine⟨λx=>if Rt p x b then c x+c a+1 else c x,λn n0 n1=>?_,λn n0 n1 hn=>?_⟩
 .rw[AAp]at n1 ⊢;rw[HW d b1 n n0];split
  .exact⟨i,j⟩
  exact h.rng n n0 n1
 rw[AAp]at n1;rw[HW d b1 n n0]at hn ⊢;by_cases e:n=b
 .subst e;rw[At rfl];have h1:¬Rt p a n:=λg=>l (g.det (.base ha)).symm;rw[An h1,At (.base m)];omega
 rw[An e]at hn ⊢;have o:=h.dec n n0 n1 hn;have f:Rt p n b↔Rt p (QJ p n) b:=by
  constructor
  .intro g;cases g with
   | base g=>exact absurd g hn
   | step _ g=>exact g
  exact λg=>.step hn g
 by_cases g:Rt p n b
 .rw[At g,At (f.1 g)];omega
 rw[An g,An (λk=>g (f.2 k))];exact o
inductive EG (n:Nat) (p:List Int) (W:List (Int×Int)):Int->Int->Prop
 | cls {x y r:Int} (x0:0<=x) (x1:x<(n:Int)) (y0:0<=y) (y1:y<(n:Int)) (h:Rt p x r) (g:Rt p y r):EG n p W x y
 | wt {x y:Int} (h:(x,y)∈W):EG n p W x y
 | symm {x y:Int} (h:EG n p W x y):EG n p W y x
 | trans {x y z:Int} (h:EG n p W x y) (g:EG n p W y z):EG n p W x z
theorem EG.mono {n:Nat} {V:List (Int×Int)} (h1:∀x y r,0<=x->x<(n:Int)->0<=y->y<(n:Int)->Rt p x r->Rt p y r->EG n q V x y) (a:∀x y,(x,y)∈l->EG n q V x y) {x y:Int} (h:EG n p l x y):EG n q V x y:=by
 induction h with
 | cls e f i j h g=>exact h1 _ _ _ e f i j h g
 | wt h=>exact a _ _ h
 | symm _ b=>exact .symm b
 | trans _ _ c d=>exact .trans c d
structure vI (h:AE) (N:List AD) (P:List (Int×Int)) (X:List AD) (v:Int->Int):Prop where
 rng:∀x,0<=x->x<(N.length:Int)->0<=v x/\v x<(X.length:Int)
 ty:∀x,0<=x->x<(N.length:Int)->Ai h (N.getD x.toNat (0,[])).1 (X.getD (v x).toNat (0,[])).1=true
 arc:∀x,0<=x->x<(N.length:Int)->∀a∈Ak N x,BT (Ak X (v x)) a.1=v a.2
 eq:∀q∈P,v q.1=v q.2
structure JX (h:AE) (X:List AD) (v:Int->Int) (n:Nat) (p ty:List Int) (ar:List (List (Int×Int))) (W:List (Int×Int)):Prop where
 cls:∀x r,0<=x->x<(n:Int)->Rt p x r->v x=v r
 wt:∀w∈W,v w.1=v w.2
 ty:∀r,0<=r->r<(n:Int)->QJ p r=r->Ai h (ty.getD r.toNat 0) (X.getD (v r).toNat (0,[])).1=true
 arc:∀r,0<=r->r<(n:Int)->QJ p r=r->∀a∈ar.getD r.toNat [],BT (Ak X (v r)) a.1=v a.2
def Km (N:List AD):List Int:=N.flatMap λx=>x.2.map (·.1)
structure JI (h:AE) (N:List AD) (P:List (Int×Int)) (p ty:List Int) (ar:List (List (Int×Int))) (W:List (Int×Int)):Prop where
 nty:DU h N
 fo:∃rk,Fo p rk
 lp:p.length=N.length
 lt:ty.length=N.length
 la:ar.length=N.length
 wr:∀w∈W,(0<=w.1/\w.1<(N.length:Int))/\(0<=w.2/\w.2<(N.length:Int))
 tyr:∀x,0<=x->x<(N.length:Int)->0<=ty.getD x.toNat 0/\ty.getD x.toNat 0<(h.1.length:Int)
 arr:∀k,∀a∈ar.getD k [],(0<=a.2/\a.2<(N.length:Int))/\a.1∈Km N
 srt:∀k,Wz (ar.getD k [])
 sp:∀q∈P,EG N.length p W q.1 q.2
 st:∀x r,0<=x->x<(N.length:Int)->Rt p x r->Ai h (N.getD x.toNat (0,[])).1 (ty.getD r.toNat 0)=true
 sa:∀x r,0<=x->x<(N.length:Int)->Rt p x r->∀a∈Ak N x,∃t,(a.1,t)∈ar.getD r.toNat []/\EG N.length p W a.2 t
 co:∀X v,DU h X->vI h N P X v->JX h X v N.length p ty ar W
theorem IM {b:Int->Nat} (a:Fo p b) {x r:Int} (d:0<=x) (e:x<(p.length:Int)) (h:Rt p x r):0<=r/\r<(p.length:Int):=by
 obtain⟨s,hs,c,s1⟩:=a.root d e;rw[h.det hs];exact⟨c,s1⟩
section
variable {h:AE} {N:List AD} {P:List (Int×Int)} {p ty:List Int} {ar:List (List (Int×Int))} {W:List (Int×Int)} {s t a b:Int}
theorem A4K (n:JI h N P p ty ar (W++[(s,t)])) (hs:Rt p s a) (ht:Rt p t a):JI h N P p ty ar W:=by
 obtain⟨nty,fo,lp,lt,la,wr,tyr,arr,srt,sp,st,sa,co⟩:=n;have b:=wr (s,t) sc;have l:∀ {x y},EG N.length p (W++[(s,t)]) x y->EG N.length p W x y:=λ{x y} g=>g.mono (λx y r d f z A h1 k=>.cls d f z A h1 k) (λx y c=>by
  rcases IN.1 c with c|c
  .exact .wt c
  have e:(x,y)=(s,t):=by simpa using c
  cases e;exact .cls b.1.1 b.1.2 b.2.1 b.2.2 hs ht)
 refine⟨nty,fo,lp,lt,la,λw b=>wr w (AAb _ b),tyr,arr,srt,λq o=>l (sp q o),st,λx r d f B a ha=>?_,λX v m u=>?_⟩
 .grind
 obtain⟨c1,c2,i,j⟩:=co X v m u;exact⟨c1,λw b=>c2 w (AAb _ b),i,j⟩
theorem qC (hk:GV h) (c:JI h N P p ty ar (W++[(s,t)])) (hs:Rt p s a) (ht:Rt p t b) {X:List AD} {v:Int->Int} (n:DU h X) (o:vI h N P X v) :
  v a=v b/\(Cs h (ty.getD a.toNat 0) (ty.getD b.toNat 0)).2=true/\Ai h (Cs h (ty.getD a.toNat 0) (ty.getD b.toNat 0)).1 (X.getD (v a).toNat (0,[])).1=true:=by
 obtain⟨C,fo⟩:=c.fo;obtain⟨⟨g,s1⟩,i,j⟩:=c.wr (s,t) sc;simp only at g s1 i j;have d:=IM fo g (by rw[c.lp];exact s1) hs;have f:=IM fo i (by rw[c.lp];exact j) ht;rw[c.lp]at d f;obtain⟨c1,c2,l,A⟩:=c.co X v n o;have r:=c1 s a g s1 hs;have u:=c1 t b i j ht;have w:v s=v t:=c2 (s,t) sc;have e:v a=v b:=by rw[<-r,<-u,w]
 have x:=l a d.1 d.2 hs.root;have m:=l b f.1 f.2 ht.root;rw[<-e]at m;have B:=o.rng a d.1 d.2;have q:=n _ (AF X (0,[]) (k:=(v a).toNat) O1);have ta:=c.tyr a d.1 d.2;have tb:=c.tyr b f.1 f.2;obtain⟨y,z⟩:=(ML hk ta.1 ta.2 tb.1 tb.2).2 _ q.1 q.2 x m;exact⟨e,y,z⟩
theorem Yd {α:Type} {l:List α} {d v:α} {a r:Int} (b:0<=a) (c:a<(l.length:Int)) (e:0<=r):(l.set a.toNat v).getD r.toNat d=if r=a then v else l.getD r.toNat d:=by grind
theorem A1n (hk:GV h) (ad:JI h N P p ty ar (W++[(s,t)])) (hs:Rt p s a) (ht:Rt p t b) (V:a≠b) (ak:(Cs h (ty.getD a.toNat 0) (ty.getD b.toNat 0)).2=true) :
  JI h N P (p.set b.toNat a) (ty.set a.toNat (Cs h (ty.getD a.toNat 0) (ty.getD b.toNat 0)).1) (ar.set a.toNat (Ef (ar.getD a.toNat []) (ar.getD b.toNat [])).1) (W++(Ef (ar.getD a.toNat []) (ar.getD b.toNat [])).2):=by
 have al:=λX v J L=>qC (X:=X) (v:=v) hk ad hs ht J L;obtain⟨nty,⟨ba,fo⟩,lp,lt,la,wr,tyr,arr,srt,sp,st,sa,co⟩:=ad;obtain⟨⟨O,s1⟩,Q,R⟩:=wr (s,t) sc;simp only at O s1 Q R;have n:=IM fo O (by rw[lp];exact s1) hs;have A:=IM fo Q (by rw[lp];exact R) ht;have ha:=hs.root;have Y:=ht.root;have F:=λ{x r:Int} (c:0<=x) (i:x<(N.length:Int)) (M:Rt p x r)=>A4I fo n.1 A.1 A.2 ha Y V c (by rw[lp];exact i) M;have Z:∀ {x r:Int},0<=x->x<(N.length:Int)->Rt (p.set b.toNat a) x r->∃j,Rt p x j/\r=if j=b then a else j:=λ{x r} c i M=>by
  obtain⟨j,h1,-,-⟩:=fo.root c (by rw[lp];exact i);exact⟨j,h1,M.det (F c i h1)⟩
 have ta:=tyr a n.1 (by rw[<-lp];exact n.2);have tb:=tyr b A.1 (by rw[<-lp];exact A.2);obtain⟨aw,ax,ay,az⟩:=(ML hk ta.1 ta.2 tb.1 tb.2).1 ak;generalize ap:(Cs h (ty.getD a.toNat 0) (ty.getD b.toNat 0)).1=m at *;generalize af:ar.getD a.toNat []=xs at *;generalize ag:ar.getD b.toNat []=ys at *;have an:EG N.length (p.set b.toNat a) (W++(Ef xs ys).2) s t:=by
  have h1:=F O s1 hs;have I:=F Q R ht;rw[An V]at h1;rw[At rfl]at I;exact .cls O s1 Q R h1 I
 have E:∀ {x y},EG N.length p (W++[(s,t)]) x y->EG N.length (p.set b.toNat a) (W++(Ef xs ys).2) x y:=λ{x y} g=>g.mono (λx y r c i ai aj h1 I=>.cls c i ai aj (F c i h1) (F ai aj I)) (λx y G=>by
  rcases IN.1 G with G|G
  .exact .wt (AAb _ G)
  have e:(x,y)=(s,t):=by simpa using G
  cases e;exact an)
 have au:=λ{r:Int} (D:0<=r)=>Yd (l:=ty) (d:=0) (v:=m) n.1 (by rw[lt,<-lp];exact n.2) D;have K:=λ{r:Int} (D:0<=r)=>Yd (l:=ar) (d:=[]) (v:=(Ef xs ys).1) n.1 (by rw[la,<-lp];exact n.2) D;refine⟨nty,A4J fo n.1 n.2 A.1 A.2 ha Y V,by rw[AAp];exact lp,by rw[AAp];exact lt,by rw[AAp];exact la,λw o=>?_,λx c i=>?_,λk y C=>?_,λk=>?_,λq am=>E (sp q am),λx r c i z=>?_,λx r c i z y C=>?_,λX v J L=>?_⟩
 .rcases IN.1 o with o|o
  .exact wr w (AAb _ o)
  grind [QL]
 .grind
 .have h1:=K (r:=(k:Int)) O1;rw[oF]at h1;rw[h1]at C;split at C
  .grind [Ix]
  exact arr _ _ C
 .have h1:=K (r:=(k:Int)) O1;rw[oF]at h1;rw[h1];split
  .grind [Tk]
  exact srt k
 .obtain⟨j,h1,rfl⟩:=Z c i z;have M:=nty _ (AF N (0,[]) (k:=x.toNat) O1);have ae:=IM fo c (by rw[lp];exact i) h1;by_cases e:j=b
  .grind [Od]
  grind [Od]
 .obtain⟨j,h1,rfl⟩:=Z c i z;have ae:=IM fo c (by rw[lp];exact i) h1;obtain⟨u,H,S⟩:=sa x j c i h1 y C;by_cases e:j=b
  .rw[At e,K n.1,At rfl];rw[e,ag]at H;rcases M8 (x:=xs) H with g|⟨w,T,U⟩
   .exact⟨u,g,E S⟩
   exact⟨w,T,.trans (E S) (.symm (.wt (AB7 _ U)))⟩
  rw[An e,K ae.1];split
  .rename_i B;rw[B,af]at H;exact⟨u,QK H,E S⟩
  exact⟨u,H,E S⟩
 obtain⟨c1,c2,ao,aa⟩:=co X v J L;obtain⟨e,-,av⟩:=al X v J L;have aq:∀r,0<=r->r<(N.length:Int)->QJ (p.set b.toNat a) r=r->r≠b/\QJ p r=r:=λr D ah z=>by grind [HW]
 refine⟨λx r c i z=>?_,λw o=>?_,λr D ah z=>?_,λr D ah z y C=>?_⟩
 .obtain⟨j,h1,rfl⟩:=Z c i z;have:=c1 x j c i h1;split
  .rename_i B;rw[this,B,e]
  exact this
 .rcases IN.1 o with o|o
  .exact c2 w (AAb _ o)
  obtain⟨f,ab,B⟩:=QL o;rw[<-af]at ab;rw[<-ag]at B;have T:=aa a n.1 (by rw[<-lp];exact n.2) ha _ ab;have U:=aa b A.1 (by rw[<-lp];exact A.2) Y _ B;rw[<-T,<-U,e]
 .grind
 grind [Ix]
end
theorem gM {l:List Nat} {f g:Nat->Bool} {b:Nat} (hn:l.Nodup) (c:b∈l) (h1:f b=true) (d:g b=false) (h:∀x∈l,x≠b->g x=f x):(l.filter g).length+1=(l.filter f).length:=by
 induction l with
 | nil=>cases c
 | cons x l m =>
  obtain⟨k,j⟩:=AAF.1 hn;by_cases e:x=b
  .subst e;have:l.filter g=l.filter f:=List.filter_congr λy a=>h y (by simp[a]) (λe=>k (e▸a));rw[AAW,AAW,An (by rw[d];simp),At h1,this];rfl
  have i:b∈l:=by
   rcases By.1 c with g|g
   .exact absurd g.symm e
   exact g
  have n:=m j i (λy a=>h y (by simp[a]));rw[AAW,AAW,h x sc e];split
  .simp only[Is];omega
  exact n
def nR (p:List Int):Nat:=((List.range p.length).filter λk=>p.getD k 0==(k:Int)).length
theorem A4L {a:Int} (d:0<=b) (b1:b<(p.length:Int)) (c:QJ p b=b) (e:a≠b):nR (p.set b.toNat a)+1=nR p:=by
 unfold nR;rw[AAp];refine gM (b:=b.toNat) List.nodup_range (tO.2 O1) ?_ ?_ λx _ f=>?_
 .rw[AAh];unfold QJ at c;omega
 .rw[XM _ _ _ O1,ABp];omega
 rw[getD_set_ne _ _ _ O1]
theorem Re {α:Type} [DecidableEq α]:∀ {l l':List α},l.Nodup->(∀x∈l,x∈l')->l.length<=l'.length
 | [],_,_,_=>by simp
 | x :: l,l',hn,h=>by
  obtain⟨d,c⟩:=AAF.1 hn;have a:=h x sc;have:=Re (l:=l) (l':=l'.erase x) c (λy b=>(ACE (λe:y=x=>d (by rw[<-e];exact b))).2 (h y (by simp[b])));rw[List.length_erase_of_mem a]at this;have:=ACp a;simp only[Is];omega
theorem qD (h:Wz l) {S:List Int} (hs:∀a∈l,a.1∈S):l.length<=S.length:=by
 have hn:(l.map (·.1)).Nodup:=by
  unfold List.Nodup;rw[AAI];exact h.imp λg=>by omega
 have:=Re hn (l':=S) (λx b=>by
  obtain⟨a,ha,rfl⟩:=Do.1 b;exact hs a ha)
 rwa [On]at this
theorem A1o {N:List AD} {P:List (Int×Int)} {ty:List Int} {ar:List (List (Int×Int))} (t:JI h N P p ty ar []) {a:Int} (ha:0<=a/\a<(N.length:Int)) (s:0<=b/\b<(N.length:Int)):JI h N (P++[(a,b)]) p ty ar [(a,b)]:=by
 obtain⟨nty,fo,lp,lt,la,wr,tyr,arr,srt,sp,st,sa,co⟩:=t;have l:∀ {x y},EG N.length p [] x y->EG N.length p [(a,b)] x y:=λ{x y} g=>g.mono (λx y r j k C D h1 f=>.cls j k C D h1 f) (λx y A=>by cases A);refine⟨nty,fo,lp,lt,la,λw i=>?_,tyr,arr,srt,λq c=>?_,st,λx r j k z y B=>?_,λX v o d=>?_⟩
 .have e:w=(a,b):=by simpa using i
  subst e;exact⟨ha,s⟩
 .rcases IN.1 c with c|c
  .exact l (sp q c)
  have e:q=(a,b):=by simpa using c
  subst e;exact .wt sc
 .obtain⟨u,h1,f⟩:=sa x r j k z y B;exact⟨u,h1,l f⟩
 obtain⟨c1,c2,m,n⟩:=co X v o ⟨d.rng,d.ty,d.arc,λq c=>d.eq q (AAb _ c)⟩;refine⟨c1,λw i=>?_,m,n⟩;have e:w=(a,b):=by simpa using i
 subst e;exact d.eq _ sc
open Classical in
noncomputable def IW (p:List Int) (x:Int):Int:=if h:∃r,Rt p x r then h.choose else x
theorem mM {x r:Int} (h:Rt p x r):IW p x=r:=by
 unfold IW;rw[dif_pos ⟨r,h⟩];exact(Exists.choose_spec (p:=λr=>Rt p x r) ⟨r,h⟩).det h
theorem Rf {b:Int->Nat} (a:Fo p b) {x:Int} (c:0<=x) (d:x<(p.length:Int)):Rt p x (IW p x):=by
 obtain⟨r,h,-,-⟩:=a.root c d;rw[mM h];exact h
noncomputable def quo (p ty:List Int) (ar:List (List (Int×Int))):List AD:=(List.range p.length).map λk=>(ty.getD k 0,(ar.getD k []).map λa=>(a.1,IW p a.2))
theorem Tl (p ty:List Int) (ar:List (List (Int×Int))):(quo p ty ar).length=p.length:=by simp[quo]
theorem QM {ty:List Int} {ar:List (List (Int×Int))} (n0:0<=n) (n1:n<(p.length:Int)):(quo p ty ar).getD n.toNat (0,[])=(ty.getD n.toNat 0,(ar.getD n.toNat []).map λa=>(a.1,IW p a.2)):=by
 unfold quo;rw[AS,AAV,ABy O1];rfl
theorem Ye {α β:Type} (f:α->β) {l:List α} (d:α) (e:β) {i:Nat} (h:i<l.length):(l.map f).getD i e=f (l.getD i d):=by
 simp[AS,As h]
structure A9Q (f:List AD) (r:Int) (o:List Int):Prop where
 ok:LM f o
 zero:o.getD 0 0=r/\0<o.length
 cl:∀n∈o,∀a∈Ak f n,a.2∈o
theorem Iy (hf:AX f) {r:Int} (b:0<=r) (c:r<(f.length:Int)):A9Q f r (Dn f f.length [] r):=by
 have h1:=FN hf f.length [] r (GZ f) b c sc;have d:=Kj hf f.length [] r (GZ f) b c sc sc;have e:[r] <+: Dn f f.length [] r:=by
  obtain⟨k,hk⟩:∃k,f.length=k+1:=⟨f.length-1,O1⟩;rw[hk,Ca];exact(Gr (FN hf k) _ _ (λa ha=>CM hf ha) ((GZ f).snoc b c sc)).2
 refine⟨h1.1,?_,λn hn a ha=>?_⟩
 .obtain⟨t,ht⟩:=e;rw[<-ht];exact⟨rfl,sc⟩
 rcases d.2 n hn with h|h
 .cases h
 exact h a ha
theorem Jv {r:Int} {i:Nat} (hi:i<(Dn f f.length [] r).length):(AN f r).getD i (0,[])=HD f (Dn f f.length [] r) ((Dn f f.length [] r).getD i 0):=by
 unfold AN;simp[AS,hi]
theorem Jw (f:List AD) (r:Int):(AN f r).length=(Dn f f.length [] r).length:=by simp[AN]
def Ey (f g:List AD):List AD:=f++g.map λx=>(x.1,Dx f.length x.2)
theorem Hk (f g:List AD):(Ey f g).length=f.length+g.length:=by simp[Ey]
theorem Oe {x:Int} (a:0<=x) (b:x<(f.length:Int)):(Ey f g).getD x.toNat (0,[])=f.getD x.toNat (0,[]):=by
 unfold Ey;rw[AS,AS,AAn O1]
theorem MW {y:Int} (a:0<=y) (b:y<(g.length:Int)):(Ey f g).getD ((f.length:Int)+y).toNat (0,[])=((g.getD y.toNat (0,[])).1,Dx f.length (g.getD y.toNat (0,[])).2):=by
 unfold Ey;have e:((f.length:Int)+y).toNat=f.length+y.toNat:=by omega
 rw[e,AS,AAi O1,ACk];rw[<-AS];exact Ye (λx:AD=>(x.1,Dx f.length x.2)) (0,[]) (0,[]) O1
theorem qE {n:Nat} {x y:Int} (h:EG n p [] x y):IW p x=IW p y:=by
 induction h with
 | cls _ _ _ _ h g=>rw[mM h,mM g]
 | wt h=>cases h
 | symm _ a=>exact a.symm
 | trans _ _ b c=>exact b.trans c
noncomputable abbrev Rg (p ty:List Int) (ar:List (List (Int×Int))):List Int:=Dn (quo p ty ar) (quo p ty ar).length [] (IW p 0)
structure A6e (h:AE) (N:List AD) (P:List (Int×Int)) (U:List AD) (v:Int->Int):Prop where
 good:AX U
 pos:0<U.length
 str:∀x∈U,Wz x.2
 feat:∀x∈U,∀a∈x.2,a.1∈Km N
 ty:DU h U
 ro:RO U
 zero:v 0=0
 proj:vI h N P U v
 least:∀X w,DU h X->vI h N P X w->w 0=0->∃m,S1 h U X m
 len:U.length<=N.length
section
variable {h:AE} {N:List AD} {P:List (Int×Int)} {p ty:List Int} {ar:List (List (Int×Int))}
theorem Rh (a:JI h N P p ty ar []) (b:AX (quo p ty ar)) (c:0<N.length):A9Q (quo p ty ar) (IW p 0) (Rg p ty ar):=by
 obtain⟨d,fo⟩:=a.fo;have lp:=a.lp;have:=IM fo (x:=0) O1 O1 (Rf fo O1 O1);exact Iy b this.1 (by rw[Tl];exact this.2)
theorem WE (d:JI h N P p ty ar []) (c:AX (quo p ty ar)) (b:0<N.length):IW p 0∈Rg p ty ar:=by
 have a:=Rh d c b;have:=AF (Rg p ty ar) 0 a.zero.2;rw[a.zero.1]at this;exact this
theorem A1p (a:JI h N P p ty ar []) {x y:Int} (b:(x,y)∈P) (c:IW p x∈Rg p ty ar):IW p y∈Rg p ty ar:=by
 rw[<-qE (a.sp (x,y) b)];exact c
theorem mN (b:JI h N P p ty ar []) (f:AX (quo p ty ar)) (e:0<N.length) {x:Int} (c:0<=x) (j:x<(N.length:Int)) (i:IW p x∈Rg p ty ar) {a:Int×Int} (ha:a∈Ak N x):IW p a.2∈Rg p ty ar:=by
 obtain⟨k,fo⟩:=b.fo;have lp:=b.lp;obtain⟨t,ht,g⟩:=b.sa x _ c j (Rf fo c O1) a ha;rw[qE g];have d:=IM fo c O1 (Rf fo c O1);refine(Rh b f e).cl _ i (a.1,IW p t) ?_;rw[Ak,QM d.1 d.2];exact Do.2 ⟨(a.1,t),ht,rfl⟩
def vJ (N:List AD) (k:Nat) (g:List AD):Prop:=∀i:Int,0<=i->i<(g.length:Int)->(k:Int)+i<(N.length:Int)/\N.getD ((k:Int)+i).toNat (0,[])=((g.getD i.toNat (0,[])).1,Dx k (g.getD i.toNat (0,[])).2)
theorem WF (m:JI h N P p ty ar []) (f:AX (quo p ty ar)) (e:0<N.length) {g:List AD} (l:vJ N k g) (r:RO g) (hk:IW p (k:Int)∈Rg p ty ar):∀(n:Nat) (i:Int),i.toNat<=n->0<=i->i<(g.length:Int)->IW p ((k:Int)+i)∈Rg p ty ar:=by
 intro n;induction n with
 | zero =>
  intro i hn o c;have:i=0:=by omega
  subst this;rw[ACV];exact hk
 | succ n q =>
  intro i hn o c;by_cases hi:i=0
  .subst hi;rw[ACV];exact hk
  obtain⟨j,d,s,a,ha,rfl⟩:=r i O1 c;have b:=l j d O1;have:=mN m f e (x:=(k:Int)+j) O1 b.1 (q j O1 d O1) (a:=(a.1,a.2+(k:Int))) (by
   rw[Ak,b.2];exact Do.2 ⟨a,ha,rfl⟩)
  rw[Int.add_comm];exact this
end
theorem gN {N:List AD} {P:List (Int×Int)} {U:List AD} {v:Int->Int} (e:vI h N P U v) {g:List AD} (d:vJ N k g) (f:v (k:Int)=0):S1 h g U λi=>v ((k:Int)+i):=by
 refine⟨by show v ((k:Int)+0)=0;rw[ACV];exact f,λi b c=>?_,λi b c=>?_,λi b c a ha=>?_⟩
 .exact e.rng _ O1 (d i b c).1
 .have:=e.ty _ O1 (d i b c).1;rw[(d i b c).2]at this;exact this
 have:=e.arc _ O1 (d i b c).1 (a.1,a.2+(k:Int)) (by
  rw[Ak,(d i b c).2];exact Do.2 ⟨a,ha,rfl⟩)
 rw[Int.add_comm (k:Int) a.2];exact this
theorem Tm {g X:List AD} (a:S1 h g X m):vI h g [] X m:=⟨a.rng,a.ty,a.arc,λq b=>by cases b⟩
theorem gP {X:List AD} (hf:AX f) (m:AX g) {v:Int->Int} (h1:vI h f [] X v) (i:vI h g [] X w):vI h (Ey f g) [] X (λx=>if x<(f.length:Int) then v x else w (x-(f.length:Int))):=by
 have j:=Hk f g;refine⟨λx d e=>?_,λx d e=>?_,λx d e a ha=>?_,λq n=>by cases n⟩
 .rw[j]at e;show _/\_;try simp only
  split
  .exact h1.rng x d a4
  exact i.rng _ O1 O1
 .rw[j]at e;try simp only
  by_cases c:x<(f.length:Int)
  .rw[At c,Oe d c];exact h1.ty x d c
  rw[An c];have:=MW (f:=f) (g:=g) (y:=x-(f.length:Int)) O1 O1;rw[show (f.length:Int)+(x-(f.length:Int))=x by omega]at this;rw[this];exact i.ty _ O1 O1
 rw[j]at e;try simp only
 by_cases c:x<(f.length:Int)
 .rw[At c];rw[Ak,Oe d c]at ha;have l:=CM hf ha;rw[At l.2];exact h1.arc x d c a ha
 rw[An c];have:=MW (f:=f) (g:=g) (y:=x-(f.length:Int)) O1 O1;rw[show (f.length:Int)+(x-(f.length:Int))=x by omega]at this;rw[Ak,this]at ha;obtain⟨b,k,rfl⟩:=Do.1 ha;have l:=CM m k;rw[An a2];try simp only
 rw[show b.2+(f.length:Int)-(f.length:Int)=b.2 by omega];exact i.arc _ O1 O1 b k
theorem A1q {N X:List AD} {P:List (Int×Int)} {v:Int->Int} (h1:vI h N [] X v) (a:∀q∈P,v q.1=v q.2):vI h N P X v:=⟨h1.rng,h1.ty,h1.arc,a⟩
theorem Yf {N f g:List AD} (h:vJ f k N):vJ (Ey f g) k N:=by
 intro i a b;have:=h i a b;rw[Hk,Oe O1 this.1];exact⟨O1,this.2⟩
theorem Yg:vJ f 0 f:=by
 intro i c b;rw[show ((0:Nat):Int)+i=i by omega];refine⟨b,?_⟩;have:Dx 0 (f.getD i.toNat (0,[])).2=(f.getD i.toNat (0,[])).2:=by
  unfold Dx;rw[oS (g:=id) (λa _=>by show (a.1,a.2+((0:Nat):Int))=a;rw[Int.natCast_zero,ACV]),List.map_id]
 rw[this]
theorem WG:vJ (Ey f g) f.length g:=by
 intro i a b;rw[Hk,MW a b];exact⟨O1,rfl⟩
set_option maxHeartbeats 1000000 in
theorem A7R {h:AE} {N:List AD} {P:List (Int×Int)} {p ty:List Int} {ar:List (List (Int×Int))} (K:JI h N P p ty ar []) (E:AX (quo p ty ar)) (M:0<N.length) (G:∀x,0<=x->x<(N.length:Int)->IW p x∈Rg p ty ar) :
  A6e h N P (AN (quo p ty ar) (IW p 0)) (λx=>E1 (Rg p ty ar) (IW p x)):=by
 have s:=Rh K E M
 have af:=WE K E M
 obtain⟨nty,⟨au,fo⟩,lp,lt,la,wr,tyr,arr,srt,sp,st,sa,co⟩:=K
 have aj:=Tl p ty ar
 have w:=λ{x:Int} (C:0<=x) (D:x<(N.length:Int))=>Rf fo C (by rw[lp];exact D)
 have I:=λ{x:Int} (C:0<=x) (D:x<(N.length:Int))=>IM fo C (by rw[lp];exact D) (w C D)
 have J:=Jw (quo p ty ar) (IW p 0)
 have aa:=λi=>Jv (f:=quo p ty ar) (r:=IW p 0) (i:=i)
 have L:∀x:Int,0<=x->x<(N.length:Int)->Ak (quo p ty ar) x=(ar.getD x.toNat []).map λa=>(a.1,IW p a.2):=λx C D=>by
  rw[Ak,QM C (by rw[lp];exact D)]
 have u:∀x∈Rg p ty ar,(0<=x/\x<(N.length:Int))/\QJ p x=x:=by
  have ag:Iso (quo p ty ar) (quo p ty ar) id (λx=>(0<=x/\x<(N.length:Int))/\QJ p x=x):=by
   refine⟨λi _=>by simp,λi hi a ha=>?_,λi j _ _ e=>e⟩
   rw[L i hi.1.1 hi.1.2]at ha
   obtain⟨b,m,rfl⟩:=List.mem_map.1 ha
   have c:=(arr _ b m).1
   have:=I c.1 c.2
   rw[lp]at this
   exact⟨this,(w c.1 c.2).root⟩
  have Q:=I (x:=0) O1 O1
  rw[lp]at Q
  exact(aF ag _ [] _ (λx d=>by cases d) ⟨Q,(w (x:=0) O1 O1).root⟩).2
 have ah:=λ(q:Nat)=>WD E (quo p ty ar).length [] (IW p 0) (GZ _) (I (x:=0) O1 O1).1 (by rw[aj];exact(I (x:=0) O1 O1).2) sc q
 unfold Rg at s af G u ⊢
 generalize an:AN (quo p ty ar) (IW p 0)=U at *
 generalize ap:Dn (quo p ty ar) (quo p ty ar).length [] (IW p 0)=o at *
 have z:∀i:Int,0<=i->i<(o.length:Int)->o.getD i.toNat 0∈o/\E1 o (o.getD i.toNat 0)=i:=λi g l=>by
  refine⟨AF o 0 O1,?_⟩
  rw[IL s.ok.nd O1]
  omega
 have A:∀x∈o,U.getD (E1 o x).toNat (0,[])=(ty.getD x.toNat 0,(ar.getD x.toNat []).map λa=>(a.1,E1 o (IW p a.2))):=λx d=>by
  have al:=D7 d
  have c:=(u x d).1
  rw[aa _ O1,al.2.2]
  unfold HD
  rw[QM c.1 (by rw[lp];exact c.2),List.map_map]
  rfl
 have O:∀x∈o,∀a∈ar.getD x.toNat [],IW p a.2∈o:=λx d a ha=>by
  have c:=(u x d).1
  exact s.cl x d (a.1,IW p a.2) (by rw[L x c.1 c.2];exact List.mem_map.2 ⟨a,ha,rfl⟩)
 have R:∀k,Wz ((ar.getD k []).map λa=>(a.1,E1 o (IW p a.2))):=λk=>by
  unfold Wz
  rw[List.pairwise_map]
  exact srt k
 have F:∀x∈U,∃y∈o,x=(ty.getD y.toNat 0,(ar.getD y.toNat []).map λa=>(a.1,E1 o (IW p a.2))):=λx d=>by
  obtain⟨i,hi,rfl⟩:=CK (0,[]) d
  have h1:=z (i:Int) O1 O1
  refine⟨_,h1.1,?_⟩
  rw[<-A _ h1.1,h1.2]
  rw[Int.toNat_natCast]
 have ae:E1 o (IW p 0)=0:=by
  have:=IL s.ok.nd s.zero.2
  rw[s.zero.1]at this
  exact this
 have ao:=s.ok.len
 have am:=E.1
 refine⟨⟨O1,λx d=>?_⟩,by rw[J];exact s.zero.2,λx d=>?_,λx d a ha=>?_,λx d=>?_,λi g l=>?_,ae,⟨λi g l=>?_,λi g l=>?_,λi g l a ha=>?_,λq ai=>?_⟩,λX v ab S ak=>?_,O1⟩
 .obtain⟨y,B,rfl⟩:=F x d
  have c:=(u y B).1
  refine⟨?_,λa ha=>?_⟩
  .have:=(E.2 _ (AF (quo p ty ar) (0,[]) (k:=y.toNat) O1)).1
   rw[QM c.1 (by rw[lp];exact c.2),List.length_map]at this
   simp only[List.length_map]
   exact this
  obtain⟨b,m,rfl⟩:=List.mem_map.1 ha
  have:=D7 (O y B b m)
  rw[J]
  exact⟨this.1,this.2.1⟩
 .obtain⟨y,B,rfl⟩:=F x d
  exact R _
 .obtain⟨y,B,rfl⟩:=F x d
  obtain⟨b,m,rfl⟩:=List.mem_map.1 ha
  exact(arr _ b m).2
 .obtain⟨y,B,rfl⟩:=F x d
  have c:=(u y B).1
  exact tyr y c.1 c.2
 . -- in order
  obtain⟨j,aq,a,ha,e⟩:=ah i.toNat (by simp only[List.length_nil];omega) O1
  have h1:=z (j:Int) O1 O1
  have W:=z i O1 O1
  rw[Int.toNat_natCast]at h1
  have c:=(u _ h1.1).1
  rw[L _ c.1 c.2]at ha
  obtain⟨b,m,rfl⟩:=List.mem_map.1 ha
  refine⟨(j:Int),O1,O1,(b.1,E1 o (IW p b.2)),?_,?_⟩
  .have:=A _ h1.1
   rw[h1.2]at this
   rw[Ak,this]
   exact List.mem_map.2 ⟨b,m,rfl⟩
  show E1 o (IW p b.2)=i
  simp only at e
  rw[e,W.2]
 .have:=D7 (G i g l)
  rw[J]
  exact⟨this.1,this.2.1⟩
 .show Ai h _ (U.getD (E1 o (IW p i)).toNat (0,[])).1=true
  rw[A _ (G i g l)]
  exact st i _ g l (w g l)
 .obtain⟨t,ht,ad⟩:=sa i _ g l (w g l) a ha
  have e:=qE ad
  show BT (Ak U (E1 o (IW p i))) a.1=E1 o (IW p a.2)
  rw[e,Ak,A _ (G i g l)]
  exact QI (R _) (a:=(a.1,E1 o (IW p t))) (List.mem_map.2 ⟨(a.1,t),ht,rfl⟩)
 .show E1 o (IW p q.1)=E1 o (IW p q.2)
  rw[qE (sp q ai)]
 obtain⟨c1,c2,T,V⟩:=co X v ab S
 refine⟨λi=>v (o.getD i.toNat 0),?_,λi g l=>?_,λi g l=>?_,λi g l a ha=>?_⟩
 .show v (o.getD 0 0)=0
  rw[s.zero.1,<-c1 0 _ O1 O1 (w O1 O1)]
  exact ak
 .have n:=z i g O1
  have c:=(u _ n.1).1
  exact S.rng _ c.1 c.2
 .have n:=z i g O1
  have c:=u _ n.1
  have hn:=A _ n.1
  rw[n.2]at hn
  rw[hn]
  exact T _ c.1.1 c.1.2 c.2
 have n:=z i g O1
 have c:=u _ n.1
 have hn:=A _ n.1
 rw[n.2]at hn
 rw[Ak,hn]at ha
 obtain⟨b,m,rfl⟩:=List.mem_map.1 ha
 have Y:=V _ c.1.1 c.1.2 c.2 b m
 have H:=(arr _ b m).1
 have Z:=D7 (O _ n.1 b m)
 simp only
 rw[Z.2.2,<-c1 b.2 _ H.1 H.2 (w H.1 H.2)]
 exact Y
structure VF (h:AE) (f:List AD):Prop where
 good:AX f
 pos:0<f.length
 ty:DU h f
 str:∀x∈f,Wz x.2
 ft:∀x∈f,∀a∈x.2,0<=a.1/\a.1<(h.2.length:Int)
 can:AN f 0=f
 ro:RO f
structure HU (h:AE):Prop where
 ok:GV h
 inj:JL h
 ft:h.2.length<=64
def gQ (U:List AD):Prop:=(Dn U U.length [] 0).length=U.length/\∀k,(hk:k<(Dn U U.length [] 0).length)->(Dn U U.length [] 0)[k]=(k:Int)
theorem aG {Q:List AD} (h:AX Q) {r:Int} (K:0<=r) (L:r<(Q.length:Int)):AX (AN Q r)/\gQ (AN Q r):=by
 have c:=Iy h K L;have C:=Jw Q r;have B:=λi=>Jv (f:=Q) (r:=r) (i:=i);generalize N:AN Q r=U at *;generalize G:Dn Q Q.length [] r=o at *;have P:=c.ok.len;have M:=h.1;have d:∀i:Int,0<=i->i<(o.length:Int)->o.getD i.toNat 0∈o/\E1 o (o.getD i.toNat 0)=i:=λi I J=>by
  refine⟨AF o 0 O1,?_⟩;rw[IL c.ok.nd O1];omega
 have m:∀i:Int,0<=i->i<(o.length:Int)->Ak U i=(Ak Q (o.getD i.toNat 0)).map (LN o):=λi I J=>by
  rw[Ak,B i.toNat O1];rfl
 have E:Iso U Q (λi=>o.getD i.toNat 0) (λi=>0<=i/\i<(o.length:Int)):=by
  refine⟨λi hi=>?_,λi hi a ha=>?_,λi j hi A e=>?_⟩
  .rw[m i hi.1 hi.2,AAU];have:∀a∈Ak Q (o.getD i.toNat 0),((λa:Int×Int=>(a.1,o.getD a.2.toNat 0))∘LN o) a=a:=λa ha=>by
    show (a.1,o.getD (E1 o a.2).toNat 0)=a;rw[(D7 (c.cl _ (d i hi.1 hi.2).1 a ha)).2.2]
   rw[oS this,ADd]
  .rw[m i hi.1 hi.2]at ha;obtain⟨b,p,rfl⟩:=Do.1 ha;have:=D7 (c.cl _ (d i hi.1 hi.2).1 b p);exact⟨this.1,this.2.1⟩
  have h1:=(d i hi.1 hi.2).2;have g:=(d j A.1 A.2).2;have e:o.getD i.toNat 0=o.getD j.toNat 0:=e;rw[<-h1,<-g,e]
 have h0:(0:Int)<(o.length:Int):=by have:=c.zero.2;omega
 have u:AX U:=by
  refine⟨O1,λx t=>?_⟩;obtain⟨i,hi,rfl⟩:=CK (0,[]) t;have h1:=m (i:Int) O1 O1;rw[Ak,oF]at h1;rw[h1];have s:=d (i:Int) O1 O1;rw[oF]at s;have R:=c.ok.rng _ s.1;refine⟨?_,λa ha=>?_⟩
  .rw[On];exact(h.2 _ (AF Q (0,[]) (k:=(o.getD i 0).toNat) O1)).1
  obtain⟨b,p,rfl⟩:=Do.1 ha;have:=D7 (c.cl _ s.1 b p);rw[C];exact⟨this.1,this.2.1⟩
 have q:=aF E Q.length [] 0 (λx t=>by cases t) ⟨O1,h0⟩;have H:o.getD (0:Int).toNat 0=r:=c.zero.1;rw[ABC,H,G]at q;have y:=gK u (n:=0) O1 O1 (Q.length-U.length);rw[show U.length+(Q.length-U.length)=Q.length by omega]at y;rw[y]at q;unfold gQ;refine⟨u,?_⟩;generalize Dn U U.length [] 0=l at *;obtain⟨w,D⟩:=q;have O:l.length=o.length:=by
  have:=ABj List.length w;rw[On]at this;exact this.symm
 have F:∀k,(hk:k<l.length)->l[k]=(k:Int):=λk hk=>by
  have v:=D l[k] (AAd hk);have h1:=(d l[k] v.1 v.2).2;have g:=(d (k:Int) O1 O1).2;have e:o.getD k 0=o.getD (l[k]).toNat 0:=by
   exact(ABj (λz:List Int=>z.getD k 0) w).trans (by simp[AS,hk])
  rw[oF,e]at g;rw[<-h1,g]
 exact⟨O1,F⟩
theorem WH {U:List AD} (f:AX U) (h:gQ U):AN U 0=U:=by
 unfold AN;obtain⟨p,b⟩:=h;generalize Dn U U.length [] 0=l at *;have n:l.Nodup:=by
  unfold List.Nodup;rw[iN];intro i j hi m o e;rw[b i hi,b j m]at e;omega
 have k:∀x,0<=x->x<(l.length:Int)->E1 l x=x:=λx q r=>by
  have:=IL n (i:=x.toNat) O1;have e:l.getD x.toNat 0=x:=by
   rw[AS,As O1];show l[x.toNat]=x;rw[b _ O1];omega
  rw[e]at this;rw[this];omega
 apply AAJ
 .rw[On];omega
 intro i h1 c;rw[ACf,b i (by simpa using h1)];have d:U.getD (i:Int).toNat (0,[])=U[i]:=by simp[AS,c]
 unfold HD;rw[d];have:∀a∈U[i].2,LN l a=a:=λa ha=>by
  have g:=(f.2 _ (AAd c)).2 a ha;unfold LN;rw[k a.2 g.1 O1]
 rw[oS this,ADd]
theorem gR {Q:List AD} (a:AX Q) {r:Int} (b:0<=r) (c:r<(Q.length:Int)):AN (AN Q r) 0=AN Q r :=
 WH (aG a b c).1 (aG a b c).2
theorem A1r {a X:List AD} (g:RO a) {f:Int->Int} (h1:S1 h a X m) (b:S1 h a X f):∀(k:Nat) (i:Int),i.toNat<=k->0<=i->i<(a.length:Int)->m i=f i:=by
 intro k;induction k with
 | zero =>
  intro i hk l e;have:i=0:=by omega
  subst this;rw[h1.zero,b.zero]
 | succ k n =>
  intro i hk l e;by_cases hi:i=0
  .subst hi;rw[h1.zero,b.zero]
  obtain⟨j,c,o,x,d,rfl⟩:=g i O1 e;rw[<-h1.arc j c O1 x d,<-b.arc j c O1 x d,n j O1 c O1]
theorem WI (hk:GV h) {a b:List AD} (w:AX a) (ta:DU h a) (tb:DU h b) (A:DU h c) {n:Int->Int} (h1:S1 h a b m) (j:S1 h b c n):S1 h a c λi=>n (m i):=by
 refine⟨by show n (m 0)=0;rw[h1.zero,j.zero],λi f g=>?_,λi f g=>?_,λi f g x p=>?_⟩
 .have:=h1.rng i f g;exact j.rng _ this.1 this.2
 .have d:=h1.rng i f g;have B:=j.rng _ d.1 d.2;have r:=ta _ (AF a (0,[]) (k:=i.toNat) O1);have s:=tb _ (AF b (0,[]) (k:=(m i).toNat) O1);have t:=A _ (AF c (0,[]) (k:=(n (m i)).toNat) O1);exact Od hk r.1 r.2 s.1 s.2 t.1 t.2 (h1.ty i f g) (j.ty _ d.1 d.2)
 have d:=h1.rng i f g;have q:=CM w p;have o:=h1.arc i f g x p;obtain⟨y,z,u,v⟩:=gL (l:=Ak b (m i)) (e:=x.1) (by rw[o];exact(h1.rng _ q.1 q.2).1);have:=j.arc (m i) d.1 d.2 y z;rw[u,v,o]at this;exact this
theorem aH {a:List AD} (hs:∀x∈a,Wz x.2) (n:Int):Wz (Ak a n):=by
 unfold Ak;by_cases h:n.toNat<a.length
 .exact hs _ (AF a (0,[]) h)
 rw[AS,oN O1];exact .nil
theorem A1s {a:List AD} (hs:∀x∈a,Wz x.2):S1 h a a id :=
 ⟨rfl,λi c d=>⟨c,d⟩,λi _ _=>Rc h _,λi _ _ x b=>QI (aH hs i) b⟩
structure mO (h:AE) (a b U:List AD):Prop where
 vf:VF h U
 left:∃m,S1 h a U m
 right:∃m,S1 h b U m
 least:∀X,DU h X->∀m1,S1 h a X m1->∀m2,S1 h b X m2->∃m,S1 h U X m
 len:U.length<=a.length+b.length
open Classical in
noncomputable def Kn (h:AE) (a b:List AD):List AD×Bool:=if H:∃U,mO h a b U then (H.choose,true) else ([],false)
theorem gS {a b:List AD} (h1:(Kn h a b).2=true):mO h a b (Kn h a b).1:=by
 unfold Kn at h1 ⊢;split at h1
 .rename_i H;rw[dif_pos H];exact H.choose_spec
 cases h1
theorem WJ {e:Int} (h:e∈Km f):∃x∈f,∃a∈x.2,a.1=e:=by
 unfold Km at h;obtain⟨x,c,b⟩:=AAZ.1 h;obtain⟨a,ha,e⟩:=Do.1 b;exact⟨x,c,a,ha,e⟩
theorem A7S {N:List AD} {P:List (Int×Int)} {ty:List Int} {ar:List (List (Int×Int))} (d:JI h N P p ty ar []) (g:AX (quo p ty ar)) (m:0<N.length) (j:∀x∈N,∀a∈x.2,0<=a.1/\a.1<(h.2.length:Int)) {v:Int->Int} (c:A6e h N P (AN (quo p ty ar) (IW p 0)) v):VF h (AN (quo p ty ar) (IW p 0)):=by
 have f:0<=IW p 0/\IW p 0<((quo p ty ar).length:Int):=by
  obtain⟨n,fo⟩:=d.fo;have:=d.lp;have:=IM fo (x:=0) O1 O1 (Rf fo O1 O1);rw[Tl];exact this
 refine⟨c.good,c.pos,c.ty,c.str,λx k a ha=>?_,gR g f.1 f.2,c.ro⟩;obtain⟨y,l,b,i,e⟩:=WJ (c.feat x k a ha);rw[<-e];exact j y l b i
theorem vK (hf:VF h f) (e:VF h g):∀x∈Ey f g,∀a∈x.2,0<=a.1/\a.1<(h.2.length:Int):=by
 intro x c;unfold Ey at c;rcases IN.1 c with c|c
 .exact hf.ft x c
 obtain⟨y,i,rfl⟩:=Do.1 c;intro a ha;obtain⟨b,d,rfl⟩:=Do.1 ha;exact e.ft y i b d
theorem A4M (hf:VF h f) (i:VF h g) {ty:List Int} {ar:List (List (Int×Int))} (b:JI h (Ey f g) [(0,(f.length:Int))] p ty ar []) (d:AX (quo p ty ar)):mO h f g (AN (quo p ty ar) (IW p 0)):=by
 have v:=hf.pos;have u:=Hk f g;have c:0<(Ey f g).length:=by omega
 have h0:=WE b d c;have l:=WF b d c (Yf (g:=g) Yg) hf.ro h0;have n:=WF b d c (WG (f:=f)) i.ro (A1p b sc h0);have a:=A7R b d c λx t w=>by
  by_cases o:x<(f.length:Int)
  .have:=l x.toNat x (OS _) t o
   rwa [show ((0:Nat):Int)+x=x by omega]at this
  have:=n _ (x-(f.length:Int)) (OS _) O1 O1
  rwa [show (f.length:Int)+(x-(f.length:Int))=x by omega]at this
 refine⟨A7S b d c (vK hf i) a,⟨_,gN a.proj (Yf (g:=g) Yg) a.zero⟩,⟨_,gN a.proj (WG (f:=f)) (by rw[<-a.proj.eq (0,(f.length:Int)) sc];exact a.zero)⟩,λX k r h1 s j=>?_,by have:=a.len;omega⟩;refine a.least X _ k (A1q (gP hf.good i.good (Tm h1) (Tm j)) λq m=>?_) ?_
 .have e:q=(0,(f.length:Int)):=by simpa using m
  subst e;try simp only
  rw[At O1,An O1,Int.sub_self,h1.zero,j.zero]
 show (if (0:Int)<(f.length:Int) then r 0 else s (0-(f.length:Int)))=0;rw[At O1];exact h1.zero
theorem vL {n k:Nat} (h:k<n):(Se 0 n).getD k 0=(k:Int):=by
 unfold Se;rw[AS,AAV,ABy h];show ((0+k:Nat):Int)=k;rw[AB6]
theorem MX {n:Nat} {x:Int} (a:0<=x) (b:x<(n:Int)):QJ (Se 0 n) x=x:=by
 unfold QJ;rw[vL O1];omega
def aI (N:List AD):List Int:=N.map (·.1)
def qF (N:List AD):List (List (Int×Int)):=N.map (·.2)
theorem Og (N:List AD) (k:Nat):(aI N).getD k 0=(N.getD k (0,[])).1:=by
 unfold aI;rw[AS,AAV,AS];cases N[k]?<;>rfl
theorem M9 (N:List AD) (k:Nat):(qF N).getD k []=(N.getD k (0,[])).2:=by
 unfold qF;rw[AS,AAV,AS];cases N[k]?<;>rfl
theorem aJ {n:Nat} {x r:Int} (a:0<=x) (b:x<(n:Int)) (h:Rt (Se 0 n) x r):r=x:=h.det (.base (MX a b))
theorem A4N {N:List AD} (l:AX N) (ht:DU h N) (hs:∀x∈N,Wz x.2):JI h N [] (Se 0 N.length) (aI N) (qF N) []:=by
 have f:(Se 0 N.length).length=N.length:=vH 0 N.length;refine⟨ht,⟨λ_=>0,λn n0 n1=>?_,λn n0 n1 hn=>?_⟩,f,by simp[aI],by simp[qF],λw g=>(by cases g),λx c d=>?_,λk a ha=>?_,λk=>?_,λq o=>(by cases o),λx r c d e=>?_,λx r c d e a ha=>?_,λX v p m=>?_⟩
 .rw[f]at n1 ⊢;rw[MX n0 n1];exact⟨n0,n1⟩
 .rw[f]at n1;exact absurd (MX n0 n1) hn
 .rw[Og];exact ht _ (AF N (0,[]) O1)
 .rw[M9]at ha;refine⟨QE l k a ha,?_⟩;by_cases hk:k<N.length
  .exact AAZ.2 ⟨_,AF N (0,[]) hk,Do.2 ⟨a,ha,rfl⟩⟩
  rw[AS,oN O1]at ha;cases ha
 .rw[M9];have:=aH hs (k:Int)
  rwa [Ak,oF]at this
 .rw[aJ c d e,Og];exact Rc h _
 .rw[aJ c d e,M9];have b:=CM l ha;exact⟨a.2,ha,.cls b.1 b.2 b.1 b.2 (.base (MX b.1 b.2)) (.base (MX b.1 b.2))⟩
 refine⟨λx r c d e=>by rw[aJ c d e],λw g=>(by cases g),λr i j _=>?_,λr i j _ a ha=>?_⟩
 .rw[Og];exact m.ty r i j
 rw[M9]at ha;exact m.arc r i j a ha
theorem mP (hf:AX f) (d:AX g) (j:f.length+g.length<=100000):AX (Ey f g):=by
 have i:=Hk f g;refine⟨O1,λx c=>?_⟩;unfold Ey at c;rcases IN.1 c with c|c
 .refine⟨(hf.2 x c).1,λa ha=>?_⟩;have:=(hf.2 x c).2 a ha;omega
 obtain⟨y,e,rfl⟩:=Do.1 c;refine⟨by simp only[Dx,On];exact(d.2 y e).1,λa ha=>?_⟩;obtain⟨b,h,rfl⟩:=Do.1 ha;have:=(d.2 y e).2 b h;simp only;omega
theorem vM (hf:∀x∈f,Wz x.2) (b:∀x∈g,Wz x.2):∀x∈Ey f g,Wz x.2:=by
 intro x a;unfold Ey at a;rcases IN.1 a with a|a
 .exact hf x a
 obtain⟨y,c,rfl⟩:=Do.1 a;unfold Wz Dx;rw[AAI];exact b y c
theorem A1t (hf:DU h f) (b:DU h g):DU h (Ey f g):=by
 intro x a;unfold Ey at a;rcases IN.1 a with a|a
 .exact hf x a
 obtain⟨y,c,rfl⟩:=Do.1 a;exact b y c
def vN (N:List AD):Prop:=∀x∈N,∀a∈x.2,0<=a.1/\a.1<64
theorem A1u (hf:vN f) (e:vN g):vN (Ey f g):=by
 intro x c;unfold Ey at c;rcases IN.1 c with c|c
 .exact hf x c
 obtain⟨y,h,rfl⟩:=Do.1 c;intro a ha;obtain⟨b,d,rfl⟩:=Do.1 ha;exact e y h b d
theorem A1v (h:Wz l) (hf:∀a∈l,0<=a.1/\a.1<64):l.length<=64:=by
 have:=qD h (S:=(List.range 64).map λ(i:Nat)=>(i:Int)) (λa ha=>Do.2 ⟨a.1.toNat,tO.2 (by have:=hf a ha;omega),by have:=hf a ha;omega⟩)
 rwa [On,ACu]at this
theorem vO {N:List AD} (h:vN N) {e:Int} (b:e∈Km N):0<=e/\e<64:=by
 obtain⟨x,c,a,ha,rfl⟩:=WJ b;exact h x c a ha
theorem A1w {N:List AD} {P:List (Int×Int)} {ty:List Int} {ar:List (List (Int×Int))} (c:JI h N P p ty ar []) (k:N.length<=100000) (hf:vN N):AX (quo p ty ar):=by
 have g:=Tl p ty ar;obtain⟨l,fo⟩:=c.fo;have lp:=c.lp;refine⟨O1,λx j=>?_⟩;obtain⟨i,hi,rfl⟩:=CK (0,[]) j;have e:=QM (p:=p) (ty:=ty) (ar:=ar) (n:=(i:Int)) O1 O1;rw[oF]at e;rw[e];refine⟨?_,λa ha=>?_⟩
 .simp only[On];have:=A1v (c.srt i) (λa ha=>vO hf (c.arr i a ha).2);omega
 obtain⟨b,f,rfl⟩:=Do.1 ha;have d:=(c.arr i b f).1;have:=IM fo (x:=b.2) d.1 O1 (Rf fo d.1 O1);rw[g];exact this
theorem VF.ft64 (b:VF h f) (hu:HU h):vN f:=λx c a ha=>by
 have h1:=b.ft x c a ha;have d:=hu.ft;omega
def A9R (d:List AI) (o:List ByteArray) (i:Nat):Prop:=∀j,j<i->∀x∈d,Aa x.2.1 (o.getD j ByteArray.empty)=true->Aa o x.1=true
theorem A1x {c:ByteArray} {o:List ByteArray} {x:AI} (h:Aa x.2.1 c=true):Aa (E8 c o x) x.1=true:=by grind [E8,OI,B9]
theorem Yh {c:ByteArray} {x:AI} (h:Aa x.2.1 c=true):∀ {l:List AI} {o:List ByteArray},x∈l->Aa (l.foldl (E8 c) o) x.1=true
 | [],_,a=>by cases a
 | y :: l,o,a=>by
  rw[ON];rcases By.1 a with rfl|a
  .grind [Hi,M0,A1x]
  exact Yh h a
theorem WK {d:List AI}:∀ {n i:Nat} {o:List ByteArray},Zo d o->d.length<=n+i->A9R d o i->i<=o.length->∃m,A9R d (Cn d n i o) m/\(Cn d n i o).length<=m
 | 0,i,o,ha,f,a,hi=>⟨i,a,by
  have:=ha.len;show o.length<=i;omega⟩
 | n+1,i,o,ha,f,a,hi=>by
  unfold Cn;split
  .rename_i q;obtain⟨c,k⟩:=VH (o.getD i ByteArray.empty) (l:=d) (o:=o) (λ_ h=>h) ha;refine WK c O1 (λj p x b hs=>?_) O1;rw[RD _ O1]at hs;by_cases e:j=i
   .subst e;exact Yh hs b
   exact Hi (λz g=>M0 g) (a j O1 x b hs)
  exact⟨i,a,O1⟩
theorem Ri {α:Type} {p:α->Bool}:∀ {l:List α},l.countP p=1->∀x∈l,p x=true->∀y∈l,p y=true->x=y
 | [],h,x,a,_,_,_,_=>by cases a
 | z :: l,h,x,a,d,y,b,e=>by
  rw[ABR]at h;by_cases c:p z=true
  .rw[At c]at h;grind
  rw[An c]at h;have a:x∈l:=by grind
  have b:y∈l:=by grind
  exact Ri O1 x a d y b e
theorem WL (s:ByteArray):∀(l:List AI) (k:Nat),0<=Cy s k l->∃x∈l,AK x.1 s=true
 | [],k,h=>by
  simp only[Cy]at h;omega
 | y :: l,k,h=>by
  simp only[Cy]at h;split at h
  .rename_i e;exact⟨y,sc,e⟩
  obtain⟨x,a,e⟩:=WL s l (k+1) h;exact⟨x,by simp[a],e⟩
theorem mQ {d:List AI} (t:BB d=0):∃r∈d,∀x∈d,Aa (Co d r.1) x.1=true:=by
 obtain⟨hs,I,h1,hn,l⟩:=A2 t;have C:0<d.countP λx=>x.2.1.length==0:=by grind [H2]
 obtain⟨r,c,q⟩:=List.countP_pos_iff.1 C;refine⟨r,c,?_⟩;have D:=DQ c;have u:Zo d [r.1]:=⟨λs hs=>by
  have:s=r.1:=by simpa using hs
  rw[this];exact D,sc⟩
 obtain⟨m,B,J⟩:=WK (d:=d) (n:=d.length) (i:=0) u O1 (λj A=>by omega) O1;have p:r.1∈Cn d d.length 0 [r.1]:=Ka sc;have v:Co d r.1=Ji (Cn d d.length 0 [r.1]):=by unfold Co;rw[An O1]
 rw[v];generalize Cn d d.length 0 [r.1]=o at *;have key:∀(k:Nat) (x:AI),x∈d->F3 d x.1<=k->Aa o x.1=true:=by
  intro k;induction k with
  | zero =>
   intro x a hk;by_cases g:x.2.1.length=0
   .have e:=Ri h1 x a (by simpa using g) r c q;rw[e];exact FZ p
   obtain⟨s,b⟩:∃s,s∈x.2.1:=ACD O1;have:=KZ hn l a (FZ b);omega
  | succ k H =>
   intro x a hk;by_cases g:x.2.1.length=0
   .have e:=Ri h1 x a (by simpa using g) r c q;rw[e];exact FZ p
   obtain⟨s,b⟩:∃s,s∈x.2.1:=ACD O1;have E:=KZ hn l a (FZ b);obtain⟨y,G,e⟩:=WL s d 0 (hs x a s b);rw[<-H8 d e]at E;obtain⟨z,h,f⟩:=bY.1 (H y G O1);obtain⟨j,A,rfl⟩:=CK ByteArray.empty h;refine B j O1 x a ?_;exact bY.2 ⟨s,b,Bv (BP f e)⟩
 intro x a;obtain⟨z,h,e⟩:=bY.1 (key _ x a (OS _));obtain⟨w,F,f⟩:=bY.1 (Pr (o:=[]) h);exact bY.2 ⟨w,F,BP f e⟩
abbrev cnt (c:List Int):Nat:=(Hz c).length
theorem A1y {w:Int} (a:U64 w) {r:Nat} (d:r<64):A05 w (r:Int)=w.toNat.testBit r:=by
 have h0:=a.1;have h1:=a.2;have b:w.toNat / 2 ^ r<=w.toNat:=Nat.div_le_self _ _;have e:bV .u64 w (r:Int)=((w.toNat / 2 ^ r:Nat):Int):=by
  unfold bV;have c:min ((r:Int)).toNat IntKind.u64.bits=r:=by
   show min ((r:Int)).toNat 64=r;omega
  grind
 unfold A05;rw[Nat.testBit_eq_decide_div_mod_eq,e];generalize w.toNat / 2 ^ r=z at *;rw[H6 ⟨O1,O1⟩ ⟨df,df⟩,oF,show (1:Int).toNat=1 from rfl,Nat.and_one_is_mod,AC1,AAh,If];omega
theorem Tn {b:List Int} (d:H7 b) (i:Nat):Sw b (i:Int)=BI b i:=by
 have a:Int.tdiv (i:Int) 64=((i / 64:Nat):Int):=by rw[ABx O1];omega
 have c:Int.tmod (i:Int) 64=((i % 64:Nat):Int):=by rw[ABQ O1];omega
 unfold Sw BI;rw[a,c,oF];by_cases hk:i / 64<b.length
 .rw[An (by rw[AA4,If,If];omega),A1y (BQ d _) O1]
 rw[At (by rw[AA4,If,If];omega),Gm hk];simp
theorem gT (c:List Int):(Hz c).Nodup:=by
 unfold Hz NW List.Nodup;rw[AAI];refine List.Pairwise.imp (λh e=>h ?_) (List.Pairwise.filter _ List.nodup_range);exact Int.ofNat.inj e
theorem Yi {c:List Int} (b:H7 c) {x:Int}:x∈Hz c↔∃i:Nat,x=(i:Int)/\BI c i=true:=by
 unfold Hz NW;rw[Do];constructor
 .grind [Tn]
 rintro⟨i,rfl,a⟩;refine⟨i,ABc.2 ⟨tO.2 ?_,by rw[Tn b];exact a⟩,rfl⟩;refine DO λd=>?_;unfold BI at a;rw[Gm O1]at a;simp at a
theorem A7T {a b:List Int} (ha:H7 a) (d:H7 b) (h:∀i,BI a i=true->BI b i=true) (e:cnt b<=cnt a) (i:Nat) (hi:BI b i=true):BI a i=true:=by
 refine DO λhn=>?_;have c:(i:Int)∉Hz a:=λf=>by grind [Yi]
 have:=Re (l:=(i:Int) :: Hz a) (l':=Hz b) (AAF.2 ⟨c,gT a⟩) λx c=>by grind [Yi]
 grind
theorem WM (x:AR) (out:List AR):∀n,(Fa x out n=0->n=0\/Fu x (out.getD 0 c0)=true)/\∀k,Fa x out n=k+1->Fu x (out.getD k c0)=false
 | 0=>⟨λ_=>.inl rfl,λk h=>by simp[Fa]at h⟩
 | n+1=>by
  obtain⟨h1,a⟩:=WM x out n;grind [Fa]
theorem gU {a b:AR} (h:Fu a b=true):cnt b.2<=cnt a.2:=by
 unfold Fu at h;grind
theorem aK {a b:AR} (h:Fu a b=false):cnt a.2<=cnt b.2:=by
 unfold Fu at h;grind
def HM (out:List AR):Prop:=∀y∈out,cnt y.2<=cnt (out.getD 0 c0).2
theorem A4O {out:List AR} (h:HM out) (x:AR):HM (Zy out x):=by
 obtain⟨s1,s2⟩:=WM x out out.length;have c:=eY x out out.length;intro y a;rw[fB]at a;unfold Zy;cases hk:Fa x out out.length with
 | zero =>
  rw[ABi,AB3,jA];have e:([x]++out).getD 0 c0=x:=rfl;rw[e];rcases a with rfl|a
  .exact OS _
  have h1:=h y a;rcases s1 hk with e|e
  .grind
  exact aS h1 (gU e)
 | succ k =>
  have b:=aK (s2 k hk);rw[hk]at c;have e:(out.take (k+1)++[x]++out.drop (k+1)).getD 0 c0=out.getD 0 c0:=by grind
  rw[e];rcases a with rfl|a
  .exact aS b (h _ (Ac O1))
  exact h y a
theorem gV {d:List AI}:∀ {l:List (List Int)} {o:List AR},HM o->HM (l.foldl (RJ d) o)
 | [],_,h=>h
 | b :: l,o,h=>by
  rw[ON];exact gV (A4O h _)
def In (n:Nat) (c:List Int):Prop:=H7 c/\∀i,BI c i=true->i<n
theorem A7U (n:Nat):In n []:=⟨λx a=>(by cases a),λi hi=>by unfold BI at hi;simp at hi⟩
theorem A7V {n:Nat} {a b:List Int} (ha:In n a) (c:In n b):In n (ET a b) :=
 ⟨P2 ha.1 c.1,λi hi=>by
  rw[P1 ha.1 c.1,AT]at hi;exact ha.2 i hi.1⟩
theorem A4P {n:Nat} {l:List (List Int)} (h:∀c∈l,In n c) (k:Nat):In n (l.getD k []):=by grind [Ac,RP,A7U]
theorem A4Q {n:Nat} {l:List (List Int)} (h:∀c∈l,In n c) (i k:Nat):∀c∈GK l i k,In n c:=by grind [GK,ET,A7V,A4P]
theorem qG {q i:Nat}:∀ {n k:Nat} {l:List (List Int)},(∀c∈l,In q c)->∀c∈GL i n k l,In q c
 | 0,_,_,h=>h
 | n+1,k,l,h=>by
  unfold GL;split
  .exact qG (A4Q h i k)
  exact h
theorem aL {q:Nat}:∀ {n i:Nat} {l:List (List Int)},(∀c∈l,In q c)->∀c∈H4 n i l,In q c
 | 0,_,_,h=>h
 | n+1,i,l,h=>by
  unfold H4;split
  .exact aL (qG h)
  exact h
def A9S (h:AE):Prop:=∀t,0<=t->t<(h.1.length:Int)->Ai h 0 t=true
theorem gW (d:List AI):A9S (Ad d).1:=by
 have hk:=Gn d;unfold Ad at hk ⊢;split
 .intro t h0 h1;simp at h1;omega
 rename_i g;rw[An g]at hk;have g:(A9 d).2=0:=DO g;have A:Aq d=0:=by grind [A9]
 obtain⟨M,-,-⟩:=CE A;obtain⟨j,P,-⟩:=Bd M;obtain⟨-,z,-,hn,O⟩:=A2 j;have G:=Dt d d.length;rw[sL]at G;have k:(AO d).length<=4096:=by omega
 obtain⟨r,I,N⟩:=mQ j;have a:∀c∈A0 (AZ d),In (AO d).length c:=aL λc f=>by
  obtain⟨s,hs,rfl⟩:=Do.1 f;exact⟨(CA (d:=d) k s 0).2.1,λi hi=>((CA (d:=d) k s i).1.1 hi).1⟩
 obtain⟨s,hs,es⟩:=bY.1 (OQ I);have J:s=r.1:=by grind [DR,Pq]
 subst J;have n:Ec d (AO d) r.1∈A0 (AZ d):=by
  have H:AZ d <+: A0 (AZ d):=Pz 257 0 (AZ d);exact H.subset (Do.2 ⟨_,hs,rfl⟩)
 have l:∀i,i<(AO d).length->BI (Ec d (AO d) r.1) i=true:=λi hi=>by grind [CA,DR,Ac]
 have B:HM (AL d):=gV λy L=>by cases L
 have q:=DS.2 ⟨_,n,rfl⟩;have u:0<(AL d).length:=ACp q;have p:=B _ q;obtain⟨b,m,h⟩:=DS.1 (Ac (d:=c0) u);rw[h]at p;have E:=A7T (a b m).1 (a _ n).1 (λi hi=>l i ((a b m).2 i hi)) p;have D:Be (Bn d) 0=b:=by
  show ((EO (AL d) _ _).getD 0 RM).2.1=b;have:(EO (AL d) (A9 d).1 (AL d).length).getD 0 RM=(((AL d).getD 0 c0).1,((AL d).getD 0 c0).2,YD (AL d) ((0:Nat):Int),(A9 d).1.getD 0 []):=by
   unfold EO;rw[AS,AAV,ABy u];rfl
  rw[this,h]
 have Q:(Bn d).1.length=(AL d).length:=Jr _ _ _;intro t v w;refine(B0 hk O1 (by show (0:Int)<((Bn d).1.length:Int);omega) v w).2 λi hi=>?_;show BI (Be (Bn d) 0) i=true;rw[D];refine E i (l i ?_);have C:=CY v w;have F:Be (Bn d) t∈A0 (AZ d):=by
  have e:((Bn d).1.map λt=>t.2.1)=(AL d).map λx=>x.2:=by
   show ((EO _ _ _).map λt=>t.2.1)=_;unfold EO;rw[AAU];apply AAJ
   .simp
   intro i h1 z;simp[AS,show i<(AL d).length by simpa using h1]
  have o:Be (Bn d) t∈(Bn d).1.map λt=>t.2.1:=C;rw[e]at o;obtain⟨x,K,ex⟩:=Do.1 o;obtain⟨c,f,rfl⟩:=DS.1 K;rw[<-ex];exact f
 exact(a _ F).2 i hi
theorem WN (d:List AI):Nd ((Ad d).1.1.map λt=>t.2.1):=by
 unfold Ad;split
 .exact⟨.nil,λc h=>(by cases h)⟩
 rename_i a;have a:(A9 d).2=0:=DO a;have g:Aq d=0:=by
  unfold A9 at a;split at a
  .rename_i h;exact absurd a h
  rename_i h;exact DO h
 obtain⟨m,-,-⟩:=CE g;obtain⟨f,o,-⟩:=Bd m;have hf:Nd (A0 (AZ d)):=Td (RQ f);have e:((Bn d).1.map λt=>t.2.1)=(AL d).map λx=>x.2:=by
  show ((EO _ _ _).map λt=>t.2.1)=_;unfold EO;rw[AAU];apply AAJ
  .simp
  intro i h1 n;simp[AS,show i<(AL d).length by simpa using h1]
 show Nd ((Bn d).1.map λt=>t.2.1);rw[e];refine⟨MM (by simpa using hf.nd),λc k=>?_⟩;obtain⟨x,l,rfl⟩:=Do.1 k;obtain⟨b,j,rfl⟩:=DS.1 l;exact hf.nrm b j
structure CI (n:Nat) (o:List Int) (ar:List (List (Int×Int))) (W:List (Int×Int)):Prop where
 lo:o.length=n
 la:ar.length=n
 rep:∀k:Nat,k<n->0<=o.getD k 0/\o.getD k 0<=(k:Int)/\o.getD (o.getD k 0).toNat 0=o.getD k 0
 wr:∀w∈W,(0<=w.1/\w.1<(n:Int))/\(0<=w.2/\w.2<(n:Int))
 ta:∀k,∀a∈ar.getD k [],0<=a.2/\a.2<(n:Int)
theorem CI.rng {n:Nat} {o:List Int} {ar:List (List (Int×Int))} (h:CI n o ar l) {x:Int} (c:0<=x) (d:x<(n:Int)):0<=o.getD x.toNat 0/\o.getD x.toNat 0<(n:Int)/\o.getD (o.getD x.toNat 0).toNat 0=o.getD x.toNat 0:=by
 obtain⟨h1,b,a⟩:=h.rep x.toNat O1;exact⟨h1,O1,a⟩
section
attribute [local go_sem] VE A08
def A6g (b:List Int):List FA->Nat->Int×Bool
 | [],_=>(0,false)
 | t :: r,k=>if t.2.1=b then ((k:Int),true) else A6g b r (k+1)
def A1z (h:AE) (a b:Int):Int×Bool:=A6g (ET (Be h a) (Be h b)) h.1 0
end
section
def A9T (h:AE) (l:List AD) (c:List Int):Nat->Option (List Int)
 | 0=>some (List.replicate l.length 0)
 | i+1=>match A9T h l c i with
  | none=>none
  | some o=>if (A1z h (o.getD (c.getD i 0).toNat 0) (l.getD i (0,[])).1).2=true then some (o.set (c.getD i 0).toNat (A1z h (o.getD (c.getD i 0).toNat 0) (l.getD i (0,[])).1).1) else none
def A1A (h:AE) (l:List AD) (c:List Int):List Int×Bool:=match A9T h l c l.length with
 | none=>([],false)
 | some o=>((List.range l.length).map λ(k:Nat)=>o.getD (c.getD k 0).toNat 0,true)
def AAK (n:Nat) (c:List Int):Prop:=c.length=n/\∀k:Nat,k<n->0<=c.getD k 0/\c.getD k 0<=(k:Int)/\c.getD (c.getD k 0).toNat 0=c.getD k 0
def A1B:Ab:={ ins:=[GH,J1,CH],pre:=λ(h,l,c,_)=>AAK (List.length l) c/\DU h l/\0<List.length (h:AE).1/\List.length l<=100000/\(∀x∈(h:AE).1,x.2.1.length<=100000),out:=λ(h,l,c,_)=>[.p CH (A1A h l c).1,.p .bool (A1A h l c).2] }
attribute [local go_sem] A1B
end
inductive EQ (n:Nat) (o:List Int) (W:List (Int×Int)):Int->Int->Prop
 | cls {x y:Int} (x0:0<=x) (x1:x<(n:Int)) (y0:0<=y) (y1:y<(n:Int)) (h:o.getD x.toNat 0=o.getD y.toNat 0):EQ n o W x y
 | wt {x y:Int} (h:(x,y)∈W):EQ n o W x y
 | symm {x y:Int} (h:EQ n o W x y):EQ n o W y x
 | trans {x y z:Int} (h:EQ n o W x y) (g:EQ n o W y z):EQ n o W x z
theorem EQ.mono {n:Nat} {o b:List Int} {a:List (Int×Int)} (h1:∀x y,0<=x->x<(n:Int)->0<=y->y<(n:Int)->o.getD x.toNat 0=o.getD y.toNat 0->EQ n b a x y) (c:∀x y,(x,y)∈l->EQ n b a x y) {x y:Int} (h:EQ n o l x y):EQ n b a x y:=by
 induction h with
 | cls g i j k h=>exact h1 _ _ g i j k h
 | wt h=>exact c _ _ h
 | symm _ d=>exact .symm d
 | trans _ _ e f=>exact .trans e f
theorem EQ.nil {n:Nat} {o:List Int} {x y:Int} (h:EQ n o [] x y):o.getD x.toNat 0=o.getD y.toNat 0:=by
 induction h with
 | cls _ _ _ _ h=>exact h
 | wt h=>cases h
 | symm _ a=>exact a.symm
 | trans _ _ b c=>exact b.trans c
def A7W (h:AE):Prop:=∀t∈h.1,Nrm t.2.1
section
variable {d:List AI}
theorem Jx (d:List AI):((Bn d).1.map λt=>t.2.1)=(AL d).map λx=>x.2:=by
 show ((EO _ _ _).map λt=>t.2.1)=_;unfold EO;rw[AAU];apply AAJ
 .simp
 intro i h1 a;simp[AS,show i<(AL d).length by simpa using h1]
theorem WO (d:List AI):(Bn d).1.length=(AL d).length:=Jr _ _ _
theorem mR (d:List AI) (hk:k<(AL d).length):(Bn d).1.getD k RM=(((AL d).getD k c0).1,((AL d).getD k c0).2,YD (AL d) (k:Int),(A9 d).1.getD k []):=by
 unfold Bn EO;simp[AS,hk]
theorem NA (d:List AI) {t:Int} (a:0<=t) (b:t<((AL d).length:Int)):Be (Bn d) t=((AL d).getD t.toNat c0).2:=by
 unfold Be;rw[mR d O1]
theorem gX (a:Aq d=0):(A9 d).2=0/\(A9 d).1=Jq d (AL d) (BM d) (AL d).length:=by
 unfold A9;rw[An (by rw[a];simp)];exact⟨rfl,rfl⟩
theorem Ko (a:Aq d=0):(Ad d).1=Bn d:=by
 unfold Ad;rw[An (by rw[(gX a).1];simp)]
theorem A6h (b:Aq d=0):GV (Bn d)/\Nd ((Bn d).1.map λt=>t.2.1):=by
 have h1:=Gn d;have a:=WN d;rw[Ko b]at h1 a;exact⟨h1,a⟩
theorem MY (a:Aq d=0):(Bn d).2=(BM d).map (MJ d):=by
 unfold Bn DD;rw[An (by rw[a];simp)]
theorem A1C (a:Aq d=0) {t:Int} (b:0<=t) (c:t<((AL d).length:Int)):Z6 (Bn d) t=Sy d (AL d) (BM d) t.toNat (BM d).length:=by
 unfold Z6;rw[mR d O1];show (A9 d).1.getD t.toNat []=_;rw[(gX a).2];unfold Jq;simp[AS,show t.toNat<(AL d).length by omega]
theorem WP (a:Aq d=0):BB d=0/\(CB d).1=AL d/\Kd d=0/\(∀s∈BM d,(DT d s).2=true)/\IB d (AL d) (BM d) (AL d).length=false:=by
 obtain⟨b,-,f⟩:=CE a;obtain⟨e,-,c⟩:=Bd b;refine⟨e,c,f,?_,?_⟩
 .unfold Aq at a;split at a
  .rename_i h;exact absurd b h
  split at a
  .cases a
  split at a
  .rename_i h;exact absurd a h
  split at a
  .cases a
  rename_i h;exact NO.1 (by simpa using h)
 unfold Aq at a;split at a
 .rename_i h;exact absurd b h
 split at a
 .cases a
 split at a
 .rename_i h;exact absurd a h
 split at a
 .cases a
 split at a
 .cases a
 rename_i h;rw[c]at h;simpa using h
def Cd (l:List (List Int)) (c:List Int):Prop:=c=[]\/c∈l
theorem A1D {l:List (List Int)} (hk:Iu l) {c:List Int} (h:Cd l c):H7 c:=by
 rcases h with rfl|h
 .exact λx a=>by cases a
 exact hk.wds c h
theorem A7X {l:List (List Int)} (hk:Iu l) (hn:Nd l) {a b:List Int} (ha:Cd l a) (g:b∈l):Cd l (ET a b):=by
 have d:=A1D hk ha;have f:=hk.wds b g;have k:Nrm (ET a b):=by unfold ET;exact OX _
 have j:=λi=>P1 d f i;by_cases hi:∃i,BI a i=true/\BI b i=true
 .rcases ha with rfl|ha
  .obtain⟨i,h1,-⟩:=hi;unfold BI at h1;simp at h1
  obtain⟨t,ht,e⟩:=hk.meet a ha b g hi;right;rw[l0 (P2 d f) (hk.wds t ht) k (hn.nrm t ht) λi=>by rw[j,e]];exact ht
 left;refine DO λm=>?_;unfold ET at m;have n:H7 (ET a b):=P2 d f;have:∃i,BI (ET a b) i=true:=by
  have c:=k;rcases c with c|c
  .exact absurd (AAc c) m
  exact fO n c
 obtain⟨i,h⟩:=this;rw[j,AT]at h;exact hi ⟨i,h⟩
def UsD (d:List AI) (t:Int) (s:ByteArray) (x:AI):Prop:=(DA x s).2=true/\Ai (Bn d) (BN (AL d) x.1) t=true
def vcD (d:List AI) (s:ByteArray) (x:AI):List Int:=((AL d).getD (BN (AL d) (DA x s).1).toNat c0).2
theorem Tp (hn:lO d (AL d)) {x:AI} (a:x∈d):0<=BN (AL d) x.1/\BN (AL d) x.1<((AL d).length:Int):=⟨hn.1 x a,IA _ _⟩
theorem A1E (hn:lO d (AL d)) {x:AI} (b:x∈d) (a:(DA x s).2=true):0<=BN (AL d) (DA x s).1/\BN (AL d) (DA x s).1<((AL d).length:Int):=⟨hn.value b a,IA _ _⟩
theorem qH (d:List AI) {k:Int} (a:0<=k) (b:k<((AL d).length:Int)):((AL d).getD k.toNat c0).2∈(AL d).map λx=>x.2:=Do.2 ⟨_,Ac O1,rfl⟩
theorem vP (hk:GV (Bn d)) {a t:Int} (b:0<=a) (g:a<((AL d).length:Int)) (c:0<=t) (h:t<((AL d).length:Int)):K7 (AL d) a t=Ai (Bn d) a t:=by
 have j:=WO d;have e:a<((Bn d).1.length:Int):=by omega
 have f:t<((Bn d).1.length:Int):=by omega
 have i:=hk.1.wds _ (CY b e);have wt:=hk.1.wds _ (CY c f);rw[AC1];unfold K7;rw[<-NA d b g,<-NA d c h,FM wt i];exact(B0 hk b e c f).symm
theorem aM (hk:GV (Bn d)) (h:Nd ((Bn d).1.map λt=>t.2.1)) (hn:lO d (AL d)) {t:Int} (p:0<=t) (q:t<((AL d).length:Int)) (s:ByteArray):∀(r:List AI) (o:List Int×Bool),(∀x∈r,x∈d)->Cd ((AL d).map λx=>x.2) o.1 ->
  Cd ((AL d).map λx=>x.2) (r.foldl (Jp (AL d) t s) o).1/\((r.foldl (Jp (AL d) t s) o).2=true↔o.2=true\/∃x∈r,UsD d t s x)/\∀i,BI (r.foldl (Jp (AL d) t s) o).1 i=true↔BI o.1 i=true/\∀x∈r,UsD d t s x->BI (vcD d s x) i=true
 | [],o,_,g=>⟨g,sc,λi=>by simp⟩
 | x :: r,o,n,g=>by
  rw[Jx]at h;have m:Iu ((AL d).map λx=>x.2):=by have:=hk.1;rwa [Jx]at this
  have w:=n x sc;obtain⟨n0,n1⟩:=Tp hn w;have u:=vP hk n0 n1 p q;rw[ON];by_cases hu:UsD d t s x
  .obtain⟨v0,v1⟩:=A1E hn w hu.1;have e:Jp (AL d) t s o x=(ET o.1 (vcD d s x),true):=by
    unfold Jp;rw[An]
    .rfl
    rw[hu.1,u,hu.2];simp
   have v:vcD d s x∈(AL d).map λx=>x.2:=qH d v0 v1;obtain⟨h1,k,l⟩:=aM hk (by rw[Jx];exact h) hn p q s r (Jp (AL d) t s o x) (λy f=>n y (by simp[f])) (by rw[e];exact A7X m h g v);refine⟨h1,?_,λi=>?_⟩
   .rw[k,e];exact⟨λ_=>.inr ⟨x,sc,hu⟩,λ_=>.inl rfl⟩
   rw[l,e];simp only;rw[P1 (A1D m g) (m.wds _ v),AT];constructor
   .rintro⟨⟨a,b⟩,c⟩;refine⟨a,λy f j=>?_⟩;rcases By.1 f with rfl|f
    .exact b
    exact c y f j
   rintro⟨a,b⟩;exact⟨⟨a,b x sc hu⟩,λy f=>b y (by simp[f])⟩
  have e:Jp (AL d) t s o x=o:=by
   unfold Jp;rw[At];rw[u];unfold UsD at hu;cases h1:(DA x s).2 with
   | false=>simp
   | true =>
    rw[h1]at hu;have:Ai (Bn d) (BN (AL d) x.1) t=false:=by simpa using hu
    rw[this];simp
  obtain⟨h1,k,l⟩:=aM hk (by rw[Jx];exact h) hn p q s r (Jp (AL d) t s o x) (λy f=>n y (by simp[f])) (by rw[e];exact g);refine⟨h1,?_,λi=>?_⟩
  .rw[k,e];constructor
   .rintro (a|⟨y,f,a⟩)
    .exact .inl a
    exact .inr ⟨y,by simp[f],a⟩
   rintro (a|⟨y,f,a⟩)
   .exact .inl a
   rcases By.1 f with rfl|f
   .exact absurd a hu
   exact .inr ⟨y,f,a⟩
  rw[l,e];constructor
  .rintro⟨a,b⟩;refine⟨a,λy f j=>?_⟩;rcases By.1 f with rfl|f
   .exact absurd j hu
   exact b y f j
  rintro⟨a,b⟩;exact⟨a,λy f=>b y (by simp[f])⟩
theorem WQ {b:List Int}:∀ {l:List AR} {k:Nat},(∃x∈l,x.2=b)->∃j:Nat,j<l.length/\Pj b k l=((k+j:Nat):Int)/\(l.getD j c0).2=b
 | [],k,⟨x,a,_⟩=>by cases a
 | y :: l,k,⟨x,a,e⟩=>by
  unfold Pj;by_cases h:HB y.2 b=true
  .rw[At h];exact⟨0,sc,rfl,by simpa[HB] using h⟩
  rw[An h];rcases By.1 a with rfl|a
  .exact absurd (by simpa[HB] using e) h
  obtain⟨j,h1,c,d⟩:=WQ (k:=k+1) ⟨x,a,e⟩;exact⟨j+1,by simp only[Is];omega,by rw[c];congr 1;omega,by simpa using d⟩
theorem mS {b:List Int} (h:Nrm b):BS b=b:=by
 unfold BS;have:Ck b b.length=b.length:=by
  rcases h with h|h
  .rw[h];rfl
  cases e:b.length with
  | zero=>rfl
  | succ m =>
   rw[e]at h;show (if b.getD m 0=0 then Ck b m else m+1)=m+1;rw[An (by simpa using h)]
 rw[this,sL]
theorem QN (b:Aq d=0) {t:Int} (z:0<=t) (J:t<((AL d).length:Int)) (hs:s∈BM d) :
  ((FL d (AL d) t s).2=true↔∃x∈d,UsD d t s x)/\((FL d (AL d) t s).2=true->(0<=G3 (AL d) (FL d (AL d) t s).1/\G3 (AL d) (FL d (AL d) t s).1<((AL d).length:Int)) /\
   ∀i,BI (Be (Bn d) (G3 (AL d) (FL d (AL d) t s).1)) i=true↔∀x∈d,UsD d t s x->BI (vcD d s x) i=true):=by
 obtain⟨n,-,D,-,u⟩:=WP b;obtain⟨hk,p⟩:=A6h b;have hn:=Pv n D;have L:=pL n;have r:=gW d;rw[Ko b]at r;have K:Iu ((AL d).map λx=>x.2):=by have:=hk.1;rwa [Jx]at this
 have q:=p;rw[Jx]at q;have A:=qH d (ABt 0) (by omega:(0:Int)<((AL d).length:Int));obtain⟨g,a,m⟩:=aM hk p hn z J s d (((AL d).getD 0 c0).2,false) (λx f=>f) (.inr A);have e:FL d (AL d) t s=d.foldl (Jp (AL d) t s) (((AL d).getD 0 c0).2,false):=rfl;rw[<-e]at g a m;refine⟨by rw[a];simp,λhu=>?_⟩;have E:(FL d (AL d) t s).1≠[]:=by
  intro G;have h1:Kg d (AL d) t.toNat s=true:=by
   unfold Kg;rw[ABq z,hu,G];rfl
  have B:IB d (AL d) (BM d) (AL d).length=true:=by
   unfold IB;refine bY.2 ⟨t.toNat,tO.2 O1,?_⟩;unfold Z0;exact bY.2 ⟨s,hs,h1⟩
  rw[B]at u;cases u
 have o:(FL d (AL d) t s).1∈(AL d).map λx=>x.2:=g.resolve_left E;obtain⟨x,f,ex⟩:=Do.1 o;obtain⟨j,M,H,I⟩:=WQ (l:=AL d) (k:=0) ⟨x,f,ex⟩;have hf:G3 (AL d) (FL d (AL d) t s).1=(j:Int):=by
  unfold G3;rw[mS (q.nrm _ o),H];simp
 rw[hf];refine⟨⟨AAX _,O1⟩,λi=>?_⟩;rw[NA d (AAX _) O1,oF,I,m];constructor
 .exact λh=>h.2
 intro h;refine⟨?_,h⟩;obtain⟨y,v,w⟩:=(a.1 hu).resolve_left sc;obtain⟨v0,v1⟩:=A1E hn v w.1;have C:=h y v w;have c:=WO d;have F:=r _ v0 (by rw[c];exact v1);have:=(B0 hk (ABt 0) (by rw[c];omega) v0 (by rw[c];exact v1)).1 F i;unfold Tb2 at this;rw[NA d (ABt 0) O1,NA d v0 v1]at this;exact this C
theorem Rj {s:ByteArray}:∀ {r:List AI} {o:List ByteArray} {y:ByteArray},y∈r.foldl (HC s) o->y∈o\/∃x∈r,x.1=y/\(DA x s).2=true
 | [],_,_,h=>.inl h
 | x :: r,o,y,h=>by
  rw[ON]at h;rcases Rj h with h|⟨z,b,h⟩
  .unfold HC at h;split at h
   .rename_i a;rcases Fv h with h|h
    .exact .inl h
    exact .inr ⟨x,sc,h.symm,a⟩
   exact .inl h
  exact .inr ⟨z,by simp[b],h⟩
theorem WR (h:(DT d s).2=true):∃x∈d,x.1=(DT d s).1/\(DA x s).2=true:=by
 unfold DT at h ⊢;split
 .rename_i h1;have a:(A8 d (FK d s)).getD 0 ByteArray.empty∈A8 d (FK d s):=Ac O1;exact(Rj (HS a)).resolve_left sc
 rename_i h1;rw[An h1]at h;cases h
theorem mT (d:List AI):bT (Ad d).1:=by
 by_cases a:Aq d=0
 .rw[Ko a];obtain⟨j,-,l,m,-⟩:=WP a;have hn:=Pv j l;have g:=WO d;refine⟨λx b=>?_,λt ht p c=>?_⟩
  .rw[MY a]at b;obtain⟨s,hs,rfl⟩:=Do.1 b;obtain⟨y,n,e,-⟩:=WR (m s hs);rw[g];show 0<=BN (AL d) (DT d s).1/\BN (AL d) (DT d s).1<((AL d).length:Int);rw[<-e];exact Tp hn n
  obtain⟨k,hk,e⟩:=CK RM ht;rw[g]at hk ⊢;have f:=A1C a (t:=(k:Int)) (AAX _) O1;unfold Z6 at f;rw[oF,e]at f;rw[f]at c;unfold Sy at c;obtain⟨i,hi,rfl⟩:=Do.1 c;obtain⟨h1,h⟩:=ABc.1 hi;have h1:=tO.1 h1;exact((QN a (t:=(k:Int)) (AAX _) O1 (Ac h1)).2 h).1
 have:(Ad d).1=([],[]):=by
  unfold Ad A9;rw[At a,At a]
 rw[this];exact⟨λx b=>(by cases b),λt ht=>(by cases ht)⟩
end
structure HAp (h:AE):Prop where
 iff:∀t f,0<=t->t<(h.1.length:Int)->0<=f->f<(h.2.length:Int)->((CL h t f).2=true↔Ai h (LF h f) t=true)
 mono:∀t t' f,0<=t->t<(h.1.length:Int)->0<=t'->t'<(h.1.length:Int)->0<=f->f<(h.2.length:Int)->Ai h t t'=true->(CL h t f).2=true->Ai h (CL h t f).1 (CL h t' f).1=true
def Tq (h:AE) (m:Nat) (u:List Int):Prop:=u.length=m/\∀t∈u,0<=t/\t<(h.1.length:Int)
theorem Tq.get {m:Nat} {u:List Int} (hu:Tq h m u) {n:Nat} (n1:n<m):0<=u.getD n 0/\u.getD n 0<(h.1.length:Int):=by
 have a:n<u.length:=by rw[hu.1];exact n1
 rw[AS,As a];exact hu.2 _ (AAd a)
theorem NJ.tyl {m:Nat} {s:EI} (hs:NJ h m s):Tq h m s.1:=⟨hs.len,hs.ty⟩
def Qj (h:AE) (m:Nat) (u v:List Int):Prop:=∀i,i<m->Ai h (u.getD i 0) (v.getD i 0)=true
def mU (h:AE) (u:List Int) (n:Int) (l:List (Int×Int)):Prop:=∀a∈l,(CL h (u.getD n.toNat 0) a.1).2=true/\Ai h (CL h (u.getD n.toNat 0) a.1).1 (u.getD a.2.toNat 0)=true
def WTy (h:AE) (f:List AD) (u:List Int):Prop:=∀i,i<f.length->mU h u (i:Int) (f.getD i (0,[])).2
theorem Qj.refl (hk:GV h) {m:Nat} {u:List Int} (hu:Tq h m u):Qj h m u u:=λi hi=>Th hk (hu.get hi).1 (hu.get hi).2
theorem Qj.trans (hk:GV h) {m:Nat} {u v w:List Int} (hu:Tq h m u) (a:Tq h m v) (b:Tq h m w) (h1:Qj h m u v) (c:Qj h m v w):Qj h m u w:=λi hi =>
 HT hk (hu.get hi).1 (hu.get hi).2 (a.get hi).1 (a.get hi).2 (b.get hi).1 (b.get hi).2 (h1 i hi) (c i hi)
theorem Qj.anti (hi:JL h) {m:Nat} {u v:List Int} (hu:Tq h m u) (b:Tq h m v) (h1:Qj h m u v) (d:Qj h m v u):u=v:=by
 refine AAJ (by rw[hu.1,b.1]) λi c e=>?_;have a:i<m:=by rw[<-hu.1];exact c
 have:=hi _ _ (hu.get a).1 (hu.get a).2 (b.get a).1 (b.get a).2 (h1 i a) (d i a)
 rwa [AS,As c,AS,As e]at this
structure qI (h:AE) (m:Nat) (s s':EI):Prop where
 up:Qj h m s.1 s'.1
 pre:s.2 <+: s'.2
 ch:∀k:Nat,k<m->s'.1.getD k 0=s.1.getD k 0\/(k:Int)∈s'.2.drop s.2.length
theorem qI.refl (hk:GV h) {m:Nat} {s:EI} (hs:NJ h m s):qI h m s s:=⟨Qj.refl hk hs.tyl,ABu _,λ_ _=>.inl rfl⟩
theorem Rk {l l':List Int} (a:l <+: l') {n:Nat} {x:Int} (h:x∈l.drop n):x∈l'.drop n:=by
 obtain⟨r,rfl⟩:=a;rw[ADb];exact AAb _ h
theorem QO {l:List Int} {a b:Nat} (c:a<=b) {x:Int} (h:x∈l.drop b):x∈l.drop a:=by
 have:l.drop b=(l.drop a).drop (b-a):=by rw[ACd];congr 1;omega
 rw[this]at h;exact ABH h
theorem qI.trans (hk:GV h) {m:Nat} {a b c:EI} (ha:NJ h m a) (i:NJ h m b) (j:NJ h m c) (h1:qI h m a b) (d:qI h m b c):qI h m a c:=by
 refine⟨h1.up.trans hk ha.tyl i.tyl j.tyl d.up,h1.pre.trans d.pre,λk g=>?_⟩;rcases d.ch k g with f|f
 .rcases h1.ch k g with e|e
  .exact .inl (f.trans e)
  exact .inr (Rk d.pre e)
 exact .inr (QO h1.pre.length_le f)
theorem Rl (hk:GV h) (hi:JL h) {m:Nat} {s c:EI} (hs:NJ h m s) {t:Int} (n0:0<=n) (n1:n<(m:Int)) (f:0<=t) (g:t<(h.1.length:Int)) (e:DB h s n t=some c) :
  qI h m s c/\Ai h t (c.1.getD n.toNat 0)=true:=by
 have r:=(Es hk hi hs n0 n1 f g e).1;obtain⟨i,j⟩:=hs.get n0 n1;unfold DB at e;split at e
 .rename_i o;obtain⟨u,w,q,d⟩:=(ML hk i j f g).1 o;generalize (Cs h (s.1.getD n.toNat 0) t).1=v at *;injection e with e
  split at e
  .rename_i p;subst e;exact⟨qI.refl hk hs,by rw[<-p];exact d⟩
  subst e;have l:n.toNat<s.1.length:=by rw[hs.len];omega
  have a:∀k:Nat,(s.1.set n.toNat v).getD k 0=if k=n.toNat then v else s.1.getD k 0:=λk=>M7 _ _ _ l k
  refine⟨⟨λk b=>?_,ACQ _ _,λk b=>?_⟩,?_⟩
  .simp only;rw[a];split
   .rename_i e;rw[e];exact q
   exact Th hk (hs.tyl.get b).1 (hs.tyl.get b).2
  .simp only;rw[a];split
   .rename_i e;right;rw[ADb,ABB,AB3];exact AB7 _ (by simp;omega)
   exact .inl rfl
  simp only;rw[a,At rfl];exact d
 cases e
theorem Yj (hk:GV h) (hi:JL h) {m:Nat} {s:EI} (hs:NJ h m s) {t:Int} (n0:0<=n) (n1:n<(m:Int)) (o:0<=t) (p:t<(h.1.length:Int)) {u:List Int} (hu:Tq h m u) (a:Qj h m s.1 u) (ht:Ai h t (u.getD n.toNat 0)=true) :
  ∃c,DB h s n t=some c/\Qj h m c.1 u:=by
 obtain⟨d,f⟩:=hs.get n0 n1;have b:n.toNat<m:=by omega
 obtain⟨q,r⟩:=hu.get b;obtain⟨j,l⟩:=(ML hk d f o p).2 _ q r (a _ b) ht;unfold DB;rw[At j];refine⟨_,rfl,?_⟩;split
 .exact a
 intro k g;have i:n.toNat<s.1.length:=by rw[hs.len];omega
 simp only;rw[M7 _ _ _ i k];split
 .rename_i e;rw[e];exact l
 exact a k g
section
variable {h:AE} (hk:GV h) (hi:JL h) (hf:bT h) (hap:HAp h) {m:Nat} {n:Int} (n0:0<=n) (n1:n<(m:Int))
include hk hi hf n0 n1
theorem aN:∀ {l:List (Int×Int)} {s c:EI},(∀a∈l,Js h m a)->NJ h m s->MT h n l s=some c->qI h m s c/\∀a∈l,Ai h (LF h a.1) (c.1.getD n.toNat 0)=true
 | [],s,c,_,hs,e=>by
  injection e with e
  subst e;exact⟨qI.refl hk hs,λa ha=>by cases ha⟩
 | a :: l,s,c,o,hs,e=>by
  unfold MT at e;cases g:DB h s n (LF h a.1) with
  | none=>rw[g]at e;cases e
  | some s1 =>
   rw[g]at e;obtain⟨⟨r,t⟩,-⟩:=o a sc;obtain⟨j,k⟩:=MU hf r t;obtain⟨d,-,-⟩:=Es hk hi hs n0 n1 j k g;obtain⟨v,w⟩:=Rl hk hi hs n0 n1 j k g;have p:∀b∈l,Js h m b:=λb f=>o b (IF _ f);have e:MT h n l s1=some c:=e;obtain⟨q,u⟩:=aN p d e;have i:=(QB hk hi hf n0 n1 p d e).1;refine⟨v.trans hk hs d i q,λb f=>?_⟩;rcases By.1 f with rfl|f
   .exact HT hk j k (d.get n0 n1).1 (d.get n0 n1).2 (i.get n0 n1).1 (i.get n0 n1).2 w (q.up _ O1)
   exact u b f
theorem qJ:∀ {l:List (Int×Int)} {s c:EI},(∀a∈l,Js h m a)->NJ h m s->NI h n l s=some c->qI h m s c/\(n∈c.2.drop s.2.length\/(c.1.getD n.toNat 0=s.1.getD n.toNat 0/\∀a∈l,(CL h (s.1.getD n.toNat 0) a.1).2=true/\Ai h (CL h (s.1.getD n.toNat 0) a.1).1 (c.1.getD a.2.toNat 0)=true))
 | [],s,c,_,hs,e=>by
  injection e with e
  subst e;exact⟨qI.refl hk hs,.inr ⟨rfl,λa ha=>by cases ha⟩⟩
 | a :: l,s,c,t,hs,e=>by
  unfold NI at e;split at e
  .rename_i v;obtain⟨w,x⟩:=hs.get n0 n1;obtain⟨o,p⟩:=II hf w x v;cases j:DB h s a.2 (CL h (s.1.getD n.toNat 0) a.1).1 with
   | none=>rw[j]at e;cases e
   | some s1 =>
    rw[j]at e;obtain⟨-,d,b1⟩:=t a sc;obtain⟨g,-,-⟩:=Es hk hi hs d b1 o p j;obtain⟨r,A⟩:=Rl hk hi hs d b1 o p j;have u:∀b∈l,Js h m b:=λb f=>t b (IF _ f);have e:NI h n l s1=some c:=e;obtain⟨q,i⟩:=qJ u g e;have k:=(Ti hk hi hf n0 n1 u g e).1;refine⟨r.trans hk hs g k q,?_⟩;have y:((n.toNat:Nat):Int)=n:=ABq n0;rcases r.ch n.toNat O1 with c1|c1
    .rcases i with i|⟨i,z⟩
     .exact .inl (QO r.pre.length_le i)
     refine .inr ⟨i.trans c1,λb f=>?_⟩;rcases By.1 f with rfl|f
     .exact⟨v,HT hk o p (g.get d b1).1 (g.get d b1).2 (k.get d b1).1 (k.get d b1).2 A (q.up _ O1)⟩
     have:=z b f
     rwa [c1]at this
    rw[y]at c1;exact .inl (Rk q.pre c1)
  cases e
include hap
theorem qK {u:List Int} (hu:Tq h m u):∀ {l:List (Int×Int)} {s:EI},(∀a∈l,Js h m a)->NJ h m s->Qj h m s.1 u->(∀a∈l,(CL h (u.getD n.toNat 0) a.1).2=true)->∃c,MT h n l s=some c/\Qj h m c.1 u
 | [],s,_,_,e,_=>⟨s,rfl,e⟩
 | a :: l,s,j,hs,e,k=>by
  obtain⟨⟨f,g⟩,-⟩:=j a sc;obtain⟨o,p⟩:=MU hf f g;obtain⟨v,w⟩:=hu.get (show n.toNat<m by omega);obtain⟨s1,i,h1⟩:=Yj hk hi hs n0 n1 o p hu e ((hap.iff _ _ v w f g).1 (k a sc));obtain⟨r,-,-⟩:=Es hk hi hs n0 n1 o p i;obtain⟨c,q,t⟩:=qK hu (λb d=>j b (IF _ d)) r h1 λb d=>k b (IF _ d);exact⟨c,by unfold MT;rw[i];exact q,t⟩
theorem qL {u:List Int} (hu:Tq h m u):∀ {l:List (Int×Int)} {s:EI},(∀a∈l,Js h m a)->NJ h m s->Qj h m s.1 u->(∀a∈l,Ai h (LF h a.1) (s.1.getD n.toNat 0)=true)->mU h u n l->∃j,NI h n l s=some j/\Qj h m j.1 u
 | [],s,_,_,f,_,_=>⟨s,rfl,f⟩
 | a :: l,s,p,hs,f,y,z=>by
  obtain⟨⟨v,w⟩,k,b1⟩:=p a sc;obtain⟨d,e⟩:=hs.get n0 n1;have q:n.toNat<m:=by omega
  have x:a.2.toNat<m:=by omega
  obtain⟨A,B⟩:=hu.get q;have r:=(hap.iff _ _ d e v w).2 (y a sc);obtain⟨g,i⟩:=II hf d e r;obtain⟨I,J⟩:=z a sc;obtain⟨v0,v1⟩:=II hf A B I;have E:=hap.mono _ _ a.1 d e A B v w (f _ q) r;obtain⟨s1,o,h1⟩:=Yj hk hi hs k b1 g i hu f (HT hk g i v0 v1 (hu.get x).1 (hu.get x).2 E J);obtain⟨t,-,-⟩:=Es hk hi hs k b1 g i o;obtain⟨H,-⟩:=Rl hk hi hs k b1 g i o;obtain⟨j,C,D⟩:=qL hu (λb c=>p b (IF _ c)) t h1 (λb c=>by
   obtain⟨⟨c0,c1⟩,-⟩:=p b (IF _ c);obtain⟨F,G⟩:=MU hf c0 c1;exact HT hk F G d e (t.get n0 n1).1 (t.get n0 n1).2 (y b (IF _ c)) (H.up _ q)) λb c=>z b (IF _ c)
  exact⟨j,by unfold NI;rw[At r,o];exact C,D⟩
end
section
variable {h:AE} (hk:GV h) (hi:JL h) (hf:bT h) (hap:HAp h) {f:List AD} (ha:Oa h f)
include hk hi hf hap ha
theorem A1F (n0:0<=n) (n1:n<(f.length:Int)) {s c:EI} (hs:NJ h f.length s) (e:LG h f n s=some c):qI h f.length s c/\(n∈c.2.drop s.2.length\/mU h c.1 n (f.getD n.toNat (0,[])).2):=by
 have _:=hap;have g:=MV ha n0 n1;unfold LG at e;cases d:MT h n (f.getD n.toNat (0,[])).2 s with
 | none=>rw[d]at e;cases e
 | some s1 =>
  rw[d]at e;have i:=(QB hk hi hf n0 n1 g hs d).1;obtain⟨j,-⟩:=aN hk hi hf n0 n1 g hs d;have e:NI h n (f.getD n.toNat (0,[])).2 s1=some c:=e;have k:=(Ti hk hi hf n0 n1 g i e).1;obtain⟨l,b⟩:=qJ hk hi hf n0 n1 g i e;refine⟨j.trans hk hs i k l,?_⟩;rcases b with b|⟨b,m⟩
  .exact .inl (QO j.pre.length_le b)
  refine .inr λa ha=>?_;rw[b];exact m a ha
theorem A1G (n0:0<=n) (n1:n<(f.length:Int)) {s:EI} (hs:NJ h f.length s) {u:List Int} (hu:Tq h f.length u) (d:mU h u n (f.getD n.toNat (0,[])).2) (j:Qj h f.length s.1 u):∃e,LG h f n s=some e/\Qj h f.length e.1 u:=by
 have b:=MV ha n0 n1;obtain⟨s1,c,h1⟩:=qK hk hi hf hap n0 n1 hu b hs j λa ha=>(d a ha).1;have k:=(QB hk hi hf n0 n1 b hs c).1;obtain⟨-,l⟩:=aN hk hi hf n0 n1 b hs c;obtain⟨s2,g,i⟩:=qL hk hi hf hap n0 n1 hu b k h1 l d;exact⟨s2,by unfold LG;rw[c];exact g,i⟩
def A9U (h:AE) (f:List AD) (i:Nat) (s:EI):Prop:=∀n:Nat,n<f.length->mU h s.1 (n:Int) (f.getD n (0,[])).2\/(n:Int)∈s.2.drop i
theorem A4R {n:Nat} (hn:n<f.length) {s:EI} (hs:NJ h f.length s) (i:NJ h f.length d) (j:qI h f.length s d) (p:mU h s.1 (n:Int) (f.getD n (0,[])).2):mU h d.1 (n:Int) (f.getD n (0,[])).2\/(n:Int)∈d.2.drop s.2.length:=by
 have _:=hap;have _:=hi;have o:∀a∈(f.getD n (0,[])).2,Js h f.length a:=ha _ (AF f (0,[]) hn);rcases j.ch n hn with c|c
 .left;intro a g;obtain⟨e,k⟩:=p a g;obtain⟨-,b,b1⟩:=o a g;rw[oF]at e k ⊢;rw[c];obtain⟨l,m⟩:=hs.tyl.get hn;obtain⟨q,r⟩:=II hf l m e;exact⟨e,HT hk q r (hs.get b b1).1 (hs.get b b1).2 (i.get b b1).1 (i.get b b1).2 k (j.up _ O1)⟩
 exact .inr c
theorem qM:∀ {k i:Nat} {s:EI} {ty:List Int},NJ h f.length s->A9U h f i s->wQ h f k i s=some ty->WTy h f ty/\Qj h f.length s.1 ty/\Tq h f.length ty
 | 0,_,_,_,_,_,e=>by cases e
 | k+1,i,s,ty,hs,m,e=>by
  unfold wQ at e;split at e
  .rename_i d;have q:=AF s.2 (0:Int) d;obtain⟨n0,n1⟩:=hs.wt _ q;generalize hn:s.2.getD i 0=n at *;cases c:LG h f n s with
   | none=>rw[c]at e;cases e
   | some s1 =>
    rw[c]at e;have g:=(V3 hk hi hf ha n0 n1 hs c).1;obtain⟨j,b⟩:=A1F hk hi hf hap ha n0 n1 hs c;have t:A9U h f (i+1) s1:=by
     intro o l;rcases m o l with r|a
     .rcases A4R hk hi hf hap ha l hs g j r with h1|h1
      .exact .inl h1
      exact .inr (QO O1 h1)
     have u:s.2.drop i=n :: s.2.drop (i+1):=by
      rw[OR d,<-hn,AS,As d];rfl
     rw[u]at a;rcases By.1 a with a|a
     .rcases b with b|b
      .exact .inr (by rw[a];exact QO O1 b)
      left;rw[a];have:n.toNat=o:=by omega
      rw[this]at b;exact b
     exact .inr (Rk j.pre a)
    have e:wQ h f k (i+1) s1=some ty:=e;obtain⟨v,w,p⟩:=qM g t e;exact⟨v,j.up.trans hk hs.tyl g.tyl p w,p⟩
  rename_i d;injection e with e
  subst e;refine⟨λn hn=>?_,Qj.refl hk hs.tyl,hs.tyl⟩;rcases m n hn with h1|h1
  .exact h1
  rw[No O1]at h1;cases h1
theorem A1H {u:List Int} (hu:Tq h f.length u) (d:WTy h f u):∀ {k i:Nat} {s:EI},NJ h f.length s->i<=s.2.length->YW h s.1+s.2.length+1<=k+i->Qj h f.length s.1 u->∃ty,wQ h f k i s=some ty/\Qj h f.length ty u
 | 0,i,s,hs,j,l,b=>by omega
 | k+1,i,s,hs,j,l,b=>by
  unfold wQ;by_cases a:i<s.2.length
  .rw[At a];obtain⟨n0,n1⟩:=hs.wt _ (AF s.2 (0:Int) a);have e:=d (s.2.getD i 0).toNat O1;rw[ABq n0]at e;obtain⟨s1,c,h1⟩:=A1G hk hi hf hap ha n0 n1 hs hu e b;obtain⟨g,m,n⟩:=V3 hk hi hf ha n0 n1 hs c;rw[c];exact A1H hu d g O1 O1 h1
  rw[An a];exact⟨s.1,rfl,b⟩
theorem mV (ht:∀x∈f,0<=x.1/\x.1<(h.1.length:Int)) {ty:List Int} (e:IJ h f=some ty):WTy h f ty/\Qj h f.length (Bj f) ty/\Tq h f.length ty:=by
 have e:wQ h f (Nf h f) 0 (Bj f,ER f)=some ty:=e;refine qM hk hi hf hap ha (k:=Nf h f) (i:=0) (s:=(Bj f,ER f)) (A16 ht) (λn hn=>.inr ?_) e;rw[AB3];exact Do.2 ⟨n,tO.2 hn,rfl⟩
theorem gY (ht:∀x∈f,0<=x.1/\x.1<(h.1.length:Int)) {u:List Int} (hu:Tq h f.length u) (b:WTy h f u) (a:Qj h f.length (Bj f) u):∃ty,IJ h f=some ty/\Qj h f.length ty u :=
 A1H hk hi hf hap ha hu b (k:=Nf h f) (i:=0) (s:=(Bj f,ER f)) (A16 ht) (GO _) (A17 h f) a
end
inductive Up (d:List AI) (m:ByteArray):ByteArray->Prop
 | base {x:ByteArray}:AK m x=true->Up d m x
 | step {x s:ByteArray} {y:AI}:y∈d->AK y.1 x=true->Aa y.2.1 s=true->Up d m s->Up d m x
section
variable {d:List AI}
theorem WT {m:ByteArray} (h:Up d m x) (e:AK x y=true):Up d m y:=by
 cases h with
 | base h=>exact .base (BP h e)
 | step h1 a b c=>exact .step h1 (BP a e) b c
theorem A7Z {c s:ByteArray} (h:Up d c x) {y:AI} (f:y∈d) (e:AK y.1 c=true) (hs:Aa y.2.1 s=true):Up d s x:=by
 induction h with
 | base h=>exact .step f (BP e h) hs (.base (B9 s))
 | step h1 a b i g=>exact .step h1 a b g
theorem QP {a b c:ByteArray} (h1:Up d a b) (i:Up d b c):Up d a c:=by
 induction i with
 | base h=>exact WT h1 h
 | step e f g k j=>exact .step e f g j
theorem A4S {m a x:ByteArray} (e:AK a m=true) (h:Up d m x):Up d a x:=QP (.base e) h
theorem A4T (hn:Cm d=0) (f:d.length<=(Bm d).length) {m:ByteArray} (h:Up d m x):AK m x=true\/F3 d m<F3 d x:=by
 induction h with
 | base h=>exact .inl h
 | step h1 c e g a =>
  right;have b:=KZ hn f h1 e;rw[H8 d c]at b;rcases a with a|a
  .rw[H8 d a];exact b
  omega
theorem A1I {o:List ByteArray} {t:ByteArray} (h:t∈Jh o s):t∈o\/t=s:=by
 unfold Jh at h;split at h
 .exact .inl h
 rcases IN.1 h with h|h
 .exact .inl h
 exact .inr (by simpa using h)
theorem Yk:∀ {l o:List ByteArray} {t:ByteArray},t∈l.foldl Jh o->t∈o\/t∈l
 | [],_,_,h=>.inl h
 | s :: l,o,t,h=>by
  rw[ON]at h;rcases Yk h with h|h
  .rcases A1I h with h|h
   .exact .inl h
   exact .inr (by simp[h])
  exact .inr (by simp[h])
theorem vQ (h:0<=Av d s):d.getD (Av d s).toNat d0∈d/\AK (d.getD (Av d s).toNat d0).1 s=true:=by
 rcases DI d s with g|⟨b,c,a⟩
 .omega
 exact⟨Ac O1,a⟩
theorem Yl (hs:Pe d) {x:ByteArray}:∀ {n i:Nat} {o:List ByteArray},(∀t∈o,0<=Av d t/\Up d t x)->∀t∈H3 d n i o,0<=Av d t/\Up d t x
 | 0,_,_,a=>a
 | n+1,i,o,a=>by
  unfold H3;split
  .rename_i hi;refine Yl hs λt ht=>?_;rcases Yk ht with ht|ht
   .exact a t ht
   obtain⟨c1,c2⟩:=a _ (Ac (d:=ByteArray.empty) hi);obtain⟨b,c⟩:=vQ c1;exact⟨hs _ b t ht,A7Z c2 b c (FZ ht)⟩
  exact a
theorem Ym {l:List ByteArray} {t:ByteArray} (h:t∈Ji l):t∈l:=(VQ (o:=[]) h).resolve_left sc
theorem A1J (hs:Pe d) {x t:ByteArray} (a:0<=Av d x) (h:Aa (KV d x) t=true):Up d t x:=by
 obtain⟨u,hu,e⟩:=bY.1 h;unfold KV at hu;rw[An O1]at hu;have:=(Yl hs (x:=x) (n:=d.length) (i:=0) (o:=[x]) (λt ht=>by
  have:t=x:=by simpa using ht
  subst this;exact⟨a,.base (B9 _)⟩) u (Ym hu)).2
 exact A4S (Bv e) this
theorem Yn {m:ByteArray}:∀ {n i:Nat} {o:List ByteArray},(∀t∈o,Up d m t)->∀t∈Cn d n i o,Up d m t
 | 0,_,_,a=>a
 | n+1,i,o,a=>by
  unfold Cn;split
  .rename_i hi;have e:=a _ (Ac (d:=ByteArray.empty) hi);generalize o.getD i ByteArray.empty=c at *;have key:∀(l:List AI) (o:List ByteArray),(∀y∈l,y∈d)->(∀t∈o,Up d m t)->∀t∈l.foldl (E8 c) o,Up d m t:=by
    intro l;induction l with
    | nil=>exact λo _ a=>a
    | cons y l g =>
     intro o b a;rw[ON];refine g _ (λz f=>b z (by simp[f])) λt ht=>?_;unfold E8 at ht;split at ht
     .rename_i h;rw[AT]at h;rcases IN.1 ht with ht|ht
      .exact a t ht
      have:t=y.1:=by simpa using ht
      subst this;exact .step (b y sc) (B9 _) h.1 e
     exact a t ht
   exact Yn (key d o (λ_ h=>h) a)
  exact a
theorem WU {m:ByteArray} (h:Aa (Co d m) x=true):Up d m x:=by
 obtain⟨u,hu,e⟩:=bY.1 h;unfold Co at hu;split at hu
 .cases hu
 exact WT (Yn (m:=m) (n:=d.length) (i:=0) (o:=[m]) (λt ht=>by
  have:t=m:=by simpa using ht
  subst this;exact .base (B9 _)) u (Ym hu)) e
theorem WV {m:ByteArray} (u:0<=Av d m) (h:Up d m x):Aa (Co d m) x=true:=by
 have q:Zo d [m]:=⟨λs hs=>by
  have:s=m:=by simpa using hs
  rw[this];exact u,sc⟩
 obtain⟨k,v,D⟩:=WK (d:=d) (n:=d.length) (i:=0) q O1 (λj t=>by omega) O1;have A:m∈Cn d d.length 0 [m]:=Ka sc;have r:Co d m=Ji (Cn d d.length 0 [m]):=by unfold Co;rw[An O1]
 rw[r];generalize Cn d d.length 0 [m]=o at *;have key:Aa o x=true:=by
  induction h with
  | base h=>exact bY.2 ⟨m,A,h⟩
  | step h1 l p C B =>
   obtain⟨z,c,a⟩:=bY.1 B;obtain⟨j,t,rfl⟩:=CK ByteArray.empty c;obtain⟨s,y,f⟩:=bY.1 p;obtain⟨w,b,g⟩:=bY.1 (v j O1 _ h1 (bY.2 ⟨s,y,BP f (Bv a)⟩));exact bY.2 ⟨w,b,BP g l⟩
 obtain⟨z,c,e⟩:=bY.1 key;obtain⟨w,b,a⟩:=bY.1 (Pr (o:=[]) c);exact bY.2 ⟨w,b,BP a e⟩
theorem Yo:∀ {l o:List ByteArray} {x:ByteArray},Aa o x=true->Aa (l.foldl (E9 d) o) x=true
 | [],_,_,h=>h
 | s :: l,o,x,h=>by
  rw[ON];refine Yo ?_;unfold E9;split
  .exact Hi (λz a=>Jo a) h
  exact h
theorem QQ:∀ {l o:List ByteArray} {x:ByteArray},x∈l->0<=Av d x->Aa (l.foldl (E9 d) o) x=true
 | s :: l,o,x,h,a=>by
  rw[ON];rcases By.1 h with rfl|h
  .refine Yo ?_;unfold E9;rw[At a];exact MG
  exact QQ h a
theorem Ng:∀ {l o:List ByteArray},(∀x∈o,0<=Av d x)->∀x∈l.foldl (E9 d) o,0<=Av d x
 | [],_,b=>b
 | s :: l,o,b=>by
  rw[ON];refine Ng λx a=>?_;unfold E9 at a;split at a
  .rcases Fv a with a|rfl
   .exact b x a
   assumption
  exact b x a
theorem A80 {l:List ByteArray} (h:pU l) {i:Nat} (hi:i<l.length) (a:j<l.length) (d:i≠j):AK (l.getD i ByteArray.empty) (l.getD j ByteArray.empty)=false:=by
 have c:∀k (h:k<l.length),l.getD k ByteArray.empty=l[k]:=λk h=>by rw[AS,As h];rfl
 rw[c i hi,c j a];rcases Nat.lt_or_gt_of_ne d with b|b
 .exact(iN.1 h) i j hi a b
 exact Iv ((iN.1 h) j i a hi b)
theorem QR:∀ {l o:List ByteArray},pU o->(∀s∈l,∀x∈o,AK x s=false)->pU l->pU (l.foldl (E9 d) o)
 | [],_,h,_,_=>h
 | s :: l,o,h,b,f=>by
  rw[ON];have e:=AAv.1 f;refine QR ?_ (λy c x a=>?_) e.2
  .unfold E9;split
   .exact Vi h (b s sc)
   exact h
  unfold E9 at a;split at a
  .rcases Fv a with a|rfl
   .exact b y (by simp[c]) x a
   exact e.1 y c
  exact b y (by simp[c]) x a
theorem vR (hn:Cm d=0) (s:ByteArray):pU (FK d s):=by
 have key:∀(r:List AI) (o:List ByteArray),pU o->(∀y∈r,∀x∈o,AK x y.1=false)->r.Pairwise (λa b=>AK a.1 b.1=false)->pU (r.foldl (HC s) o):=by
  intro r;induction r with
  | nil=>exact λo h _ _=>h
  | cons y r t =>
   intro o h f q;rw[ON];have l:=AAv.1 q;refine t _ ?_ (λz g x c=>?_) l.2
   .unfold HC;split
    .exact Vi h (f y sc)
    exact h
   unfold HC at c;split at c
   .rcases Fv c with c|rfl
    .exact f z (by simp[g]) x c
    exact l.1 z g
   exact f z (by simp[g]) x c
 refine key d [] .nil (λy _ x c=>by cases c) (iN.2 λi j hi k u=>?_);cases e:AK d[i].1 d[j].1 with
 | false=>rfl
 | true =>
  have h1:=MF hn hi;have p:=MF hn k;have m:d.getD i d0=d[i]:=by rw[AS,As hi];rfl
  have n:d.getD j d0=d[j]:=by rw[AS,As k];rfl
  rw[m,Iq d e]at h1;rw[n]at p;omega
theorem Rm (r:BB d=0) {l:List ByteArray} (t:pU l) {x:ByteArray} (g:x∈l) (w:0<=Av d x):∃m∈A8 d l,Up d m x:=by
 obtain⟨hs,C,-,hn,A⟩:=A2 r;have z:∀y∈Bi d l,0<=Av d y:=Ng λy c=>by cases c
 obtain⟨q,n,ex⟩:=bY.1 (QQ (d:=d) (o:=[]) g w);have n:q∈Bi d l:=n;have v:pU (Bi d l):=QR .nil (λs _ x g=>by cases g) t;have u:A8 d l=Ph d (Bi d l) (Bi d l).length:=rfl;rw[u];generalize Bi d l=all at *;have key:∀(k:Nat) (y:ByteArray),F3 d y<k->y∈all->Up d y x->∃m∈Ph d all all.length,Up d m x:=by
  intro k;induction k with
  | zero=>exact λy h=>by omega
  | succ k B =>
   intro y D c hu;obtain⟨i,hi,rfl⟩:=CK ByteArray.empty c;by_cases a:Pg d all i all.length=true
   .exact⟨_,Do.2 ⟨i,ABc.2 ⟨tO.2 hi,a⟩,rfl⟩,hu⟩
   have a:Pg d all i all.length=false:=by simpa using a
   unfold Pg at a;obtain⟨j,b,hf⟩:=ABA.1 a;have b:=tO.1 b;unfold pB at hf;simp only[AA4,AAh,gO,not_or,Bool.not_eq_false]at hf;obtain⟨f,ha⟩:=hf;have f:j≠i:=λe=>f (by rw[e]);have p:=A1J hs (z _ c) ha;rcases A4T hn A p with e|e
   .exact absurd e (by rw[A80 v b hi f];simp)
   exact B _ O1 (Ac b) (QP p hu)
 exact key _ q (ABn _) n (.base ex)
theorem Kp (hs:s∈AO d):0<=Av d s:=by
 obtain⟨x,a,rfl⟩:=DR hs;exact DQ a
theorem QT {x:AI} (a:x∈d) (hn:Cm d=0):x.1∈AO d:=by
 obtain⟨s,hs,e⟩:=bY.1 (OQ a);obtain⟨y,b,rfl⟩:=DR hs;rw[<-Pq hn b a e];exact hs
theorem A4U (b:BB d=0) {m:ByteArray} (c:0<=Av d m) (h:Up d m x) {i:Nat} (hi:BI (Ec d (AO d) x) i=true):BI (Ec d (AO d) m) i=true:=by
 obtain⟨-,j,-,hn,k⟩:=A2 b;have e:=Dt d d.length;rw[sL]at e;have a:(AO d).length<=4096:=by omega
 obtain⟨f,g⟩:=(CA (d:=d) a x i).1.1 hi;exact(CA (d:=d) a m i).1.2 ⟨f,WV c (QP h (WU g))⟩
end
section
variable {d:List AI}
def Dc (d:List AI) (c:List Int):Prop:=H7 c/\∀i j,BI c i=true->j<(AO d).length->Up d ((AO d).getD i ByteArray.empty) ((AO d).getD j ByteArray.empty)->BI c j=true
theorem A81:Dc d []:=⟨λx a=>(by cases a),λi j hi=>by unfold BI at hi;simp at hi⟩
theorem A82 {a b:List Int} (ha:Dc d a) (c:Dc d b):Dc d (ET a b) :=
 ⟨P2 ha.1 c.1,λi j hi e hu=>by
  rw[P1 ha.1 c.1,AT]at hi ⊢;exact⟨ha.2 i j hi.1 e hu,c.2 i j hi.2 e hu⟩⟩
theorem A4V {l:List (List Int)} (h:∀c∈l,Dc d c) (k:Nat):Dc d (l.getD k []):=by grind [Ac,RP,A81]
theorem A4W {l:List (List Int)} (h:∀c∈l,Dc d c) (i k:Nat):∀c∈GK l i k,Dc d c:=by grind [GK,ET,A82,A4V]
theorem qO {i:Nat}:∀ {n k:Nat} {l:List (List Int)},(∀c∈l,Dc d c)->∀c∈GL i n k l,Dc d c
 | 0,_,_,h=>h
 | n+1,k,l,h=>by
  unfold GL;split
  .exact qO (A4W h i k)
  exact h
theorem qP:∀ {n i:Nat} {l:List (List Int)},(∀c∈l,Dc d c)->∀c∈H4 n i l,Dc d c
 | 0,_,_,h=>h
 | n+1,i,l,h=>by
  unfold H4;split
  .exact qP (qO h)
  exact h
theorem Sf (a:BB d=0):(AO d).length<=4096:=by
 obtain⟨-,c,-⟩:=A2 a;have b:=Dt d d.length;rw[sL]at b;omega
theorem A4X (a:BB d=0) (hs:0<=Av d s):Dc d (Ec d (AO d) s):=by
 have b:=Sf a;refine⟨(CA (d:=d) b s 0).2.1,λi j hi c hu=>?_⟩;grind [CA,WV,QP,WU]
theorem A83 (a:BB d=0):∀c∈A0 (AZ d),Dc d c:=qP λc b=>by
 obtain⟨s,hs,rfl⟩:=Do.1 b;exact A4X a (Kp hs)
theorem qQ {all:List ByteArray} {codes:List (List Int)} {b:List Int} {u:ByteArray}:∀ {m i:Nat} {l:List ByteArray},pH d all codes b m i l=.inl u->∃j,i<=j/\j<i+m/\DH (codes.getD j []) b=true/\u=all.getD j ByteArray.empty
 | 0,_,_,h=>by cases h
 | m+1,i,l,h=>by
  unfold pH at h;split at h
  .grind
  obtain⟨j,e,f,a,c⟩:=qQ h;exact⟨j,O1,O1,a,c⟩
theorem qR {all:List ByteArray} {codes:List (List Int)} {b:List Int} {r:List ByteArray}:∀ {m i:Nat} {l:List ByteArray},pH d all codes b m i l=.inr r->(∀j,i<=j->j<i+m->DH (codes.getD j []) b=false)/\r=l++((List.range' i m).filter λj:Nat=>Sw b (j:Int)).map λj=>all.getD j ByteArray.empty
 | 0,i,l,h=>by grind [pH]
 | m+1,i,l,h=>by
  unfold pH at h;split at h
  .cases h
  rename_i f;obtain⟨c,a⟩:=qR h;refine⟨λj h1 e=>?_,?_⟩
  .grind
  rw[a,AD7,AAW];grind
theorem qS {a b:ByteArray} {x:UInt8}:x∈(a++b).toList↔x∈a.toList\/x∈b.toList:=by
 rw[ByteArray.toList_eq,ByteArray.toList_eq,ByteArray.toList_eq];simp
theorem vS {l:List ByteArray}:∀ {n:Nat},2<=n->(38:UInt8)∈(Ps l n).toList
 | n+1,hn=>by
  rw[OT];unfold YB;rw[At O1];rw[qS,qS]
  simp_all
theorem mW (hn:Cm d=0) (hs:s∈AO d):(38:UInt8)∉s.toList:=by
 obtain⟨x,g,rfl⟩:=DR hs;obtain⟨j,c,e⟩:=CK d0 g;have h1:=(Ir (d:=d) (r:=d) (k:=0) hn j c).2;rw[e]at h1;intro a;unfold BG at h1;rw[AT,NO]at h1;rw[ByteArray.toList_eq]at a;obtain⟨k,hk,h⟩:=wL.1 a;have f:k<x.1.data.size:=by simpa using hk
 have:=h1.2 k (tO.2 f);unfold NV at this;have b:x.1.data.getD k 0=38:=by simp_all
 rw[b]at this;revert this;decide
theorem vT (h:BB d=0) {y:AR} (U:y∈AL d) (hf:Iu (A0 (AZ d))) (hs:s∈AO d) (e:AK y.1 s=true):y.2=Ec d (AO d) s:=by
 obtain⟨ag,aa,-,hn,ae⟩:=A2 h;have o:=Sf h;have K:Nd (A0 (AZ d)):=Td (RQ h);have ad:(AZ d).length=(AO d).length:=by simp[AZ]
 have L:AZ d <+: A0 (AZ d):=Pz 257 0 (AZ d);have T:∀ {t:ByteArray},t∈AO d->AK t s=true->t=s:=λ{t} ht e=>by grind [DR,Pq]
 have heq:∀j,j<(AO d).length->∀b∈A0 (AZ d),DH ((AZ d).getD j []) b=true->b=Ec d (AO d) ((AO d).getD j ByteArray.empty):=λj Q b f p=>by
  have g:(AZ d).getD j []∈A0 (AZ d):=L.subset (Ac O1);unfold DH at p;rw[AT,FM (hf.wds _ g) (hf.wds b f),FM (hf.wds b f) (hf.wds _ g)]at p;rw[<-It d Q];refine l0 (hf.wds b f) (hf.wds _ g) (K.nrm b f) (K.nrm _ g) λi=>?_;rw[AC1];exact⟨p.2 i,p.1 i⟩
 obtain⟨b,f,rfl⟩:=DS.1 U;show b=_;have e:AK (Gj d (AO d) (AZ d) b) s=true:=e;unfold Gj at e;cases w:pH d (AO d) (AZ d) b (AO d).length 0 [] with
 | inl u =>
  rw[w]at e;obtain⟨j,-,B,W,rfl⟩:=qQ w;rw[AB6]at B;rw[<-T (Ac B) e];exact heq j B b f W
 | inr l =>
  exfalso;rw[w]at e;have e:AK (eX (A8 d l)) s=true:=e;obtain⟨N,C⟩:=qR w;rw[jA]at C;have M:=hf.wds b f;have v:∀i,i<(AO d).length->BI b i=true->(AO d).getD i ByteArray.empty∈l:=λi hi ab=>by grind [Tn]
  have J:∀t∈l,∃i,i<(AO d).length/\t=(AO d).getD i ByteArray.empty/\BI b i=true:=λt ht=>by grind [Tn]
  have S:(List.range' 0 (AO d).length).map (λj=>(AO d).getD j ByteArray.empty)=AO d:=by
   apply AAJ
   .simp
   intro i ah V;simp[AS,V]
  have D:pU l:=by
   rw[C];have:=Vj hn;rw[<-S]at this;exact this.sublist (List.filter_sublist.map _)
  obtain⟨x,r⟩:=hf.some b f;have A:∀i,BI b i=true->i<(AO d).length:=by
   have:=aL (q:=(AO d).length) (n:=257) (i:=0) (l:=AZ d) (λc P=>by
    obtain⟨t,ht,rfl⟩:=Do.1 P;exact⟨(CA (d:=d) o t 0).2.1,λi hi=>((CA (d:=d) o t i).1.1 hi).1⟩) b f
   exact this.2
  have E:∀t∈l,0<=Av d t:=λt ht=>by
   obtain⟨i,hi,rfl,-⟩:=J t ht;exact Kp (Ac hi)
  obtain⟨m,g,-⟩:=Rm h D (v x (A x r) r) (E _ (v x (A x r) r));have af:0<(A8 d l).length:=ACp g;have R:eX (A8 d l)=Ps (A8 d l) (A8 d l).length:=rfl;rw[R]at e;by_cases h1:(A8 d l).length=1
  .obtain⟨k,G,rfl,O⟩:=J m (HS g);have F:DH ((AZ d).getD k []) b=true:=by
    have I:(AZ d).getD k []∈A0 (AZ d):=L.subset (Ac O1);unfold DH;rw[AT,FM (hf.wds _ I) M,FM M (hf.wds _ I),It d G];refine⟨λi hi=>?_,λi hi=>?_⟩
    .obtain⟨Y,Z⟩:=(CA (d:=d) o _ i).1.1 hi;exact(A83 h b f).2 k i O Y (WU Z)
    have z:=A i hi;obtain⟨X,H,hu⟩:=Rm h D (v i z hi) (E _ (v i z hi));have:X=(AO d).getD k ByteArray.empty:=by
     obtain⟨a,ha⟩:=ABg.1 h1;rw[ha]at g H;rw[iS.1 H,iS.1 g]
    rw[this]at hu;exact(CA (d:=d) o _ i).1.2 ⟨z,WV (Kp (Ac G)) hu⟩
   rw[N k (GO _) O1]at F;cases F
  grind [vS,A8,Eq,mW]
theorem Yp (s:ByteArray):∀(l:List AR) (k:Nat),0<=KX s k l->∃j,j<l.length/\KX s k l=((k+j:Nat):Int)/\AK (l.getD j c0).1 s=true
 | [],k,h=>by simp only[KX]at h;omega
 | x :: l,k,h=>by
  simp only[KX]at h ⊢;split
  .grind
  rename_i e;rw[An e]at h;obtain⟨j,c,a,b⟩:=Yp s l (k+1) h;exact⟨j+1,by simp only[Is];omega,by rw[a];congr 1;omega,by simpa using b⟩
theorem A1K (a:BB d=0) (hf:Iu (A0 (AZ d))) (hs:s∈AO d):((AL d).getD (BN (AL d) s).toNat c0).2=Ec d (AO d) s:=by
 have h0:0<=BN (AL d) s:=Gk a (FZ hs);grind [Yp,AL,BN,vT,Ac]
theorem Yq {s:ByteArray} (hn:Cm d=0):∀ {r:List AI} {o:List ByteArray} {x:AI},(∀y∈r,y∈d)->x∈d->((∃z∈o,AK z x.1=true)\/(x∈r/\(DA x s).2=true))->∃z∈r.foldl (HC s) o,AK z x.1=true
 | [],o,x,_,_,h=>h.resolve_right λg=>by cases g.1
 | y :: r,o,x,f,i,h=>by
  rw[ON];refine Yq hn (λz c=>f z (by simp[c])) i ?_;rcases h with ⟨z,c,e⟩|⟨a,b⟩
  .grind [HC,Jo]
  rcases By.1 a with rfl|a
  .left;unfold HC;rw[At b];exact bY.1 (MG (l:=o) (s:=x.1))
  exact .inr ⟨a,b⟩
theorem Yr (f:Int):∀(a b:List (Int×Int)),D6 f (a++b)=if (D6 f a).2=true then D6 f a else D6 f b
 | [],_=>rfl
 | x :: a,b=>by
  have h1:D6 f (x :: a++b)=if x.1=f then (x.2,true) else D6 f (a++b):=rfl
  have c:D6 f (x :: a)=if x.1=f then (x.2,true) else D6 f a:=rfl
  rw[h1,c];split
  .rfl
  exact Yr f a b
theorem qT (l:List AR) (fs:List ByteArray) (t:Nat) (f:Int):∀n,D6 f (Sy d l fs t n)=if 0<=f/\f<(n:Int)/\(FL d l (t:Int) (fs.getD f.toNat ByteArray.empty)).2=true then (G3 l (FL d l (t:Int) (fs.getD f.toNat ByteArray.empty)).1,true) else (0,false)
 | 0=>by
  rw[An O1];rfl
 | n+1=>by
  rw[YG,Yr,qT l fs t f n];grind [FL,D6]
theorem WW (c:Aq d=0) {t f:Int} (e:0<=t) (g:t<((AL d).length:Int)) (a:0<=f) (b:f<((BM d).length:Int)):CL (Bn d) t f=if (FL d (AL d) t ((BM d).getD f.toNat ByteArray.empty)).2=true then (G3 (AL d) (FL d (AL d) t ((BM d).getD f.toNat ByteArray.empty)).1,true) else (0,false):=by
 unfold CL;grind [A1C,qT,FL,AL,BM]
theorem A4Y (c:Aq d=0) {f:Int} (a:0<=f) (b:f<((BM d).length:Int)):LF (Bn d) f=BN (AL d) (DT d ((BM d).getD f.toNat ByteArray.empty)).1:=by grind [LF,MY,BM,MJ]
theorem A9V (b:Aq d=0):HAp (Bn d):=by
 obtain⟨j,-,T,F,-⟩:=WP b;obtain⟨u,-,-⟩:=CE b;obtain⟨-,U,-⟩:=Bd u;have al:=Vf j U;obtain⟨ao,ak,-,hn,am⟩:=A2 j;obtain⟨hk,an⟩:=A6h b;have I:=Pv j T;have n:=WO d;have hF:(Bn d).2.length=(BM d).length:=by rw[MY b,On]
 have E:∀s∈AO d,Be (Bn d) (BN (AL d) s)=Ec d (AO d) s:=λs hs=>by grind [NA,Gk,FZ,IA,A1K]
 refine⟨λt f g l k c=>?_,λt w f g l A ai k c X q=>?_⟩
 .rw[n]at l;rw[hF]at c;have hs:=Ac (d:=ByteArray.empty) (show f.toNat<(BM d).length by omega);rw[WW b g l k c,A4Y b k c];generalize (BM d).getD f.toNat ByteArray.empty=s at *;obtain⟨v,-⟩:=QN b g l hs;obtain⟨aj,aa,S,Y⟩:=WR (F s hs);have hi:(if (FL d (AL d) t s).2=true then (G3 (AL d) (FL d (AL d) t s).1,true) else ((0:Int),false)).2=true↔(FL d (AL d) t s).2=true:=by
   split<;>simp[*]
  rw[hi,v];constructor
  .rintro⟨x,a,Z,W⟩;have hint:=F s hs;unfold DT at hint ⊢;split at hint
   .rename_i h1;rw[At h1];obtain⟨ap,V⟩:=ABg.1 h1;obtain⟨z,u,C⟩:=Yq (d:=d) (s:=s) hn (r:=d) (o:=[]) (λy ad=>ad) a (.inr ⟨a,Z⟩);have ae:0<=Av d z:=by rw[Iq d C];exact DQ a
    obtain⟨m,p,hu⟩:=Rm j (vR hn s) u ae;have hu:=WT hu C;have e:(A8 d (FK d s)).getD 0 ByteArray.empty=m:=by
     rw[V]at p ⊢;rw[iS.1 p];rfl
    rw[show ((A8 d (FK d s)).getD 0 ByteArray.empty,true).1=m from e];obtain⟨ar,K,B,-⟩:=(Rj (HS p)).resolve_left sc;have H:m∈AO d:=by rw[<-B];exact QT K hn
    have ab:=QT a hn;obtain⟨n0,n1⟩:=Tp I a;have L:0<=BN (AL d) m:=Gk j (FZ H);have aq:=IA (AL d) m;refine HT hk L O1 n0 O1 g O1 ((B0 hk L O1 n0 O1).2 λi hi=>?_) W;unfold Tb2 at hi ⊢;rw[E x.1 ab]at hi;rw[E m H];exact A4U j (by rw[<-B];exact DQ K) hu hi
   cases hint
  intro h;rw[<-S]at h;exact⟨aj,aa,Y,h⟩
 have M:t<((AL d).length:Int):=by omega
 have N:w<((AL d).length:Int):=by omega
 rw[hF]at c;have hs:=Ac (d:=ByteArray.empty) (show f.toNat<(BM d).length by omega);rw[WW b g M k c]at q ⊢;rw[WW b A N k c];generalize (BM d).getD f.toNat ByteArray.empty=s at *;obtain⟨v,af⟩:=QN b g M hs;obtain⟨ag,ah⟩:=QN b A N hs;have hi:(FL d (AL d) t s).2=true:=by
  split at q
  .assumption
  cases q
 have J:∀x∈d,UsD d t s x->UsD d w s x:=λx a hu=>by
  obtain⟨n0,n1⟩:=Tp I a;exact⟨hu.1,HT hk n0 O1 g l A ai hu.2 X⟩
 have G:(FL d (AL d) w s).2=true:=by
  obtain⟨x,a,hu⟩:=v.1 hi;exact ag.2 ⟨x,a,J x a hu⟩
 rw[At hi,At G];obtain⟨⟨O,P⟩,Q⟩:=af hi;obtain⟨⟨R,b1⟩,b2⟩:=ah G;refine(B0 hk O (by rw[n];exact P) R (by rw[n];exact b1)).2 λi D=>?_;unfold Tb2 at D ⊢;exact(Q i).2 λx a hu=>(b2 i).1 D x a (J x a hu)
theorem mX (d:List AI):HAp (Ad d).1:=by
 by_cases a:Aq d=0
 .rw[Ko a];exact A9V a
 have:(Ad d).1=([],[]):=by
  unfold Ad A9;rw[At a,At a]
 rw[this];exact⟨λt f c b=>by simp at b;omega,λt e f c b=>by simp at b;omega⟩
end
theorem MZ (d:List AI):(Ad d).1.1.length<=256/\(Ad d).1.2.length<=64:=by
 unfold Ad;split
 .exact⟨sc,sc⟩
 rename_i a;have a:(A9 d).2=0:=DO a;have b:Aq d=0:=by
  unfold A9 at a;split at a
  .rename_i h;exact absurd a h
  rename_i h;exact DO h
 obtain⟨f,c,-⟩:=CE b;obtain⟨-,e,-⟩:=Bd f;refine⟨?_,?_⟩
 .show (EO _ _ _).length<=256;rw[Jr,H9];exact e
 show (DD d).1.length<=64;unfold DD;rw[An (by rw[b];simp)];show ((BM d).map (MJ d)).length<=64;rw[On];exact c
structure H14 (h:AE):Prop where
 ok:GV h
 inj:JL h
 ft:bT h
 nrm:A7W h
 ap:HAp h
 b1:h.1.length<=256
 b2:h.2.length<=64
theorem WX (d:List AI):H14 (Ad d).1:=⟨Gn d,SZ d,mT d,λt ht=>(WN d).nrm _ (Do.2 ⟨t,ht,rfl⟩),mX d,(MZ d).1,(MZ d).2⟩
theorem h14 (d:List AI):H14 (M5 d):=by
 unfold M5;split
 .exact WX d
 exact WX Bq
theorem Rn {ty:List Int} {x:AD} (b:x∈Ex f ty):∃i,i<f.length/\x=(ty.getD i 0,(f.getD i (0,[])).2):=by
 obtain⟨i,hi,rfl⟩:=List.getElem_of_mem b;have a:i<f.length:=by rw[Dh]at hi;exact hi
 refine⟨i,a,?_⟩;rw[<-Hj f ty a,AS,As hi];rfl
theorem Jy {α:Type} {f:List α} {i:Nat} (h:i<f.length) (d:α):f.getD i d∈f:=by
 rw[AS,As h];exact AAd _
def WY (p:List Int) (n:Nat):List AD:=(List.range n).map λ(i:Nat)=>((0:Int),[(p.getD i 0,(i:Int)+1)])
def CC (p:List Int) (g:List AD):List AD:=WY p p.length++g.map λx=>(x.1,Dx p.length x.2)
theorem Oh (p:List Int) (n:Nat):(WY p n).length=n:=by simp[WY]
def FtP (h:AE) (p:List Int):Prop:=∀e∈p,0<=e/\e<(h.2.length:Int)
theorem VF.srt (hu:HU h) (a:VF h f):JM f:=λx b=>by
 have:=A1v (a.str x b) (a.ft64 hu x b);exact⟨(QC _).2 (a.str x b),O1⟩
theorem aO (a b:List AD):(∃U,mO h a b U/\Kn h a b=(U,true))\/(Kn h a b=([],false)/\∀U,¬mO h a b U):=by
 unfold Kn;by_cases H:∃U,mO h a b U
 .left;rw[dif_pos H];exact⟨_,H.choose_spec,rfl⟩
 right;rw[dif_neg H];exact⟨rfl,λU c=>H ⟨U,c⟩⟩
theorem X1 (f:List AD) (ty:List Int) (n:Nat):((Ex f ty).getD n (0,[])).2=(f.getD n (0,[])).2:=by
 by_cases h:n<f.length
 .rw[Hj f ty h]
 rw[AS,oN (by rw[Dh];omega),AS,oN O1]
theorem gZ {f g:List AD} (h:∀n:Nat,(f.getD n (0,[])).2=(g.getD n (0,[])).2):∀(k:Nat) (o:List Int) (n:Int),Dn f k o n=Dn g k o n
 | 0,_,_=>rfl
 | k+1,o,n=>by
  have e:BA f k=BA g k:=by
   funext o a;unfold BA;rw[gZ h k o a.2]
  rw[Ca,Ca,h,e]
theorem mY (hf:AX f) (h0:0<f.length) (a:AN f 0=f):gQ f:=by
 have:=(aG hf (r:=0) O1 O1).2
 rwa [a]at this
theorem A1L (b:VF h f) {ty:List Int} (ht:Tq h f.length ty):VF h (Ex f ty):=by
 have c:=Dh f ty;have g:AX (Ex f ty):=by
  refine⟨by rw[c];exact b.good.1,λx a=>?_⟩;obtain⟨i,hi,rfl⟩:=Rn a;rw[c];exact b.good.2 (f.getD i (0,[])) (Jy hi (0,[]))
 have k:∀x∈Ex f ty,∃y∈f,x.2=y.2:=λx a=>by
  obtain⟨i,hi,rfl⟩:=Rn a;exact⟨_,Jy hi (0,[]),rfl⟩
 refine⟨g,by rw[c];exact b.pos,λx a=>?_,λx a=>?_,λx a=>?_,WH g ?_,λi l m=>?_⟩
 .obtain⟨i,hi,rfl⟩:=Rn a;exact ht.get hi
 .obtain⟨y,d,e⟩:=k x a;rw[e];exact b.str y d
 .obtain⟨y,d,e⟩:=k x a;rw[e];exact b.ft y d
 .have:=mY b.good b.pos b.can;unfold gQ at this ⊢;rw[c,gZ (X1 f ty)];exact this
 obtain⟨j,n,o,x,a,e⟩:=b.ro i l (by rw[<-c];exact m);exact⟨j,n,o,x,by show x∈((Ex f ty).getD j.toNat (0,[])).2;rw[X1];exact a,e⟩
theorem Dy (f:List AD) (i:Nat):(Bj f).getD i 0=(f.getD i (0,[])).1:=by
 unfold Bj;rw[AS,AAV,AS];cases f[i]?<;>rfl
theorem mZ {ty:List Int} (a:ty.length=f.length):Bj (Ex f ty)=ty:=by
 refine AAJ (by simp[Bj,Dh,a]) λi b c=>?_;have:=Dy (Ex f ty) i;rw[Hj f ty O1]at this;simpa[AS,b,c] using this
theorem Sg {h:AE} {f:List AD} {t:Int}:∀ {l:List (Int×Int)},GQ h f t l=0↔∀a∈l,(CL h t a.1).2=true/\Ai h (CL h t a.1).1 (f.getD a.2.toNat (0,[])).1=true
 | []=>⟨λ_ a ha=>(by cases ha),λ_=>rfl⟩
 | a :: l=>by
  unfold GQ;rw[List.forall_mem_cons,<-Sg (l:=l)];cases h1:(CL h t a.1).2
  .simp
  cases b:Ai h (CL h t a.1).1 (f.getD a.2.toNat (0,[])).1<;>simp
theorem Nh {h:AE} {f:List AD}:∀ {l:List AD},FB h f l=0↔∀x∈l,∀a∈x.2,(CL h x.1 a.1).2=true/\Ai h (CL h x.1 a.1).1 (f.getD a.2.toNat (0,[])).1=true
 | []=>⟨λ_ a ha=>(by cases ha),λ_=>rfl⟩
 | x :: l=>by
  unfold FB;rw[List.forall_mem_cons,<-Nh (l:=l),<-Sg];by_cases h1:GQ h f x.1 x.2=0
  .simp[h1]
  simp[h1]
theorem A50:FB h f f=0↔WTy h f (Bj f):=by
 rw[Nh];constructor
 .intro h1 i hi a ha;have:=h1 _ (Jy hi (0,[])) a ha
  rwa [Dy,Dy,oF]
 intro h1 x b a ha;obtain⟨i,hi,rfl⟩:=CK (0,[]) b;have:=h1 i hi a ha
 rwa [Dy,Dy,oF]at this
theorem g8 {n:Int}:∀ {l seen:List (Int×Int)},(∀a∈l,0<=a.1/\0<=a.2/\a.2<n)->(l.map (·.1)).Nodup->(∀y∈seen,∀x∈l,y.1≠x.1)->Gu n seen l=0
 | [],_,_,_,_=>rfl
 | x :: l,seen,h,c,hs=>by
  rw[oR,AAF]at c;have h1:=h x sc;have f:(seen.any λy=>y.1==x.1)=false:=by
   rw[AD1];intro y b;have:=hs y b x sc;simpa using this
  unfold Gu;rw[An O1,An (by rw[f];simp)];refine g8 (λa ha=>h a (by simp[ha])) c.2 λy b z d=>?_;rcases IN.1 b with b|b
  .exact hs y b z (by simp[d])
  rw[iS.1 b];exact λe=>c.1 (Do.2 ⟨z,d,e.symm⟩)
theorem A1M {m:Int} (hs:(l.map (·.1)).Nodup) (h:∀a∈l,0<=a.1/\0<=a.2/\a.2<m):HE l m=0:=g8 h hs λy b=>by cases b
theorem g9 {m:Int}:∀ {l:List AD},(∀x∈l,0<=x.1/\HE x.2 m=0)->Gv m l=0
 | [],_=>rfl
 | x :: l,h=>by
  have:=h x sc;unfold Gv;rw[An O1,An (by rw[this.2];simp)];exact g9 λy a=>h y (by simp[a])
section
variable {h:AE} (hh:H14 h)
include hh
theorem H14.hu:HU h:=⟨hh.ok,hh.inj,hh.b2⟩
omit hh in
theorem aP {f:List AD} (b:VF h f):Oa h f:=λx c a ha=>⟨b.ft x c a ha,(b.good.2 x c).2 a ha⟩
theorem hJ (a:VF h f) {ty:List Int} (e:IJ h f=some ty):VF h (Ex f ty)/\WTy h f ty/\Tq h f.length ty/\S1 h f (Ex f ty) id:=by
 obtain⟨h1,g,d⟩:=mV hh.ok hh.inj hh.ft hh.ap (aP a) a.ty e;refine⟨A1L a d,h1,d,rfl,λi b c=>⟨b,by rw[Dh];exact c⟩,λi b c=>?_,λi b c x j=>?_⟩
 .have:=g i.toNat O1;rw[Dy]at this;show Ai h _ ((Ex f ty).getD i.toNat (0,[])).1=true
  rwa [Hj f ty O1]
 show BT ((Ex f ty).getD i.toNat (0,[])).2 x.1=x.2;rw[X1];exact A7Q (a.srt hh.hu) j
theorem qU (n:VF h f) (p:VF h g) (D:WTy h g (Bj g)) (c:S1 h f g m):∃ty,IJ h f=some ty/\S1 h (Ex f ty) g m:=by
 have G:=p.pos
 let u:List Int:=(List.range f.length).map λi:Nat=>(g.getD (m (i:Int)).toNat (0,[])).1
 have k:∀i:Nat,i<f.length->u.getD i 0=(g.getD (m (i:Int)).toNat (0,[])).1:=λi hi=>by
  simp[u,AS,hi]
 have q:∀i:Nat,i<f.length->(m (i:Int)).toNat<g.length/\0<=m (i:Int):=λi hi=>by
  have:=c.rng (i:Int) O1 O1;omega
 have C:Tq h f.length u:=⟨by simp[u],λt ht=>by
  obtain⟨i,hi,rfl⟩:=Do.1 ht;exact p.ty _ (Jy (q i (tO.1 hi)).1 (0,[]))⟩
 have E:WTy h f u:=λi hi a ha=>by
  have z:a∈Ak f (i:Int):=by show a∈(f.getD (i:Int).toNat (0,[])).2;rwa [oF]
  have h1:=c.arc (i:Int) O1 O1 a z;obtain⟨s,F⟩:=(n.good.2 _ (Jy hi (0,[]))).2 a ha;have y:=c.rng a.2 s F;obtain⟨b,A,v,w⟩:=gL (l:=Ak g (m (i:Int))) (e:=a.1) (by rw[h1];exact y.1);have o:=D _ (q i hi).1 b (by exact A);rw[Dy,Dy,v,w,h1,oF]at o;rw[oF,k i hi,k a.2.toNat O1,ABq s];exact o
 obtain⟨ty,e,B⟩:=gY hh.ok hh.inj hh.ft hh.ap (aP n) n.ty C E λi hi=>by
  rw[Dy,k i hi];have:=c.ty (i:Int) O1 O1
  rwa [oF]at this
 refine⟨ty,e,c.zero,λi j d=>c.rng i j (by rw[Dh]at d;exact d),λi j d=>?_,λi j d x r=>?_⟩
 .rw[Dh]at d;have:=B i.toNat O1;rw[k _ O1,ABq j]at this
  rwa [Hj f ty O1]
 rw[Dh]at d;exact c.arc i j d x (by rw[Ak,X1]at r;exact r)
omit hh in
theorem vU {f:List AD} (e:HV h f=0):WTy h f (Bj f):=by
 unfold HV at e
 split at e
 .exact A50.1 e
 rename_i hn;exact absurd e hn
end
theorem Sh {ty:List Int} (e:IJ h f=some ty):EJ h f=(Ex f ty,true):=by unfold EJ;rw[e]
theorem Si (e:IJ h f=none):EJ h f=([],false):=by unfold EJ;rw[e]
theorem Tq.set {m:Nat} {u:List Int} (hu:Tq h m u) {t:Int} (b:0<=t) (c:t<(h.1.length:Int)) (i:Nat):Tq h m (u.set i t):=⟨by rw[AAp];exact hu.1,λx a=>by
 rcases AB2 a with a|rfl
 .exact hu.2 x a
 exact⟨b,c⟩⟩
theorem Qj.set (hk:GV h) {m:Nat} {u:List Int} (hu:Tq h m u) {t:Int} {i:Nat} (hi:i<m) (hs:Ai h (u.getD i 0) t=true):Qj h m u (u.set i t):=λk a=>by
 rw[M7 _ _ _ (by rw[hu.1];exact hi) k];split
 .rename_i e;rw[e];exact hs
 exact Th hk (hu.get a).1 (hu.get a).2
section
variable {h:AE} (hk:GV h) (hn:A7W h) (hi:JL h) (hf:bT h) (hap:HAp h) {m:Nat}
include hk hn hi hf hap
end
section
variable {h:AE} (hk:GV h) (hn:A7W h) (hi:JL h) (hf:bT h) (hap:HAp h) {f:List AD} (ha:Oa h f)
include hk hn hi hf hap ha
end
section
attribute [local go_sem] WC
theorem A84 (hh:H14 h) (a:VF h f):A1g h f:=⟨hh.ok,hh.inj,hh.ft,aS hh.b2 df,a.good,aP a,a.ty⟩
noncomputable def aQ (h:AE) (a b:List AD):List AD×Bool:=if (Kn h a b).2=true then EJ h (Kn h a b).1 else ([],false)
end
theorem A1N (hk:GV h) {N:List AD} {P:List (Int×Int)}:∀(k:Nat) (p ty:List Int) (ar:List (List (Int×Int))) (W:List (Int×Int)),JI h N P p ty ar W->nR p*((Km N).length+1)+W.length<=k ->
  (∃E G o,JI h N P E G o [])\/(∀X v,DU h X->¬vI h N P X v):=by
 intro k;induction k with
 | zero =>
  intro p ty ar W c g;have:W=[]:=AAc O1;subst this;exact .inl ⟨p,ty,ar,c⟩
 | succ k l =>
  intro p ty ar W c g;cases j:W.getLast? with
  | none =>
   have:W=[]:=List.getLast?_eq_none_iff.1 j;subst this;exact .inl ⟨p,ty,ar,c⟩
  | some w =>
   have r:W=W.dropLast++[w]:=by
    obtain⟨K,e⟩:=List.getLast?_eq_some_iff.1 j;rw[e];simp
   obtain⟨s,t⟩:=w;rw[r]at c g;rw[IS,nO]at g;generalize W.dropLast=V at *;obtain⟨⟨m,s1⟩,n,F⟩:=c.wr (s,t) sc;simp only at m s1 n F;obtain⟨M,fo⟩:=c.fo;have lp:=c.lp;obtain⟨a,ha,H,I⟩:=fo.root m O1;obtain⟨b,d,q,b1⟩:=fo.root n O1;by_cases f:a=b
   .subst f;exact l p ty ar V (A4K c ha d) O1
   cases i:(Cs h (ty.getD a.toNat 0) (ty.getD b.toNat 0)).2 with
   | false =>
    right;intro X v u C;have:=(qC hk c ha d u C).2.1;rw[i]at this;cases this
   | true =>
    have z:=A1n hk c ha d f i;refine l _ _ _ _ z ?_;have B:=A4L (a:=a) q b1 d.root f;have A:=qD (c.srt a.toNat) (λx D=>(c.arr a.toNat x D).2);have L:=aS (Tj (x:=ar.getD a.toNat []) (y:=ar.getD b.toNat [])) A;have J:nR p*((Km N).length+1)=nR (p.set b.toNat a)*((Km N).length+1)+((Km N).length+1):=by rw[<-B,ACt,Nat.one_mul]
    rw[IS];omega
theorem Ys {h:AE} (hk:GV h) {N:List AD}:∀(R P:List (Int×Int)) (p ty:List Int) (ar:List (List (Int×Int))),(∀q∈R,(0<=q.1/\q.1<(N.length:Int))/\(0<=q.2/\q.2<(N.length:Int)))->JI h N P p ty ar [] ->
  (∃l r g,JI h N (P++R) l r g [])\/(∀X v,DU h X->¬vI h N (P++R) X v)
 | [],P,p,ty,ar,f,e=>.inl ⟨p,ty,ar,by rw[AAu];exact e⟩
 | q :: R,P,p,ty,ar,f,e=>by
  obtain⟨a,b⟩:=q;have c:=f (a,b) sc;have i:P++(a,b) :: R=P++[(a,b)]++R:=by simp
  rw[i];rcases A1N hk _ _ _ _ _ (A1o e c.1 c.2) (OS _) with ⟨m,o,n,h1⟩|k
  .exact Ys hk R (P++[(a,b)]) m o n (λq c=>f q (by simp[c])) h1
  exact .inr λX v j d=>k X v j ⟨d.rng,d.ty,d.arc,λq c=>d.eq q (AAb _ c)⟩
theorem A51 (hu:HU h) {a b X:List AD} (va:VF h a) (c:VF h b) (k:a.length+b.length<=100000) (i:DU h X) {n:Int->Int} (h1:S1 h a X m) (f:S1 h b X n):∃U,mO h a b U:=by
 have o:=Hk a b;have hap:=va.pos;have r:=c.pos;have j:=mP va.good c.good k;rcases Ys hu.ok (N:=Ey a b) [(0,(a.length:Int))] [] _ _ _ (λq d=>by
  have e:q=(0,(a.length:Int)):=by simpa using d
  subst e;simp only;omega) (A4N j (A1t va.ty c.ty) (vM va.str c.str)) with ⟨p,ty,ar,g⟩|l
 .exact⟨_,A4M va c g (A1w g O1 (A1u (va.ft64 hu) (c.ft64 hu)))⟩
 exfalso;refine l X _ i (A1q (gP va.good c.good (Tm h1) (Tm f)) λq d=>?_);have e:q=(0,(a.length:Int)):=by simpa using d
 subst e;try simp only
 rw[At O1,An O1,Int.sub_self,h1.zero,f.zero]
abbrev Wt (h:AE) (f:List AD):Prop:=VF h f/\WTy h f (Bj f)
def qV (h:AE) (l:List (List AD)) (X:List AD):Prop:=∀x∈l,∃m,S1 h x X m
structure TU (h:AE) (l:List (List AD)) (U:List AD):Prop where
 wt:Wt h U
 hom:qV h l U
 least:∀X,Wt h X->qV h l X->∃m,S1 h U X m
def Ma (h:AE) (l:List (List AD)) (r:List AD×Bool):Prop:=(r.2=true/\TU h l r.1)\/(r=([],false)/\∀X,Wt h X->¬qV h l X)
theorem Ma.congr {l l':List (List AD)} {r:List AD×Bool} (H:Ma h l r) (d:∀X,Wt h X->(qV h l X↔qV h l' X)):Ma h l' r:=by
 rcases H with ⟨h1,a⟩|⟨h1,a⟩
 .exact .inl ⟨h1,a.wt,(d _ a.wt).1 a.hom,λX b c=>a.least X b ((d X b).2 c)⟩
 exact .inr ⟨h1,λX b c=>a X b ((d X b).2 c)⟩
theorem A1O (hk:GV h) {l:List (List AD)} (b:∀x∈l,VF h x) {U X:List AD} (c:VF h U) (d:VF h X) (e:qV h l U) (f:S1 h U X m):qV h l X:=λx a=>by
 obtain⟨k,q⟩:=e x a;exact⟨_,WI hk (b x a).good (b x a).ty c.ty d.ty q f⟩
theorem HX {x X:List AD}:qV h [x] X↔∃m,S1 h x X m:=by simp[qV]
theorem WZ {x X:List AD} {l:List (List AD)}:qV h (x :: l) X↔(∃m,S1 h x X m)/\qV h l X:=by simp[qV]
section
variable {h:AE} (hh:H14 h)
include hh
theorem A85 (c:VF h f) {ty:List Int} (e:IJ h f=some ty):Wt h (Ex f ty):=by
 obtain⟨h1,a,b,-⟩:=hJ hh c e;refine⟨h1,?_⟩;rw[mZ b.1];intro i hi;rw[X1];exact a i (by rw[<-Dh f ty];exact hi)
theorem A52 (c:VF h f):Ma h [f] (EJ h f):=by
 cases e:IJ h f with
 | some ty =>
  rw[Sh e];refine .inl ⟨rfl,A85 hh c e,HX.2 ⟨_,(hJ hh c e).2.2.2⟩,λX b d=>?_⟩;obtain⟨m,g⟩:=HX.1 d;obtain⟨i,a,q⟩:=qU hh c b.1 b.2 g;rw[e]at a;cases a;exact⟨m,q⟩
 | none =>
  rw[Si e];refine .inr ⟨rfl,λX b d=>?_⟩;obtain⟨m,g⟩:=HX.1 d;obtain⟨i,a,q⟩:=qU hh c b.1 b.2 g;rw[e]at a;cases a
theorem A53 {a b:List AD} (va:VF h a) (k:VF h b) (p:a.length+b.length<=10000):Ma h [a,b] (aQ h a b):=by
 unfold aQ;rcases aO (h:=h) a b with ⟨U,c,e⟩|⟨e,o⟩
 .rw[e,At rfl];refine(A52 hh c.vf).congr λX g=>?_;rw[HX,WZ,HX];constructor
  .rintro⟨m,n⟩;obtain⟨i,d⟩:=c.left;obtain⟨j,f⟩:=c.right;exact⟨⟨_,WI hh.ok va.good va.ty c.vf.ty g.1.ty d n⟩,_,WI hh.ok k.good k.ty c.vf.ty g.1.ty f n⟩
  rintro⟨⟨i,d⟩,j,f⟩;exact c.least X g.1.ty i d j f
 rw[e,An Bool.false_ne_true];refine .inr ⟨rfl,λX g l=>?_⟩;rw[WZ,HX]at l;obtain⟨⟨i,d⟩,j,f⟩:=l;obtain⟨U,c⟩:=A51 hh.hu va k O1 g.1.ty d f;exact o U c
omit hh in
theorem A1P {l l':List (List AD)} (c:∀x,x∈l↔x∈l') (X:List AD):qV h l X↔qV h l' X:=⟨λa x b=>a x ((c x).2 b),λa x b=>a x ((c x).1 b)⟩
omit hh in
theorem Ma.perm {l l':List (List AD)} {r:List AD×Bool} (H:Ma h l r) (a:∀x,x∈l↔x∈l'):Ma h l' r:=H.congr λX _=>A1P a X
omit hh in
theorem qW {a b:List AD}:(aQ h a b).1.length<=a.length+b.length:=by
 unfold aQ
 split
 .rename_i e
  have:=(gS e).len
  cases ht:IJ h (Kn h a b).1 with
  | none=>rw[Si ht];simp
  | some ty=>rw[Sh ht,Dh];exact this
 simp
omit hh in
theorem Ma.vf {l:List (List AD)} {r:List AD×Bool} (H:Ma h l r) (e:r.2=true):TU h l r.1:=by
 rcases H with ⟨-,b⟩|⟨a,-⟩
 .exact b
 rw[a]at e;cases e
end
theorem Kq (p:List Int) (g:List AD):(CC p g).length=p.length+g.length:=by simp[CC,WY]
theorem Sj {g:List AD} {i:Int} (a:0<=i) (b:i<(p.length:Int)):(CC p g).getD i.toNat (0,[])=(0,[(p.getD i.toNat 0,i+1)]):=by grind [CC,Oh,WY]
theorem QU {g:List AD} {y:Int} (a:0<=y) (b:y<(g.length:Int)):(CC p g).getD ((p.length:Int)+y).toNat (0,[])=((g.getD y.toNat (0,[])).1,Dx p.length (g.getD y.toNat (0,[])).2):=by
 unfold CC;have e:((p.length:Int)+y).toNat=p.length+y.toNat:=by omega
 rw[e,AS,AAi (by rw[Oh];omega),Oh,ACk];rw[<-AS];exact Ye (λx:AD=>(x.1,Dx p.length x.2)) (0,[]) (0,[]) O1
theorem Kr {g:List AD} {x:AD} (a:x∈CC p g):(∃i,i<p.length/\x=(0,[(p.getD i 0,(i:Int)+1)]))\/∃y∈g,x=(y.1,Dx p.length y.2):=by
 rcases IN.1 a with h|h
 .obtain⟨i,hi,rfl⟩:=Do.1 h;exact .inl ⟨i,by simpa using hi,rfl⟩
 obtain⟨y,b,rfl⟩:=Do.1 h;exact .inr ⟨y,b,rfl⟩
theorem m3 {b:Nat} (h:Wz l):Wz (Dx b l):=by
 unfold Dx Wz;rw[AAI];exact h
theorem Sk {g:List AD} (l:p.length<=1000) (c:AX g) (j:0<g.length) (k:g.length<=10000):AX (CC p g):=by
 have d:=Kq p g;refine⟨O1,λx h=>?_⟩;rcases Kr h with ⟨i,hi,rfl⟩|⟨y,e,rfl⟩
 .refine⟨sc,λa ha=>?_⟩;have:a=(p.getD i 0,(i:Int)+1):=by simpa using ha
  subst this;rw[d];simp only;omega
 refine⟨by unfold Dx;rw[On];exact(c.2 y e).1,λa ha=>?_⟩;obtain⟨b,f,rfl⟩:=Do.1 ha;have:=(c.2 y e).2 b f;rw[d];simp only;omega
theorem vV (vf:VF h f):Dn f f.length [] 0=(List.range f.length).map λ(i:Nat)=>(i:Int):=by
 have q:=vf.pos;have d:=Iy vf.good (r:=0) O1 O1;have l:=Jw f 0;have c:=λi=>Jv (f:=f) (r:=0) (i:=i);rw[vf.can]at l;simp only[vf.can]at c;generalize p:Dn f f.length [] 0=o at *;have m:S1 h f f (λi=>o.getD i.toNat 0):=by
  refine⟨d.zero.1,λi g j=>d.ok.rng _ (AF o 0 O1),λi g j=>?_,λi g j a ha=>?_⟩
  .rw[c i.toNat O1];exact Rc h _
  rw[Ak,c i.toNat O1]at ha;obtain⟨b,e,rfl⟩:=Do.1 ha;have k:=d.cl _ (AF o 0 O1) b e;show BT (Ak f (o.getD i.toNat 0)) b.1=o.getD (E1 o b.2).toNat 0;rw[(D7 k).2.2];exact QI (aH vf.str _) e
 have hu:=A1r vf.ro m (A1s vf.str);apply AAJ
 .rw[On,ACu];omega
 intro i h1 n;rw[ACf,ACl];have:=hu i (i:Int) O1 O1 O1;simp only[oF,id]at this;rw[<-this,AS,As h1];rfl
theorem vW (hf:AX f) (h:Dn f f.length [] 0=(List.range f.length).map λ(i:Nat)=>(i:Int)):AN f 0=f:=by
 unfold AN;generalize q:Dn f f.length [] 0=l at *;have r:l.length=f.length:=by rw[h];simp
 have b:∀k,(hk:k<l.length)->l[k]=(k:Int):=λk hk=>by subst h;simp
 clear h;have o:l.Nodup:=by
  unfold List.Nodup;rw[iN];intro i j hi n p e;rw[b i hi,b j n]at e;omega
 have m:∀x,0<=x->x<(l.length:Int)->E1 l x=x:=λx s t=>by
  have:=IL o (i:=x.toNat) O1;have e:l.getD x.toNat 0=x:=by
   rw[AS,As O1];show l[x.toNat]=x;rw[b _ O1];omega
  rw[e]at this;rw[this];omega
 apply AAJ
 .rw[On];omega
 intro i h1 c;rw[ACf,b i (by simpa using h1)];have d:f.getD (i:Int).toNat (0,[])=f[i]:=by simp[AS,c]
 unfold HD;rw[d];have:∀a∈f[i].2,LN l a=a:=λa ha=>by
  have g:=(hf.2 _ (AAd c)).2 a ha;unfold LN;rw[m a.2 g.1 O1]
 rw[oS this,ADd]
theorem qX {Q R:List AD} {c:Int->Int} {C:Int->Prop} (h:Iso Q R c C) {pre:List Int} (j:∀i,C i->c i∉pre):∀(k:Nat) (t:List Int) (i:Int),(∀x∈t,C x)->C i->Dn R k (pre++t.map c) (c i)=pre++(Dn Q k t i).map c/\∀x∈Dn Q k t i,C x
 | 0,t,i,ht,hi=>⟨rfl,ht⟩
 | k+1,t,i,ht,hi=>by
  have key:∀(l:List (Int×Int)) (t:List Int),(∀a∈l,C a.2)->(∀x∈t,C x) ->
    (l.map λa=>(a.1,c a.2)).foldl (BA R k) (pre++t.map c)=pre++(l.foldl (BA Q k) t).map c/\∀x∈l.foldl (BA Q k) t,C x:=by
   intro l;induction l with
   | nil=>intro t _ ht;exact⟨rfl,ht⟩
   | cons a l p =>
    intro t g ht;have ha:=g a sc;have hs:BA R k (pre++t.map c) (a.1,c a.2)=pre++(BA Q k t a).map c/\∀x∈BA Q k t a,C x:=by
     unfold BA;by_cases f:a.2∈t
     .rw[At f,At (IN.2 (.inr (Do.2 ⟨_,f,rfl⟩)))];exact⟨rfl,ht⟩
     have o:¬c a.2∈pre++t.map c:=by
      intro hh;rcases IN.1 hh with hh|hh
      .exact j _ ha hh
      obtain⟨x,d,e⟩:=Do.1 hh;exact f (h.inj x a.2 (ht x d) ha e▸d)
     rw[An f];simp only[An o];exact qX h j k t a.2 ht ha
    rw[oR,ON,ON,hs.1];exact p _ (λb n=>g b (by simp[n])) hs.2
  rw[Ca,Ca];have e:pre++t.map c++[c i]=pre++(t++[i]).map c:=by simp
  have m:(R.getD (c i).toNat (0,[])).2=(Ak Q i).map λa=>(a.1,c a.2):=h.arc i hi;rw[m,e];refine key _ _ (h.cl i hi) λx d=>?_;rcases IN.1 d with d|d
  .exact ht x d
  have:x=i:=by simpa using d
  rw[this];exact hi
abbrev aR (n:Nat):List Int:=(List.range n).map λ(i:Nat)=>(i:Int)
theorem iA {n:Nat} {x:Int} (h:x∈aR n):0<=x/\x<(n:Int):=by grind
theorem vX (n:Nat):aR (n+1)=aR n++[(n:Int)]:=by unfold aR;rw[AAE,AAH];rfl
theorem Wa {p:List Int} {g:List AD}:∀(r j:Nat) (k:Nat),j+r=p.length->Dn (CC p g) (r+k) (aR j) (j:Int)=Dn (CC p g) k (aR p.length) (p.length:Int)
 | 0,j,k,h=>by rw[show j=p.length by omega,AB6]
 | r+1,j,k,h=>by
  rw[show r+1+k=(r+k)+1 by omega,Ca,Sj O1 O1,oF];show BA (CC p g) (r+k) (aR j++[(j:Int)]) (p.getD j 0,(j:Int)+1)=_;rw[<-vX];unfold BA;rw[An (λa=>by have:=iA a;simp only at this;omega)];have e:((j:Int)+1)=((j+1:Nat):Int):=by omega
  simp only[e];exact Wa r (j+1) k O1
theorem vY {g:List AD} (b:VF h g) (n:p.length<=1000) (l:g.length<=10000):AN (CC p g) 0=CC p g:=by
 have f:=b.pos;refine vW (Sk n b.good f l) ?_;rw[Kq];have d:=Wa (p:=p) (g:=g) p.length 0 g.length O1;rw[show aR 0=[] from rfl,show ((0:Nat):Int)=0 from rfl]at d;rw[d];have k:Iso g (CC p g) (λi=>(p.length:Int)+i) (λi=>0<=i/\i<(g.length:Int)):=by
  refine⟨λi hi=>?_,λi hi a ha=>CM b.good ha,λi j hi q e=>by have e:(p.length:Int)+i=(p.length:Int)+j:=e;omega⟩;rw[Ak,QU hi.1 hi.2];show Dx p.length (Ak g i)=_;unfold Dx;refine oS λa _=>?_;show (a.1,a.2+(p.length:Int))=(a.1,(p.length:Int)+a.2);rw[Int.add_comm]
 have c:=(qX k (pre:=aR p.length) (λi hi m=>by have:=iA m;omega) g.length [] 0 (λx o=>by cases o) ⟨O1,O1⟩).1;rw[ABC,AAu,ACV,vV b]at c;rw[c];rw[List.range_add,AAH,AAU,AAU];refine ABj _ (oS λi _=>?_);show (p.length:Int)+(i:Int)=((p.length+i:Nat):Int);omega
theorem A1Q (h0:0<h.1.length) {g:List AD} (d:VF h g) (m:FtP h p) (l:p.length<=1000) (k:g.length<=10000):VF h (CC p g):=by
 have o:=d.pos;have r:=Kq p g;refine⟨Sk l d.good o k,O1,λx c=>?_,λx c=>?_,λx c a ha=>?_,vY d l k,λi s t=>?_⟩
 .rcases Kr c with ⟨i,hi,rfl⟩|⟨y,f,rfl⟩
  .exact⟨sc,a2⟩
  exact d.ty y f
 .rcases Kr c with ⟨i,hi,rfl⟩|⟨y,f,rfl⟩
  .exact List.pairwise_singleton _ _
  exact m3 (d.str y f)
 .rcases Kr c with ⟨i,hi,rfl⟩|⟨y,f,rfl⟩
  .have:a=(p.getD i 0,(i:Int)+1):=by simpa using ha
   rw[this];exact m _ (Ac hi)
  obtain⟨b,n,rfl⟩:=Do.1 ha;exact d.ft y f b n
 by_cases hi:i<=(p.length:Int)
 .refine⟨i-1,O1,O1,(p.getD (i-1).toNat 0,i-1+1),?_,a2⟩;rw[Ak,Sj O1 O1];exact iS.2 rfl
 obtain⟨j,q,u,x,c,e⟩:=d.ro (i-p.length) O1 O1;refine⟨(p.length:Int)+j,O1,O1,(x.1,x.2+(p.length:Int)),?_,a2⟩;rw[Ak,QU q O1];exact Do.2 ⟨x,c,rfl⟩
theorem vZ (hf:AX f) {r:Int} (l:0<=r) (m:r<(f.length:Int)):AX (AN f r)/\0<(AN f r).length:=by
 have c:=Iy hf l m;have h:=Jw f r;have g:=λi=>Jv (f:=f) (r:=r) (i:=i);generalize p:Dn f f.length [] r=o at *;have q:=c.ok.len;have n:=hf.1;have t:=c.zero.2;refine⟨⟨O1,λx j=>?_⟩,O1⟩;obtain⟨i,hi,rfl⟩:=CK (0,[]) j;rw[g i O1];have d:o.getD i 0∈o:=AF o 0 O1;have s:=c.ok.rng _ d;refine⟨?_,λa ha=>?_⟩
 .show (List.map (LN o) _).length<=_;rw[On];exact(hf.2 _ (AF f (0,[]) (k:=(o.getD i 0).toNat) O1)).1
 obtain⟨b,e,rfl⟩:=Do.1 ha;have:=D7 (c.cl _ d b e);rw[h];exact⟨this.1,this.2.1⟩
theorem A54 (hf:AX f) (ht:DU h f) {r:Int} (c:0<=r) (d:r<(f.length:Int)):DU h (AN f r):=by
 have a:=Iy hf c d;intro x b;obtain⟨n,hn,rfl⟩:=Do.1 b;have e:=a.ok.rng n hn;exact ht (f.getD n.toNat (0,[])) (AF f (0,[]) (k:=n.toNat) O1)
structure PF (h:AE) (S:List AD):Prop where
 good:AX S
 pos:0<S.length
 ty:DU h S
 str:∀x∈S,Wz x.2
 ft:∀x∈S,∀a∈x.2,0<=a.1/\a.1<(h.2.length:Int)
theorem iB {S:List AD} (a:AX S) {r:Int} (c:0<=r) (d:r<(S.length:Int)):∀x∈AN S r,∃n∈Dn S S.length [] r,(0<=n/\n<(S.length:Int))/\x=HD S (Dn S S.length [] r) n:=λx b=>by
 obtain⟨n,hn,rfl⟩:=Do.1 b;exact⟨n,hn,(Iy a c d).ok.rng n hn,rfl⟩
theorem qY {S:List AD} (b:AX S) {r:Int} (c:0<=r) (d:r<(S.length:Int)):RO (AN S r):=by
 have k:=Iy b c d;have h:=WD b S.length [] r (GZ _) c d sc;have n:=Jw S r;have g:=λi=>Jv (f:=S) (r:=r) (i:=i);generalize AN S r=C at *;generalize Dn S S.length [] r=o at *;intro i l m;obtain⟨j,p,a,ha,e⟩:=h i.toNat (by simp only[AAt];omega) O1;refine⟨(j:Int),O1,O1,LN o a,?_,?_⟩
 .rw[Ak,oF,g j O1];exact Do.2 ⟨a,ha,rfl⟩
 show E1 o a.2=i;rw[e,IL k.ok.nd O1];omega
theorem A86 {S:List AD} (p:PF h S) {r:Int} (c:0<=r) (d:r<(S.length:Int)):VF h (AN S r):=by
 have f:=vZ p.good c d;refine⟨f.1,f.2,A54 p.good p.ty c d,λx e=>?_,λx e a ha=>?_,gR p.good c d,qY p.good c d⟩
 .obtain⟨n,-,hn,rfl⟩:=iB p.good c d x e;show List.Pairwise _ (List.map _ _);rw[AAI];exact(aH p.str n).imp λh=>h
 obtain⟨n,-,hn,rfl⟩:=iB p.good c d x e;obtain⟨b,g,rfl⟩:=Do.1 ha;exact p.ft _ (AF S (0,[]) O1) b g
def A9W (f:List AD) (e:Int):List (Int×Int):=(f.getD 0 (0,[])).2.filter λa=>a.1 != e
def A9X (f:List AD) (e:Int):List AD:=((f.getD 0 (0,[])).1,Dx 1 (A9W f e)) :: f.map λx=>(x.1,Dx 1 x.2)
def A6j (f:List AD) (e:Int):List AD:=AN (A9X f e) 0
def F5 (l:List (Int×Int)) (e:Int):Int×Bool:=match l with
 | []=>(0,false)
 | a :: l=>if a.1=e then (a.2,true) else F5 l e
theorem Wb (e:Int) (l:List (Int×Int)) (h:k<l.length):F5 (l.drop k) e=if (l.getD k (0,0)).1=e then ((l.getD k (0,0)).2,true) else F5 (l.drop (k+1)) e:=by
 rw[OR h];have e:l.getD k (0,0)=l[k]:=by simp[AS,h]
 rw[e];rfl
def A1R:Ab:={ ins:=[Ff,T3,T3],pre:=λ(f,n,_,_)=>FO f/\0<=n/\n<(List.length f:Int),out:=λ(f,n,e,_)=>[.p T3 (F5 (List.getD f n.toNat (0,[])).2 e).1,.p .bool (F5 (List.getD f n.toNat (0,[])).2 e).2] }
theorem A55:Af Tryz.prog 128 A1R:=by
 refine fK [0,1,2,3,6,7,9,15,16,17,18,24] Tryz.func128 Tryz.ntmps128 AH ?_;rintro w0 O0 ⟨f,n,e,u⟩ c-⟨hf,h0,h1⟩;simp only[A1R,AM];repeat'(first|exact a6|apply eS rfl|apply AB|refine rX c ?_ ?_|refine rC ?_ ?_<;>intro a<;>try(cases a;done))
 .exact⟨h0,h1⟩
 generalize g:(f.getD n.toNat (0,[])).2=xs at *;have i:xs.length<=100000:=by
  rw[<-g];have hn:n.toNat<f.length:=by
   have h0:(0:Int)<=n:=h0;have h1:(n:Int)<(List.length f:Int):=h1;exact(ACT h0).2 h1
  exact hf.2 _ (AF f (0,[]) hn)
 refine AJ (ι:={k:Nat//k<=xs.length/\F5 xs e=F5 (xs.drop k) e}) (λk=>⟨[(2,.p T3 e),(15,.p L5 xs),(16,.p (.int .i64) (xs.length:Int)),(17,.p (.int .i64) (k.1:Int))],[]⟩) (λk=>xs.length-k.1) ⟨0,GO _,rfl⟩ (AC [] rfl rfl ?_ ?_) (λk=>?_)
 .first|exact eN|refine eM ?_
 .first|exact eN|refine eM ?_
 obtain⟨k,hk,d⟩:=k;repeat'(first|exact a6|apply eS rfl|apply AB|refine rX c ?_ ?_|refine rC ?_ ?_<;>intro a<;>try(cases a;done))
 .exact a
 .have b:k<xs.length:=aT.1 a4;have h:=Wb e xs b;rw[At a]at h;rw[d,h];exact fI c [.tmp 6,.tmp 7]
 .omega
 .have b:k<xs.length:=aT.1 a4;have h:=Wb e xs b;rw[An a]at h;refine⟨⟨k+1,b,d.trans h⟩,a2,AC [] rfl rfl ?_ ?_⟩
  .first|exact eN|refine eM ?_
  first|exact eN|refine eM ?_
 have b:xs.drop k=[]:=No (AAf.1 a);rw[b]at d;rw[d];exact fI c [.tmp 6,.tmp 7] (by first|exact eR|refine OC ?_;exact⟨rfl,rfl⟩)
section
attribute [local go_sem] A1R
def S2 (f:List AD):Int->List Int->Int×Bool
 | n,[]=>(n,true)
 | n,e :: p=>if (F5 (Ak f n) e).2=true then S2 f (F5 (Ak f n) e).1 p else (0,false)
theorem Yt (h:k<p.length):p.drop k=p.getD k 0 :: p.drop (k+1):=by
 rw[OR h];simp[AS,h]
theorem A1S {e:Int} (h:(F5 l e).2=true):∃a∈l,a.1=e/\a.2=(F5 l e).1:=by
 induction l with
 | nil=>simp[F5]at h
 | cons a l g =>
  simp only[F5]at h ⊢;split
  .rename_i c;exact⟨a,sc,c,rfl⟩
  rename_i c;rw[An c]at h;obtain⟨b,f,h1,d⟩:=g h;exact⟨b,by simp[f],h1,d⟩
def atS:Ab:={ ins:=[Ff,CH],pre:=λ(f,_,_)=>AX f/\0<List.length f,out:=λ(f,p,_)=>[.p T3 (S2 f 0 p).1,.p .bool (S2 f 0 p).2] }
attribute [local go_sem] atS
theorem A9Y:Af Tryz.prog 80 atS:=by
 refine fK [0,1,2,4,5,6,8,9,10,11,12,13,14,25] Tryz.func80 Tryz.ntmps80 (AG A55 AH) ?_;rintro w0 O0 ⟨f,p,u⟩ e ⟨-,⟨i,-⟩,-⟩ ⟨hf,h0⟩;simp only[AP]at i;simp only[atS,AM];have j:FO f:=⟨hf.1,λx l=>(hf.2 x l).1⟩;have h0:0<f.length:=h0;repeat'(first|exact a6|apply eS rfl|apply AB|refine rX e ?_ ?_|refine rC ?_ ?_<;>intro b<;>try(cases b;done))
 refine AJ (ι:={s:Nat×Int//s.1<=p.length/\(0<=s.2/\s.2<(f.length:Int))/\S2 f 0 p=S2 f s.2 (p.drop s.1)}) (λs=>⟨[(2,.bp 2 [] 0),(6,.p T3 s.1.2),(11,.p CH p),(12,.p (.int .i64) (p.length:Int)),(13,.p (.int .i64) (s.1.1:Int))],[(2,.box 34 true [.p J1 f])]⟩) (λs=>p.length-s.1.1) ⟨(0,0),GO _,⟨ABt 0,by show (0:Int)<_;omega⟩,rfl⟩ (AC [(2,.nm 2)] rfl rfl ?_ ?_) (λs=>?_)
 .first|exact eN|refine eM ?_
 .first|exact eN|refine eM ?_
 obtain⟨⟨k,n⟩,hk,hn,d⟩:=s;simp only at hk hn d ⊢;repeat'(first|exact a6|apply eS rfl|apply AB|refine rX e ?_ ?_|refine rC ?_ ?_<;>intro b<;>try(cases b;done))
 .exact b
 .exact⟨j,hn⟩
 .have c:k<p.length:=aT.1 a4;have h1:S2 f 0 p=(0,false):=by
   rw[d,Yt c];simp only[S2];rw[An (by rw[b];simp)]
  exact fI e [.tmp 4,.tmp 5] (by rw[h1];exact eR)
 .omega
 .have c:k<p.length:=aT.1 a4;have h1:=d;rw[Yt c]at h1;simp only[S2]at h1;rw[At b]at h1;obtain⟨a,ha,-,h⟩:=A1S b;have g:=CM hf ha;rw[h]at g;refine⟨⟨(k+1,(F5 (f.getD n.toNat (0,[])).2 (p.getD k 0)).1),c,g,h1⟩,a2,AC [(2,.nm 2)] rfl rfl ?_ ?_⟩
  .first|exact eN|refine eM ?_
  first|exact eN|refine eM ?_
 have c:p.drop k=[]:=No (AAf.1 b);rw[c]at d;exact fI e [.tmp 4,.tmp 5] (by rw[d];first|exact eR|refine OC ?_;exact⟨rfl,rfl⟩)
end
def iC (h:AE):Int:=BO h (sb [65,82,71,83])
def m4 (h:AE) (i:Nat):List Int:=iC h :: (List.replicate i (ED h).rest++[(ED h).first])
theorem A56 (h:AE) (i:Nat):(m4 h i).length=i+2:=by simp[m4]
def IP (pl:Nat->List Int):Nat->List (List AD)->List (List AD)
 | _,[]=>[]
 | i,k :: l=>CC (pl i) k :: IP pl (i+1) l
noncomputable def GR (h:AE) (pl:Nat->List Int):Nat->List AD->List (List AD)->List AD×Bool
 | _,f,[]=>(f,true)
 | i,f,k :: l=>if (aQ h f (CC (pl i) k)).2=true then GR h pl (i+1) (aQ h f (CC (pl i) k)).1 l else ([],false)
theorem Wc {pl:Nat->List Int} {x:List AD}:∀ {l:List (List AD)} {i:Nat},x∈IP pl i l->∃j,j<l.length/\x=CC (pl (i+j)) (l.getD j [])
 | k :: l,i,h=>by
  rcases By.1 h with rfl|h
  .exact⟨0,sc,rfl⟩
  obtain⟨j,a,rfl⟩:=Wc h;exact⟨j+1,by simpa using a,by rw[show i+(j+1)=i+1+j by omega];rfl⟩
theorem Wd {h:AE} {pl:Nat->List Int}:∀ {l:List (List AD)} {i:Nat} {f:List AD},(∀x∈IP pl i l,x.length<=100)->(GR h pl i f l).1.length<=f.length+100*l.length
 | [],i,f,_=>OS _
 | k :: l,i,f,c=>by
  unfold GR;split
  .have h1:=qW (h:=h) (a:=f) (b:=CC (pl i) k);have e:=c _ (f7 (a:=CC (pl i) k) (l:=IP pl (i+1) l));have g:=Wd (h:=h) (pl:=pl) (l:=l) (i:=i+1) (f:=(aQ h f (CC (pl i) k)).1) λx d=>c x (IF _ d);simp only[Is];omega
  simp
section
variable {h:AE} (hh:H14 h)
include hh
theorem We {pl:Nat->List Int}:∀(l:List (List AD)) (i:Nat) (f:List AD) (L:List (List AD)),Ma h L (f,true)->(∀x∈L,VF h x)->(∀x∈IP pl i l,VF h x/\x.length<=100)->f.length+100*l.length<=10000->Ma h (L++IP pl i l) (GR h pl i f l)
 | [],i,f,L,H,o,q,r=>by
  show Ma h (L++[]) (f,true);rw[AAu];exact H
 | k :: l,i,f,L,H,o,q,r=>by
  have hu:=q _ (f7 (a:=CC (pl i) k) (l:=IP pl (i+1) l));have g:=H.vf rfl;simp only[Is]at r;have ht:=qW (h:=h) (a:=f) (b:=CC (pl i) k);have hs:Ma h (L++[CC (pl i) k]) (aQ h f (CC (pl i) k)):=by
   refine(A53 hh g.wt.1 hu.1 (by have:=hu.2;show f.length+_<=10000;omega)).congr λX j=>?_;rw[WZ,HX];constructor
   .rintro⟨⟨m,d⟩,s⟩ x t;rcases IN.1 t with c|c
    .exact A1O hh.ok o g.wt.1 j.1 g.hom d x c
    rw[iS.1 c];exact s
   intro n;exact⟨g.least X j λx d=>n x (AAb _ d),n _ (AB7 _ (iS.2 rfl))⟩
  show Ma h (L++CC (pl i) k :: IP pl (i+1) l) (GR h pl i f (k :: l));unfold GR;split
  .rename_i p;have:=We l (i+1) (aQ h f (CC (pl i) k)).1 (L++[CC (pl i) k]) (by rw[<-p];exact hs) (λx d=>by
    rcases IN.1 d with c|c
    .exact o x c
    rw[iS.1 c];exact hu.1) (λx d=>q x (IF _ d)) O1
   rwa [AAg,AC7]at this
  rename_i p;refine .inr ⟨rfl,λX j n=>?_⟩;rcases hs with ⟨e,-⟩|⟨-,u⟩
  .exact p e
  refine u X j λx d=>n x ?_;rcases IN.1 d with c|c
  .exact AAb _ c
  exact AB7 _ (by rw[iS.1 c];exact f7)
omit hh in
theorem v7 {f:List AD} (a:Wt h f):Ma h [f] (f,true):=.inl ⟨rfl,a,HX.2 ⟨id,A1s a.1.str⟩,λ_ _ b=>HX.1 b⟩
end
theorem A87 (e:S0 h=true) (ha:0<=iC h) (i:Nat):FtP h (m4 h i):=by
 obtain⟨⟨h1,b⟩,-⟩:=A1c e;have c:=GY h (sb [70,73,82,83,84]);have d:=GY h (sb [82,69,83,84]);have f:=GY h (sb [65,82,71,83]);intro x a;rcases By.1 a with rfl|a
 .exact⟨ha,f.2⟩
 rcases IN.1 a with a|a
 .rw[(List.mem_replicate.1 a).2];exact⟨b,d.2⟩
 rw[iS.1 a];exact⟨h1,c.2⟩
structure A88 (h:AE) (ar:Int) (f:List AD):Prop where
 arb:1<=ar/\ar<=2
 chk:HV h f=0
 args:0<=iC h
 lw:S0 h=true
 walk:∀i:Nat,(i:Int)<ar->∃n,A6d f 0 (m4 h i)=some n
section
attribute [local go_sem] Oc Ob WB
def Dj (h:AE) (w:LW):Obj:=.box 248 true [.p GH h,.p T3 w.list,.p T3 w.cons,.p T3 w.null,.p T3 w.dlist,.p T3 w.first,.p T3 w.rest,.p T3 w.head,.p T3 w.last]
theorem A1T (h:AE) (w:LW) (f:List AD) (n:Int):BF Tryz.prog 170 [.p dX (wdF h w),.p Ff f,.p T3 n] [] [] (λres c=>res=.clo 187 [5,3,4]/\c=[(5,.box 3 false [.p T3 n]),(4,.box 34 true [.p J1 f]),(3,Dj h w)]):=by
 refine J0 [0,1,2,3,4,5,6] [] [] Tryz.func170 Tryz.ntmps170 AH ?_;intro w0 K O0 ρ0 a d e;simp only[Au,wdF];repeat'(first|exact a6|apply eS rfl|apply AB|refine rX a ?_ ?_|refine rC ?_ ?_<;>intro b<;>try(cases b;done))
 exact fM a [.tmp 6] (.clo 187 [5,3,4]) eT ⟨rfl,rfl⟩
abbrev WS:=List Int×List Int×Bool×Int
def AU (f:List AD) (n:Int):AD:=f.getD n.toNat (0,[])
def Yu (h:AE) (w:LW) (f:List AD) (s:WS):WS:=(s.1++[s.2.2.2],if FC h w (AU f s.2.2.2)=2 then s.2.1++[BT (AU f s.2.2.2).2 w.first] else s.2.1,decide (FC h w (AU f s.2.2.2)=1),BT (AU f s.2.2.2).2 w.rest)
def CT (h:AE) (w:LW) (f:List AD) (n:Int):Nat->WS
 | 0=>([],[],false,n)
 | i+1=>Yu h w f (CT h w f n i)
def WGo (h:AE) (w:LW) (f:List AD) (n:Int) (i:Nat):Prop:=∀j,j<i->FC h w (AU f (CT h w f n j).2.2.2)=2/\(CT h w f n j).2.2.2∉(CT h w f n j).1
theorem Tr {h:AE} {w:LW} {f:List AD} {n:Int} (hf:AX f) (n0:0<=n) (n1:n<(f.length:Int)):∀i,WGo h w f n i->LM f (CT h w f n i).1/\(CT h w f n i).1.length=i/\(0<=(CT h w f n i).2.2.2/\(CT h w f n i).2.2.2<(f.length:Int))/\(CT h w f n i).2.1.length=i
 | 0,_=>⟨GZ f,rfl,⟨n0,n1⟩,rfl⟩
 | i+1,c=>by
  obtain⟨h1,d,a,e⟩:=Tr hf n0 n1 i (λj l=>c j O1);obtain⟨b,g⟩:=c i O1;have hk:=Rb b;refine⟨h1.snoc a.1 a.2 g,?_,⟨hk.2,?_⟩,?_⟩
  .show ((CT h w f n i).1++_).length=_;rw[IS,d];rfl
  .exact QD O1 _ λx k=>(CM hf (n:=(CT h w f n i).2.2.2) k).2
  show (if _ then _ else _:List Int).length=_;rw[At b,IS,e];rfl
def HF (L:Go.Loop):Go.Loop:={ L with state:=.done,pending:=some .ret }
end
section
attribute [local go_sem] QF JN V6 Xy K8 KY My Jk Io NG
theorem HY (h:AE) (s:ByteArray):Aw h s<(h.1.length:Int):=by
 have:=aC s h.1 0;unfold Aw;omega
def Mb (h:AE) (s:ByteArray) (t:Int):Bool:=decide (0<=Aw h s)&&Ai h (Aw h s) t
def v8:Ab:={ ins:=[GH,T9,T3],pre:=λ(h,_,t,_)=>GV h/\(0:Int)<=t/\t<(List.length (h:AE).1:Int),out:=λ(h,s,t,_)=>[.p .bool (Mb h s t)],lend:=true }
attribute [local go_sem] v8
def CP (h:AE) (t:Int):ByteArray :=
 if Mb h ⟨#[104,97,110,100,108,101]⟩ t=true then ⟨#[104]⟩ else if Mb h ⟨#[101,118,101,110,116]⟩ t=true then ⟨#[101]⟩
 else if Mb h ⟨#[101,110,116,105,116,121]⟩ t=true then ⟨#[120]⟩ else if Mb h ⟨#[105,110,100,101,120]⟩ t=true then ⟨#[105]⟩ else ⟨#[]⟩
def AY (h:AE) (f:List AD) (n:Int) (s:ByteArray):Int:=if 0<=BO h s then BT (AU f n).2 (BO h s) else -1
def Di (h:AE) (f:List AD) (n:Int):ByteArray:=if n<0 then ⟨#[]⟩ else CP h (AU f n).1
end
section
attribute [local go_sem] QF JN V6 Jk Io
def Wf:Ab:={ ins:=[GH],pre:=λ(h,_)=>GV h,out:=λ(h,_)=>[.p .bool (S0 h)],lend:=true }
attribute [local go_sem] Wf
def m5:Ab:={ ins:=[GH,Ff,T3,T9],pre:=λ(_,f,n,_)=>AX f/\(0:Int)<=n/\n<(List.length f:Int),out:=λ(h,f,n,s,_)=>[.p T3 (BT (List.getD (f:List AD) n.toNat (0,[])).2 (BO h s))],lend:=true }
attribute [local go_sem] m5
def aU:Ab:={ ins:=[GH,Ff,T3],pre:=λ(h,f,n,_)=>(S0 h=true/\GV h)/\AX f/\DU h f/\(0:Int)<=n/\n<(List.length f:Int),out:=λ(h,f,n,_)=>[.p .bool (gE h (ED h) (List.getD (f:List AD) n.toNat (0,[])))],lend:=true }
attribute [local go_sem] aU
def aV:Ab:={ ins:=[GH,Ff,T3],pre:=λ(h,f,n,_)=>(S0 h=true/\GV h)/\AX f/\DU h f/\(0:Int)<=n/\n<(List.length f:Int),out:=λ(h,f,n,_)=>[.p .bool (Sd h (ED h) (List.getD (f:List AD) n.toNat (0,[])))],lend:=true }
attribute [local go_sem] aV
def Wg:Ab:={ ins:=[GH,Ff,T3],pre:=λ(h,f,n,_)=>(S0 h=true/\GV h)/\AX f/\DU h f/\(0:Int)<=n/\n<(List.length f:Int),out:=λ(h,f,n,_)=>[.p .bool (!gE h (ED h) (List.getD (f:List AD) n.toNat (0,[]))&&V9 h (ED h) (List.getD (f:List AD) n.toNat (0,[])))],lend:=true }
attribute [local go_sem] Wg
def A1U:Ab:={ ins:=[CH,T3],pre:=λ_=>True,out:=λ(l,n,_)=>[.p .bool (inF l n)],lend:=true }
attribute [local go_sem] A1U
end
section
attribute [local go_sem] atS
theorem VF.h0 (vf:VF h f):0<h.1.length:=by
 have a:=vf.pos;have:=vf.ty _ (AF f (0,[]) (k:=0) O1);omega
end
noncomputable def m6 (h:AE) (ar:Int) (f:List AD) (A:List (List AD)):List AD×Bool :=
 if (A.length:Int)≠ar then ([],false) else if (GR h (m4 h) 0 f A).2=true then (A6j (GR h (m4 h) 0 f A).1 (iC h),true) else ([],false)
structure RA (h:AE) (ar:Int) (f:List AD) (A:List (List AD)):Prop where
 hh:H14 h
 top:A9S h
 vf:VF h f
 lf:f.length<=12
 ok:A88 h ar f
 va:∀x∈A,VF h x/\x.length<=12
 la:A.length<=3
theorem RA.wt {ar:Int} (r:RA h ar f A):Wt h f:=⟨r.vf,vU r.ok.chk⟩
theorem RA.un {ar:Int} (r:RA h ar f A):∀x∈IP (m4 h) 0 A,VF h x/\x.length<=100:=λx b=>by
 obtain⟨j,a,rfl⟩:=Wc b;have d:=A56 h (0+j);have hk:=r.va _ (AF A [] a);have c:=r.la;exact⟨A1Q r.vf.h0 hk.1 (A87 r.ok.lw r.ok.args _) O1 O1,by rw[Kq];omega⟩
theorem RA.all {ar:Int} (r:RA h ar f A):Ma h (f :: IP (m4 h) 0 A) (GR h (m4 h) 0 f A) :=
 We r.hh A 0 f [f] (v7 r.wt) (by simp[r.vf]) r.un (by have:=r.lf;have:=r.la;omega)
theorem RA.len {ar:Int} (r:RA h ar f A):(GR h (m4 h) 0 f A).1.length<=312:=by
 have:=Wd (h:=h) (pl:=m4 h) (l:=A) (i:=0) (f:=f) λx a=>(r.un x a).2;have:=r.lf;have:=r.la;omega
theorem RA.res {ar:Int} (r:RA h ar f A) (a:(m6 h ar f A).2=true):(A.length:Int)=ar/\TU h (f :: IP (m4 h) 0 A) (GR h (m4 h) 0 f A).1/\m6 h ar f A=(A6j (GR h (m4 h) 0 f A).1 (iC h),true):=by
 unfold m6 at a ⊢;by_cases h1:(A.length:Int)≠ar
 .rw[At h1]at a;cases a
 rw[An h1]at a ⊢;by_cases b:(GR h (m4 h) 0 f A).2=true
 .rw[At b];exact⟨O1,r.all.vf b,rfl⟩
 rw[An b]at a;cases a
section
attribute [local go_sem] Oc Ob WB
def Ro (h:AE) (w:LW) (f:List AD) (la:Int) (a out:List Int) (m:Int):Option (List Int×Int) :=
 if m=la then some (if FC h w (AU f m)=3 then (out,0) else ([],13)) else if m∈a then some ([],6) else if FC h w (AU f m)=2 then none else some ([],13)
def Dz (h:AE) (w:LW) (f:List AD) (la:Int):Nat->List Int->List Int->Int->List Int×Int
 | 0,_,_,_=>([],6)
 | k+1,a,out,m=>match Ro h w f la a out m with
  | some r=>r
  | none=>Dz h w f la k (a++[m]) (out++[BT (AU f m).2 w.first]) (BT (AU f m).2 w.rest)
def AQ (h:AE) (f:List AD) (n:Int):List Int×Int :=
 if S0 h=true then
  if BT (AU f n).2 (ED h).head<0\/BT (AU f n).2 (ED h).last<0 then ([],13)
  else Dz h (ED h) f (BT (AU f n).2 (ED h).last) (f.length+1) [] [] (BT (AU f n).2 (ED h).head)
 else ([],5)
def Ni (h:AE) (w:LW) (f:List AD) (la:Int) (s:WS):Option (List Int×Int):=Ro h w f la s.1 s.2.1 s.2.2.2
def DGo (h:AE) (w:LW) (f:List AD) (la n:Int) (i:Nat):Prop:=∀j,j<i->Ni h w f la (CT h w f n j)=none
theorem Hl {w:LW} {la:Int} {a out:List Int} {m:Int} (e:Ro h w f la a out m=none):m≠la/\m∉a/\FC h w (AU f m)=2:=by
 unfold Ro at e;split at e
 .cases e
 split at e
 .cases e
 split at e
 .exact⟨a4,a4,a4⟩
 cases e
theorem aW {w:LW} {la n:Int} {i:Nat} (a:DGo h w f la n i):WGo h w f n i:=λj b=>⟨(Hl (a j b)).2.2,(Hl (a j b)).2.1⟩
theorem Yv {h:AE} {w:LW} {f:List AD} {la n:Int} (k:Nat):∀i,DGo h w f la n i->Dz h w f la (k+i) [] [] n=Dz h w f la k (CT h w f n i).1 (CT h w f n i).2.1 (CT h w f n i).2.2.2
 | 0,_=>rfl
 | i+1,b=>by
  have c:=Yv (h:=h) (w:=w) (f:=f) (la:=la) (n:=n) (k+1) i (λj d=>b j O1);have a:Ro h w f la (CT h w f n i).1 (CT h w f n i).2.1 (CT h w f n i).2.2.2=none:=b i O1;rw[show k+(i+1)=k+1+i by omega,c];rw[Dz,a];show _=Dz h w f la k (Yu h w f (CT h w f n i)).1 (Yu h w f (CT h w f n i)).2.1 (Yu h w f (CT h w f n i)).2.2.2;unfold Yu;rw[At (Hl a).2.2]
theorem Yw {w:LW} {la n:Int} (hf:AX f) (n0:0<=n) (n1:n<(f.length:Int)) {i:Nat} (a:DGo h w f la n i) {r:List Int×Int} (b:Ni h w f la (CT h w f n i)=some r):Dz h w f la (f.length+1) [] [] n=r:=by
 obtain⟨h1,c,d,-⟩:=Tr hf n0 n1 i (aW a);have e:=h1.len;rw[show f.length+1=(f.length-i)+1+i by omega,Yv _ _ a,Dz,show Ro h w f la (CT h w f n i).1 (CT h w f n i).2.1 (CT h w f n i).2.2.2=some r from b]
def dE:List (Nat×AV):=[(4,.bp 4 [] 0),(6,.bp 6 [] 0),(7,.bp 7 [] 0),(8,.bp 8 [] 0),(11,.bp 11 [] 0),(12,.bp 12 [] 0),(13,.bp 13 [] 0)]
def dO (h:AE) (w:LW) (f:List AD) (L:Go.Loop) (a:Array Value) (la:Int) (s:WS) (m:Int) (c:AV) (e:Int):List (Nat×Obj):=[(50,.box 3 false [.p T3 m]),(51,Dj h w),(52,.box 34 true [.p J1 f]),(101,.loop L),(102,.frame a dE),(6,.box 101 false [c]),(7,.box 35 false [.p C3 e]),(8,Dj h w),(4,.box 34 true [.p J1 f]),(11,.box 3 false [.p T3 la]),(12,.box 101 false [.sr 60 T3 0 s.2.1.length]),(60,.arr 3 T3 s.2.1),(13,.box 215 false [.mp 24]),(24,.mapo T3 .bool (LH s.1))]
def DRd (h:AE) (w:LW) (f:List AD) (la n:Int) (L:Go.Loop) (a:Array Value) (i:Nat) (b:Bool) (O:List (Nat×Obj)):Prop :=
 (Ni h w f la (CT h w f n i)=some ((CT h w f n i).2.1,0)/\b=false/\O=dO h w f (HF L) a la (CT h w f n i) (CT h w f n i).2.2.2 (.sr 60 T3 0 (CT h w f n i).2.1.length) 0) \/
 (∃e,Ni h w f la (CT h w f n i)=some ([],e)/\b=false/\O=dO h w f (HF L) a la (CT h w f n i) (CT h w f n i).2.2.2 (.raw (.slice none 0 0)) e) \/
 (Ni h w f la (CT h w f n i)=none/\b=true/\O=dO h w f L a la (CT h w f n (i+1)) (CT h w f n i).2.2.2 (.raw (.slice none 0 0)) 0)
theorem v9 (h:AE) (w:LW) (f:List AD) (la n:Int) (C:WOk h w) (hf:AX f) (ht:DU h f) (n0:0<=n) (n1:n<(f.length:Int)) (L:Go.Loop) (d:Array Value)
  (m:∀i,DGo h w f la n i->Xq Tryz.prog 101 [.p T3 (CT h w f n i).2.2.2] (dO h w f L d la (CT h w f n i) (CT h w f n i).2.2.2 (.raw (.slice none 0 0)) 0) [50,51,52,101,102,6,7,8,4,11,12,13,24] (λres l=>∃b,res=.p .bool b/\DRd h w f la n L d i b l)) :
  BF Tryz.prog 187 [.yl 101,.bp 50 [] 0,.bp 51 [] 0,.bp 52 [] 0] (dO h w f L d la (CT h w f n 0) n (.raw (.slice none 0 0)) 0) [50,51,52,101,102,6,7,8,4,11,12,13,24] (λres l=>res=.raw (.tuple #[])/\∃i,DGo h w f la n i/\DRd h w f la n L d i false l):=by
 refine J0 [0,1,2,3,14] [] [] Tryz.func187 Tryz.ntmps187 (AG gH (AG aD AH)) ?_;intro w0 K O0 ρ0 a A B;simp only[Au,dO,Dj];have t:=m;clear m;repeat'(first|exact a6|apply eS rfl|apply AB|refine rX a ?_ ?_|refine rC ?_ ?_<;>intro c<;>try(cases c;done))
 refine AJ (ι:={i:Nat//DGo h w f la n i}) (λi=>⟨[(0,.yl 101),(1,.bp 50 [] 0),(2,.bp 51 [] 0),(3,.bp 52 [] 0)],dO h w f L d la (CT h w f n i.1) (CT h w f n i.1).2.2.2 (.raw (.slice none 0 0)) 0⟩) (λi=>f.length+1-i.1) ⟨0,λj o=>by omega⟩ (AC [(50,.nm 50),(51,.nm 51),(52,.nm 52),(101,.nm 101),(102,.nm 102),(6,.nm 6),(7,.nm 7),(8,.nm 8),(4,.nm 4),(11,.nm 11),(60,.nm 60),(12,.nm 12),(13,.nm 13),(24,.nm 24)] rfl rfl ?_ ?_) (λi=>?_)
 .simp only[dO,Dj,dE,CT];first|exact eN|refine eM ?_
 .simp only[dO,Dj,dE,CT];first|exact eN|refine eM ?_
 obtain⟨i,hi⟩:=i;obtain⟨q,v,r,x⟩:=Tr hf n0 n1 i (aW hi);have u:=t i hi;have y:=q.len;have z:CT h w f n (i+1)=Yu h w f (CT h w f n i):=rfl;simp only[dO,Dj,dE];repeat'(first|exact a6|apply eS rfl|apply AB|refine rX a ?_ ?_|refine rC ?_ ?_<;>intro c<;>try(cases c;done))
 refine cG 2 a ?_ ?_
 .trivial
 refine rY 101 101 a (u) [(50,.nm 50),(51,.nm 51),(52,.nm 52),(101,.nm 101),(102,.nm 102),(6,.nm 6),(7,.nm 7),(8,.nm 8),(4,.nm 4),(11,.nm 11),(60,.nm 60),(12,.nm 12),(13,.nm 13),(24,.nm 24)] [60] ?_ ?_ ?_
 .first|exact eN|refine eM ?_
 .simp only[dO,Dj,dE];first|exact eN|refine eM ?_
 rintro _ _ ⟨b,rfl,k⟩;have s:=k;rcases s with ⟨g,rfl,rfl⟩|⟨e,g,rfl,rfl⟩|⟨g,rfl,rfl⟩
 .refine⟨[(50,.nm 50),(51,.nm 51),(52,.nm 52),(101,.nm 101),(102,.nm 102),(6,.nm 6),(7,.nm 7),(8,.nm 8),(4,.nm 4),(11,.nm 11),(60,.nm 60),(12,.nm 12),(13,.nm 13),(24,.nm 24)],.p .bool false,dO h w f (HF L) d la (CT h w f n i) (CT h w f n i).2.2.2 (.sr 60 T3 0 (CT h w f n i).2.1.length) 0,rfl,rfl,?_,?_,rfl,rfl,?_⟩
  .simp only[dO,Dj,dE];first|exact eN|refine eM ?_
  .first|exact eN|refine eM ?_
  simp only[dO,Dj,dE];refine rL a ?_ ?_
  .trivial
  repeat'(first|exact a6|apply eS rfl|apply AB|refine rX a ?_ ?_|refine rC ?_ ?_<;>intro c<;>try(cases c;done))
  refine Ev.ent (σ':=⟨[],dO h w f (HF L) d la (CT h w f n i) (CT h w f n i).2.2.2 (.sr 60 T3 0 (CT h w f n i).2.1.length) 0⟩) ?_ (AC [(50,.nm 50),(51,.nm 51),(52,.nm 52),(101,.nm 101),(102,.nm 102),(6,.nm 6),(7,.nm 7),(8,.nm 8),(4,.nm 4),(11,.nm 11),(60,.nm 60),(12,.nm 12),(13,.nm 13),(24,.nm 24)] rfl rfl ?_ ?_)
  .exact fM a [] (.raw (.tuple #[])) rfl ⟨rfl,i,hi,k⟩
  .simp only[dO,Dj,dE];first|exact eN|refine eM ?_
  first|exact eN|refine eM ?_
 .refine⟨[(50,.nm 50),(51,.nm 51),(52,.nm 52),(101,.nm 101),(102,.nm 102),(6,.nm 6),(7,.nm 7),(8,.nm 8),(4,.nm 4),(11,.nm 11),(60,.nm 60),(12,.nm 12),(13,.nm 13),(24,.nm 24)],.p .bool false,dO h w f (HF L) d la (CT h w f n i) (CT h w f n i).2.2.2 (.raw (.slice none 0 0)) e,rfl,rfl,?_,?_,rfl,rfl,?_⟩
  .simp only[dO,Dj,dE];first|exact eN|refine eM ?_
  .first|exact eN|refine eM ?_
  simp only[dO,Dj,dE];refine rL a ?_ ?_
  .trivial
  repeat'(first|exact a6|apply eS rfl|apply AB|refine rX a ?_ ?_|refine rC ?_ ?_<;>intro c<;>try(cases c;done))
  refine Ev.ent (σ':=⟨[],dO h w f (HF L) d la (CT h w f n i) (CT h w f n i).2.2.2 (.raw (.slice none 0 0)) e⟩) ?_ (AC [(50,.nm 50),(51,.nm 51),(52,.nm 52),(101,.nm 101),(102,.nm 102),(6,.nm 6),(7,.nm 7),(8,.nm 8),(4,.nm 4),(11,.nm 11),(60,.nm 60),(12,.nm 12),(13,.nm 13),(24,.nm 24)] rfl rfl ?_ ?_)
  .exact fM a [] (.raw (.tuple #[])) rfl ⟨rfl,i,hi,k⟩
  .simp only[dO,Dj,dE];first|exact eN|refine eM ?_
  first|exact eN|refine eM ?_
 have hk:=Hl g;refine⟨[(50,.nm 50),(51,.nm 51),(52,.nm 52),(101,.nm 101),(102,.nm 102),(6,.nm 6),(7,.nm 7),(8,.nm 8),(4,.nm 4),(11,.nm 11),(60,.nm 60),(12,.nm 12),(13,.nm 13),(24,.nm 24)],.p .bool true,dO h w f L d la (CT h w f n (i+1)) (CT h w f n i).2.2.2 (.raw (.slice none 0 0)) 0,rfl,rfl,?_,?_,rfl,rfl,?_⟩
 .simp only[dO,Dj,dE];first|exact eN|refine eM ?_
 .first|exact eN|refine eM ?_
 simp only[dO,Dj,dE];refine rL a ?_ ?_
 .trivial
 repeat'(first|exact a6|apply eS rfl|apply AB|refine rX a ?_ ?_|refine rC ?_ ?_<;>intro c<;>try(cases c;done))
 .exact⟨hf,r⟩
 .refine⟨⟨i+1,λj o=>(Nat.lt_succ_iff_lt_or_eq.1 o).elim (hi j) λe=>by rw[e];exact g⟩,a2,AC [(50,.nm 50),(51,.nm 51),(52,.nm 52),(101,.nm 101),(102,.nm 102),(6,.nm 6),(7,.nm 7),(8,.nm 8),(4,.nm 4),(11,.nm 11),(60,.nm 60),(12,.nm 12),(13,.nm 13),(24,.nm 24)] rfl rfl ?_ ?_⟩
  .simp only[dO,Dj,dE];first|exact eN|refine eM ?_
   rfl
  first|exact eN|refine eM ?_
 exact absurd hk.2.2 c
end
section
attribute [local go_sem] Oc Ob WB
theorem m7 (h:AE) (f:List AD) (n:Int) (k:AX f) (ht:DU h f) (n0:0<=n) (n1:n<(f.length:Int)):BF Tryz.prog 130 [.p GH h,.p Ff f,.p T3 n] [] [] (λres al=>res=.tup [.p CH (AQ h f n).1,.p C3 (AQ h f n).2]):=by
 refine fKR [0,1,2,3,4,6,7,8,9,10,11,12,13,14,15,22,39,44,45,50,59,63,67] [78] [] Tryz.func130 Tryz.ntmps130 (AG A1f (AG gH (AG aD AH))) ?_;intro w0 K O0 ρ0 c ag ah;simp only[Au];have R:(h.1,h.2)=h:=rfl;repeat'(first|exact a6|apply eS rfl|apply AB|refine rX c ?_ ?_|refine rC ?_ ?_<;>intro d<;>try(cases d;done))
 all_goals simp only[R]at *
 .have l:S0 h=false:=by
   cases j:S0 h with
   | true=>rw[j]at d;exact absurd rfl d
   | false=>rfl
  have s:AQ h f n=([],5):=by unfold AQ;rw[l,An sc]
  simp only[l,ABl,ABs,s];exact Xt c [.cell 6 101,.cell 7 35] rfl (.inl rfl) (.tup [.p CH [],.p C3 5]) eT rfl
 .exact⟨k,n0,n1⟩
 .have l:S0 h=true:=by
   have q:((if S0 h=true then (0:Int) else 5) != 0)=false:=by assumption
   cases j:S0 h with
   | false=>rw[j]at q;exact absurd q df
   | true=>rfl
  simp only[At l,wdF]at *;have s:AQ h f n=([],13):=by unfold AQ;rw[At l];exact At d
  rw[s];exact Xt c [.cell 6 101,.cell 7 35] rfl (.inl rfl) (.tup [.p CH [],.p C3 13]) eT rfl
 have l:S0 h=true:=by
  have q:((if S0 h=true then (0:Int) else 5) != 0)=false:=by assumption
  cases j:S0 h with
  | false=>rw[j]at q;exact absurd q df
  | true=>rfl
 simp only[At l,wdF]at *;have E:=A1c l;have D:=A1e h;have H:WOk h (ED h):=⟨⟨E.2.1,D.1.2.1⟩,E.2.2.1,D.1.2.2.1⟩;have C:AQ h f n=Dz h (ED h) f (BT (AU f n).2 (ED h).last) (f.length+1) [] [] (BT (AU f n).2 (ED h).head):=by
  unfold AQ;rw[At l];exact An (λq=>q.elim (λq=>absurd d.1 (ADi.2 q)) λq=>absurd d.2 (ADi.2 q))
 have u:BT (AU f n).2 (ED h).head<(f.length:Int):=QD O1 _ λx Y=>(QE k n.toNat x Y).2;have t:0<=BT (AU f n).2 (ED h).head:=d.1;have G:f.getD n.toNat (0,[])=AU f n:=rfl;simp only[G]at *;rw[C];generalize ae:ED h=w at *;generalize BT (AU f n).2 w.head=a at *;generalize BT (AU f n).2 w.last=la at *;clear G C d n0 n1;refine Ev.ent (σ':=⟨[(10,.p T3 a),(4,.bp 4 [] 0),(6,.bp 6 [] 0),(7,.bp 7 [] 0),(8,.bp 8 [] 0),(11,.bp 11 [] 0),(12,.bp 12 [] 0),(13,.bp 13 [] 0)],[(6,.box 101 false [.raw (.slice none 0 0)]),(7,.box 35 false [.p C3 0]),(8,Dj h w),(4,.box 34 true [.p J1 f]),(11,.box 3 false [.p T3 la]),(12,.box 101 false [.raw (.slice none 0 0)]),(13,.box 215 false [.mp 24]),(24,.mapo T3 .bool [])]⟩) ?_ (AC [(6,.nm 6),(7,.nm 7),(8,.nm 8),(4,.nm 4),(11,.nm 11),(12,.nm 12),(13,.nm 13),(24,.nm 40)] rfl rfl ?_ ?_)
 .simp only[Dj];refine cP 3 c ?_ ?_
  .trivial
  refine rM c (A1T h w f a) [] [] ?_ ?_ ?_
  .simp only[wdF];first|exact eN|refine eM ?_
  .first|exact eN|refine eM ?_
  rintro _ _ ⟨rfl,rfl⟩;refine⟨[(50,.nm 5),(52,.nm 4),(51,.nm 3)],.clo 187 [50,51,52],[(50,.box 3 false [.p T3 a]),(52,.box 34 true [.p J1 f]),(51,Dj h w)],rfl,rfl,?_,?_,rfl,rfl,FF ?_⟩
  .simp only[Dj];first|exact eN|refine eM ?_
  .first|exact eN|refine eM ?_
  simp only[Dj];repeat'(first|exact a6|apply eS rfl|apply AB|refine rX c ?_ ?_|refine rC ?_ ?_<;>intro d<;>try(cases d;done))
  refine dS c rfl rfl a1 101 103 102 rfl rfl rfl rfl ?_;intro L o B J M N O P X;refine⟨_,dO h w f L o la (CT h w f a 0) a (.raw (.slice none 0 0)) 0,[50,51,52,101,102,6,7,8,4,11,12,13,24],_,[(50,.nm 50),(51,.nm 51),(52,.nm 52),(101,.nm 101),(102,.nm 102),(6,.nm 6),(7,.nm 7),(8,.nm 8),(4,.nm 4),(11,.nm 11),(60,.nil),(12,.nm 12),(13,.nm 13),(24,.nm 24)],[60],v9 h w f la a H k ht t u L o ?_,rfl,rfl,?_,?_,rfl,?_⟩
  .intro i hi;obtain⟨I,ab,A,ad⟩:=Tr k t u i (aW hi);have af:=I.len;have v:=A4B (CT h w f a i).1 (CT h w f a i).2.2.2;have U:lwO (h,w.list,w.cons,w.null,w.dlist,w.first,w.rest,w.head,w.last)=w:=rfl;have V:LH (CT h w f a (i+1)).1=FH T3 .bool (CT h w f a i).2.2.2 true (LH (CT h w f a i).1):=by
    show LH ((CT h w f a i).1++[(CT h w f a i).2.2.2])=_;simp[LH]
   have hT:=c.T;have hF:=c.F;refine dQ (fr:=102) rfl rfl B N O P M X rfl a5 sc rfl rfl a5 a5 hT hF ?_;intro am Z aa an ak c ai aj j;simp only[dO,Dj,dE,Hy];repeat'(first|exact a6|apply eS rfl|apply AB|refine rX c ?_ ?_|refine rC ?_ ?_<;>intro d<;>try(cases d;done))
   refine⟨rfl,?_⟩;repeat'(first|exact a6|apply eS rfl|apply AB|refine rX c ?_ ?_|refine rC ?_ ?_<;>intro d<;>try(cases d;done))
   all_goals try simp only[U]at *
   all_goals try simp only[show ∀m:Int,f.getD m.toNat (0,[])=AU f m from λ_=>rfl]at *
   .exact⟨H,k,ht,A⟩
   .have g:Ni h w f la (CT h w f a i)=some ((CT h w f a i).2.1,0):=(At d.1).trans (by rw[At d.2]);refine Ev.ent (σ':=⟨[],dO h w f { L with state:=.busy } o la (CT h w f a i) (CT h w f a i).2.2.2 (.sr 60 T3 0 (CT h w f a i).2.1.length) 0⟩) ?_ (AC [(50,.nm 50),(51,.nm 51),(52,.nm 52),(101,.nm 101),(102,.nm 102),(6,.nm 6),(7,.nm 7),(8,.nm 8),(4,.nm 4),(11,.nm 11),(60,.nm 60),(12,.nm 12),(13,.nm 13),(24,.nm 24)] rfl rfl ?_ ?_)
    .refine Mv c (yn:=101) rfl rfl sc j ⟨false,rfl,.inl ⟨g,rfl,?_⟩⟩;simp only[dO,Dj,dE,HF,go_sem,Nat.reduceEqDiff,reduceCtorEq,Nat.reduceAdd,Nat.reduceSub,Nat.reduceMul,Nat.reduceLeDiff,Nat.reduceLT,Int.reduceLE,Int.reduceToNat,Int.reduceNeg,↓reduceIte]
    .simp only[dO,Dj,dE];first|exact eN|refine eM ?_
    first|exact eN|refine eM ?_
   .have g:Ni h w f la (CT h w f a i)=some ([],13):=(At a4).trans (by rw[An (d a4)]);refine Ev.ent (σ':=⟨[],dO h w f { L with state:=.busy } o la (CT h w f a i) (CT h w f a i).2.2.2 (.raw (.slice none 0 0)) 13⟩) ?_ (AC [(50,.nm 50),(51,.nm 51),(52,.nm 52),(101,.nm 101),(102,.nm 102),(6,.nm 6),(7,.nm 7),(8,.nm 8),(4,.nm 4),(11,.nm 11),(60,.nm 60),(12,.nm 12),(13,.nm 13),(24,.nm 24)] rfl rfl ?_ ?_)
    .refine Mv c (yn:=101) rfl rfl sc j ⟨false,rfl,.inr (.inl ⟨13,g,rfl,?_⟩)⟩;simp only[dO,Dj,dE,HF,go_sem,Nat.reduceEqDiff,reduceCtorEq,Nat.reduceAdd,Nat.reduceSub,Nat.reduceMul,Nat.reduceLeDiff,Nat.reduceLT,Int.reduceLE,Int.reduceToNat,Int.reduceNeg,↓reduceIte]
    .simp only[dO,Dj,dE];first|exact eN|refine eM ?_
    first|exact eN|refine eM ?_
   .have S:(CT h w f a i).2.2.2∈(CT h w f a i).1:=by
     have r:(BV T3 .bool (CT h w f a i).2.2.2 (LH (CT h w f a i).1)).getD false=true:=by assumption
     rw[v]at r;simpa[inF] using r
    have g:Ni h w f la (CT h w f a i)=some ([],6):=(An a4).trans (At S);refine Ev.ent (σ':=⟨[],dO h w f { L with state:=.busy } o la (CT h w f a i) (CT h w f a i).2.2.2 (.raw (.slice none 0 0)) 6⟩) ?_ (AC [(50,.nm 50),(51,.nm 51),(52,.nm 52),(101,.nm 101),(102,.nm 102),(6,.nm 6),(7,.nm 7),(8,.nm 8),(4,.nm 4),(11,.nm 11),(60,.nm 60),(12,.nm 12),(13,.nm 13),(24,.nm 24)] rfl rfl ?_ ?_)
    .refine Mv c (yn:=101) rfl rfl sc j ⟨false,rfl,.inr (.inl ⟨6,g,rfl,?_⟩)⟩;simp only[dO,Dj,dE,HF,go_sem,Nat.reduceEqDiff,reduceCtorEq,Nat.reduceAdd,Nat.reduceSub,Nat.reduceMul,Nat.reduceLeDiff,Nat.reduceLT,Int.reduceLE,Int.reduceToNat,Int.reduceNeg,↓reduceIte]
    .simp only[dO,Dj,dE];first|exact eN|refine eM ?_
    first|exact eN|refine eM ?_
   .have z:(CT h w f a i).2.2.2∉(CT h w f a i).1:=by
     have r:(BV T3 .bool (CT h w f a i).2.2.2 (LH (CT h w f a i).1)).getD false=false:=by assumption
     rw[v]at r;intro y;have:=AD1.1 r _ y;simp at this
    have g:Ni h w f la (CT h w f a i)=some ([],13):=(An a4).trans ((An z).trans (An a4));refine Ev.ent (σ':=⟨[],dO h w f { L with state:=.busy } o la (CT h w f a i) (CT h w f a i).2.2.2 (.raw (.slice none 0 0)) 13⟩) ?_ (AC [(50,.nm 50),(51,.nm 51),(52,.nm 52),(101,.nm 101),(102,.nm 102),(6,.nm 6),(7,.nm 7),(8,.nm 8),(4,.nm 4),(11,.nm 11),(60,.nm 60),(12,.nm 12),(13,.nm 13),(24,.nm 24)] rfl rfl ?_ ?_)
    .refine Mv c (yn:=101) rfl rfl sc j ⟨false,rfl,.inr (.inl ⟨13,g,rfl,?_⟩)⟩;simp only[dO,Dj,dE,HF,go_sem,Nat.reduceEqDiff,reduceCtorEq,Nat.reduceAdd,Nat.reduceSub,Nat.reduceMul,Nat.reduceLeDiff,Nat.reduceLT,Int.reduceLE,Int.reduceToNat,Int.reduceNeg,↓reduceIte]
    .simp only[dO,Dj,dE];first|exact eN|refine eM ?_
    first|exact eN|refine eM ?_
   .refine⟨⟨k,A⟩,?_⟩;have:=k.1;simp only[AP];omega
   have z:(CT h w f a i).2.2.2∉(CT h w f a i).1:=by
    have r:(BV T3 .bool (CT h w f a i).2.2.2 (LH (CT h w f a i).1)).getD false=false:=by assumption
    rw[v]at r;intro y;have:=AD1.1 r _ y;simp at this
   have hk:FC h w (AU f (CT h w f a i).2.2.2)=2:=by simpa using d
   have g:Ni h w f la (CT h w f a i)=none:=(An a4).trans ((An z).trans (At hk));have W:(CT h w f a (i+1)).2.1=(CT h w f a i).2.1++[BT (AU f (CT h w f a i).2.2.2).2 w.first]:=At hk;refine Ev.ent (σ':=⟨[],dO h w f { L with state:=.busy } o la (CT h w f a (i+1)) (CT h w f a i).2.2.2 (.raw (.slice none 0 0)) 0⟩) ?_ (AC [(50,.nm 50),(51,.nm 51),(52,.nm 52),(101,.nm 101),(102,.nm 102),(6,.nm 6),(7,.nm 7),(8,.nm 8),(4,.nm 4),(11,.nm 11),(60,.nm 60),(12,.nm 12),(13,.nm 13),(24,.nm 24)] rfl rfl ?_ ?_)
   .refine Xr c (yn:=101) rfl rfl sc j ⟨true,rfl,.inr (.inr ⟨g,rfl,?_⟩)⟩;simp only[dO,Dj,dE,go_sem,Nat.reduceEqDiff,reduceCtorEq,Nat.reduceAdd,Nat.reduceSub,Nat.reduceMul,Nat.reduceLeDiff,Nat.reduceLT,Int.reduceLE,Int.reduceToNat,Int.reduceNeg,↓reduceIte,fY B J]
   .simp only[dO,Dj,dE,V,W];first|exact eN|refine eM ?_
   first|exact eN|refine eM ?_
  .simp only[Bh,dO,Dj,dE,CT];first|exact eN|refine eM ?_
  .simp only[Bh,dO,Dj,dE,CT];first|exact eN|refine eM ?_
   rfl
  rintro _ _ ⟨rfl,i,hi,Q⟩;rcases Q with ⟨g,-,rfl⟩|⟨e,g,-,rfl⟩|⟨g,q,rfl⟩
  .have s:=Yw k t u hi g;refine⟨[(50,.nm 50),(51,.nm 51),(52,.nm 52),(101,.nm 101),(102,.nm 102),(6,.nm 6),(7,.nm 7),(8,.nm 8),(4,.nm 4),(11,.nm 11),(60,.nm 60),(12,.nm 12),(13,.nm 13),(24,.nm 24)],dO h w f (HF L) o la (CT h w f a i) (CT h w f a i).2.2.2 (.sr 60 T3 0 (CT h w f a i).2.1.length) 0,HF L,rfl,rfl,?_,rfl,rfl,rfl,rfl,?_⟩
   .simp only[dO,Dj,dE];first|exact eN|refine eM ?_
   intro b;simp only[HF,EvJ,dO,Dj,dE,Bh,go_sem,Nat.reduceEqDiff,reduceCtorEq,Nat.reduceAdd,Nat.reduceSub,Nat.reduceMul,Nat.reduceLeDiff,Nat.reduceLT,Int.reduceLE,Int.reduceToNat,Int.reduceNeg,↓reduceIte];replace c:=Q5 (dn:=103) (b:=b) c;refine C9 [60] ?_;repeat'(first|exact a6|apply eS rfl|apply AB|refine rX c ?_ ?_|refine rC ?_ ?_<;>intro d<;>try(cases d;done))
   refine Ev.ent (σ':=⟨[(6,.bp 6 [] 0),(7,.bp 7 [] 0)],[(6,.box 101 false [.p CH (CT h w f a i).2.1]),(7,.box 35 false [.p C3 0]),(103,.dfr)]⟩) ?_ (AC [(6,.nm 6),(7,.nm 7),(103,.nm 103)] rfl rfl ?_ ?_)
   .rw[s];exact U4 c [.cell 6 101,.cell 7 35] rfl (.inl rfl) rfl rfl (.tup [.p CH (CT h w f a i).2.1,.p C3 0]) eT rfl
   .first|exact eN|refine eM ?_
   first|exact eN|refine eM ?_
  .have s:=Yw k t u hi g;refine⟨[(50,.nm 50),(51,.nm 51),(52,.nm 52),(101,.nm 101),(102,.nm 102),(6,.nm 6),(7,.nm 7),(8,.nm 8),(4,.nm 4),(11,.nm 11),(60,.nm 60),(12,.nm 12),(13,.nm 13),(24,.nm 24)],dO h w f (HF L) o la (CT h w f a i) (CT h w f a i).2.2.2 (.raw (.slice none 0 0)) e,HF L,rfl,rfl,?_,rfl,rfl,rfl,rfl,?_⟩
   .simp only[dO,Dj,dE];first|exact eN|refine eM ?_
   intro b;simp only[HF,EvJ,dO,Dj,dE,Bh,go_sem,Nat.reduceEqDiff,reduceCtorEq,Nat.reduceAdd,Nat.reduceSub,Nat.reduceMul,Nat.reduceLeDiff,Nat.reduceLT,Int.reduceLE,Int.reduceToNat,Int.reduceNeg,↓reduceIte];replace c:=Q5 (dn:=103) (b:=b) c;repeat'(first|exact a6|apply eS rfl|apply AB|refine rX c ?_ ?_|refine rC ?_ ?_<;>intro d<;>try(cases d;done))
   refine Ev.ent (σ':=⟨[(6,.bp 6 [] 0),(7,.bp 7 [] 0)],[(6,.box 101 false [.p CH []]),(7,.box 35 false [.p C3 e]),(103,.dfr)]⟩) ?_ (AC [(6,.nm 6),(7,.nm 7),(103,.nm 103)] rfl rfl ?_ ?_)
   .rw[s];exact U4 c [.cell 6 101,.cell 7 35] rfl (.inl rfl) rfl rfl (.tup [.p CH [],.p C3 e]) eT rfl
   .first|exact eN|refine eM ?_
   first|exact eN|refine eM ?_
  cases q
 .simp only[Dj];first|exact eN|refine eM ?_
 first|exact eN|refine eM ?_
end
section
attribute [local go_sem] Wf m5 aU aV Wg A1U Jk Io
def Mc:Ab:={ ins:=[GH,Ff,T3],pre:=λ(h,f,n,_)=>AX f/\DU h f/\(0:Int)<=n/\n<(List.length f:Int),out:=λ(h,f,n,_)=>[.p CH (AQ h f n).1,.p C3 (AQ h f n).2] }
attribute [local go_sem] Mc
theorem iD:Af Tryz.prog 130 Mc:=by
 refine XB ⟨_,Tryz.func130,a5,a5⟩ (λds e=>?_) (λds r a=>?_)
 .obtain⟨h,f,n,u⟩:=ds;obtain⟨h1,b,c,d⟩:=e;refine⟨[.p GH h,.p Ff f,.p T3 n],λw O t g=>?_,m7 h f n h1 b c d⟩;obtain⟨v1,o,rfl,i,l,q,rfl,j,m,s,rfl,k,rfl⟩:=g;exact⟨v1,_,rfl,U9 i,l,_,rfl,U9 j,m,_,rfl,U9 k,rfl⟩
 simp only[Mc,By,ABo,ACG]at a;rcases a with rfl|rfl
 .exact⟨_,_,rfl⟩
 exact⟨_,_,rfl⟩
end
section
attribute [local go_sem] v8 Xy K8 KY My Jk Io NG
def QV (h:AE) (f:List AD):Prop:=∀x∈f,∀a∈x.2,0<=a.1/\a.1<(h.2.length:Int)
def Rp (h:AE) (a:Int×Int):ByteArray:=(h.2.getD a.1.toNat (ByteArray.empty,0)).1
def GS (h:AE) (f:List AD) (a:Int×Int):Option RF:=if AK (Rp h a) ⟨#[76,65,66,69,76]⟩=false/\AK (Di h f a.2) ⟨#[]⟩=false then some (Rp h a,a.2) else none
def Yx (h:AE) (f:List AD) (n:Int):ByteArray:=(h.1.getD (AU f n).1.toNat RM).1
def FP (h:AE) (f:List AD) (n:Int):Bool:=Mb h ⟨#[114,101,108]⟩ (AU f n).1&&BG (Yx h f n) false&&AK (Di h f (AY h f n ⟨#[76,65,66,69,76]⟩)) ⟨#[104]⟩
def Bb (h:AE) (f:List AD) (n:Int):F2×Bool :=
 if FP h f n=true then ((Yx h f n,AY h f n ⟨#[76,65,66,69,76]⟩,(AU f n).2.filterMap (GS h f)),true) else ((Yx h f n,AY h f n ⟨#[76,65,66,69,76]⟩,[]),false)
def A1V (h:AE) (f:List AD):Prop:=GV h/\AX f/\DU h f/\QV h f
theorem JO (a:AX f) (n:Int) (s:ByteArray) (h0:0<f.length):AY h f n s<(f.length:Int):=by
 unfold AY;split
 .exact QD O1 _ λx b=>(QE a n.toNat x b).2
 omega
end
section
attribute [local go_sem] Mc
theorem Yy {h:AE} {w:LW} {f:List AD} {la:Int} (hf:AX f):∀(k:Nat) (c out:List Int) (n:Int),(∀x∈out,0<=x/\x<(f.length:Int))->(∀x∈(Dz h w f la k c out n).1,0<=x/\x<(f.length:Int))/\(Dz h w f la k c out n).1.length<=out.length+k/\((Dz h w f la k c out n).2≠0->(Dz h w f la k c out n).1=[])
 | 0,_,_,_,_=>⟨λx b=>(by cases b),GO _,λ_=>rfl⟩
 | k+1,c,out,n,i=>by
  have d:∀e:Int,(∀x∈(([],e):List Int×Int).1,0<=x/\x<(f.length:Int))/\(([],e):List Int×Int).1.length<=out.length+(k+1)/\((([],e):List Int×Int).2≠0->(([],e):List Int×Int).1=[]):=λe=>⟨λx b=>(by cases b),GO _,λ_=>rfl⟩;rw[Dz];cases a:Ro h w f la c out n with
  | some r =>
   unfold Ro at a;simp only;split at a
   .cases a;split
    .exact⟨i,Nat.le_add_right _ _,λq=>absurd rfl q⟩
    exact d 13
   split at a
   .cases a;exact d 6
   split at a
   .cases a
   cases a;exact d 13
  | none =>
   have hk:=(Hl a).2.2;have l:0<=BT (AU f n).2 w.first/\BT (AU f n).2 w.first<(f.length:Int):=by
    have j:=(Rb hk).1;have m:f.length≠0:=by
     intro q;have:f=[]:=List.length_eq_zero_iff.1 q;subst this;simp[BT,AU]at j
    exact⟨j,QD O1 _ λx b=>(QE hf n.toNat x b).2⟩
   have g:=Yy (h:=h) (w:=w) (la:=la) hf k (c++[n]) (out++[BT (AU f n).2 w.first]) (BT (AU f n).2 w.rest) (λx b=>by
    rcases IN.1 b with q|q
    .exact i x q
    rw[iS.1 q];exact l)
   refine⟨g.1,?_,g.2.2⟩;have:=g.2.1;rw[IS,nO]at this;simp only;omega
theorem Iz (hf:AX f) (n:Int):((∀x∈(AQ h f n).1,0<=x/\x<(f.length:Int))/\(AQ h f n).1.length<=200000)/\((AQ h f n).2≠0->(AQ h f n).1=[]):=by
 unfold AQ;split
 .split
  .exact⟨⟨λx a=>(by cases a),GO _⟩,λ_=>rfl⟩
  have:=Yy (h:=h) (w:=ED h) (la:=BT (AU f n).2 (ED h).last) hf (f.length+1) [] [] (BT (AU f n).2 (ED h).head) (λx a=>by cases a);have b:=hf.1;refine⟨⟨this.1,?_⟩,this.2.2⟩;have:=this.2.1;simp only[AAt]at this;omega
 exact⟨⟨λx a=>(by cases a),GO _⟩,λ_=>rfl⟩
end
section
attribute [local go_sem] v8 K8 KY My Jk Io NG
def S3 (h:AE) (f:List AD) (l:List Int) (i:Nat):Option Bool:=if (Bb h f (l.getD i 0)).2=true then none else some false
def BK (h:AE) (f:List AD) (s:Int):List F2×Int :=
 if AY h f s ⟨#[82,69,76,83]⟩<0 then ([],13) else if (AQ h f (AY h f s ⟨#[82,69,76,83]⟩)).2≠0 then ([],(AQ h f (AY h f s ⟨#[82,69,76,83]⟩)).2)
 else if Ap (S3 h f (AQ h f (AY h f s ⟨#[82,69,76,83]⟩)).1) true (AQ h f (AY h f s ⟨#[82,69,76,83]⟩)).1.length 0=true then ((AQ h f (AY h f s ⟨#[82,69,76,83]⟩)).1.map λx=>(Bb h f x).1,0) else ([],13)
def G4 (h:AE) (f:List AD) (n:Int):Bool:=Mb h ⟨#[113,101,113]⟩ (AU f n).1&&AK (Di h f (AY h f n ⟨#[72,73,71,72]⟩)) ⟨#[104]⟩&&AK (Di h f (AY h f n ⟨#[76,79,87]⟩)) ⟨#[104]⟩
def S4 (h:AE) (f:List AD) (l:List Int) (i:Nat):Option Bool:=if G4 h f (l.getD i 0)=true then none else some false
def QW (h:AE) (f:List AD) (n:Int):MD:=(AY h f n ⟨#[72,73,71,72]⟩,AY h f n ⟨#[76,79,87]⟩)
def BL (h:AE) (f:List AD) (s:Int):List MD×Int :=
 if AY h f s ⟨#[67,79,78,83]⟩<0 then ([],13) else if (AQ h f (AY h f s ⟨#[67,79,78,83]⟩)).2≠0 then ([],(AQ h f (AY h f s ⟨#[67,79,78,83]⟩)).2)
 else if Ap (S4 h f (AQ h f (AY h f s ⟨#[67,79,78,83]⟩)).1) true (AQ h f (AY h f s ⟨#[67,79,78,83]⟩)).1.length 0=true then ((AQ h f (AY h f s ⟨#[67,79,78,83]⟩)).1.map (QW h f),0) else ([],13)
end
end Go.Proofs.YtglkoagnnnpimaaGreatDoor.Fw
