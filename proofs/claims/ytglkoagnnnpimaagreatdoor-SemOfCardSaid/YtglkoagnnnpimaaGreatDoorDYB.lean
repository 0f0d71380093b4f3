/- Contracts of functions and plain laws. -/
import Derived.Test.YtglkoagnnnpimaaGreatDoorDYA
import Derived.Test.YtglkoagnnnpimaaGreatDoorDZI
import Derived.Test.YtglkoagnnnpimaaGreatDoorDZJ
import Derived.Laws.Strings
set_option linter.unusedVariables false
set_option linter.unusedSimpArgs false
namespace Go.Proofs.YtglkoagnnnpimaaGreatDoor.Fw
attribute [local irreducible] Ev
attribute [local go_sem] oM AL List.toList_toArray B6 evG evK XA FE Ld Ie HL Gf SC Lc Ce Dq PG DR C3 frz sT G0 De BD F9 Bg AV.frz AV.frzs AV.drp AV.drps AV.names AV.namess aq G1 LR LS UL J1 B2 CA Kw EU J4 EV J6 J5 J7 W8 R4 Hl Mn GB Ek W9 S1 qUn Kx JM N0 Fj EK J8 LU E3 UN C6 E4 Fk S2 JN PD Fl PC R6 S3 NX J9 LV Df DJ Fs EL I0 DZ Fm Da E5 Ge DR C9 PA S0 Qy HG J3 J2 LT PE R9 NY N4 N2 LY UO N3 LZ b5 SB SA AV.trn AV.trns ET C5 Obj.trn K5 kK Dd D1 Db E6 Cl Fq Ai lk IZ G8 Iy bin sR ZE sV UM UJ zfx AV.cellss sS zfs pfs AV.cells CW E2 JL GC R8 CX PB Ty.cell1 J0 FI EJ Gc Ix E1 LI NW O9 Gb HF Nz UI W7 NL LH bX jH UK Ia DA Hk RV.flat Ty.flat Ty.size St.add upd del Bl Value.oneCell' ZC Ty.dflt Jz TV JT Tc List.take_succ_cons List.take_zero List.length_cons oQ oT Ta Lv Pi JV M0 A3E HN PX PY PZ Pa Uk Ul Pb KJ Za Option.map_some Option.map_none Option.bind_some Option.getD_some Option.getD_none Option.isNone_none Option.isNone_some Bool.and_true Bool.true_and Bool.and_false Bool.false_and Bool.not_true Bool.not_false if_true if_false List.length_cons List.length_nil and_true true_and and_self List.all_cons List.all_nil List.append_nil List.nil_append List.cons_append List.getElem?_cons_zero List.getElem?_cons_succ List.getElem?_nil List.map_cons List.map_nil List.set_cons_zero List.set_cons_succ List.isEmpty_nil List.isEmpty_cons decide_true decide_false beq_self_eq_true bne_self_eq_false Nat.zero_add Nat.add_zero Nat.sub_zero Int.toNat_natCast Int.toNat_zero Int.toNat_one List.take_length List.length_append List.length_singleton true_or or_true or_self false_or or_false Ty.agg.injEq Ty.slice.injEq Ty.prod.injEq Ty.int.injEq Option.some.injEq beq_iff_eq Lt evMG evMQ opM I9 Nc CH K4 HO Uo K3 I8 KK My Ls Q7 Pe Q8 Uq Pd TX TY Mx Af Al Op.operands Call.operands List.filterMap_cons List.filterMap_nil List.append_eq Bool.cond_false_right Bool.cond_true_left cond_true cond_false implies_true decide_eq_true_eq beq_true beq_false Bool.or_true Bool.or_false Bool.true_or Bool.false_or Option.isSome_some Array.empty_append List.append_toArray GA PH Ft Ib b4 R7 b3 Gd Hb Ha JO Iz LX N1 ZF sU HZ inB La GV HH Lb Ap oX List.drop_zero EE Ih dH DC OH C2 AV.fgt AV.fgts Obj.fgt A4 A1 Af EZ Lx B3 Ly List.any_cons List.any_nil o0 kD dJ kE NN S6 qs List.flatMap_cons List.flatMap_nil List.cons_append tn dP Nf List.take_succ_cons List.drop_succ_cons dR Hw Bh yY RH CZ Cw Ao Fv Lm CC matchAVs DK I7 KH Hs KI
attribute [local go_sem] ty1 ty2 ty3 ty4 ty5 ty9 A76 A77 A78 A79 A7a A7b A7c A7d A7e A7f A7g A7h A7i A7j A7k A7l A7m A7n A7o A7p A7q A7r A7s A7t A7u A7v A7w A7x zB zC zD zE zF zG zH zI zJ zK zL zN zO zP zQ zR zS zT zU zV zW zX zY zZ z0 z4 z5 z6 z7 z8 z9 A00 A01 A02 A03 A04 A05 A06
set_option maxRecDepth 100000
set_option maxHeartbeats 4000000
variable {f g c:List AD} {p q Q:List Int} {x b S:Int} {k j P:Nat} {h:AG} {l U:List (Int×Int)} {s t y:ByteArray} {Z:List (Int×List (Int×Int))} {Y:List (List (Int×Int))} {A:List (List AD)} {m w:Int->Int} {X:Type} {a:Int->Nat} {W d:EF} {V:List (Int×Bool)} {T:List (List Int)} {v:Int×Int} {R:List Bool} {O:AD} {N:AR}
section
attribute [local go_sem] IA
theorem A18 (h:MO l) {i:Nat} (c:i<j) (a:j<l.length):(l.getD i (0,0)).1<(l.getD j (0,0)).1:=by
 induction j with
 | zero=>omega
 | succ j b =>
  have h1:=h j a;by_cases e:i=j
  .rw[e];exact h1
  exact Int.lt_trans (b O1 O1) h1
theorem mJ {y:Int} (h:y<x) (a:QF x y<0):False:=by
 unfold QF at a
 (repeat' split at a)<;>omega
def GR (l:List (Int×Int)) (s:Nat):List (Nat×Obj):=[(1000000,.arr 59 DH l),(70,.box 3 false [.p T3 (s:Int)])]
theorem V0 (l:List (Int×Int)) (so:MO l) (a b s:Nat) (ab:a<b) (f:b<l.length) (hs:s<=1000):BE Tryz.prog 217 [.sr 1000000 DH 0 l.length,.p T3 (a:Int),.p T3 (b:Int),.bp 70 [] 0,.fn 140] (GR l s) [1000000,70] (λres g=>res=.tup [.p T3 (a:Int),.p T3 (b:Int)]/\g=GR l s):=by
 refine Jx [0,1,2,3,4,10,11,22] [] [] Tryz.func217 Tryz.ntmps217 (AE Ke AH) ?_;intro w0 K O0 ρ0 d i j;simp only[Ap,GR];have h:a<l.length:=by omega
 have e:=A18 so ab f;repeat'(first|exact a6|apply eS rfl|apply AB|refine rX d ?_ ?_|refine rC ?_ ?_<;>intro c<;>try(cases c;done))
 .exact kO
 .exact(mJ e c).elim
 .exact(mJ e c).elim
 exact fM d [.tmp 10,.tmp 11] (.tup [.p T3 (a:Int),.p T3 (b:Int)]) eT ⟨rfl,rfl⟩
theorem aC (l:List (Int×Int)) (so:MO l) (a b c s:Nat) (ab:a<b) (f:b<c) (cl:c<l.length) (hs:s<=900):BE Tryz.prog 216 [.sr 1000000 DH 0 l.length,.p T3 (a:Int),.p T3 (b:Int),.p T3 (c:Int),.bp 70 [] 0,.fn 140] (GR l s) [1000000,70] (λres g=>res=.p T3 (b:Int)/\g=GR l s):=by
 refine Jx [0,1,2,3,4,5,12] [] [] Tryz.func216 Tryz.ntmps216 AH ?_;intro w0 K O0 ρ0 d h i;simp only[Ap,GR];repeat'(first|exact a6|apply eS rfl|apply AB|refine rX d ?_ ?_|refine rC ?_ ?_<;>intro e<;>try(cases e;done))
 refine cP 5 d ?_ ?_
 .trivial
 refine rM d (V0 l so a b s ab O1 O1) [(1000000,.nm 1000000),(70,.nm 70)] [] ?_ ?_ ?_
 .first|exact eN|refine eM ?_
 .simp only[GR];first|exact eN|refine eM ?_
 rintro _ _ ⟨rfl,rfl⟩;refine⟨[(1000000,.nm 1000000),(70,.nm 70)],.tup [.p T3 (a:Int),.p T3 (b:Int)],[(1000000,.arr 59 DH l),(70,.box 3 false [.p T3 (s:Int)])],rfl,rfl,?_,?_,rfl,rfl,?_⟩
 .simp only[GR];first|exact eN|refine eM ?_
 .first|exact eN|refine eM ?_
 refine rL d ?_ ?_
 .trivial
 repeat'(first|exact a6|apply eS rfl|apply AB|refine rX d ?_ ?_|refine rC ?_ ?_<;>intro e<;>try(cases e;done))
 refine cP 5 d ?_ ?_
 .trivial
 refine rM d (V0 l so b c s f cl O1) [(1000000,.nm 1000000),(70,.nm 70)] [] ?_ ?_ ?_
 .first|exact eN|refine eM ?_
 .simp only[GR];first|exact eN|refine eM ?_
 rintro _ _ ⟨rfl,rfl⟩;refine⟨[(1000000,.nm 1000000),(70,.nm 70)],.tup [.p T3 (b:Int),.p T3 (c:Int)],[(1000000,.arr 59 DH l),(70,.box 3 false [.p T3 (s:Int)])],rfl,rfl,?_,?_,rfl,rfl,?_⟩
 .simp only[GR];first|exact eN|refine eM ?_
 .first|exact eN|refine eM ?_
 refine rL d ?_ ?_
 .trivial
 repeat'(first|exact a6|apply eS rfl|apply AB|refine rX d ?_ ?_|refine rC ?_ ?_<;>intro e<;>try(cases e;done))
 refine cP 5 d ?_ ?_
 .trivial
 refine rM d (V0 l so a b s ab O1 O1) [(1000000,.nm 1000000),(70,.nm 70)] [] ?_ ?_ ?_
 .first|exact eN|refine eM ?_
 .simp only[GR];first|exact eN|refine eM ?_
 rintro _ _ ⟨rfl,rfl⟩;refine⟨[(1000000,.nm 1000000),(70,.nm 70)],.tup [.p T3 (a:Int),.p T3 (b:Int)],[(1000000,.arr 59 DH l),(70,.box 3 false [.p T3 (s:Int)])],rfl,rfl,?_,?_,rfl,rfl,?_⟩
 .simp only[GR];first|exact eN|refine eM ?_
 .first|exact eN|refine eM ?_
 refine rL d ?_ ?_
 .trivial
 repeat'(first|exact a6|apply eS rfl|apply AB|refine rX d ?_ ?_|refine rC ?_ ?_<;>intro e<;>try(cases e;done))
 exact fM d [.tmp 12] (.p T3 (b:Int)) eT ⟨rfl,rfl⟩
theorem aD (l:List (Int×Int)) (so:MO l) (b s:Nat) (f:1<=b) (d:b+1<l.length) (g:l.length<=100000) (hs:s<=900):BE Tryz.prog 215 [.sr 1000000 DH 0 l.length,.p T3 (b:Int),.bp 70 [] 0,.fn 140] (GR l s) [1000000,70] (λres e=>res=.p T3 (b:Int)/\e=GR l s):=by
 refine Jx [0,1,2,3,8] [] [] Tryz.func215 Tryz.ntmps215 AH ?_;intro w0 K O0 ρ0 a h i;simp only[Ap,GR];have key:=aC l so (b-1) b (b+1) s O1 O1 d hs;rw[show ((b-1:Nat):Int)=(b:Int)-1 by omega,show ((b+1:Nat):Int)=(b:Int)+1 by omega]at key;repeat'(first|exact a6|apply eS rfl|apply AB|refine rX a ?_ ?_|refine rC ?_ ?_<;>intro c<;>try(cases c;done))
 refine cP 8 a ?_ ?_
 .exact kO
 refine rM a (key) [(1000000,.nm 1000000),(70,.nm 70)] [] ?_ ?_ ?_
 .first|exact eN|refine eM ?_
 .simp only[GR];first|exact eN|refine eM ?_
 rintro _ _ ⟨rfl,rfl⟩;refine⟨[(1000000,.nm 1000000),(70,.nm 70)],.p T3 (b:Int),[(1000000,.arr 59 DH l),(70,.box 3 false [.p T3 (s:Int)])],rfl,rfl,?_,?_,rfl,rfl,?_⟩
 .simp only[GR];first|exact eN|refine eM ?_
 .first|exact eN|refine eM ?_
 refine rL a ?_ ?_
 .trivial
 repeat'(first|exact a6|apply eS rfl|apply AB|refine rX a ?_ ?_|refine rC ?_ ?_<;>intro c<;>try(cases c;done))
 exact fM a [.tmp 8] (.p T3 (b:Int)) eT ⟨rfl,rfl⟩
theorem A4s (l:List (Int×Int)) (d:l.length<=100000) (so:MO l) (a b:Nat) (h:a+13<=b) (i:b<=l.length):BE Tryz.prog 203 [.sr 1000000 DH 0 l.length,.p T3 (a:Int),.p T3 (b:Int),.fn 140] [(1000000,.arr 59 DH l)] [1000000] (λres g=>(∃j:Nat,res=.tup [.p T3 (j:Int),.p T3 (1:Int)])/\g=[(1000000,.arr 59 DH l)]):=by
 refine Jx [0,1,2,3,8,9,10,11,12,13,14,34,36,55,57,60] [] [] Tryz.func203 Tryz.ntmps203 AH ?_;intro w0 K O0 ρ0 c k m;simp only[Ap];obtain⟨t,ht⟩:∃t,t=(b-a) / 4:=⟨_,rfl⟩;have et:((b:Int)-(a:Int)).tdiv 4=(t:Int):=by
  rw[ABp O1];omega
 have n:4*t<=b-a:=by omega
 have o:3<=t:=by omega
 clear ht
 (apply eS rfl;refine rX c ?_ ?_;(next=>first|exact a6|exact kO))
 (apply eS rfl;refine rX c ?_ ?_;(next=>first|exact a6|exact kO))
 (apply eS rfl;refine rX c ?_ ?_;(next=>first|exact a6|exact kO))
 (apply eS rfl;refine rX c ?_ ?_;(next=>first|exact a6|exact kO|(rw[et];refine⟨⟨df,?_⟩,?_,?_⟩<;>omega)))
 (apply eS rfl;refine rX c ?_ ?_;(next=>first|exact a6|exact kO|(rw[et];refine⟨⟨df,?_⟩,?_,?_⟩<;>omega)))
 (apply eS rfl;refine rX c ?_ ?_;(next=>first|exact a6|exact kO|(rw[et];refine⟨⟨df,?_⟩,?_,?_⟩<;>omega)))
 rw[et,show (a:Int)+(t:Int)*1=((a+t:Nat):Int) by omega,show (a:Int)+(t:Int)*2=((a+t*2:Nat):Int) by omega,show (a:Int)+(t:Int)*3=((a+t*3:Nat):Int) by omega];refine Ug ?_;refine A3C (ι:=Unit) (λ_=>⟨[(11,.bp 11 [] 0),(13,.p T3 ((a+t*2:Nat):Int))],[(1000000,.arr 59 DH l),(11,.box 3 false [.p T3 (0:Int)])]⟩) ?_ (λx=>?_)
 .repeat'(first|exact a6|apply eS rfl|apply AB|refine rX c ?_ ?_)
  refine rC ?_ ?_<;>intro e
  .repeat'(first|exact a6|apply eS rfl|apply AB|refine rX c ?_ ?_)
   refine rC (λf=>?_) (λf=>?_)
   .repeat'(first|exact a6|apply eS rfl|apply AB|refine rP c ?_ ?_|fail)
    refine cP 3 c ?_ ?_
    .trivial
    refine rM c (aD l so (a+t) 0 O1 O1 d O1) [(1000000,.nm 1000000),(70,.nm 11)] [] ?_ ?_ ?_
    .first|exact eN|refine eM ?_
    .simp only[GR];first|exact eN|refine eM ?_
    rintro _ _ ⟨rfl,rfl⟩;refine⟨[(1000000,.nm 1000000),(11,.nm 70)],.p T3 ((a+t:Nat):Int),[(1000000,.arr 59 DH l),(11,.box 3 false [.p T3 (0:Int)])],rfl,rfl,?_,?_,rfl,rfl,?_⟩
    .simp only[GR];first|exact eN|refine eM ?_
    .first|exact eN|refine eM ?_
    refine rL c ?_ ?_
    .trivial
    repeat'(first|exact a6|apply eS rfl|apply AB|refine rX c ?_ ?_)
    refine cP 3 c ?_ ?_
    .trivial
    refine rM c (aD l so (a+t*2) 0 O1 O1 d O1) [(1000000,.nm 1000000),(70,.nm 11)] [] ?_ ?_ ?_
    .first|exact eN|refine eM ?_
    .simp only[GR];first|exact eN|refine eM ?_
    rintro _ _ ⟨rfl,rfl⟩;refine⟨[(1000000,.nm 1000000),(11,.nm 70)],.p T3 ((a+t*2:Nat):Int),[(1000000,.arr 59 DH l),(11,.box 3 false [.p T3 (0:Int)])],rfl,rfl,?_,?_,rfl,rfl,?_⟩
    .simp only[GR];first|exact eN|refine eM ?_
    .first|exact eN|refine eM ?_
    refine rL c ?_ ?_
    .trivial
    repeat'(first|exact a6|apply eS rfl|apply AB|refine rX c ?_ ?_)
    refine cP 3 c ?_ ?_
    .trivial
    refine rM c (aD l so (a+t*3) 0 O1 O1 d O1) [(1000000,.nm 1000000),(70,.nm 11)] [] ?_ ?_ ?_
    .first|exact eN|refine eM ?_
    .simp only[GR];first|exact eN|refine eM ?_
    rintro _ _ ⟨rfl,rfl⟩;refine⟨[(1000000,.nm 1000000),(11,.nm 70)],.p T3 ((a+t*3:Nat):Int),[(1000000,.arr 59 DH l),(11,.box 3 false [.p T3 (0:Int)])],rfl,rfl,?_,?_,rfl,rfl,?_⟩
    .simp only[GR];first|exact eN|refine eM ?_
    .first|exact eN|refine eM ?_
    refine rL c ?_ ?_
    .trivial
    repeat'(first|exact a6|apply eS rfl|apply AB|refine rX c ?_ ?_)
    refine cP 5 c ?_ ?_
    .trivial
    refine rM c (aC l so (a+t) (a+t*2) (a+t*3) 0 O1 O1 O1 O1) [(1000000,.nm 1000000),(70,.nm 11)] [] ?_ ?_ ?_
    .first|exact eN|refine eM ?_
    .simp only[GR];first|exact eN|refine eM ?_
    rintro _ _ ⟨rfl,rfl⟩;refine⟨[(1000000,.nm 1000000),(11,.nm 70)],.p T3 ((a+t*2:Nat):Int),[(1000000,.arr 59 DH l),(11,.box 3 false [.p T3 (0:Int)])],rfl,rfl,?_,?_,rfl,rfl,?_⟩
    .simp only[GR];first|exact eN|refine eM ?_
    .first|exact eN|refine eM ?_
    refine rL c ?_ ?_
    .trivial
    repeat'(first|exact a6|apply eS rfl|apply AB|refine rX c ?_ ?_)
    refine⟨(),AC [(1000000,.nm 1000000),(11,.nm 11)] rfl rfl ?_ ?_⟩
    .first|exact eN|refine eM ?_
    first|exact eN|refine eM ?_
   repeat'(first|exact a6|apply eS rfl|apply AB|refine rP c ?_ ?_|fail)
   refine cP 5 c ?_ ?_
   .trivial
   refine rM c (aC l so (a+t) (a+t*2) (a+t*3) 0 O1 O1 O1 O1) [(1000000,.nm 1000000),(70,.nm 11)] [] ?_ ?_ ?_
   .first|exact eN|refine eM ?_
   .simp only[GR];first|exact eN|refine eM ?_
   rintro _ _ ⟨rfl,rfl⟩;refine⟨[(1000000,.nm 1000000),(11,.nm 70)],.p T3 ((a+t*2:Nat):Int),[(1000000,.arr 59 DH l),(11,.box 3 false [.p T3 (0:Int)])],rfl,rfl,?_,?_,rfl,rfl,?_⟩
   .simp only[GR];first|exact eN|refine eM ?_
   .first|exact eN|refine eM ?_
   refine rL c ?_ ?_
   .trivial
   repeat'(first|exact a6|apply eS rfl|apply AB|refine rX c ?_ ?_)
   refine⟨(),AC [(1000000,.nm 1000000),(11,.nm 11)] rfl rfl ?_ ?_⟩
   .first|exact eN|refine eM ?_
   first|exact eN|refine eM ?_
  exfalso;omega
 repeat'(first|exact a6|apply eS rfl|apply AB|refine rX c ?_ ?_|refine rC ?_ ?_<;>intro e<;>try(cases e;done))
 refine Ev.ent (σ':=⟨[(8,.p T3 ((a+t*2:Nat):Int)),(9,.p T3 (1:Int))],[(1000000,.arr 59 DH l)]⟩) ?_ (AC [(1000000,.nm 1000000)] rfl rfl ?_ ?_)
 .exact fM c [.tmp 8,.tmp 9] (.tup [.p T3 ((a+t*2:Nat):Int),.p T3 (1:Int)]) eT ⟨⟨_,rfl⟩,rfl⟩
 .first|exact eN|refine eM ?_
 first|exact eN|refine eM ?_
theorem A4t (l:List (Int×Int)) (q:l.length<=100000) (so:MO l) (n0:0<l.length):BE Tryz.prog 205 [.sr 1000000 DH 0 l.length,.p T3 (0:Int),.p T3 (l.length:Int),.fn 140] [(1000000,.arr 59 DH l)] [1000000] (λres n=>res=.p .bool true/\n=[(1000000,.arr 59 DH l)]):=by
 refine Jx [0,1,2,3,8,9,10,11,12,16,36,41,45,65,69,84,104,109,124] [] [] Tryz.func205 Tryz.ntmps205 (AE Ke AH) ?_;intro w0 K O0 ρ0 a r t;simp only[Ap];repeat'(first|exact a6|apply eS rfl|apply AB|refine rX a ?_ ?_|refine rC ?_ ?_<;>intro c<;>try(cases c;done))
 .exact kO
 refine AI (ι:=Unit) (λs=>⟨[(0,.sr 1000000 DH 0 l.length),(1,.p T3 (0:Int)),(2,.p T3 (l.length:Int)),(3,.fn 140),(9,.p (.int .i64) (1:Int)),(10,.p (.int .i64) (0:Int))],[(1000000,.arr 59 DH l)]⟩) (λs=>0) () (AC [(1000000,.nm 1000000)] rfl rfl ?_ ?_) (λs=>?_)
 .first|exact eN|refine eM ?_
 .first|exact eN|refine eM ?_
  rfl
 repeat'(first|exact a6|apply eS rfl|apply AB|refine rX a ?_ ?_)
 refine rC ?_ ?_<;>intro c
 .repeat'(first|exact a6|apply eS rfl|apply AB|refine rX a ?_ ?_)
  refine AI (ι:={k:Nat//1<=k/\k<=l.length}) (λs=>⟨[(0,.sr 1000000 DH 0 l.length),(1,.p T3 (0:Int)),(2,.p T3 (l.length:Int)),(3,.fn 140),(9,.p (.int .i64) (s.1:Int)),(10,.p (.int .i64) (0:Int))],[(1000000,.arr 59 DH l)]⟩) (λs=>l.length-s.1) ⟨1,On _,n0⟩ (AC [(1000000,.nm 1000000)] rfl rfl ?_ ?_) (λs=>?_)
  .first|exact eN|refine eM ?_
  .first|exact eN|refine eM ?_
   rfl
  obtain⟨k,e,f⟩:=s;simp only at e f ⊢;have d:((k:Int)-1).toNat=k-1:=by omega
  repeat'(first|exact a6|apply eS rfl|apply AB|refine rX a ?_ ?_)
  .dsimp only[Ty.den];exact⟨λ_=>by omega,λ_=>by omega,λ_=>by omega⟩
  refine Ui a1 ?_ ?_
  .intro b;simp only[AT,IN,bY,aS]at b;obtain⟨h1,o⟩:=b;repeat'(first|exact a6|apply eS rfl|apply AB|refine rX a ?_ ?_)
   .exact kO
   refine⟨⟨k+1,O1,O1⟩,a2,AC [(1000000,.nm 1000000)] rfl rfl ?_ ?_⟩
   .first|exact eN|refine eM ?_
   first|exact eN|refine eM ?_
  intro b;rw[d]at b;have g:k=l.length:=by
   refine DO λhn=>?_;have m:=A18 so (i:=k-1) (j:=k) O1 O1;simp only[AB0,aS,ABx,IN]at b;rcases b with h|h
   .omega
   exact mJ m h
  subst g;clear b;repeat'(first|exact a6|apply eS rfl|apply AB|refine rX a ?_ ?_|refine rC ?_ ?_<;>intro c<;>try(cases c;done))
  exact fM a [.tmp 8] (.p .bool true) eT ⟨rfl,rfl⟩
 exfalso;simp at c
theorem A4u (l:List (Int×Int)) (u:l.length<=200) (nd:YU l) (so:l.length<=12\/MO l) (c:Int) (m:13<=l.length->c≠0):BE Tryz.prog 190 [.sr 1000000 DH 0 l.length,.p T3 (0:Int),.p T3 (l.length:Int),.p T3 c,.fn 140] [(1000000,.arr 59 DH l)] [1000000] (λres t=>res=.raw (.tuple #[])/\t=[(1000000,.arr 59 DH (Ae l))]):=by
 refine Jx [0,1,2,3,4,10,11,12,13,14,15,16,17,18,19,20,25,32,39,56,75,80,97,125] [] [] Tryz.func190 Tryz.ntmps190 AH ?_;intro w0 K O0 ρ0 a v w;simp only[Ap];repeat'(first|exact a6|apply eS rfl|apply AB|refine rX a ?_ ?_)
 refine AI (ι:=Unit) (λs=>⟨[(0,.sr 1000000 DH 0 l.length),(1,.p T3 (0:Int)),(2,.p T3 (l.length:Int)),(3,.p T3 c),(4,.fn 140),(10,.p .bool true),(11,.p .bool true)],[(1000000,.arr 59 DH l)]⟩) (λs=>0) () (AC [(1000000,.nm 1000000)] rfl rfl ?_ ?_) (λs=>?_)
 .first|exact eN|refine eM ?_
 .first|exact eN|refine eM ?_
 repeat'(first|exact a6|apply eS rfl|apply AB|refine rX a ?_ ?_)
 .exact kO
 refine rC ?_ ?_<;>intro b
 .have key:=A4o l O1 (A7I nd) 0 l.length O1 (On _);rw[show ((0:Nat):Int)=0 from rfl]at key;repeat'(first|exact a6|apply eS rfl|apply AB|refine rX a ?_ ?_)
  refine cP 4 a ?_ ?_
  .trivial
  refine rM a (key) [(1000000,.nm 1000000)] [] ?_ ?_ ?_
  .first|exact eN|refine eM ?_
  .first|exact eN|refine eM ?_
  rintro _ _ ⟨rfl,r,rfl,n,o⟩;have h:=mI nd n.perm o;subst h;have x:=Cb l;refine⟨[(1000000,.nm 1000000)],.raw (.tuple #[]),[(1000000,.arr 59 DH (Ae l))],rfl,rfl,?_,?_,rfl,rfl,FG ?_⟩
  .first|exact eN|refine eM ?_
  .first|exact eN|refine eM ?_
  repeat'(first|exact a6|apply eS rfl|apply AB|refine rX a ?_ ?_|refine rC ?_ ?_<;>intro b<;>try(cases b;done))
  exact fM a [] (.raw (.tuple #[])) rfl ⟨rfl,rfl⟩
 have i:13<=l.length:=by omega
 have hs:MO l:=so.resolve_left O1;have k:=m i;rw[Gr hs];repeat'(first|exact a6|apply eS rfl|apply AB|refine rX a ?_ ?_)
 refine rC (λd=>?_) (λd=>?_)
 .exact absurd d k
 have key:=A4s l O1 hs 0 l.length O1 (On _);rw[show ((0:Nat):Int)=0 from rfl]at key;have q:=A4t l O1 hs O1;repeat'(first|exact a6|apply eS rfl|apply AB|refine rX a ?_ ?_)
 refine rC (λe=>?_) (λe=>?_)
 .cases e
 repeat'(first|exact a6|apply eS rfl|apply AB|refine rX a ?_ ?_)
 refine cP 4 a ?_ ?_
 .trivial
 refine rM a (key) [(1000000,.nm 1000000)] [] ?_ ?_ ?_
 .first|exact eN|refine eM ?_
 .first|exact eN|refine eM ?_
 rintro _ _ ⟨⟨j,rfl⟩,rfl⟩;refine⟨[(1000000,.nm 1000000)],.tup [.p T3 (j:Int),.p T3 (1:Int)],[(1000000,.arr 59 DH l)],rfl,rfl,?_,?_,rfl,rfl,?_⟩
 .first|exact eN|refine eM ?_
 .first|exact eN|refine eM ?_
 refine rL a ?_ ?_
 .trivial
 repeat'(first|exact a6|apply eS rfl|apply AB|refine rX a ?_ ?_)
 refine rC (λf=>?_) (λf=>?_)
 .exact absurd f df
 repeat'(first|exact a6|apply eS rfl|apply AB|refine rX a ?_ ?_)
 refine rC (λg=>?_) (λg=>?_)
 .repeat'(first|exact a6|apply eS rfl|apply AB|refine rX a ?_ ?_)
  refine cP 4 a ?_ ?_
  .trivial
  refine rM a (q) [(1000000,.nm 1000000)] [] ?_ ?_ ?_
  .first|exact eN|refine eM ?_
  .first|exact eN|refine eM ?_
  rintro _ _ ⟨rfl,rfl⟩;refine⟨[(1000000,.nm 1000000)],.p .bool true,[(1000000,.arr 59 DH l)],rfl,rfl,?_,?_,rfl,rfl,FG ?_⟩
  .first|exact eN|refine eM ?_
  .first|exact eN|refine eM ?_
  repeat'(first|exact a6|apply eS rfl|apply AB|refine rX a ?_ ?_|refine rC ?_ ?_<;>intro b<;>try(cases b;done))
  exact fM a [] (.raw (.tuple #[])) rfl ⟨rfl,rfl⟩
 exact absurd g df
end
theorem fZ {L:Go.Loop} (h1:L.state=.ready) (a:L.pending=none):{ { L with state:=.busy } with state:=.ready,pending:=none }=L:=by
 cases L;simp_all
theorem YW (l:List (Int×Int)):BE Tryz.prog 139 [.p NQ l] [] [] (λres b=>res=.clo 177 [1]/\b=[(1,.box 55 false [.p NQ l])]):=by
 refine Jx [0,1,2] [] [] Tryz.func139 Tryz.ntmps139 AH ?_;intro w0 K O0 ρ0 a c d;simp only[Ap];repeat'(first|exact a6|apply eS rfl|refine rX a ?_ ?_)
 exact fM a [.tmp 2] (.clo 177 [1]) eT ⟨rfl,rfl⟩
def CT (l:List (Int×Int)) (L:Go.Loop) (a:Array Value) (i:Nat):List (Nat×Obj):=[(1,.box 55 false [.p NQ l]),(101,.loop L),(102,.frame a [(2,.bp 2 [] 0),(6,.clo 177 [1])]),(2,.box 55 false [.sr 7 DH 0 i]),(7,.arr 59 DH (l.take i))]
theorem mK (l:List (Int×Int)) (g:l.length<=100000) (L:Go.Loop) (b:Array Value) (f:∀i,i<l.length->Xv Tryz.prog 101 [.p DH (l.getD i (0,0))] (CT l L b i) [1,101,102,2] (λres e=>res=.p .bool true/\e=CT l L b (i+1))) :
  BE Tryz.prog 177 [.yl 101,.bp 1 [] 0] (CT l L b 0) [1,101,102,2] (λres e=>res=.raw (.tuple #[])/\e=CT l L b l.length):=by
 refine Jx [0,1,4,5,6,7,8,14] [] [] Tryz.func177 Tryz.ntmps177 AH ?_;intro w0 K O0 ρ0 a h j;simp only[Ap,CT];repeat'(first|exact a6|apply eS rfl|refine rX a ?_ ?_)
 refine AI (ι:={i:Nat//i<=l.length}) (λi=>⟨[(0,.yl 101),(1,.bp 1 [] 0),(5,.p NQ l),(6,.p (.int .i64) (l.length:Int)),(7,.p (.int .i64) (i.1:Int))],CT l L b i.1⟩) (λi=>l.length-i.1) ⟨0,O1⟩ (AC [(1,.nm 1),(101,.nm 101),(102,.nm 102),(2,.nm 2),(7,.nm 7)] rfl rfl ?_ ?_) (λi=>?_)
 .simp only[CT];exact eN
 .exact eN
 obtain⟨i,hi⟩:=i;simp only[CT];repeat'(first|exact a6|apply eS rfl|refine rX a ?_ ?_|refine rC ?_ ?_<;>intro c<;>try(cases c;done))
 .exact eV
 .have d:i<l.length:=by exact eV
  refine cP 2 a ?_ ?_
  .trivial
  refine rY 101 101 a (f i d) [(1,.nm 1),(101,.nm 101),(102,.nm 102),(2,.nm 2),(7,.nm 7)] [7] ?_ ?_ ?_
  .exact eN
  .simp only[CT];exact eN
  rintro _ _ ⟨rfl,rfl⟩;refine⟨[(1,.nm 1),(101,.nm 101),(102,.nm 102),(2,.nm 2),(7,.nm 7)],.p .bool true,CT l L b (i+1),rfl,rfl,?_,?_,rfl,rfl,?_⟩
  .simp only[CT];exact eN
  .exact eN
  simp only[CT];refine Gh [0,1,5,6,7,14] a a1 ?_ ?_
  .trivial
  repeat'(first|apply eS rfl|apply AB|refine rX a ?_ ?_|refine rC ?_ ?_<;>intro c<;>try(cases c;done))
  .exact eV
  refine⟨⟨i+1,O1⟩,a2,AC [(1,.nm 1),(101,.nm 101),(102,.nm 102),(2,.nm 2),(7,.nm 7)] rfl rfl ?_ ?_⟩
  .simp only[CT];exact eN
  exact eN
 have d:i=l.length:=by exact eV
 subst d;refine fM a [] (.raw (.tuple #[])) rfl ⟨rfl,?_⟩;simp only[CT,oR]
theorem aE (l:List (Int×Int)) (n:l.length<=100000):BE Tryz.prog 189 [.raw (.slice none 0 0),.clo 177 [1]] [(1,.box 55 false [.p NQ l])] [] (λres q=>res=.sr 7 DH 0 l.length/\q=[(7,.arr 59 DH l)]):=by
 refine fKR [0,1,2,4,5,6,7] [] [] Tryz.func189 Tryz.ntmps189 AH ?_;intro w0 K O0 ρ0 a t u;simp only[Ap];repeat'(first|exact a6|apply eS rfl|refine rX a ?_ ?_)
 refine dU a rfl rfl a1 101 103 102 rfl rfl rfl rfl ?_;intro L c d f g h j k o;refine⟨_,CT l L c 0,[1,101,102,2],_,[(1,.nm 1),(101,.nm 101),(102,.nm 102),(2,.nm 2),(7,.nil)],[],mK l n L c ?_,rfl,rfl,?_,?_,rfl,?_⟩
 .intro i hi;refine dS (fr:=102) rfl rfl d h j k g o rfl a5 sc rfl rfl a5 a5 (tyTab_ok [] [0,1,2,4,5,6,7]) AH ?_;intro y r s z x a v w m;simp only[CT,Hw];repeat'(first|exact a6|apply AB|refine rX a ?_ ?_)
  refine⟨rfl,?_⟩;repeat'(first|apply eS rfl|refine rX a ?_ ?_)
  .simp only[AP];omega
  have e:List.take i (List.take i l)++[((l.getD i (0,0)).1,(l.getD i (0,0)).2)]=l.take (i+1):=by
   rw[Ay l (0,0) hi,BY (Nat.le_of_eq (by rw[ON];omega):(l.take i).length<=i)]
  refine Ev.ent (σ':=⟨[],[(1,.box 55 false [.p NQ l]),(101,.loop { L with state:=.busy }),(102,.frame c [(2,.bp 2 [] 0),(6,.clo 177 [1])]),(2,.box 55 false [.sr 7 DH 0 (i+1)]),(7,.arr 59 DH (l.take (i+1)))]⟩) ?_ (AC [(1,.nm 1),(101,.nm 101),(102,.nm 102),(2,.nm 2),(7,.nm 7)] rfl rfl ?_ ?_)
  .refine Xw a (yn:=101) rfl rfl sc m ⟨rfl,?_⟩;simp only[CT,go_sem,Nat.reduceEqDiff,reduceCtorEq,Nat.reduceAdd,Nat.reduceSub,Nat.reduceMul,Nat.reduceLeDiff,Nat.reduceLT,Int.reduceLE,Int.reduceToNat,Int.reduceNeg,↓reduceIte,fZ d f]
  .refine eM ?_;exact e
  exact eN
 .simp only[Bh];exact eN
 .simp only[Bh,CT];exact eN
 rintro _ _ ⟨rfl,rfl⟩;refine⟨[(1,.nm 1),(101,.nm 101),(102,.nm 102),(2,.nm 2),(7,.nm 7)],CT l L c l.length,L,rfl,rfl,?_,rfl,rfl,rfl,by rw[d];rfl,?_⟩
 .simp only[CT];exact eN
 intro b;rw[f];simp only[EvJ,CT,Bh,go_sem,Nat.reduceEqDiff,reduceCtorEq,Nat.reduceAdd,Nat.reduceSub,Nat.reduceMul,Nat.reduceLeDiff,Nat.reduceLT,Int.reduceLE,Int.reduceToNat,Int.reduceNeg,↓reduceIte];replace a:=RI (dn:=103) (b:=b) a;repeat'(first|exact a6|apply eS rfl|refine rX a ?_ ?_)
 refine Ev.ent (σ':=⟨[(4,.sr 7 DH 0 l.length)],[(7,.arr 59 DH l),(103,.dfr)]⟩) ?_ (AC [(7,.nm 7),(103,.nm 103)] rfl rfl ?_ ?_)
 .exact VE a [.tmp 4] rfl (.inl rfl) rfl rfl (.sr 7 DH 0 l.length) eT ⟨rfl,by simp only[go_sem,Nat.reduceEqDiff,reduceCtorEq,Nat.reduceAdd,Nat.reduceSub,Nat.reduceMul,Nat.reduceLeDiff,Nat.reduceLT,Int.reduceLE,Int.reduceToNat,Int.reduceNeg,↓reduceIte]⟩
 .exact eN
 exact eN
theorem mL (l:List (Int×Int)) (b:l.length<=100000):BE Tryz.prog 175 [.clo 177 [1]] [(1,.box 55 false [.p NQ l])] [] (λres c=>res=.sr 7 DH 0 l.length/\c=[(7,.arr 59 DH l)]):=by
 refine Jx [0,2] [] [] Tryz.func175 Tryz.ntmps175 AH ?_;intro w0 K O0 ρ0 a d e;simp only[Ap];repeat'(first|exact a6|apply eS rfl|refine rX a ?_ ?_)
 refine cP 1 a ?_ ?_
 .trivial
 refine rM a (aE l b) [(1,.nm 1)] [1] ?_ ?_ ?_
 .exact eN
 .exact eN
 rintro _ _ ⟨rfl,rfl⟩;refine⟨[(7,.nm 7)],.sr 7 DH 0 l.length,[(7,.arr 59 DH l)],rfl,rfl,?_,?_,rfl,rfl,?_⟩
 .exact eN
 .exact eN
 refine Gh [2] a a1 ?_ ?_
 .trivial
 repeat' apply eS rfl
 exact fM a [.tmp 2] (.sr 7 DH 0 l.length) eT ⟨rfl,rfl⟩
theorem A19 (x:Int) (h0:0<=x) (h1:x<256):BE Tryz.prog 209 [.p (.int .u64) x] [] [] (λres g=>(∃n:Int,res=.p T3 n/\(13<=x->n≠0))/\g=[]):=by
 refine Jx [0,2,4,8,14] [] [] Tryz.func209 Tryz.ntmps209 AH ?_;intro w0 K O0 ρ0 a i j;simp only[Ap];repeat'(first|exact a6|apply eS rfl|refine rX a ?_ ?_|refine rC ?_ ?_<;>intro b<;>try(cases b;done))
 all_goals first|(exfalso;omega)|skip
 refine Lz [0,2] a rfl (by simp only[go_sem,Nat.reduceEqDiff,reduceCtorEq,Nat.reduceAdd,Nat.reduceSub,Nat.reduceMul,Nat.reduceLeDiff,Nat.reduceLT,Int.reduceLE,Int.reduceToNat,Int.reduceNeg,↓reduceIte,ByteArray.size,List.size_toArray,AP];rfl) ?_ ?_
 .have hu:∀u:UInt8,((u.toNat:Nat):Int)<=255:=λu=>by have:=u.toNat_lt;omega
  refine⟨⟨h0,O1⟩,⟨h0,?_⟩,⟨?_,?_⟩,?_,?_⟩
  .have c:x<((256:Nat):Int):=h1;exact c
  .exact ABB df (AAP _)
  .exact ABB (hu _) df
  .rw[Int.zero_add];exact ABB df (AAP _)
  rw[Int.zero_add];exact ABB (hu _) df
 repeat' apply eS rfl
 refine fM a [.tmp 2] (.p T3 _) (by simp only[SV,tK,RC,Xn,I5,KG,I6,go_sem,Nat.reduceEqDiff,reduceCtorEq,Nat.reduceAdd,Nat.reduceSub,Nat.reduceMul,Nat.reduceLeDiff,Nat.reduceLT,Int.reduceLE,Int.reduceToNat,Int.reduceNeg,↓reduceIte];rfl) ⟨⟨_,rfl,λh=>?_⟩,rfl⟩;rw[Int.zero_add];intro e;replace e:=Int.ofNat.inj e;have d:x.toNat<256:=by omega
 have f:13<=x.toNat:=by omega
 generalize x.toNat=k at *;clear b;exact absurd e (by
  clear e;revert f;revert d;revert k;decide)
theorem A7K (x:Int) (h0:0<=x) (h1:x<256):BE Tryz.prog 191 [.p (.int .u64) x] [] [] (λres d=>(∃n:Int,res=.p T3 n/\(13<=x->n≠0))/\d=[]):=by
 refine Jx [0,2] [] [] Tryz.func191 Tryz.ntmps191 AH ?_;intro w0 K O0 ρ0 a e f;simp only[Ap];repeat'(first|exact a6|apply eS rfl|refine rX a ?_ ?_|refine rC ?_ ?_<;>intro b<;>try(cases b;done))
 refine cP 1 a ?_ ?_
 .trivial
 refine rM a (A19 x h0 h1) [] [] ?_ ?_ ?_
 .exact eN
 .exact eN
 rintro _ _ ⟨⟨n,rfl,c⟩,rfl⟩;refine⟨[],.p T3 n,[],rfl,rfl,?_,?_,rfl,rfl,?_⟩
 .exact eN
 .exact eN
 refine Gh [2] a a1 ?_ ?_
 .trivial
 repeat' apply eS rfl
 exact fM a [.tmp 2] (.p T3 n) eT ⟨⟨_,rfl,c⟩,rfl⟩
theorem f5 (l:List (Int×Int)) (b:SS l) (hs:YU l):BE Tryz.prog 176 [.sr 1000000 DH 0 l.length,.fn 140] [(1000000,.arr 59 DH l)] [1000000] (λres e=>res=.raw (.tuple #[])/\e=[(1000000,.arr 59 DH (Ae l))]):=by
 have f:=b.1;refine Jx [0,1,4] [] [] Tryz.func176 Tryz.ntmps176 AH ?_;intro w0 K O0 ρ0 a g h;simp only[Ap];repeat'(first|exact a6|apply eS rfl|refine rX a ?_ ?_)
 refine cP 4 a ?_ ?_
 .exact eV
 refine rM a (A7K (l.length:Int) O1 O1) [] [] ?_ ?_ ?_
 .exact eN
 .exact eN
 rintro _ _ ⟨⟨n,rfl,d⟩,rfl⟩;refine⟨[],.p T3 n,[],rfl,rfl,?_,?_,rfl,rfl,?_⟩
 .exact eN
 .exact eN
 have key:=A4u l b.1 hs b.2 n λq=>d O1;refine Ph a 1 a1 ?_ ?_
 .trivial
 refine rM a (key) [(1000000,.nm 1000000)] [] ?_ ?_ ?_
 .exact eN
 .exact eN
 rintro _ _ ⟨rfl,rfl⟩;have i:=Cb l;refine⟨[(1000000,.nm 1000000)],.raw (.tuple #[]),[(1000000,.arr 59 DH (Ae l))],rfl,rfl,?_,?_,rfl,rfl,FG ?_⟩
 .exact eN
 .exact eN
 repeat'(first|exact a6|apply eS rfl|apply AB|refine rX a ?_ ?_|refine rC ?_ ?_<;>intro c<;>try(cases c;done))
 exact fM a [] (.raw (.tuple #[])) rfl ⟨rfl,rfl⟩
theorem Nq (l:List (Int×Int)) (b:SS l) (hs:YU l):BE Tryz.prog 138 [.clo 177 [1],.fn 140] [(1,.box 55 false [.p NQ l])] [] (λres c=>res=.sr 7 DH 0 l.length/\c=[(7,.arr 59 DH (Ae l))]):=by
 have g:=Cb l;have d:=b.1;refine Jx [0,1,4,5] [] [] Tryz.func138 Tryz.ntmps138 AH ?_;intro w0 K O0 ρ0 a e f;simp only[Ap];repeat'(first|exact a6|apply eS rfl|refine rX a ?_ ?_)
 refine cP 1 a ?_ ?_
 .trivial
 refine rM a (mL l O1) [(1,.nm 1)] [1] ?_ ?_ ?_
 .exact eN
 .exact eN
 rintro _ _ ⟨rfl,rfl⟩;refine⟨[(1000000,.nm 7)],.sr 1000000 DH 0 l.length,[(1000000,.arr 59 DH l)],rfl,rfl,?_,?_,rfl,rfl,?_⟩
 .exact eN
 .exact eN
 refine Gh [1,5] a a1 ?_ ?_
 .trivial
 repeat' apply eS rfl
 refine cP 2 a ?_ ?_
 .trivial
 refine rM a (f5 l b hs) [(1000000,.nm 1000000)] [] ?_ ?_ ?_
 .exact eN
 .exact eN
 rintro _ _ ⟨rfl,rfl⟩;refine⟨[(1000000,.nm 1000000)],.raw (.tuple #[]),[(1000000,.arr 59 DH (Ae l))],rfl,rfl,?_,?_,rfl,rfl,FG ?_⟩
 .exact eN
 .exact eN
 repeat'(first|exact a6|apply eS rfl|refine rX a ?_ ?_)
 refine Ev.ent (σ':=⟨[(4,.sr 7 DH 0 l.length)],[(7,.arr 59 DH (Ae l))]⟩) ?_ (AC [(7,.nm 1000000)] rfl rfl ?_ ?_)
 .exact fM a [.tmp 4] (.sr 7 DH 0 l.length) eT ⟨rfl,rfl⟩
 .exact eN
 exact eN
def LD (f:List AD) (o:List Int):List (Nat×Obj):=[(1,.box 101 false [.sr 5 T3 0 o.length]),(2,.box 79 false [.mp 6]),(3,.box 34 true [.p Ij f]),(4,.box 176 false [.clo 137 [1,2,3,4]]),(5,.arr 3 T3 o),(6,.mapo T3 T3 (wW o))]
theorem A9J {o:List Int} (h:M9 f o):M9 (DP f) o:=⟨h.nd,λx a=>by rw[Ed];exact h.rng x a⟩
theorem A6c {o:List Int} (h:M9 (DP f) o):M9 f o:=⟨h.nd,λx a=>by have:=h.rng x a;rwa [Ed]at this⟩
theorem vA (f:List AD) (hf:AX f) (hs:wX f):∀(k:Nat) (o:List Int) (n:Int),M9 f o->0<=n->n<f.length->n∉o->f.length-o.length<=k ->
  BE Tryz.prog 137 [.p T3 n,.bp 1 [] 0,.bp 2 [] 0,.bp 3 [] 0,.bp 4 [] 0] (LD f o) [1,2,3,4,6] (λres Q=>res=.raw (.tuple #[])/\Q=LD f (Ei (DP f) k o n)):=by
 intro k;induction k with
 | zero =>
  intro o n h0 h1 B C R;have:=(h0.snoc h1 B C).len;simp only[IS,nO]at this;omega
 | succ k P =>
  intro o n E u v w hk;have t:=E.snoc u v w;have I:=t.len;simp only[IS,nO]at I;have S:=hf.1;refine Jx [0,1,2,3,4,7,9,25,26,27,28,39] [] [] Tryz.func137 Tryz.ntmps137 AH ?_;intro w0 K O0 ρ0 b U V;simp only[LD,Ap];repeat'(first|exact a6|apply eS rfl|refine rX b ?_ ?_)
  .simp only[AP];omega
  rw[A15 w];obtain⟨O,A⟩:=qF hs n;have T:=A.1;have s:=λa (ha:a∈Ae (f.getD n.toNat (0,[])).2)=>Cc hf ((Eq _).mem_iff.1 ha);have G:Ei (DP f) (k+1) o n=(Ae (f.getD n.toNat (0,[])).2).foldl (A9 (DP f) k) (o++[n]):=by rw[Cn,QK]
  have F:=A9J (f:=f) t;refine cP 6 b ?_ ?_
  .exact⟨u,v⟩
  generalize (f.getD n.toNat (0,[])).2=g at *;refine rM b (YW g) [] [] ?_ ?_ ?_
  .exact eN
  .exact eN
  rintro _ _ ⟨rfl,rfl⟩;refine⟨[(50,.nm 1)],.clo 177 [50],[(50,.box 55 false [.p NQ g])],rfl,rfl,?_,?_,rfl,rfl,?_⟩
  .exact eN
  .exact eN
  refine rM b (Nq g A O) [(1,.nm 50)] [50] ?_ ?_ ?_
  .exact eN
  .exact eN
  rintro _ _ ⟨rfl,rfl⟩;have D:=Cb g;rw[<-D];generalize Ae g=L at *;refine⟨[(51,.nm 7)],.sr 51 DH 0 L.length,[(51,.arr 59 DH L)],rfl,rfl,?_,?_,rfl,rfl,?_⟩
  .exact eN
  .exact eN
  refine Gh [0,1,2,3,4,25,26,27] b a1 ?_ ?_
  .trivial
  have N:∀i,M9 (DP f) ((L.take i).foldl (A9 (DP f) k) (o++[n]))/\o++[n] <+: (L.take i).foldl (A9 (DP f) k) (o++[n]):=λi=>IB (GQ (NA hf) k) _ _ (λa ha=>by rw[Ed];exact s a (AAw ha)) F;generalize J:o++[n]=q at *;have M:q.length=o.length+1:=by rw[<-J];simp
  rw[<-M];repeat' apply eS rfl
  refine AI (ι:={i:Nat//i<=L.length}) (λi=>⟨[(0,.p T3 n),(1,.bp 1 [] 0),(2,.bp 2 [] 0),(3,.bp 3 [] 0),(4,.bp 4 [] 0),(25,.p NQ L),(26,.p (.int .i64) (L.length:Int)),(27,.p (.int .i64) (i.1:Int))],LD f ((L.take i.1).foldl (A9 (DP f) k) q)⟩) (λi=>L.length-i.1) ⟨0,O1⟩ (A9g [51] (AC [(1,.nm 1),(2,.nm 2),(3,.nm 3),(4,.nm 4),(5,.nm 5),(6,.nm 6)] rfl rfl ?_ ?_)) (λi=>?_)
  .simp only[LD,AB8,ACU];exact eN
  .exact eN
  obtain⟨i,hi⟩:=i;obtain⟨j,y⟩:=N i;replace j:=A6c j;have r:=λ(h:i<L.length)=>Rj (A9 (DP f) k) L (0,0) q h;have H:=y.length_le;generalize x:(L.take i).foldl (A9 (DP f) k) q=c at j y r H;simp only[LD];repeat'(first|exact a6|apply eS rfl|apply AB|refine rX b ?_ ?_|refine rC ?_ ?_<;>intro d<;>try(cases d;done))
  .exact eV
  .have l:i<L.length:=by exact eV
   have z:=s _ (AF L (0,0) l);have m:(L.getD i (0,0)).2∉c:=by rw[Vz]at d;simpa using d
   refine cP 3 b ?_ ?_
   .trivial
   refine rM b (P c (L.getD i (0,0)).2 j z.1 z.2 m O1) [(1,.nm 1),(2,.nm 2),(3,.nm 3),(4,.nm 4),(5,.nm 5),(6,.nm 6)] [5] ?_ ?_ ?_
   .exact eN
   .simp only[LD];exact eN
   rintro _ _ ⟨rfl,rfl⟩;refine⟨[(1,.nm 1),(2,.nm 2),(3,.nm 3),(4,.nm 4),(5,.nm 5),(6,.nm 6)],.raw (.tuple #[]),LD f (Ei (DP f) k c (L.getD i (0,0)).2),rfl,rfl,?_,?_,rfl,rfl,FG ?_⟩
   .simp only[LD];exact eN
   .exact eN
   simp only[LD];repeat'(first|apply eS rfl|apply AB|refine rX b ?_ ?_)
   .exact eV
   have e:A9 (DP f) k c (L.getD i (0,0))=Ei (DP f) k c (L.getD i (0,0)).2:=An m;refine⟨⟨i+1,O1⟩,a2,AC [(1,.nm 1),(2,.nm 2),(3,.nm 3),(4,.nm 4),(5,.nm 5),(6,.nm 6)] rfl rfl ?_ ?_⟩
   .simp only[r l,e];exact eN
   exact eN
  .exact eV
  .have l:i<L.length:=by exact eV
   have m:(L.getD i (0,0)).2∈c:=by rw[Vz]at d;simpa using d
   have e:A9 (DP f) k c (L.getD i (0,0))=c:=At m;refine⟨⟨i+1,O1⟩,a2,AC [(1,.nm 1),(2,.nm 2),(3,.nm 3),(4,.nm 4),(5,.nm 5),(6,.nm 6)] rfl rfl ?_ ?_⟩
   .simp only[r l,e];exact eN
   exact eN
  have hk:L.take i=L:=BY eV;rw[hk]at x;rw[G,x];exact fM b [] (.raw (.tuple #[])) rfl ⟨rfl,rfl⟩
section
theorem vB {α a:Type} (g:α->a) (o:List α) (d:α) (z:a) {i:Nat} (h:i<o.length):((o.take i).map g++List.replicate (o.length-i) z).set i (g (o.getD i d))=(o.take (i+1)).map g++List.replicate (o.length-(i+1)) z:=by
 obtain⟨m,c⟩:∃m,o.length-i=m+1:=⟨o.length-i-1,O1⟩;have e:o.length-(i+1)=m:=by omega
 have b:((o.take i).map g).length=i:=by rw[Of,ON];omega
 rw[c,e,ACt _ _ O1,b,ABt,List.replicate_succ,ACK,Ay o d h,AAT];simp
def Tr:AZ:={ ins:=[E7,T3],pre:=λ(f,n,_)=>AX f/\wX f/\0<=n/\n<(List.length f:Int),out:=λ(f,n,_)=>[.p E7 (AU (DP f) n)] }
attribute [local go_sem] Tr
theorem vC:Ac Tryz.prog 92 Tr:=by
 refine fK [0,1,2,4,5,6,7,8,9,10,11,12,22,23,24,25,38,39,40] Tryz.func92 Tryz.ntmps92 AH ?_;rintro w0 O0 ⟨f,root,u⟩ a-⟨hf,hs,r,s⟩;simp only[Tr,AL];have z:=hf.1;have l:M9 f []:=⟨sc,λx D=>by cases D⟩;obtain⟨g,I⟩:=GQ (NA hf) f.length [] root (A9J l) r (by rw[Ed];exact s) sc;replace g:=A6c g;have w:AU (DP f) root=(Ei (DP f) f.length [] root).map (Jl (DP f) (Ei (DP f) f.length [] root)):=by unfold AU;rw[Ed]
 rw[w];repeat'(first|exact a6|apply eS rfl|apply AB|refine rX a ?_ ?_|refine rC ?_ ?_<;>intro c<;>try(cases c;done))
 refine cP 2 a ?_ ?_
 .trivial
 refine rM a (vA f hf hs (List.length f) [] root l r s sc sc) [(1,.nm 6),(2,.nm 5),(3,.nm 2),(4,.nm 7),(5,.nil),(6,.nm 13)] [] ?_ ?_ ?_
 .exact eN
 .simp only[LD];refine eM ?_;rfl
 rintro _ _ ⟨rfl,rfl⟩;refine⟨[(6,.nm 1),(5,.nm 2),(2,.nm 3),(7,.nm 4),(101,.nm 5),(13,.nm 6)],.raw (.tuple #[]),[(6,.box 101 false [.sr 101 T3 0 (Ei (DP f) (List.length f) [] root).length]),(5,.box 79 false [.mp 13]),(2,.box 34 true [.p Ij f]),(7,.box 176 false [.clo 137 [6,5,2,7]]),(101,.arr 3 T3 (Ei (DP f) (List.length f) [] root)),(13,.mapo T3 T3 (wW (Ei (DP f) (List.length f) [] root)))],rfl,rfl,?_,?_,rfl,rfl,FG ?_⟩
 .simp only[LD];exact eN
 .exact eN
 generalize Ei (DP f) (List.length f) [] root=o at *;have H:=g.len;repeat'(first|exact a6|apply eS rfl|apply AB|refine rX a ?_ ?_|refine rC ?_ ?_<;>intro c<;>try(cases c;done))
 .simp only[AP];omega
 refine AI (ι:={i:Nat//i<=o.length}) (λi=>⟨[(2,.bp 2 [] 0),(4,.bp 4 [] 0),(5,.bp 5 [] 0),(8,.bp 8 [] 0),(22,.sr 101 T3 0 o.length),(23,.p (.int .i64) (o.length:Int)),(24,.p (.int .i64) (i.1:Int))],[(8,.box 34 true [.sr 20 W3 0 o.length]),(20,.arr 57 W3 ((o.take i.1).map (Jl (DP f) o)++List.replicate (o.length-i.1) (0,[]))),(5,.box 79 false [.mp 13]),(2,.box 34 true [.p Ij f]),(101,.arr 3 T3 o),(13,.mapo T3 T3 (wW o)),(4,.box 34 true [.raw (.slice none 0 0)])]⟩) (λi=>o.length-i.1) ⟨0,O1⟩ (eW [(8,.nm 8),(20,.nm 20),(5,.nm 5),(2,.nm 2),(101,.nm 101),(13,.nm 13),(4,.nm 4)]) (λi=>?_)
 obtain⟨i,hi⟩:=i;repeat'(first|exact a6|apply eS rfl|apply AB|refine rX a ?_ ?_|refine rC ?_ ?_<;>intro c<;>try(cases c;done))
 .exact eV
 .have m:i<o.length:=by exact eV
  have hn:=g.rng _ (AF o 0 m);have q:Jl (DP f) o (o.getD i 0)=((f.getD (o.getD i 0).toNat (0,[])).1,(Ae (f.getD (o.getD i 0).toNat (0,[])).2).map (NS o)):=by unfold Jl;rw[QK]
  obtain⟨t,j⟩:=qF hs (o.getD i 0);have B:=j.1;refine cP 6 a ?_ ?_
  .exact hn
  have G:List.length f<=100000:=z;generalize C:o.getD i 0=n at *;generalize A:f.getD n.toNat (0,[])=x at *;obtain⟨J,d⟩:=x;simp only at t j B q;refine rM a (YW d) [] [] ?_ ?_ ?_
  .exact eN
  .exact eN
  rintro _ _ ⟨rfl,rfl⟩;refine⟨[(50,.nm 1)],.clo 177 [50],[(50,.box 55 false [.p NQ d])],rfl,rfl,?_,?_,rfl,rfl,?_⟩
  .exact eN
  .exact eN
  refine rM a (Nq d j t) [(1,.nm 50)] [50] ?_ ?_ ?_
  .exact eN
  .exact eN
  rintro _ _ ⟨rfl,rfl⟩;have v:=Cb d;rw[<-v];generalize F:Ae d=L at *;refine⟨[(51,.nm 7)],.sr 51 DH 0 L.length,[(51,.arr 59 DH L)],rfl,rfl,?_,?_,rfl,rfl,?_⟩
  .exact eN
  .exact eN
  refine Gh [2,4,5,8,9,10,11,22,23,24] a a1 ?_ ?_
  .trivial
  repeat'(first|exact a6|apply eS rfl|apply AB|refine rX a ?_ ?_|refine rC ?_ ?_<;>intro c<;>try(cases c;done))
  refine AI (ι:={k:Nat//k<=L.length}) (λk=>⟨[(2,.bp 2 [] 0),(4,.bp 4 [] 0),(5,.bp 5 [] 0),(8,.bp 8 [] 0),(9,.p (.int .i64) (i:Int)),(10,.p T3 n),(11,.sr 51 DH 0 L.length),(22,.sr 101 T3 0 o.length),(23,.p (.int .i64) (o.length:Int)),(24,.p (.int .i64) (i:Int)),(38,.p (.int .i64) (L.length:Int)),(39,.p (.int .i64) (k.1:Int))],[(51,.arr 59 DH ((L.take k.1).map (NS o)++L.drop k.1)),(8,.box 34 true [.sr 20 W3 0 o.length]),(20,.arr 57 W3 ((o.take i).map (Jl (DP f) o)++List.replicate (o.length-i) (0,[]))),(5,.box 79 false [.mp 13]),(2,.box 34 true [.p Ij f]),(101,.arr 3 T3 o),(13,.mapo T3 T3 (wW o)),(4,.box 34 true [.raw (.slice none 0 0)])]⟩) (λk=>L.length-k.1) ⟨0,O1⟩ (eW [(51,.nm 51),(8,.nm 8),(20,.nm 20),(5,.nm 5),(2,.nm 2),(101,.nm 101),(13,.nm 13),(4,.nm 4)]) (λk=>?_)
  obtain⟨k,hk⟩:=k;repeat'(first|exact a6|apply eS rfl|apply AB|refine rX a ?_ ?_|refine rC ?_ ?_<;>intro c<;>try(cases c;done))
  .exact eV
  .exact eV
  .have h:k<L.length:=by exact eV
   have e:=Vv (NS o) (λb=>b) L (0,0) h (NS o);refine⟨⟨k+1,O1⟩,a2,AC [(51,.nm 51),(8,.nm 8),(20,.nm 20),(5,.nm 5),(2,.nm 2),(101,.nm 101),(13,.nm 13),(4,.nm 4)] rfl rfl ?_ ?_⟩
   .refine eM ?_;rw[e.2];rw[<-e.1];unfold NS;rw[<-A4q]
   exact eN
  .exact⟨hn,eV⟩
  .exact eV
  have h:L.take k=L:=BY eV;have y:L.drop k=[]:=Is eV;refine⟨⟨i+1,O1⟩,a2,AC [(8,.nm 8),(20,.nm 20),(5,.nm 5),(2,.nm 2),(101,.nm 101),(13,.nm 13),(4,.nm 4)] rfl rfl ?_ ?_⟩
  .refine eM ?_;rw[h,y,AAu];have e:=vB (Jl (DP f) o) o 0 (0,[]) m;rw[C,q]at e;rw[<-e,A,BY (by simp:(L.map (NS o)).length<=L.length)]
  exact eN
 have hk:o.take i=o:=BY eV;have E:o.length-i=0:=by exact eV
 rw[hk,E];exact fI a [.cell 4 34] (by simp only[List.replicate_zero,AAu];first|exact eR|refine KP ?_;exact BY (by rw[Of];exact eV))
end
def Gt (n:Int) (seen:List (Int×Int)):List (Int×Int)->Int
 | []=>0
 | x :: r=>if x.1<0\/x.2<0\/n<=x.2 then 2 else if (seen.any λy=>y.1==x.1)=true then 4 else Gt n (seen++[x]) r
def HC (l:List (Int×Int)) (n:Int):Int:=Gt n [] l
def f6:AZ:={ ins:=[NQ,T3],pre:=λ_=>True,out:=λ(l,n,_)=>[.p C0 (HC l n)] }
theorem Om (n:Int) (l:List (Int×Int)) (h:k<l.length):Gt n (l.take k) (l.drop k)=if (l.getD k (0,0)).1<0\/(l.getD k (0,0)).2<0\/n<=(l.getD k (0,0)).2 then 2 else if ((l.take k).any λy=>y.1==(l.getD k (0,0)).1)=true then 4 else Gt n (l.take (k+1)) (l.drop (k+1)):=by
 rw[Ay l (0,0) h,OR h,AS,As h];rfl
theorem XN (l:List (Int×Int)) (f:Int) (h:k<l.length):((l.take (k+1)).any λy=>y.1==f)=((l.take k).any (λy=>y.1==f)||((l.getD k (0,0)).1==f)):=by
 rw[Ay l (0,0) h,AC4];simp
theorem A4v:Ac Tryz.prog 126 f6:=by
 refine fK [0,1,4,5,6,10,35,38,51] Tryz.func126 Tryz.ntmps126 AH ?_;rintro w0 O0 ⟨l,n,u⟩ b ⟨⟨h,-⟩,-⟩ -;simp only[AP]at h;simp only[f6,AL];repeat'(first|exact a6|apply eS rfl|refine rX b ?_ ?_)
 refine AI (ι:={k:Nat//k<=l.length/\Gt n (l.take k) (l.drop k)=HC l n}) (λk=>⟨[(0,.p NQ l),(1,.p T3 n),(5,.p (.int .i64) (k.1:Int))],[]⟩) (λk=>l.length-k.1) ⟨0,by simp[HC]⟩ (AC [] rfl rfl ?_ ?_) (λk=>?_)
 .exact eN
 .exact eN
 obtain⟨k,hk,c⟩:=k;repeat'(first|exact a6|apply eS rfl|refine rX b ?_ ?_|refine rC ?_ ?_<;>intro a<;>try(cases a;done))
 .exact eV
 .have hk:k<l.length:=by exact eV
  have h1:HC l n=2:=by
   rw[<-c,Om n l hk,At (by rw[<-or_assoc];exact a)]
  exact fI b [.tmp 4] (by rw[h1];exact eR)
 .have hk:k<l.length:=by exact eV
  have hn:¬((l.getD k (0,0)).1<0\/(l.getD k (0,0)).2<0\/n<=(l.getD k (0,0)).2):=by
   have:=a;generalize l.getD k (0,0)=x at this;exact eV
  rw[Om n l hk,An hn]at c;refine AI (ι:={j:Nat//j<=k/\((l.take j).any λy=>y.1==(l.getD k (0,0)).1)=false}) (λj=>⟨[(0,.p NQ l),(1,.p T3 n),(5,.p (.int .i64) (k:Int)),(6,.p (.int .i64) (j.1:Int))],[]⟩) (λj=>k-j.1) ⟨0,sc⟩ (AC [] rfl rfl ?_ ?_) (λj=>?_)
  .exact eN
  .exact eN
  obtain⟨j,i,f⟩:=j;repeat'(first|exact a6|apply eS rfl|apply AB|refine rX b ?_ ?_|refine rC ?_ ?_<;>intro a<;>try(cases a;done))
  .exact eV
  .have e:j<l.length:=by exact eV
   have h1:HC l n=4:=by
    have d:((l.take k).any λy=>y.1==(l.getD k (0,0)).1)=true:=by
     rw[aT];refine⟨l.getD j (0,0),?_,by simpa using a⟩;rw[AS,As e];exact ABM.2 ⟨j,eV,rfl⟩
    rw[<-c,At d]
   exact fI b [.tmp 4] (by rw[h1];exact eR)
  .exact eV
  .have e:j<l.length:=by exact eV
   refine⟨⟨j+1,eV,?_⟩,by simp only;exact eV,AC [] rfl rfl ?_ ?_⟩
   .have d:=XN l (l.getD k (0,0)).1 e;refine d.trans ?_;rw[f];simpa using a
   .exact eN
   exact eN
  .exact eV
  have g:j=k:=by exact eV
  subst g;refine⟨⟨j+1,eV,?_⟩,by simp only;exact eV,AC [] rfl rfl ?_ ?_⟩
  .rw[<-c,An (by rw[f];simp)]
  .exact eN
  exact eN
 have h1:HC l n=0:=by
  have hk:l.length<=k:=by exact eV
  rw[<-c,Is hk];rfl
 exact fI b [.tmp 4] (by rw[h1];exact eR)
def V1 (n:Int×List (Int×Int)):List Int:=n.1 :: (n.2.length:Int) :: n.2.flatMap λa=>[a.1,a.2]
def B5 (f:List (Int×List (Int×Int))):List Int:=(f.length:Int) :: f.flatMap V1
def XO (l:List (Int×List (Int×Int))) (k:Nat):List Int:=(l.length:Int) :: (l.take k).flatMap V1
def V2 (l:List (Int×List (Int×Int))) (k j:Nat):List Int:=XO l k++[(l.getD k (0,[])).1,((l.getD k (0,[])).2.length:Int)]++((l.getD k (0,[])).2.take j).flatMap λa=>[a.1,a.2]
theorem Rl:∀l:List (Int×Int),(l.flatMap λa=>[a.1,a.2]).length=2*l.length
 | []=>rfl
 | x :: l=>by simp[Rl l];omega
theorem A1a (n:Int×List (Int×Int)):(V1 n).length=2+2*n.2.length:=by
 have:=Rl n.2;simp only[V1,NO];omega
theorem V3:∀l:List (Int×List (Int×Int)),(∀n∈l,n.2.length<=100000)->(l.flatMap V1).length<=l.length*200002
 | [],_=>by simp
 | x :: l,h=>by
  have h1:=h x sc;have a:=V3 l (λn hn=>h n (by simp[hn]));have b:=A1a x;simp only[ABU,IS,NO];omega
theorem f7 {l:List (Int×List (Int×Int))} (h:∀n∈l,n.2.length<=100000) (hk:k<=l.length):(XO l k).length<=1+k*200002:=by
 have h1:=V3 (l.take k) (λn hn=>h n (AAw hn));rw[ON,ABE hk]at h1;simp only[XO,NO];omega
theorem A1b {l:List (Int×List (Int×Int))} (h:∀n∈l,n.2.length<=100000) (hk:k<l.length) (b:j<=(l.getD k (0,[])).2.length):(V2 l k j).length<=3+k*200002+2*j:=by
 have h1:=f7 h (Nat.le_of_lt hk);have a:=Rl ((l.getD k (0,[])).2.take j);rw[ON,ABE b]at a;simp only[V2,IS,NO,AAl];omega
theorem YX {l:List (Int×List (Int×Int))} (hk:k<l.length):XO l (k+1)=V2 l k (l.getD k (0,[])).2.length:=by
 unfold XO V2;rw[Ay l (0,[]) hk,ABG,oR];simp[V1,XO]
theorem YY {l:List (Int×List (Int×Int))} (a:j<(l.getD k (0,[])).2.length):V2 l k (j+1)=V2 l k j++[((l.getD k (0,[])).2.getD j (0,0)).1,((l.getD k (0,[])).2.getD j (0,0)).2]:=by
 unfold V2;rw[Ay _ (0,0) a,ABG];simp
def V4:AZ:={ ins:=[E7],pre:=λ(f,_)=>f.length<=100000/\∀n∈f,n.2.length<=100000,out:=λ(f,_)=>[.p Bx (B5 f)] }
theorem mM:Ac Tryz.prog 97 V4:=by
 refine fK [0,1,2,3,4,5,6,15,38] Tryz.func97 Tryz.ntmps97 AH ?_;rintro w0 O0 ⟨l,u⟩ a ⟨h,-⟩ ⟨n,d⟩;simp only[V4,AL];repeat'(first|exact a6|apply eS rfl|refine rX a ?_ ?_)
 refine AI (ι:={k:Nat//k<=l.length}) (λk=>⟨[(0,.p E7 l),(1,.bp 1 [] 0),(3,.sr 10 T3 0 (XO l k.1).length),(4,.p (.int .i64) (k.1:Int))],[(1,.box 34 true [.p Ij l]),(10,.arr 3 T3 (XO l k.1))]⟩) (λk=>l.length-k.1) ⟨0,sc⟩ (AC [(1,.nm 1),(10,.nm 10)] rfl rfl ?_ ?_) (λk=>?_)
 .refine eM ?_;rfl
 .refine eM ?_;rfl
 obtain⟨k,hk⟩:=k;have i:=f7 d hk;repeat'(first|exact a6|apply eS rfl|refine rX a ?_ ?_|refine rC ?_ ?_<;>intro c<;>try(cases c;done))
 .exact eV
 .refine⟨eV,?_⟩;simp only[AP];exact eV
 .have b:k<l.length:=by exact eV
  have o:=d _ (AF l (0,[]) b);refine AI (ι:={j:Nat//j<=(l.getD k (0,[])).2.length}) (λj=>⟨[(0,.p E7 l),(1,.bp 1 [] 0),(3,.sr 10 T3 0 (V2 l k j.1).length),(4,.p (.int .i64) (k:Int)),(5,.p NQ (l.getD k (0,[])).2),(6,.p (.int .i64) (j.1:Int))],[(1,.box 34 true [.p Ij l]),(10,.arr 3 T3 (V2 l k j.1))]⟩) (λj=>(l.getD k (0,[])).2.length-j.1) ⟨0,sc⟩ (AC [(1,.nm 1),(10,.nm 10)] rfl rfl ?_ ?_) (λj=>?_)
  .refine eM ?_;simp[V2]
  .refine eM ?_;simp[V2]
  obtain⟨j,f⟩:=j;have m:=A1b d b f;repeat'(first|exact a6|apply eS rfl|apply AB|refine rX a ?_ ?_|refine rC ?_ ?_<;>intro c<;>try(cases c;done))
  .refine⟨eV,eV,?_⟩;simp only[AP];exact eV
  .exact eV
  .have e:j<(l.getD k (0,[])).2.length:=by exact eV
   refine⟨⟨j+1,eV⟩,by simp only;exact eV,AC [(1,.nm 1),(10,.nm 10)] rfl rfl ?_ ?_⟩
   .refine eM ?_;exact(YY e).symm
   refine eM ?_;have:=ABj List.length (YY (l:=l) e);rw[IS]at this;exact this.symm
  .exact eV
  have g:j=(l.getD k (0,[])).2.length:=by exact eV
  subst g;refine⟨⟨k+1,eV⟩,by simp only;exact eV,AC [(1,.nm 1),(10,.nm 10)] rfl rfl ?_ ?_⟩
  .refine eM ?_;exact(YX b).symm
  refine eM ?_;exact ABj List.length (YX b).symm
 have hk:l.take k=l:=BY eV;have h1:XO l k=B5 l:=by unfold XO B5;rw[hk]
 exact fI a [.tmp 2] (by first|exact eR|refine KP ?_;exact h1)
section
attribute [local go_sem] V4
def MT:List Int->List Int->Int
 | x :: xs,y :: ys=>if x<y then -1 else if y<x then 1 else MT xs ys
 | _,_=>0
theorem Rm (xs ys:List Int) (h1:k<xs.length) (a:k<ys.length):MT (xs.drop k) (ys.drop k)=if xs.getD k 0<ys.getD k 0 then -1 else if ys.getD k 0<xs.getD k 0 then 1 else MT (xs.drop (k+1)) (ys.drop (k+1)):=by
 rw[OR h1,OR a,AS,As h1,AS,As a];rfl
theorem A1c (xs ys:List Int) (h:xs.length<=k\/ys.length<=k):MT (xs.drop k) (ys.drop k)=0:=by
 rcases h with h|h
 .rw[Is h];simp[MT]
 rw[Is h];simp[MT]
def Di (a b:List (Int×List (Int×Int))):Int:=MT (B5 a) (B5 b)
def K0 (f:List (Int×List (Int×Int))):Prop:=f.length<=100000/\∀n∈f,n.2.length<=100000
def V5:AZ:={ ins:=[E7,E7],pre:=λ(a,b,_)=>K0 a/\K0 b,out:=λ(a,b,_)=>[.p T3 (Di a b)] }
theorem QL {f:List (Int×List (Int×Int))} (h:K0 f):(B5 f).length<=1+f.length*200002:=by
 have:=V3 f h.2;simp only[B5,NO];omega
theorem mN:Ac Tryz.prog 52 V5:=by
 refine fK [0,1,2,3,4,5,6,7,21,32,41] Tryz.func52 Tryz.ntmps52 (AE mM AH) ?_;rintro w0 O0 ⟨a,b,u⟩ e-⟨⟨g,i⟩,⟨j,l⟩⟩;have m:=QL ⟨g,i⟩;have n:=QL ⟨j,l⟩;simp only[V5,AL];repeat'(first|exact a6|apply eS rfl|refine rX e ?_ ?_)
 .exact⟨g,i⟩
 .exact⟨j,l⟩
 refine AI (ι:={k:Nat//MT ((B5 a).drop k) ((B5 b).drop k)=Di a b}) (λk=>⟨[(5,.p Bx (B5 a)),(6,.p Bx (B5 b)),(7,.p (.int .i64) (k.1:Int))],[]⟩) (λk=>(B5 a).length-k.1) ⟨0,by simp[Di]⟩ (AC [] rfl rfl ?_ ?_) (λk=>?_)
 .exact eN
 .exact eN
 obtain⟨k,hk⟩:=k;repeat'(first|exact a6|apply eS rfl|apply AB|refine rX e ?_ ?_|refine rC ?_ ?_<;>intro f<;>try(cases f;done))
 .exact eV
 .obtain⟨h1,c⟩:k<(B5 a).length/\k<(B5 b).length:=by exact eV
  have d:Di a b=-1:=by rw[<-hk,Rm _ _ h1 c,At f]
  exact fI e [.tmp 4] (by rw[d];exact eR)
 .exact eV
 .obtain⟨h1,c⟩:k<(B5 a).length/\k<(B5 b).length:=by exact eV
  have d:Di a b=1:=by rw[<-hk,Rm _ _ h1 c,An eV,At f]
  exact fI e [.tmp 4] (by rw[d];exact eR)
 .exact eV
 .obtain⟨h1,c⟩:k<(B5 a).length/\k<(B5 b).length:=by exact eV
  refine⟨⟨k+1,?_⟩,by simp only;exact eV,AC [] rfl rfl ?_ ?_⟩
  .rw[<-hk,Rm _ _ h1 c,An eV,An eV]
  .exact eN
  exact eN
 have d:Di a b=0:=by
  rw[<-hk];apply A1c;by_cases h:k<(B5 a).length
  .right;have:=f eV;exact eV
  left;exact eV
 exact fI e [.tmp 4] (by rw[d];exact eR)
def Oo:AZ:={ ins:=[E7,E7],pre:=λ(a,b,_)=>K0 a/\K0 b,out:=λ(a,b,_)=>[.p .bool (Di a b==0)] }
end
section
attribute [local go_sem] V5 f6
theorem f8:Ac Tryz.prog 21 Oo:=by
 refine fK [0,1,2,3,4] Tryz.func21 Tryz.ntmps21 (AE mN AH) ?_;rintro w0 O0 ⟨a,b,u⟩ c-d;simp only[Oo,AL];repeat'(first|exact a6|apply eS rfl|refine rX c ?_ ?_)
 .exact d
 exact fI c [.tmp 4]
def Gu (m:Int):List (Int×List (Int×Int))->Int
 | []=>0
 | n :: r=>if n.1<0 then 2 else if HC n.2 m≠0 then HC n.2 m else Gu m r
def B7 (f:List (Int×List (Int×Int))):Int:=if f.length=0 then 1 else if 4096<f.length then 7 else Gu f.length f
def qG:AZ:={ ins:=[E7],pre:=λ_=>True,out:=λ(f,_)=>[.p C0 (B7 f)] }
theorem ID (m:Int) (l:List (Int×List (Int×Int))) (h:k<l.length):Gu m (l.drop k)=if (l.getD k (0,[])).1<0 then 2 else if HC (l.getD k (0,[])).2 m≠0 then HC (l.getD k (0,[])).2 m else Gu m (l.drop (k+1)):=by
 rw[OR h,AS,As h];rfl
theorem A4w:Ac Tryz.prog 78 qG:=by
 refine fK [0,1,2,3,4,8,12,17,26,38] Tryz.func78 Tryz.ntmps78 (AE A4v AH) ?_;rintro w0 O0 ⟨l,u⟩ a ⟨f,-⟩ -;simp only[qG,AL];repeat'(first|exact a6|apply eS rfl|refine rX a ?_ ?_|refine rC ?_ ?_<;>intro b<;>try(cases b;done))
 .have h1:B7 l=1:=by
   have h:l.length=0:=by exact eV
   unfold B7;rw[At h]
  exact fI a [.tmp 2] (by rw[h1];exact eR)
 .have h1:B7 l=7:=by
   have h:¬l.length=0:=by exact eV
   have e:4096<l.length:=by exact eV
   unfold B7;rw[An h,At e]
  exact fI a [.tmp 2] (by rw[h1];exact eR)
 have h1:B7 l=Gu l.length l:=by
  have h:¬l.length=0:=by exact eV
  have e:¬4096<l.length:=by exact eV
  unfold B7;rw[An h,An e]
 refine AI (ι:={k:Nat//k<=l.length/\Gu l.length (l.drop k)=B7 l}) (λk=>⟨[(1,.bp 1 [] 0),(3,.p (.int .i64) (k.1:Int))],[(1,.box 34 true [.p Ij l])]⟩) (λk=>l.length-k.1) ⟨0,by simp[h1]⟩ (AC [(1,.nm 1)] rfl rfl ?_ ?_) (λk=>?_)
 .exact eN
 .exact eN
 obtain⟨k,hk,hf⟩:=k;repeat'(first|exact a6|apply eS rfl|apply AB|refine rX a ?_ ?_|refine rC ?_ ?_<;>intro b<;>try(cases b;done))
 .exact eV
 .have d:k<l.length:=by exact eV
  have c:B7 l=2:=by rw[<-hf,ID _ _ d,At b]
  exact fI a [.tmp 2] (by rw[c];exact eR)
 .exact eV
 .have d:k<l.length:=by exact eV
  have c:B7 l=HC (l.getD k (0,[])).2 l.length:=by rw[<-hf,ID _ _ d,An eV,At b]
  exact fI a [.tmp 2] (by rw[c];exact eR)
 .exact eV
 .have d:k<l.length:=by exact eV
  refine⟨⟨k+1,eV,?_⟩,by simp only;exact eV,AC [(1,.nm 1)] rfl rfl ?_ ?_⟩
  .rw[<-hf,ID _ _ d,An eV,An (by simpa using b)]
  .exact eN
  exact eN
 have c:B7 l=0:=by
  have hk:l.length<=k:=by exact eV
  rw[<-hf,Is hk];rfl
 exact fI a [.tmp 2] (by rw[c];exact eR)
end
section
attribute [local go_sem] qG mG
theorem V6 {n:Int}:∀ {l seen:List (Int×Int)},Gt n seen l=0->∀a∈l,0<=a.1/\0<=a.2/\a.2<n
 | [],_,_,a,ha=>by cases ha
 | x :: l,seen,h,a,ha=>by
  simp only[Gt]at h;split at h
  .cases h
  split at h
  .cases h
  rename_i h1 _;rcases By.1 ha with rfl|ha
  .omega
  exact V6 h a ha
theorem IE {m:Int}:∀ {f:List (Int×List (Int×Int))},Gu m f=0->∀x∈f,0<=x.1/\∀a∈x.2,0<=a.1/\0<=a.2/\a.2<m
 | [],_,x,c=>by cases c
 | y :: f,h,x,c=>by
  simp only[Gu]at h;split at h
  .cases h
  split at h
  .rename_i h1 b;exact absurd h b
  rename_i h1 b;have b:HC y.2 m=0:=DO b;rcases By.1 c with rfl|c
  .exact⟨O1,V6 b⟩
  exact IE h x c
def Kh (f:List (Int×List (Int×Int))):Prop:=∀x∈f,x.2.length<=100000
def MU (f:List (Int×List (Int×Int))):Prop:=∀x∈f,x.2.length<=8796093022207
theorem Kh.big {f:List (Int×List (Int×Int))} (h:Kh f):MU f:=λx a=>gO (h x a) df
theorem V7 {f:List (Int×List (Int×Int))} (h:B7 f=0) (hs:MU f):QH f/\0<f.length:=by
 unfold B7 at h;split at h
 .cases h
 split at h
 .cases h
 refine⟨⟨O1,λx b=>⟨hs x b,λa ha=>?_⟩⟩,O1⟩;have:=(IE h x b).2 a ha;exact⟨this.2.1,this.2.2⟩
theorem Ki {f:List (Int×List (Int×Int))} (h:B7 f=0) (hs:Kh f):AX f/\0<f.length :=
 have k:=V7 h hs.big
 ⟨⟨k.1.1,λx a=>⟨hs x a,(k.1.2 x a).2⟩⟩,k.2⟩
def A3 (f:List AD):List AD×Int:=if B7 f=0 then (Jk f 0,0) else ([],B7 f)
def mO:AZ:={ ins:=[E7],pre:=λ(f,_)=>Kh f,out:=λ(f,_)=>[.p E7 (A3 f).1,.p C0 (A3 f).2] }
def aF:AZ:={ ins:=[E7],pre:=λ(f,_)=>MU f,out:=λ(f,_)=>[.p E7 (A3 f).1,.p C0 (A3 f).2] }
theorem YZ:Ac Tryz.prog 35 aF:=by
 refine fK [0,1,2,3,4,8] Tryz.func35 Tryz.ntmps35 (AE A4w (AE A14 AH)) ?_;rintro w0 O0 ⟨f,u⟩ b-hs;simp only[aF,AL];repeat'(first|exact a6|apply eS rfl|refine rX b ?_ ?_|refine rC ?_ ?_<;>intro a<;>try(cases a;done))
 .have h:¬B7 f=0:=by simpa using a
  have e:A3 f=([],B7 f):=An h;exact fI b [.cell 2 34,.tmp 3] (by rw[e];exact eR)
 .have h:B7 f=0:=by simpa using a
  have:=V7 h hs;exact⟨this.1,eV⟩
 have h:B7 f=0:=by simpa using a
 have e:A3 f=(Jk f 0,0):=At h;exact fI b [.cell 2 34,.tmp 3] (by rw[e];exact eR)
theorem A1d:Ac Tryz.prog 35 mO:=A7G YZ λ_ h=>Kh.big h
end
section
attribute [local go_sem] Gq f6
theorem qH {α:Type} (d:α) {l:List α} (h:k<l.length):l.drop k=l.getD k d :: l.drop (k+1):=by
 rw[OR h];have e:l.getD k d=l[k]:=by simp[AS,h]
 rw[e]
end
section
attribute [local go_sem] Gq f6 Tr
def f9 (l:List (Int×Int)):List (Int×Bool):=l.foldl (λm a=>FJ T3 .bool a.1 true m) []
theorem V8 {b:Ty} (x k:Int) (v:b.den) (m:List (Int×b.den)):BV T3 b x (FJ T3 b k v m)=if x=k then some v else BV T3 b x m:=by
 induction m with
 | nil=>simp[FJ,BV,HZ]
 | cons y m g =>
  simp only[FJ];by_cases c:HZ T3 k y.1=true
  .rw[At c];have d:k=y.1:=by simpa[HZ] using c
   simp only[BV,HZ,AA9];by_cases a:x=k
   .rw[At a,At a]
   rw[An a,An a,An (by rw[<-d];exact a)]
  rw[An c];have d:¬k=y.1:=by simpa[HZ] using c
  simp only[BV];by_cases a:HZ T3 x y.1=true
  .have f:x=y.1:=by simpa[HZ] using a
   rw[At a,At a,An (by rw[f];exact λe=>d e.symm)]
  rw[An a,An a,g]
theorem vD (x:Int) (l:List (Int×Int)):(BV T3 .bool x (f9 l)).getD false=l.any λy=>y.1==x:=by
 induction l using GY with
 | h0=>rfl
 | h1 l a c =>
  have e:f9 (l++[a])=FJ T3 .bool a.1 true (f9 l):=by unfold f9;rw[ABq];rfl
  rw[e,V8,AC4,<-c];by_cases h:x=a.1
  .rw[At h,h];simp
  rw[An h];have b:¬a.1=x:=λe=>h e.symm;simp[b]
def F2 (x:AD) (n:Int):Int:=if x.1<0 then 2 else HC x.2 n
def V9:AZ:={ ins:=[W3,T3],pre:=λ_=>True,out:=λ(x,n,_)=>[.p C0 (F2 x n)] }
attribute [local go_sem] V9
theorem mP:Ac Tryz.prog 91 V9:=by
 refine fK [0,1,2,4,5,7,10,13,14,15,16,32,36] Tryz.func91 Tryz.ntmps91 AH ?_;rintro w0 O0 ⟨⟨t,l⟩,n,u⟩ d ⟨⟨-,⟨o,-⟩⟩,-⟩ -;simp only[AP]at o;simp only[V9,AL];repeat'(first|exact a6|apply eS rfl|refine rX d ?_ ?_|refine rC ?_ ?_<;>intro b<;>try(cases b;done))
 .have h1:F2 (t,l) n=2:=At b;exact fI d [.tmp 4] (by rw[h1];exact eR)
 have h0:F2 (t,l) n=Gt n [] l:=An (AAy.2 b);rw[h0];refine AI (ι:={k:Nat//k<=List.length l/\Gt n [] l=Gt n ((l:List (Int×Int)).take k) ((l:List (Int×Int)).drop k)}) (λk=>⟨[(1,.p T3 n),(5,.mp 11),(13,.p NQ l),(14,.p (.int .i64) (List.length l:Int)),(15,.p (.int .i64) (k.1:Int))],[(11,.mapo T3 .bool (f9 ((l:List (Int×Int)).take k.1)))]⟩) (λk=>List.length l-k.1) ⟨0,Do _,rfl⟩ (AC [(11,.nm 11)] rfl rfl ?_ ?_) (λk=>?_)
 .refine eM ?_;rfl
 .exact eN
 obtain⟨k,hk,f⟩:=k;have g:=λh:k<l.length=>Om n l h;have q:=λh:k<l.length=>Rj (λ(m:List (Int×Bool)) (a:Int×Int)=>FJ T3 .bool a.1 true m) l (0,0) [] h;have i:=λx=>vD x (List.take k (l:List (Int×Int)));simp only;repeat'(first|exact a6|apply eS rfl|apply AB|refine rX d ?_ ?_|refine rC ?_ ?_<;>intro b<;>try(cases b;done))
 .exact b
 .have c:k<List.length l:=by exact eV
  have e:Gt n [] l=2:=by rw[f,g c,At O1]
  exact fI d [.tmp 4] (by rw[e];exact eR)
 .have c:k<List.length l:=by exact eV
  rw[i]at b;have e:Gt n [] l=4:=by rw[f,g c,An O1,At b]
  exact fI d [.tmp 4] (by rw[e];exact eR)
 .exact eV
 .have c:k<List.length l:=by exact eV
  rw[i]at b;refine⟨⟨k+1,c,by rw[f,g c,An O1,An (by rw[b];simp)]⟩,a2,AC [(11,.nm 11)] rfl rfl ?_ ?_⟩
  .refine eM ?_;exact(q c).symm
  exact eN
 have j:List.drop k (l:List (Int×Int))=[]:=Is eV;have e:Gt n [] l=0:=by rw[f,j];rfl
 exact fI d [.tmp 4] (by rw[e];exact eR)
theorem gA {n:Int}:∀ {l seen:List (Int×Int)},Gt n seen l=0->(∀a∈l,∀b∈seen,b.1≠a.1)/\YU l
 | [],_,_=>⟨λa ha=>(by cases ha),List.Pairwise.nil⟩
 | x :: l,seen,h=>by
  simp only[Gt]at h;split at h
  .cases h
  split at h
  .cases h
  rename_i h1 g;obtain⟨c,f⟩:=gA h;refine⟨λa ha b d=>?_,AAv.2 ⟨λa ha e=>c a ha x sc e,f⟩⟩;rcases By.1 ha with rfl|ha
  .intro e;exact g (aT.2 ⟨b,d,by simp[e]⟩)
  exact c a ha b (by simp[d])
theorem QM {m:Int}:∀ {f:List AD},Gu m f=0->∀x∈f,YU x.2
 | [],_,x,b=>by cases b
 | y :: f,h,x,b=>by
  simp only[Gu]at h;split at h
  .cases h
  split at h
  .rename_i h1 a;exact absurd h a
  rename_i h1 a;have a:HC y.2 m=0:=DO a;rcases By.1 b with rfl|b
  .exact(gA a).2
  exact QM h x b
def Sm (f:List AD):Prop:=∀x∈f,SS x.2
theorem gB (h:B7 f=0) (hs:Sm f):wX f:=by
 unfold B7 at h;split at h
 .cases h
 split at h
 .cases h
 exact λx a=>⟨QM h x a,hs x a⟩
def QN:AZ:={ ins:=[E7],pre:=λ(f,_)=>Sm f,out:=λ(f,_)=>[.p E7 (A3 f).1,.p C0 (A3 f).2] }
attribute [local go_sem] QN
theorem vE:Ac Tryz.prog 49 QN:=by
 refine fK [0,1,2,3,5,6,10,15,18,19,20,21,30] Tryz.func49 Tryz.ntmps49 (AE mP (AE vC AH)) ?_;rintro w0 O0 ⟨f,u⟩ c ⟨⟨n,-⟩,-⟩ hs;simp only[AP]at n;have hs:Sm f:=hs;have l:Kh f:=λx o=>gO (hs x o).1 O1;simp only[QN,AL];repeat'(first|exact a6|apply eS rfl|refine rX c ?_ ?_|refine rC ?_ ?_<;>intro a<;>try(cases a;done))
 .have h1:B7 f=1:=by
   have h:f.length=0:=by exact eV
   unfold B7;rw[At h]
  have e:A3 f=([],1):=by unfold A3;rw[h1];rfl
  exact fI c [.cell 2 34,.tmp 3] (by rw[e];exact eR)
 .have h1:B7 f=7:=by
   have h:¬f.length=0:=by exact eV
   have i:4096<f.length:=by exact eV
   unfold B7;rw[An h,At i]
  have e:A3 f=([],7):=by unfold A3;rw[h1];rfl
  exact fI c [.cell 2 34,.tmp 3] (by rw[e];exact eR)
 have h1:B7 f=Gu f.length f:=by
  have h:¬f.length=0:=by exact eV
  have i:¬4096<f.length:=by exact eV
  unfold B7;rw[An h,An i]
 have j:0<f.length:=by exact eV
 refine AI (ι:={k:Nat//k<=f.length/\Gu f.length (f.drop k)=B7 f}) (λk=>⟨[(1,.bp 1 [] 0),(2,.bp 2 [] 0),(18,.p Ij f),(19,.p (.int .i64) (f.length:Int)),(20,.p (.int .i64) (k.1:Int))],[(1,.box 34 true [.p Ij f]),(2,.box 34 true [.raw (.slice none 0 0)])]⟩) (λk=>f.length-k.1) ⟨0,by simp[h1]⟩ (eW [(1,.nm 1),(2,.nm 2)]) (λk=>?_)
 obtain⟨k,hk,hf⟩:=k;simp only;repeat'(first|exact a6|apply eS rfl|apply AB|refine rX c ?_ ?_|refine rC ?_ ?_<;>intro a<;>try(cases a;done))
 .exact a
 .have g:k<f.length:=by exact eV
  have a:¬F2 (f.getD k (0,[])) f.length=0:=a;have m:B7 f=F2 (f.getD k (0,[])) f.length:=by
   rw[<-hf,ID _ _ g];unfold F2 at a ⊢;by_cases b:(f.getD k (0,[])).1<0
   .rw[At b,At b]
   rw[An b]at a;rw[An b,An b,At a]
  have e:A3 f=([],F2 (f.getD k (0,[])) f.length):=by unfold A3;rw[m,An a]
  exact fI c [.cell 2 34,.tmp 3] (by rw[e];exact eR)
 .exact eV
 .have g:k<f.length:=by exact eV
  have a:F2 (f.getD k (0,[])) f.length=0:=by simpa using a
  refine⟨⟨k+1,g,?_⟩,a2,AC [(1,.nm 1),(2,.nm 2)] rfl rfl ?_ ?_⟩
  .rw[<-hf,ID _ _ g];unfold F2 at a;by_cases b:(f.getD k (0,[])).1<0
   .rw[At b]at a;cases a
   rw[An b]at a;rw[An b,An (by rw[a];simp)]
  .exact eN
  exact eN
 .have d:B7 f=0:=by rw[<-hf,Is eV];rfl
  exact⟨(Ki d l).1,gB d hs,f4.2 j⟩
 have d:B7 f=0:=by rw[<-hf,Is eV];rfl
 have e:A3 f=(AU (DP f) 0,0):=by unfold A3;rw[At d,MS (Ki d l).1 (gB d hs) (ABN 0) (f4.2 j)]
 exact fI c [.cell 2 34,.tmp 3] (by rw[e];exact eR)
end
def LE (h:AG) (f:Int):Int:=(h.2.getD f.toNat (ByteArray.empty,0)).2
def MV (h:AG) (n:Int):List (Int×Int)->EF->Option EF
 | [],s=>some s
 | a :: l,s=>(DE h s n (LE h a.1)).bind (MV h n l)
def NT (h:AG) (n:Int):List (Int×Int)->EF->Option EF
 | [],s=>some s
 | a :: l,s=>if (CN h (s.1.getD n.toNat 0) a.1).2=true then (DE h s a.2 (CN h (s.1.getD n.toNat 0) a.1).1).bind (NT h n l) else none
def LF (h:AG) (f:List AD) (n:Int) (s:EF):Option EF:=(MV h n (f.getD n.toNat (0,[])).2 s).bind (NT h n (f.getD n.toNat (0,[])).2)
def wY (h:AG) (f:List AD):Nat->Nat->EF->Option (List Int)
 | 0,_,_=>none
 | k+1,i,s=>if i<s.2.length then (LF h f (s.2.getD i 0) s).bind (wY h f k (i+1)) else some s.1
def Bj (f:List AD):List Int:=f.map λx=>x.1
def EP (f:List AD):List Int:=(List.range f.length).map λi:Nat=>(i:Int)
def Ew (f:List AD) (ty:List Int):List AD:=(List.range f.length).map λi=>(ty.getD i 0,(f.getD i (0,[])).2)
structure bW (h:AG):Prop where
 int:∀x∈h.2,0<=x.2/\x.2<(h.1.length:Int)
 val:∀t∈h.1,∀p∈t.2.2.2,0<=p.2/\p.2<(h.1.length:Int)
structure NU (h:AG) (m:Nat) (s:EF):Prop where
 len:s.1.length=m
 ty:∀t∈s.1,0<=t/\t<(h.1.length:Int)
 wt:∀n∈s.2,0<=n/\n<(m:Int)
theorem NU.get {m:Nat} {s:EF} (hs:NU h m s) {n:Int} (n0:0<=n) (n1:n<(m:Int)):0<=s.1.getD n.toNat 0/\s.1.getD n.toNat 0<(h.1.length:Int):=by
 have a:n.toNat<s.1.length:=by rw[hs.len];omega
 rw[AS,As a];exact hs.ty _ (AA5 a)
def vF (h:AG) (t:Int):Nat:=((List.range h.1.length).filter λi:Nat=>Ah h t (i:Int)).length
def Ya (h:AG) (ty:List Int):Nat:=(ty.map (vF h)).sum
theorem Yb {α:Type} {p q:α->Bool}:∀ {l:List α},(∀x∈l,q x=true->p x=true)->(∃b∈l,p b=true/\q b=false)->(l.filter q).length<(l.filter p).length
 | [],_,⟨b,c,_⟩=>by cases c
 | x :: l,h1,⟨b,c,f,g⟩=>by
  have i:∀ {l:List α},(∀x∈l,q x=true->p x=true)->(l.filter q).length<=(l.filter p).length:=by
   intro l h;induction l with
   | nil=>exact On _
   | cons y l j =>
    have e:=j λz d=>h z (IF _ d);rw[AAO,AAO];by_cases a:q y=true
    .rw[At a,At (h y sc a)];simp only[NO];omega
    rw[An a];split
    .simp only[NO];omega
    exact e
  rw[AAO,AAO];rcases By.1 c with rfl|c
  .rw[An (by rw[g];simp),At f];have:=i λz d=>h1 z (IF _ d);simp only[NO];omega
  have e:=Yb (λz d=>h1 z (IF _ d)) ⟨b,c,f,g⟩;by_cases a:q x=true
  .rw[At a,At (h1 x sc a)];simp only[NO];omega
  rw[An a];split
  .simp only[NO];omega
  exact e
theorem Ts (hk:FC h) {a:Int} (b:0<=a) (c:a<(h.1.length:Int)):Ah h a a=true:=(B4 hk b c b c).2 λ_ h=>h
theorem HR (hk:FC h) {a c:Int} (d:0<=a) (e:a<(h.1.length:Int)) (f:0<=b) (b1:b<(h.1.length:Int)) (c0:0<=c) (c1:c<(h.1.length:Int)) (h1:Ah h a b=true) (g:Ah h b c=true):Ah h a c=true :=
 (B4 hk d e c0 c1).2 λi hi=>(B4 hk d e f b1).1 h1 i ((B4 hk f b1 c0 c1).1 g i hi)
theorem A4x (hk:FC h) (hi:JF h) {a m:Int} (b:0<=a) (c:a<(h.1.length:Int)) (f:0<=m) (g:m<(h.1.length:Int)) (hs:Ah h a m=true) (i:m≠a):vF h m<vF h a:=by
 refine Yb (λx d e=>?_) ⟨a.toNat,oS.2 O1,?_,?_⟩
 .have d:=oS.1 d;exact HR hk b c f g (AAP _) O1 hs e
 .rw[ABs b];exact Ts hk b c
 rw[ABs b];cases e:Ah h m a with
 | false=>rfl
 | true=>exact absurd (hi m a f g b c e hs) i
theorem qI {α:Type} (g:α->Nat) (d:α):∀ {l:List α} {i:Nat} {v:α},i<l.length->((l.set i v).map g).sum+g (l.getD i d)=(l.map g).sum+g v
 | [],i,v,h=>by simp at h
 | x :: l,0,v,h=>by simp only[ACK,sQ,List.sum_cons,List.getD_cons_zero];omega
 | x :: l,i+1,v,h=>by
  have:=qI g d (l:=l) (i:=i) (v:=v) (by simpa using h);simp only[ACL,sQ,List.sum_cons,List.getD_cons_succ];omega
theorem Er (hk:FC h) (hi:JF h) {m:Nat} {s b:EF} (hs:NU h m s) {n t:Int} (n0:0<=n) (n1:n<(m:Int)) (o:0<=t) (p:t<(h.1.length:Int)) (e:DE h s n t=some b) :
  NU h m b/\Ya h b.1+b.2.length<=Ya h s.1+s.2.length/\s.2.length<=b.2.length:=by
 obtain⟨c,d⟩:=hs.get n0 n1;unfold DE at e;split at e
 .rename_i j;obtain⟨f,g,l,u⟩:=(MM hk c d o p).1 j;generalize (Cy h (s.1.getD n.toNat 0) t).1=v at *;injection e with e
  split at e
  .subst e;exact⟨hs,On _,On _⟩
  rename_i k;subst e;have r:=A4x hk hi c d f g l k;have i:n.toNat<s.1.length:=by rw[hs.len];omega
  have q:=qI (vF h) 0 (v:=v) i;refine⟨⟨by simp only[AAt];exact hs.len,λx a=>?_,λx a=>?_⟩,?_,sc⟩
  .rcases ABd a with a|rfl
   .exact hs.ty x a
   exact⟨f,g⟩
  .rcases If.1 a with a|a
   .exact hs.wt x a
   rw[oN.1 a];exact⟨n0,n1⟩
  unfold Ya;simp only[IS,nO];omega
 cases e
def Jm (h:AG) (m:Nat) (a:Int×Int):Prop:=(0<=a.1/\a.1<(h.2.length:Int))/\0<=a.2/\a.2<(m:Int)
theorem MW (hf:bW h) {f:Int} (b:0<=f) (c:f<(h.2.length:Int)):0<=LE h f/\LE h f<(h.1.length:Int):=by
 have a:f.toNat<h.2.length:=by omega
 unfold LE;rw[AS,As a];exact hf.int _ (AA5 a)
theorem Yc {f:Int}:∀ {l:List (Int×Int)},(D6 f l).2=true->(f,(D6 f l).1)∈l
 | [],h=>by cases h
 | x :: l,h=>by
  unfold D6 at h ⊢;split
  .rename_i e;rw[<-e];simp
  rename_i e;rw[An e]at h;exact IF _ (Yc h)
theorem vG {t:Int} (a:0<=t) (b:t<(h.1.length:Int)):h.1.getD t.toNat Rb∈h.1:=AF h.1 Rb O1
theorem IG (hf:bW h) {t f:Int} (a:0<=t) (b:t<(h.1.length:Int)) (e:(CN h t f).2=true):0<=(CN h t f).1/\(CN h t f).1<(h.1.length:Int) :=
 hf.val _ (vG a b) _ (Yc e)
theorem QO {h:AG} (hk:FC h) (hi:JF h) (hf:bW h) {m:Nat} {n:Int} (n0:0<=n) (n1:n<(m:Int)):∀ {l:List (Int×Int)} {s c:EF},(∀a∈l,Jm h m a)->NU h m s->MV h n l s=some c ->
  NU h m c/\Ya h c.1+c.2.length<=Ya h s.1+s.2.length/\s.2.length<=c.2.length
 | [],s,c,_,hs,e=>by
  injection e with e
  subst e;exact⟨hs,On _,On _⟩
 | a :: l,s,c,f,hs,e=>by
  unfold MV at e;cases d:DE h s n (LE h a.1) with
  | none=>rw[d]at e;cases e
  | some s1 =>
   rw[d]at e;obtain⟨⟨g,i⟩,-⟩:=f a sc;obtain⟨o,p⟩:=MW hf g i;obtain⟨j,r,t⟩:=Er hk hi hs n0 n1 o p d;obtain⟨q,u,v⟩:=QO hk hi hf n0 n1 (λb k=>f b (by simp[k])) j e;exact⟨q,O1,O1⟩
theorem Tt {h:AG} (hk:FC h) (hi:JF h) (hf:bW h) {m:Nat} {n:Int} (n0:0<=n) (n1:n<(m:Int)):∀ {l:List (Int×Int)} {s c:EF},(∀a∈l,Jm h m a)->NU h m s->NT h n l s=some c ->
  NU h m c/\Ya h c.1+c.2.length<=Ya h s.1+s.2.length/\s.2.length<=c.2.length
 | [],s,c,_,hs,e=>by
  injection e with e
  subst e;exact⟨hs,On _,On _⟩
 | a :: l,s,c,g,hs,e=>by
  unfold NT at e;split at e
  .rename_i o;obtain⟨j,f⟩:=hs.get n0 n1;obtain⟨p,q⟩:=IG hf j f o;cases d:DE h s a.2 (CN h (s.1.getD n.toNat 0) a.1).1 with
   | none=>rw[d]at e;cases e
   | some s1 =>
    rw[d]at e;obtain⟨-,i,b1⟩:=g a sc;obtain⟨f,t,u⟩:=Er hk hi hs i b1 p q d;obtain⟨r,v,w⟩:=Tt hk hi hf n0 n1 (λb k=>g b (by simp[k])) f e;exact⟨r,O1,O1⟩
  cases e
def Oq (h:AG) (f:List AD):Prop:=∀x∈f,∀a∈x.2,Jm h f.length a
theorem MX (ha:Oq h f) {n:Int} (n0:0<=n) (n1:n<(f.length:Int)):∀a∈(f.getD n.toNat (0,[])).2,Jm h f.length a:=ha _ (AF f (0,[]) O1)
theorem WA (hk:FC h) (hi:JF h) (hf:bW h) (ha:Oq h f) {n:Int} (n0:0<=n) (n1:n<(f.length:Int)) {s a:EF} (hs:NU h f.length s) (e:LF h f n s=some a) :
  NU h f.length a/\Ya h a.1+a.2.length<=Ya h s.1+s.2.length/\s.2.length<=a.2.length:=by
 unfold LF at e;cases b:MV h n (f.getD n.toNat (0,[])).2 s with
 | none=>rw[b]at e;cases e
 | some s1 =>
  rw[b]at e;obtain⟨c,g,i⟩:=QO hk hi hf n0 n1 (MX ha n0 n1) hs b;obtain⟨d,j,k⟩:=Tt hk hi hf n0 n1 (MX ha n0 n1) c e;exact⟨d,O1,O1⟩
theorem A4y (h:AG) (t:Int):vF h t<=h.1.length:=by
 unfold vF;exact gO (ABu _ _) sc
theorem A1e (h:AG):∀ty:List Int,Ya h ty<=ty.length*h.1.length
 | []=>by simp[Ya]
 | t :: ty=>by
  have h1:=A1e h ty;have a:=A4y h t;unfold Ya at h1 ⊢;simp only[sQ,List.sum_cons,NO,ACp,Nat.one_mul];omega
def Nr (h:AG) (f:List AD):Nat:=f.length*h.1.length+f.length+1
def IH (h:AG) (f:List AD):Option (List Int):=wY h f (Nr h f) 0 (Bj f,EP f)
def EH (h:AG) (f:List AD):List AD×Bool:=match IH h f with
 | some ty=>(Ew f ty,true)
 | none=>([],false)
theorem A1f (ht:∀x∈f,0<=x.1/\x.1<(h.1.length:Int)):NU h f.length (Bj f,EP f):=by
 refine⟨by simp[Bj],λt h1=>?_,λn hn=>?_⟩
 .obtain⟨x,a,rfl⟩:=GO.1 h1;exact ht x a
 obtain⟨i,hi,rfl⟩:=GO.1 hn;have:=oS.1 hi;omega
theorem A1g (h:AG) (f:List AD):Ya h (Bj f)+(EP f).length+1<=Nr h f:=by
 have:=A1e h (Bj f);unfold Nr;rw[show (Bj f).length=f.length by simp[Bj]]at this;rw[show (EP f).length=f.length by simp[EP]];omega
def wZ (l:List Int) (n:Int):Bool:=l.any λx=>x==n
def gC:AZ:={ ins:=[T3],pre:=λ_=>True,out:=λ(t,_)=>[.p E7 [(t,[])]] }
theorem A4z:Ac Tryz.prog 31 gC:=by
 refine fK [0,2] Tryz.func31 Tryz.ntmps31 AH ?_;rintro w0 O0 ⟨t,u⟩ a - -;simp only[gC,AL];repeat'(first|exact a6|apply eS rfl|apply AB|refine rX a ?_ ?_|refine rC ?_ ?_<;>intro b<;>try(cases b;done))
 exact fI a [.cell 2 34]
section
attribute [local go_sem] mO Oo
theorem mQ (hf:AX f) {n:Int} (h0:0<=n) (h1:n<f.length):K0 (Jk f n):=by
 obtain⟨⟨b,c⟩,_⟩:=A4p hf h0 h1;have d:=hf.1;refine⟨?_,λx a=>?_⟩
 .unfold Jk;rw[Of];omega
 obtain⟨m,_,rfl⟩:=GO.1 a;unfold Np;simp only[Of,Cb];exact A13 hf m
theorem Sn (hs:Kh f):K0 (A3 f).1:=by
 unfold A3;split
 .rename_i h;obtain⟨h1,b⟩:=Ki h hs;exact mQ h1 O1 O1
 exact⟨sc,λx a=>by cases a⟩
end
theorem gD (l:List (Int×Int)):MO l↔l.Pairwise (λa b=>a.1<b.1):=by
 constructor
 .intro h;rw[iN];have key:∀d i,i+d+1<l.length->(l.getD i (0,0)).1<(l.getD (i+d+1) (0,0)).1:=by
   intro d;induction d with
   | zero=>intro i hi;exact h i hi
   | succ d e =>
    intro i hi;have h1:=e i O1;have f:=h (i+d+1) O1;have:i+(d+1)+1=i+d+1+1:=by omega
    rw[this];omega
  intro i j hi c g;have h1:=key (j-i-1) i O1;rw[show i+(j-i-1)+1=j by omega]at h1;simpa[AS,hi,c] using h1
 intro h i hi;rw[iN]at h;have:=h i (i+1) O1 hi O1;simpa[AS,hi,show i<l.length by omega] using this
def LG (l:List Int):List (Int×Bool):=l.foldl (λm x=>FJ T3 .bool x true m) []
theorem mR {b:Ty} (x k:Int) (v:b.den) (m:List (Int×b.den)):BV T3 b x (FJ T3 b k v m)=if x=k then some v else BV T3 b x m:=by
 induction m with
 | nil=>simp[FJ,BV,HZ]
 | cons y m g =>
  simp only[FJ];by_cases c:HZ T3 k y.1=true
  .rw[At c];have d:k=y.1:=by simpa[HZ] using c
   simp only[BV,HZ,AA9];by_cases a:x=k
   .rw[At a,At a]
   rw[An a,An a,An (by rw[<-d];exact a)]
  rw[An c];have d:¬k=y.1:=by simpa[HZ] using c
  simp only[BV];by_cases a:HZ T3 x y.1=true
  .have f:x=y.1:=by simpa[HZ] using a
   rw[At a,At a,An (by rw[f];exact λe=>d e.symm)]
  rw[An a,An a,g]
theorem A4A (l:List Int) (x:Int):(BV T3 .bool x (LG l)).getD false=wZ l x:=by
 induction l using GY with
 | h0=>rfl
 | h1 l a c =>
  have e:LG (l++[a])=FJ T3 .bool a true (LG l):=by simp[LG]
  rw[e,mR];by_cases b:x=a
  .rw[At b];subst b;simp[wZ]
  rw[An b,c];simp only[wZ,AC4,List.any_cons,List.any_nil,ACl];have:(a==x)=false:=by simpa using λe=>b e.symm
  rw[this,ACl]
theorem Jn {y:Int} {xs ys:List Int} (h:MT (x :: xs) (y :: ys)=0):x=y/\MT xs ys=0:=by
 simp only[MT]at h;split at h
 .cases h
 split at h
 .cases h
 exact⟨O1,h⟩
theorem WB:∀ {l m:List (Int×Int)} {r s:List Int},l.length=m.length->MT (l.flatMap (λa=>[a.1,a.2])++r) (m.flatMap (λa=>[a.1,a.2])++s)=0->l=m/\MT r s=0
 | [],[],_,_,_,h=>⟨rfl,by simpa using h⟩
 | [],_ :: _,_,_,b,_=>by simp at b
 | _ :: _,[],_,_,b,_=>by simp at b
 | (c,d) :: l,(b1,b2) :: m,r,s,b,h=>by
  have h:MT (c :: d :: (l.flatMap (λa=>[a.1,a.2])++r)) (b1 :: b2 :: (m.flatMap (λa=>[a.1,a.2])++s))=0:=by simpa using h
  obtain⟨e,i⟩:=Jn h;obtain⟨f,j⟩:=Jn i;obtain⟨g,k⟩:=WB (l:=l) (m:=m) (by simpa using b) j;exact⟨by rw[e,f,g],k⟩
theorem WC:∀ {l m:List AD} {r s:List Int},l.length=m.length->MT (l.flatMap V1++r) (m.flatMap V1++s)=0->l=m/\MT r s=0
 | [],[],_,_,_,h=>⟨rfl,by simpa using h⟩
 | [],_ :: _,_,_,b,_=>by simp at b
 | _ :: _,[],_,_,b,_=>by simp at b
 | (d,c) :: l,(b1,b2) :: m,r,s,b,h=>by
  have h:MT (d :: (c.length:Int) :: (c.flatMap (λa=>[a.1,a.2])++(l.flatMap V1++r))) (b1 :: (b2.length:Int) :: (b2.flatMap (λa=>[a.1,a.2])++(m.flatMap V1++s)))=0:=by simpa[V1] using h
  obtain⟨e,i⟩:=Jn h;obtain⟨o,j⟩:=Jn i;obtain⟨f,k⟩:=WB (l:=c) (m:=b2) O1 j;obtain⟨g,n⟩:=WC (l:=l) (m:=m) (by simpa using b) k;exact⟨by rw[e,f,g],n⟩
theorem gE {a b:List AD} (h:Di a b=0):a=b:=by
 unfold Di B5 at h;obtain⟨h1,c⟩:=Jn h;have:=WC (l:=a) (m:=b) (r:=[]) (s:=[]) O1 (by simpa using c);exact this.1
section
attribute [local go_sem] mO Oo
def qJ (h:AG) (a:Int×Int):Bool:=decide (a.1<(h.2.length:Int))
def TC (h:AG) (x:AD):Bool:=decide (x.1<(h.1.length:Int))&&x.2.all (qJ h)
def Cg (h:AG) (f:List AD):Int:=if (A3 f).2≠0 then (A3 f).2 else if f.all (TC h)=false then 2 else if (Di f (A3 f).1==0)=false then 3 else 0
def NB:AZ:={ ins:=[FL,E7],pre:=λ(_,f,_)=>K0 f,out:=λ(h,f,_)=>[.p C0 (Cg h f)] }
theorem vH:Ac Tryz.prog 13 NB:=by
 refine fK [0,1,2,3,4,5,6,7,8,9,16,22,35,40,52,56] Tryz.func13 Tryz.ntmps13 (AE A1d (AE f8 AH)) ?_;rintro w0 O0 ⟨⟨ht,hf⟩,f,u⟩ c-hs;have hs:K0 f:=hs;simp only[NB,AL];repeat'(first|exact a6|apply eS rfl|refine rX c ?_ ?_|refine rC ?_ ?_<;>intro a<;>try(cases a;done))
 .exact hs.2
 .have h1:Cg (ht,hf) f=(A3 f).2:=by unfold Cg;rw[At a]
  exact fI c [.tmp 4] (by rw[h1];exact eR)
 have s:(A3 f).2=0:=by simpa using a
 have o:=Sn hs.2;have v:=hs.1;have d:Cg (ht,hf) f=if f.all (TC (ht,hf))=false then 2 else if (Di f (A3 f).1==0)=false then 3 else 0:=by unfold Cg;rw[An (by rw[s];simp)]
 refine AI (ι:={i:Nat//i<=f.length/\(f.take i).all (TC (ht,hf))=true}) (λi=>⟨[(2,.bp 2 [] 0),(3,.bp 3 [] 0),(5,.bp 5 [] 0),(7,.p (.int .i64) (i.1:Int))],[(2,.box 26 true [.p Qu ht,.p SZ hf]),(3,.box 34 true [.p Ij f]),(5,.box 34 true [.p Ij (A3 f).1])]⟩) (λi=>f.length-i.1) ⟨0,sc⟩ (eW [(2,.nm 2),(3,.nm 3),(5,.nm 5)]) (λi=>?_)
 obtain⟨i,hi,j⟩:=i;have q:=λh:i<f.length=>GL f (0,[]) (TC (ht,hf)) h;simp only;repeat'(first|exact a6|apply eS rfl|refine rX c ?_ ?_|refine rC ?_ ?_<;>intro a<;>try(cases a;done))
 .exact a
 .have b:i<f.length:=f4.1 a4;have e:f.all (TC (ht,hf))=false:=by
   rw[ABr];refine⟨_,AF f (0,[]) b,?_⟩;unfold TC;rw[ABC (AAy.2 a)];simp
  rw[At e]at d;exact fI c [.tmp 4] (by rw[d];exact eR)
 .have b:i<f.length:=f4.1 a4;have m:=AF f (0,[]) b;have n:TC (ht,hf) (f.getD i (0,[]))=(f.getD i (0,[])).2.all (qJ (ht,hf)):=by
   unfold TC;rw[AB7 (show (f.getD i (0,[])).1<(ht.length:Int) from a)];rfl
  have t:(f.getD i (0,[])).2.length<=100000:=hs.2 _ m;refine AI (ι:={k:Nat//k<=(f.getD i (0,[])).2.length/\((f.getD i (0,[])).2.take k).all (qJ (ht,hf))=true}) (λk=>⟨[(2,.bp 2 [] 0),(3,.bp 3 [] 0),(5,.bp 5 [] 0),(7,.p (.int .i64) (i:Int)),(8,.bp 8 [] 0),(9,.p (.int .i64) (k.1:Int))],[(2,.box 26 true [.p Qu ht,.p SZ hf]),(3,.box 34 true [.p Ij f]),(5,.box 34 true [.p Ij (A3 f).1]),(8,.box 57 true [.p T3 (f.getD i (0,[])).1,.p NQ (f.getD i (0,[])).2])]⟩) (λk=>(f.getD i (0,[])).2.length-k.1) ⟨0,sc⟩ (eW [(2,.nm 2),(3,.nm 3),(5,.nm 5),(8,.nm 8)]) (λk=>?_)
  obtain⟨k,hk,l⟩:=k;have r:=λh:k<(f.getD i (0,[])).2.length=>GL (f.getD i (0,[])).2 (0,0) (qJ (ht,hf)) h;simp only;repeat'(first|exact a6|apply eS rfl|apply AB|refine rX c ?_ ?_|refine rC ?_ ?_<;>intro a<;>try(cases a;done))
  .exact a
  .have g:k<(f.getD i (0,[])).2.length:=f4.1 a4;have e:f.all (TC (ht,hf))=false:=by
    rw[ABr];refine⟨_,m,?_⟩;rw[n,ABr.2 ⟨_,AF (f.getD i (0,[])).2 (0,0) g,by unfold qJ;rw[ABC (AAy.2 a)];simp⟩];simp
   rw[At e]at d;exact fI c [.tmp 4] (by rw[d];exact eR)
  .exact eV
  .have g:k<(f.getD i (0,[])).2.length:=f4.1 a4;refine⟨⟨k+1,g,?_⟩,a2,AC [(2,.nm 2),(3,.nm 3),(5,.nm 5),(8,.nm 8)] rfl rfl ?_ ?_⟩
   .rw[r g,l];unfold qJ;exact AB7 a
   .exact eN
   exact eN
  .exact eV
  have g:(f.getD i (0,[])).2.take k=(f.getD i (0,[])).2:=BY (AA7.1 a);rw[g]at l;refine⟨⟨i+1,b,?_⟩,a2,AC [(2,.nm 2),(3,.nm 3),(5,.nm 5)] rfl rfl ?_ ?_⟩
  .rw[q b,j,n,l];rfl
  .exact eN
  exact eN
 .exact⟨hs,o⟩
 .have b:f.take i=f:=BY (AA7.1 a4);rw[b]at j;rw[An (by rw[j];simp),At (by simpa using a)]at d;exact fI c [.tmp 4] (by rw[d];exact eR)
 have b:f.take i=f:=BY (AA7.1 a4);rw[b]at j;rw[An (by rw[j];simp),An (by rw[a];simp)]at d;exact fI c [.tmp 4] (by rw[d];exact eR)
end
section
attribute [local go_sem] Nn Nm
def GS (h:AG) (f:List AD) (t:Int):List (Int×Int)->Int
 | []=>0
 | a :: l=>if (CN h t a.1).2=false then 10 else if Ah h (CN h t a.1).1 (f.getD a.2.toNat (0,[])).1=false then 11 else GS h f t l
def FD (h:AG) (f:List AD):List AD->Int
 | []=>0
 | x :: l=>if GS h f x.1 x.2=0 then FD h f l else GS h f x.1 x.2
def HS (h:AG) (f:List AD):Int:=if Cg h f=0 then FD h f f else Cg h f
structure Chk (h:AG) (f:List AD):Prop where
 ty:∀x∈f,0<=x.1/\x.1<(h.1.length:Int)
 arc:∀x∈f,∀a∈x.2,Jm h f.length a
theorem A7L (e:Cg h f=0):Chk h f:=by
 have h1:(A3 f).2=0:=by
  refine DO λhn=>?_;unfold Cg at e;rw[At hn]at e;exact hn e
 have c:B7 f=0:=by
  refine DO λhn=>?_;unfold A3 at h1;rw[An hn]at h1;exact hn h1
 have d:f.all (TC h)=true:=by
  cases k:f.all (TC h) with
  | true=>rfl
  | false =>
   unfold Cg at e;rw[An (by rw[h1];simp),At k]at e;cases e
 have j:Gu f.length f=0:=by
  unfold B7 at c;split at c
  .cases c
  split at c
  .cases c
  exact c
 have g:=IE j;rw[No]at d;have i:∀x∈f,x.1<(h.1.length:Int)/\∀a∈x.2,a.1<(h.2.length:Int):=λx b=>by
  have:=d x b;unfold TC at this;rw[AT,IN,No]at this;exact⟨this.1,λa ha=>by have:=this.2 a ha;unfold qJ at this;simpa using this⟩
 exact⟨λx b=>⟨(g x b).1,(i x b).1⟩,λx b a ha=>by
  obtain⟨l,m,n⟩:=(g x b).2 a ha;exact⟨⟨l,(i x b).2 a ha⟩,m,n⟩⟩
theorem XP (h:AG) (f l:List AD) (hk:k<l.length):FD h f (l.drop k)=if GS h f (l.getD k (0,[])).1 (l.getD k (0,[])).2=0 then FD h f (l.drop (k+1)) else GS h f (l.getD k (0,[])).1 (l.getD k (0,[])).2:=by
 rw[qH (0,[]) hk];rfl
theorem gF (h:AG) (f:List AD) (t:Int) (l:List (Int×Int)) (hk:k<l.length):GS h f t (l.drop k)=if (CN h t (l.getD k (0,0)).1).2=false then 10 else if Ah h (CN h t (l.getD k (0,0)).1).1 (f.getD (l.getD k (0,0)).2.toNat (0,[])).1=false then 11 else GS h f t (l.drop (k+1)):=by
 rw[qH (0,0) hk];rfl
theorem A1h:Ac Tryz.prog 36 Nn:=by
 refine fK [0,1,2,3,6,7,8,9,19,28] Tryz.func36 Tryz.ntmps36 AH ?_;rintro w0 O0 ⟨⟨ht,hf⟩,t,f,u⟩ c o ⟨i,j⟩;simp only[Nn,AL];refine Ev.ent (σ':=⟨[(0,.p FL (ht,hf)),(1,.p T3 t),(2,.p T3 f)],[]⟩) ?_ (AC [] rfl rfl ?_ ?_)
 .repeat'(first|exact a6|apply eS rfl|refine rX c ?_ ?_)
  .exact⟨i,j⟩
  have n:∀l,l=(List.getD ht (Int.toNat t) (ByteArray.empty,[],[],[])).2.2.2->CN (ht,hf) t f=D6 f l:=λl e=>by rw[e];rfl
  have q:List.length (List.getD ht (Int.toNat t) (ByteArray.empty,[],[],[])).2.2.2<=140737488355328:=(o.1.1.2 _ (AF (ht:List FB) Rb ((ACP i).2 j))).2.2.2.1;generalize (List.getD ht (Int.toNat t) (ByteArray.empty,[],[],[])).2.2.2=l at *;rw[n l rfl];refine AI (ι:={k:Nat//k<=List.length l/\D6 f l=D6 f (l.drop k)}) (λk=>⟨[(2,.p T3 f),(8,.p XH l),(9,.p (.int .i64) (k.1:Int))],[]⟩) (λk=>List.length l-k.1) ⟨0,Do _,rfl⟩ (eW []) (λk=>?_)
  obtain⟨k,hk,a⟩:=k;have g:=λh:k<List.length l=>Vt f l h;simp only;repeat'(first|exact a6|apply eS rfl|apply AB|refine rX c ?_ ?_|refine rC ?_ ?_<;>intro b<;>try(cases b;done))
  .exact b
  .exact f4.2 eV
  .have d:k<List.length l:=by exact eV
   rw[g d,At b]at a;exact fI c [.tmp 6,.tmp 7] (by rw[a];exact eR)
  .omega
  .have d:k<List.length l:=by exact eV
   rw[g d,An b]at a;exact⟨⟨k+1,d,a⟩,a2,eW []⟩
  have m:List.drop k (l:List (Int×Int))=[]:=Is eV;rw[m]at a;have a:D6 f l=(0,false):=a;exact fI c [.tmp 6,.tmp 7] (by rw[a];exact eR)
 .exact eN
 exact eN
end
section
attribute [local go_sem] NB Nn Po
theorem A1i (hk:FC h) {a:Int} (c:0<=a) (d:a<(h.1.length:Int)) (e:0<=b) (b1:b<(h.1.length:Int)):Em (Be h b) (Be h a)=Ah h a b:=by
 have f:=hk.1.wds _ (Ca c d);have g:=hk.1.wds _ (Ca e b1);rw[ABW,FP g f];exact(B4 hk c d e b1).symm
def WD:AZ:={ ins:=[FL,T3,T3],pre:=λ(h,a,b,_)=>(((0:Int)<=a/\a<(List.length (h:AG).1:Int))/\((0:Int)<=b/\b<(List.length (h:AG).1:Int)))/\FC h,out:=λ(h,a,b,_)=>[.p .bool (Ah h a b)],lend:=true }
attribute [local go_sem] WD
theorem Jo:Ac Tryz.prog 37 WD:=by
 refine fK [0,1,2,3,6] Tryz.func37 Tryz.ntmps37 (AE RN AH) ?_;rintro w0 O0 ⟨⟨ht,hf⟩,a,b,u⟩ d-⟨⟨ha,c⟩,hk⟩;have hk:FC (ht,hf):=hk;have e:=A1i hk ha.1 ha.2 c.1 c.2;have f:(Be (ht,hf) b).length<=100000:=gO (hk.1.wid _ (Ca c.1 c.2)) O1;simp only[WD,AL];repeat'(first|exact a6|apply eS rfl|refine rX d ?_ ?_)
 .exact⟨c,ha,f⟩
 exact fI d [.tmp 6] (by rw[<-e];unfold Be;exact eR)
def MY:AZ:={ ins:=[FL,E7],pre:=λ(h,f,_)=>bW h/\K0 f/\FC h,out:=λ(h,f,_)=>[.p C0 (HS h f)] }
attribute [local go_sem] MY
theorem mS:Ac Tryz.prog 14 MY:=by
 refine fK [0,1,2,3,4,5,6,7,8,9,10,15,21,33,53,67] Tryz.func14 Tryz.ntmps14 (AE vH (AE A1h (AE Jo AH))) ?_;rintro w0 O0 ⟨⟨ht,hf⟩,f,u⟩ d-⟨m,hs,q⟩;have m:bW (ht,hf):=m;have hs:K0 f:=hs;have q:FC (ht,hf):=q;have H:=hs.1;simp only[MY,AL];repeat'(first|exact a6|apply eS rfl|refine rX d ?_ ?_|refine rC ?_ ?_<;>intro a<;>try(cases a;done))
 .exact hs
 .have g:HS (ht,hf) f=Cg (ht,hf) f:=An a;exact fI d [.tmp 4] (by rw[g];exact eR)
 have w:Cg (ht,hf) f=0:=by simpa using a
 have g:HS (ht,hf) f=FD (ht,hf) f f:=At w;obtain⟨v,A⟩:=A7L w;refine AI (ι:={i:Nat//i<=f.length/\FD (ht,hf) f f=FD (ht,hf) f (f.drop i)}) (λi=>⟨[(2,.bp 2 [] 0),(3,.bp 3 [] 0),(6,.p (.int .i64) (i.1:Int))],[(2,.box 26 true [.p Qu ht,.p SZ hf]),(3,.box 34 true [.p Ij f])]⟩) (λi=>f.length-i.1) ⟨0,Do _,rfl⟩ (eW [(2,.nm 2),(3,.nm 3)]) (λi=>?_)
 obtain⟨i,hi,e⟩:=i;have E:=λh:i<f.length=>XP (ht,hf) f f h;have D:=λh:i<f.length=>AF f (0,[]) h;simp only;repeat'(first|exact a6|apply eS rfl|refine rX d ?_ ?_|refine rC ?_ ?_<;>intro a<;>try(cases a;done))
 .exact a
 .have n:i<f.length:=f4.1 a;have r:=E n;have o:=D n;obtain⟨x,y⟩:=v _ o;have B:=A _ o;have G:=hs.2 _ o;generalize I:(f.getD i (0,[])).2=L at *;refine AI (ι:={k:Nat//k<=L.length/\GS (ht,hf) f (f.getD i (0,[])).1 L=GS (ht,hf) f (f.getD i (0,[])).1 (L.drop k)}) (λk=>⟨[(2,.bp 2 [] 0),(3,.bp 3 [] 0),(6,.p (.int .i64) (i:Int)),(7,.p NQ L),(8,.p (.int .i64) (k.1:Int))],[(2,.box 26 true [.p Qu ht,.p SZ hf]),(3,.box 34 true [.p Ij f])]⟩) (λk=>L.length-k.1) ⟨0,Do _,rfl⟩ (eW [(2,.nm 2),(3,.nm 3)]) (λk=>?_)
  obtain⟨k,hk,b⟩:=k;have s:=λh:k<L.length=>gF (ht,hf) f (f.getD i (0,[])).1 L h;have C:=λh:k<L.length=>B _ (AF L (0,0) h);simp only;have F:=IG (f:=(L.getD k (0,0)).1) m x y;repeat'(first|exact a6|apply eS rfl|apply AB|refine rX d ?_ ?_|refine rC ?_ ?_<;>intro a<;>try(cases a;done))
  .exact⟨a4,a,x,y⟩
  .have c:k<L.length:=by exact eV
   rw[s c,At a]at b;have j:HS (ht,hf) f=10:=by rw[g,e,r,An (by rw[b];simp),b]
   exact fI d [.tmp 4] (by rw[j];exact eR)
  .have c:k<L.length:=by exact eV
   obtain⟨-,z,b1⟩:=C c;exact⟨a4,⟨z,b1⟩,⟨F a,v _ (AF f (0,[]) O1)⟩,q⟩
  .have c:k<L.length:=by exact eV
   have t:(CN (ht,hf) (List.getD f i (0,[])).1 (List.getD L k (0,0)).1).2=true:=by assumption
   rw[s c,An (by rw[t];simp),At a]at b;have j:HS (ht,hf) f=11:=by rw[g,e,r,An (by rw[b];simp),b]
   exact fI d [.tmp 4] (by rw[j];exact eR)
  .omega
  .have c:k<L.length:=by exact eV
   have t:(CN (ht,hf) (List.getD f i (0,[])).1 (List.getD L k (0,0)).1).2=true:=by assumption
   rw[s c,An (by rw[t];simp),An (by rw[a];simp)]at b;exact⟨⟨k+1,c,b⟩,a2,eW [(2,.nm 2),(3,.nm 3)]⟩
  .omega
  have l:L.drop k=[]:=Is (AA7.1 a);rw[l]at b;have b:GS (ht,hf) f (f.getD i (0,[])).1 L=0:=b;rw[r,At b]at e;exact⟨⟨i+1,n,e⟩,a2,eW [(2,.nm 2),(3,.nm 3)]⟩
 have l:f.drop i=[]:=Is (AA7.1 a);rw[l]at e;have j:HS (ht,hf) f=0:=by rw[g,e];rfl
 exact fI d [.tmp 4] (by rw[j];exact eR)
end
section
attribute [local go_sem] Nm
def BU (l:List (Int×Int)) (e:Int):Int:=match l with
 | []=>-1
 | a :: l=>if a.1=e then a.2 else BU l e
theorem NC (e:Int) (l:List (Int×Int)) (h:k<l.length):BU (l.drop k) e=if (l.getD k (0,0)).1=e then (l.getD k (0,0)).2 else BU (l.drop (k+1)) e:=by
 rw[OR h];have e:l.getD k (0,0)=l[k]:=by simp[AS,h]
 rw[e];rfl
end
section
attribute [local go_sem] Nm
structure A1j (a b:List AD) (m:List Int):Prop where
 len:m.length=a.length
 rng:∀x∈m,x<(b.length:Int)
theorem Kj {n:Int} (hn:0<=n):∀ {l:List (Int×Int)} (e:Int),(∀x∈l,x.2<n)->BU l e<n
 | [],_,_=>by simp only[BU];omega
 | x :: l,e,h=>by
  simp only[BU];split
  .exact h x sc
  exact Kj hn e (λy a=>h y (by simp[a]))
theorem A1j.set {a b:List AD} {m:List Int} (h:A1j a b m) (k:Nat) {v:Int} (d:v<(b.length:Int)):A1j a b (m.set k v):=by
 refine⟨by simp[h.len],λx c=>?_⟩;rcases ABd c with c|c
 .exact h.rng x c
 rw[c];exact d
theorem A1j.get {a b:List AD} {m:List Int} (h:A1j a b m) (c:0<b.length) (k:Nat):m.getD k 0<(b.length:Int):=by
 rw[AS];cases hh:m[k]? with
 | none=>show (0:Int)<_;omega
 | some x=>exact h.rng x (AAM hh)
def Ck (h:AG) (f:List AD):Prop:=∀x∈f,0<=x.1/\x.1<(h.1.length:Int)
theorem Jp (hf:AX f) (k:Nat):∀x∈(f.getD k (0,[])).2,0<=x.2/\x.2<(f.length:Int):=by
 intro x a;by_cases h:k<f.length
 .exact(hf.2 _ (AF f (0,[]) h)).2 x a
 rw[AS,oF O1]at a;cases a
end
def Yd (s:ByteArray):Nat->List FB->Int
 | _,[]=>-1
 | k,x :: l=>if AK x.1 s=true then (k:Int) else Yd s (k+1) l
def Ar (h:AG) (s:ByteArray):Int:=Yd s 0 h.1
def jF (s:ByteArray):Nat->List P8->Int
 | _,[]=>-1
 | k,x :: l=>if AK x.1 s=true then (k:Int) else jF s (k+1) l
def BO (h:AG) (s:ByteArray):Int:=jF s 0 h.2
theorem aG (s:ByteArray):∀(l:List FB) (k:Nat),Yd s k l=-1\/((k:Int)<=Yd s k l/\Yd s k l<((k+l.length:Nat):Int))
 | [],_=>.inl rfl
 | x :: l,k=>by
  unfold Yd;split
  .exact .inr ⟨ABN _,by simp only[NO];omega⟩
  have:=aG s l (k+1);simp only[NO];omega
theorem qK (s:ByteArray):∀(l:List P8) (k:Nat),jF s k l=-1\/((k:Int)<=jF s k l/\jF s k l<((k+l.length:Nat):Int))
 | [],_=>.inl rfl
 | x :: l,k=>by
  unfold jF;split
  .exact .inr ⟨ABN _,by simp only[NO];omega⟩
  have:=qK s l (k+1);simp only[NO];omega
theorem DQ (h:AG) (s:ByteArray):-1<=Ar h s/\Ar h s<(h.1.length:Int):=by
 have:=aG s h.1 0;unfold Ar;omega
theorem GZ (h:AG) (s:ByteArray):-1<=BO h s/\BO h s<(h.2.length:Int):=by
 have:=qK s h.2 0;unfold BO;omega
structure LW where
 list:Int
 cons:Int
 null:Int
 dlist:Int
 first:Int
 rest:Int
 head:Int
 last:Int
def sb (l:List UInt8):ByteArray:=⟨l.toArray⟩
def Bp (h:AG):LW:=⟨Ar h (sb [108,105,115,116]),Ar h (sb [99,111,110,115]),Ar h (sb [110,117,108,108]),Ar h (sb [100,108,105,115,116]),BO h (sb [70,73,82,83,84]),BO h (sb [82,69,83,84]),BO h (sb [76,73,83,84]),BO h (sb [76,65,83,84])⟩
def LQ (h:AG):Bool:=decide (0<=(Bp h).list/\0<=(Bp h).cons/\0<=(Bp h).null/\0<=(Bp h).dlist/\0<=(Bp h).first/\0<=(Bp h).rest/\0<=(Bp h).head/\0<=(Bp h).last)&&Ah h (Bp h).list (Bp h).cons&&Ah h (Bp h).list (Bp h).null
def Ns (w:LW) (row:List (Int×Int)):Bool:=decide (BU row w.first<0)&&decide (BU row w.rest<0)
def QP (w:LW) (row:List (Int×Int)):Bool:=decide (0<=BU row w.first)&&decide (0<=BU row w.rest)
def TD (h:AG) (w:LW) (x:AD):Bool:=Ah h w.null x.1&&Ns w x.2
def II (h:AG) (w:LW) (x:AD):Bool:=Ah h w.cons x.1&&QP w x.2
def Jq (h:AG) (w:LW) (x:AD):Bool:=Ah h x.1 w.cons&&Ns w x.2
def D7 (h:AG) (w:LW) (x:AD):Int:=if TD h w x=true then 1 else if II h w x=true then 2 else if Jq h w x=true then 3 else 0
theorem Ye {w:LW} {x:AD} (e:D7 h w x=2):0<=BU x.2 w.first/\0<=BU x.2 w.rest:=by
 unfold D7 at e;split at e
 .cases e
 split at e
 .rename_i a;unfold II QP at a;simp only[AT,IN]at a;exact a.2
 split at e<;>cases e
theorem Yf (e:LQ h=true):(0<=(Bp h).first/\0<=(Bp h).rest)/\0<=(Bp h).cons/\0<=(Bp h).null/\0<=(Bp h).list/\0<=(Bp h).dlist/\0<=(Bp h).head/\0<=(Bp h).last:=by
 unfold LQ at e;rw[AT,AT,IN]at e;obtain⟨⟨⟨h1,a,b,c,d,f,g,i⟩,-⟩,-⟩:=e;exact⟨⟨d,f⟩,a,b,h1,c,g,i⟩
section
theorem gG (s:ByteArray) (l:List FB) (h:k<l.length):Yd s k (l.drop k)=if AK (l.getD k Rb).1 s=true then (k:Int) else Yd s (k+1) (l.drop (k+1)):=by
 rw[OR h];have e:l.getD k Rb=l[k]:=by simp[AS,h]
 rw[e];rfl
theorem gH (s:ByteArray) (l:List P8) (h:k<l.length):jF s k (l.drop k)=if AK (l.getD k (ByteArray.empty,0)).1 s=true then (k:Int) else jF s (k+1) (l.drop (k+1)):=by
 rw[OR h];have e:l.getD k (ByteArray.empty,0)=l[k]:=by simp[AS,h]
 rw[e];rfl
def QQ:AZ:={ ins:=[FL,T9],pre:=λ_=>True,out:=λ(h,s,_)=>[.p T3 (Ar h s)],lend:=true }
attribute [local go_sem] QQ
theorem ND:Ac Tryz.prog 23 QQ:=by
 refine fK [0,1,2,4,5,10,20] Tryz.func23 Tryz.ntmps23 AH ?_;rintro w0 O0 ⟨⟨ht,hf⟩,s,u⟩ d ⟨⟨⟨f,-⟩,-⟩,-⟩ -;simp only[AP]at f;simp only[QQ,AL];repeat'(first|exact a6|apply eS rfl|apply AB|refine rX d ?_ ?_|refine rC ?_ ?_<;>intro a<;>try(cases a;done))
 refine AI (ι:={k:Nat//k<=ht.length/\Yd s k (ht.drop k)=Ar (ht,hf) s}) (λk=>⟨[(1,.p T9 s),(2,.bp 2 [] 0),(5,.p (.int .i64) (k.1:Int))],[(2,.box 26 true [.p Qu ht,.p SZ hf])]⟩) (λk=>ht.length-k.1) ⟨0,Do _,rfl⟩ (eW [(2,.nm 2)]) (λk=>?_)
 obtain⟨k,hk,b⟩:=k;have e:=λh:k<ht.length=>gG s ht h;simp only;repeat'(first|exact a6|apply eS rfl|apply AB|refine rX d ?_ ?_|refine rC ?_ ?_<;>intro a<;>try(cases a;done))
 .exact a
 .have c:k<ht.length:=by exact eV
  rw[e c,At a]at b;exact fI d [.tmp 4] (by rw[<-b];exact eR)
 .omega
 .have c:k<ht.length:=by exact eV
  rw[e c,An (by rw[a];simp)]at b;exact⟨⟨k+1,O1,b⟩,a2,eW [(2,.nm 2)]⟩
 have c:ht.drop k=[]:=Is eV;rw[c]at b;exact fI d [.tmp 4] (by rw[<-b];first|exact eR|refine KP ?_;rfl)
def Jr:AZ:={ ins:=[FL,T9],pre:=λ_=>True,out:=λ(h,s,_)=>[.p T3 (BO h s)],lend:=true }
attribute [local go_sem] Jr
theorem mT:Ac Tryz.prog 59 Jr:=by
 refine fK [0,1,2,4,5,10,20] Tryz.func59 Tryz.ntmps59 AH ?_;rintro w0 O0 ⟨⟨ht,hf⟩,s,u⟩ d ⟨⟨-,f,-⟩,-⟩ -;simp only[AP]at f;simp only[Jr,AL];repeat'(first|exact a6|apply eS rfl|apply AB|refine rX d ?_ ?_|refine rC ?_ ?_<;>intro a<;>try(cases a;done))
 refine AI (ι:={k:Nat//k<=hf.length/\jF s k (hf.drop k)=BO (ht,hf) s}) (λk=>⟨[(1,.p T9 s),(2,.bp 2 [] 0),(5,.p (.int .i64) (k.1:Int))],[(2,.box 26 true [.p Qu ht,.p SZ hf])]⟩) (λk=>hf.length-k.1) ⟨0,Do _,rfl⟩ (eW [(2,.nm 2)]) (λk=>?_)
 obtain⟨k,hk,b⟩:=k;have e:=λh:k<hf.length=>gH s hf h;simp only;repeat'(first|exact a6|apply eS rfl|apply AB|refine rX d ?_ ?_|refine rC ?_ ?_<;>intro a<;>try(cases a;done))
 .exact a
 .have c:k<hf.length:=by exact eV
  rw[e c,At a]at b;exact fI d [.tmp 4] (by rw[<-b];exact eR)
 .omega
 .have c:k<hf.length:=by exact eV
  rw[e c,An (by rw[a];simp)]at b;exact⟨⟨k+1,O1,b⟩,a2,eW [(2,.nm 2)]⟩
 have c:hf.drop k=[]:=Is eV;rw[c]at b;exact fI d [.tmp 4] (by rw[<-b];first|exact eR|refine KP ?_;rfl)
def A1k:AZ:=Jr
attribute [local go_sem] A1k
theorem WE:Ac Tryz.prog 81 Jr:=by
 refine fK [0,1,2,4,5,6,8,9,10,11,20] Tryz.func81 Tryz.ntmps81 AH ?_;rintro w0 O0 ⟨⟨ht,hf⟩,s,u⟩ b ⟨⟨-,f,-⟩,-⟩ -;simp only[AP]at f;simp only[Jr,AL];repeat'(first|exact a6|apply eS rfl|apply AB|refine rX b ?_ ?_|refine rC ?_ ?_<;>intro a<;>try(cases a;done))
 refine AI (ι:={k:Nat//k<=hf.length/\jF s k (hf.drop k)=BO (ht,hf) s}) (λk=>⟨[(1,.p T9 s),(8,.p SZ hf),(9,.p (.int .i64) (hf.length:Int)),(10,.p (.int .i64) (k.1:Int))],[]⟩) (λk=>hf.length-k.1) ⟨0,Do _,rfl⟩ (eW []) (λk=>?_)
 obtain⟨k,hk,c⟩:=k;have e:=λh:k<hf.length=>gH s hf h;simp only;repeat'(first|exact a6|apply eS rfl|apply AB|refine rX b ?_ ?_|refine rC ?_ ?_<;>intro a<;>try(cases a;done))
 .exact a
 .refine cP 5 b ?_ ?_
  .trivial
  refine AAq (j:=.i64) b a5 ?_;refine rL b ?_ ?_
  .trivial
  repeat'(first|exact a6|apply eS rfl|apply AB|refine rX b ?_ ?_|refine rC ?_ ?_<;>intro a<;>try(cases a;done))
  .have d:k<hf.length:=by exact eV
   rw[e d,At a]at c;exact fI b [.tmp 4] (by rw[<-c];exact eR)
  .omega
  have d:k<hf.length:=by exact eV
  rw[e d,An (by rw[a];simp)]at c;exact⟨⟨k+1,O1,c⟩,a2,eW []⟩
 have d:hf.drop k=[]:=Is eV;rw[d]at c;exact fI b [.tmp 4] (by rw[<-c];first|exact eR|refine KP ?_;rfl)
theorem A4B (s:ByteArray) (t:FB):BE Tryz.prog 77 [.p kV t,.bp 1 [] 0] [(1,.box 9 false [.p T9 s])] [1] (λres c=>res=.p .bool (AK t.1 s)/\c=[(1,.box 9 false [.p T9 s])]):=by
 refine Jx [0,1,2,3] [] [] Tryz.func77 Tryz.ntmps77 AH ?_;intro w0 K O0 ρ0 a d e;simp only[Ap];repeat'(first|exact a6|apply eS rfl|apply AB|refine rX a ?_ ?_|refine rC ?_ ?_<;>intro b<;>try(cases b;done))
 refine Ev.ent (σ':=⟨[(3,.p .bool (AK t.1 s))],[(1,.box 9 false [.p T9 s])]⟩) ?_ (AC [(1,.nm 1)] rfl rfl ?_ ?_)
 .exact fM a [.tmp 3] (.p .bool (AK t.1 s)) eT ⟨rfl,rfl⟩
 .exact eN
 exact eN
theorem vI (l:List FB) (s:ByteArray):BE Tryz.prog 76 [.p Qu l,.clo 77 [1]] [(1,.box 9 false [.p T9 s])] [1] (λres g=>res=.p T3 (Yd s 0 l)/\g=[(1,.box 9 false [.p T9 s])]):=by
 refine Jx [0,1,4,5,7,8,9,16] [] [] Tryz.func76 Tryz.ntmps76 AH ?_;intro w0 K O0 ρ0 b e j;have i:l.length<=140737488355328:=e.1.1;simp only[Ap];repeat'(first|exact a6|apply eS rfl|apply AB|refine rX b ?_ ?_|refine rC ?_ ?_<;>intro a<;>try(cases a;done))
 refine AI (ι:={k:Nat//k<=l.length/\Yd s k (l.drop k)=Yd s 0 l}) (λk=>⟨[(0,.p Qu l),(1,.clo 77 [1]),(7,.p (.int .i64) (l.length:Int)),(8,.p (.int .i64) (k.1:Int))],[(1,.box 9 false [.p T9 s])]⟩) (λk=>l.length-k.1) ⟨0,Do _,rfl⟩ (eW [(1,.nm 1)]) (λk=>?_)
 obtain⟨k,hk,hf⟩:=k;have f:=λh:k<l.length=>gG s l h;simp only;repeat'(first|exact a6|apply eS rfl|apply AB|refine rX b ?_ ?_|refine rC ?_ ?_<;>intro a<;>try(cases a;done))
 .have c:k<l.length:=f4.1 a;have d:=f c;refine cP 5 b ?_ ?_
  .exact a
  refine rM b (A4B s (l.getD k Rb)) [(1,.nm 1)] [] ?_ ?_ ?_
  .exact eN
  .exact eN
  rintro _ _ ⟨rfl,rfl⟩;refine⟨[(1,.nm 1)],.p .bool (AK (l.getD k Rb).1 s),[(1,.box 9 false [.p T9 s])],rfl,rfl,?_,?_,rfl,rfl,FG ?_⟩
  .exact eN
  .exact eN
  repeat'(first|exact a6|apply eS rfl|apply AB|refine rX b ?_ ?_|refine rC ?_ ?_<;>intro a<;>try(cases a;done))
  .rw[At a,hf]at d;refine Ev.ent (σ':=⟨[(4,.p (.int .i64) (k:Int))],[(1,.box 9 false [.p T9 s])]⟩) ?_ (AC [(1,.nm 1)] rfl rfl ?_ ?_)
   .exact fM b [.tmp 4] (.p T3 (k:Int)) eT ⟨by rw[d],rfl⟩
   .exact eN
   exact eN
  .omega
  rw[An (by rw[a];simp)]at d;exact⟨⟨k+1,c,d.symm.trans hf⟩,a2,eW [(1,.nm 1)]⟩
 have c:l.drop k=[]:=Is (AA7.1 a);rw[c]at hf;have hf:(-1:Int)=Yd s 0 l:=hf;refine Ev.ent (σ':=⟨[(4,.p (.int .i64) (-1))],[(1,.box 9 false [.p T9 s])]⟩) ?_ (AC [(1,.nm 1)] rfl rfl ?_ ?_)
 .exact fM b [.tmp 4] (.p T3 (-1)) eT ⟨by rw[hf],rfl⟩
 .exact eN
 exact eN
def QR:AZ:={ ins:=[FL,T9],pre:=λ_=>True,out:=λ(h,s,_)=>[.p T3 (Ar h s)],lend:=true }
attribute [local go_sem] QR
theorem QT:Ac Tryz.prog 33 QR:=by
 refine fK [0,1,2,3,4] Tryz.func33 Tryz.ntmps33 AH ?_;rintro w0 O0 ⟨⟨ht,hf⟩,s,u⟩ a - -;simp only[QR,AL];refine Ev.ent (σ':=⟨[(0,.p FL (ht,hf)),(1,.p T9 s)],[]⟩) ?_ (AC [] rfl rfl ?_ ?_)
 .repeat'(first|exact a6|apply eS rfl|apply AB|refine rX a ?_ ?_|refine rC ?_ ?_<;>intro b<;>try(cases b;done))
  refine cP 3 a ?_ ?_
  .trivial
  refine rM a (vI ht s) [(1,.nm 3)] [] ?_ ?_ ?_
  .exact eN
  .exact eN
  rintro _ _ ⟨rfl,rfl⟩;refine⟨[(3,.nm 1)],.p T3 (Yd s 0 ht),[(3,.box 9 false [.p T9 s])],rfl,rfl,?_,?_,rfl,rfl,?_⟩
  .exact eN
  .exact eN
  refine rL a ?_ ?_
  .trivial
  repeat'(first|exact a6|apply eS rfl|apply AB|refine rX a ?_ ?_|refine rC ?_ ?_<;>intro b<;>try(cases b;done))
  exact fI a [.tmp 4] (by unfold Ar;exact eR)
 .exact eN
 exact eN
theorem Ot (h:AG):Ar h ⟨#[108,105,115,116]⟩=(Bp h).list/\Ar h ⟨#[99,111,110,115]⟩=(Bp h).cons/\Ar h ⟨#[110,117,108,108]⟩=(Bp h).null/\Ar h ⟨#[100,108,105,115,116]⟩=(Bp h).dlist/\BO h ⟨#[70,73,82,83,84]⟩=(Bp h).first/\BO h ⟨#[82,69,83,84]⟩=(Bp h).rest/\BO h ⟨#[76,73,83,84]⟩=(Bp h).head/\BO h ⟨#[76,65,83,84]⟩=(Bp h).last:=⟨rfl,rfl,rfl,rfl,rfl,rfl,rfl,rfl⟩
theorem Rn (h:AG):((Bp h).list<(h.1.length:Int)/\(Bp h).cons<(h.1.length:Int)/\(Bp h).null<(h.1.length:Int)/\(Bp h).dlist<(h.1.length:Int))/\(-1<=(Bp h).list/\-1<=(Bp h).cons/\-1<=(Bp h).null/\-1<=(Bp h).dlist) :=
 ⟨⟨(DQ h _).2,(DQ h _).2,(DQ h _).2,(DQ h _).2⟩,(DQ h _).1,(DQ h _).1,(DQ h _).1,(DQ h _).1⟩
theorem DF {α:Type} {f:List α} {n:Int} (h:0<=n/\n<(f.length:Int)):n.toNat<f.length:=by omega
end
section
attribute [local go_sem] QR A1k Jr Nm KW JH
def wdF (h:AG) (w:LW):d5.den:=(h,w.list,w.cons,w.null,w.dlist,w.first,w.rest,w.head,w.last)
def lwO (w:d5.den):LW:=⟨w.2.1,w.2.2.1,w.2.2.2.1,w.2.2.2.2.1,w.2.2.2.2.2.1,w.2.2.2.2.2.2.1,w.2.2.2.2.2.2.2.1,w.2.2.2.2.2.2.2.2⟩
def WF:AZ:={ ins:=[E7,T3,T3],pre:=λ(f,n,_)=>AX f/\(0:Int)<=n/\n<(List.length f:Int),out:=λ(f,n,e,_)=>[.p T3 (BU (List.getD (f:List AD) n.toNat (0,[])).2 e)],lend:=true }
attribute [local go_sem] WF
theorem aH:Ac Tryz.prog 169 WF:=by
 refine fK [0,1,2,3,6,8,14,15,16,17,23] Tryz.func169 Tryz.ntmps169 AH ?_;rintro w0 O0 ⟨f,n,e,u⟩ d-⟨g,hn⟩;have g:AX f:=g;have hn:0<=n/\n<(f.length:Int):=hn;simp only[WF,AL];repeat'(first|exact a6|apply eS rfl|apply AB|refine rX d ?_ ?_|refine rC ?_ ?_<;>intro a<;>try(cases a;done))
 .exact hn
 have j:=(g.2 _ (AF f (0,[]) (DF hn))).1;generalize (f.getD n.toNat (0,[])).2=L at *;refine AI (ι:={k:Nat//k<=L.length/\BU L e=BU (L.drop k) e}) (λk=>⟨[(2,.p T3 e),(14,.p NQ L),(15,.p (.int .i64) (L.length:Int)),(16,.p (.int .i64) (k.1:Int))],[]⟩) (λk=>L.length-k.1) ⟨0,Do _,rfl⟩ (eW []) (λk=>?_)
 obtain⟨k,hk,b⟩:=k;have i:=λh:k<L.length=>NC e L h;simp only;repeat'(first|exact a6|apply eS rfl|apply AB|refine rX d ?_ ?_|refine rC ?_ ?_<;>intro a<;>try(cases a;done))
 .exact a
 .have c:k<L.length:=by exact eV
  rw[i c,At a]at b;exact fI d [.tmp 6] (by rw[b];exact eR)
 .omega
 .have c:k<L.length:=by exact eV
  rw[i c,An a]at b;exact⟨⟨k+1,O1,b⟩,a2,eW []⟩
 have c:L.drop k=[]:=Is eV;rw[c]at b;exact fI d [.tmp 6] (by rw[b];first|exact eR|refine KP ?_;rfl)
def WOk (h:AG) (w:LW):Prop:=(0<=w.cons/\w.cons<(h.1.length:Int))/\(0<=w.null/\w.null<(h.1.length:Int))
def Ou:AZ:={ ins:=[d5,E7,T3],pre:=λ(w,f,n,_)=>WOk w.1 (lwO w)/\AX f/\Ck w.1 f/\(0:Int)<=n/\n<(List.length f:Int),out:=λ(w,f,n,_)=>[.p T3 (D7 w.1 (lwO w) (List.getD (f:List AD) n.toNat (0,[])))],lend:=true }
attribute [local go_sem] Ou
theorem gI:Ac Tryz.prog 171 Ou:=by
 refine fK [0,1,2,3,4,6,7,8,9,28,43,56] Tryz.func171 Tryz.ntmps171 (AE aH (AE QA AH)) ?_;rintro w0 O0 ⟨⟨h,l,c,d,dl,a,e,b,la⟩,f,n,u⟩ i-⟨j,k,ht,hn⟩;have j:WOk h ⟨l,c,d,dl,a,e,b,la⟩:=j;have k:AX f:=k;have ht:Ck h f:=ht;have hn:0<=n/\n<(f.length:Int):=hn;have m:=ht _ (AF f (0,[]) (DF hn));simp only[Ou,AL];repeat'(first|exact a6|apply eS rfl|apply AB|refine rX i ?_ ?_|refine rC ?_ ?_<;>intro o<;>try(cases o;done))
 .exact hn
 .exact⟨k,hn⟩
 .exact⟨j.2,m⟩
 .have g:D7 h ⟨l,c,d,dl,a,e,b,la⟩ (f.getD n.toNat (0,[]))=1:=by
   unfold D7 TD II Jq Ns QP;simp only[AT,IN];grind
  exact fI i [.tmp 6] (by rw[show lwO (h,l,c,d,dl,a,e,b,la)=⟨l,c,d,dl,a,e,b,la⟩ from rfl,g];exact eR)
 .exact⟨j.1,m⟩
 .have g:D7 h ⟨l,c,d,dl,a,e,b,la⟩ (f.getD n.toNat (0,[]))=2:=by
   unfold D7 TD II Jq Ns QP;simp only[AT,IN];grind
  exact fI i [.tmp 6] (by rw[show lwO (h,l,c,d,dl,a,e,b,la)=⟨l,c,d,dl,a,e,b,la⟩ from rfl,g];exact eR)
 .exact⟨m,j.1⟩
 .have g:D7 h ⟨l,c,d,dl,a,e,b,la⟩ (f.getD n.toNat (0,[]))=3:=by
   unfold D7 TD II Jq Ns QP;simp only[AT,IN];grind
  exact fI i [.tmp 6] (by rw[show lwO (h,l,c,d,dl,a,e,b,la)=⟨l,c,d,dl,a,e,b,la⟩ from rfl,g];exact eR)
 have g:D7 h ⟨l,c,d,dl,a,e,b,la⟩ (f.getD n.toNat (0,[]))=0:=by
  unfold D7 TD II Jq Ns QP;simp only[AT,IN];grind
 exact fI i [.tmp 6] (by rw[show lwO (h,l,c,d,dl,a,e,b,la)=⟨l,c,d,dl,a,e,b,la⟩ from rfl,g];exact eR)
theorem A4C {a:Int}:(if b<a then b else a)<0↔a<0\/b<0:=by split<;>omega
theorem A4D {a:Int}:(0<=if b<a then b else a)↔0<=a/\0<=b:=by split<;>omega
def A6d:d5.den:=(([],[]),0,0,0,0,0,0,0,0)
def Ov:AZ:={ ins:=[FL],pre:=λ_=>True,out:=λ(h,_)=>[.p d5 (if LQ h=true then wdF h (Bp h) else A6d),.p C0 (if LQ h=true then 0 else 5)] }
attribute [local go_sem] Ov
theorem A1l:Ac Tryz.prog 168 Ov:=by
 refine fK [0,1,2,3,4,58] Tryz.func168 Tryz.ntmps168 (AE QT (AE WE (AE QA AH))) ?_;rintro w0 O0 ⟨⟨ht,hf⟩,u⟩ a - -;obtain⟨e,f,g,i,j,k,l,m⟩:=Ot (ht,hf);obtain⟨⟨r,s,t,v⟩,n,o,p,q⟩:=Rn (ht,hf);simp only[Ov,AL];repeat'(first|exact a6|apply eS rfl|apply AB|refine rX a ?_ ?_|refine rC ?_ ?_<;>intro d<;>try(cases d;done))
 all_goals simp only[e,f,g,i,j,k,l,m,A4C,A4D]at *
 .refine⟨λh=>?_,λh=>?_⟩<;>simp only[bY,AAb,aS,not_or]at h<;>grind
 .have b:LQ (ht,hf)=false:=by
   rw[ABh];intro c;unfold LQ at c;simp only[AT,IN]at c;grind
  exact fI a [.cell 2 248,.tmp 3] (by simp only[b,ABc,ABi,A6d];exact eR)
 have b:LQ (ht,hf)=true:=by
  unfold LQ;simp only[AT,IN];grind
 exact fI a [.cell 2 248,.tmp 3] (by simp only[b,AB1,wdF];exact eR)
end
section
attribute [local go_sem] F0 H9 NB
def NE (d:List AJ):AG:=if d.length<=12/\(Ad d).2=0 then (Ad d).1 else (Ad Bt).1
end
section
attribute [local go_sem] Nn
theorem mU (h:AG) (hk:FC h) (hi:JF h) (hf:bW h) (X:h.2.length<=100000) (f:List AD) (P:AX f) (ha:Oq h f) (s:EF) (hs:NU h f.length s) {n:Int} (n0:0<=n) (n1:n<(f.length:Int)) (T:Ya h s.1+s.2.length<=1000000000) :
  BE Tryz.prog 93 [.bp 1 [] 0,.p E7 f,.p T3 n] (Dw h s) [1]
  (λres z=>(LF h f n s=none/\res=.p .bool false/\∃A,z=Dw h A)\/∃A,LF h f n s=some A/\res=.p .bool true/\z=Dw h A):=by
 have H:=MX ha n0 n1;have Z:(f.getD n.toNat (0,[])).2.length<=100000:=(P.2 _ (AF f (0,[]) O1)).1;have O:LF h f n s=(MV h n (f.getD n.toNat (0,[])).2 s).bind (NT h n (f.getD n.toNat (0,[])).2):=rfl;rw[O];refine Jx [0,1,2,4,6,8,10,11,12,18,19,20,21,37,44,45,46,47,76] [] [] Tryz.func93 Tryz.ntmps93 (AE A4m AH) ?_;intro w0 K O0 ρ0 a aa ab;simp only[Dw,Ap];repeat'(first|exact a6|apply eS rfl|refine rX a ?_ ?_)
 .exact⟨n0,n1⟩
 have Y:f.getD n.toNat (0,[])=f.getD n.toNat (0,[]):=rfl;generalize M:(f.getD n.toNat (0,[])).2=L at *;refine AI (ι:={x:Nat×EF//x.1<=L.length/\NU h f.length x.2/\Ya h x.2.1+x.2.2.length<=1000000000/\MV h n L s=MV h n (L.drop x.1) x.2}) (λx=>⟨[(0,.bp 1 [] 0),(2,.p T3 n),(4,.bp 4 [] 0),(18,.p NQ L),(19,.p (.int .i64) (L.length:Int)),(20,.p (.int .i64) (x.1.1:Int))],[(4,.box 34 true [.p Ij f]),(1,.box 163 true [.p FL h,.sr 2 T3 0 x.1.2.1.length,.p Bx x.1.2.2]),(2,.arr 3 T3 x.1.2.1)]⟩) (λx=>L.length-x.1.1) ⟨(0,s),Do _,hs,T,rfl⟩ (eW [(4,.nm 4),(1,.nm 1),(2,.nm 2)]) (λx=>?_)
 obtain⟨⟨k,s1⟩,R,r,C,i⟩:=x;simp only at R r C i ⊢;repeat'(first|exact a6|apply eS rfl|refine rX a ?_ ?_|refine rC ?_ ?_<;>intro b<;>try(cases b;done))
 .exact b
 .have l:k<L.length:=f4.1 b;have d:MV h n (L.drop k) s1=(DE h s1 n (LE h (L.getD k (0,0)).1)).bind (MV h n (L.drop (k+1))):=by rw[qH (0,0) l];rfl
  obtain⟨⟨F,G⟩,u,b1⟩:=H _ (AF L (0,0) l);obtain⟨o,q⟩:=MW hf F G;obtain⟨w,y⟩:=r.get n0 n1;refine cD 12 a ?_ ?_
  .exact⟨F,G⟩
  refine rM a (fT h hk s1 n0 (by rw[r.len];exact n1) w y o q O1) [(1,.nm 1),(2,.nm 2)] [2] ?_ ?_ ?_
  .refine eM ?_;rfl
  .simp only[Dw];exact eN
  rintro res z (⟨c,rfl,rfl⟩|⟨s2,c,rfl,rfl⟩)
  .refine⟨[(1,.nm 1),(2,.nm 2)],.p .bool false,Dw h s1,rfl,rfl,?_,?_,rfl,rfl,?_⟩
   .simp only[Dw];exact eN
   .exact eN
   simp only[Dw];refine rL a ?_ ?_
   .trivial
   repeat'(first|exact a6|apply eS rfl|refine rX a ?_ ?_|refine rC ?_ ?_<;>intro b<;>try(cases b;done))
   refine Ev.ent (σ':=⟨[(6,.p .bool false)],Dw h s1⟩) ?_ (AC [(1,.nm 1),(2,.nm 2)] rfl rfl ?_ ?_)
   .exact fM a [.tmp 6] (.p .bool false) eT (.inl ⟨by rw[i,d,c];rfl,rfl,s1,rfl⟩)
   .unfold Dw;exact eN
   exact eN
  refine⟨[(1,.nm 1),(2,.nm 2)],.p .bool true,Dw h s2,rfl,rfl,?_,?_,rfl,rfl,?_⟩
  .simp only[Dw];exact eN
  .exact eN
  simp only[Dw];refine rL a ?_ ?_
  .trivial
  obtain⟨D,E,U⟩:=Er hk hi r n0 n1 o q c;repeat'(first|apply eS rfl|apply AB|refine rX a ?_ ?_|refine rC ?_ ?_<;>intro b<;>try(cases b;done))
  .omega
  exact⟨⟨(k+1,s2),l,D,gO E C,by rw[i,d,c];rfl⟩,a2,eW [(4,.nm 4),(1,.nm 1),(2,.nm 2)]⟩
 .exact⟨n0,n1⟩
 have B:L.drop k=[]:=Is (AA7.1 b);rw[B]at i;have i:MV h n L s=some s1:=i;rw[i];have N:(List.getD f n.toNat (0,[])).2=L:=M;rw[N];refine AI (ι:={x:Nat×EF//x.1<=L.length/\NU h f.length x.2/\Ya h x.2.1+x.2.2.length<=1000000000/\(some s1).bind (NT h n L)=NT h n (L.drop x.1) x.2}) (λx=>⟨[(0,.bp 1 [] 0),(2,.p T3 n),(44,.p NQ L),(45,.p (.int .i64) (L.length:Int)),(46,.p (.int .i64) (x.1.1:Int))],[(1,.box 163 true [.p FL h,.sr 2 T3 0 x.1.2.1.length,.p Bx x.1.2.2]),(2,.arr 3 T3 x.1.2.1)]⟩) (λx=>L.length-x.1.1) ⟨(0,s1),Do _,r,C,rfl⟩ (eW [(1,.nm 1),(2,.nm 2)]) (λx=>?_)
 obtain⟨⟨j,s2⟩,Q,m,I,g⟩:=x;simp only at Q m I g ⊢;obtain⟨w,y⟩:=m.get n0 n1;repeat'(first|exact a6|apply eS rfl|refine rX a ?_ ?_|refine rC ?_ ?_<;>intro b<;>try(cases b;done))
 .exact b
 .exact⟨⟨n0,by rw[m.len];exact n1⟩,w,y⟩
 .have l:j<L.length:=f4.1 b;have d:NT h n (L.drop j) s2=if (CN h (s2.1.getD n.toNat 0) (L.getD j (0,0)).1).2=true then (DE h s2 (L.getD j (0,0)).2 (CN h (s2.1.getD n.toNat 0) (L.getD j (0,0)).1).1).bind (NT h n (L.drop (j+1))) else none:=by rw[qH (0,0) l];rfl
  obtain⟨-,u,b1⟩:=H _ (AF L (0,0) l);have S:=λe=>IG (f:=(L.getD j (0,0)).1) hf w y e;generalize CN h (s2.1.getD n.toNat 0) (L.getD j (0,0)).1=v at *;obtain⟨t,ok⟩:=v;refine evP a 3 ?_ ?_
  .trivial
  cases ok with
  | false =>
   rw[An sc]at d;refine rL a ?_ ?_
   .trivial
   repeat'(first|exact a6|apply eS rfl|refine rX a ?_ ?_|refine rC ?_ ?_<;>intro b<;>try(cases b;done))
   refine Ev.ent (σ':=⟨[(6,.p .bool false)],Dw h s2⟩) ?_ (AC [(1,.nm 1),(2,.nm 2)] rfl rfl ?_ ?_)
   .exact fM a [.tmp 6] (.p .bool false) eT (.inl ⟨by rw[g,d],rfl,s2,rfl⟩)
   .unfold Dw;exact eN
   exact eN
  | true =>
   rw[At rfl]at d;obtain⟨o,q⟩:=S rfl;simp only at o q d;obtain⟨V,W⟩:=m.get u b1;refine rN 4 a ?_ ?_
   .trivial
   refine clG a (fT h hk s2 u (by rw[m.len];exact b1) V W o q O1) [(1,.nm 1),(2,.nm 2)] [2] ?_ ?_ ?_
   .exact eN
   .simp only[Dw];exact eN
   rintro res z (⟨c,rfl,rfl⟩|⟨J,c,rfl,rfl⟩)
   .refine⟨[(1,.nm 1),(2,.nm 2)],.p .bool false,Dw h s2,rfl,rfl,?_,?_,rfl,rfl,?_⟩
    .simp only[Dw];exact eN
    .exact eN
    simp only[Dw];refine rL a ?_ ?_
    .trivial
    repeat'(first|exact a6|apply eS rfl|refine rX a ?_ ?_|refine rC ?_ ?_<;>intro b<;>try(cases b;done))
    refine Ev.ent (σ':=⟨[(6,.p .bool false)],Dw h s2⟩) ?_ (AC [(1,.nm 1),(2,.nm 2)] rfl rfl ?_ ?_)
    .exact fM a [.tmp 6] (.p .bool false) eT (.inl ⟨by rw[g,d,c];rfl,rfl,s2,rfl⟩)
    .unfold Dw;exact eN
    exact eN
   refine⟨[(1,.nm 1),(2,.nm 2)],.p .bool true,Dw h J,rfl,rfl,?_,?_,rfl,rfl,?_⟩
   .simp only[Dw];exact eN
   .exact eN
   simp only[Dw];refine rL a ?_ ?_
   .trivial
   obtain⟨D,E,U⟩:=Er hk hi m u b1 o q c;repeat'(first|apply eS rfl|apply AB|refine rX a ?_ ?_|refine rC ?_ ?_<;>intro b<;>try(cases b;done))
   .omega
   exact⟨⟨(j+1,J),l,D,gO E I,by rw[g,d,c];rfl⟩,a2,eW [(1,.nm 1),(2,.nm 2)]⟩
 have B:L.drop j=[]:=Is (AA7.1 b);rw[B]at g;have g:(some s1).bind (NT h n L)=some s2:=g;refine Ev.ent (σ':=⟨[(6,.p .bool true)],Dw h s2⟩) ?_ (AC [(1,.nm 1),(2,.nm 2)] rfl rfl ?_ ?_)
 .exact fM a [.tmp 6] (.p .bool true) eT (.inr ⟨s2,g,rfl,rfl⟩)
 .unfold Dw;exact eN
 exact eN
end
section
def aI:AZ:={ ins:=[Ij],pre:=λ(l,_)=>List.length l<=100000,out:=λ(l,_)=>[.own 57 W3 l] }
attribute [local go_sem] aI
theorem vJ:Ac Tryz.prog 94 aI:=by
 refine fK [0,2,4] Tryz.func94 Tryz.ntmps94 AH ?_;rintro w0 O0 ⟨l,u⟩ a-d;have d:List.length l<=100000:=d;simp only[aI,AL];repeat'(first|exact a6|apply eS rfl|refine rX a ?_ ?_)
 refine cP 1 a ?_ ?_
 .trivial
 refine t6 a false rfl rfl ?_;intro b e;refine rL a ?_ ?_
 .trivial
 repeat'(first|exact a6|apply eS rfl|refine rX a ?_ ?_|refine rC ?_ ?_<;>intro c<;>try(cases c;done))
 .have f:l=[]:=e c;subst f;refine Ev.ent (σ':=⟨[(2,.sr 5 W3 0 0)],[(5,.arr 57 W3 [])]⟩) ?_ (AC [(5,.nil)] rfl rfl ?_ ?_)
  .exact OD a (.inl rfl) (rv:=.tmp 2) rfl (by simp only[Kz,I5,G9,go_sem,Nat.reduceEqDiff,reduceCtorEq,Nat.reduceAdd,Nat.reduceSub,Nat.reduceMul,Nat.reduceLeDiff,Nat.reduceLT,Int.reduceLE,Int.reduceToNat,Int.reduceNeg,↓reduceIte])
  .exact eN
  exact eN
 .simp only[AP];omega
 exact OD a (.inl rfl) (rv:=.tmp 2) rfl (by simp only[Kz,I5,G9,go_sem,Nat.reduceEqDiff,reduceCtorEq,Nat.reduceAdd,Nat.reduceSub,Nat.reduceMul,Nat.reduceLeDiff,Nat.reduceLT,Int.reduceLE,Int.reduceToNat,Int.reduceNeg,↓reduceIte])
structure A1m (h:AG) (f:List AD):Prop where
 ok:FC h
 inj:JF h
 ft:bW h
 fl:h.2.length<=100000
 good:AX f
 arcs:Oq h f
 ty:∀x∈f,0<=x.1/\x.1<(h.1.length:Int)
def WG:AZ:={ ins:=[FL,E7],pre:=λ(h,f,_)=>A1m h f,out:=λ(h,f,_)=>[.p E7 (EH h f).1,.p .bool (EH h f).2] }
theorem Dj (f:List AD) (ty:List Int):(Ew f ty).length=f.length:=by simp[Ew]
theorem Hg (f:List AD) (ty:List Int) {i:Nat} (h:i<f.length):(Ew f ty).getD i (0,[])=(ty.getD i 0,(f.getD i (0,[])).2):=by
 unfold Ew;simp[AS,h]
theorem vK {α:Type} (F f:List α) (d:α) (b:F.length=f.length) {j:Nat} (h:j<f.length):(F.take j++f.drop j).set j (F.getD j d)=F.take (j+1)++f.drop (j+1)/\(F.take j++f.drop j).getD j d=f.getD j d:=by
 have h1:(F.take j).length=j:=by rw[ON];omega
 have a:f.drop j=f.getD j d :: f.drop (j+1):=by
  rw[OR h,AS,As h];rfl
 constructor
 .rw[Ay F d O1,ACt _ _ O1,h1,ABt,a];simp
 rw[AS,AAa O1,h1,ABt,a];rfl
theorem A1n:Ac Tryz.prog 50 WG:=by
 refine fK [0,1,2,3,4,5,6,7,8,9,10,11,16,17,18,19,51,64,72,73,74] Tryz.func50 Tryz.ntmps50 (AE vJ AH) ?_;rintro w0 O0 ⟨⟨ht,hf⟩,f,u⟩ b-c;have c:A1m (ht,hf) f:=c;have D:=A1g (ht,hf) f;have w:=c.good.1;have S:Nr (ht,hf) f<=30000000:=by
  have h1:ht.length<=256:=c.ok.2;have C:f.length*ht.length<=100000*256:=Nat.mul_le_mul w h1;have R:f.length*(ht,hf).1.length<=100000*256:=C;unfold Nr;omega
 have J:=A1f c.ty;simp only[WG,AL];repeat'(first|exact a6|apply eS rfl|refine rX b ?_ ?_)
 refine AI (ι:={i:Nat//i<=f.length}) (λi=>⟨[(3,.bp 3 [] 0),(4,.bp 4 [] 0),(6,.bp 14 [] 0),(16,.p Ij f),(17,.p (.int .i64) (f.length:Int)),(18,.p (.int .i64) (i.1:Int))],[(3,.box 34 true [.p Ij f]),(4,.box 34 true [.raw (.slice none 0 0)]),(14,.box 163 true [.p FL (ht,hf),.sr 31 T3 0 i.1,.sr 41 T3 0 i.1]),(31,.arr 3 T3 ((Bj f).take i.1)),(41,.arr 3 T3 ((EP f).take i.1))]⟩) (λi=>f.length-i.1) ⟨0,Do _⟩ (eW [(3,.nm 3),(4,.nm 4),(14,.nm 14),(31,.nil),(41,.nil)]) (λi=>?_)
 obtain⟨i,hi⟩:=i;have tl:((Bj f).take i).length=i:=by rw[ON];simp[Bj];omega
 have X:((EP f).take i).length=i:=by rw[ON];simp[EP];omega
 have ts:i<f.length->(Bj f).take i++[(f.getD i (0,[])).1]=(Bj f).take (i+1):=λh=>by
  rw[Ay (Bj f) 0 (by simpa[Bj] using h)];simp[Bj,AS,h]
 have P:i<f.length->(EP f).take i++[(i:Int)]=(EP f).take (i+1):=λh=>by
  rw[Ay (EP f) 0 (by simpa[EP] using h)];simp[EP,AS,h]
 repeat'(first|exact a6|apply eS rfl|refine rX b ?_ ?_|refine rC ?_ ?_<;>intro a<;>try(cases a;done))
 .exact a
 .have g:i<f.length:=f4.1 a;have O:=ts g;have Q:=P g;refine L2 drawsAny b 9 [([1,2,3,4,5,6,7],8)] [0] a5 (mxA ?_ ?_)
  .trivial
  refine mxL b [31] ?_ ?_
  .simp only[AP];omega
  refine mxE b ?_ ?_ ?_
  .trivial
  .trivial
  repeat'(first|apply eS rfl|apply AB|refine rX b ?_ ?_)
  .simp only[AP];omega
  .omega
  refine⟨⟨i+1,g⟩,a2,AC [(3,.nm 3),(4,.nm 4),(14,.nm 14),(31,.nm 31),(41,.nm 41)] rfl rfl ?_ ?_⟩
  .simp only[<-O,<-Q];refine eM ?_;simp only[ACT,Nat.min_self,and_self]
  exact eN
 have g:i=f.length:=by
  have:=AA7.1 a;omega
 subst g;have et:(Bj f).take f.length=Bj f:=BY (by simp[Bj]);have v:(EP f).take f.length=EP f:=BY (by simp[EP]);have N:(Bj f).length=f.length:=by simp[Bj]
 have Y:(EP f).length=f.length:=by simp[EP]
 rw[et,v];have B:(EP f).take f.length=EP f:=v;refine Cj [41] ?_;rw[B];refine AI (ι:={x:Nat×EF//NU (ht,hf) f.length x.2/\Ya (ht,hf) x.2.1+x.2.2.length+1<=Nr (ht,hf) f/\x.1<=x.2.2.length/\∃k,Ya (ht,hf) x.2.1+x.2.2.length+1<=k+x.1/\wY (ht,hf) f k x.1 x.2=IH (ht,hf) f}) (λx=>⟨[(3,.bp 3 [] 0),(4,.bp 4 [] 0),(6,.bp 14 [] 0),(9,.p (.int .i64) (x.1.1:Int))],[(3,.box 34 true [.p Ij f]),(4,.box 34 true [.raw (.slice none 0 0)]),(14,.box 163 true [.p FL (ht,hf),.sr 31 T3 0 x.1.2.1.length,.p Bx x.1.2.2]),(31,.arr 3 T3 x.1.2.1)]⟩) (λx=>Ya (ht,hf) x.1.2.1+x.1.2.2.length-x.1.1) ⟨(0,Bj f,EP f),J,D,Do _,Nr (ht,hf) f,a2,rfl⟩ (AC [(3,.nm 3),(4,.nm 4),(14,.nm 14),(31,.nm 31)] rfl rfl ?_ ?_) (λx=>?_)
 .simp only[N];exact eN
 .exact eN
 obtain⟨⟨i,s⟩,hs,I,hi,k,hk,e⟩:=x;simp only at hs I hi hk e ⊢;repeat'(first|exact a6|apply eS rfl|refine rX b ?_ ?_|refine rC ?_ ?_<;>intro a<;>try(cases a;done))
 .have m:i<s.2.length:=f4.1 a;obtain⟨z,A⟩:=hs.wt _ (AF s.2 (0:Int) m);obtain⟨k,rfl⟩:∃t,k=t+1:=⟨k-1,O1⟩;have r:wY (ht,hf) f (k+1) i s=(LF (ht,hf) f (s.2.getD i 0) s).bind (wY (ht,hf) f k (i+1)):=At m;rw[r]at e;refine cD 9 b ?_ ?_
  .exact a
  refine rM b (mU (ht,hf) c.ok c.inj c.ft c.fl f c.good c.arcs s hs z A O1) [(1,.nm 14),(2,.nm 31)] [31] ?_ ?_ ?_
  .exact eN
  .simp only[Dw];exact eN
  rintro res W (⟨l,rfl,d,rfl⟩|⟨d,l,rfl,rfl⟩)
  .refine⟨[(14,.nm 1),(31,.nm 2)],.p .bool false,[(14,.box 163 true [.p FL (ht,hf),.sr 31 T3 0 d.1.length,.p Bx d.2]),(31,.arr 3 T3 d.1)],rfl,rfl,?_,?_,rfl,rfl,?_⟩
   .simp only[Dw];exact eN
   .exact eN
   refine rL b ?_ ?_
   .trivial
   repeat'(first|exact a6|apply eS rfl|refine rX b ?_ ?_|refine rC ?_ ?_<;>intro a<;>try(cases a;done))
   have o:EH (ht,hf) f=([],false):=by unfold EH;rw[<-e,l];rfl
   exact fI b [.cell 4 34,.tmp 5] (by rw[o];exact eR)
  obtain⟨M,U,V⟩:=WA c.ok c.inj c.ft c.arcs z A hs l;rw[l]at e;refine⟨[(14,.nm 1),(31,.nm 2)],.p .bool true,[(14,.box 163 true [.p FL (ht,hf),.sr 31 T3 0 d.1.length,.p Bx d.2]),(31,.arr 3 T3 d.1)],rfl,rfl,?_,?_,rfl,rfl,?_⟩
  .simp only[Dw];exact eN
  .exact eN
  refine rL b ?_ ?_
  .trivial
  repeat'(first|apply eS rfl|apply AB|refine rX b ?_ ?_|refine rC ?_ ?_<;>intro a<;>try(cases a;done))
  .omega
  exact⟨⟨(i+1,d),M,a2,a2,k,a2,e⟩,a2,eW [(3,.nm 3),(4,.nm 4),(14,.nm 14),(31,.nm 31)]⟩
 .exact w
 have m:¬i<s.2.length:=λh=>by
  have:=AA7.1 a;omega
 obtain⟨k,rfl⟩:∃t,k=t+1:=⟨k-1,O1⟩;have r:wY (ht,hf) f (k+1) i s=some s.1:=An m;have o:EH (ht,hf) f=(Ew f s.1,true):=by unfold EH;rw[<-e,r]
 have q:=Dj f s.1;have K:=λi h=>Hg f s.1 (i:=i) h;generalize hT:Ew f s.1=F at *;have L:=hs.len;refine AI (ι:={j:Nat//j<=f.length}) (λj=>⟨[(4,.bp 4 [] 0),(6,.bp 14 [] 0),(10,.bp 10 [] 0),(72,.p (.int .i64) (f.length:Int)),(73,.p (.int .i64) (j.1:Int))],[(10,.box 34 true [.sr 68 W3 0 f.length]),(68,.arr 57 W3 (F.take j.1++f.drop j.1)),(4,.box 34 true [.raw (.slice none 0 0)]),(14,.box 163 true [.p FL (ht,hf),.sr 31 T3 0 s.1.length,.p Bx s.2]),(31,.arr 3 T3 s.1)]⟩) (λj=>f.length-j.1) ⟨0,Do _⟩ (eW [(10,.nm 10),(68,.nm 68),(4,.nm 4),(14,.nm 14),(31,.nm 31)]) (λj=>?_)
 obtain⟨j,T⟩:=j;have H:=λh:j<f.length=>vK F f (0,[]) q h;repeat'(first|exact a6|apply eS rfl|apply AB|refine rX b ?_ ?_|refine rC ?_ ?_<;>intro a<;>try(cases a;done))
 .exact⟨by rw[L];exact a,a⟩
 .omega
 .have n:j<f.length:=f4.1 a;obtain⟨y,G⟩:=H n;rw[K j n]at y;refine⟨⟨j+1,n⟩,a2,AC [(10,.nm 10),(68,.nm 68),(4,.nm 4),(14,.nm 14),(31,.nm 31)] rfl rfl ?_ ?_⟩
  .simp only[<-y];refine eM ?_;rw[G]
  exact eN
 have hF:F.take j=F:=BY (by rw[q];exact AA7.1 a);have E:List.drop j f=[]:=Is (AA7.1 a);rw[hF,E,AAu];exact fI b [.cell 4 34,.tmp 5] (by rw[o];first|exact eR|refine KP ?_;exact BY (by rw[q];exact On _))
end
structure MI (m:List (Int×Bool)) (l:List Bool):Prop where
 nd:(m.map (·.1)).Nodup
 get:∀k:Int,BV T3 .bool k m=if 0<=k/\l.getD k.toNat false=true then some true else none
theorem qL (k:Int) (v:Bool):∀ {m:List (Int×Bool)},(m.map (·.1)).Nodup->((FJ T3 .bool k v m).map (·.1)).Nodup/\∀x,x∈(FJ T3 .bool k v m).map (·.1)->x=k\/x∈m.map (·.1)
 | [],_=>by simp[FJ]
 | y :: m,h=>by
  rw[sQ,AAA]at h;unfold FJ;split
  .rename_i e;have e:k=y.1:=by simpa[HZ] using e
   refine⟨?_,λx a=>?_⟩
   .rw[sQ,AAA,e];exact h
   rcases By.1 a with a|a
   .exact .inl a
   exact .inr (IF _ a)
  rename_i e;have e:¬k=y.1:=by simpa[HZ] using e
  obtain⟨c,b⟩:=qL k v h.2;refine⟨?_,λx a=>?_⟩
  .rw[sQ,AAA];refine⟨λd=>?_,c⟩;rcases b _ d with a|a
   .exact e a.symm
   exact h.1 a
  rcases By.1 a with a|a
  .exact .inr (by rw[a];simp)
  exact(b x a).imp id λg=>IF _ g
theorem gJ (k:Int):∀m:List (Int×Bool),(kP T3 .bool k m).Sublist m
 | []=>List.Sublist.refl _
 | y :: m=>by
  unfold kP;split
  .exact List.sublist_cons_self _ _
  exact(gJ k m).cons_cons _
theorem Yg {x:Int}:∀ {m:List (Int×Bool)},x∉m.map (·.1)->BV T3 .bool x m=none
 | [],_=>rfl
 | y :: m,h=>by
  unfold BV;rw[An (by
   intro e;have e:x=y.1:=by simpa[HZ] using e
   exact h (by rw[e];simp))]
  exact Yg λa=>h (IF _ a)
theorem Yh (x k:Int):∀ {m:List (Int×Bool)},(m.map (·.1)).Nodup->BV T3 .bool x (kP T3 .bool k m)=if x=k then none else BV T3 .bool x m
 | [],_=>by simp[kP,BV]
 | y :: m,h=>by
  rw[sQ,AAA]at h;unfold kP;split
  .rename_i e;have e:k=y.1:=by simpa[HZ] using e
   by_cases a:x=k
   .rw[At a,a,e];exact Yg h.1
   rw[An a];have c:¬x=y.1:=by rw[<-e];exact a
   simp[BV,HZ,c]
  rename_i e;have e:¬k=y.1:=by simpa[HZ] using e
  have f:=Yh x k h.2;by_cases b:x=y.1
  .have d:¬x=k:=by rw[b];exact λg=>e g.symm
   rw[An d];simp[BV,HZ,b]
  have hn:¬HZ T3 x y.1=true:=by simpa[HZ] using b
  simp only[BV];rw[An hn,An hn,f]
theorem MI.zero:MI [] (List.replicate 0 true):=⟨List.nodup_nil,λk=>by simp[BV]⟩
theorem MI.put {m:List (Int×Bool)} {i:Nat} (h:MI m (List.replicate i true)):MI (FJ T3 .bool (i:Int) true m) (List.replicate (i+1) true):=by
 refine⟨(qL _ _ h.nd).1,λ(k:Int)=>?_⟩;rw[V8,h.get];by_cases hk:k=(i:Int)
 .rw[At hk,At];subst hk;refine⟨AAP _,?_⟩;simp[AS,ABz]
 rw[An hk];have e:(0<=k/\(List.replicate i true).getD k.toNat false=true)↔(0<=k/\(List.replicate (i+1) true).getD k.toNat false=true):=by
  simp only[AS,ABz];constructor
  .rintro⟨a,b⟩;refine⟨a,?_⟩;split at b
   .rw[At O1];rfl
   simp at b
  rintro⟨a,b⟩;refine⟨a,?_⟩;split at b
  .rw[At O1];rfl
  simp at b
 by_cases c:0<=k/\(List.replicate i true).getD k.toNat false=true
 .rw[At c,At (e.1 c)]
 rw[An c,An λg=>c (e.2 g)]
theorem MI.del {m:List (Int×Bool)} {l:List Bool} (h:MI m l) (i:Nat):MI (kP T3 .bool (i:Int) m) (l.set i false):=by
 refine⟨h.nd.sublist ((gJ _ m).map _),λ(k:Int)=>?_⟩;rw[Yh _ _ h.nd,h.get];by_cases hk:k=(i:Int)
 .subst hk;rw[At rfl,An];rintro⟨-,b⟩;rw[jC]at b;simp only[AS,AB4]at b;rw[At trivial]at b;split at b<;>simp at b
 rw[An hk];by_cases a:0<=k
 .have c:¬i=k.toNat:=by omega
  simp only[AS,AB4];rw[An c]
 rw[An λg=>a g.1,An λg=>a g.1]
theorem NF {x:Int}:∀ {m:List (Int×Bool)},x∈m.map (·.1)->BV T3 .bool x m≠none
 | y :: m,h=>by
  unfold BV;split
  .simp
  rename_i e;rcases By.1 h with h|h
  .exact absurd (by simp[HZ,h]) e
  exact NF h
theorem MI.len {m:List (Int×Bool)} {l:List Bool} (h:MI m l):m.length<=l.length:=by
 have h1:((m.map (·.1)).map Int.toNat).Nodup:=by
  rw[List.Nodup,AAN];refine h.nd.imp_of_mem λ{a b:Int} ha d i e=>i ?_;have h1:=NF ha;have c:=NF d;rw[h.get]at h1 c;have n:0<=a:=DO λg=>h1 (An λq=>g q.1);have o:0<=b:=DO λg=>c (An λq=>g q.1);omega
 have:=DG l.length _ h1 (λj f=>by
  obtain⟨x,k,rfl⟩:=GO.1 f;have h1:=NF k;rw[h.get]at h1;refine DO λhn=>h1 (An λg=>?_);have:=g.2;rw[AS,oF O1]at this;cases this)
 simpa using this
def vL (N:List AD) (i:Nat) (v:Int×Int):List AD:=N.set i ((N.getD i (0,[])).1,(N.getD i (0,[])).2++[(v.1,(N.length:Int))])++[(v.2,[])]
theorem A1o (N:List AD) (i:Nat) (v:Int×Int):(vL N i v).length=N.length+1:=by simp[vL]
structure TI2 (h:AG) (m i k:Nat) (N:List AD):Prop where
 len:N.length<=m
 ty:∀x∈N,0<=x.1/\x.1<(h.1.length:Int)
 lo:∀j,j<i->(N.getD j (0,[])).2.length<=200
 at':(N.getD i (0,[])).2.length<=100+k
 hi:∀j,i<j->(N.getD j (0,[])).2.length<=100
theorem A1p {α:Type} (l:List α) (x d:α) (j:Nat):(l++[x]).getD j d=if j<l.length then l.getD j d else if j=l.length then x else d:=by
 simp only[AS];by_cases h:j<l.length
 .rw[At h,AAm h]
 rw[An h,AAa O1];by_cases e:j=l.length
 .rw[At e,e,ABt];rfl
 rw[An e,oF (by simp only[nO];omega)];rfl
theorem NG {α:Type} (l:List α) (x d:α) {i:Nat} (h:i<l.length) (j:Nat):(l.set i x).getD j d=if j=i then x else l.getD j d:=by
 simp only[AS,AB4];by_cases e:i=j
 .rw[At e,At h,At e.symm];rfl
 rw[An e,An (show ¬j=i by omega)]
theorem A1q {N:List AD} {i:Nat} (h:i<N.length) (v:Int×Int) (j:Nat):(vL N i v).getD j (0,[])=if j=i then ((N.getD i (0,[])).1,(N.getD i (0,[])).2++[(v.1,(N.length:Int))]) else if j=N.length then (v.2,[]) else N.getD j (0,[]):=by
 unfold vL;rw[A1p,NG _ _ _ h,AAt];by_cases a:j=i
 .rw[At a,At O1,At a]
 rw[An a,An a];by_cases c:j<N.length
 .rw[At c,An O1]
 rw[An c];by_cases b:j=N.length
 .rw[At b,At b]
 rw[An b,An b,AS,oF O1];rfl
theorem TI2.add {m i k:Nat} {N:List AD} (b:TI2 h m i k N) (hi:i<N.length) (f:4096<=m) (e:N.length<4096) (v0:0<=v.2) (v1:v.2<(h.1.length:Int)):TI2 h m i (k+1) (vL N i v):=by
 have c:=λj=>A1q hi v j;refine⟨by rw[A1o];omega,λx a=>?_,λj d=>?_,?_,λj d=>?_⟩
 .unfold vL at a;rcases If.1 a with a|a
  .rcases ABd a with a|rfl
   .exact b.ty x a
   exact(b.ty (N.getD i (0,[])) (AF N (0,[]) hi) :)
  rw[oN.1 a];exact⟨v0,v1⟩
 .rw[c,An O1,An O1];exact b.lo j d
 .rw[c,At rfl];have:=b.at';simp only[IS,nO];omega
 rw[c,An O1];split
 .simp
 exact b.hi j d
theorem TI2.skip {m i k:Nat} {N:List AD} (a:TI2 h m i k N):TI2 h m i (k+1) N:=⟨a.len,a.ty,a.lo,by have:=a.at';omega,a.hi⟩
theorem TI2.next {m i k:Nat} {N:List AD} (a:TI2 h m i k N) (hk:k<=100):TI2 h m (i+1) 0 N:=⟨a.len,a.ty,λj b=>by
 by_cases e:j=i
 .have:=a.at';rw[e];omega
 exact a.lo j O1,a.hi (i+1) O1,λj b=>a.hi j O1⟩
theorem getD_set_ne {α:Type} (l:List α) (d v:α) {i:Nat} (h:i≠j):(l.set i v).getD j d=l.getD j d:=by
 simp only[AS];rw[List.getElem?_set_ne h]
theorem XQ {α:Type} (l:List α) (d v:α) {i:Nat} (h:i<l.length):(l.set i v).getD i d=v:=by
 simp only[AS];rw[List.getElem?_set_self h];rfl
def toF (l:List (Int×Int)) (x:Int):Int:=l.foldl (λt a=>if a.1=x then a.2 else t) (-1)
abbrev Au (f:List AD) (n:Int):List (Int×Int):=(f.getD n.toNat (0,[])).2
def A6e (f:List AD):Int->List Int->Option Int
 | n,[]=>some n
 | n,x :: r=>if toF (Au f n) x<0 then none else A6e f (toF (Au f n) x) r
theorem gK {f:List AD} (hf:AX f):∀(k:Nat) (o:List Int) (n:Int),M9 f o->0<=n->n<f.length->n∉o->f.length-o.length<=k->Ei f (k+1) o n=Ei f k o n
 | 0,o,n,h,h0,h1,c,hk=>by
  have:=(h.snoc h0 h1 c).len;grind
 | k+1,o,n,h,h0,h1,c,hk=>by
  rw[Cn,Cn];have key:∀(l:List (Int×Int)) (t:List Int),(∀a∈l,0<=a.2/\a.2<(f.length:Int))->M9 f t->f.length-t.length<=k->l.foldl (A9 f (k+1)) t=l.foldl (A9 f k) t:=by
   intro l;induction l with
   | nil=>intros;rfl
   | cons a l m =>
    intro t e ht j;have g:=e a sc;have hs:A9 f (k+1) t a=A9 f k t a:=by
     unfold A9;split
     .rfl
     rename_i hn;exact gK hf k t a.2 ht g.1 g.2 hn j
    have d:M9 f (A9 f k t a)/\t <+: A9 f k t a:=by grind [A9,GQ]
    rw[OS,OS,hs];have:=d.2.length_le;exact m _ (λb i=>e b (by simp[i])) d.1 O1
  exact key _ _ (λa ha=>Cc hf ha) (h.snoc h0 h1 c) (by simp only[IS,nO];omega)
theorem Kk (f:List AD):M9 f []:=⟨sc,λx a=>by cases a⟩
theorem gL {f:List AD} (hf:AX f) {n:Int} (h0:0<=n) (h1:n<f.length):∀m,Ei f (f.length+m) [] n=Ei f f.length [] n
 | 0=>rfl
 | m+1=>by
  rw[<-ACX,gK hf _ [] n (Kk f) h0 h1 sc (by simp only[AAl];omega)];exact gL hf h0 h1 m
structure Iso (Q R:List AD) (ψ:Int->Int) (C:Int->Prop):Prop where
 arc:∀i,C i->Au R (ψ i)=(Au Q i).map λa=>(a.1,ψ a.2)
 cl:∀i,C i->∀a∈Au Q i,C a.2
 inj:∀i j,C i->C j->ψ i=ψ j->i=j
theorem aJ {Q R:List AD} {c:Int->Int} {d:Int->Prop} (h:Iso Q R c d):∀(k:Nat) (t:List Int) (i:Int),(∀x∈t,d x)->d i->Ei R k (t.map c) (c i)=(Ei Q k t i).map c/\∀x∈Ei Q k t i,d x
 | 0,t,i,ht,hi=>⟨rfl,ht⟩
 | k+1,t,i,ht,hi=>by
  have key:∀(l:List (Int×Int)) (t:List Int),(∀a∈l,d a.2)->(∀x∈t,d x) ->
    (l.map λa=>(a.1,c a.2)).foldl (A9 R k) (t.map c)=(l.foldl (A9 Q k) t).map c/\∀x∈l.foldl (A9 Q k) t,d x:=by
   intro l;induction l with
   | nil=>intro t _ ht;exact⟨rfl,ht⟩
   | cons a l p =>
    intro t g ht;have ha:=g a sc;have hs:A9 R k (t.map c) (a.1,c a.2)=(A9 Q k t a).map c/\∀x∈A9 Q k t a,d x:=by
     unfold A9;by_cases j:a.2∈t
     .grind
     have o:¬c a.2∈t.map c:=by
      intro hh;obtain⟨x,f,e⟩:=GO.1 hh;exact j (h.inj x a.2 (ht x f) ha e▸f)
     rw[An j];simp only[An o];exact aJ h k t a.2 ht ha
    rw[sQ,OS,OS,hs.1];exact p _ (λb n=>g b (by simp[n])) hs.2
  rw[Cn,Cn];have e:t.map c++[c i]=(t++[i]).map c:=by simp
  have m:(R.getD (c i).toNat (0,[])).2=(Au Q i).map λa=>(a.1,c a.2):=h.arc i hi;rw[m,e];refine key _ _ (h.cl i hi) λx f=>?_;grind
theorem Js {o:List Int} (hn:o.Nodup) {i:Nat} (hi:i<o.length):FQ o (o.getD i 0)=(i:Int):=by grind [FQ]
theorem F3 {o:List Int} (h:x∈o):0<=FQ o x/\FQ o x<(o.length:Int)/\o.getD (FQ o x).toNat 0=x:=by
 unfold FQ;rw[At h];have a:=List.idxOf_lt_length_of_mem h
 simp_all
theorem A1r (hs:QJ f) (n:Int):(Au f n).Pairwise (λa b=>a.1<b.1):=(gD _).1 (mH hs n).1
structure TE (h:AG) (a b:List AD) (m:Int->Int):Prop where
 zero:m 0=0
 rng:∀i,0<=i->i<(a.length:Int)->0<=m i/\m i<(b.length:Int)
 ty:∀i,0<=i->i<(a.length:Int)->Ah h (a.getD i.toNat (0,[])).1 (b.getD (m i).toNat (0,[])).1=true
 arc:∀i,0<=i->i<(a.length:Int)->∀x∈Au a i,BU (Au b (m i)) x.1=m x.2
theorem QU (h:l.Pairwise (λa b=>a.1<b.1)) {a:Int×Int} (ha:a∈l):BU l a.1=a.2:=by
 induction l with
 | nil=>cases ha
 | cons b l d =>
  obtain⟨h1,c⟩:=AAv.1 h;simp only[BU];rcases By.1 ha with rfl|ha
  .rw[At rfl]
  grind
theorem gM {e:Int} (h:0<=BU l e):∃a∈l,a.1=e/\a.2=BU l e:=by
 induction l with
 | nil=>simp only[BU]at h;omega
 | cons b l c =>
  simp only[BU]at h ⊢;split
  .grind
  grind
theorem A7O (hs:QJ f) {n:Int} {a:Int×Int} (ha:a∈Au f n):BU (Au f n) a.1=a.2:=QU (A1r hs n) ha
def RO (f:List AD):Prop:=∀i:Int,0<i->i<(f.length:Int)->∃j,0<=j/\j<i/\∃x∈Au f j,x.2=i
theorem A4F {v:Int} (hk:k<p.length):(p.set k v).getD j 0=if k=j then v else p.getD j 0:=by grind
theorem WH {f:List AD} (hf:AX f):∀(k:Nat) (t:List Int) (n:Int),M9 f t->0<=n->n<f.length->n∉t ->
  ∀q,t.length<q->q<(Ei f k t n).length->∃j,j<q/\∃a∈Au f ((Ei f k t n).getD j 0),a.2=(Ei f k t n).getD q 0
 | 0,t,n,h,h0,h1,x,q,A,d=>by simp only[Ei]at d;omega
 | k+1,t,n,h,h0,h1,x,q,A,d=>by
  have key:∀(l:List (Int×Int)) (u:List Int),(∀a∈l,a∈Au f n)->M9 f u->t++[n] <+: u ->
    (∀q,t.length<q->q<u.length->∃j,j<q/\∃a∈Au f (u.getD j 0),a.2=u.getD q 0) ->
    ∀q,t.length<q->q<(l.foldl (A9 f k) u).length->∃j,j<q/\∃a∈Au f ((l.foldl (A9 f k) u).getD j 0),a.2=(l.foldl (A9 f k) u).getD q 0:=by
   intro l;induction l with
   | nil=>intro u _ _ _ hu q o c;exact hu q o c
   | cons a l H =>
    intro u y hu s E;have ha:=y a sc;have g:=Cc hf ha;rw[OS];by_cases p:a.2∈u
    .grind [A9]
    have hs:A9 f k u a=Ei f k u a.2:=by unfold A9;rw[An p]
    rw[hs];obtain⟨C,w⟩:=GQ hf k u a.2 hu g.1 g.2 p;have r:∀j,j<u.length->(Ei f k u a.2).getD j 0=u.getD j 0:=λj D=>by
     obtain⟨v,m⟩:=w;rw[<-m];simp only[AS];rw[AAm D]
    have G:u.getD t.length 0=n:=by
     obtain⟨v,m⟩:=s;rw[<-m];simp[AS]
    have B:t.length<u.length:=by
     have:=s.length_le;simp at this;omega
    refine H (Ei f k u a.2) (λb i=>y b (by simp[i])) C (s.trans w) (λq o c=>?_);by_cases z:q<u.length
    .obtain⟨j,I,b,i,e⟩:=E q o z;refine⟨j,I,b,?_,?_⟩
     .rw[r j O1];exact i
     rw[r q z];exact e
    by_cases d:q=u.length
    .subst d;refine⟨t.length,B,a,?_,?_⟩
     .rw[r _ B,G];exact ha
     cases k with
     | zero=>simp only[Ei]at c;omega
     | succ k =>
      have F:u++[a.2] <+: Ei f (k+1) u a.2:=by
       rw[Cn];exact(IB (GQ hf k) _ _ (λb i=>Cc hf i) (hu.snoc g.1 g.2 p)).2
      obtain⟨v,m⟩:=F;rw[<-m];simp[AS]
    exact WH hf k u a.2 hu g.1 g.2 p q O1 c
  rw[Cn]at d ⊢;exact key _ (t++[n]) (λa ha=>ha) (h.snoc h0 h1 x) (ABk _) (λq o c=>by simp only[IS,nO]at c;omega) q A d
theorem mV (x:List Int):ML x x=true:=by grind [ML,He,Sg]
theorem Ro (h:AG) (t:Int):Ah h t t=true:=mV _
abbrev QV (p:List Int) (n:Int):Int:=p.getD n.toNat 0
structure Fo (p:List Int) (rk:Int->Nat):Prop where
 rng:∀n,0<=n->n<(p.length:Int)->0<=QV p n/\QV p n<(p.length:Int)
 dec:∀n,0<=n->n<(p.length:Int)->QV p n≠n->rk (QV p n)<rk n
inductive Rt (p:List Int):Int->Int->Prop
 | base {n:Int} (h:QV p n=n):Rt p n n
 | step {n r:Int} (h:QV p n≠n) (h2:Rt p (QV p n) r):Rt p n r
theorem Rt.det {n r s:Int} (h:Rt p n r) (g:Rt p n s):r=s:=by
 induction h with
 | base h =>
  cases g with
  | base g=>rfl
  | step g _=>exact absurd h g
 | step h _ b =>
  cases g with
  | base g=>exact absurd g h
  | step _ a=>exact b a
theorem Rt.root {n r:Int} (h:Rt p n r):QV p r=r:=by
 induction h with
 | base h=>exact h
 | step _ _ a=>exact a
theorem Fo.ex {b:Int->Nat} (h:Fo p b):∀(k:Nat) (n:Int),b n<=k->0<=n->n<(p.length:Int)->∃r,Rt p n r/\0<=r/\r<(p.length:Int)
 | 0,n,hk,h0,h1=>by
  by_cases e:QV p n=n
  .exact⟨n,.base e,h0,h1⟩
  have:=h.dec n h0 h1 e;omega
 | k+1,n,hk,h0,h1=>by
  by_cases e:QV p n=n
  .exact⟨n,.base e,h0,h1⟩
  have g:=h.dec n h0 h1 e;have a:=h.rng n h0 h1;obtain⟨r,c,d,f⟩:=h.ex k (QV p n) O1 a.1 a.2;exact⟨r,.step e c,d,f⟩
theorem Fo.root (h:Fo p a) {n:Int} (h0:0<=n) (h1:n<(p.length:Int)):∃r,Rt p n r/\0<=r/\r<(p.length:Int):=h.ex (a n) n (On _) h0 h1
theorem HT {n v:Int} (h0:0<=n) (h1:n<(p.length:Int)) (x:Int) (a:0<=x):QV (p.set n.toNat v) x=if x=n then v else QV p x:=by
 unfold QV;rw[A4F O1];by_cases e:x=n
 .subst e;rw[At rfl,At rfl]
 rw[An O1,An e]
def Rp (p q:List Int):Prop:=p.length=q.length/\∀x r,0<=x->x<(p.length:Int)->(Rt p x r↔Rt q x r)
theorem Rp.refl (p:List Int):Rp p p:=⟨rfl,λ_ _ _ _=>Iff.rfl⟩
theorem Rp.trans {s:List Int} (h:Rp p q) (g:Rp q s):Rp p s :=
 ⟨h.1.trans g.1,λx r a b=>(h.2 x r a b).trans (g.2 x r a (by rw[<-h.1];exact b))⟩
def So (b n:Nat):List Int:=(List.range n).map λi=>((b+i:Nat):Int)
def Dy (b:Nat) (l:List (Int×Int)):List (Int×Int):=l.map λa=>(a.1,a.2+(b:Int))
theorem vM (b n:Nat):(So b n).length=n:=by simp[So]
section
attribute [local go_sem] p5
def Ee:List (Int×Int)->List (Int×Int)->List (Int×Int)×List (Int×Int)
 | [],y=>(y,[])
 | a :: x,[]=>(a :: x,[])
 | a :: x,b :: y =>
  if a.1<b.1 then (a :: (Ee x (b :: y)).1,(Ee x (b :: y)).2)
  else if b.1<a.1 then (b :: (Ee (a :: x) y).1,(Ee (a :: x) y).2)
  else (a :: (Ee x y).1,(a.2,b.2) :: (Ee x y).2)
termination_by x y=>x.length+y.length
end
theorem Ow (hk:FC h) {a c:Int} (d:0<=a) (e:a<(h.1.length:Int)) (f:0<=b) (b1:b<(h.1.length:Int)) (c0:0<=c) (c1:c<(h.1.length:Int)) (h1:Ah h a b=true) (g:Ah h b c=true):Ah h a c=true :=
 (B4 hk d e c0 c1).2 λi hi=>(B4 hk d e f b1).1 h1 i ((B4 hk f b1 c0 c1).1 g i hi)
theorem QW:∀ {x y:List (Int×Int)} {a:Int×Int},a∈x->a∈(Ee x y).1
 | [],_,_,h=>by cases h
 | b :: x,[],a,h=>by simpa[Ee] using h
 | b :: x,c :: y,a,h=>by
  rw[Ee];split
  .rcases By.1 h with rfl|h
   .simp
   exact IF _ (QW h)
  split
  .exact IF _ (QW h)
  rcases By.1 h with rfl|h
  .simp
  exact IF _ (QW h)
termination_by x y=>x.length+y.length
theorem NH:∀ {x y:List (Int×Int)} {a:Int×Int},a∈y->a∈(Ee x y).1\/∃t,(a.1,t)∈(Ee x y).1/\(t,a.2)∈(Ee x y).2
 | [],y,a,h=>by
  left;simpa[Ee] using h
 | b :: x,[],a,h=>by cases h
 | b :: x,c :: y,a,h=>by
  rw[Ee];split
  .rcases NH (x:=x) h with g|⟨t,d,e⟩
   .exact .inl (IF _ g)
   exact .inr ⟨t,IF _ d,e⟩
  split
  .rcases By.1 h with rfl|h
   .left;simp
   rcases NH (x:=b :: x) h with g|⟨t,d,e⟩
   .exact .inl (IF _ g)
   exact .inr ⟨t,IF _ d,e⟩
  rcases By.1 h with rfl|h
  .right;exact⟨b.2,by rw[show a.1=b.1 by omega];simp,sc⟩
  rcases NH (x:=x) h with g|⟨t,d,e⟩
  .exact .inl (IF _ g)
  exact .inr ⟨t,IF _ d,IF _ e⟩
termination_by x y=>x.length+y.length
theorem Iv:∀ {x y:List (Int×Int)} {a:Int×Int},a∈(Ee x y).1->a∈x\/a∈y
 | [],y,a,h=>by
  right;simpa[Ee] using h
 | b :: x,[],a,h=>by
  left;simpa[Ee] using h
 | b :: x,c :: y,a,h=>by
  rw[Ee]at h;split at h
  .rcases By.1 h with rfl|h
   .left;simp
   rcases Iv h with g|g
   .exact .inl (IF _ g)
   exact .inr g
  split at h
  .rcases By.1 h with rfl|h
   .right;simp
   rcases Iv h with g|g
   .exact .inl g
   exact .inr (IF _ g)
  rcases By.1 h with rfl|h
  .left;simp
  rcases Iv h with g|g
  .exact .inl (IF _ g)
  exact .inr (IF _ g)
termination_by x y=>x.length+y.length
theorem QX:∀ {x y:List (Int×Int)} {q:Int×Int},q∈(Ee x y).2->∃e,(e,q.1)∈x/\(e,q.2)∈y
 | [],y,q,h=>by simp[Ee]at h
 | b :: x,[],q,h=>by simp[Ee]at h
 | b :: x,c :: y,q,h=>by
  rw[Ee]at h;split at h
  .obtain⟨e,h1,a⟩:=QX h;exact⟨e,IF _ h1,a⟩
  split at h
  .obtain⟨e,h1,a⟩:=QX h;exact⟨e,h1,IF _ a⟩
  rcases By.1 h with rfl|h
  .exact⟨b.1,sc,by rw[show b.1=c.1 by omega];simp⟩
  obtain⟨e,h1,a⟩:=QX h;exact⟨e,IF _ h1,IF _ a⟩
termination_by x y=>x.length+y.length
theorem Tu:∀ {x y:List (Int×Int)},(Ee x y).2.length<=x.length
 | [],y=>by simp[Ee]
 | b :: x,[]=>by simp[Ee]
 | b :: x,c :: y=>by
  rw[Ee];split
  .have:=Tu (x:=x) (y:=c :: y);simp only[NO];omega
  split
  .exact Tu (x:=b :: x) (y:=y)
  have:=Tu (x:=x) (y:=y);simp only[NO];omega
termination_by x y=>x.length+y.length
abbrev W5 (l:List (Int×Int)):Prop:=l.Pairwise (λa b=>a.1<b.1)
theorem Tv:∀ {x y:List (Int×Int)},W5 x->W5 y->W5 (Ee x y).1
 | [],y,_,h=>by simpa[Ee] using h
 | b :: x,[],h,_=>by simpa[Ee] using h
 | b :: x,c :: y,i,j=>by
  have d:=AAv.1 i;have e:=AAv.1 j;rw[Ee];split
  .rename_i f;refine AAv.2 ⟨λa ha=>?_,Tv d.2 j⟩;rcases Iv ha with g|g
   .exact d.1 a g
   rcases By.1 g with rfl|g
   .exact f
   have:=e.1 a g;omega
  split
  .rename_i f;refine AAv.2 ⟨λa ha=>?_,Tv i e.2⟩;rcases Iv ha with g|g
   .rcases By.1 g with rfl|g
    .exact f
    have:=d.1 a g;omega
   exact e.1 a g
  refine AAv.2 ⟨λa ha=>?_,Tv d.2 e.2⟩;rcases Iv ha with g|g
  .exact d.1 a g
  have:=e.1 a g;omega
termination_by x y=>x.length+y.length
theorem A4G {q:Int->Nat} (m:Fo p q) {a:Int} (j:0<=a) (c:0<=b) (b1:b<(p.length:Int)) (ha:QV p a=a) (k:QV p b=b) (f:a≠b) {x r:Int} (d:0<=x) (s:x<(p.length:Int)) (h:Rt p x r):Rt (p.set b.toNat a) x (if r=b then a else r):=by
 have l:Rt (p.set b.toNat a) a a:=.base (by rw[HT c b1 a j,An f];exact ha);induction h with
 | @base n hn =>
  split
  .rename_i e;rw[e];exact .step (by rw[HT c b1 b c,At rfl];exact f) (by rw[HT c b1 b c,At rfl];exact l)
  rename_i e;exact .base (by rw[HT c b1 n d,An e];exact hn)
 | @step n r hn _ o =>
  have g:n≠b:=λe=>hn (e▸k);have i:=m.rng n d s;exact .step (by rw[HT c b1 n d,An g];exact hn) (by rw[HT c b1 n d,An g];exact o i.1 i.2)
theorem A4H {c:Int->Nat} (h:Fo p c) {a:Int} (i:0<=a) (j:a<(p.length:Int)) (d:0<=b) (b1:b<(p.length:Int)) (ha:QV p a=a) (m:QV p b=b) (l:a≠b):∃q,Fo (p.set b.toNat a) q:=by
 classical
 refine⟨λx=>if Rt p x b then c x+c a+1 else c x,λn n0 n1=>?_,λn n0 n1 hn=>?_⟩
 .rw[AAt]at n1 ⊢;rw[HT d b1 n n0];split
  .exact⟨i,j⟩
  exact h.rng n n0 n1
 rw[AAt]at n1;rw[HT d b1 n n0]at hn ⊢;by_cases e:n=b
 .subst e;rw[At rfl];have h1:¬Rt p a n:=λg=>l (g.det (.base ha)).symm;rw[An h1,At (.base m)];omega
 rw[An e]at hn ⊢;have o:=h.dec n n0 n1 hn;have f:Rt p n b↔Rt p (QV p n) b:=by
  constructor
  .intro g;cases g with
   | base g=>exact absurd g hn
   | step _ g=>exact g
  exact λg=>.step hn g
 by_cases g:Rt p n b
 .rw[At g,At (f.1 g)];omega
 rw[An g,An (λk=>g (f.2 k))];exact o
inductive EG (n:Nat) (p:List Int) (W:List (Int×Int)):Int->Int->Prop
 | cls {x y r:Int} (x0:0<=x) (x1:x<(n:Int)) (y0:0<=y) (y1:y<(n:Int)) (h:Rt p x r) (g:Rt p y r):EG n p W x y
 | wt {x y:Int} (h:(x,y)∈W):EG n p W x y
 | symm {x y:Int} (h:EG n p W x y):EG n p W y x
 | trans {x y z:Int} (h:EG n p W x y) (g:EG n p W y z):EG n p W x z
theorem EG.mono {n:Nat} {V:List (Int×Int)} (h1:∀x y r,0<=x->x<(n:Int)->0<=y->y<(n:Int)->Rt p x r->Rt p y r->EG n q V x y) (a:∀x y,(x,y)∈l->EG n q V x y) {y:Int} (h:EG n p l x y):EG n q V x y:=by
 induction h with
 | cls e f i j h g=>exact h1 _ _ _ e f i j h g
 | wt h=>exact a _ _ h
 | symm _ b=>exact .symm b
 | trans _ _ c d=>exact .trans c d
structure vN (h:AG) (N:List AD) (P:List (Int×Int)) (X:List AD) (v:Int->Int):Prop where
 rng:∀x,0<=x->x<(N.length:Int)->0<=v x/\v x<(X.length:Int)
 ty:∀x,0<=x->x<(N.length:Int)->Ah h (N.getD x.toNat (0,[])).1 (X.getD (v x).toNat (0,[])).1=true
 arc:∀x,0<=x->x<(N.length:Int)->∀a∈Au N x,BU (Au X (v x)) a.1=v a.2
 eq:∀q∈P,v q.1=v q.2
structure JX (h:AG) (X:List AD) (v:Int->Int) (n:Nat) (p ty:List Int) (ar:List (List (Int×Int))) (W:List (Int×Int)):Prop where
 cls:∀x r,0<=x->x<(n:Int)->Rt p x r->v x=v r
 wt:∀w∈W,v w.1=v w.2
 ty:∀r,0<=r->r<(n:Int)->QV p r=r->Ah h (ty.getD r.toNat 0) (X.getD (v r).toNat (0,[])).1=true
 arc:∀r,0<=r->r<(n:Int)->QV p r=r->∀a∈ar.getD r.toNat [],BU (Au X (v r)) a.1=v a.2
def Kl (N:List AD):List Int:=N.flatMap λx=>x.2.map (·.1)
structure JI (h:AG) (N:List AD) (P:List (Int×Int)) (p ty:List Int) (ar:List (List (Int×Int))) (W:List (Int×Int)):Prop where
 nty:Ck h N
 fo:∃rk,Fo p rk
 lp:p.length=N.length
 lt:ty.length=N.length
 la:ar.length=N.length
 wr:∀w∈W,(0<=w.1/\w.1<(N.length:Int))/\(0<=w.2/\w.2<(N.length:Int))
 tyr:∀x,0<=x->x<(N.length:Int)->0<=ty.getD x.toNat 0/\ty.getD x.toNat 0<(h.1.length:Int)
 arr:∀k,∀a∈ar.getD k [],(0<=a.2/\a.2<(N.length:Int))/\a.1∈Kl N
 srt:∀k,W5 (ar.getD k [])
 sp:∀q∈P,EG N.length p W q.1 q.2
 st:∀x r,0<=x->x<(N.length:Int)->Rt p x r->Ah h (N.getD x.toNat (0,[])).1 (ty.getD r.toNat 0)=true
 sa:∀x r,0<=x->x<(N.length:Int)->Rt p x r->∀a∈Au N x,∃t,(a.1,t)∈ar.getD r.toNat []/\EG N.length p W a.2 t
 co:∀X v,Ck h X->vN h N P X v->JX h X v N.length p ty ar W
theorem IJ {b:Int->Nat} (a:Fo p b) {r:Int} (d:0<=x) (e:x<(p.length:Int)) (h:Rt p x r):0<=r/\r<(p.length:Int):=by
 obtain⟨s,hs,c,s1⟩:=a.root d e;rw[h.det hs];exact⟨c,s1⟩
section
variable {h:AG} {N:List AD} {P:List (Int×Int)} {p ty:List Int} {ar:List (List (Int×Int))} {W:List (Int×Int)} {s t a b:Int}
theorem A4I (n:JI h N P p ty ar (W++[(s,t)])) (hs:Rt p s a) (ht:Rt p t a):JI h N P p ty ar W:=by
 obtain⟨nty,fo,lp,lt,la,wr,tyr,arr,srt,sp,st,sa,co⟩:=n;have b:=wr (s,t) sc;have l:∀ {x y},EG N.length p (W++[(s,t)]) x y->EG N.length p W x y:=λ{x y} g=>g.mono (λx y r d f z A h1 k=>.cls d f z A h1 k) (λx y c=>by
  rcases If.1 c with c|c
  .exact .wt c
  have e:(x,y)=(s,t):=by simpa using c
  cases e;exact .cls b.1.1 b.1.2 b.2.1 b.2.2 hs ht)
 refine⟨nty,fo,lp,lt,la,λw b=>wr w (wT _ b),tyr,arr,srt,λq o=>l (sp q o),st,λx r d f B a ha=>?_,λX v m u=>?_⟩
 .grind
 obtain⟨c1,c2,i,j⟩:=co X v m u;exact⟨c1,λw b=>c2 w (wT _ b),i,j⟩
theorem qM (hk:FC h) (c:JI h N P p ty ar (W++[(s,t)])) (hs:Rt p s a) (ht:Rt p t b) {X:List AD} {v:Int->Int} (n:Ck h X) (o:vN h N P X v) :
  v a=v b/\(Cy h (ty.getD a.toNat 0) (ty.getD b.toNat 0)).2=true/\Ah h (Cy h (ty.getD a.toNat 0) (ty.getD b.toNat 0)).1 (X.getD (v a).toNat (0,[])).1=true:=by
 obtain⟨C,fo⟩:=c.fo;obtain⟨⟨g,s1⟩,i,j⟩:=c.wr (s,t) sc;simp only at g s1 i j;have d:=IJ fo g (by rw[c.lp];exact s1) hs;have f:=IJ fo i (by rw[c.lp];exact j) ht;rw[c.lp]at d f;obtain⟨c1,c2,l,A⟩:=c.co X v n o;have r:=c1 s a g s1 hs;have u:=c1 t b i j ht;have w:v s=v t:=c2 (s,t) sc;have e:v a=v b:=by rw[<-r,<-u,w]
 have x:=l a d.1 d.2 hs.root;have m:=l b f.1 f.2 ht.root;rw[<-e]at m;have B:=o.rng a d.1 d.2;have q:=n _ (AF X (0,[]) (k:=(v a).toNat) O1);have ta:=c.tyr a d.1 d.2;have tb:=c.tyr b f.1 f.2;obtain⟨y,z⟩:=(MM hk ta.1 ta.2 tb.1 tb.2).2 _ q.1 q.2 x m;exact⟨e,y,z⟩
theorem Yi {α:Type} {l:List α} {d v:α} {a r:Int} (b:0<=a) (c:a<(l.length:Int)) (e:0<=r):(l.set a.toNat v).getD r.toNat d=if r=a then v else l.getD r.toNat d:=by grind
theorem A1s (hk:FC h) (ad:JI h N P p ty ar (W++[(s,t)])) (hs:Rt p s a) (ht:Rt p t b) (V:a≠b) (ak:(Cy h (ty.getD a.toNat 0) (ty.getD b.toNat 0)).2=true) :
  JI h N P (p.set b.toNat a) (ty.set a.toNat (Cy h (ty.getD a.toNat 0) (ty.getD b.toNat 0)).1) (ar.set a.toNat (Ee (ar.getD a.toNat []) (ar.getD b.toNat [])).1) (W++(Ee (ar.getD a.toNat []) (ar.getD b.toNat [])).2):=by
 have al:=λX v J L=>qM (X:=X) (v:=v) hk ad hs ht J L;obtain⟨nty,⟨ba,fo⟩,lp,lt,la,wr,tyr,arr,srt,sp,st,sa,co⟩:=ad;obtain⟨⟨O,s1⟩,Q,R⟩:=wr (s,t) sc;simp only at O s1 Q R;have n:=IJ fo O (by rw[lp];exact s1) hs;have A:=IJ fo Q (by rw[lp];exact R) ht;have ha:=hs.root;have Y:=ht.root;have F:=λ{x r:Int} (c:0<=x) (i:x<(N.length:Int)) (M:Rt p x r)=>A4G fo n.1 A.1 A.2 ha Y V c (by rw[lp];exact i) M;have Z:∀ {x r:Int},0<=x->x<(N.length:Int)->Rt (p.set b.toNat a) x r->∃j,Rt p x j/\r=if j=b then a else j:=λ{x r} c i M=>by
  obtain⟨j,h1,-,-⟩:=fo.root c (by rw[lp];exact i);exact⟨j,h1,M.det (F c i h1)⟩
 have ta:=tyr a n.1 (by rw[<-lp];exact n.2);have tb:=tyr b A.1 (by rw[<-lp];exact A.2);obtain⟨aw,ax,ay,az⟩:=(MM hk ta.1 ta.2 tb.1 tb.2).1 ak;generalize ap:(Cy h (ty.getD a.toNat 0) (ty.getD b.toNat 0)).1=m at *;generalize af:ar.getD a.toNat []=xs at *;generalize ag:ar.getD b.toNat []=ys at *;have an:EG N.length (p.set b.toNat a) (W++(Ee xs ys).2) s t:=by
  have h1:=F O s1 hs;have I:=F Q R ht;rw[An V]at h1;rw[At rfl]at I;exact .cls O s1 Q R h1 I
 have E:∀ {x y},EG N.length p (W++[(s,t)]) x y->EG N.length (p.set b.toNat a) (W++(Ee xs ys).2) x y:=λ{x y} g=>g.mono (λx y r c i ai aj h1 I=>.cls c i ai aj (F c i h1) (F ai aj I)) (λx y G=>by
  rcases If.1 G with G|G
  .exact .wt (wT _ G)
  have e:(x,y)=(s,t):=by simpa using G
  cases e;exact an)
 have au:=λ{r:Int} (D:0<=r)=>Yi (l:=ty) (d:=0) (v:=m) n.1 (by rw[lt,<-lp];exact n.2) D;have K:=λ{r:Int} (D:0<=r)=>Yi (l:=ar) (d:=[]) (v:=(Ee xs ys).1) n.1 (by rw[la,<-lp];exact n.2) D;refine⟨nty,A4H fo n.1 n.2 A.1 A.2 ha Y V,by rw[AAt];exact lp,by rw[AAt];exact lt,by rw[AAt];exact la,λw o=>?_,λx c i=>?_,λk y C=>?_,λk=>?_,λq am=>E (sp q am),λx r c i z=>?_,λx r c i z y C=>?_,λX v J L=>?_⟩
 .rcases If.1 o with o|o
  .exact wr w (wT _ o)
  grind [QX]
 .grind
 .have h1:=K (r:=(k:Int)) O1;rw[jC]at h1;rw[h1]at C;split at C
  .grind [Iv]
  exact arr _ _ C
 .have h1:=K (r:=(k:Int)) O1;rw[jC]at h1;rw[h1];split
  .grind [Tv]
  exact srt k
 .obtain⟨j,h1,rfl⟩:=Z c i z;have M:=nty _ (AF N (0,[]) (k:=x.toNat) O1);have ae:=IJ fo c (by rw[lp];exact i) h1;by_cases e:j=b
  .grind [Ow]
  grind [Ow]
 .obtain⟨j,h1,rfl⟩:=Z c i z;have ae:=IJ fo c (by rw[lp];exact i) h1;obtain⟨u,H,S⟩:=sa x j c i h1 y C;by_cases e:j=b
  .rw[At e,K n.1,At rfl];rw[e,ag]at H;rcases NH (x:=xs) H with g|⟨w,T,U⟩
   .exact⟨u,g,E S⟩
   exact⟨w,T,.trans (E S) (.symm (.wt (AAZ _ U)))⟩
  rw[An e,K ae.1];split
  .rename_i B;rw[B,af]at H;exact⟨u,QW H,E S⟩
  exact⟨u,H,E S⟩
 obtain⟨c1,c2,ao,aa⟩:=co X v J L;obtain⟨e,-,av⟩:=al X v J L;have aq:∀r,0<=r->r<(N.length:Int)->QV (p.set b.toNat a) r=r->r≠b/\QV p r=r:=λr D ah z=>by grind [HT]
 refine⟨λx r c i z=>?_,λw o=>?_,λr D ah z=>?_,λr D ah z y C=>?_⟩
 .obtain⟨j,h1,rfl⟩:=Z c i z;have:=c1 x j c i h1;split
  .rename_i B;rw[this,B,e]
  exact this
 .rcases If.1 o with o|o
  .exact c2 w (wT _ o)
  obtain⟨f,ab,B⟩:=QX o;rw[<-af]at ab;rw[<-ag]at B;have T:=aa a n.1 (by rw[<-lp];exact n.2) ha _ ab;have U:=aa b A.1 (by rw[<-lp];exact A.2) Y _ B;rw[<-T,<-U,e]
 .grind
 grind [Iv]
end
theorem gN {l:List Nat} {f g:Nat->Bool} {b:Nat} (hn:l.Nodup) (c:b∈l) (h1:f b=true) (d:g b=false) (h:∀x∈l,x≠b->g x=f x):(l.filter g).length+1=(l.filter f).length:=by
 induction l with
 | nil=>cases c
 | cons x l m =>
  obtain⟨k,j⟩:=AAA.1 hn;by_cases e:x=b
  .subst e;have:l.filter g=l.filter f:=List.filter_congr λy a=>h y (by simp[a]) (λe=>k (e▸a));rw[AAO,AAO,An (by rw[d];simp),At h1,this];rfl
  have i:b∈l:=by
   rcases By.1 c with g|g
   .exact absurd g.symm e
   exact g
  have n:=m j i (λy a=>h y (by simp[a]));rw[AAO,AAO,h x sc e];split
  .simp only[NO];omega
  exact n
def nR (p:List Int):Nat:=((List.range p.length).filter λk=>p.getD k 0==(k:Int)).length
theorem A4J {a:Int} (d:0<=b) (b1:b<(p.length:Int)) (c:QV p b=b) (e:a≠b):nR (p.set b.toNat a)+1=nR p:=by
 unfold nR;rw[AAt];refine gN (b:=b.toNat) List.nodup_range (oS.2 O1) ?_ ?_ λx _ f=>?_
 .rw[AA9];unfold QV at c;omega
 .rw[XQ _ _ _ O1,AB6];omega
 rw[getD_set_ne _ _ _ O1]
theorem Rq {α:Type} [DecidableEq α]:∀ {l l':List α},l.Nodup->(∀x∈l,x∈l')->l.length<=l'.length
 | [],_,_,_=>by simp
 | x :: l,l',hn,h=>by
  obtain⟨d,c⟩:=AAA.1 hn;have a:=h x sc;have:=Rq (l:=l) (l':=l'.erase x) c (λy b=>(ACA (λe:y=x=>d (by rw[<-e];exact b))).2 (h y (by simp[b])));rw[List.length_erase_of_mem a]at this;have:=ACm a;simp only[NO];omega
theorem qO (h:W5 l) {S:List Int} (hs:∀a∈l,a.1∈S):l.length<=S.length:=by
 have hn:(l.map (·.1)).Nodup:=by
  unfold List.Nodup;rw[AAN];exact h.imp λg=>by omega
 have:=Rq hn (l':=S) (λx b=>by
  obtain⟨a,ha,rfl⟩:=GO.1 b;exact hs a ha)
 rwa [Of]at this
theorem A1t {N:List AD} {P:List (Int×Int)} {ty:List Int} {ar:List (List (Int×Int))} (t:JI h N P p ty ar []) {a:Int} (ha:0<=a/\a<(N.length:Int)) (s:0<=b/\b<(N.length:Int)):JI h N (P++[(a,b)]) p ty ar [(a,b)]:=by
 obtain⟨nty,fo,lp,lt,la,wr,tyr,arr,srt,sp,st,sa,co⟩:=t;have l:∀ {x y},EG N.length p [] x y->EG N.length p [(a,b)] x y:=λ{x y} g=>g.mono (λx y r j k C D h1 f=>.cls j k C D h1 f) (λx y A=>by cases A);refine⟨nty,fo,lp,lt,la,λw i=>?_,tyr,arr,srt,λq c=>?_,st,λx r j k z y B=>?_,λX v o d=>?_⟩
 .have e:w=(a,b):=by simpa using i
  subst e;exact⟨ha,s⟩
 .rcases If.1 c with c|c
  .exact l (sp q c)
  have e:q=(a,b):=by simpa using c
  subst e;exact .wt sc
 .obtain⟨u,h1,f⟩:=sa x r j k z y B;exact⟨u,h1,l f⟩
 obtain⟨c1,c2,m,n⟩:=co X v o ⟨d.rng,d.ty,d.arc,λq c=>d.eq q (wT _ c)⟩;refine⟨c1,λw i=>?_,m,n⟩;have e:w=(a,b):=by simpa using i
 subst e;exact d.eq _ sc
open Classical in
noncomputable def IU (p:List Int) (x:Int):Int:=if h:∃r,Rt p x r then h.choose else x
theorem mW {r:Int} (h:Rt p x r):IU p x=r:=by
 unfold IU;rw[dif_pos ⟨r,h⟩];exact(Exists.choose_spec (p:=λr=>Rt p x r) ⟨r,h⟩).det h
theorem Rr {b:Int->Nat} (a:Fo p b) (c:0<=x) (d:x<(p.length:Int)):Rt p x (IU p x):=by
 obtain⟨r,h,-,-⟩:=a.root c d;rw[mW h];exact h
noncomputable def quo (p ty:List Int) (ar:List (List (Int×Int))):List AD:=(List.range p.length).map λk=>(ty.getD k 0,(ar.getD k []).map λa=>(a.1,IU p a.2))
theorem Tw (p ty:List Int) (ar:List (List (Int×Int))):(quo p ty ar).length=p.length:=by simp[quo]
theorem QY {ty:List Int} {ar:List (List (Int×Int))} {n:Int} (n0:0<=n) (n1:n<(p.length:Int)):(quo p ty ar).getD n.toNat (0,[])=(ty.getD n.toNat 0,(ar.getD n.toNat []).map λa=>(a.1,IU p a.2)):=by
 unfold quo;rw[AS,AAR,ABF O1];rfl
theorem Yj {α β:Type} (f:α->β) {l:List α} (d:α) (e:β) {i:Nat} (h:i<l.length):(l.map f).getD i e=f (l.getD i d):=by
 simp[AS,As h]
structure A9L (f:List AD) (r:Int) (o:List Int):Prop where
 ok:M9 f o
 zero:o.getD 0 0=r/\0<o.length
 cl:∀n∈o,∀a∈Au f n,a.2∈o
theorem Km (hf:AX f) {r:Int} (b:0<=r) (c:r<(f.length:Int)):A9L f r (Ei f f.length [] r):=by
 have h1:=GQ hf f.length [] r (Kk f) b c sc;have d:=Ol hf f.length [] r (Kk f) b c sc sc;have e:[r] <+: Ei f f.length [] r:=by
  obtain⟨k,hk⟩:∃k,f.length=k+1:=⟨f.length-1,O1⟩;rw[hk,Cn];exact(IB (GQ hf k) _ _ (λa ha=>Cc hf ha) ((Kk f).snoc b c sc)).2
 refine⟨h1.1,?_,λn hn a ha=>?_⟩
 .obtain⟨t,ht⟩:=e;rw[<-ht];exact⟨rfl,sc⟩
 rcases d.2 n hn with h|h
 .cases h
 exact h a ha
theorem MZ {r:Int} {i:Nat} (hi:i<(Ei f f.length [] r).length):(AU f r).getD i (0,[])=Jl f (Ei f f.length [] r) ((Ei f f.length [] r).getD i 0):=by
 unfold AU;simp[AS,hi]
theorem Ma (f:List AD) (r:Int):(AU f r).length=(Ei f f.length [] r).length:=by simp[AU]
def Ex (f g:List AD):List AD:=f++g.map λx=>(x.1,Dy f.length x.2)
theorem Hh (f g:List AD):(Ex f g).length=f.length+g.length:=by simp[Ex]
theorem Ox (a:0<=x) (b:x<(f.length:Int)):(Ex f g).getD x.toNat (0,[])=f.getD x.toNat (0,[]):=by
 unfold Ex;rw[AS,AS,AAm O1]
theorem Mb {y:Int} (a:0<=y) (b:y<(g.length:Int)):(Ex f g).getD ((f.length:Int)+y).toNat (0,[])=((g.getD y.toNat (0,[])).1,Dy f.length (g.getD y.toNat (0,[])).2):=by
 unfold Ex;have e:((f.length:Int)+y).toNat=f.length+y.toNat:=by omega
 rw[e,AS,AAa O1,ACh];rw[<-AS];exact Yj (λx:AD=>(x.1,Dy f.length x.2)) (0,[]) (0,[]) O1
theorem qP {n:Nat} {y:Int} (h:EG n p [] x y):IU p x=IU p y:=by
 induction h with
 | cls _ _ _ _ h g=>rw[mW h,mW g]
 | wt h=>cases h
 | symm _ a=>exact a.symm
 | trans _ _ b c=>exact b.trans c
noncomputable abbrev Rs (p ty:List Int) (ar:List (List (Int×Int))):List Int:=Ei (quo p ty ar) (quo p ty ar).length [] (IU p 0)
structure A6f (h:AG) (N:List AD) (P:List (Int×Int)) (U:List AD) (v:Int->Int):Prop where
 good:AX U
 pos:0<U.length
 str:∀x∈U,W5 x.2
 feat:∀x∈U,∀a∈x.2,a.1∈Kl N
 ty:Ck h U
 ro:RO U
 zero:v 0=0
 proj:vN h N P U v
 least:∀X w,Ck h X->vN h N P X w->w 0=0->∃m,TE h U X m
 len:U.length<=N.length
section
variable {h:AG} {N:List AD} {P:List (Int×Int)} {p ty:List Int} {ar:List (List (Int×Int))}
theorem Ru (a:JI h N P p ty ar []) (b:AX (quo p ty ar)) (c:0<N.length):A9L (quo p ty ar) (IU p 0) (Rs p ty ar):=by
 obtain⟨d,fo⟩:=a.fo;have lp:=a.lp;have:=IJ fo (x:=0) O1 O1 (Rr fo O1 O1);exact Km b this.1 (by rw[Tw];exact this.2)
theorem WI (d:JI h N P p ty ar []) (c:AX (quo p ty ar)) (b:0<N.length):IU p 0∈Rs p ty ar:=by
 have a:=Ru d c b;have:=AF (Rs p ty ar) 0 a.zero.2;rw[a.zero.1]at this;exact this
theorem A1u (a:JI h N P p ty ar []) {x y:Int} (b:(x,y)∈P) (c:IU p x∈Rs p ty ar):IU p y∈Rs p ty ar:=by
 rw[<-qP (a.sp (x,y) b)];exact c
theorem mX (b:JI h N P p ty ar []) (f:AX (quo p ty ar)) (e:0<N.length) {x:Int} (c:0<=x) (j:x<(N.length:Int)) (i:IU p x∈Rs p ty ar) {a:Int×Int} (ha:a∈Au N x):IU p a.2∈Rs p ty ar:=by
 obtain⟨k,fo⟩:=b.fo;have lp:=b.lp;obtain⟨t,ht,g⟩:=b.sa x _ c j (Rr fo c O1) a ha;rw[qP g];have d:=IJ fo c O1 (Rr fo c O1);refine(Ru b f e).cl _ i (a.1,IU p t) ?_;rw[Au,QY d.1 d.2];exact GO.2 ⟨(a.1,t),ht,rfl⟩
def vO (N:List AD) (k:Nat) (g:List AD):Prop:=∀i:Int,0<=i->i<(g.length:Int)->(k:Int)+i<(N.length:Int)/\N.getD ((k:Int)+i).toNat (0,[])=((g.getD i.toNat (0,[])).1,Dy k (g.getD i.toNat (0,[])).2)
theorem WJ (m:JI h N P p ty ar []) (f:AX (quo p ty ar)) (e:0<N.length) {g:List AD} (l:vO N k g) (r:RO g) (hk:IU p (k:Int)∈Rs p ty ar):∀(n:Nat) (i:Int),i.toNat<=n->0<=i->i<(g.length:Int)->IU p ((k:Int)+i)∈Rs p ty ar:=by
 intro n;induction n with
 | zero =>
  intro i hn o c;have:i=0:=by omega
  subst this;rw[ACR];exact hk
 | succ n q =>
  intro i hn o c;by_cases hi:i=0
  .subst hi;rw[ACR];exact hk
  obtain⟨j,d,s,a,ha,rfl⟩:=r i O1 c;have b:=l j d O1;have:=mX m f e (x:=(k:Int)+j) O1 b.1 (q j O1 d O1) (a:=(a.1,a.2+(k:Int))) (by
   rw[Au,b.2];exact GO.2 ⟨a,ha,rfl⟩)
  rw[Int.add_comm];exact this
end
theorem gP {N:List AD} {P:List (Int×Int)} {f:List AD} {v:Int->Int} (e:vN h N P f v) {g:List AD} (d:vO N k g) (j:v (k:Int)=0):TE h g f λi=>v ((k:Int)+i):=by
 refine⟨by show v ((k:Int)+0)=0;rw[ACR];exact j,λi b c=>?_,λi b c=>?_,λi b c a ha=>?_⟩
 .exact e.rng _ O1 (d i b c).1
 .have:=e.ty _ O1 (d i b c).1;rw[(d i b c).2]at this;exact this
 have:=e.arc _ O1 (d i b c).1 (a.1,a.2+(k:Int)) (by
  rw[Au,(d i b c).2];exact GO.2 ⟨a,ha,rfl⟩)
 rw[Int.add_comm (k:Int) a.2];exact this
theorem Tx {g X:List AD} (a:TE h g X m):vN h g [] X m:=⟨a.rng,a.ty,a.arc,λq b=>by cases b⟩
theorem gQ {X:List AD} (hf:AX f) (m:AX g) {v:Int->Int} (h1:vN h f [] X v) (i:vN h g [] X w):vN h (Ex f g) [] X (λx=>if x<(f.length:Int) then v x else w (x-(f.length:Int))):=by
 have j:=Hh f g;refine⟨λx d e=>?_,λx d e=>?_,λx d e a ha=>?_,λq n=>by cases n⟩
 .rw[j]at e;show _/\_;try simp only
  split
  .exact h1.rng x d a4
  exact i.rng _ O1 O1
 .rw[j]at e;try simp only
  by_cases c:x<(f.length:Int)
  .rw[At c,Ox d c];exact h1.ty x d c
  rw[An c];have:=Mb (f:=f) (g:=g) (y:=x-(f.length:Int)) O1 O1;rw[show (f.length:Int)+(x-(f.length:Int))=x by omega]at this;rw[this];exact i.ty _ O1 O1
 rw[j]at e;try simp only
 by_cases c:x<(f.length:Int)
 .rw[At c];rw[Au,Ox d c]at ha;have l:=Cc hf ha;rw[At l.2];exact h1.arc x d c a ha
 rw[An c];have:=Mb (f:=f) (g:=g) (y:=x-(f.length:Int)) O1 O1;rw[show (f.length:Int)+(x-(f.length:Int))=x by omega]at this;rw[Au,this]at ha;obtain⟨b,k,rfl⟩:=GO.1 ha;have l:=Cc m k;rw[An a2];try simp only
 rw[show b.2+(f.length:Int)-(f.length:Int)=b.2 by omega];exact i.arc _ O1 O1 b k
theorem A1v {N X:List AD} {P:List (Int×Int)} {v:Int->Int} (h1:vN h N [] X v) (a:∀q∈P,v q.1=v q.2):vN h N P X v:=⟨h1.rng,h1.ty,h1.arc,a⟩
theorem Yk {N f g:List AD} (h:vO f k N):vO (Ex f g) k N:=by
 intro i a b;have:=h i a b;rw[Hh,Ox O1 this.1];exact⟨O1,this.2⟩
theorem Yl:vO f 0 f:=by
 intro i c b;rw[show ((0:Nat):Int)+i=i by omega];refine⟨b,?_⟩;have:Dy 0 (f.getD i.toNat (0,[])).2=(f.getD i.toNat (0,[])).2:=by
  unfold Dy;rw[AAe (g:=id) (λa _=>by show (a.1,a.2+((0:Nat):Int))=a;rw[Int.natCast_zero,ACR]),List.map_id]
 rw[this]
theorem WK:vO (Ex f g) f.length g:=by
 intro i a b;rw[Hh,Mb a b];exact⟨O1,rfl⟩
set_option maxHeartbeats 1000000 in
theorem A7P {h:AG} {N:List AD} {P:List (Int×Int)} {p ty:List Int} {ar:List (List (Int×Int))} (L:JI h N P p ty ar []) (E:AX (quo p ty ar)) (O:0<N.length) (H:∀x,0<=x->x<(N.length:Int)->IU p x∈Rs p ty ar) :
  A6f h N P (AU (quo p ty ar) (IU p 0)) (λx=>FQ (Rs p ty ar) (IU p x)):=by
 have s:=Ru L E O
 have af:=WI L E O
 obtain⟨nty,⟨au,fo⟩,lp,lt,la,wr,tyr,arr,srt,sp,st,sa,co⟩:=L
 have aj:=Tw p ty ar
 have w:=λ{x:Int} (C:0<=x) (D:x<(N.length:Int))=>Rr fo C (by rw[lp];exact D)
 have J:=λ{x:Int} (C:0<=x) (D:x<(N.length:Int))=>IJ fo C (by rw[lp];exact D) (w C D)
 have K:=Ma (quo p ty ar) (IU p 0)
 have aa:=λi=>MZ (f:=quo p ty ar) (r:=IU p 0) (i:=i)
 have M:∀x:Int,0<=x->x<(N.length:Int)->Au (quo p ty ar) x=(ar.getD x.toNat []).map λa=>(a.1,IU p a.2):=λx C D=>by
  rw[Au,QY C (by rw[lp];exact D)]
 have u:∀x∈Rs p ty ar,(0<=x/\x<(N.length:Int))/\QV p x=x:=by
  have ag:Iso (quo p ty ar) (quo p ty ar) id (λx=>(0<=x/\x<(N.length:Int))/\QV p x=x):=by
   refine⟨λi _=>by simp,λi hi a ha=>?_,λi j _ _ e=>e⟩
   rw[M i hi.1.1 hi.1.2]at ha
   obtain⟨b,m,rfl⟩:=List.mem_map.1 ha
   have c:=(arr _ b m).1
   have:=J c.1 c.2
   rw[lp]at this
   exact⟨this,(w c.1 c.2).root⟩
  have R:=J (x:=0) O1 O1
  rw[lp]at R
  exact(aJ ag _ [] _ (λx d=>by cases d) ⟨R,(w (x:=0) O1 O1).root⟩).2
 have ah:=λ(q:Nat)=>WH E (quo p ty ar).length [] (IU p 0) (Kk _) (J (x:=0) O1 O1).1 (by rw[aj];exact(J (x:=0) O1 O1).2) sc q
 unfold Rs at s af H u ⊢
 generalize an:AU (quo p ty ar) (IU p 0)=F at *
 generalize ap:Ei (quo p ty ar) (quo p ty ar).length [] (IU p 0)=o at *
 have z:∀i:Int,0<=i->i<(o.length:Int)->o.getD i.toNat 0∈o/\FQ o (o.getD i.toNat 0)=i:=λi g l=>by
  refine⟨AF o 0 O1,?_⟩
  rw[Js s.ok.nd O1]
  omega
 have A:∀x∈o,F.getD (FQ o x).toNat (0,[])=(ty.getD x.toNat 0,(ar.getD x.toNat []).map λa=>(a.1,FQ o (IU p a.2))):=λx d=>by
  have al:=F3 d
  have c:=(u x d).1
  rw[aa _ O1,al.2.2]
  unfold Jl
  rw[QY c.1 (by rw[lp];exact c.2),List.map_map]
  rfl
 have Q:∀x∈o,∀a∈ar.getD x.toNat [],IU p a.2∈o:=λx d a ha=>by
  have c:=(u x d).1
  exact s.cl x d (a.1,IU p a.2) (by rw[M x c.1 c.2];exact List.mem_map.2 ⟨a,ha,rfl⟩)
 have S:∀k,W5 ((ar.getD k []).map λa=>(a.1,FQ o (IU p a.2))):=λk=>by
  unfold W5
  rw[List.pairwise_map]
  exact srt k
 have G:∀x∈F,∃y∈o,x=(ty.getD y.toNat 0,(ar.getD y.toNat []).map λa=>(a.1,FQ o (IU p a.2))):=λx d=>by
  obtain⟨i,hi,rfl⟩:=CM (0,[]) d
  have h1:=z (i:Int) O1 O1
  refine⟨_,h1.1,?_⟩
  rw[<-A _ h1.1,h1.2]
  rw[Int.toNat_natCast]
 have ae:FQ o (IU p 0)=0:=by
  have:=Js s.ok.nd s.zero.2
  rw[s.zero.1]at this
  exact this
 have ao:=s.ok.len
 have am:=E.1
 refine⟨⟨O1,λx d=>?_⟩,by rw[K];exact s.zero.2,λx d=>?_,λx d a ha=>?_,λx d=>?_,λi g l=>?_,ae,⟨λi g l=>?_,λi g l=>?_,λi g l a ha=>?_,λq ai=>?_⟩,λX v ab T ak=>?_,O1⟩
 .obtain⟨y,B,rfl⟩:=G x d
  have c:=(u y B).1
  refine⟨?_,λa ha=>?_⟩
  .have:=(E.2 _ (AF (quo p ty ar) (0,[]) (k:=y.toNat) O1)).1
   rw[QY c.1 (by rw[lp];exact c.2),List.length_map]at this
   simp only[List.length_map]
   exact this
  obtain⟨b,m,rfl⟩:=List.mem_map.1 ha
  have:=F3 (Q y B b m)
  rw[K]
  exact⟨this.1,this.2.1⟩
 .obtain⟨y,B,rfl⟩:=G x d
  exact S _
 .obtain⟨y,B,rfl⟩:=G x d
  obtain⟨b,m,rfl⟩:=List.mem_map.1 ha
  exact(arr _ b m).2
 .obtain⟨y,B,rfl⟩:=G x d
  have c:=(u y B).1
  exact tyr y c.1 c.2
 . -- in order
  obtain⟨j,aq,a,ha,e⟩:=ah i.toNat (by simp only[List.length_nil];omega) O1
  have h1:=z (j:Int) O1 O1
  have W:=z i O1 O1
  rw[Int.toNat_natCast]at h1
  have c:=(u _ h1.1).1
  rw[M _ c.1 c.2]at ha
  obtain⟨b,m,rfl⟩:=List.mem_map.1 ha
  refine⟨(j:Int),O1,O1,(b.1,FQ o (IU p b.2)),?_,?_⟩
  .have:=A _ h1.1
   rw[h1.2]at this
   rw[Au,this]
   exact List.mem_map.2 ⟨b,m,rfl⟩
  show FQ o (IU p b.2)=i
  simp only at e
  rw[e,W.2]
 .have:=F3 (H i g l)
  rw[K]
  exact⟨this.1,this.2.1⟩
 .show Ah h _ (F.getD (FQ o (IU p i)).toNat (0,[])).1=true
  rw[A _ (H i g l)]
  exact st i _ g l (w g l)
 .obtain⟨t,ht,ad⟩:=sa i _ g l (w g l) a ha
  have e:=qP ad
  show BU (Au F (FQ o (IU p i))) a.1=FQ o (IU p a.2)
  rw[e,Au,A _ (H i g l)]
  exact QU (S _) (a:=(a.1,FQ o (IU p t))) (List.mem_map.2 ⟨(a.1,t),ht,rfl⟩)
 .show FQ o (IU p q.1)=FQ o (IU p q.2)
  rw[qP (sp q ai)]
 obtain⟨c1,c2,U,V⟩:=co X v ab T
 refine⟨λi=>v (o.getD i.toNat 0),?_,λi g l=>?_,λi g l=>?_,λi g l a ha=>?_⟩
 .show v (o.getD 0 0)=0
  rw[s.zero.1,<-c1 0 _ O1 O1 (w O1 O1)]
  exact ak
 .have n:=z i g O1
  have c:=(u _ n.1).1
  exact T.rng _ c.1 c.2
 .have n:=z i g O1
  have c:=u _ n.1
  have hn:=A _ n.1
  rw[n.2]at hn
  rw[hn]
  exact U _ c.1.1 c.1.2 c.2
 have n:=z i g O1
 have c:=u _ n.1
 have hn:=A _ n.1
 rw[n.2]at hn
 rw[Au,hn]at ha
 obtain⟨b,m,rfl⟩:=List.mem_map.1 ha
 have Y:=V _ c.1.1 c.1.2 c.2 b m
 have I:=(arr _ b m).1
 have Z:=F3 (Q _ n.1 b m)
 simp only
 rw[Z.2.2,<-c1 b.2 _ I.1 I.2 (w I.1 I.2)]
 exact Y
structure VF (h:AG) (f:List AD):Prop where
 good:AX f
 pos:0<f.length
 ty:Ck h f
 str:∀x∈f,W5 x.2
 ft:∀x∈f,∀a∈x.2,0<=a.1/\a.1<(h.2.length:Int)
 can:AU f 0=f
 ro:RO f
structure HU (h:AG):Prop where
 ok:FC h
 inj:JF h
 ft:h.2.length<=64
def gR (U:List AD):Prop:=(Ei U U.length [] 0).length=U.length/\∀k,(hk:k<(Ei U U.length [] 0).length)->(Ei U U.length [] 0)[k]=(k:Int)
theorem aK {Q:List AD} (m:AX Q) {r:Int} (L:0<=r) (M:r<(Q.length:Int)):AX (AU Q r)/\gR (AU Q r):=by
 have d:=Km m L M;have D:=Ma Q r;have C:=λi=>MZ (f:=Q) (r:=r) (i:=i);generalize O:AU Q r=c at *;generalize H:Ei Q Q.length [] r=o at *;have R:=d.ok.len;have N:=m.1;have g:∀i:Int,0<=i->i<(o.length:Int)->o.getD i.toNat 0∈o/\FQ o (o.getD i.toNat 0)=i:=λi J K=>by
  refine⟨AF o 0 O1,?_⟩;rw[Js d.ok.nd O1];omega
 have p:∀i:Int,0<=i->i<(o.length:Int)->Au c i=(Au Q (o.getD i.toNat 0)).map (NS o):=λi J K=>by
  rw[Au,C i.toNat O1];rfl
 have F:Iso c Q (λi=>o.getD i.toNat 0) (λi=>0<=i/\i<(o.length:Int)):=by
  refine⟨λi hi=>?_,λi hi a ha=>?_,λi j hi B e=>?_⟩
  .rw[p i hi.1 hi.2,ABm];have:∀a∈Au Q (o.getD i.toNat 0),((λa:Int×Int=>(a.1,o.getD a.2.toNat 0))∘NS o) a=a:=λa ha=>by
    show (a.1,o.getD (FQ o a.2).toNat 0)=a;rw[(F3 (d.cl _ (g i hi.1 hi.2).1 a ha)).2.2]
   rw[AAe this,List.map_id']
  .rw[p i hi.1 hi.2]at ha;obtain⟨b,q,rfl⟩:=GO.1 ha;have:=F3 (d.cl _ (g i hi.1 hi.2).1 b q);exact⟨this.1,this.2.1⟩
  have h1:=(g i hi.1 hi.2).2;have h:=(g j B.1 B.2).2;have e:o.getD i.toNat 0=o.getD j.toNat 0:=e;rw[<-h1,<-h,e]
 have h0:(0:Int)<(o.length:Int):=by have:=d.zero.2;omega
 have v:AX c:=by
  refine⟨O1,λx u=>?_⟩;obtain⟨i,hi,rfl⟩:=CM (0,[]) u;have h1:=p (i:Int) O1 O1;rw[Au,jC]at h1;rw[h1];have t:=g (i:Int) O1 O1;rw[jC]at t;have S:=d.ok.rng _ t.1;refine⟨?_,λa ha=>?_⟩
  .rw[Of];exact(m.2 _ (AF Q (0,[]) (k:=(o.getD i 0).toNat) O1)).1
  obtain⟨b,q,rfl⟩:=GO.1 ha;have:=F3 (d.cl _ t.1 b q);rw[D];exact⟨this.1,this.2.1⟩
 have s:=aJ F Q.length [] 0 (λx u=>by cases u) ⟨O1,h0⟩;have I:o.getD (0:Int).toNat 0=r:=d.zero.1;rw[ABK,I,H]at s;have A:=gL v (n:=0) O1 O1 (Q.length-c.length);rw[show c.length+(Q.length-c.length)=Q.length by omega]at A;rw[A]at s;unfold gR;refine⟨v,?_⟩;generalize Ei c c.length [] 0=l at *;obtain⟨y,E⟩:=s;have P:l.length=o.length:=by
  have:=ABj List.length y;rw[Of]at this;exact this.symm
 have G:∀k,(hk:k<l.length)->l[k]=(k:Int):=λk hk=>by
  have w:=E l[k] (AA5 hk);have h1:=(g l[k] w.1 w.2).2;have h:=(g (k:Int) O1 O1).2;have e:o.getD k 0=o.getD (l[k]).toNat 0:=by
   exact(ABj (λz:List Int=>z.getD k 0) y).trans (by simp[AS,hk])
  rw[jC,e]at h;rw[<-h1,h]
 exact⟨O1,G⟩
theorem WL {b:List AD} (g:AX b) (k:gR b):AU b 0=b:=by
 unfold AU;obtain⟨q,c⟩:=k;generalize Ei b b.length [] 0=l at *;have o:l.Nodup:=by
  unfold List.Nodup;rw[iN];intro i j hi n p e;rw[c i hi,c j n]at e;omega
 have m:∀x,0<=x->x<(l.length:Int)->FQ l x=x:=λx r s=>by
  have:=Js o (i:=x.toNat) O1;have e:l.getD x.toNat 0=x:=by
   rw[AS,As O1];show l[x.toNat]=x;rw[c _ O1];omega
  rw[e]at this;rw[this];omega
 apply AAL
 .rw[Of];omega
 intro i h1 d;rw[ACc,c i (by simpa using h1)];have f:b.getD (i:Int).toNat (0,[])=b[i]:=by simp[AS,d]
 unfold Jl;rw[f];have:∀a∈b[i].2,NS l a=a:=λa ha=>by
  have h:=(g.2 _ (AA5 d)).2 a ha;unfold NS;rw[m a.2 h.1 O1]
 rw[AAe this,List.map_id']
theorem gS {Q:List AD} (a:AX Q) {r:Int} (b:0<=r) (c:r<(Q.length:Int)):AU (AU Q r) 0=AU Q r :=
 WL (aK a b c).1 (aK a b c).2
theorem A1w {a X:List AD} (g:RO a) {f:Int->Int} (h1:TE h a X m) (b:TE h a X f):∀(k:Nat) (i:Int),i.toNat<=k->0<=i->i<(a.length:Int)->m i=f i:=by
 intro k;induction k with
 | zero =>
  intro i hk l e;have:i=0:=by omega
  subst this;rw[h1.zero,b.zero]
 | succ k n =>
  intro i hk l e;by_cases hi:i=0
  .subst hi;rw[h1.zero,b.zero]
  obtain⟨j,c,o,x,d,rfl⟩:=g i O1 e;rw[<-h1.arc j c O1 x d,<-b.arc j c O1 x d,n j O1 c O1]
theorem WM (hk:FC h) {a b:List AD} (w:AX a) (ta:Ck h a) (tb:Ck h b) (A:Ck h c) {n:Int->Int} (h1:TE h a b m) (j:TE h b c n):TE h a c λi=>n (m i):=by
 refine⟨by show n (m 0)=0;rw[h1.zero,j.zero],λi f g=>?_,λi f g=>?_,λi f g x p=>?_⟩
 .have:=h1.rng i f g;exact j.rng _ this.1 this.2
 .have d:=h1.rng i f g;have B:=j.rng _ d.1 d.2;have r:=ta _ (AF a (0,[]) (k:=i.toNat) O1);have s:=tb _ (AF b (0,[]) (k:=(m i).toNat) O1);have t:=A _ (AF c (0,[]) (k:=(n (m i)).toNat) O1);exact Ow hk r.1 r.2 s.1 s.2 t.1 t.2 (h1.ty i f g) (j.ty _ d.1 d.2)
 have d:=h1.rng i f g;have q:=Cc w p;have o:=h1.arc i f g x p;obtain⟨y,z,u,v⟩:=gM (l:=Au b (m i)) (e:=x.1) (by rw[o];exact(h1.rng _ q.1 q.2).1);have:=j.arc (m i) d.1 d.2 y z;rw[u,v,o]at this;exact this
theorem aL {a:List AD} (hs:∀x∈a,W5 x.2) (n:Int):W5 (Au a n):=by
 unfold Au;by_cases h:n.toNat<a.length
 .exact hs _ (AF a (0,[]) h)
 rw[AS,oF O1];exact .nil
theorem A1x {a:List AD} (hs:∀x∈a,W5 x.2):TE h a a id :=
 ⟨rfl,λi c d=>⟨c,d⟩,λi _ _=>Ro h _,λi _ _ x b=>QU (aL hs i) b⟩
structure mY (h:AG) (a b U:List AD):Prop where
 vf:VF h U
 left:∃m,TE h a U m
 right:∃m,TE h b U m
 least:∀X,Ck h X->∀m1,TE h a X m1->∀m2,TE h b X m2->∃m,TE h U X m
 len:U.length<=a.length+b.length
open Classical in
noncomputable def Kn (h:AG) (a b:List AD):List AD×Bool:=if H:∃U,mY h a b U then (H.choose,true) else ([],false)
theorem gT {a b:List AD} (h1:(Kn h a b).2=true):mY h a b (Kn h a b).1:=by
 unfold Kn at h1 ⊢;split at h1
 .rename_i H;rw[dif_pos H];exact H.choose_spec
 cases h1
theorem WN {e:Int} (h:e∈Kl f):∃x∈f,∃a∈x.2,a.1=e:=by
 unfold Kl at h;obtain⟨x,c,b⟩:=AB9.1 h;obtain⟨a,ha,e⟩:=GO.1 b;exact⟨x,c,a,ha,e⟩
theorem A7Q {N:List AD} {P:List (Int×Int)} {ty:List Int} {ar:List (List (Int×Int))} (d:JI h N P p ty ar []) (g:AX (quo p ty ar)) (m:0<N.length) (j:∀x∈N,∀a∈x.2,0<=a.1/\a.1<(h.2.length:Int)) {v:Int->Int} (c:A6f h N P (AU (quo p ty ar) (IU p 0)) v):VF h (AU (quo p ty ar) (IU p 0)):=by
 have f:0<=IU p 0/\IU p 0<((quo p ty ar).length:Int):=by
  obtain⟨n,fo⟩:=d.fo;have:=d.lp;have:=IJ fo (x:=0) O1 O1 (Rr fo O1 O1);rw[Tw];exact this
 refine⟨c.good,c.pos,c.ty,c.str,λx k a ha=>?_,gS g f.1 f.2,c.ro⟩;obtain⟨y,l,b,i,e⟩:=WN (c.feat x k a ha);rw[<-e];exact j y l b i
theorem vP (hf:VF h f) (e:VF h g):∀x∈Ex f g,∀a∈x.2,0<=a.1/\a.1<(h.2.length:Int):=by
 intro x c;unfold Ex at c;rcases If.1 c with c|c
 .exact hf.ft x c
 obtain⟨y,i,rfl⟩:=GO.1 c;intro a ha;obtain⟨b,d,rfl⟩:=GO.1 ha;exact e.ft y i b d
theorem A4K (hf:VF h f) (i:VF h g) {ty:List Int} {ar:List (List (Int×Int))} (b:JI h (Ex f g) [(0,(f.length:Int))] p ty ar []) (d:AX (quo p ty ar)):mY h f g (AU (quo p ty ar) (IU p 0)):=by
 have v:=hf.pos;have u:=Hh f g;have c:0<(Ex f g).length:=by omega
 have h0:=WI b d c;have l:=WJ b d c (Yk (g:=g) Yl) hf.ro h0;have n:=WJ b d c (WK (f:=f)) i.ro (A1u b sc h0);have a:=A7P b d c λx t w=>by
  by_cases o:x<(f.length:Int)
  .have:=l x.toNat x (On _) t o
   rwa [show ((0:Nat):Int)+x=x by omega]at this
  have:=n _ (x-(f.length:Int)) (On _) O1 O1
  rwa [show (f.length:Int)+(x-(f.length:Int))=x by omega]at this
 refine⟨A7Q b d c (vP hf i) a,⟨_,gP a.proj (Yk (g:=g) Yl) a.zero⟩,⟨_,gP a.proj (WK (f:=f)) (by rw[<-a.proj.eq (0,(f.length:Int)) sc];exact a.zero)⟩,λX k r h1 s j=>?_,by have:=a.len;omega⟩;refine a.least X _ k (A1v (gQ hf.good i.good (Tx h1) (Tx j)) λq m=>?_) ?_
 .have e:q=(0,(f.length:Int)):=by simpa using m
  subst e;try simp only
  rw[At O1,An O1,Int.sub_self,h1.zero,j.zero]
 show (if (0:Int)<(f.length:Int) then r 0 else s (0-(f.length:Int)))=0;rw[At O1];exact h1.zero
theorem vQ {n k:Nat} (h:k<n):(So 0 n).getD k 0=(k:Int):=by
 unfold So;rw[AS,AAR,ABF h];show ((0+k:Nat):Int)=k;rw[AAY]
theorem Mc {n:Nat} (a:0<=x) (b:x<(n:Int)):QV (So 0 n) x=x:=by
 unfold QV;rw[vQ O1];omega
def aM (N:List AD):List Int:=N.map (·.1)
def qQ (N:List AD):List (List (Int×Int)):=N.map (·.2)
theorem Oy (N:List AD) (k:Nat):(aM N).getD k 0=(N.getD k (0,[])).1:=by
 unfold aM;rw[AS,AAR,AS];cases N[k]?<;>rfl
theorem NI (N:List AD) (k:Nat):(qQ N).getD k []=(N.getD k (0,[])).2:=by
 unfold qQ;rw[AS,AAR,AS];cases N[k]?<;>rfl
theorem aN {n:Nat} {r:Int} (a:0<=x) (b:x<(n:Int)) (h:Rt (So 0 n) x r):r=x:=h.det (.base (Mc a b))
theorem A4L {N:List AD} (l:AX N) (ht:Ck h N) (hs:∀x∈N,W5 x.2):JI h N [] (So 0 N.length) (aM N) (qQ N) []:=by
 have f:(So 0 N.length).length=N.length:=vM 0 N.length;refine⟨ht,⟨λ_=>0,λn n0 n1=>?_,λn n0 n1 hn=>?_⟩,f,by simp[aM],by simp[qQ],λw g=>(by cases g),λx c d=>?_,λk a ha=>?_,λk=>?_,λq o=>(by cases o),λx r c d e=>?_,λx r c d e a ha=>?_,λX v p m=>?_⟩
 .rw[f]at n1 ⊢;rw[Mc n0 n1];exact⟨n0,n1⟩
 .rw[f]at n1;exact absurd (Mc n0 n1) hn
 .rw[Oy];exact ht _ (AF N (0,[]) O1)
 .rw[NI]at ha;refine⟨Jp l k a ha,?_⟩;by_cases hk:k<N.length
  .exact AB9.2 ⟨_,AF N (0,[]) hk,GO.2 ⟨a,ha,rfl⟩⟩
  rw[AS,oF O1]at ha;cases ha
 .rw[NI];have:=aL hs (k:Int)
  rwa [Au,jC]at this
 .rw[aN c d e,Oy];exact Ro h _
 .rw[aN c d e,NI];have b:=Cc l ha;exact⟨a.2,ha,.cls b.1 b.2 b.1 b.2 (.base (Mc b.1 b.2)) (.base (Mc b.1 b.2))⟩
 refine⟨λx r c d e=>by rw[aN c d e],λw g=>(by cases g),λr i j _=>?_,λr i j _ a ha=>?_⟩
 .rw[Oy];exact m.ty r i j
 rw[NI]at ha;exact m.arc r i j a ha
theorem mZ (hf:AX f) (d:AX g) (j:f.length+g.length<=100000):AX (Ex f g):=by
 have i:=Hh f g;refine⟨O1,λx c=>?_⟩;unfold Ex at c;rcases If.1 c with c|c
 .refine⟨(hf.2 x c).1,λa ha=>?_⟩;have:=(hf.2 x c).2 a ha;omega
 obtain⟨y,e,rfl⟩:=GO.1 c;refine⟨by simp only[Dy,Of];exact(d.2 y e).1,λa ha=>?_⟩;obtain⟨b,h,rfl⟩:=GO.1 ha;have:=(d.2 y e).2 b h;simp only;omega
theorem vR (hf:∀x∈f,W5 x.2) (b:∀x∈g,W5 x.2):∀x∈Ex f g,W5 x.2:=by
 intro x a;unfold Ex at a;rcases If.1 a with a|a
 .exact hf x a
 obtain⟨y,c,rfl⟩:=GO.1 a;unfold W5 Dy;rw[AAN];exact b y c
theorem A1y (hf:Ck h f) (b:Ck h g):Ck h (Ex f g):=by
 intro x a;unfold Ex at a;rcases If.1 a with a|a
 .exact hf x a
 obtain⟨y,c,rfl⟩:=GO.1 a;exact b y c
def vS (N:List AD):Prop:=∀x∈N,∀a∈x.2,0<=a.1/\a.1<64
theorem A1z (hf:vS f) (e:vS g):vS (Ex f g):=by
 intro x c;unfold Ex at c;rcases If.1 c with c|c
 .exact hf x c
 obtain⟨y,h,rfl⟩:=GO.1 c;intro a ha;obtain⟨b,d,rfl⟩:=GO.1 ha;exact e y h b d
theorem A1A (h:W5 l) (hf:∀a∈l,0<=a.1/\a.1<64):l.length<=64:=by
 have:=qO h (S:=(List.range 64).map λ(i:Nat)=>(i:Int)) (λa ha=>GO.2 ⟨a.1.toNat,oS.2 (by have:=hf a ha;omega),by have:=hf a ha;omega⟩)
 rwa [Of,ABT]at this
theorem vT {N:List AD} (h:vS N) {e:Int} (b:e∈Kl N):0<=e/\e<64:=by
 obtain⟨x,c,a,ha,rfl⟩:=WN b;exact h x c a ha
theorem A1B {N:List AD} {P:List (Int×Int)} {ty:List Int} {ar:List (List (Int×Int))} (c:JI h N P p ty ar []) (k:N.length<=100000) (hf:vS N):AX (quo p ty ar):=by
 have g:=Tw p ty ar;obtain⟨l,fo⟩:=c.fo;have lp:=c.lp;refine⟨O1,λx j=>?_⟩;obtain⟨i,hi,rfl⟩:=CM (0,[]) j;have e:=QY (p:=p) (ty:=ty) (ar:=ar) (n:=(i:Int)) O1 O1;rw[jC]at e;rw[e];refine⟨?_,λa ha=>?_⟩
 .simp only[Of];have:=A1A (c.srt i) (λa ha=>vT hf (c.arr i a ha).2);omega
 obtain⟨b,f,rfl⟩:=GO.1 ha;have d:=(c.arr i b f).1;have:=IJ fo (x:=b.2) d.1 O1 (Rr fo d.1 O1);rw[g];exact this
theorem VF.ft64 (b:VF h f) (hu:HU h):vS f:=λx c a ha=>by
 have h1:=b.ft x c a ha;have d:=hu.ft;omega
def A9M (d:List AJ) (o:List ByteArray) (i:Nat):Prop:=∀j,j<i->∀x∈d,Aa x.2.1 (o.getD j ByteArray.empty)=true->Aa o x.1=true
theorem A1C {c:ByteArray} {o:List ByteArray} {x:AJ} (h:Aa x.2.1 c=true):Aa (E8 c o x) x.1=true:=by grind [E8,OV,CD]
theorem Ym {c:ByteArray} {x:AJ} (h:Aa x.2.1 c=true):∀ {l:List AJ} {o:List ByteArray},x∈l->Aa (l.foldl (E8 c) o) x.1=true
 | [],_,a=>by cases a
 | y :: l,o,a=>by
  rw[OS];rcases By.1 a with rfl|a
  .grind [Hf,M7,A1C]
  exact Ym h a
theorem WO {d:List AJ}:∀ {n i:Nat} {o:List ByteArray},Zs d o->d.length<=n+i->A9M d o i->i<=o.length->∃m,A9M d (Cr d n i o) m/\(Cr d n i o).length<=m
 | 0,i,o,ha,f,a,hi=>⟨i,a,by
  have:=ha.len;show o.length<=i;omega⟩
 | n+1,i,o,ha,f,a,hi=>by
  unfold Cr;split
  .rename_i q;obtain⟨c,k⟩:=VR (o.getD i ByteArray.empty) (l:=d) (o:=o) (λ_ h=>h) ha;refine WO c O1 (λj p x b hs=>?_) O1;rw[RQ _ O1]at hs;by_cases e:j=i
   .subst e;exact Ym hs b
   exact Hf (λz g=>M7 g) (a j O1 x b hs)
  exact⟨i,a,O1⟩
theorem Rv {α:Type} {p:α->Bool}:∀ {l:List α},l.countP p=1->∀x∈l,p x=true->∀y∈l,p y=true->x=y
 | [],h,x,a,_,_,_,_=>by cases a
 | z :: l,h,x,a,d,y,b,e=>by
  rw[ABI]at h;by_cases c:p z=true
  .rw[At c]at h;grind
  rw[An c]at h;have a:x∈l:=by grind
  have b:y∈l:=by grind
  exact Rv O1 x a d y b e
theorem WP (s:ByteArray):∀(l:List AJ) (k:Nat),0<=C4 s k l->∃x∈l,AK x.1 s=true
 | [],k,h=>by
  simp only[C4]at h;omega
 | y :: l,k,h=>by
  simp only[C4]at h;split at h
  .rename_i e;exact⟨y,sc,e⟩
  obtain⟨x,a,e⟩:=WP s l (k+1) h;exact⟨x,by simp[a],e⟩
theorem m3 {d:List AJ} (t:BA d=0):∃r∈d,∀x∈d,Aa (Cs d r.1) x.1=true:=by
 obtain⟨hs,I,h1,hn,l⟩:=A2 t;have C:0<d.countP λx=>x.2.1.length==0:=by grind [H0]
 obtain⟨r,c,q⟩:=List.countP_pos_iff.1 C;refine⟨r,c,?_⟩;have D:=DU c;have u:Zs d [r.1]:=⟨λs hs=>by
  have:s=r.1:=by simpa using hs
  rw[this];exact D,sc⟩
 obtain⟨m,B,J⟩:=WO (d:=d) (n:=d.length) (i:=0) u O1 (λj A=>by omega) O1;have p:r.1∈Cr d d.length 0 [r.1]:=KY sc;have v:Cs d r.1=Jb (Cr d d.length 0 [r.1]):=by unfold Cs;rw[An O1]
 rw[v];generalize Cr d d.length 0 [r.1]=o at *;have key:∀(k:Nat) (x:AJ),x∈d->F6 d x.1<=k->Aa o x.1=true:=by
  intro k;induction k with
  | zero =>
   intro x a hk;by_cases g:x.2.1.length=0
   .have e:=Rv h1 x a (by simpa using g) r c q;rw[e];exact Fc p
   obtain⟨s,b⟩:∃s,s∈x.2.1:=ACz O1;have:=KX hn l a (Fc b);omega
  | succ k H =>
   intro x a hk;by_cases g:x.2.1.length=0
   .have e:=Rv h1 x a (by simpa using g) r c q;rw[e];exact Fc p
   obtain⟨s,b⟩:∃s,s∈x.2.1:=ACz O1;have E:=KX hn l a (Fc b);obtain⟨y,G,e⟩:=WP s d 0 (hs x a s b);rw[<-H5 d e]at E;obtain⟨z,h,f⟩:=aT.1 (H y G O1);obtain⟨j,A,rfl⟩:=CM ByteArray.empty h;refine B j O1 x a ?_;exact aT.2 ⟨s,b,B0 (BP f e)⟩
 intro x a;obtain⟨z,h,e⟩:=aT.1 (key _ x a (On _));obtain⟨w,F,f⟩:=aT.1 (P3 (o:=[]) h);exact aT.2 ⟨w,F,BP f e⟩
abbrev cnt (c:List Int):Nat:=(Hx c).length
theorem A1D {w:Int} (a:U64 w) {r:Nat} (d:r<64):A0f w (r:Int)=w.toNat.testBit r:=by
 have h0:=a.1;have h1:=a.2;have b:w.toNat / 2 ^ r<=w.toNat:=Nat.div_le_self _ _;have e:bZ .u64 w (r:Int)=((w.toNat / 2 ^ r:Nat):Int):=by
  unfold bZ;have c:min ((r:Int)).toNat IntKind.u64.bits=r:=by
   show min ((r:Int)).toNat 64=r;omega
  grind
 unfold A0f;rw[Nat.testBit_eq_decide_div_mod_eq,e];generalize w.toNat / 2 ^ r=z at *;rw[H3 ⟨O1,O1⟩ ⟨df,df⟩,jC,show (1:Int).toNat=1 from rfl,Nat.and_one_is_mod,ABW,AA9,IN];omega
theorem Tz {b:List Int} (d:H4 b) (i:Nat):S9 b (i:Int)=BK b i:=by
 have a:Int.tdiv (i:Int) 64=((i / 64:Nat):Int):=by rw[ABp O1];omega
 have c:Int.tmod (i:Int) 64=((i % 64:Nat):Int):=by rw[ABH O1];omega
 unfold S9 BK;rw[a,c,jC];by_cases hk:i / 64<b.length
 .rw[An (by rw[tO,IN,IN];omega),A1D (BQ d _) O1]
 rw[At (by rw[tO,IN,IN];omega),Gn hk];simp
theorem gU (c:List Int):(Hx c).Nodup:=by
 unfold Hx Ni List.Nodup;rw[AAN];refine List.Pairwise.imp (λh e=>h ?_) (List.Pairwise.filter _ List.nodup_range);exact Int.ofNat.inj e
theorem Yn {c:List Int} (b:H4 c):x∈Hx c↔∃i:Nat,x=(i:Int)/\BK c i=true:=by
 unfold Hx Ni;rw[GO];constructor
 .grind [Tz]
 rintro⟨i,rfl,a⟩;refine⟨i,ABe.2 ⟨oS.2 ?_,by rw[Tz b];exact a⟩,rfl⟩;refine DO λd=>?_;unfold BK at a;rw[Gn O1]at a;simp at a
theorem A7R {a b:List Int} (ha:H4 a) (d:H4 b) (h:∀i,BK a i=true->BK b i=true) (e:cnt b<=cnt a) (i:Nat) (hi:BK b i=true):BK a i=true:=by
 refine DO λhn=>?_;have c:(i:Int)∉Hx a:=λf=>by grind [Yn]
 have:=Rq (l:=(i:Int) :: Hx a) (l':=Hx b) (AAA.2 ⟨c,gU a⟩) λx c=>by grind [Yn]
 grind
theorem WQ (x:AR) (out:List AR):∀n,(Fd x out n=0->n=0\/Fy x (out.getD 0 c0)=true)/\∀k,Fd x out n=k+1->Fy x (out.getD k c0)=false
 | 0=>⟨λ_=>.inl rfl,λk h=>by simp[Fd]at h⟩
 | n+1=>by
  obtain⟨h1,a⟩:=WQ x out n;grind [Fd]
theorem gV {a b:AR} (h:Fy a b=true):cnt b.2<=cnt a.2:=by
 unfold Fy at h;grind
theorem aO {a b:AR} (h:Fy a b=false):cnt a.2<=cnt b.2:=by
 unfold Fy at h;grind
def HM (out:List AR):Prop:=∀y∈out,cnt y.2<=cnt (out.getD 0 c0).2
theorem A4M {out:List AR} (h:HM out) (x:AR):HM (Z1 out x):=by
 obtain⟨s1,s2⟩:=WQ x out out.length;have c:=fA x out out.length;intro y a;rw[fE]at a;unfold Z1;cases hk:Fd x out out.length with
 | zero =>
  rw[AB8,AAV,iS];have e:([x]++out).getD 0 c0=x:=rfl;rw[e];rcases a with rfl|a
  .exact On _
  have h1:=h y a;rcases s1 hk with e|e
  .grind
  exact gO h1 (gV e)
 | succ k =>
  have b:=aO (s2 k hk);rw[hk]at c;have e:(out.take (k+1)++[x]++out.drop (k+1)).getD 0 c0=out.getD 0 c0:=by grind
  rw[e];rcases a with rfl|a
  .exact gO b (h _ (Aw O1))
  exact h y a
theorem gW {d:List AJ}:∀ {l:List (List Int)} {o:List AR},HM o->HM (l.foldl (RY d) o)
 | [],_,h=>h
 | b :: l,o,h=>by
  rw[OS];exact gW (A4M h _)
def In (n:Nat) (c:List Int):Prop:=H4 c/\∀i,BK c i=true->i<n
theorem A7S (n:Nat):In n []:=⟨λx a=>(by cases a),λi hi=>by unfold BK at hi;simp at hi⟩
theorem A7T {n:Nat} {a b:List Int} (ha:In n a) (c:In n b):In n (ER a b) :=
 ⟨QE ha.1 c.1,λi hi=>by
  rw[QD ha.1 c.1,AT]at hi;exact ha.2 i hi.1⟩
theorem A4N {n:Nat} {l:List (List Int)} (h:∀c∈l,In n c) (k:Nat):In n (l.getD k []):=by grind [Aw,Rd,A7S]
theorem A4O {n:Nat} {l:List (List Int)} (h:∀c∈l,In n c) (i k:Nat):∀c∈GM l i k,In n c:=by grind [GM,ER,A7T,A4N]
theorem qR {q i:Nat}:∀ {n k:Nat} {l:List (List Int)},(∀c∈l,In q c)->∀c∈GN i n k l,In q c
 | 0,_,_,h=>h
 | n+1,k,l,h=>by
  unfold GN;split
  .exact qR (A4O h i k)
  exact h
theorem aP {q:Nat}:∀ {n i:Nat} {l:List (List Int)},(∀c∈l,In q c)->∀c∈H2 n i l,In q c
 | 0,_,_,h=>h
 | n+1,i,l,h=>by
  unfold H2;split
  .exact aP (qR h)
  exact h
def A9N (h:AG):Prop:=∀t,0<=t->t<(h.1.length:Int)->Ah h 0 t=true
theorem gX (d:List AJ):A9N (Ad d).1:=by
 have hk:=Gp d;unfold Ad at hk ⊢;split
 .intro t h0 h1;simp at h1;omega
 rename_i g;rw[An g]at hk;have g:(A8 d).2=0:=DO g;have A:Am d=0:=by grind [A8]
 obtain⟨M,-,-⟩:=CJ A;obtain⟨j,P,-⟩:=Bc M;obtain⟨-,z,-,hn,O⟩:=A2 j;have G:=Du d d.length;rw[oR]at G;have k:(AN d).length<=4096:=by omega
 obtain⟨r,I,N⟩:=m3 j;have a:∀c∈A0 (AY d),In (AN d).length c:=aP λc f=>by
  obtain⟨s,hs,rfl⟩:=GO.1 f;exact⟨(CE (d:=d) k s 0).2.1,λi hi=>((CE (d:=d) k s i).1.1 hi).1⟩
 obtain⟨s,hs,es⟩:=aT.1 (Od I);have J:s=r.1:=by grind [DV,P2]
 subst J;have n:Eb d (AN d) r.1∈A0 (AY d):=by
  have H:AY d <+: A0 (AY d):=QB 257 0 (AY d);exact H.subset (GO.2 ⟨_,hs,rfl⟩)
 have l:∀i,i<(AN d).length->BK (Eb d (AN d) r.1) i=true:=λi hi=>by grind [CE,DV,Aw]
 have B:HM (AM d):=gW λy L=>by cases L
 have q:=DW.2 ⟨_,n,rfl⟩;have u:0<(AM d).length:=ACm q;have p:=B _ q;obtain⟨b,m,h⟩:=DW.1 (Aw (d:=c0) u);rw[h]at p;have E:=A7R (a b m).1 (a _ n).1 (λi hi=>l i ((a b m).2 i hi)) p;have D:Be (Bo d) 0=b:=by
  show ((EM (AM d) _ _).getD 0 Rb).2.1=b;have:(EM (AM d) (A8 d).1 (AM d).length).getD 0 Rb=(((AM d).getD 0 c0).1,((AM d).getD 0 c0).2,YI (AM d) ((0:Nat):Int),(A8 d).1.getD 0 []):=by
   unfold EM;rw[AS,AAR,ABF u];rfl
  rw[this,h]
 have Q:(Bo d).1.length=(AM d).length:=Jj _ _ _;intro t v w;refine(B4 hk O1 (by show (0:Int)<((Bo d).1.length:Int);omega) v w).2 λi hi=>?_;show BK (Be (Bo d) 0) i=true;rw[D];refine E i (l i ?_);have C:=Ca v w;have F:Be (Bo d) t∈A0 (AY d):=by
  have e:((Bo d).1.map λt=>t.2.1)=(AM d).map λx=>x.2:=by
   show ((EM _ _ _).map λt=>t.2.1)=_;unfold EM;rw[ABm];apply AAL
   .simp
   intro i h1 z;simp[AS,show i<(AM d).length by simpa using h1]
  have o:Be (Bo d) t∈(Bo d).1.map λt=>t.2.1:=C;rw[e]at o;obtain⟨x,K,ex⟩:=GO.1 o;obtain⟨c,f,rfl⟩:=DW.1 K;rw[<-ex];exact f
 exact(a _ F).2 i hi
theorem WR (d:List AJ):Nd ((Ad d).1.1.map λt=>t.2.1):=by
 unfold Ad;split
 .exact⟨.nil,λc h=>(by cases h)⟩
 rename_i a;have a:(A8 d).2=0:=DO a;have g:Am d=0:=by
  unfold A8 at a;split at a
  .rename_i h;exact absurd a h
  rename_i h;exact DO h
 obtain⟨m,-,-⟩:=CJ g;obtain⟨f,o,-⟩:=Bc m;have hf:Nd (A0 (AY d)):=Tp (Re f);have e:((Bo d).1.map λt=>t.2.1)=(AM d).map λx=>x.2:=by
  show ((EM _ _ _).map λt=>t.2.1)=_;unfold EM;rw[ABm];apply AAL
  .simp
  intro i h1 n;simp[AS,show i<(AM d).length by simpa using h1]
 show Nd ((Bo d).1.map λt=>t.2.1);rw[e];refine⟨MN (by simpa using hf.nd),λc k=>?_⟩;obtain⟨x,l,rfl⟩:=GO.1 k;obtain⟨b,j,rfl⟩:=DW.1 l;exact hf.nrm b j
structure CI (n:Nat) (o:List Int) (ar:List (List (Int×Int))) (W:List (Int×Int)):Prop where
 lo:o.length=n
 la:ar.length=n
 rep:∀k:Nat,k<n->0<=o.getD k 0/\o.getD k 0<=(k:Int)/\o.getD (o.getD k 0).toNat 0=o.getD k 0
 wr:∀w∈W,(0<=w.1/\w.1<(n:Int))/\(0<=w.2/\w.2<(n:Int))
 ta:∀k,∀a∈ar.getD k [],0<=a.2/\a.2<(n:Int)
theorem CI.rng {n:Nat} {o:List Int} {ar:List (List (Int×Int))} (h:CI n o ar l) (c:0<=x) (d:x<(n:Int)):0<=o.getD x.toNat 0/\o.getD x.toNat 0<(n:Int)/\o.getD (o.getD x.toNat 0).toNat 0=o.getD x.toNat 0:=by
 obtain⟨h1,b,a⟩:=h.rep x.toNat O1;exact⟨h1,O1,a⟩
section
attribute [local go_sem] VP A0i
def A6h (b:List Int):List FB->Nat->Int×Bool
 | [],_=>(0,false)
 | t :: r,k=>if t.2.1=b then ((k:Int),true) else A6h b r (k+1)
def A1E (h:AG) (a b:Int):Int×Bool:=A6h (ER (Be h a) (Be h b)) h.1 0
end
section
def A9O (h:AG) (l:List AD) (c:List Int):Nat->Option (List Int)
 | 0=>some (List.replicate l.length 0)
 | i+1=>match A9O h l c i with
  | none=>none
  | some o=>if (A1E h (o.getD (c.getD i 0).toNat 0) (l.getD i (0,[])).1).2=true then some (o.set (c.getD i 0).toNat (A1E h (o.getD (c.getD i 0).toNat 0) (l.getD i (0,[])).1).1) else none
def A1F (h:AG) (l:List AD) (c:List Int):List Int×Bool:=match A9O h l c l.length with
 | none=>([],false)
 | some o=>((List.range l.length).map λ(k:Nat)=>o.getD (c.getD k 0).toNat 0,true)
def AAB (n:Nat) (c:List Int):Prop:=c.length=n/\∀k:Nat,k<n->0<=c.getD k 0/\c.getD k 0<=(k:Int)/\c.getD (c.getD k 0).toNat 0=c.getD k 0
def A1G:AZ:={ ins:=[FL,Ij,Bx],pre:=λ(h,l,c,_)=>AAB (List.length l) c/\Ck h l/\0<List.length (h:AG).1/\List.length l<=100000/\(∀x∈(h:AG).1,x.2.1.length<=100000),out:=λ(h,l,c,_)=>[.p Bx (A1F h l c).1,.p .bool (A1F h l c).2] }
attribute [local go_sem] A1G
end
inductive EQ (n:Nat) (o:List Int) (W:List (Int×Int)):Int->Int->Prop
 | cls {x y:Int} (x0:0<=x) (x1:x<(n:Int)) (y0:0<=y) (y1:y<(n:Int)) (h:o.getD x.toNat 0=o.getD y.toNat 0):EQ n o W x y
 | wt {x y:Int} (h:(x,y)∈W):EQ n o W x y
 | symm {x y:Int} (h:EQ n o W x y):EQ n o W y x
 | trans {x y z:Int} (h:EQ n o W x y) (g:EQ n o W y z):EQ n o W x z
theorem EQ.mono {n:Nat} {o b:List Int} {a:List (Int×Int)} (h1:∀x y,0<=x->x<(n:Int)->0<=y->y<(n:Int)->o.getD x.toNat 0=o.getD y.toNat 0->EQ n b a x y) (c:∀x y,(x,y)∈l->EQ n b a x y) {y:Int} (h:EQ n o l x y):EQ n b a x y:=by
 induction h with
 | cls g i j k h=>exact h1 _ _ g i j k h
 | wt h=>exact c _ _ h
 | symm _ d=>exact .symm d
 | trans _ _ e f=>exact .trans e f
theorem EQ.nil {n:Nat} {o:List Int} {y:Int} (h:EQ n o [] x y):o.getD x.toNat 0=o.getD y.toNat 0:=by
 induction h with
 | cls _ _ _ _ h=>exact h
 | wt h=>cases h
 | symm _ a=>exact a.symm
 | trans _ _ b c=>exact b.trans c
def A7U (h:AG):Prop:=∀t∈h.1,Nrm t.2.1
section
variable {d:List AJ}
theorem Jt (d:List AJ):((Bo d).1.map λt=>t.2.1)=(AM d).map λx=>x.2:=by
 show ((EM _ _ _).map λt=>t.2.1)=_;unfold EM;rw[ABm];apply AAL
 .simp
 intro i h1 a;simp[AS,show i<(AM d).length by simpa using h1]
theorem WT (d:List AJ):(Bo d).1.length=(AM d).length:=Jj _ _ _
theorem m4 (d:List AJ) (hk:k<(AM d).length):(Bo d).1.getD k Rb=(((AM d).getD k c0).1,((AM d).getD k c0).2,YI (AM d) (k:Int),(A8 d).1.getD k []):=by
 unfold Bo EM;simp[AS,hk]
theorem NJ (d:List AJ) {t:Int} (a:0<=t) (b:t<((AM d).length:Int)):Be (Bo d) t=((AM d).getD t.toNat c0).2:=by
 unfold Be;rw[m4 d O1]
theorem gY (a:Am d=0):(A8 d).2=0/\(A8 d).1=Ji d (AM d) (BM d) (AM d).length:=by
 unfold A8;rw[An (by rw[a];simp)];exact⟨rfl,rfl⟩
theorem Ko (a:Am d=0):(Ad d).1=Bo d:=by
 unfold Ad;rw[An (by rw[(gY a).1];simp)]
theorem A6i (b:Am d=0):FC (Bo d)/\Nd ((Bo d).1.map λt=>t.2.1):=by
 have h1:=Gp d;have a:=WR d;rw[Ko b]at h1 a;exact⟨h1,a⟩
theorem Md (a:Am d=0):(Bo d).2=(BM d).map (MK d):=by
 unfold Bo DI;rw[An (by rw[a];simp)]
theorem A1H (a:Am d=0) {t:Int} (b:0<=t) (c:t<((AM d).length:Int)):Z9 (Bo d) t=TB d (AM d) (BM d) t.toNat (BM d).length:=by
 unfold Z9;rw[m4 d O1];show (A8 d).1.getD t.toNat []=_;rw[(gY a).2];unfold Ji;simp[AS,show t.toNat<(AM d).length by omega]
theorem WU (a:Am d=0):BA d=0/\(CF d).1=AM d/\Ka d=0/\(∀s∈BM d,(DX d s).2=true)/\H8 d (AM d) (BM d) (AM d).length=false:=by
 obtain⟨b,-,f⟩:=CJ a;obtain⟨e,-,c⟩:=Bc b;refine⟨e,c,f,?_,?_⟩
 .unfold Am at a;split at a
  .rename_i h;exact absurd b h
  split at a
  .cases a
  split at a
  .rename_i h;exact absurd a h
  split at a
  .cases a
  rename_i h;exact No.1 (by simpa using h)
 unfold Am at a;split at a
 .rename_i h;exact absurd b h
 split at a
 .cases a
 split at a
 .rename_i h;exact absurd a h
 split at a
 .cases a
 split at a
 .cases a
 rename_i h;rw[c]at h;simpa using h
def Cd (l:List (List Int)) (c:List Int):Prop:=c=[]\/c∈l
theorem A1I {l:List (List Int)} (hk:It l) {c:List Int} (h:Cd l c):H4 c:=by
 rcases h with rfl|h
 .exact λx a=>by cases a
 exact hk.wds c h
theorem A7V {l:List (List Int)} (hk:It l) (hn:Nd l) {a b:List Int} (ha:Cd l a) (g:b∈l):Cd l (ER a b):=by
 have d:=A1I hk ha;have f:=hk.wds b g;have k:Nrm (ER a b):=by unfold ER;exact Oj _
 have j:=λi=>QD d f i;by_cases hi:∃i,BK a i=true/\BK b i=true
 .rcases ha with rfl|ha
  .obtain⟨i,h1,-⟩:=hi;unfold BK at h1;simp at h1
  obtain⟨t,ht,e⟩:=hk.meet a ha b g hi;right;rw[mC (QE d f) (hk.wds t ht) k (hn.nrm t ht) λi=>by rw[j,e]];exact ht
 left;refine DO λm=>?_;unfold ER at m;have n:H4 (ER a b):=QE d f;have:∃i,BK (ER a b) i=true:=by
  have c:=k;rcases c with c|c
  .exact absurd (AA4 c) m
  exact fR n c
 obtain⟨i,h⟩:=this;rw[j,AT]at h;exact hi ⟨i,h⟩
def UsD (d:List AJ) (t:Int) (s:ByteArray) (x:AJ):Prop:=(DD x s).2=true/\Ah (Bo d) (BN (AM d) x.1) t=true
def vcD (d:List AJ) (s:ByteArray) (x:AJ):List Int:=((AM d).getD (BN (AM d) (DD x s).1).toNat c0).2
theorem T6 (hn:lT d (AM d)) {x:AJ} (a:x∈d):0<=BN (AM d) x.1/\BN (AM d) x.1<((AM d).length:Int):=⟨hn.1 x a,H7 _ _⟩
theorem A1J (hn:lT d (AM d)) {x:AJ} (b:x∈d) (a:(DD x s).2=true):0<=BN (AM d) (DD x s).1/\BN (AM d) (DD x s).1<((AM d).length:Int):=⟨hn.value b a,H7 _ _⟩
theorem qS (d:List AJ) {k:Int} (a:0<=k) (b:k<((AM d).length:Int)):((AM d).getD k.toNat c0).2∈(AM d).map λx=>x.2:=GO.2 ⟨_,Aw O1,rfl⟩
theorem vU (hk:FC (Bo d)) {a t:Int} (b:0<=a) (g:a<((AM d).length:Int)) (c:0<=t) (h:t<((AM d).length:Int)):K6 (AM d) a t=Ah (Bo d) a t:=by
 have j:=WT d;have e:a<((Bo d).1.length:Int):=by omega
 have f:t<((Bo d).1.length:Int):=by omega
 have i:=hk.1.wds _ (Ca b e);have wt:=hk.1.wds _ (Ca c f);rw[ABW];unfold K6;rw[<-NJ d b g,<-NJ d c h,FP wt i];exact(B4 hk b e c f).symm
theorem aQ (hk:FC (Bo d)) (h:Nd ((Bo d).1.map λt=>t.2.1)) (hn:lT d (AM d)) {t:Int} (p:0<=t) (q:t<((AM d).length:Int)) (s:ByteArray):∀(r:List AJ) (o:List Int×Bool),(∀x∈r,x∈d)->Cd ((AM d).map λx=>x.2) o.1 ->
  Cd ((AM d).map λx=>x.2) (r.foldl (Jh (AM d) t s) o).1/\((r.foldl (Jh (AM d) t s) o).2=true↔o.2=true\/∃x∈r,UsD d t s x)/\∀i,BK (r.foldl (Jh (AM d) t s) o).1 i=true↔BK o.1 i=true/\∀x∈r,UsD d t s x->BK (vcD d s x) i=true
 | [],o,_,g=>⟨g,sc,λi=>by simp⟩
 | x :: r,o,n,g=>by
  rw[Jt]at h;have m:It ((AM d).map λx=>x.2):=by have:=hk.1;rwa [Jt]at this
  have w:=n x sc;obtain⟨n0,n1⟩:=T6 hn w;have u:=vU hk n0 n1 p q;rw[OS];by_cases hu:UsD d t s x
  .obtain⟨v0,v1⟩:=A1J hn w hu.1;have e:Jh (AM d) t s o x=(ER o.1 (vcD d s x),true):=by
    unfold Jh;rw[An]
    .rfl
    rw[hu.1,u,hu.2];simp
   have v:vcD d s x∈(AM d).map λx=>x.2:=qS d v0 v1;obtain⟨h1,k,l⟩:=aQ hk (by rw[Jt];exact h) hn p q s r (Jh (AM d) t s o x) (λy f=>n y (by simp[f])) (by rw[e];exact A7V m h g v);refine⟨h1,?_,λi=>?_⟩
   .rw[k,e];exact⟨λ_=>.inr ⟨x,sc,hu⟩,λ_=>.inl rfl⟩
   rw[l,e];simp only;rw[QD (A1I m g) (m.wds _ v),AT];constructor
   .rintro⟨⟨a,b⟩,c⟩;refine⟨a,λy f j=>?_⟩;rcases By.1 f with rfl|f
    .exact b
    exact c y f j
   rintro⟨a,b⟩;exact⟨⟨a,b x sc hu⟩,λy f=>b y (by simp[f])⟩
  have e:Jh (AM d) t s o x=o:=by
   unfold Jh;rw[At];rw[u];unfold UsD at hu;cases h1:(DD x s).2 with
   | false=>simp
   | true =>
    rw[h1]at hu;have:Ah (Bo d) (BN (AM d) x.1) t=false:=by simpa using hu
    rw[this];simp
  obtain⟨h1,k,l⟩:=aQ hk (by rw[Jt];exact h) hn p q s r (Jh (AM d) t s o x) (λy f=>n y (by simp[f])) (by rw[e];exact g);refine⟨h1,?_,λi=>?_⟩
  .rw[k,e];constructor
   .rintro (a|⟨y,f,a⟩)
    .exact .inl a
    exact .inr ⟨y,by simp[f],a⟩
   rintro (a|⟨y,f,a⟩)
   .exact .inl a
   rcases By.1 f with rfl|f
   .exact absurd a hu
   exact .inr ⟨y,f,a⟩
  rw[l,e];constructor
  .rintro⟨a,b⟩;refine⟨a,λy f j=>?_⟩;rcases By.1 f with rfl|f
   .exact absurd j hu
   exact b y f j
  rintro⟨a,b⟩;exact⟨a,λy f=>b y (by simp[f])⟩
theorem WV {b:List Int}:∀ {l:List AR} {k:Nat},(∃x∈l,x.2=b)->∃j:Nat,j<l.length/\Pv b k l=((k+j:Nat):Int)/\(l.getD j c0).2=b
 | [],k,⟨x,a,_⟩=>by cases a
 | y :: l,k,⟨x,a,e⟩=>by
  unfold Pv;by_cases h:HA y.2 b=true
  .rw[At h];exact⟨0,sc,rfl,by simpa[HA] using h⟩
  rw[An h];rcases By.1 a with rfl|a
  .exact absurd (by simpa[HA] using e) h
  obtain⟨j,h1,c,d⟩:=WV (k:=k+1) ⟨x,a,e⟩;exact⟨j+1,by simp only[NO];omega,by rw[c];congr 1;omega,by simpa using d⟩
theorem m5 {b:List Int} (h:Nrm b):BS b=b:=by
 unfold BS;have:Cm b b.length=b.length:=by
  rcases h with h|h
  .rw[h];rfl
  cases e:b.length with
  | zero=>rfl
  | succ m =>
   rw[e]at h;show (if b.getD m 0=0 then Cm b m else m+1)=m+1;rw[An (by simpa using h)]
 rw[this,oR]
theorem QZ (b:Am d=0) {t:Int} (z:0<=t) (J:t<((AM d).length:Int)) (hs:s∈BM d) :
  ((FO d (AM d) t s).2=true↔∃x∈d,UsD d t s x)/\((FO d (AM d) t s).2=true->(0<=G2 (AM d) (FO d (AM d) t s).1/\G2 (AM d) (FO d (AM d) t s).1<((AM d).length:Int)) /\
   ∀i,BK (Be (Bo d) (G2 (AM d) (FO d (AM d) t s).1)) i=true↔∀x∈d,UsD d t s x->BK (vcD d s x) i=true):=by
 obtain⟨n,-,D,-,u⟩:=WU b;obtain⟨hk,p⟩:=A6i b;have hn:=P7 n D;have L:=pW n;have r:=gX d;rw[Ko b]at r;have K:It ((AM d).map λx=>x.2):=by have:=hk.1;rwa [Jt]at this
 have q:=p;rw[Jt]at q;have A:=qS d (ABN 0) (by omega:(0:Int)<((AM d).length:Int));obtain⟨g,a,m⟩:=aQ hk p hn z J s d (((AM d).getD 0 c0).2,false) (λx f=>f) (.inr A);have e:FO d (AM d) t s=d.foldl (Jh (AM d) t s) (((AM d).getD 0 c0).2,false):=rfl;rw[<-e]at g a m;refine⟨by rw[a];simp,λhu=>?_⟩;have E:(FO d (AM d) t s).1≠[]:=by
  intro G;have h1:Kd d (AM d) t.toNat s=true:=by
   unfold Kd;rw[ABs z,hu,G];rfl
  have B:H8 d (AM d) (BM d) (AM d).length=true:=by
   unfold H8;refine aT.2 ⟨t.toNat,oS.2 O1,?_⟩;unfold Z3;exact aT.2 ⟨s,hs,h1⟩
  rw[B]at u;cases u
 have o:(FO d (AM d) t s).1∈(AM d).map λx=>x.2:=g.resolve_left E;obtain⟨x,f,ex⟩:=GO.1 o;obtain⟨j,M,H,I⟩:=WV (l:=AM d) (k:=0) ⟨x,f,ex⟩;have hf:G2 (AM d) (FO d (AM d) t s).1=(j:Int):=by
  unfold G2;rw[m5 (q.nrm _ o),H];simp
 rw[hf];refine⟨⟨AAP _,O1⟩,λi=>?_⟩;rw[NJ d (AAP _) O1,jC,I,m];constructor
 .exact λh=>h.2
 intro h;refine⟨?_,h⟩;obtain⟨y,v,w⟩:=(a.1 hu).resolve_left sc;obtain⟨v0,v1⟩:=A1J hn v w.1;have C:=h y v w;have c:=WT d;have F:=r _ v0 (by rw[c];exact v1);have:=(B4 hk (ABN 0) (by rw[c];omega) v0 (by rw[c];exact v1)).1 F i;unfold Tb2 at this;rw[NJ d (ABN 0) O1,NJ d v0 v1]at this;exact this C
theorem Rw {s:ByteArray}:∀ {r:List AJ} {o:List ByteArray} {y:ByteArray},y∈r.foldl (HB s) o->y∈o\/∃x∈r,x.1=y/\(DD x s).2=true
 | [],_,_,h=>.inl h
 | x :: r,o,y,h=>by
  rw[OS]at h;rcases Rw h with h|⟨z,b,h⟩
  .unfold HB at h;split at h
   .rename_i a;rcases Fz h with h|h
    .exact .inl h
    exact .inr ⟨x,sc,h.symm,a⟩
   exact .inl h
  exact .inr ⟨z,by simp[b],h⟩
theorem WW (h:(DX d s).2=true):∃x∈d,x.1=(DX d s).1/\(DD x s).2=true:=by
 unfold DX at h ⊢;split
 .rename_i h1;have a:(A7 d (FN d s)).getD 0 ByteArray.empty∈A7 d (FN d s):=Aw O1;exact(Rw (HQ a)).resolve_left sc
 rename_i h1;rw[An h1]at h;cases h
theorem m6 (d:List AJ):bW (Ad d).1:=by
 by_cases a:Am d=0
 .rw[Ko a];obtain⟨j,-,l,m,-⟩:=WU a;have hn:=P7 j l;have g:=WT d;refine⟨λx b=>?_,λt ht p c=>?_⟩
  .rw[Md a]at b;obtain⟨s,hs,rfl⟩:=GO.1 b;obtain⟨y,n,e,-⟩:=WW (m s hs);rw[g];show 0<=BN (AM d) (DX d s).1/\BN (AM d) (DX d s).1<((AM d).length:Int);rw[<-e];exact T6 hn n
  obtain⟨k,hk,e⟩:=CM Rb ht;rw[g]at hk ⊢;have f:=A1H a (t:=(k:Int)) (AAP _) O1;unfold Z9 at f;rw[jC,e]at f;rw[f]at c;unfold TB at c;obtain⟨i,hi,rfl⟩:=GO.1 c;obtain⟨h1,h⟩:=ABe.1 hi;have h1:=oS.1 h1;exact((QZ a (t:=(k:Int)) (AAP _) O1 (Aw h1)).2 h).1
 have:(Ad d).1=([],[]):=by
  unfold Ad A8;rw[At a,At a]
 rw[this];exact⟨λx b=>(by cases b),λt ht=>(by cases ht)⟩
end
structure HAp (h:AG):Prop where
 iff:∀t f,0<=t->t<(h.1.length:Int)->0<=f->f<(h.2.length:Int)->((CN h t f).2=true↔Ah h (LE h f) t=true)
 mono:∀t t' f,0<=t->t<(h.1.length:Int)->0<=t'->t'<(h.1.length:Int)->0<=f->f<(h.2.length:Int)->Ah h t t'=true->(CN h t f).2=true->Ah h (CN h t f).1 (CN h t' f).1=true
def T7 (h:AG) (m:Nat) (u:List Int):Prop:=u.length=m/\∀t∈u,0<=t/\t<(h.1.length:Int)
theorem T7.get {m:Nat} {u:List Int} (hu:T7 h m u) {n:Nat} (n1:n<m):0<=u.getD n 0/\u.getD n 0<(h.1.length:Int):=by
 have a:n<u.length:=by rw[hu.1];exact n1
 rw[AS,As a];exact hu.2 _ (AA5 a)
theorem NU.tyl {m:Nat} {s:EF} (hs:NU h m s):T7 h m s.1:=⟨hs.len,hs.ty⟩
def Qv (h:AG) (m:Nat) (u v:List Int):Prop:=∀i,i<m->Ah h (u.getD i 0) (v.getD i 0)=true
def m7 (h:AG) (u:List Int) (n:Int) (l:List (Int×Int)):Prop:=∀a∈l,(CN h (u.getD n.toNat 0) a.1).2=true/\Ah h (CN h (u.getD n.toNat 0) a.1).1 (u.getD a.2.toNat 0)=true
def WTy (h:AG) (f:List AD) (u:List Int):Prop:=∀i,i<f.length->m7 h u (i:Int) (f.getD i (0,[])).2
theorem Qv.refl (hk:FC h) {m:Nat} {u:List Int} (hu:T7 h m u):Qv h m u u:=λi hi=>Ts hk (hu.get hi).1 (hu.get hi).2
theorem Qv.trans (hk:FC h) {m:Nat} {u v w:List Int} (hu:T7 h m u) (a:T7 h m v) (b:T7 h m w) (h1:Qv h m u v) (c:Qv h m v w):Qv h m u w:=λi hi =>
 HR hk (hu.get hi).1 (hu.get hi).2 (a.get hi).1 (a.get hi).2 (b.get hi).1 (b.get hi).2 (h1 i hi) (c i hi)
theorem Qv.anti (hi:JF h) {m:Nat} {u v:List Int} (hu:T7 h m u) (b:T7 h m v) (h1:Qv h m u v) (d:Qv h m v u):u=v:=by
 refine AAL (by rw[hu.1,b.1]) λi c e=>?_;have a:i<m:=by rw[<-hu.1];exact c
 have:=hi _ _ (hu.get a).1 (hu.get a).2 (b.get a).1 (b.get a).2 (h1 i a) (d i a)
 rwa [AS,As c,AS,As e]at this
structure qT (h:AG) (m:Nat) (s s':EF):Prop where
 up:Qv h m s.1 s'.1
 pre:s.2 <+: s'.2
 ch:∀k:Nat,k<m->s'.1.getD k 0=s.1.getD k 0\/(k:Int)∈s'.2.drop s.2.length
theorem qT.refl (hk:FC h) {m:Nat} {s:EF} (hs:NU h m s):qT h m s s:=⟨Qv.refl hk hs.tyl,ABk _,λ_ _=>.inl rfl⟩
theorem Rx {l l':List Int} (a:l <+: l') {n:Nat} (h:x∈l.drop n):x∈l'.drop n:=by
 obtain⟨r,rfl⟩:=a;rw[AD6];exact wT _ h
theorem Qa {l:List Int} {a b:Nat} (c:a<=b) (h:x∈l.drop b):x∈l.drop a:=by
 have:l.drop b=(l.drop a).drop (b-a):=by rw[ACa];congr 1;omega
 rw[this]at h;exact ABy h
theorem qT.trans (hk:FC h) {m:Nat} {a b c:EF} (ha:NU h m a) (i:NU h m b) (j:NU h m c) (h1:qT h m a b) (d:qT h m b c):qT h m a c:=by
 refine⟨h1.up.trans hk ha.tyl i.tyl j.tyl d.up,h1.pre.trans d.pre,λk g=>?_⟩;rcases d.ch k g with f|f
 .rcases h1.ch k g with e|e
  .exact .inl (f.trans e)
  exact .inr (Rx d.pre e)
 exact .inr (Qa h1.pre.length_le f)
theorem Ry (hk:FC h) (hi:JF h) {m:Nat} {s c:EF} (hs:NU h m s) {n t:Int} (n0:0<=n) (n1:n<(m:Int)) (f:0<=t) (g:t<(h.1.length:Int)) (e:DE h s n t=some c) :
  qT h m s c/\Ah h t (c.1.getD n.toNat 0)=true:=by
 have r:=(Er hk hi hs n0 n1 f g e).1;obtain⟨i,j⟩:=hs.get n0 n1;unfold DE at e;split at e
 .rename_i o;obtain⟨u,w,q,d⟩:=(MM hk i j f g).1 o;generalize (Cy h (s.1.getD n.toNat 0) t).1=v at *;injection e with e
  split at e
  .rename_i p;subst e;exact⟨qT.refl hk hs,by rw[<-p];exact d⟩
  subst e;have l:n.toNat<s.1.length:=by rw[hs.len];omega
  have a:∀k:Nat,(s.1.set n.toNat v).getD k 0=if k=n.toNat then v else s.1.getD k 0:=λk=>NG _ _ _ l k
  refine⟨⟨λk b=>?_,ACM _ _,λk b=>?_⟩,?_⟩
  .simp only;rw[a];split
   .rename_i e;rw[e];exact q
   exact Ts hk (hs.tyl.get b).1 (hs.tyl.get b).2
  .simp only;rw[a];split
   .rename_i e;right;rw[AD6,ABt,AAV];exact AAZ _ (by simp;omega)
   exact .inl rfl
  simp only;rw[a,At rfl];exact d
 cases e
theorem Yo (hk:FC h) (hi:JF h) {m:Nat} {s:EF} (hs:NU h m s) {n t:Int} (n0:0<=n) (n1:n<(m:Int)) (o:0<=t) (p:t<(h.1.length:Int)) {u:List Int} (hu:T7 h m u) (a:Qv h m s.1 u) (ht:Ah h t (u.getD n.toNat 0)=true) :
  ∃c,DE h s n t=some c/\Qv h m c.1 u:=by
 obtain⟨d,f⟩:=hs.get n0 n1;have b:n.toNat<m:=by omega
 obtain⟨q,r⟩:=hu.get b;obtain⟨j,l⟩:=(MM hk d f o p).2 _ q r (a _ b) ht;unfold DE;rw[At j];refine⟨_,rfl,?_⟩;split
 .exact a
 intro k g;have i:n.toNat<s.1.length:=by rw[hs.len];omega
 simp only;rw[NG _ _ _ i k];split
 .rename_i e;rw[e];exact l
 exact a k g
section
variable {h:AG} (hk:FC h) (hi:JF h) (hf:bW h) (hap:HAp h) {m:Nat} {n:Int} (n0:0<=n) (n1:n<(m:Int))
include hk hi hf n0 n1
theorem aR:∀ {l:List (Int×Int)} {s c:EF},(∀a∈l,Jm h m a)->NU h m s->MV h n l s=some c->qT h m s c/\∀a∈l,Ah h (LE h a.1) (c.1.getD n.toNat 0)=true
 | [],s,c,_,hs,e=>by
  injection e with e
  subst e;exact⟨qT.refl hk hs,λa ha=>by cases ha⟩
 | a :: l,s,c,o,hs,e=>by
  unfold MV at e;cases g:DE h s n (LE h a.1) with
  | none=>rw[g]at e;cases e
  | some s1 =>
   rw[g]at e;obtain⟨⟨r,t⟩,-⟩:=o a sc;obtain⟨j,k⟩:=MW hf r t;obtain⟨d,-,-⟩:=Er hk hi hs n0 n1 j k g;obtain⟨v,w⟩:=Ry hk hi hs n0 n1 j k g;have p:∀b∈l,Jm h m b:=λb f=>o b (IF _ f);have e:MV h n l s1=some c:=e;obtain⟨q,u⟩:=aR p d e;have i:=(QO hk hi hf n0 n1 p d e).1;refine⟨v.trans hk hs d i q,λb f=>?_⟩;rcases By.1 f with rfl|f
   .exact HR hk j k (d.get n0 n1).1 (d.get n0 n1).2 (i.get n0 n1).1 (i.get n0 n1).2 w (q.up _ O1)
   exact u b f
theorem qU:∀ {l:List (Int×Int)} {s c:EF},(∀a∈l,Jm h m a)->NU h m s->NT h n l s=some c->qT h m s c/\(n∈c.2.drop s.2.length\/(c.1.getD n.toNat 0=s.1.getD n.toNat 0/\∀a∈l,(CN h (s.1.getD n.toNat 0) a.1).2=true/\Ah h (CN h (s.1.getD n.toNat 0) a.1).1 (c.1.getD a.2.toNat 0)=true))
 | [],s,c,_,hs,e=>by
  injection e with e
  subst e;exact⟨qT.refl hk hs,.inr ⟨rfl,λa ha=>by cases ha⟩⟩
 | a :: l,s,c,t,hs,e=>by
  unfold NT at e;split at e
  .rename_i v;obtain⟨w,x⟩:=hs.get n0 n1;obtain⟨o,p⟩:=IG hf w x v;cases j:DE h s a.2 (CN h (s.1.getD n.toNat 0) a.1).1 with
   | none=>rw[j]at e;cases e
   | some s1 =>
    rw[j]at e;obtain⟨-,d,b1⟩:=t a sc;obtain⟨g,-,-⟩:=Er hk hi hs d b1 o p j;obtain⟨r,A⟩:=Ry hk hi hs d b1 o p j;have u:∀b∈l,Jm h m b:=λb f=>t b (IF _ f);have e:NT h n l s1=some c:=e;obtain⟨q,i⟩:=qU u g e;have k:=(Tt hk hi hf n0 n1 u g e).1;refine⟨r.trans hk hs g k q,?_⟩;have y:((n.toNat:Nat):Int)=n:=ABs n0;rcases r.ch n.toNat O1 with c1|c1
    .rcases i with i|⟨i,z⟩
     .exact .inl (Qa r.pre.length_le i)
     refine .inr ⟨i.trans c1,λb f=>?_⟩;rcases By.1 f with rfl|f
     .exact⟨v,HR hk o p (g.get d b1).1 (g.get d b1).2 (k.get d b1).1 (k.get d b1).2 A (q.up _ O1)⟩
     have:=z b f
     rwa [c1]at this
    rw[y]at c1;exact .inl (Rx q.pre c1)
  cases e
include hap
theorem qV {u:List Int} (hu:T7 h m u):∀ {l:List (Int×Int)} {s:EF},(∀a∈l,Jm h m a)->NU h m s->Qv h m s.1 u->(∀a∈l,(CN h (u.getD n.toNat 0) a.1).2=true)->∃c,MV h n l s=some c/\Qv h m c.1 u
 | [],s,_,_,e,_=>⟨s,rfl,e⟩
 | a :: l,s,j,hs,e,k=>by
  obtain⟨⟨f,g⟩,-⟩:=j a sc;obtain⟨o,p⟩:=MW hf f g;obtain⟨v,w⟩:=hu.get (show n.toNat<m by omega);obtain⟨s1,i,h1⟩:=Yo hk hi hs n0 n1 o p hu e ((hap.iff _ _ v w f g).1 (k a sc));obtain⟨r,-,-⟩:=Er hk hi hs n0 n1 o p i;obtain⟨c,q,t⟩:=qV hu (λb d=>j b (IF _ d)) r h1 λb d=>k b (IF _ d);exact⟨c,by unfold MV;rw[i];exact q,t⟩
theorem qW {u:List Int} (hu:T7 h m u):∀ {l:List (Int×Int)} {s:EF},(∀a∈l,Jm h m a)->NU h m s->Qv h m s.1 u->(∀a∈l,Ah h (LE h a.1) (s.1.getD n.toNat 0)=true)->m7 h u n l->∃j,NT h n l s=some j/\Qv h m j.1 u
 | [],s,_,_,f,_,_=>⟨s,rfl,f⟩
 | a :: l,s,p,hs,f,y,z=>by
  obtain⟨⟨v,w⟩,k,b1⟩:=p a sc;obtain⟨d,e⟩:=hs.get n0 n1;have q:n.toNat<m:=by omega
  have x:a.2.toNat<m:=by omega
  obtain⟨A,B⟩:=hu.get q;have r:=(hap.iff _ _ d e v w).2 (y a sc);obtain⟨g,i⟩:=IG hf d e r;obtain⟨I,J⟩:=z a sc;obtain⟨v0,v1⟩:=IG hf A B I;have E:=hap.mono _ _ a.1 d e A B v w (f _ q) r;obtain⟨s1,o,h1⟩:=Yo hk hi hs k b1 g i hu f (HR hk g i v0 v1 (hu.get x).1 (hu.get x).2 E J);obtain⟨t,-,-⟩:=Er hk hi hs k b1 g i o;obtain⟨H,-⟩:=Ry hk hi hs k b1 g i o;obtain⟨j,C,D⟩:=qW hu (λb c=>p b (IF _ c)) t h1 (λb c=>by
   obtain⟨⟨c0,c1⟩,-⟩:=p b (IF _ c);obtain⟨F,G⟩:=MW hf c0 c1;exact HR hk F G d e (t.get n0 n1).1 (t.get n0 n1).2 (y b (IF _ c)) (H.up _ q)) λb c=>z b (IF _ c)
  exact⟨j,by unfold NT;rw[At r,o];exact C,D⟩
end
section
variable {h:AG} (hk:FC h) (hi:JF h) (hf:bW h) (hap:HAp h) {f:List AD} (ha:Oq h f)
include hk hi hf hap ha
theorem A1K {n:Int} (n0:0<=n) (n1:n<(f.length:Int)) {s c:EF} (hs:NU h f.length s) (e:LF h f n s=some c):qT h f.length s c/\(n∈c.2.drop s.2.length\/m7 h c.1 n (f.getD n.toNat (0,[])).2):=by
 have _:=hap;have g:=MX ha n0 n1;unfold LF at e;cases d:MV h n (f.getD n.toNat (0,[])).2 s with
 | none=>rw[d]at e;cases e
 | some s1 =>
  rw[d]at e;have i:=(QO hk hi hf n0 n1 g hs d).1;obtain⟨j,-⟩:=aR hk hi hf n0 n1 g hs d;have e:NT h n (f.getD n.toNat (0,[])).2 s1=some c:=e;have k:=(Tt hk hi hf n0 n1 g i e).1;obtain⟨l,b⟩:=qU hk hi hf n0 n1 g i e;refine⟨j.trans hk hs i k l,?_⟩;rcases b with b|⟨b,m⟩
  .exact .inl (Qa j.pre.length_le b)
  refine .inr λa ha=>?_;rw[b];exact m a ha
theorem A1L {n:Int} (n0:0<=n) (n1:n<(f.length:Int)) {s:EF} (hs:NU h f.length s) {u:List Int} (hu:T7 h f.length u) (d:m7 h u n (f.getD n.toNat (0,[])).2) (j:Qv h f.length s.1 u):∃e,LF h f n s=some e/\Qv h f.length e.1 u:=by
 have b:=MX ha n0 n1;obtain⟨s1,c,h1⟩:=qV hk hi hf hap n0 n1 hu b hs j λa ha=>(d a ha).1;have k:=(QO hk hi hf n0 n1 b hs c).1;obtain⟨-,l⟩:=aR hk hi hf n0 n1 b hs c;obtain⟨s2,g,i⟩:=qW hk hi hf hap n0 n1 hu b k h1 l d;exact⟨s2,by unfold LF;rw[c];exact g,i⟩
def A9P (h:AG) (f:List AD) (i:Nat) (s:EF):Prop:=∀n:Nat,n<f.length->m7 h s.1 (n:Int) (f.getD n (0,[])).2\/(n:Int)∈s.2.drop i
theorem A4P {n:Nat} (hn:n<f.length) {s:EF} (hs:NU h f.length s) (i:NU h f.length d) (j:qT h f.length s d) (p:m7 h s.1 (n:Int) (f.getD n (0,[])).2):m7 h d.1 (n:Int) (f.getD n (0,[])).2\/(n:Int)∈d.2.drop s.2.length:=by
 have _:=hap;have _:=hi;have o:∀a∈(f.getD n (0,[])).2,Jm h f.length a:=ha _ (AF f (0,[]) hn);rcases j.ch n hn with c|c
 .left;intro a g;obtain⟨e,k⟩:=p a g;obtain⟨-,b,b1⟩:=o a g;rw[jC]at e k ⊢;rw[c];obtain⟨l,m⟩:=hs.tyl.get hn;obtain⟨q,r⟩:=IG hf l m e;exact⟨e,HR hk q r (hs.get b b1).1 (hs.get b b1).2 (i.get b b1).1 (i.get b b1).2 k (j.up _ O1)⟩
 exact .inr c
theorem qX:∀ {k i:Nat} {s:EF} {ty:List Int},NU h f.length s->A9P h f i s->wY h f k i s=some ty->WTy h f ty/\Qv h f.length s.1 ty/\T7 h f.length ty
 | 0,_,_,_,_,_,e=>by cases e
 | k+1,i,s,ty,hs,m,e=>by
  unfold wY at e;split at e
  .rename_i d;have q:=AF s.2 (0:Int) d;obtain⟨n0,n1⟩:=hs.wt _ q;generalize hn:s.2.getD i 0=n at *;cases c:LF h f n s with
   | none=>rw[c]at e;cases e
   | some s1 =>
    rw[c]at e;have g:=(WA hk hi hf ha n0 n1 hs c).1;obtain⟨j,b⟩:=A1K hk hi hf hap ha n0 n1 hs c;have t:A9P h f (i+1) s1:=by
     intro o l;rcases m o l with r|a
     .rcases A4P hk hi hf hap ha l hs g j r with h1|h1
      .exact .inl h1
      exact .inr (Qa O1 h1)
     have u:s.2.drop i=n :: s.2.drop (i+1):=by
      rw[OR d,<-hn,AS,As d];rfl
     rw[u]at a;rcases By.1 a with a|a
     .rcases b with b|b
      .exact .inr (by rw[a];exact Qa O1 b)
      left;rw[a];have:n.toNat=o:=by omega
      rw[this]at b;exact b
     exact .inr (Rx j.pre a)
    have e:wY h f k (i+1) s1=some ty:=e;obtain⟨v,w,p⟩:=qX g t e;exact⟨v,j.up.trans hk hs.tyl g.tyl p w,p⟩
  rename_i d;injection e with e
  subst e;refine⟨λn hn=>?_,Qv.refl hk hs.tyl,hs.tyl⟩;rcases m n hn with h1|h1
  .exact h1
  rw[Is O1]at h1;cases h1
theorem A1M {u:List Int} (hu:T7 h f.length u) (d:WTy h f u):∀ {k i:Nat} {s:EF},NU h f.length s->i<=s.2.length->Ya h s.1+s.2.length+1<=k+i->Qv h f.length s.1 u->∃ty,wY h f k i s=some ty/\Qv h f.length ty u
 | 0,i,s,hs,j,l,b=>by omega
 | k+1,i,s,hs,j,l,b=>by
  unfold wY;by_cases a:i<s.2.length
  .rw[At a];obtain⟨n0,n1⟩:=hs.wt _ (AF s.2 (0:Int) a);have e:=d (s.2.getD i 0).toNat O1;rw[ABs n0]at e;obtain⟨s1,c,h1⟩:=A1L hk hi hf hap ha n0 n1 hs hu e b;obtain⟨g,m,n⟩:=WA hk hi hf ha n0 n1 hs c;rw[c];exact A1M hu d g O1 O1 h1
  rw[An a];exact⟨s.1,rfl,b⟩
theorem m8 (ht:∀x∈f,0<=x.1/\x.1<(h.1.length:Int)) {ty:List Int} (e:IH h f=some ty):WTy h f ty/\Qv h f.length (Bj f) ty/\T7 h f.length ty:=by
 have e:wY h f (Nr h f) 0 (Bj f,EP f)=some ty:=e;refine qX hk hi hf hap ha (k:=Nr h f) (i:=0) (s:=(Bj f,EP f)) (A1f ht) (λn hn=>.inr ?_) e;rw[AAV];exact GO.2 ⟨n,oS.2 hn,rfl⟩
theorem gZ (ht:∀x∈f,0<=x.1/\x.1<(h.1.length:Int)) {u:List Int} (hu:T7 h f.length u) (b:WTy h f u) (a:Qv h f.length (Bj f) u):∃ty,IH h f=some ty/\Qv h f.length ty u :=
 A1M hk hi hf hap ha hu b (k:=Nr h f) (i:=0) (s:=(Bj f,EP f)) (A1f ht) (Do _) (A1g h f) a
end
inductive Up (d:List AJ) (m:ByteArray):ByteArray->Prop
 | base {x:ByteArray}:AK m x=true->Up d m x
 | step {x s:ByteArray} {y:AJ}:y∈d->AK y.1 x=true->Aa y.2.1 s=true->Up d m s->Up d m x
section
variable {d:List AJ}
theorem WX {m x:ByteArray} (h:Up d m x) (e:AK x y=true):Up d m y:=by
 cases h with
 | base h=>exact .base (BP h e)
 | step h1 a b c=>exact .step h1 (BP a e) b c
theorem A7X {c x s:ByteArray} (h:Up d c x) {y:AJ} (f:y∈d) (e:AK y.1 c=true) (hs:Aa y.2.1 s=true):Up d s x:=by
 induction h with
 | base h=>exact .step f (BP e h) hs (.base (CD s))
 | step h1 a b i g=>exact .step h1 a b g
theorem Qb {a b c:ByteArray} (h1:Up d a b) (i:Up d b c):Up d a c:=by
 induction i with
 | base h=>exact WX h1 h
 | step e f g k j=>exact .step e f g j
theorem A4Q {m a x:ByteArray} (e:AK a m=true) (h:Up d m x):Up d a x:=Qb (.base e) h
theorem A4R (hn:Cq d=0) (f:d.length<=(Bn d).length) {m x:ByteArray} (h:Up d m x):AK m x=true\/F6 d m<F6 d x:=by
 induction h with
 | base h=>exact .inl h
 | step h1 c e g a =>
  right;have b:=KX hn f h1 e;rw[H5 d c]at b;rcases a with a|a
  .rw[H5 d a];exact b
  omega
theorem A1N {o:List ByteArray} (h:t∈Ja o s):t∈o\/t=s:=by
 unfold Ja at h;split at h
 .exact .inl h
 rcases If.1 h with h|h
 .exact .inl h
 exact .inr (by simpa using h)
theorem Yp:∀ {l o:List ByteArray} {t:ByteArray},t∈l.foldl Ja o->t∈o\/t∈l
 | [],_,_,h=>.inl h
 | s :: l,o,t,h=>by
  rw[OS]at h;rcases Yp h with h|h
  .rcases A1N h with h|h
   .exact .inl h
   exact .inr (by simp[h])
  exact .inr (by simp[h])
theorem vV (h:0<=Aq d s):d.getD (Aq d s).toNat d0∈d/\AK (d.getD (Aq d s).toNat d0).1 s=true:=by
 rcases DN d s with g|⟨b,c,a⟩
 .omega
 exact⟨Aw O1,a⟩
theorem Yq (hs:Pq d) {x:ByteArray}:∀ {n i:Nat} {o:List ByteArray},(∀t∈o,0<=Aq d t/\Up d t x)->∀t∈H1 d n i o,0<=Aq d t/\Up d t x
 | 0,_,_,a=>a
 | n+1,i,o,a=>by
  unfold H1;split
  .rename_i hi;refine Yq hs λt ht=>?_;rcases Yp ht with ht|ht
   .exact a t ht
   obtain⟨c1,c2⟩:=a _ (Aw (d:=ByteArray.empty) hi);obtain⟨b,c⟩:=vV c1;exact⟨hs _ b t ht,A7X c2 b c (Fc ht)⟩
  exact a
theorem Yr {l:List ByteArray} {t:ByteArray} (h:t∈Jb l):t∈l:=(VZ (o:=[]) h).resolve_left sc
theorem A1O (hs:Pq d) {x:ByteArray} (a:0<=Aq d x) (h:Aa (KT d x) t=true):Up d t x:=by
 obtain⟨u,hu,e⟩:=aT.1 h;unfold KT at hu;rw[An O1]at hu;have:=(Yq hs (x:=x) (n:=d.length) (i:=0) (o:=[x]) (λt ht=>by
  have:t=x:=by simpa using ht
  subst this;exact⟨a,.base (CD _)⟩) u (Yr hu)).2
 exact A4Q (B0 e) this
theorem Ys {m:ByteArray}:∀ {n i:Nat} {o:List ByteArray},(∀t∈o,Up d m t)->∀t∈Cr d n i o,Up d m t
 | 0,_,_,a=>a
 | n+1,i,o,a=>by
  unfold Cr;split
  .rename_i hi;have e:=a _ (Aw (d:=ByteArray.empty) hi);generalize o.getD i ByteArray.empty=c at *;have key:∀(l:List AJ) (o:List ByteArray),(∀y∈l,y∈d)->(∀t∈o,Up d m t)->∀t∈l.foldl (E8 c) o,Up d m t:=by
    intro l;induction l with
    | nil=>exact λo _ a=>a
    | cons y l g =>
     intro o b a;rw[OS];refine g _ (λz f=>b z (by simp[f])) λt ht=>?_;unfold E8 at ht;split at ht
     .rename_i h;rw[AT]at h;rcases If.1 ht with ht|ht
      .exact a t ht
      have:t=y.1:=by simpa using ht
      subst this;exact .step (b y sc) (CD _) h.1 e
     exact a t ht
   exact Ys (key d o (λ_ h=>h) a)
  exact a
theorem WY {m x:ByteArray} (h:Aa (Cs d m) x=true):Up d m x:=by
 obtain⟨u,hu,e⟩:=aT.1 h;unfold Cs at hu;split at hu
 .cases hu
 exact WX (Ys (m:=m) (n:=d.length) (i:=0) (o:=[m]) (λt ht=>by
  have:t=m:=by simpa using ht
  subst this;exact .base (CD _)) u (Yr hu)) e
theorem WZ {m x:ByteArray} (u:0<=Aq d m) (h:Up d m x):Aa (Cs d m) x=true:=by
 have q:Zs d [m]:=⟨λs hs=>by
  have:s=m:=by simpa using hs
  rw[this];exact u,sc⟩
 obtain⟨k,v,D⟩:=WO (d:=d) (n:=d.length) (i:=0) q O1 (λj t=>by omega) O1;have A:m∈Cr d d.length 0 [m]:=KY sc;have r:Cs d m=Jb (Cr d d.length 0 [m]):=by unfold Cs;rw[An O1]
 rw[r];generalize Cr d d.length 0 [m]=o at *;have key:Aa o x=true:=by
  induction h with
  | base h=>exact aT.2 ⟨m,A,h⟩
  | step h1 l p C B =>
   obtain⟨z,c,a⟩:=aT.1 B;obtain⟨j,t,rfl⟩:=CM ByteArray.empty c;obtain⟨s,y,f⟩:=aT.1 p;obtain⟨w,b,g⟩:=aT.1 (v j O1 _ h1 (aT.2 ⟨s,y,BP f (B0 a)⟩));exact aT.2 ⟨w,b,BP g l⟩
 obtain⟨z,c,e⟩:=aT.1 key;obtain⟨w,b,a⟩:=aT.1 (P3 (o:=[]) c);exact aT.2 ⟨w,b,BP a e⟩
theorem Yt:∀ {l o:List ByteArray} {x:ByteArray},Aa o x=true->Aa (l.foldl (E9 d) o) x=true
 | [],_,_,h=>h
 | s :: l,o,x,h=>by
  rw[OS];refine Yt ?_;unfold E9;split
  .exact Hf (λz a=>Jg a) h
  exact h
theorem Qc:∀ {l o:List ByteArray} {x:ByteArray},x∈l->0<=Aq d x->Aa (l.foldl (E9 d) o) x=true
 | s :: l,o,x,h,a=>by
  rw[OS];rcases By.1 h with rfl|h
  .refine Yt ?_;unfold E9;rw[At a];exact MH
  exact Qc h a
theorem Nt:∀ {l o:List ByteArray},(∀x∈o,0<=Aq d x)->∀x∈l.foldl (E9 d) o,0<=Aq d x
 | [],_,b=>b
 | s :: l,o,b=>by
  rw[OS];refine Nt λx a=>?_;unfold E9 at a;split at a
  .rcases Fz a with a|rfl
   .exact b x a
   assumption
  exact b x a
theorem A7Y {l:List ByteArray} (h:p9 l) {i:Nat} (hi:i<l.length) (a:j<l.length) (d:i≠j):AK (l.getD i ByteArray.empty) (l.getD j ByteArray.empty)=false:=by
 have c:∀k (h:k<l.length),l.getD k ByteArray.empty=l[k]:=λk h=>by rw[AS,As h];rfl
 rw[c i hi,c j a];rcases Nat.lt_or_gt_of_ne d with b|b
 .exact(iN.1 h) i j hi a b
 exact Iu ((iN.1 h) j i a hi b)
theorem Qd:∀ {l o:List ByteArray},p9 o->(∀s∈l,∀x∈o,AK x s=false)->p9 l->p9 (l.foldl (E9 d) o)
 | [],_,h,_,_=>h
 | s :: l,o,h,b,f=>by
  rw[OS];have e:=AAv.1 f;refine Qd ?_ (λy c x a=>?_) e.2
  .unfold E9;split
   .exact Vr h (b s sc)
   exact h
  unfold E9 at a;split at a
  .rcases Fz a with a|rfl
   .exact b y (by simp[c]) x a
   exact e.1 y c
  exact b y (by simp[c]) x a
theorem vW (hn:Cq d=0) (s:ByteArray):p9 (FN d s):=by
 have key:∀(r:List AJ) (o:List ByteArray),p9 o->(∀y∈r,∀x∈o,AK x y.1=false)->r.Pairwise (λa b=>AK a.1 b.1=false)->p9 (r.foldl (HB s) o):=by
  intro r;induction r with
  | nil=>exact λo h _ _=>h
  | cons y r t =>
   intro o h f q;rw[OS];have l:=AAv.1 q;refine t _ ?_ (λz g x c=>?_) l.2
   .unfold HB;split
    .exact Vr h (f y sc)
    exact h
   unfold HB at c;split at c
   .rcases Fz c with c|rfl
    .exact f z (by simp[g]) x c
    exact l.1 z g
   exact f z (by simp[g]) x c
 refine key d [] .nil (λy _ x c=>by cases c) (iN.2 λi j hi k u=>?_);cases e:AK d[i].1 d[j].1 with
 | false=>rfl
 | true =>
  have h1:=MG hn hi;have p:=MG hn k;have m:d.getD i d0=d[i]:=by rw[AS,As hi];rfl
  have n:d.getD j d0=d[j]:=by rw[AS,As k];rfl
  rw[m,Ip d e]at h1;rw[n]at p;omega
theorem Rz (r:BA d=0) {l:List ByteArray} (t:p9 l) {x:ByteArray} (g:x∈l) (w:0<=Aq d x):∃m∈A7 d l,Up d m x:=by
 obtain⟨hs,C,-,hn,A⟩:=A2 r;have z:∀y∈Bi d l,0<=Aq d y:=Nt λy c=>by cases c
 obtain⟨q,n,ex⟩:=aT.1 (Qc (d:=d) (o:=[]) g w);have n:q∈Bi d l:=n;have v:p9 (Bi d l):=Qd .nil (λs _ x g=>by cases g) t;have u:A7 d l=Pt d (Bi d l) (Bi d l).length:=rfl;rw[u];generalize Bi d l=all at *;have key:∀(k:Nat) (y:ByteArray),F6 d y<k->y∈all->Up d y x->∃m∈Pt d all all.length,Up d m x:=by
  intro k;induction k with
  | zero=>exact λy h=>by omega
  | succ k B =>
   intro y D c hu;obtain⟨i,hi,rfl⟩:=CM ByteArray.empty c;by_cases a:Ps d all i all.length=true
   .exact⟨_,GO.2 ⟨i,ABe.2 ⟨oS.2 hi,a⟩,rfl⟩,hu⟩
   have a:Ps d all i all.length=false:=by simpa using a
   unfold Ps at a;obtain⟨j,b,hf⟩:=ABr.1 a;have b:=oS.1 b;unfold pL at hf;simp only[tO,AA9,bY,not_or,Bool.not_eq_false]at hf;obtain⟨f,ha⟩:=hf;have f:j≠i:=λe=>f (by rw[e]);have p:=A1O hs (z _ c) ha;rcases A4R hn A p with e|e
   .exact absurd e (by rw[A7Y v b hi f];simp)
   exact B _ O1 (Aw b) (Qb p hu)
 exact key _ q (ABf _) n (.base ex)
theorem Kp (hs:s∈AN d):0<=Aq d s:=by
 obtain⟨x,a,rfl⟩:=DV hs;exact DU a
theorem Qf {x:AJ} (a:x∈d) (hn:Cq d=0):x.1∈AN d:=by
 obtain⟨s,hs,e⟩:=aT.1 (Od a);obtain⟨y,b,rfl⟩:=DV hs;rw[<-P2 hn b a e];exact hs
theorem A4S (b:BA d=0) {m x:ByteArray} (c:0<=Aq d m) (h:Up d m x) {i:Nat} (hi:BK (Eb d (AN d) x) i=true):BK (Eb d (AN d) m) i=true:=by
 obtain⟨-,j,-,hn,k⟩:=A2 b;have e:=Du d d.length;rw[oR]at e;have a:(AN d).length<=4096:=by omega
 obtain⟨f,g⟩:=(CE (d:=d) a x i).1.1 hi;exact(CE (d:=d) a m i).1.2 ⟨f,WZ c (Qb h (WY g))⟩
end
section
variable {d:List AJ}
def Dc (d:List AJ) (c:List Int):Prop:=H4 c/\∀i j,BK c i=true->j<(AN d).length->Up d ((AN d).getD i ByteArray.empty) ((AN d).getD j ByteArray.empty)->BK c j=true
theorem A7Z:Dc d []:=⟨λx a=>(by cases a),λi j hi=>by unfold BK at hi;simp at hi⟩
theorem A80 {a b:List Int} (ha:Dc d a) (c:Dc d b):Dc d (ER a b) :=
 ⟨QE ha.1 c.1,λi j hi e hu=>by
  rw[QD ha.1 c.1,AT]at hi ⊢;exact⟨ha.2 i j hi.1 e hu,c.2 i j hi.2 e hu⟩⟩
theorem A4T {l:List (List Int)} (h:∀c∈l,Dc d c) (k:Nat):Dc d (l.getD k []):=by grind [Aw,Rd,A7Z]
theorem A4U {l:List (List Int)} (h:∀c∈l,Dc d c) (i k:Nat):∀c∈GM l i k,Dc d c:=by grind [GM,ER,A80,A4T]
theorem qY {i:Nat}:∀ {n k:Nat} {l:List (List Int)},(∀c∈l,Dc d c)->∀c∈GN i n k l,Dc d c
 | 0,_,_,h=>h
 | n+1,k,l,h=>by
  unfold GN;split
  .exact qY (A4U h i k)
  exact h
theorem qZ:∀ {n i:Nat} {l:List (List Int)},(∀c∈l,Dc d c)->∀c∈H2 n i l,Dc d c
 | 0,_,_,h=>h
 | n+1,i,l,h=>by
  unfold H2;split
  .exact qZ (qY h)
  exact h
theorem Sp (a:BA d=0):(AN d).length<=4096:=by
 obtain⟨-,c,-⟩:=A2 a;have b:=Du d d.length;rw[oR]at b;omega
theorem A4V (a:BA d=0) (hs:0<=Aq d s):Dc d (Eb d (AN d) s):=by
 have b:=Sp a;refine⟨(CE (d:=d) b s 0).2.1,λi j hi c hu=>?_⟩;grind [CE,WZ,Qb,WY]
theorem A81 (a:BA d=0):∀c∈A0 (AY d),Dc d c:=qZ λc b=>by
 obtain⟨s,hs,rfl⟩:=GO.1 b;exact A4V a (Kp hs)
theorem q9 {all:List ByteArray} {codes:List (List Int)} {b:List Int} {u:ByteArray}:∀ {m i:Nat} {l:List ByteArray},pS d all codes b m i l=.inl u->∃j,i<=j/\j<i+m/\DM (codes.getD j []) b=true/\u=all.getD j ByteArray.empty
 | 0,_,_,h=>by cases h
 | m+1,i,l,h=>by
  unfold pS at h;split at h
  .grind
  obtain⟨j,e,f,a,c⟩:=q9 h;exact⟨j,O1,O1,a,c⟩
theorem rA {all:List ByteArray} {codes:List (List Int)} {b:List Int} {r:List ByteArray}:∀ {m i:Nat} {l:List ByteArray},pS d all codes b m i l=.inr r->(∀j,i<=j->j<i+m->DM (codes.getD j []) b=false)/\r=l++((List.range' i m).filter λj:Nat=>S9 b (j:Int)).map λj=>all.getD j ByteArray.empty
 | 0,i,l,h=>by grind [pS]
 | m+1,i,l,h=>by
  unfold pS at h;split at h
  .cases h
  rename_i f;obtain⟨c,a⟩:=rA h;refine⟨λj h1 e=>?_,?_⟩
  .grind
  rw[a,AD3,AAO];grind
theorem rB {a b:ByteArray} {x:UInt8}:x∈(a++b).toList↔x∈a.toList\/x∈b.toList:=by
 rw[ByteArray.toList_eq,ByteArray.toList_eq,ByteArray.toList_eq];simp
theorem vX {l:List ByteArray}:∀ {n:Nat},2<=n->(38:UInt8)∈(P4 l n).toList
 | n+1,hn=>by
  rw[Oe];unfold YG;rw[At O1];rw[rB,rB]
  simp_all
theorem m9 (hn:Cq d=0) (hs:s∈AN d):(38:UInt8)∉s.toList:=by
 obtain⟨x,g,rfl⟩:=DV hs;obtain⟨j,c,e⟩:=CM d0 g;have h1:=(Iq (d:=d) (r:=d) (k:=0) hn j c).2;rw[e]at h1;intro a;unfold BF at h1;rw[AT,No]at h1;rw[ByteArray.toList_eq]at a;obtain⟨k,hk,h⟩:=AAd.1 a;have f:k<x.1.data.size:=by simpa using hk
 have:=h1.2 k (oS.2 f);unfold Nh at this;have b:x.1.data.getD k 0=38:=by simp_all
 rw[b]at this;revert this;decide
theorem vY (h:BA d=0) {y:AR} (U:y∈AM d) (hf:It (A0 (AY d))) (hs:s∈AN d) (e:AK y.1 s=true):y.2=Eb d (AN d) s:=by
 obtain⟨ag,aa,-,hn,ae⟩:=A2 h;have o:=Sp h;have K:Nd (A0 (AY d)):=Tp (Re h);have ad:(AY d).length=(AN d).length:=by simp[AY]
 have L:AY d <+: A0 (AY d):=QB 257 0 (AY d);have T:∀ {t:ByteArray},t∈AN d->AK t s=true->t=s:=λ{t} ht e=>by grind [DV,P2]
 have heq:∀j,j<(AN d).length->∀b∈A0 (AY d),DM ((AY d).getD j []) b=true->b=Eb d (AN d) ((AN d).getD j ByteArray.empty):=λj Q b f p=>by
  have g:(AY d).getD j []∈A0 (AY d):=L.subset (Aw O1);unfold DM at p;rw[AT,FP (hf.wds _ g) (hf.wds b f),FP (hf.wds b f) (hf.wds _ g)]at p;rw[<-Ir d Q];refine mC (hf.wds b f) (hf.wds _ g) (K.nrm b f) (K.nrm _ g) λi=>?_;rw[ABW];exact⟨p.2 i,p.1 i⟩
 obtain⟨b,f,rfl⟩:=DW.1 U;show b=_;have e:AK (Gk d (AN d) (AY d) b) s=true:=e;unfold Gk at e;cases w:pS d (AN d) (AY d) b (AN d).length 0 [] with
 | inl u =>
  rw[w]at e;obtain⟨j,-,B,W,rfl⟩:=q9 w;rw[AAY]at B;rw[<-T (Aw B) e];exact heq j B b f W
 | inr l =>
  exfalso;rw[w]at e;have e:AK (e9 (A7 d l)) s=true:=e;obtain⟨N,C⟩:=rA w;rw[iS]at C;have M:=hf.wds b f;have v:∀i,i<(AN d).length->BK b i=true->(AN d).getD i ByteArray.empty∈l:=λi hi ab=>by grind [Tz]
  have J:∀t∈l,∃i,i<(AN d).length/\t=(AN d).getD i ByteArray.empty/\BK b i=true:=λt ht=>by grind [Tz]
  have S:(List.range' 0 (AN d).length).map (λj=>(AN d).getD j ByteArray.empty)=AN d:=by
   apply AAL
   .simp
   intro i ah V;simp[AS,V]
  have D:p9 l:=by
   rw[C];have:=Vs hn;rw[<-S]at this;exact this.sublist (List.filter_sublist.map _)
  obtain⟨x,r⟩:=hf.some b f;have A:∀i,BK b i=true->i<(AN d).length:=by
   have:=aP (q:=(AN d).length) (n:=257) (i:=0) (l:=AY d) (λc P=>by
    obtain⟨t,ht,rfl⟩:=GO.1 P;exact⟨(CE (d:=d) o t 0).2.1,λi hi=>((CE (d:=d) o t i).1.1 hi).1⟩) b f
   exact this.2
  have E:∀t∈l,0<=Aq d t:=λt ht=>by
   obtain⟨i,hi,rfl,-⟩:=J t ht;exact Kp (Aw hi)
  obtain⟨m,g,-⟩:=Rz h D (v x (A x r) r) (E _ (v x (A x r) r));have af:0<(A7 d l).length:=ACm g;have R:e9 (A7 d l)=P4 (A7 d l) (A7 d l).length:=rfl;rw[R]at e;by_cases h1:(A7 d l).length=1
  .obtain⟨k,G,rfl,O⟩:=J m (HQ g);have F:DM ((AY d).getD k []) b=true:=by
    have I:(AY d).getD k []∈A0 (AY d):=L.subset (Aw O1);unfold DM;rw[AT,FP (hf.wds _ I) M,FP M (hf.wds _ I),Ir d G];refine⟨λi hi=>?_,λi hi=>?_⟩
    .obtain⟨Y,Z⟩:=(CE (d:=d) o _ i).1.1 hi;exact(A81 h b f).2 k i O Y (WY Z)
    have z:=A i hi;obtain⟨X,H,hu⟩:=Rz h D (v i z hi) (E _ (v i z hi));have:X=(AN d).getD k ByteArray.empty:=by
     obtain⟨a,ha⟩:=AB5.1 h1;rw[ha]at g H;rw[oN.1 H,oN.1 g]
    rw[this]at hu;exact(CE (d:=d) o _ i).1.2 ⟨z,WZ (Kp (Aw G)) hu⟩
   rw[N k (Do _) O1]at F;cases F
  grind [vX,A7,Ep,m9]
theorem Yu (s:ByteArray):∀(l:List AR) (k:Nat),0<=KV s k l->∃j,j<l.length/\KV s k l=((k+j:Nat):Int)/\AK (l.getD j c0).1 s=true
 | [],k,h=>by simp only[KV]at h;omega
 | x :: l,k,h=>by
  simp only[KV]at h ⊢;split
  .grind
  rename_i e;rw[An e]at h;obtain⟨j,c,a,b⟩:=Yu s l (k+1) h;exact⟨j+1,by simp only[NO];omega,by rw[a];congr 1;omega,by simpa using b⟩
theorem A1P (a:BA d=0) (hf:It (A0 (AY d))) (hs:s∈AN d):((AM d).getD (BN (AM d) s).toNat c0).2=Eb d (AN d) s:=by
 have h0:0<=BN (AM d) s:=Gl a (Fc hs);grind [Yu,AM,BN,vY,Aw]
theorem Yv {s:ByteArray} (hn:Cq d=0):∀ {r:List AJ} {o:List ByteArray} {x:AJ},(∀y∈r,y∈d)->x∈d->((∃z∈o,AK z x.1=true)\/(x∈r/\(DD x s).2=true))->∃z∈r.foldl (HB s) o,AK z x.1=true
 | [],o,x,_,_,h=>h.resolve_right λg=>by cases g.1
 | y :: r,o,x,f,i,h=>by
  rw[OS];refine Yv hn (λz c=>f z (by simp[c])) i ?_;rcases h with ⟨z,c,e⟩|⟨a,b⟩
  .grind [HB,Jg]
  rcases By.1 a with rfl|a
  .left;unfold HB;rw[At b];exact aT.1 (MH (l:=o) (s:=x.1))
  exact .inr ⟨a,b⟩
theorem Yw (f:Int):∀(a b:List (Int×Int)),D6 f (a++b)=if (D6 f a).2=true then D6 f a else D6 f b
 | [],_=>rfl
 | x :: a,b=>by
  have h1:D6 f (x :: a++b)=if x.1=f then (x.2,true) else D6 f (a++b):=rfl
  have c:D6 f (x :: a)=if x.1=f then (x.2,true) else D6 f a:=rfl
  rw[h1,c];split
  .rfl
  exact Yw f a b
theorem rD (l:List AR) (fs:List ByteArray) (t:Nat) (f:Int):∀n,D6 f (TB d l fs t n)=if 0<=f/\f<(n:Int)/\(FO d l (t:Int) (fs.getD f.toNat ByteArray.empty)).2=true then (G2 l (FO d l (t:Int) (fs.getD f.toNat ByteArray.empty)).1,true) else (0,false)
 | 0=>by
  rw[An O1];rfl
 | n+1=>by
  rw[YL,Yw,rD l fs t f n];grind [FO,D6]
theorem Wa (c:Am d=0) {t f:Int} (e:0<=t) (g:t<((AM d).length:Int)) (a:0<=f) (b:f<((BM d).length:Int)):CN (Bo d) t f=if (FO d (AM d) t ((BM d).getD f.toNat ByteArray.empty)).2=true then (G2 (AM d) (FO d (AM d) t ((BM d).getD f.toNat ByteArray.empty)).1,true) else (0,false):=by
 unfold CN;grind [A1H,rD,FO,AM,BM]
theorem A4W (c:Am d=0) {f:Int} (a:0<=f) (b:f<((BM d).length:Int)):LE (Bo d) f=BN (AM d) (DX d ((BM d).getD f.toNat ByteArray.empty)).1:=by grind [LE,Md,BM,MK]
theorem A9Q (b:Am d=0):HAp (Bo d):=by
 obtain⟨j,-,T,F,-⟩:=WU b;obtain⟨u,-,-⟩:=CJ b;obtain⟨-,U,-⟩:=Bc u;have al:=Vo j U;obtain⟨ao,ak,-,hn,am⟩:=A2 j;obtain⟨hk,an⟩:=A6i b;have I:=P7 j T;have n:=WT d;have hF:(Bo d).2.length=(BM d).length:=by rw[Md b,Of]
 have E:∀s∈AN d,Be (Bo d) (BN (AM d) s)=Eb d (AN d) s:=λs hs=>by grind [NJ,Gl,Fc,H7,A1P]
 refine⟨λt f g l k c=>?_,λt w f g l A ai k c X q=>?_⟩
 .rw[n]at l;rw[hF]at c;have hs:=Aw (d:=ByteArray.empty) (show f.toNat<(BM d).length by omega);rw[Wa b g l k c,A4W b k c];generalize (BM d).getD f.toNat ByteArray.empty=s at *;obtain⟨v,-⟩:=QZ b g l hs;obtain⟨aj,aa,S,Y⟩:=WW (F s hs);have hi:(if (FO d (AM d) t s).2=true then (G2 (AM d) (FO d (AM d) t s).1,true) else ((0:Int),false)).2=true↔(FO d (AM d) t s).2=true:=by
   split<;>simp[*]
  rw[hi,v];constructor
  .rintro⟨x,a,Z,W⟩;have hint:=F s hs;unfold DX at hint ⊢;split at hint
   .rename_i h1;rw[At h1];obtain⟨ap,V⟩:=AB5.1 h1;obtain⟨z,u,C⟩:=Yv (d:=d) (s:=s) hn (r:=d) (o:=[]) (λy ad=>ad) a (.inr ⟨a,Z⟩);have ae:0<=Aq d z:=by rw[Ip d C];exact DU a
    obtain⟨m,p,hu⟩:=Rz j (vW hn s) u ae;have hu:=WX hu C;have e:(A7 d (FN d s)).getD 0 ByteArray.empty=m:=by
     rw[V]at p ⊢;rw[oN.1 p];rfl
    rw[show ((A7 d (FN d s)).getD 0 ByteArray.empty,true).1=m from e];obtain⟨ar,K,B,-⟩:=(Rw (HQ p)).resolve_left sc;have H:m∈AN d:=by rw[<-B];exact Qf K hn
    have ab:=Qf a hn;obtain⟨n0,n1⟩:=T6 I a;have L:0<=BN (AM d) m:=Gl j (Fc H);have aq:=H7 (AM d) m;refine HR hk L O1 n0 O1 g O1 ((B4 hk L O1 n0 O1).2 λi hi=>?_) W;unfold Tb2 at hi ⊢;rw[E x.1 ab]at hi;rw[E m H];exact A4S j (by rw[<-B];exact DU K) hu hi
   cases hint
  intro h;rw[<-S]at h;exact⟨aj,aa,Y,h⟩
 have M:t<((AM d).length:Int):=by omega
 have N:w<((AM d).length:Int):=by omega
 rw[hF]at c;have hs:=Aw (d:=ByteArray.empty) (show f.toNat<(BM d).length by omega);rw[Wa b g M k c]at q ⊢;rw[Wa b A N k c];generalize (BM d).getD f.toNat ByteArray.empty=s at *;obtain⟨v,af⟩:=QZ b g M hs;obtain⟨ag,ah⟩:=QZ b A N hs;have hi:(FO d (AM d) t s).2=true:=by
  split at q
  .assumption
  cases q
 have J:∀x∈d,UsD d t s x->UsD d w s x:=λx a hu=>by
  obtain⟨n0,n1⟩:=T6 I a;exact⟨hu.1,HR hk n0 O1 g l A ai hu.2 X⟩
 have G:(FO d (AM d) w s).2=true:=by
  obtain⟨x,a,hu⟩:=v.1 hi;exact ag.2 ⟨x,a,J x a hu⟩
 rw[At hi,At G];obtain⟨⟨O,P⟩,Q⟩:=af hi;obtain⟨⟨R,b1⟩,b2⟩:=ah G;refine(B4 hk O (by rw[n];exact P) R (by rw[n];exact b1)).2 λi D=>?_;unfold Tb2 at D ⊢;exact(Q i).2 λx a hu=>(b2 i).1 D x a (J x a hu)
theorem nA (d:List AJ):HAp (Ad d).1:=by
 by_cases a:Am d=0
 .rw[Ko a];exact A9Q a
 have:(Ad d).1=([],[]):=by
  unfold Ad A8;rw[At a,At a]
 rw[this];exact⟨λt f c b=>by simp at b;omega,λt e f c b=>by simp at b;omega⟩
end
theorem Me (d:List AJ):(Ad d).1.1.length<=256/\(Ad d).1.2.length<=64:=by
 unfold Ad;split
 .exact⟨sc,sc⟩
 rename_i a;have a:(A8 d).2=0:=DO a;have b:Am d=0:=by
  unfold A8 at a;split at a
  .rename_i h;exact absurd a h
  rename_i h;exact DO h
 obtain⟨f,c,-⟩:=CJ b;obtain⟨-,e,-⟩:=Bc f;refine⟨?_,?_⟩
 .show (EM _ _ _).length<=256;rw[Jj,H6];exact e
 show (DI d).1.length<=64;unfold DI;rw[An (by rw[b];simp)];show ((BM d).map (MK d)).length<=64;rw[Of];exact c
structure H14 (h:AG):Prop where
 ok:FC h
 inj:JF h
 ft:bW h
 nrm:A7U h
 ap:HAp h
 b1:h.1.length<=256
 b2:h.2.length<=64
theorem Wb (d:List AJ):H14 (Ad d).1:=⟨Gp d,Sk d,m6 d,λt ht=>(WR d).nrm _ (GO.2 ⟨t,ht,rfl⟩),nA d,(Me d).1,(Me d).2⟩
theorem h14 (d:List AJ):H14 (NE d):=by
 unfold NE;split
 .exact Wb d
 exact Wb Bt
theorem R1 {ty:List Int} {x:AD} (b:x∈Ew f ty):∃i,i<f.length/\x=(ty.getD i 0,(f.getD i (0,[])).2):=by
 obtain⟨i,hi,rfl⟩:=List.getElem_of_mem b;have a:i<f.length:=by rw[Dj]at hi;exact hi
 refine⟨i,a,?_⟩;rw[<-Hg f ty a,AS,As hi];rfl
theorem Ju {α:Type} {f:List α} {i:Nat} (h:i<f.length) (d:α):f.getD i d∈f:=by
 rw[AS,As h];exact AA5 _
def Wc (p:List Int) (n:Nat):List AD:=(List.range n).map λ(i:Nat)=>((0:Int),[(p.getD i 0,(i:Int)+1)])
def CG (p:List Int) (g:List AD):List AD:=Wc p p.length++g.map λx=>(x.1,Dy p.length x.2)
theorem Oz (p:List Int) (n:Nat):(Wc p n).length=n:=by simp[Wc]
def FtP (h:AG) (p:List Int):Prop:=∀e∈p,0<=e/\e<(h.2.length:Int)
theorem VF.srt (hu:HU h) (a:VF h f):QJ f:=λx b=>by
 have:=A1A (a.str x b) (a.ft64 hu x b);exact⟨(gD _).2 (a.str x b),O1⟩
theorem aU (a b:List AD):(∃c,mY h a b c/\Kn h a b=(c,true))\/(Kn h a b=([],false)/\∀c,¬mY h a b c):=by
 unfold Kn;by_cases H:∃c,mY h a b c
 .left;rw[dif_pos H];exact⟨_,H.choose_spec,rfl⟩
 right;rw[dif_neg H];exact⟨rfl,λc d=>H ⟨c,d⟩⟩
theorem IK (f:List AD) (ty:List Int) (n:Nat):((Ew f ty).getD n (0,[])).2=(f.getD n (0,[])).2:=by
 by_cases h:n<f.length
 .rw[Hg f ty h]
 rw[AS,oF (by rw[Dj];omega),AS,oF O1]
theorem g8 {f g:List AD} (h:∀n:Nat,(f.getD n (0,[])).2=(g.getD n (0,[])).2):∀(k:Nat) (o:List Int) (n:Int),Ei f k o n=Ei g k o n
 | 0,_,_=>rfl
 | k+1,o,n=>by
  have e:A9 f k=A9 g k:=by
   funext o a;unfold A9;rw[g8 h k o a.2]
  rw[Cn,Cn,h,e]
theorem nB (hf:AX f) (h0:0<f.length) (a:AU f 0=f):gR f:=by
 have:=(aK hf (r:=0) O1 O1).2
 rwa [a]at this
theorem A1Q (b:VF h f) {ty:List Int} (ht:T7 h f.length ty):VF h (Ew f ty):=by
 have c:=Dj f ty;have g:AX (Ew f ty):=by
  refine⟨by rw[c];exact b.good.1,λx a=>?_⟩;obtain⟨i,hi,rfl⟩:=R1 a;rw[c];exact b.good.2 (f.getD i (0,[])) (Ju hi (0,[]))
 have k:∀x∈Ew f ty,∃y∈f,x.2=y.2:=λx a=>by
  obtain⟨i,hi,rfl⟩:=R1 a;exact⟨_,Ju hi (0,[]),rfl⟩
 refine⟨g,by rw[c];exact b.pos,λx a=>?_,λx a=>?_,λx a=>?_,WL g ?_,λi l m=>?_⟩
 .obtain⟨i,hi,rfl⟩:=R1 a;exact ht.get hi
 .obtain⟨y,d,e⟩:=k x a;rw[e];exact b.str y d
 .obtain⟨y,d,e⟩:=k x a;rw[e];exact b.ft y d
 .have:=nB b.good b.pos b.can;unfold gR at this ⊢;rw[c,g8 (IK f ty)];exact this
 obtain⟨j,n,o,x,a,e⟩:=b.ro i l (by rw[<-c];exact m);exact⟨j,n,o,x,by show x∈((Ew f ty).getD j.toNat (0,[])).2;rw[IK];exact a,e⟩
theorem Dz (f:List AD) (i:Nat):(Bj f).getD i 0=(f.getD i (0,[])).1:=by
 unfold Bj;rw[AS,AAR,AS];cases f[i]?<;>rfl
theorem nC {ty:List Int} (a:ty.length=f.length):Bj (Ew f ty)=ty:=by
 refine AAL (by simp[Bj,Dj,a]) λi b c=>?_;have:=Dz (Ew f ty) i;rw[Hg f ty O1]at this;simpa[AS,b,c] using this
theorem Sq {h:AG} {f:List AD} {t:Int}:∀ {l:List (Int×Int)},GS h f t l=0↔∀a∈l,(CN h t a.1).2=true/\Ah h (CN h t a.1).1 (f.getD a.2.toNat (0,[])).1=true
 | []=>⟨λ_ a ha=>(by cases ha),λ_=>rfl⟩
 | a :: l=>by
  unfold GS;rw[List.forall_mem_cons,<-Sq (l:=l)];cases h1:(CN h t a.1).2
  .simp
  cases b:Ah h (CN h t a.1).1 (f.getD a.2.toNat (0,[])).1<;>simp
theorem Nu {h:AG} {f:List AD}:∀ {l:List AD},FD h f l=0↔∀x∈l,∀a∈x.2,(CN h x.1 a.1).2=true/\Ah h (CN h x.1 a.1).1 (f.getD a.2.toNat (0,[])).1=true
 | []=>⟨λ_ a ha=>(by cases ha),λ_=>rfl⟩
 | x :: l=>by
  unfold FD;rw[List.forall_mem_cons,<-Nu (l:=l),<-Sq];by_cases h1:GS h f x.1 x.2=0
  .simp[h1]
  simp[h1]
theorem A4Y:FD h f f=0↔WTy h f (Bj f):=by
 rw[Nu];constructor
 .intro h1 i hi a ha;have:=h1 _ (Ju hi (0,[])) a ha
  rwa [Dz,Dz,jC]
 intro h1 x b a ha;obtain⟨i,hi,rfl⟩:=CM (0,[]) b;have:=h1 i hi a ha
 rwa [Dz,Dz,jC]at this
theorem g9 {n:Int}:∀ {l seen:List (Int×Int)},(∀a∈l,0<=a.1/\0<=a.2/\a.2<n)->(l.map (·.1)).Nodup->(∀y∈seen,∀x∈l,y.1≠x.1)->Gt n seen l=0
 | [],_,_,_,_=>rfl
 | x :: l,seen,h,c,hs=>by
  rw[sQ,AAA]at c;have h1:=h x sc;have f:(seen.any λy=>y.1==x.1)=false:=by
   rw[AC7];intro y b;have:=hs y b x sc;simpa using this
  unfold Gt;rw[An O1,An (by rw[f];simp)];refine g9 (λa ha=>h a (by simp[ha])) c.2 λy b z d=>?_;rcases If.1 b with b|b
  .exact hs y b z (by simp[d])
  rw[oN.1 b];exact λe=>c.1 (GO.2 ⟨z,d,e.symm⟩)
theorem A1R {m:Int} (hs:(l.map (·.1)).Nodup) (h:∀a∈l,0<=a.1/\0<=a.2/\a.2<m):HC l m=0:=g9 h hs λy b=>by cases b
theorem hJ {m:Int}:∀ {l:List AD},(∀x∈l,0<=x.1/\HC x.2 m=0)->Gu m l=0
 | [],_=>rfl
 | x :: l,h=>by
  have:=h x sc;unfold Gu;rw[An O1,An (by rw[this.2];simp)];exact hJ λy a=>h y (by simp[a])
section
variable {h:AG} (hh:H14 h)
include hh
theorem H14.hu:HU h:=⟨hh.ok,hh.inj,hh.b2⟩
omit hh in
theorem aV {f:List AD} (b:VF h f):Oq h f:=λx c a ha=>⟨b.ft x c a ha,(b.good.2 x c).2 a ha⟩
theorem iA (a:VF h f) {ty:List Int} (e:IH h f=some ty):VF h (Ew f ty)/\WTy h f ty/\T7 h f.length ty/\TE h f (Ew f ty) id:=by
 obtain⟨h1,g,d⟩:=m8 hh.ok hh.inj hh.ft hh.ap (aV a) a.ty e;refine⟨A1Q a d,h1,d,rfl,λi b c=>⟨b,by rw[Dj];exact c⟩,λi b c=>?_,λi b c x j=>?_⟩
 .have:=g i.toNat O1;rw[Dz]at this;show Ah h _ ((Ew f ty).getD i.toNat (0,[])).1=true
  rwa [Hg f ty O1]
 show BU ((Ew f ty).getD i.toNat (0,[])).2 x.1=x.2;rw[IK];exact A7O (a.srt hh.hu) j
theorem rE (n:VF h f) (p:VF h g) (D:WTy h g (Bj g)) (c:TE h f g m):∃ty,IH h f=some ty/\TE h (Ew f ty) g m:=by
 have G:=p.pos
 let u:List Int:=(List.range f.length).map λi:Nat=>(g.getD (m (i:Int)).toNat (0,[])).1
 have k:∀i:Nat,i<f.length->u.getD i 0=(g.getD (m (i:Int)).toNat (0,[])).1:=λi hi=>by
  simp[u,AS,hi]
 have q:∀i:Nat,i<f.length->(m (i:Int)).toNat<g.length/\0<=m (i:Int):=λi hi=>by
  have:=c.rng (i:Int) O1 O1;omega
 have C:T7 h f.length u:=⟨by simp[u],λt ht=>by
  obtain⟨i,hi,rfl⟩:=GO.1 ht;exact p.ty _ (Ju (q i (oS.1 hi)).1 (0,[]))⟩
 have E:WTy h f u:=λi hi a ha=>by
  have z:a∈Au f (i:Int):=by show a∈(f.getD (i:Int).toNat (0,[])).2;rwa [jC]
  have h1:=c.arc (i:Int) O1 O1 a z;obtain⟨s,F⟩:=(n.good.2 _ (Ju hi (0,[]))).2 a ha;have y:=c.rng a.2 s F;obtain⟨b,A,v,w⟩:=gM (l:=Au g (m (i:Int))) (e:=a.1) (by rw[h1];exact y.1);have o:=D _ (q i hi).1 b (by exact A);rw[Dz,Dz,v,w,h1,jC]at o;rw[jC,k i hi,k a.2.toNat O1,ABs s];exact o
 obtain⟨ty,e,B⟩:=gZ hh.ok hh.inj hh.ft hh.ap (aV n) n.ty C E λi hi=>by
  rw[Dz,k i hi];have:=c.ty (i:Int) O1 O1
  rwa [jC]at this
 refine⟨ty,e,c.zero,λi j d=>c.rng i j (by rw[Dj]at d;exact d),λi j d=>?_,λi j d x r=>?_⟩
 .rw[Dj]at d;have:=B i.toNat O1;rw[k _ O1,ABs j]at this
  rwa [Hg f ty O1]
 rw[Dj]at d;exact c.arc i j d x (by rw[Au,IK]at r;exact r)
omit hh in
theorem vZ {f:List AD} (e:HS h f=0):WTy h f (Bj f):=by
 unfold HS at e
 split at e
 .exact A4Y.1 e
 rename_i hn;exact absurd e hn
end
theorem Sr {ty:List Int} (e:IH h f=some ty):EH h f=(Ew f ty,true):=by unfold EH;rw[e]
theorem Ss (e:IH h f=none):EH h f=([],false):=by unfold EH;rw[e]
theorem T7.set {m:Nat} {u:List Int} (hu:T7 h m u) {t:Int} (b:0<=t) (c:t<(h.1.length:Int)) (i:Nat):T7 h m (u.set i t):=⟨by rw[AAt];exact hu.1,λx a=>by
 rcases ABd a with a|rfl
 .exact hu.2 x a
 exact⟨b,c⟩⟩
theorem Qv.set (hk:FC h) {m:Nat} {u:List Int} (hu:T7 h m u) {t:Int} {i:Nat} (hi:i<m) (hs:Ah h (u.getD i 0) t=true):Qv h m u (u.set i t):=λk a=>by
 rw[NG _ _ _ (by rw[hu.1];exact hi) k];split
 .rename_i e;rw[e];exact hs
 exact Ts hk (hu.get a).1 (hu.get a).2
section
variable {h:AG} (hk:FC h) (hn:A7U h) (hi:JF h) (hf:bW h) (hap:HAp h) {m:Nat}
include hk hn hi hf hap
end
section
variable {h:AG} (hk:FC h) (hn:A7U h) (hi:JF h) (hf:bW h) (hap:HAp h) {f:List AD} (ha:Oq h f)
include hk hn hi hf hap ha
end
section
attribute [local go_sem] WG
theorem A82 (hh:H14 h) (a:VF h f):A1m h f:=⟨hh.ok,hh.inj,hh.ft,gO hh.b2 df,a.good,aV a,a.ty⟩
noncomputable def aW (h:AG) (a b:List AD):List AD×Bool:=if (Kn h a b).2=true then EH h (Kn h a b).1 else ([],false)
end
theorem A1S (hk:FC h) {N:List AD} {P:List (Int×Int)}:∀(k:Nat) (p ty:List Int) (ar:List (List (Int×Int))) (W:List (Int×Int)),JI h N P p ty ar W->nR p*((Kl N).length+1)+W.length<=k ->
  (∃E G o,JI h N P E G o [])\/(∀X v,Ck h X->¬vN h N P X v):=by
 intro k;induction k with
 | zero =>
  intro p ty ar W c g;have:W=[]:=AA4 O1;subst this;exact .inl ⟨p,ty,ar,c⟩
 | succ k l =>
  intro p ty ar W c g;cases j:W.getLast? with
  | none =>
   have:W=[]:=List.getLast?_eq_none_iff.1 j;subst this;exact .inl ⟨p,ty,ar,c⟩
  | some w =>
   have r:W=W.dropLast++[w]:=by
    obtain⟨K,e⟩:=List.getLast?_eq_some_iff.1 j;rw[e];simp
   obtain⟨s,t⟩:=w;rw[r]at c g;rw[IS,nO]at g;generalize W.dropLast=V at *;obtain⟨⟨m,s1⟩,n,F⟩:=c.wr (s,t) sc;simp only at m s1 n F;obtain⟨M,fo⟩:=c.fo;have lp:=c.lp;obtain⟨a,ha,H,I⟩:=fo.root m O1;obtain⟨b,d,q,b1⟩:=fo.root n O1;by_cases f:a=b
   .subst f;exact l p ty ar V (A4I c ha d) O1
   cases i:(Cy h (ty.getD a.toNat 0) (ty.getD b.toNat 0)).2 with
   | false =>
    right;intro X v u C;have:=(qM hk c ha d u C).2.1;rw[i]at this;cases this
   | true =>
    have z:=A1s hk c ha d f i;refine l _ _ _ _ z ?_;have B:=A4J (a:=a) q b1 d.root f;have A:=qO (c.srt a.toNat) (λx D=>(c.arr a.toNat x D).2);have L:=gO (Tu (x:=ar.getD a.toNat []) (y:=ar.getD b.toNat [])) A;have J:nR p*((Kl N).length+1)=nR (p.set b.toNat a)*((Kl N).length+1)+((Kl N).length+1):=by rw[<-B,ACp,Nat.one_mul]
    rw[IS];omega
theorem Yx {h:AG} (hk:FC h) {N:List AD}:∀(R P:List (Int×Int)) (p ty:List Int) (ar:List (List (Int×Int))),(∀q∈R,(0<=q.1/\q.1<(N.length:Int))/\(0<=q.2/\q.2<(N.length:Int)))->JI h N P p ty ar [] ->
  (∃l r g,JI h N (P++R) l r g [])\/(∀X v,Ck h X->¬vN h N (P++R) X v)
 | [],P,p,ty,ar,f,e=>.inl ⟨p,ty,ar,by rw[AAu];exact e⟩
 | q :: R,P,p,ty,ar,f,e=>by
  obtain⟨a,b⟩:=q;have c:=f (a,b) sc;have i:P++(a,b) :: R=P++[(a,b)]++R:=by simp
  rw[i];rcases A1S hk _ _ _ _ _ (A1t e c.1 c.2) (On _) with ⟨m,o,n,h1⟩|k
  .exact Yx hk R (P++[(a,b)]) m o n (λq c=>f q (by simp[c])) h1
  exact .inr λX v j d=>k X v j ⟨d.rng,d.ty,d.arc,λq c=>d.eq q (wT _ c)⟩
theorem A4Z (hu:HU h) {a b X:List AD} (va:VF h a) (c:VF h b) (l:a.length+b.length<=100000) (j:Ck h X) {n o:Int->Int} (h1:TE h a X n) (f:TE h b X o):∃i,mY h a b i:=by
 have r:=Hh a b;have hap:=va.pos;have s:=c.pos;have k:=mZ va.good c.good l;rcases Yx hu.ok (N:=Ex a b) [(0,(a.length:Int))] [] _ _ _ (λq d=>by
  have e:q=(0,(a.length:Int)):=by simpa using d
  subst e;simp only;omega) (A4L k (A1y va.ty c.ty) (vR va.str c.str)) with ⟨p,ty,ar,g⟩|m
 .exact⟨_,A4K va c g (A1B g O1 (A1z (va.ft64 hu) (c.ft64 hu)))⟩
 exfalso;refine m X _ j (A1v (gQ va.good c.good (Tx h1) (Tx f)) λq d=>?_);have e:q=(0,(a.length:Int)):=by simpa using d
 subst e;try simp only
 rw[At O1,An O1,Int.sub_self,h1.zero,f.zero]
abbrev Wt (h:AG) (f:List AD):Prop:=VF h f/\WTy h f (Bj f)
def rF (h:AG) (l:List (List AD)) (X:List AD):Prop:=∀x∈l,∃m,TE h x X m
structure TU (h:AG) (l:List (List AD)) (U:List AD):Prop where
 wt:Wt h U
 hom:rF h l U
 least:∀X,Wt h X->rF h l X->∃m,TE h U X m
def Mf (h:AG) (l:List (List AD)) (r:List AD×Bool):Prop:=(r.2=true/\TU h l r.1)\/(r=([],false)/\∀X,Wt h X->¬rF h l X)
theorem Mf.congr {l l':List (List AD)} {r:List AD×Bool} (H:Mf h l r) (d:∀X,Wt h X->(rF h l X↔rF h l' X)):Mf h l' r:=by
 rcases H with ⟨h1,a⟩|⟨h1,a⟩
 .exact .inl ⟨h1,a.wt,(d _ a.wt).1 a.hom,λX b c=>a.least X b ((d X b).2 c)⟩
 exact .inr ⟨h1,λX b c=>a X b ((d X b).2 c)⟩
theorem A1T (hk:FC h) {l:List (List AD)} (c:∀x∈l,VF h x) {a X:List AD} (d:VF h a) (e:VF h X) (f:rF h l a) (g:TE h a X m):rF h l X:=λx b=>by
 obtain⟨k,q⟩:=f x b;exact⟨_,WM hk (c x b).good (c x b).ty d.ty e.ty q g⟩
theorem HV {x X:List AD}:rF h [x] X↔∃m,TE h x X m:=by simp[rF]
theorem Wd {x X:List AD} {l:List (List AD)}:rF h (x :: l) X↔(∃m,TE h x X m)/\rF h l X:=by simp[rF]
section
variable {h:AG} (hh:H14 h)
include hh
theorem A83 (c:VF h f) {ty:List Int} (e:IH h f=some ty):Wt h (Ew f ty):=by
 obtain⟨h1,a,b,-⟩:=iA hh c e;refine⟨h1,?_⟩;rw[nC b.1];intro i hi;rw[IK];exact a i (by rw[<-Dj f ty];exact hi)
theorem A50 (c:VF h f):Mf h [f] (EH h f):=by
 cases e:IH h f with
 | some ty =>
  rw[Sr e];refine .inl ⟨rfl,A83 hh c e,HV.2 ⟨_,(iA hh c e).2.2.2⟩,λX b d=>?_⟩;obtain⟨m,g⟩:=HV.1 d;obtain⟨i,a,q⟩:=rE hh c b.1 b.2 g;rw[e]at a;cases a;exact⟨m,q⟩
 | none =>
  rw[Ss e];refine .inr ⟨rfl,λX b d=>?_⟩;obtain⟨m,g⟩:=HV.1 d;obtain⟨i,a,q⟩:=rE hh c b.1 b.2 g;rw[e]at a;cases a
theorem A51 {a b:List AD} (va:VF h a) (k:VF h b) (q:a.length+b.length<=10000):Mf h [a,b] (aW h a b):=by
 unfold aW;rcases aU (h:=h) a b with ⟨l,c,e⟩|⟨e,p⟩
 .rw[e,At rfl];refine(A50 hh c.vf).congr λX g=>?_;rw[HV,Wd,HV];constructor
  .rintro⟨m,o⟩;obtain⟨i,d⟩:=c.left;obtain⟨j,f⟩:=c.right;exact⟨⟨_,WM hh.ok va.good va.ty c.vf.ty g.1.ty d o⟩,_,WM hh.ok k.good k.ty c.vf.ty g.1.ty f o⟩
  rintro⟨⟨i,d⟩,j,f⟩;exact c.least X g.1.ty i d j f
 rw[e,An Bool.false_ne_true];refine .inr ⟨rfl,λX g n=>?_⟩;rw[Wd,HV]at n;obtain⟨⟨i,d⟩,j,f⟩:=n;obtain⟨l,c⟩:=A4Z hh.hu va k O1 g.1.ty d f;exact p l c
omit hh in
theorem A1U {l l':List (List AD)} (c:∀x,x∈l↔x∈l') (X:List AD):rF h l X↔rF h l' X:=⟨λa x b=>a x ((c x).2 b),λa x b=>a x ((c x).1 b)⟩
omit hh in
theorem Mf.perm {l l':List (List AD)} {r:List AD×Bool} (H:Mf h l r) (a:∀x,x∈l↔x∈l'):Mf h l' r:=H.congr λX _=>A1U a X
omit hh in
theorem rG {a b:List AD}:(aW h a b).1.length<=a.length+b.length:=by
 unfold aW
 split
 .rename_i e
  have:=(gT e).len
  cases ht:IH h (Kn h a b).1 with
  | none=>rw[Ss ht];simp
  | some ty=>rw[Sr ht,Dj];exact this
 simp
omit hh in
theorem Mf.vf {l:List (List AD)} {r:List AD×Bool} (H:Mf h l r) (e:r.2=true):TU h l r.1:=by
 rcases H with ⟨-,b⟩|⟨a,-⟩
 .exact b
 rw[a]at e;cases e
end
theorem Kq (p:List Int) (g:List AD):(CG p g).length=p.length+g.length:=by simp[CG,Wc]
theorem Su {g:List AD} {i:Int} (a:0<=i) (b:i<(p.length:Int)):(CG p g).getD i.toNat (0,[])=(0,[(p.getD i.toNat 0,i+1)]):=by grind [CG,Oz,Wc]
theorem Qg {g:List AD} {y:Int} (a:0<=y) (b:y<(g.length:Int)):(CG p g).getD ((p.length:Int)+y).toNat (0,[])=((g.getD y.toNat (0,[])).1,Dy p.length (g.getD y.toNat (0,[])).2):=by
 unfold CG;have e:((p.length:Int)+y).toNat=p.length+y.toNat:=by omega
 rw[e,AS,AAa (by rw[Oz];omega),Oz,ACh];rw[<-AS];exact Yj (λx:AD=>(x.1,Dy p.length x.2)) (0,[]) (0,[]) O1
theorem Kr {g:List AD} {x:AD} (a:x∈CG p g):(∃i,i<p.length/\x=(0,[(p.getD i 0,(i:Int)+1)]))\/∃y∈g,x=(y.1,Dy p.length y.2):=by
 rcases If.1 a with h|h
 .obtain⟨i,hi,rfl⟩:=GO.1 h;exact .inl ⟨i,by simpa using hi,rfl⟩
 obtain⟨y,b,rfl⟩:=GO.1 h;exact .inr ⟨y,b,rfl⟩
theorem nD {b:Nat} (h:W5 l):W5 (Dy b l):=by
 unfold Dy W5;rw[AAN];exact h
theorem Sv {g:List AD} (l:p.length<=1000) (c:AX g) (j:0<g.length) (k:g.length<=10000):AX (CG p g):=by
 have d:=Kq p g;refine⟨O1,λx h=>?_⟩;rcases Kr h with ⟨i,hi,rfl⟩|⟨y,e,rfl⟩
 .refine⟨sc,λa ha=>?_⟩;have:a=(p.getD i 0,(i:Int)+1):=by simpa using ha
  subst this;rw[d];simp only;omega
 refine⟨by unfold Dy;rw[Of];exact(c.2 y e).1,λa ha=>?_⟩;obtain⟨b,f,rfl⟩:=GO.1 ha;have:=(c.2 y e).2 b f;rw[d];simp only;omega
theorem v7 (vf:VF h f):Ei f f.length [] 0=(List.range f.length).map λ(i:Nat)=>(i:Int):=by
 have q:=vf.pos;have d:=Km vf.good (r:=0) O1 O1;have l:=Ma f 0;have c:=λi=>MZ (f:=f) (r:=0) (i:=i);rw[vf.can]at l;simp only[vf.can]at c;generalize p:Ei f f.length [] 0=o at *;have m:TE h f f (λi=>o.getD i.toNat 0):=by
  refine⟨d.zero.1,λi g j=>d.ok.rng _ (AF o 0 O1),λi g j=>?_,λi g j a ha=>?_⟩
  .rw[c i.toNat O1];exact Ro h _
  rw[Au,c i.toNat O1]at ha;obtain⟨b,e,rfl⟩:=GO.1 ha;have k:=d.cl _ (AF o 0 O1) b e;show BU (Au f (o.getD i.toNat 0)) b.1=o.getD (FQ o b.2).toNat 0;rw[(F3 k).2.2];exact QU (aL vf.str _) e
 have hu:=A1w vf.ro m (A1x vf.str);apply AAL
 .rw[Of,ABT];omega
 intro i h1 n;rw[ACc,ACi];have:=hu i (i:Int) O1 O1 O1;simp only[jC,id]at this;rw[<-this,AS,As h1];rfl
theorem v8 (hf:AX f) (h:Ei f f.length [] 0=(List.range f.length).map λ(i:Nat)=>(i:Int)):AU f 0=f:=by
 unfold AU;generalize q:Ei f f.length [] 0=l at *;have r:l.length=f.length:=by rw[h];simp
 have b:∀k,(hk:k<l.length)->l[k]=(k:Int):=λk hk=>by subst h;simp
 clear h;have o:l.Nodup:=by
  unfold List.Nodup;rw[iN];intro i j hi n p e;rw[b i hi,b j n]at e;omega
 have m:∀x,0<=x->x<(l.length:Int)->FQ l x=x:=λx s t=>by
  have:=Js o (i:=x.toNat) O1;have e:l.getD x.toNat 0=x:=by
   rw[AS,As O1];show l[x.toNat]=x;rw[b _ O1];omega
  rw[e]at this;rw[this];omega
 apply AAL
 .rw[Of];omega
 intro i h1 c;rw[ACc,b i (by simpa using h1)];have d:f.getD (i:Int).toNat (0,[])=f[i]:=by simp[AS,c]
 unfold Jl;rw[d];have:∀a∈f[i].2,NS l a=a:=λa ha=>by
  have g:=(hf.2 _ (AA5 c)).2 a ha;unfold NS;rw[m a.2 g.1 O1]
 rw[AAe this,List.map_id']
theorem rH {Q R:List AD} {c:Int->Int} {d:Int->Prop} (h:Iso Q R c d) {pre:List Int} (m:∀i,d i->c i∉pre):∀(k:Nat) (t:List Int) (i:Int),(∀x∈t,d x)->d i->Ei R k (pre++t.map c) (c i)=pre++(Ei Q k t i).map c/\∀x∈Ei Q k t i,d x
 | 0,t,i,ht,hi=>⟨rfl,ht⟩
 | k+1,t,i,ht,hi=>by
  have key:∀(l:List (Int×Int)) (t:List Int),(∀a∈l,d a.2)->(∀x∈t,d x) ->
    (l.map λa=>(a.1,c a.2)).foldl (A9 R k) (pre++t.map c)=pre++(l.foldl (A9 Q k) t).map c/\∀x∈l.foldl (A9 Q k) t,d x:=by
   intro l;induction l with
   | nil=>intro t _ ht;exact⟨rfl,ht⟩
   | cons a l q =>
    intro t j ht;have ha:=j a sc;have hs:A9 R k (pre++t.map c) (a.1,c a.2)=pre++(A9 Q k t a).map c/\∀x∈A9 Q k t a,d x:=by
     unfold A9;by_cases g:a.2∈t
     .rw[At g,At (If.2 (.inr (GO.2 ⟨_,g,rfl⟩)))];exact⟨rfl,ht⟩
     have p:¬c a.2∈pre++t.map c:=by
      intro hh;rcases If.1 hh with hh|hh
      .exact m _ ha hh
      obtain⟨x,f,e⟩:=GO.1 hh;exact g (h.inj x a.2 (ht x f) ha e▸f)
     rw[An g];simp only[An p];exact rH h m k t a.2 ht ha
    rw[sQ,OS,OS,hs.1];exact q _ (λb o=>j b (by simp[o])) hs.2
  rw[Cn,Cn];have e:pre++t.map c++[c i]=pre++(t++[i]).map c:=by simp
  have n:(R.getD (c i).toNat (0,[])).2=(Au Q i).map λa=>(a.1,c a.2):=h.arc i hi;rw[n,e];refine key _ _ (h.cl i hi) λx f=>?_;rcases If.1 f with f|f
  .exact ht x f
  have:x=i:=by simpa using f
  rw[this];exact hi
abbrev aX (n:Nat):List Int:=(List.range n).map λ(i:Nat)=>(i:Int)
theorem iB {n:Nat} (h:x∈aX n):0<=x/\x<(n:Int):=by grind
theorem v9 (n:Nat):aX (n+1)=aX n++[(n:Int)]:=by unfold aX;rw[AAz,AAT];rfl
theorem We {p:List Int} {g:List AD}:∀(r j:Nat) (k:Nat),j+r=p.length->Ei (CG p g) (r+k) (aX j) (j:Int)=Ei (CG p g) k (aX p.length) (p.length:Int)
 | 0,j,k,h=>by rw[show j=p.length by omega,AAY]
 | r+1,j,k,h=>by
  rw[show r+1+k=(r+k)+1 by omega,Cn,Su O1 O1,jC];show A9 (CG p g) (r+k) (aX j++[(j:Int)]) (p.getD j 0,(j:Int)+1)=_;rw[<-v9];unfold A9;rw[An (λa=>by have:=iB a;simp only at this;omega)];have e:((j:Int)+1)=((j+1:Nat):Int):=by omega
  simp only[e];exact We r (j+1) k O1
theorem wA {g:List AD} (b:VF h g) (n:p.length<=1000) (l:g.length<=10000):AU (CG p g) 0=CG p g:=by
 have f:=b.pos;refine v8 (Sv n b.good f l) ?_;rw[Kq];have d:=We (p:=p) (g:=g) p.length 0 g.length O1;rw[show aX 0=[] from rfl,show ((0:Nat):Int)=0 from rfl]at d;rw[d];have k:Iso g (CG p g) (λi=>(p.length:Int)+i) (λi=>0<=i/\i<(g.length:Int)):=by
  refine⟨λi hi=>?_,λi hi a ha=>Cc b.good ha,λi j hi q e=>by have e:(p.length:Int)+i=(p.length:Int)+j:=e;omega⟩;rw[Au,Qg hi.1 hi.2];show Dy p.length (Au g i)=_;unfold Dy;refine AAe λa _=>?_;show (a.1,a.2+(p.length:Int))=(a.1,(p.length:Int)+a.2);rw[Int.add_comm]
 have c:=(rH k (pre:=aX p.length) (λi hi m=>by have:=iB m;omega) g.length [] 0 (λx o=>by cases o) ⟨O1,O1⟩).1;rw[ABK,AAu,ACR,v7 b]at c;rw[c];rw[List.range_add,AAT,ABm,ABm];refine ABj _ (AAe λi _=>?_);show (p.length:Int)+(i:Int)=((p.length+i:Nat):Int);omega
theorem A1V (h0:0<h.1.length) {g:List AD} (d:VF h g) (m:FtP h p) (l:p.length<=1000) (k:g.length<=10000):VF h (CG p g):=by
 have o:=d.pos;have r:=Kq p g;refine⟨Sv l d.good o k,O1,λx c=>?_,λx c=>?_,λx c a ha=>?_,wA d l k,λi s t=>?_⟩
 .rcases Kr c with ⟨i,hi,rfl⟩|⟨y,f,rfl⟩
  .exact⟨sc,a2⟩
  exact d.ty y f
 .rcases Kr c with ⟨i,hi,rfl⟩|⟨y,f,rfl⟩
  .exact List.pairwise_singleton _ _
  exact nD (d.str y f)
 .rcases Kr c with ⟨i,hi,rfl⟩|⟨y,f,rfl⟩
  .have:a=(p.getD i 0,(i:Int)+1):=by simpa using ha
   rw[this];exact m _ (Aw hi)
  obtain⟨b,n,rfl⟩:=GO.1 ha;exact d.ft y f b n
 by_cases hi:i<=(p.length:Int)
 .refine⟨i-1,O1,O1,(p.getD (i-1).toNat 0,i-1+1),?_,a2⟩;rw[Au,Su O1 O1];exact oN.2 rfl
 obtain⟨j,q,u,x,c,e⟩:=d.ro (i-p.length) O1 O1;refine⟨(p.length:Int)+j,O1,O1,(x.1,x.2+(p.length:Int)),?_,a2⟩;rw[Au,Qg q O1];exact GO.2 ⟨x,c,rfl⟩
theorem wB (hf:AX f) {r:Int} (l:0<=r) (m:r<(f.length:Int)):AX (AU f r)/\0<(AU f r).length:=by
 have c:=Km hf l m;have h:=Ma f r;have g:=λi=>MZ (f:=f) (r:=r) (i:=i);generalize p:Ei f f.length [] r=o at *;have q:=c.ok.len;have n:=hf.1;have t:=c.zero.2;refine⟨⟨O1,λx j=>?_⟩,O1⟩;obtain⟨i,hi,rfl⟩:=CM (0,[]) j;rw[g i O1];have d:o.getD i 0∈o:=AF o 0 O1;have s:=c.ok.rng _ d;refine⟨?_,λa ha=>?_⟩
 .show (List.map (NS o) _).length<=_;rw[Of];exact(hf.2 _ (AF f (0,[]) (k:=(o.getD i 0).toNat) O1)).1
 obtain⟨b,e,rfl⟩:=GO.1 ha;have:=F3 (c.cl _ d b e);rw[h];exact⟨this.1,this.2.1⟩
theorem A52 (hf:AX f) (ht:Ck h f) {r:Int} (c:0<=r) (d:r<(f.length:Int)):Ck h (AU f r):=by
 have a:=Km hf c d;intro x b;obtain⟨n,hn,rfl⟩:=GO.1 b;have e:=a.ok.rng n hn;exact ht (f.getD n.toNat (0,[])) (AF f (0,[]) (k:=n.toNat) O1)
structure PF (h:AG) (S:List AD):Prop where
 good:AX S
 pos:0<S.length
 ty:Ck h S
 str:∀x∈S,W5 x.2
 ft:∀x∈S,∀a∈x.2,0<=a.1/\a.1<(h.2.length:Int)
theorem iC {S:List AD} (a:AX S) {r:Int} (c:0<=r) (d:r<(S.length:Int)):∀x∈AU S r,∃n∈Ei S S.length [] r,(0<=n/\n<(S.length:Int))/\x=Jl S (Ei S S.length [] r) n:=λx b=>by
 obtain⟨n,hn,rfl⟩:=GO.1 b;exact⟨n,hn,(Km a c d).ok.rng n hn,rfl⟩
theorem rI {S:List AD} (b:AX S) {r:Int} (c:0<=r) (d:r<(S.length:Int)):RO (AU S r):=by
 have k:=Km b c d;have h:=WH b S.length [] r (Kk _) c d sc;have p:=Ma S r;have g:=λi=>MZ (f:=S) (r:=r) (i:=i);generalize AU S r=l at *;generalize Ei S S.length [] r=o at *;intro i m n;obtain⟨j,q,a,ha,e⟩:=h i.toNat (by simp only[AAl];omega) O1;refine⟨(j:Int),O1,O1,NS o a,?_,?_⟩
 .rw[Au,jC,g j O1];exact GO.2 ⟨a,ha,rfl⟩
 show FQ o a.2=i;rw[e,Js k.ok.nd O1];omega
theorem A84 {S:List AD} (p:PF h S) {r:Int} (c:0<=r) (d:r<(S.length:Int)):VF h (AU S r):=by
 have f:=wB p.good c d;refine⟨f.1,f.2,A52 p.good p.ty c d,λx e=>?_,λx e a ha=>?_,gS p.good c d,rI p.good c d⟩
 .obtain⟨n,-,hn,rfl⟩:=iC p.good c d x e;show List.Pairwise _ (List.map _ _);rw[AAN];exact(aL p.str n).imp λh=>h
 obtain⟨n,-,hn,rfl⟩:=iC p.good c d x e;obtain⟨b,g,rfl⟩:=GO.1 ha;exact p.ft _ (AF S (0,[]) O1) b g
def A9R (f:List AD) (e:Int):List (Int×Int):=(f.getD 0 (0,[])).2.filter λa=>a.1 != e
def A9S (f:List AD) (e:Int):List AD:=((f.getD 0 (0,[])).1,Dy 1 (A9R f e)) :: f.map λx=>(x.1,Dy 1 x.2)
def A6k (f:List AD) (e:Int):List AD:=AU (A9S f e) 0
def F8 (l:List (Int×Int)) (e:Int):Int×Bool:=match l with
 | []=>(0,false)
 | a :: l=>if a.1=e then (a.2,true) else F8 l e
theorem Wf (e:Int) (l:List (Int×Int)) (h:k<l.length):F8 (l.drop k) e=if (l.getD k (0,0)).1=e then ((l.getD k (0,0)).2,true) else F8 (l.drop (k+1)) e:=by
 rw[OR h];have e:l.getD k (0,0)=l[k]:=by simp[AS,h]
 rw[e];rfl
def A1W:AZ:={ ins:=[E7,T3,T3],pre:=λ(f,n,_,_)=>K0 f/\0<=n/\n<(List.length f:Int),out:=λ(f,n,e,_)=>[.p T3 (F8 (List.getD f n.toNat (0,[])).2 e).1,.p .bool (F8 (List.getD f n.toNat (0,[])).2 e).2] }
theorem A53:Ac Tryz.prog 128 A1W:=by
 refine fK [0,1,2,3,6,7,9,15,16,17,18,24] Tryz.func128 Tryz.ntmps128 AH ?_;rintro w0 O0 ⟨f,n,e,u⟩ c-⟨hf,h0,h1⟩;simp only[A1W,AL];repeat'(first|exact a6|apply eS rfl|apply AB|refine rX c ?_ ?_|refine rC ?_ ?_<;>intro a<;>try(cases a;done))
 .exact⟨h0,h1⟩
 generalize g:(f.getD n.toNat (0,[])).2=xs at *;have i:xs.length<=100000:=by
  rw[<-g];have hn:n.toNat<f.length:=by
   have h0:(0:Int)<=n:=h0;have h1:(n:Int)<(List.length f:Int):=h1;exact(ACP h0).2 h1
  exact hf.2 _ (AF f (0,[]) hn)
 refine AI (ι:={k:Nat//k<=xs.length/\F8 xs e=F8 (xs.drop k) e}) (λk=>⟨[(2,.p T3 e),(15,.p NQ xs),(16,.p (.int .i64) (xs.length:Int)),(17,.p (.int .i64) (k.1:Int))],[]⟩) (λk=>xs.length-k.1) ⟨0,Do _,rfl⟩ (AC [] rfl rfl ?_ ?_) (λk=>?_)
 .first|exact eN|refine eM ?_
 .first|exact eN|refine eM ?_
 obtain⟨k,hk,d⟩:=k;repeat'(first|exact a6|apply eS rfl|apply AB|refine rX c ?_ ?_|refine rC ?_ ?_<;>intro a<;>try(cases a;done))
 .exact a
 .have b:k<xs.length:=f4.1 a4;have h:=Wf e xs b;rw[At a]at h;rw[d,h];exact fI c [.tmp 6,.tmp 7]
 .omega
 .have b:k<xs.length:=f4.1 a4;have h:=Wf e xs b;rw[An a]at h;refine⟨⟨k+1,b,d.trans h⟩,a2,AC [] rfl rfl ?_ ?_⟩
  .first|exact eN|refine eM ?_
  first|exact eN|refine eM ?_
 have b:xs.drop k=[]:=Is (AA7.1 a);rw[b]at d;rw[d];exact fI c [.tmp 6,.tmp 7] (by first|exact eR|refine KP ?_;exact⟨rfl,rfl⟩)
section
attribute [local go_sem] A1W
def TF (f:List AD):Int->List Int->Int×Bool
 | n,[]=>(n,true)
 | n,e :: p=>if (F8 (Au f n) e).2=true then TF f (F8 (Au f n) e).1 p else (0,false)
theorem R2 (h:k<p.length):p.drop k=p.getD k 0 :: p.drop (k+1):=by
 rw[OR h];simp[AS,h]
theorem A1X {e:Int} (h:(F8 l e).2=true):∃a∈l,a.1=e/\a.2=(F8 l e).1:=by
 induction l with
 | nil=>simp[F8]at h
 | cons a l g =>
  simp only[F8]at h ⊢;split
  .rename_i c;exact⟨a,sc,c,rfl⟩
  rename_i c;rw[An c]at h;obtain⟨b,f,h1,d⟩:=g h;exact⟨b,by simp[f],h1,d⟩
def atS:AZ:={ ins:=[E7,Bx],pre:=λ(f,_,_)=>AX f/\0<List.length f,out:=λ(f,p,_)=>[.p T3 (TF f 0 p).1,.p .bool (TF f 0 p).2] }
attribute [local go_sem] atS
theorem A9T:Ac Tryz.prog 80 atS:=by
 refine fK [0,1,2,4,5,6,8,9,10,11,12,13,14,25] Tryz.func80 Tryz.ntmps80 (AE A53 AH) ?_;rintro w0 O0 ⟨f,p,u⟩ e ⟨-,⟨i,-⟩,-⟩ ⟨hf,h0⟩;simp only[AP]at i;simp only[atS,AL];have j:K0 f:=⟨hf.1,λx l=>(hf.2 x l).1⟩;have h0:0<f.length:=h0;repeat'(first|exact a6|apply eS rfl|apply AB|refine rX e ?_ ?_|refine rC ?_ ?_<;>intro b<;>try(cases b;done))
 refine AI (ι:={s:Nat×Int//s.1<=p.length/\(0<=s.2/\s.2<(f.length:Int))/\TF f 0 p=TF f s.2 (p.drop s.1)}) (λs=>⟨[(2,.bp 2 [] 0),(6,.p T3 s.1.2),(11,.p Bx p),(12,.p (.int .i64) (p.length:Int)),(13,.p (.int .i64) (s.1.1:Int))],[(2,.box 34 true [.p Ij f])]⟩) (λs=>p.length-s.1.1) ⟨(0,0),Do _,⟨ABN 0,by show (0:Int)<_;omega⟩,rfl⟩ (AC [(2,.nm 2)] rfl rfl ?_ ?_) (λs=>?_)
 .first|exact eN|refine eM ?_
 .first|exact eN|refine eM ?_
 obtain⟨⟨k,n⟩,hk,hn,d⟩:=s;simp only at hk hn d ⊢;repeat'(first|exact a6|apply eS rfl|apply AB|refine rX e ?_ ?_|refine rC ?_ ?_<;>intro b<;>try(cases b;done))
 .exact b
 .exact⟨j,hn⟩
 .have c:k<p.length:=f4.1 a4;have h1:TF f 0 p=(0,false):=by
   rw[d,R2 c];simp only[TF];rw[An (by rw[b];simp)]
  exact fI e [.tmp 4,.tmp 5] (by rw[h1];exact eR)
 .omega
 .have c:k<p.length:=f4.1 a4;have h1:=d;rw[R2 c]at h1;simp only[TF]at h1;rw[At b]at h1;obtain⟨a,ha,-,h⟩:=A1X b;have g:=Cc hf ha;rw[h]at g;refine⟨⟨(k+1,(F8 (f.getD n.toNat (0,[])).2 (p.getD k 0)).1),c,g,h1⟩,a2,AC [(2,.nm 2)] rfl rfl ?_ ?_⟩
  .first|exact eN|refine eM ?_
  first|exact eN|refine eM ?_
 have c:p.drop k=[]:=Is (AA7.1 b);rw[c]at d;exact fI e [.tmp 4,.tmp 5] (by rw[d];first|exact eR|refine KP ?_;exact⟨rfl,rfl⟩)
end
def iD (h:AG):Int:=BO h (sb [65,82,71,83])
def nE (h:AG) (i:Nat):List Int:=iD h :: (List.replicate i (Bp h).rest++[(Bp h).first])
theorem A54 (h:AG) (i:Nat):(nE h i).length=i+2:=by simp[nE]
def IL (pl:Nat->List Int):Nat->List (List AD)->List (List AD)
 | _,[]=>[]
 | i,k :: l=>CG (pl i) k :: IL pl (i+1) l
noncomputable def GT (h:AG) (pl:Nat->List Int):Nat->List AD->List (List AD)->List AD×Bool
 | _,f,[]=>(f,true)
 | i,f,k :: l=>if (aW h f (CG (pl i) k)).2=true then GT h pl (i+1) (aW h f (CG (pl i) k)).1 l else ([],false)
theorem Wg {pl:Nat->List Int} {x:List AD}:∀ {l:List (List AD)} {i:Nat},x∈IL pl i l->∃j,j<l.length/\x=CG (pl (i+j)) (l.getD j [])
 | k :: l,i,h=>by
  rcases By.1 h with rfl|h
  .exact⟨0,sc,rfl⟩
  obtain⟨j,a,rfl⟩:=Wg h;exact⟨j+1,by simpa using a,by rw[show i+(j+1)=i+1+j by omega];rfl⟩
theorem Wh {h:AG} {pl:Nat->List Int}:∀ {l:List (List AD)} {i:Nat} {f:List AD},(∀x∈IL pl i l,x.length<=100)->(GT h pl i f l).1.length<=f.length+100*l.length
 | [],i,f,_=>On _
 | k :: l,i,f,c=>by
  unfold GT;split
  .have h1:=rG (h:=h) (a:=f) (b:=CG (pl i) k);have e:=c _ (jB (a:=CG (pl i) k) (l:=IL pl (i+1) l));have g:=Wh (h:=h) (pl:=pl) (l:=l) (i:=i+1) (f:=(aW h f (CG (pl i) k)).1) λx d=>c x (IF _ d);simp only[NO];omega
  simp
section
variable {h:AG} (hh:H14 h)
include hh
theorem Wi {pl:Nat->List Int}:∀(l:List (List AD)) (i:Nat) (f:List AD) (L:List (List AD)),Mf h L (f,true)->(∀x∈L,VF h x)->(∀x∈IL pl i l,VF h x/\x.length<=100)->f.length+100*l.length<=10000->Mf h (L++IL pl i l) (GT h pl i f l)
 | [],i,f,L,H,o,q,r=>by
  show Mf h (L++[]) (f,true);rw[AAu];exact H
 | k :: l,i,f,L,H,o,q,r=>by
  have hu:=q _ (jB (a:=CG (pl i) k) (l:=IL pl (i+1) l));have g:=H.vf rfl;simp only[NO]at r;have ht:=rG (h:=h) (a:=f) (b:=CG (pl i) k);have hs:Mf h (L++[CG (pl i) k]) (aW h f (CG (pl i) k)):=by
   refine(A51 hh g.wt.1 hu.1 (by have:=hu.2;show f.length+_<=10000;omega)).congr λX j=>?_;rw[Wd,HV];constructor
   .rintro⟨⟨m,d⟩,s⟩ x t;rcases If.1 t with c|c
    .exact A1T hh.ok o g.wt.1 j.1 g.hom d x c
    rw[oN.1 c];exact s
   intro n;exact⟨g.least X j λx d=>n x (wT _ d),n _ (AAZ _ (oN.2 rfl))⟩
  show Mf h (L++CG (pl i) k :: IL pl (i+1) l) (GT h pl i f (k :: l));unfold GT;split
  .rename_i p;have:=Wi l (i+1) (aW h f (CG (pl i) k)).1 (L++[CG (pl i) k]) (by rw[<-p];exact hs) (λx d=>by
    rcases If.1 d with c|c
    .exact o x c
    rw[oN.1 c];exact hu.1) (λx d=>q x (IF _ d)) O1
   rwa [AA8,AC3]at this
  rename_i p;refine .inr ⟨rfl,λX j n=>?_⟩;rcases hs with ⟨e,-⟩|⟨-,u⟩
  .exact p e
  refine u X j λx d=>n x ?_;rcases If.1 d with c|c
  .exact wT _ c
  exact AAZ _ (by rw[oN.1 c];exact jB)
omit hh in
theorem wC {f:List AD} (a:Wt h f):Mf h [f] (f,true):=.inl ⟨rfl,a,HV.2 ⟨id,A1x a.1.str⟩,λ_ _ b=>HV.1 b⟩
end
theorem A85 (e:LQ h=true) (ha:0<=iD h) (i:Nat):FtP h (nE h i):=by
 obtain⟨⟨h1,b⟩,-⟩:=Yf e;have c:=GZ h (sb [70,73,82,83,84]);have d:=GZ h (sb [82,69,83,84]);have f:=GZ h (sb [65,82,71,83]);intro x a;rcases By.1 a with rfl|a
 .exact⟨ha,f.2⟩
 rcases If.1 a with a|a
 .rw[(List.mem_replicate.1 a).2];exact⟨b,d.2⟩
 rw[oN.1 a];exact⟨h1,c.2⟩
structure A86 (h:AG) (ar:Int) (f:List AD):Prop where
 arb:1<=ar/\ar<=2
 chk:HS h f=0
 args:0<=iD h
 lw:LQ h=true
 walk:∀i:Nat,(i:Int)<ar->∃n,A6e f 0 (nE h i)=some n
section
attribute [local go_sem] Ov Ou WF
def Dl (h:AG) (w:LW):Obj:=.box 248 true [.p FL h,.p T3 w.list,.p T3 w.cons,.p T3 w.null,.p T3 w.dlist,.p T3 w.first,.p T3 w.rest,.p T3 w.head,.p T3 w.last]
theorem A1Y (h:AG) (w:LW) (f:List AD) (n:Int):BE Tryz.prog 170 [.p d5 (wdF h w),.p E7 f,.p T3 n] [] [] (λres c=>res=.clo 187 [5,3,4]/\c=[(5,.box 3 false [.p T3 n]),(4,.box 34 true [.p Ij f]),(3,Dl h w)]):=by
 refine Jx [0,1,2,3,4,5,6] [] [] Tryz.func170 Tryz.ntmps170 AH ?_;intro w0 K O0 ρ0 a d e;simp only[Ap,wdF];repeat'(first|exact a6|apply eS rfl|apply AB|refine rX a ?_ ?_|refine rC ?_ ?_<;>intro b<;>try(cases b;done))
 exact fM a [.tmp 6] (.clo 187 [5,3,4]) eT ⟨rfl,rfl⟩
abbrev WS:=List Int×List Int×Bool×Int
def AW (f:List AD) (n:Int):AD:=f.getD n.toNat (0,[])
def Yy (h:AG) (w:LW) (f:List AD) (s:WS):WS:=(s.1++[s.2.2.2],if D7 h w (AW f s.2.2.2)=2 then s.2.1++[BU (AW f s.2.2.2).2 w.first] else s.2.1,decide (D7 h w (AW f s.2.2.2)=1),BU (AW f s.2.2.2).2 w.rest)
def Bd (h:AG) (w:LW) (f:List AD) (n:Int):Nat->WS
 | 0=>([],[],false,n)
 | i+1=>Yy h w f (Bd h w f n i)
def WGo (h:AG) (w:LW) (f:List AD) (n:Int) (i:Nat):Prop:=∀j,j<i->D7 h w (AW f (Bd h w f n j).2.2.2)=2/\(Bd h w f n j).2.2.2∉(Bd h w f n j).1
theorem Qh {h:AG} {w:LW} {f:List AD} {n:Int} (hf:AX f) (n0:0<=n) (n1:n<(f.length:Int)):∀i,WGo h w f n i->M9 f (Bd h w f n i).1/\(Bd h w f n i).1.length=i/\(0<=(Bd h w f n i).2.2.2/\(Bd h w f n i).2.2.2<(f.length:Int))/\(Bd h w f n i).2.1.length=i
 | 0,_=>⟨Kk f,rfl,⟨n0,n1⟩,rfl⟩
 | i+1,c=>by
  obtain⟨h1,d,a,e⟩:=Qh hf n0 n1 i (λj l=>c j O1);obtain⟨b,g⟩:=c i O1;have hk:=Ye b;refine⟨h1.snoc a.1 a.2 g,?_,⟨hk.2,?_⟩,?_⟩
  .show ((Bd h w f n i).1++_).length=_;rw[IS,d];rfl
  .exact Kj O1 _ λx k=>(Cc hf (n:=(Bd h w f n i).2.2.2) k).2
  show (if _ then _ else _:List Int).length=_;rw[At b,IS,e];rfl
def HD (L:Go.Loop):Go.Loop:={ L with state:=.done,pending:=some .ret }
end
section
attribute [local go_sem] QQ Jr WD X4 LP LK Nj KW JH OX
theorem Ga (h:AG) (s:ByteArray):Ar h s<(h.1.length:Int):=by
 have:=aG s h.1 0;unfold Ar;omega
def Mg (h:AG) (s:ByteArray) (t:Int):Bool:=decide (0<=Ar h s)&&Ah h (Ar h s) t
def iE:AZ:={ ins:=[FL,T9,T3],pre:=λ(h,_,t,_)=>FC h/\(0:Int)<=t/\t<(List.length (h:AG).1:Int),out:=λ(h,s,t,_)=>[.p .bool (Mg h s t)],lend:=true }
attribute [local go_sem] iE
theorem nF:Ac Tryz.prog 34 iE:=by
 refine fK [0,1,2,3,6,7] Tryz.func34 Tryz.ntmps34 (AE ND (AE Jo AH)) ?_;rintro w0 O0 ⟨h,s,t,u⟩ a-⟨hk,h0,h1⟩;have hk:FC h:=hk;have c:(h.1,h.2)=h:=rfl;have d:=Ga h s;simp only[iE,AL];repeat'(first|exact a6|apply eS rfl|apply AB|refine rX a ?_ ?_|refine rC ?_ ?_<;>intro b<;>try(cases b;done))
 all_goals try simp only[c]at *
 .exact λe=>⟨⟨⟨e,d⟩,h0,h1⟩,hk⟩
 exact fI a [.tmp 6] (by first|exact eR|refine KP ?_;rfl)
def Bu (h:AG) (t:Int):ByteArray :=
 if Mg h ⟨#[104,97,110,100,108,101]⟩ t=true then ⟨#[104]⟩ else if Mg h ⟨#[101,118,101,110,116]⟩ t=true then ⟨#[101]⟩
 else if Mg h ⟨#[101,110,116,105,116,121]⟩ t=true then ⟨#[120]⟩ else if Mg h ⟨#[105,110,100,101,120]⟩ t=true then ⟨#[105]⟩ else ⟨#[]⟩
def aY:AZ:={ ins:=[FL,T3],pre:=λ(h,t,_)=>FC h/\(0:Int)<=t/\t<(List.length (h:AG).1:Int),out:=λ(h,t,_)=>[.p T9 (Bu h t)],lend:=true }
attribute [local go_sem] aY
theorem wD:Ac Tryz.prog 12 aY:=by
 refine fK [0,1,2,4,5,9,13,17] Tryz.func12 Tryz.ntmps12 (AE nF AH) ?_;rintro w0 O0 ⟨h,t,u⟩ c-⟨hk,h0,h1⟩;have hk:FC h:=hk;have f:FC h/\(0:Int)<=t/\t<(h.1.length:Int):=⟨hk,h0,h1⟩;have i:(h.1,h.2)=h:=rfl;simp only[aY,AL];repeat'(first|exact a6|apply eS rfl|apply AB|refine rX c ?_ ?_|refine rC ?_ ?_<;>intro b<;>try(cases b;done))
 all_goals try simp only[i]at *
 .exact f
 .have e:Bu h t=⟨#[104]⟩:=At b;exact fI c [.tmp 4] (by rw[e];exact eR)
 .exact f
 .rename_i a;have e:Bu h t=⟨#[101]⟩:=(An (by rw[a];simp)).trans (At b);exact fI c [.tmp 4] (by rw[e];exact eR)
 .exact f
 .rename_i a d;have e:Bu h t=⟨#[120]⟩:=(An (by rw[a];simp)).trans ((An (by rw[d];simp)).trans (At b));exact fI c [.tmp 4] (by rw[e];exact eR)
 .exact f
 .rename_i a d g;have e:Bu h t=⟨#[105]⟩:=(An (by rw[a];simp)).trans ((An (by rw[d];simp)).trans ((An (by rw[g];simp)).trans (At b)));exact fI c [.tmp 4] (by rw[e];exact eR)
 rename_i a d g;have e:Bu h t=⟨#[]⟩:=(An (by rw[a];simp)).trans ((An (by rw[d];simp)).trans ((An (by rw[g];simp)).trans (An (by rw[b];simp))));exact fI c [.tmp 4] (by rw[e];exact eR)
def AQ (h:AG) (f:List AD) (n:Int) (s:ByteArray):Int:=if 0<=BO h s then BU (AW f n).2 (BO h s) else -1
def R3:AZ:={ ins:=[FL,E7,T3,T9],pre:=λ(_,f,n,_)=>AX f/\(0:Int)<=n/\n<(List.length f:Int),out:=λ(h,f,n,s,_)=>[.p T3 (AQ h f n s)],lend:=true }
attribute [local go_sem] R3
theorem Qi:Ac Tryz.prog 39 R3:=by
 refine fK [0,1,2,3,4,5,8,9,10,26,40] Tryz.func39 Tryz.ntmps39 (AE mT AH) ?_;rintro w0 O0 ⟨h,f,n,s,u⟩ b-⟨g,h0,h1⟩;have g:AX f:=g;have l:(h.1,h.2)=h:=rfl;have h0:0<=n:=h0;have h1:n<(f.length:Int):=h1;simp only[R3,AL];repeat'(first|exact a6|apply eS rfl|apply AB|refine rX b ?_ ?_|refine rC ?_ ?_<;>intro a<;>try(cases a;done))
 all_goals try simp only[l]at *
 have o:=(g.2 _ (AF f (0,[]) (DF ⟨h0,h1⟩))).1;have j:AQ h f n s=if 0<=BO h s then BU (f.getD n.toNat (0,[])).2 (BO h s) else -1:=rfl
 refine AI (ι:={k:Nat//k<=(f.getD n.toNat (0,[])).2.length/\BU (f.getD n.toNat (0,[])).2 (BO h s)=BU ((f.getD n.toNat (0,[])).2.drop k) (BO h s)}) (λk=>⟨[(2,.p T3 n),(5,.bp 5 [] 0),(9,.p T3 (BO h s)),(10,.p (.int .i64) (k.1:Int))],[(5,.box 34 true [.p Ij f])]⟩) (λk=>(f.getD n.toNat (0,[])).2.length-k.1) ⟨0,Do _,rfl⟩ (AC [(5,.nm 5)] rfl rfl ?_ ?_) (λk=>?_)
 .first|exact eN|refine eM ?_
 .first|exact eN|refine eM ?_
 obtain⟨k,hk,d⟩:=k;have i:=λc:k<(f.getD n.toNat (0,[])).2.length=>NC (BO h s) (f.getD n.toNat (0,[])).2 c;simp only;repeat'(first|exact a6|apply eS rfl|apply AB|refine rX b ?_ ?_|refine rC ?_ ?_<;>intro a<;>try(cases a;done))
 .exact⟨h0,h1⟩
 .exact⟨⟨h0,h1⟩,a.1⟩
 .rename_i q;exact⟨⟨h0,h1⟩,q.1⟩
 .rename_i q;rw[j,At q.2,d,i eV,At a];exact fI b [.tmp 8]
 .omega
 .rename_i q;refine⟨⟨k+1,eV,d.trans ((i eV).trans (An a))⟩,a2,AC [(5,.nm 5)] rfl rfl ?_ ?_⟩
  .first|exact eN|refine eM ?_
  first|exact eN|refine eM ?_
 have e:AQ h f n s=-1:=by
  rw[j];split
  .rename_i q;have m:(f.getD n.toNat (0,[])).2.drop k=[]:=Is (by
    have:¬(k:Int)<(List.length (f.getD n.toNat (0,[])).2:Int):=λc=>absurd (a c) (AAy.2 q);exact eV)
   rw[d,m];rfl
  rfl
 exact fI b [.tmp 8] (by rw[e];exact eR)
def Dk (h:AG) (f:List AD) (n:Int):ByteArray:=if n<0 then ⟨#[]⟩ else Bu h (AW f n).1
def Yz:AZ:={ ins:=[FL,E7,T3],pre:=λ(h,f,n,_)=>FC h/\Ck h f/\n<(List.length f:Int),out:=λ(h,f,n,_)=>[.p T9 (Dk h f n)],lend:=true }
attribute [local go_sem] Yz
theorem aZ:Ac Tryz.prog 40 Yz:=by
 refine fK [0,1,2,3,4,6,8] Tryz.func40 Tryz.ntmps40 (AE wD AH) ?_;rintro w0 O0 ⟨h,f,n,u⟩ b-⟨hk,ht,h1⟩;have hk:FC h:=hk;have ht:Ck h f:=ht;have h1:n<(f.length:Int):=h1;have c:(h.1,h.2)=h:=rfl;simp only[Yz,AL];repeat'(first|exact a6|apply eS rfl|apply AB|refine rX b ?_ ?_|refine rC ?_ ?_<;>intro a<;>try(cases a;done))
 all_goals try simp only[c]at *
 .have e:Dk h f n=⟨#[]⟩:=At a;exact fI b [.tmp 6] (by rw[e];exact eR)
 .exact⟨⟨a,h1⟩,hk,ht _ (AF f (0,[]) (DF ⟨a,h1⟩))⟩
 have e:Dk h f n=Bu h (f.getD n.toNat (0,[])).1:=An (AAy.2 a);exact fI b [.tmp 6] (by rw[e];exact eR)
end
section
attribute [local go_sem] QQ Jr WD KW JH
def Mh:AZ:={ ins:=[FL],pre:=λ(h,_)=>FC h,out:=λ(h,_)=>[.p .bool (LQ h)],lend:=true }
attribute [local go_sem] Mh
theorem nG:Ac Tryz.prog 131 Mh:=by
 refine fK [0,1,2,3,4,5,26,44] Tryz.func131 Tryz.ntmps131 (AE ND (AE mT (AE Jo AH))) ?_;rintro w0 O0 ⟨⟨ht,hf⟩,u⟩ c-hk;have hk:FC (ht,hf):=hk;obtain⟨e,f,g,h,i,j,k,l⟩:=Ot (ht,hf);obtain⟨⟨q,r,s,t⟩,m,n,o,p⟩:=Rn (ht,hf);simp only[Mh,AL];repeat'(first|exact a6|apply eS rfl|apply AB|refine rX c ?_ ?_|refine rC ?_ ?_<;>intro d<;>try(cases d;done))
 all_goals simp only[e,f,g,h,i,j,k,l]at *
 .have b:LQ (ht,hf)=false:=by
   rw[ABh];intro a;unfold LQ at a;simp only[AT,IN]at a;omega
  exact fI c [.tmp 2] (by rw[b];exact eR)
 .have b:LQ (ht,hf)=false:=by
   rw[ABh];intro a;unfold LQ at a;simp only[AT,IN]at a;omega
  exact fI c [.tmp 2] (by rw[b];exact eR)
 .grind
 have b:LQ (ht,hf)=(Ah (ht,hf) (Bp (ht,hf)).list (Bp (ht,hf)).cons&&Ah (ht,hf) (Bp (ht,hf)).list (Bp (ht,hf)).null):=by
  unfold LQ;rw[AB7 O1,ABZ]
 exact fI c [.tmp 2] (by rw[b];exact eR)
def Wj:AZ:={ ins:=[FL,E7,T3,T9],pre:=λ(_,f,n,_)=>AX f/\(0:Int)<=n/\n<(List.length f:Int),out:=λ(h,f,n,s,_)=>[.p T3 (BU (List.getD (f:List AD) n.toNat (0,[])).2 (BO h s))],lend:=true }
attribute [local go_sem] Wj
theorem Wk:Ac Tryz.prog 132 Wj:=by
 refine fK [0,1,2,3,4,5,8,9,10,22,36] Tryz.func132 Tryz.ntmps132 (AE mT AH) ?_;rintro w0 O0 ⟨⟨ht,hf⟩,f,n,s,u⟩ d-⟨g,hn⟩;have g:AX f:=g;have hn:0<=n/\n<(f.length:Int):=hn;simp only[Wj,AL];repeat'(first|exact a6|apply eS rfl|apply AB|refine rX d ?_ ?_|refine rC ?_ ?_<;>intro a<;>try(cases a;done))
 have m:=(g.2 _ (AF f (0,[]) (DF hn))).1;generalize l:BO (ht,hf) s=e at *;generalize j:(f.getD n.toNat (0,[])).2=L at *;refine AI (ι:={k:Nat//k<=L.length/\BU L e=BU (L.drop k) e}) (λk=>⟨[(2,.p T3 n),(5,.bp 5 [] 0),(9,.p T3 e),(10,.p (.int .i64) (k.1:Int))],[(5,.box 34 true [.p Ij f])]⟩) (λk=>L.length-k.1) ⟨0,Do _,rfl⟩ (eW [(5,.nm 5)]) (λk=>?_)
 obtain⟨k,hk,b⟩:=k;have i:=λh:k<L.length=>NC e L h;simp only;repeat'(first|exact a6|apply eS rfl|apply AB|refine rX d ?_ ?_|refine rC ?_ ?_<;>intro a<;>try(cases a;done))
 all_goals try rw[j]at *
 .exact hn
 .exact⟨hn,a⟩
 .exact⟨hn,a4⟩
 .have c:k<L.length:=by exact eV
  rw[i c,At a]at b;exact fI d [.tmp 8] (by rw[b];exact eR)
 .omega
 .have c:k<L.length:=by exact eV
  rw[i c,An a]at b;exact⟨⟨k+1,O1,b⟩,a2,eW [(5,.nm 5)]⟩
 have c:L.drop k=[]:=Is eV;rw[c]at b;exact fI d [.tmp 8] (by rw[b];first|exact eR|refine KP ?_;rfl)
def a9:AZ:={ ins:=[FL,E7,T3],pre:=λ(_,f,n,_)=>AX f/\(0:Int)<=n/\n<(List.length f:Int),out:=λ(h,f,n,_)=>[.p .bool (Ns (Bp h) (List.getD (f:List AD) n.toNat (0,[])).2)],lend:=true }
attribute [local go_sem] a9
theorem Y0:Ac Tryz.prog 173 a9:=by
 refine fK [0,1,2,3,4,6] Tryz.func173 Tryz.ntmps173 (AE Wk AH) ?_;rintro w0 O0 ⟨⟨ht,hf⟩,f,n,u⟩ b-⟨a,hn⟩;have a:AX f:=a;obtain⟨g,h,i,j,d,e,k,l⟩:=Ot (ht,hf);simp only[a9,AL];repeat'(first|exact a6|apply eS rfl|apply AB|refine rX b ?_ ?_|refine rC ?_ ?_<;>intro c<;>try(cases c;done))
 all_goals simp only[d,e]at *
 .exact⟨⟨a,hn⟩,λ_=>⟨a,hn⟩⟩
 exact fI b [.tmp 6] (by unfold Ns;exact eR)
def Qj:AZ:={ ins:=[FL,E7,T3],pre:=λ(h,f,n,_)=>(LQ h=true/\FC h)/\AX f/\Ck h f/\(0:Int)<=n/\n<(List.length f:Int),out:=λ(h,f,n,_)=>[.p .bool (TD h (Bp h) (List.getD (f:List AD) n.toNat (0,[])))],lend:=true }
attribute [local go_sem] Qj
theorem wE:Ac Tryz.prog 172 Qj:=by
 refine fK [0,1,2,3,4,6] Tryz.func172 Tryz.ntmps172 (AE Y0 (AE ND (AE Jo AH))) ?_;rintro w0 O0 ⟨⟨ht,hf⟩,f,n,u⟩ d-⟨⟨c,hk⟩,a,b,hn⟩;have c:LQ (ht,hf)=true:=c;have hk:FC (ht,hf):=hk;have a:AX f:=a;have b:Ck (ht,hf) f:=b;obtain⟨g,h,i,j,k,l,m,o⟩:=Ot (ht,hf);have hn:0<=n/\n<(f.length:Int):=hn;have p:=b _ (AF f (0,[]) (DF hn));obtain⟨-,s,r,-⟩:=Yf c;obtain⟨⟨-,v1,q,-⟩,-⟩:=Rn (ht,hf);simp only[Qj,AL];repeat'(first|exact a6|apply eS rfl|apply AB|refine rX d ?_ ?_|refine rC ?_ ?_<;>intro e<;>try(cases e;done))
 all_goals simp only[g,h,i,j,k,l,m,o]at *
 .exact⟨⟨a,hn⟩,λ_=>hn,λ_=>⟨⟨⟨r,q⟩,p⟩,hk⟩⟩
 exact fI d [.tmp 6] (by unfold TD;rw[AD0];exact eR)
def Qk:AZ:={ ins:=[FL,E7,T3],pre:=λ(h,f,n,_)=>(LQ h=true/\FC h)/\AX f/\Ck h f/\(0:Int)<=n/\n<(List.length f:Int),out:=λ(h,f,n,_)=>[.p .bool (II h (Bp h) (List.getD (f:List AD) n.toNat (0,[])))],lend:=true }
attribute [local go_sem] Qk
theorem wF:Ac Tryz.prog 134 Qk:=by
 refine fK [0,1,2,3,4,6] Tryz.func134 Tryz.ntmps134 (AE Wk (AE ND (AE Jo AH))) ?_;rintro w0 O0 ⟨⟨ht,hf⟩,f,n,u⟩ d-⟨⟨c,hk⟩,a,b,hn⟩;have c:LQ (ht,hf)=true:=c;have hk:FC (ht,hf):=hk;have a:AX f:=a;have b:Ck (ht,hf) f:=b;obtain⟨g,h,i,j,k,l,m,o⟩:=Ot (ht,hf);have hn:0<=n/\n<(f.length:Int):=hn;have p:=b _ (AF f (0,[]) (DF hn));obtain⟨-,q,s,-⟩:=Yf c;obtain⟨⟨-,v1,r,-⟩,-⟩:=Rn (ht,hf);simp only[Qk,AL];repeat'(first|exact a6|apply eS rfl|apply AB|refine rX d ?_ ?_|refine rC ?_ ?_<;>intro e<;>try(cases e;done))
 all_goals simp only[g,h,i,j,k,l,m,o]at *
 .exact⟨⟨a,hn⟩,λ_=>⟨a,hn⟩,λ_=>hn,λ_=>⟨⟨⟨q,v1⟩,p⟩,hk⟩⟩
 exact fI d [.tmp 6] (by unfold II QP;rw[AD0];exact eR)
def Mi:AZ:={ ins:=[FL,E7,T3],pre:=λ(h,f,n,_)=>(LQ h=true/\FC h)/\AX f/\Ck h f/\(0:Int)<=n/\n<(List.length f:Int),out:=λ(h,f,n,_)=>[.p .bool (!TD h (Bp h) (List.getD (f:List AD) n.toNat (0,[]))&&Jq h (Bp h) (List.getD (f:List AD) n.toNat (0,[])))],lend:=true }
attribute [local go_sem] Mi
theorem nH:Ac Tryz.prog 135 Mi:=by
 refine fK [0,1,2,3,4,6] Tryz.func135 Tryz.ntmps135 (AE wE (AE Y0 (AE ND (AE Jo AH)))) ?_;rintro w0 O0 ⟨⟨ht,hf⟩,f,n,u⟩ d-⟨⟨c,hk⟩,a,b,hn⟩;have c:LQ (ht,hf)=true:=c;have hk:FC (ht,hf):=hk;have a:AX f:=a;have b:Ck (ht,hf) f:=b;obtain⟨g,h,i,j,k,l,m,o⟩:=Ot (ht,hf);have hn:0<=n/\n<(f.length:Int):=hn;have p:=b _ (AF f (0,[]) (DF hn));obtain⟨-,q,s,-⟩:=Yf c;obtain⟨⟨-,v1,r,-⟩,-⟩:=Rn (ht,hf);simp only[Mi,AL];repeat'(first|exact a6|apply eS rfl|apply AB|refine rX d ?_ ?_|refine rC ?_ ?_<;>intro e<;>try(cases e;done))
 all_goals simp only[g,h,i,j,k,l,m,o]at *
 .exact⟨⟨⟨c,hk⟩,a,b,hn⟩,λ_=>⟨a,hn⟩,λ_=>hn,λ_=>⟨⟨p,q,v1⟩,hk⟩⟩
 exact fI d [.tmp 6] (by unfold Jq;rw[AD0 (Ah _ _ _),<-Bool.and_assoc];exact eR)
def iG:AZ:={ ins:=[Bx,T3],pre:=λ_=>True,out:=λ(l,n,_)=>[.p .bool (wZ l n)],lend:=true }
attribute [local go_sem] iG
theorem A55:Ac Tryz.prog 133 iG:=by
 refine fK [0,1,4,5,9,17] Tryz.func133 Tryz.ntmps133 AH ?_;rintro w0 O0 ⟨l,n,u⟩ d ⟨⟨g,-⟩,-⟩ -;simp only[AP]at g;simp only[iG,AL];repeat'(first|exact a6|apply eS rfl|apply AB|refine rX d ?_ ?_|refine rC ?_ ?_<;>intro a<;>try(cases a;done))
 refine AI (ι:={k:Nat//k<=l.length/\wZ l n=wZ (l.drop k) n}) (λk=>⟨[(0,.p Bx l),(1,.p T3 n),(5,.p (.int .i64) (k.1:Int))],[]⟩) (λk=>l.length-k.1) ⟨0,Do _,rfl⟩ (eW []) (λk=>?_)
 obtain⟨k,hk,b⟩:=k;have e:k<l.length->wZ (l.drop k) n=(l.getD k 0==n||wZ (l.drop (k+1)) n):=λh=>by
  rw[R2 h];rfl
 simp only;repeat'(first|exact a6|apply eS rfl|apply AB|refine rX d ?_ ?_|refine rC ?_ ?_<;>intro a<;>try(cases a;done))
 .exact a
 .have c:k<l.length:=by exact eV
  rw[e c,a,ACw,Bool.true_or]at b;exact fI d [.tmp 4] (by rw[b];exact eR)
 .omega
 .have c:k<l.length:=by exact eV
  have f:(l.getD k 0==n)=false:=AB6.2 a;rw[e c,f,ACZ]at b;exact⟨⟨k+1,O1,b⟩,a2,eW []⟩
 have c:l.drop k=[]:=Is eV;rw[c]at b;exact fI d [.tmp 4] (by rw[b];first|exact eR|refine KP ?_;rfl)
end
section
attribute [local go_sem] atS
theorem VF.h0 (vf:VF h f):0<h.1.length:=by
 have a:=vf.pos;have:=vf.ty _ (AF f (0,[]) (k:=0) O1);omega
end
noncomputable def nI (h:AG) (ar:Int) (f:List AD) (A:List (List AD)):List AD×Bool :=
 if (A.length:Int)≠ar then ([],false) else if (GT h (nE h) 0 f A).2=true then (A6k (GT h (nE h) 0 f A).1 (iD h),true) else ([],false)
structure RA (h:AG) (ar:Int) (f:List AD) (A:List (List AD)):Prop where
 hh:H14 h
 top:A9N h
 vf:VF h f
 lf:f.length<=12
 ok:A86 h ar f
 va:∀x∈A,VF h x/\x.length<=12
 la:A.length<=3
theorem RA.wt {ar:Int} (r:RA h ar f A):Wt h f:=⟨r.vf,vZ r.ok.chk⟩
theorem RA.un {ar:Int} (r:RA h ar f A):∀x∈IL (nE h) 0 A,VF h x/\x.length<=100:=λx b=>by
 obtain⟨j,a,rfl⟩:=Wg b;have d:=A54 h (0+j);have hk:=r.va _ (AF A [] a);have c:=r.la;exact⟨A1V r.vf.h0 hk.1 (A85 r.ok.lw r.ok.args _) O1 O1,by rw[Kq];omega⟩
theorem RA.all {ar:Int} (r:RA h ar f A):Mf h (f :: IL (nE h) 0 A) (GT h (nE h) 0 f A) :=
 Wi r.hh A 0 f [f] (wC r.wt) (by simp[r.vf]) r.un (by have:=r.lf;have:=r.la;omega)
theorem RA.len {ar:Int} (r:RA h ar f A):(GT h (nE h) 0 f A).1.length<=312:=by
 have:=Wh (h:=h) (pl:=nE h) (l:=A) (i:=0) (f:=f) λx a=>(r.un x a).2;have:=r.lf;have:=r.la;omega
theorem RA.res {ar:Int} (r:RA h ar f A) (a:(nI h ar f A).2=true):(A.length:Int)=ar/\TU h (f :: IL (nE h) 0 A) (GT h (nE h) 0 f A).1/\nI h ar f A=(A6k (GT h (nE h) 0 f A).1 (iD h),true):=by
 unfold nI at a ⊢;by_cases h1:(A.length:Int)≠ar
 .rw[At h1]at a;cases a
 rw[An h1]at a ⊢;by_cases b:(GT h (nE h) 0 f A).2=true
 .rw[At b];exact⟨O1,r.all.vf b,rfl⟩
 rw[An b]at a;cases a
end Go.Proofs.YtglkoagnnnpimaaGreatDoor.Fw
