/- Contracts of functions and plain laws. -/
import Derived.Test.YtaoonfcjbmcmpaaGreatDoorFYC
import Derived.Test.YtaoonfcjbmcmpaaGreatDoorFYA
import Derived.Test.YtaoonfcjbmcmpaaGreatDoorFYB
import Derived.Test.YtaoonfcjbmcmpaaGreatDoorFZI
set_option linter.unusedVariables false
set_option linter.unusedSimpArgs false
namespace Go.Proofs.YtaoonfcjbmcmpaaGreatDoor.Fw
attribute [local irreducible] Ev
attribute [local go_sem] Wc AP List.toList_toArray Bu evG evK SV EH JC F5 FO Hf Oq Lp Cy DA K6 CU DB frz YX EV C9 A1 FG BP AV.frz AV.frzs AV.drp AV.drps AV.names AV.namess aq F4 Jn I4 Pe H6 Bd Bj IR DW HY DX Ha HZ Hb QG MV GN I6 FI Dy QH Nq jR IT Hc J6 Eq DY H9 I7 D3 Pf DI D4 EZ Nr Hd Ln E1 Lm MW Ns J7 IA I8 D5 DZ GV Db G1 Cp Ea Cq D6 FK CU Ci K5 Np L3 Fx H8 H7 I5 MZ Om Lo KB J9 JA Oo KA JB Ub Mb Ma AV.trn AV.trns Bw Ba Obj.trn Ih Ww Da D8 Dz D7 B7 Eb Ae lk Ga F2 Gy qA YW SX YZ Ol Pd qJ AV.cellss aG qI qK AV.cells B9 EO H5 FJ MY CF Ll Ty.cell1 HX EW DV Fb IQ EU I3 J5 Lk E0 GM Le Pb QF J4 I2 UY WE Oj Gx Cv F3 RV.flat Ty.flat Ty.size St.add upd SU BS Value.oneCell' UX Ty.dflt HW Mu HB M4 List.take_succ_cons List.take_zero List.length_cons Wk Wl M3 Id KQ Gq Ie kY FP LD LE LF LG N2 N3 Fz Gg Qf Option.map_some Option.map_none Option.bind_some Option.getD_some Option.getD_none Option.isNone_none Option.isNone_some Bool.and_true Bool.true_and Bool.and_false Bool.false_and Bool.not_true Bool.not_false if_true if_false List.length_cons List.length_nil and_true true_and and_self List.all_cons List.all_nil List.append_nil List.nil_append List.cons_append List.getElem?_cons_zero List.getElem?_cons_succ List.getElem?_nil List.map_cons List.map_nil List.set_cons_zero List.set_cons_succ List.isEmpty_nil List.isEmpty_cons decide_true decide_false beq_self_eq_true bne_self_eq_false Nat.zero_add Nat.add_zero Nat.sub_zero Int.toNat_natCast Int.toNat_zero Int.toNat_one List.take_length List.length_append List.length_singleton true_or or_true or_self false_or or_false Ty.agg.injEq Ty.slice.injEq Ty.prod.injEq Ty.int.injEq Option.some.injEq beq_iff_eq J3 evMG evMQ k5 HD KN B1 Ic GQ Mx Ia HC Ho JG Jt MA Lu MB Pj KO My Mz Ib Ac Am Op.operands Call.operands List.filterMap_cons List.filterMap_nil List.append_eq Bool.cond_false_right Bool.cond_true_left cond_true cond_false implies_true decide_eq_true_eq beq_true beq_false Bool.or_true Bool.or_false Bool.true_or Bool.false_or Option.isSome_some Array.empty_append List.append_toArray FH K7 Ec Gz Ua MX UZ DJ Dn E2 Fd He G0 I9 J8 SY YY L2 p9 G2 FL Fy IU AX Wm List.drop_zero De HE U0 Dv JK CT AV.fgt AV.fgts Obj.fgt BC Az Ac Ca IG Bb F6 List.any_cons List.any_nil Y6 Wq U1 Wr KU N6 qs List.flatMap_cons List.flatMap_nil List.cons_append tn U4 Ii List.take_succ_cons List.drop_succ_cons r9 Q2 Py bI LK CZ Ct Ao Ee JF CK matchAVs C0 IE Hn Fg HA
attribute [local go_sem] ty1 ty2 ty3 ty4 ty5 ty9 sF sG sH sI sJ sK sL sM sN sO sP sQ sR sS sT sU sV sW sX sY sZ s0 s7 s8 s9 tA tB tC bQ bR bS bT bU bV bW bX bZ b4 b5 b6 b7 b8 b9 cA cB cC cE cF cG cH
set_option maxRecDepth 100000
set_option maxHeartbeats 4000000
section
attribute [local go_sem] GG NN
def PZ (l:List AI) (i j:Int):Bool:=HO (l.getD j.toNat c0).2 (l.getD i.toNat c0).2
def SL:Spec:={ ins:=[Bi,T3,T3],pre:=λ(l,i,j,_)=>((0:Int)<=i/\i<(List.length l:Int))/\((0:Int)<=j/\j<(List.length l:Int)),out:=λ(l,i,j,_)=>[.p .bool (PZ l i j)],lend:=true }
attribute [local go_sem] SL
theorem SM:Ap Tryz.prog 48 SL:=by
 refine fK [0,1,2,6] Tryz.func48 Tryz.ntmps48 (AF Fo AH) ?_;rintro w0 O0 ⟨l,i,j,u⟩ a-⟨hi,c⟩;simp only[SL,AP];repeat'(first|exact trivial|apply eS rfl|apply AB|refine rX a ?_ ?_|refine rC ?_ ?_<;>intro b<;>try(cases b;done))
 .exact⟨c,hi⟩
 exact fI a [.tmp 6] (by unfold PZ;exact eR)
theorem vM (b:List Int) (x:AI):Aj Tryz.prog 166 [.p Bv x,.bp 1 [] 0] [(1,.box 38 false [.p BZ b])] [1] (λres d=>res=.p .bool (AZ x.2 b)/\d=[(1,.box 38 false [.p BZ b])]):=by
 refine Er [0,1,2,3] [] [] Tryz.func166 Tryz.ntmps166 (AF OV AH) ?_;intro w0 K O0 ρ0 a e f;simp only[AX];repeat'(first|exact trivial|apply eS rfl|apply AB|refine rX a ?_ ?_|refine rC ?_ ?_<;>intro c<;>try(cases c;done))
 refine Ev.ent (σ':=⟨[(3,.p .bool (AZ x.2 b))],[(1,.box 38 false [.p BZ b])]⟩) ?_ (AC [(1,.nm 1)] rfl rfl ?_ ?_)
 .exact fM a [.tmp 3] (.p .bool (AZ x.2 b)) eT ⟨rfl,rfl⟩
 .first|exact eN|refine eM ?_
 first|exact eN|refine eM ?_
theorem zI (b:List Int) (l:List AI) (o:l.length<=140737488355328):Aj Tryz.prog 165 [.p Bi l,.clo 166 [1]] [(1,.box 38 false [.p BZ b])] [1] (λres m=>res=.p T3 (CR (λx:AI=>AZ x.2 b) 0 l)/\m=[(1,.box 38 false [.p BZ b])]):=by
 refine Er [0,1,4,5,6,7,8,9,10,16] [] [] Tryz.func165 Tryz.ntmps165 AH ?_;intro w0 K O0 ρ0 c q r;simp only[AX];repeat'(first|exact trivial|apply eS rfl|apply AB|refine rX c ?_ ?_|refine rC ?_ ?_<;>intro a<;>try(cases a;done))
 refine AJ (ι:={k:Nat//k<=l.length/\CR (λx:AI=>AZ x.2 b) k (l.drop k)=CR (λx:AI=>AZ x.2 b) 0 l}) (λk=>⟨[(1,.clo 166 [1]),(7,.p Bi l),(8,.p (.int .i64) (l.length:Int)),(9,.p (.int .i64) (k.1:Int))],[(1,.box 38 false [.p BZ b])]⟩) (λk=>l.length-k.1) ⟨0,BY _,rfl⟩ (AC [(1,.nm 1)] rfl rfl ?_ ?_) (λk=>?_)
 .first|exact eN|refine eM ?_
 .first|exact eN|refine eM ?_
 obtain⟨k,n,f⟩:=k;have j:k<l.length->∀d,AZ (l.getD k c0).2 b=d->CR (λx:AI=>AZ x.2 b) k (l.drop k)=if d=true then (k:Int) else CR (λx:AI=>AZ x.2 b) (k+1) (l.drop (k+1)):=λh d e=>by rw[<-e];exact Dm (λx:AI=>AZ x.2 b) c0 l h
 simp only;repeat'(first|exact trivial|apply eS rfl|apply AB|refine rX c ?_ ?_|refine rC ?_ ?_<;>intro a<;>try(cases a;done))
 .exact a
 .have g:k<l.length:=An.1 a;refine cP 2 c ?_ ?_
  .trivial
  have key:=vM b (l.getD k c0);refine rM c (key) [(1,.nm 1)] [] ?_ ?_ ?_
  .first|exact eN|refine eM ?_
  .first|exact eN|refine eM ?_
  rintro _ _ ⟨rfl,rfl⟩;refine⟨[(1,.nm 1)],.p .bool (AZ (l.getD k c0).2 b),[(1,.box 38 false [.p BZ b])],rfl,rfl,?_,?_,rfl,rfl,Bq ?_⟩
  .first|exact eN|refine eM ?_
  .first|exact eN|refine eM ?_
  generalize s:AZ (l.getD k c0).2 b=d at *;have i:=j g d rfl;repeat'(first|exact trivial|apply eS rfl|apply AB|refine rX c ?_ ?_|refine rC ?_ ?_<;>intro a<;>try(cases a;done))
  .have a:d=true:=a;rw[At a,f]at i;refine Ev.ent (σ':=⟨[(4,.p (.int .i64) (k:Int))],[(1,.box 38 false [.p BZ b])]⟩) ?_ (AC [(1,.nm 1)] rfl rfl ?_ ?_)
   .exact fM c [.tmp 4] (.p T3 (k:Int)) eT ⟨by rw[i],rfl⟩
   .first|exact eN|refine eM ?_
   first|exact eN|refine eM ?_
  .exact eV
  have a:d=false:=a;rw[As (by rw[a];simp)]at i;refine⟨⟨k+1,g,i.symm.trans f⟩,by simp only;omega,AC [(1,.nm 1)] rfl rfl ?_ ?_⟩
  .first|exact eN|refine eM ?_
  first|exact eN|refine eM ?_
 have g:l.drop k=[]:=OR (NO.1 a);rw[g]at f;have f:(-1:Int)=CR (λx:AI=>AZ x.2 b) 0 l:=f;refine Ev.ent (σ':=⟨[(4,.p (.int .i64) (-1))],[(1,.box 38 false [.p BZ b])]⟩) ?_ (AC [(1,.nm 1)] rfl rfl ?_ ?_)
 .exact fM c [.tmp 4] (.p T3 (-1)) eT ⟨by rw[f],rfl⟩
 .first|exact eN|refine eM ?_
 first|exact eN|refine eM ?_
def SN (l:List AI) (b:List Int):Int:=CR (λx:AI=>AZ x.2 b) 0 l
def V5:Spec:={ ins:=[Bi,BZ],pre:=λ_=>True,out:=λ(l,b,_)=>[.p T3 (SN l b)] }
attribute [local go_sem] V5
theorem pD:Ap Tryz.prog 118 V5:=by
 refine fK [0,1,3,4] Tryz.func118 Tryz.ntmps118 AH ?_;rintro w0 O0 ⟨l,b,u⟩ a ⟨⟨d,-⟩,-⟩ -;simp only[AN]at d;simp only[V5,AP];repeat'(first|exact trivial|apply eS rfl|apply AB|refine rX a ?_ ?_|refine rC ?_ ?_<;>intro c<;>try(cases c;done))
 refine cP 2 a ?_ ?_
 .trivial
 refine rM a (zI b l d) [(1,.nm 3)] [] ?_ ?_ ?_
 .first|exact eN|refine eM ?_
 .first|exact eN|refine eM ?_
 rintro _ _ ⟨rfl,rfl⟩;refine⟨[(3,.nm 1)],.p T3 (CR (λx:AI=>AZ x.2 b) 0 l),[(3,.box 38 false [.p BZ b])],rfl,rfl,?_,?_,rfl,rfl,?_⟩
 .first|exact eN|refine eM ?_
 .first|exact eN|refine eM ?_
 refine rL a trivial ?_;repeat'(first|exact trivial|apply eS rfl|apply AB|refine rX a ?_ ?_|refine rC ?_ ?_<;>intro c<;>try(cases c;done))
 refine Ev.ent (σ':=⟨[(4,.p T3 (SN l b))],[]⟩) ?_ (AC [] rfl rfl ?_ ?_)
 .exact fI a [.tmp 4]
 .first|exact eN|refine eM ?_
 unfold SN;first|exact eN|refine eM ?_
def Fv (l:List AI) (k m:Int):Bool:=m != k&&PZ l k m
theorem vN (l:List AI) (k m:Int) (c:(0<=k/\k<(l.length:Int))/\(0<=m/\m<(l.length:Int))):Aj Tryz.prog 49 [.p T3 m,.bp 1 [] 0,.bp 2 [] 0] [(1,.box 3 false [.p T3 k]),(2,.box 57 false [.p Bi l])] [1,2] (λres d=>res=.p .bool (Fv l k m)/\d=[(1,.box 3 false [.p T3 k]),(2,.box 57 false [.p Bi l])]):=by
 refine Er [0,1,2,4] [] [] Tryz.func49 Tryz.ntmps49 (AF SM AH) ?_;intro w0 K O0 ρ0 a e f;simp only[AX];repeat'(first|exact trivial|apply eS rfl|apply AB|refine rX a ?_ ?_|refine rC ?_ ?_<;>intro b<;>try(cases b;done))
 .intro _;exact c
 refine Ev.ent (σ':=⟨[(4,.p .bool (Fv l k m))],[(1,.box 3 false [.p T3 k]),(2,.box 57 false [.p Bi l])]⟩) ?_ (AC [(1,.nm 1),(2,.nm 2)] rfl rfl ?_ ?_)
 .exact fM a [.tmp 4] (.p .bool (Fv l k m)) eT ⟨rfl,rfl⟩
 .first|exact eN|refine eM ?_
 unfold Fv;first|exact eN|refine eM ?_
end
section
attribute [local go_sem] SL
theorem pE (c:List AI) (q:Int) (l:List (Int)) (s:l.length<=140737488355328) (m:∀x∈l,(0<=q/\q<(c.length:Int))/\(0<=x/\x<(c.length:Int))):Aj Tryz.prog 91 [.p Dj l,.clo 49 [1,2]] [(1,.box 3 false [.p T3 q]),(2,.box 57 false [.p Bi c])] [1,2] (λres o=>res=.p T3 (CR (Fv c q) 0 l)/\o=[(1,.box 3 false [.p T3 q]),(2,.box 57 false [.p Bi c])]):=by
 refine Er [0,1,4,5,7,8,9,16] [] [] Tryz.func91 Tryz.ntmps91 AH ?_;intro w0 K O0 ρ0 d t u;simp only[AX];repeat'(first|exact trivial|apply eS rfl|apply AB|refine rX d ?_ ?_|refine rC ?_ ?_<;>intro a<;>try(cases a;done))
 refine AJ (ι:={k:Nat//k<=l.length/\CR (Fv c q) k (l.drop k)=CR (Fv c q) 0 l}) (λk=>⟨[(0,.p Dj l),(1,.clo 49 [1,2]),(7,.p (.int .i64) (l.length:Int)),(8,.p (.int .i64) (k.1:Int))],[(1,.box 3 false [.p T3 q]),(2,.box 57 false [.p Bi c])]⟩) (λk=>l.length-k.1) ⟨0,BY _,rfl⟩ (AC [(1,.nm 1),(2,.nm 2)] rfl rfl ?_ ?_) (λk=>?_)
 .first|exact eN|refine eM ?_
 .first|exact eN|refine eM ?_
 obtain⟨k,r,f⟩:=k;have n:k<l.length->∀b,(Fv c q) (l.getD k (0:Int))=b->CR (Fv c q) k (l.drop k)=if b=true then (k:Int) else CR (Fv c q) (k+1) (l.drop (k+1)):=λh b e=>by rw[<-e];exact Dm (Fv c q) (0:Int) l h
 simp only;repeat'(first|exact trivial|apply eS rfl|apply AB|refine rX d ?_ ?_|refine rC ?_ ?_<;>intro a<;>try(cases a;done))
 .have g:k<l.length:=An.1 a;refine cP 5 d ?_ ?_
  .exact a
  have key:=vN c q (l.getD k (0:Int)) (m _ (AL g));refine rM d (key) [(1,.nm 1),(2,.nm 2)] [] ?_ ?_ ?_
  .first|exact eN|refine eM ?_
  .first|exact eN|refine eM ?_
  rintro _ _ ⟨rfl,rfl⟩;refine⟨[(1,.nm 1),(2,.nm 2)],.p .bool ((Fv c q) (l.getD k (0:Int))),[(1,.box 3 false [.p T3 q]),(2,.box 57 false [.p Bi c])],rfl,rfl,?_,?_,rfl,rfl,Bq ?_⟩
  .first|exact eN|refine eM ?_
  .first|exact eN|refine eM ?_
  generalize v:(Fv c q) (l.getD k (0:Int))=j at *;have i:=n g j rfl;repeat'(first|exact trivial|apply eS rfl|apply AB|refine rX d ?_ ?_|refine rC ?_ ?_<;>intro a<;>try(cases a;done))
  .have a:j=true:=a;rw[At a,f]at i;refine Ev.ent (σ':=⟨[(4,.p (.int .i64) (k:Int))],[(1,.box 3 false [.p T3 q]),(2,.box 57 false [.p Bi c])]⟩) ?_ (AC [(1,.nm 1),(2,.nm 2)] rfl rfl ?_ ?_)
   .exact fM d [.tmp 4] (.p T3 (k:Int)) eT ⟨by rw[i],rfl⟩
   .first|exact eN|refine eM ?_
   first|exact eN|refine eM ?_
  .omega
  have a:j=false:=a;rw[As (by rw[a];simp)]at i;refine⟨⟨k+1,g,i.symm.trans f⟩,by simp only;omega,AC [(1,.nm 1),(2,.nm 2)] rfl rfl ?_ ?_⟩
  .first|exact eN|refine eM ?_
  first|exact eN|refine eM ?_
 have g:l.drop k=[]:=OR (NO.1 a);rw[g]at f;have f:(-1:Int)=CR (Fv c q) 0 l:=f;refine Ev.ent (σ':=⟨[(4,.p (.int .i64) (-1))],[(1,.box 3 false [.p T3 q]),(2,.box 57 false [.p Bi c])]⟩) ?_ (AC [(1,.nm 1),(2,.nm 2)] rfl rfl ?_ ?_)
 .exact fM d [.tmp 4] (.p T3 (-1)) eT ⟨by rw[f],rfl⟩
 .first|exact eN|refine eM ?_
 first|exact eN|refine eM ?_
theorem pF (c:List AI) (q:Int) (l:List (Int)) (f:l.length<=140737488355328) (g:∀x∈l,(0<=q/\q<(c.length:Int))/\(0<=x/\x<(c.length:Int))):Aj Tryz.prog 50 [.p Dj l,.clo 49 [1,2]] [(1,.box 3 false [.p T3 q]),(2,.box 57 false [.p Bi c])] [1,2] (λres h=>res=.p .bool (l.any (Fv c q))/\h=[(1,.box 3 false [.p T3 q]),(2,.box 57 false [.p Bi c])]):=by
 refine Er [0,1,4] [] [] Tryz.func50 Tryz.ntmps50 AH ?_;intro w0 K O0 ρ0 a i j;simp only[AX];repeat'(first|exact trivial|apply eS rfl|apply AB|refine rX a ?_ ?_|refine rC ?_ ?_<;>intro b<;>try(cases b;done))
 refine cP 2 a ?_ ?_
 .trivial
 have key:=pE c q l f g;refine rM a (key) [(1,.nm 1),(2,.nm 2)] [] ?_ ?_ ?_
 .first|exact eN|refine eM ?_
 .first|exact eN|refine eM ?_
 rintro _ _ ⟨rfl,rfl⟩;refine⟨[(1,.nm 1),(2,.nm 2)],.p T3 (CR (Fv c q) 0 l),[(1,.box 3 false [.p T3 q]),(2,.box 57 false [.p Bi c])],rfl,rfl,?_,?_,rfl,rfl,?_⟩
 .first|exact eN|refine eM ?_
 .first|exact eN|refine eM ?_
 have e:=F1 (Fv c q) 0 l;generalize CR (Fv c q) 0 l=d at *;refine rL a ?_ ?_
 .trivial
 repeat'(first|exact trivial|apply eS rfl|apply AB|refine rX a ?_ ?_|refine rC ?_ ?_<;>intro b<;>try(cases b;done))
 refine Ev.ent (σ':=⟨[(4,.p .bool (decide (0<=d)))],[(1,.box 3 false [.p T3 q]),(2,.box 57 false [.p Bi c])]⟩) ?_ (AC [(1,.nm 1),(2,.nm 2)] rfl rfl ?_ ?_)
 .exact fM a [.tmp 4] (.p .bool (decide (0<=d))) eT ⟨by rw[e],rfl⟩
 .first|exact eN|refine eM ?_
 first|exact eN|refine eM ?_
def Ng (l:List AI) (i:Int) (n:Nat):List Int:=((List.range n).filter λk:Nat=>(k:Int) != i&&PZ l (k:Int) i).map λk:Nat=>(k:Int)
def pG (l:List AI) (i:Int):List Int:=(Ng l i l.length).filter λk=>!(Ng l i l.length).any (Fv l k)
theorem iZ (l:List AI) (i:Int) (n:Nat):Ng l i (n+1)=Ng l i n++if ((n:Int) != i&&PZ l (n:Int) i)=true then [(n:Int)] else []:=by
 unfold Ng;rw[AA0,AAm,AA7]
 congr 1
 rw[AAa,AAC];split<;>rfl
theorem pH (l:List AI) (i:Int) (n:Nat):(Ng l i n).length<=n:=by
 unfold Ng;rw[Of];exact f3 (AA2 _ _) sa
theorem pI {l:List AI} {i:Int} {n:Nat}:∀x∈Ng l i n,0<=x/\x<(n:Int):=λx a=>by
 unfold Ng at a;obtain⟨k,b,rfl⟩:=To.1 a;have:=gO.1 (tO.1 b).1;omega
def d6:Spec:={ ins:=[Bi,T3],pre:=λ(l,i,_)=>((0:Int)<=i/\i<(List.length l:Int))/\List.length l<=256,out:=λ(l,i,_)=>[.p Dj (pG l i)] }
attribute [local go_sem] d6
theorem vO:Ap Tryz.prog 20 d6:=by
 refine fK [0,1,2,4,5,6,7,9,10,12,13,14,24,30,31,32,33,40] Tryz.func20 Tryz.ntmps20 (AF SM AH) ?_;rintro w0 O0 ⟨l,i,u⟩ c-⟨hi,v⟩;have v:l.length<=256:=v;have hi:(0:Int)<=i/\i<(l.length:Int):=hi;simp only[d6,AP];repeat'(first|exact trivial|apply eS rfl|apply AB|refine rX c ?_ ?_|refine rC ?_ ?_<;>intro b<;>try(cases b;done))
 refine AJ (ι:={k:Nat//k<=l.length}) (λk=>⟨[(1,.p T3 i),(2,.bp 2 [] 0),(5,.sr 28 T3 0 (Ng l i k.1).length),(6,.raw (.slice none 0 0)),(12,.p (.int .i64) (l.length:Int)),(13,.p (.int .i64) (k.1:Int))],[(2,.box 57 false [.p Bi l]),(28,.arr 3 T3 (Ng l i k.1))]⟩) (λk=>l.length-k.1) ⟨0,BY _⟩ (AC [(2,.nm 2),(28,.nil)] rfl rfl ?_ ?_) (λk=>?_)
 .first|exact eN|refine eM ?_
  try rfl
 .first|exact eN|refine eM ?_
  try rfl
 obtain⟨k,z⟩:=k;have F:=pH l i k;have m:=iZ l i k;simp only;repeat'(first|exact trivial|apply eS rfl|apply AB|refine rX c ?_ ?_|refine rC ?_ ?_<;>intro b<;>try(cases b;done))
 .have g:k<l.length:=An.1 (by assumption);intro _;exact⟨An.2 g,hi⟩
 .simp only[AN];omega
 .exact eV
 .have g:k<l.length:=An.1 (by assumption);rw[At (by rw[AT,ABW];exact b)]at m;refine⟨⟨k+1,g⟩,by simp only;omega,AC [(2,.nm 2),(28,.nm 28)] rfl rfl ?_ ?_⟩
  .simp only;rw[m];first|exact eN|refine eM ?_
  simp only;rw[m];first|exact eN|refine eM ?_
 .exact eV
 .have g:k<l.length:=An.1 (by assumption);rw[As (by rw[AT,ABW];intro e;have r:=b e.1;rw[e.2]at r;cases r),AAb]at m;refine⟨⟨k+1,g⟩,by simp only;omega,AC [(2,.nm 2),(28,.nm 28)] rfl rfl ?_ ?_⟩
  .simp only;rw[m];first|exact eN|refine eM ?_
  simp only;rw[m];first|exact eN|refine eM ?_
 have g:k=l.length:=jM z (NO.1 (by assumption));subst g;refine DH [28] ?_;have s:pG l i=(Ng l i l.length).filter λk=>!(Ng l i l.length).any (Fv l k):=rfl;have t:=pI (l:=l) (i:=i) (n:=l.length);rw[s];clear s m;generalize Ng l i l.length=a at *;have C:a.length<=256:=by omega
 refine AJ (ι:={j:Nat//j<=a.length}) (λj=>⟨[(2,.bp 2 [] 0),(5,.p Dj a),(6,.sr 44 T3 0 ((a.take j.1).filter λk=>!a.any (Fv l k)).length),(30,.p Dj a),(31,.p (.int .i64) (a.length:Int)),(32,.p (.int .i64) (j.1:Int))],[(2,.box 57 false [.p Bi l]),(44,.arr 3 T3 ((a.take j.1).filter λk=>!a.any (Fv l k)))]⟩) (λj=>a.length-j.1) ⟨0,BY _⟩ (AC [(2,.nm 2),(44,.nil)] rfl rfl ?_ ?_) (λj=>?_)
 .first|exact eN|refine eM ?_
  try rfl
 .first|exact eN|refine eM ?_
  try rfl
 obtain⟨j,D⟩:=j;have G:((a.take j).filter λk=>!a.any (Fv l k)).length<=j:=f3 (AA2 _ _) (by rw[OS];exact ACJ _ _);have f:=λh:j<a.length=>K3 (λk=>!a.any (Fv l k)) a 0 h;simp only;repeat'(first|exact trivial|apply eS rfl|apply AB|refine rX c ?_ ?_|refine rC ?_ ?_<;>intro b<;>try(cases b;done))
 .exact b
 .have o:j<a.length:=An.1 (by assumption);have A:=t _ (AL (d:=(0:Int)) o);replace f:=f o;have y:=pF l (a.getD j 0) a oa (λx B=>⟨A,t x B⟩);generalize a.getD j 0=q at *;refine cP 2 c ?_ ?_
  .trivial
  refine rM c (y) [(1,.nm 9),(2,.nm 2)] [] ?_ ?_ ?_
  .first|exact eN|refine eM ?_
  .first|exact eN|refine eM ?_
  rintro _ _ ⟨rfl,rfl⟩;refine⟨[(9,.nm 1),(2,.nm 2)],.p .bool (a.any (Fv l q)),[(9,.box 3 false [.p T3 q]),(2,.box 57 false [.p Bi l])],rfl,rfl,?_,?_,rfl,rfl,?_⟩
  .first|exact eN|refine eM ?_
  .first|exact eN|refine eM ?_
  refine rL c trivial ?_;generalize E:a.any (Fv l q)=w at *;repeat'(first|exact trivial|apply eS rfl|apply AB|refine rX c ?_ ?_|refine rC ?_ ?_<;>intro b<;>try(cases b;done))
  .simp only[AN];omega
  .exact eV
  .have b:w=false:=b;rw[At (by rw[b];rfl)]at f;refine⟨⟨j+1,o⟩,by simp only;omega,AC [(2,.nm 2),(44,.nm 44)] rfl rfl ?_ ?_⟩
   .simp only;rw[f];first|exact eN|refine eM ?_
   simp only;rw[f];first|exact eN|refine eM ?_
  .exact eV
  have b:w=true:=b;rw[As (by rw[b];simp),AAb]at f;refine⟨⟨j+1,o⟩,by simp only;omega,AC [(2,.nm 2),(44,.nm 44)] rfl rfl ?_ ?_⟩
  .simp only;rw[f];first|exact eN|refine eM ?_
  simp only;rw[f];first|exact eN|refine eM ?_
 have o:a.take j=a:=By (NO.1 b);rw[o];refine DH [44] ?_;refine Ev.ent (σ':=⟨[(4,.p Dj (a.filter λk=>!a.any (Fv l k)))],[]⟩) ?_ (AC [] rfl rfl ?_ ?_)
 .exact fI c [.tmp 4]
 .first|exact eN|refine eM ?_
 first|exact eN|refine eM ?_
end
theorem vP (a:ByteArray) (xs:List ByteArray) (b:List FV) (x:AI):Aj Tryz.prog 66 [.p Bv x,.bp 1 [] 0] [(1,.box 35 true [.p T9 a,.p Ad xs,.p Lx b])] [1] (λres e=>res=.p .bool (AM x.1 a)/\e=[(1,.box 35 true [.p T9 a,.p Ad xs,.p Lx b])]):=by
 refine Er [0,1,2,3] [] [] Tryz.func66 Tryz.ntmps66 AH ?_;intro w0 K O0 ρ0 c f g;simp only[AX];repeat'(first|exact trivial|apply eS rfl|apply AB|refine rX c ?_ ?_|refine rC ?_ ?_<;>intro d<;>try(cases d;done))
 refine Ev.ent (σ':=⟨[(3,.p .bool (AM x.1 a))],[(1,.box 35 true [.p T9 a,.p Ad xs,.p Lx b])]⟩) ?_ (AC [(1,.nm 1)] rfl rfl ?_ ?_)
 .exact fM c [.tmp 3] (.p .bool (AM x.1 a)) eT ⟨rfl,rfl⟩
 .first|exact eN|refine eM ?_
 first|exact eN|refine eM ?_
theorem vQ (a:ByteArray) (xs:List ByteArray) (f:List FV) (l:List (AI)) (r:l.length<=140737488355328):Aj Tryz.prog 65 [.p Bi l,.clo 66 [1]] [(1,.box 35 true [.p T9 a,.p Ad xs,.p Lx f])] [1] (λres o=>res=.p T3 (CR (λx:AI=>AM x.1 a) 0 l)/\o=[(1,.box 35 true [.p T9 a,.p Ad xs,.p Lx f])]):=by
 refine Er [0,1,4,5,7,8,9,16] [] [] Tryz.func65 Tryz.ntmps65 AH ?_;intro w0 K O0 ρ0 d s t;simp only[AX];repeat'(first|exact trivial|apply eS rfl|apply AB|refine rX d ?_ ?_|refine rC ?_ ?_<;>intro c<;>try(cases c;done))
 refine AJ (ι:={k:Nat//k<=l.length/\CR (λx:AI=>AM x.1 a) k (l.drop k)=CR (λx:AI=>AM x.1 a) 0 l}) (λk=>⟨[(0,.p Bi l),(1,.clo 66 [1]),(7,.p (.int .i64) (l.length:Int)),(8,.p (.int .i64) (k.1:Int))],[(1,.box 35 true [.p T9 a,.p Ad xs,.p Lx f])]⟩) (λk=>l.length-k.1) ⟨0,BY _,rfl⟩ (AC [(1,.nm 1)] rfl rfl ?_ ?_) (λk=>?_)
 .first|exact eN|refine eM ?_
 .first|exact eN|refine eM ?_
 obtain⟨k,q,g⟩:=k;have n:k<l.length->∀b,(λx:AI=>AM x.1 a) (l.getD k c0)=b->CR (λx:AI=>AM x.1 a) k (l.drop k)=if b=true then (k:Int) else CR (λx:AI=>AM x.1 a) (k+1) (l.drop (k+1)):=λh b e=>by rw[<-e];exact Dm (λx:AI=>AM x.1 a) c0 l h
 simp only;repeat'(first|exact trivial|apply eS rfl|apply AB|refine rX d ?_ ?_|refine rC ?_ ?_<;>intro c<;>try(cases c;done))
 .have i:k<l.length:=An.1 c;refine cP 5 d ?_ ?_
  .exact c
  have key:=vP a xs f (l.getD k c0);refine rM d (key) [(1,.nm 1)] [] ?_ ?_ ?_
  .first|exact eN|refine eM ?_
  .first|exact eN|refine eM ?_
  rintro _ _ ⟨rfl,rfl⟩;refine⟨[(1,.nm 1)],.p .bool ((λx:AI=>AM x.1 a) (l.getD k c0)),[(1,.box 35 true [.p T9 a,.p Ad xs,.p Lx f])],rfl,rfl,?_,?_,rfl,rfl,Bq ?_⟩
  .first|exact eN|refine eM ?_
  .first|exact eN|refine eM ?_
  generalize u:(λx:AI=>AM x.1 a) (l.getD k c0)=m at *;have j:=n i m rfl;repeat'(first|exact trivial|apply eS rfl|apply AB|refine rX d ?_ ?_|refine rC ?_ ?_<;>intro c<;>try(cases c;done))
  .have c:m=true:=c;rw[At c,g]at j;refine Ev.ent (σ':=⟨[(4,.p (.int .i64) (k:Int))],[(1,.box 35 true [.p T9 a,.p Ad xs,.p Lx f])]⟩) ?_ (AC [(1,.nm 1)] rfl rfl ?_ ?_)
   .exact fM d [.tmp 4] (.p T3 (k:Int)) eT ⟨by rw[j],rfl⟩
   .first|exact eN|refine eM ?_
   first|exact eN|refine eM ?_
  .omega
  have c:m=false:=c;rw[As (by rw[c];simp)]at j;refine⟨⟨k+1,i,j.symm.trans g⟩,by simp only;omega,AC [(1,.nm 1)] rfl rfl ?_ ?_⟩
  .first|exact eN|refine eM ?_
  first|exact eN|refine eM ?_
 have i:l.drop k=[]:=OR (NO.1 c);rw[i]at g;have g:(-1:Int)=CR (λx:AI=>AM x.1 a) 0 l:=g;refine Ev.ent (σ':=⟨[(4,.p (.int .i64) (-1))],[(1,.box 35 true [.p T9 a,.p Ad xs,.p Lx f])]⟩) ?_ (AC [(1,.nm 1)] rfl rfl ?_ ?_)
 .exact fM d [.tmp 4] (.p T3 (-1)) eT ⟨by rw[g],rfl⟩
 .first|exact eN|refine eM ?_
 first|exact eN|refine eM ?_
theorem vR (f v:ByteArray) (x:FV):Aj Tryz.prog 113 [.p fW x,.bp 1 [] 0] [(1,.box 143 true [.p T9 f,.p T9 v])] [1] (λres c=>res=.p .bool (AM x.1 f)/\c=[(1,.box 143 true [.p T9 f,.p T9 v])]):=by
 refine Er [0,1,2,3] [] [] Tryz.func113 Tryz.ntmps113 AH ?_;intro w0 K O0 ρ0 a d e;simp only[AX];repeat'(first|exact trivial|apply eS rfl|apply AB|refine rX a ?_ ?_|refine rC ?_ ?_<;>intro b<;>try(cases b;done))
 refine Ev.ent (σ':=⟨[(3,.p .bool (AM x.1 f))],[(1,.box 143 true [.p T9 f,.p T9 v])]⟩) ?_ (AC [(1,.nm 1)] rfl rfl ?_ ?_)
 .exact fM a [.tmp 3] (.p .bool (AM x.1 f)) eT ⟨rfl,rfl⟩
 .first|exact eN|refine eM ?_
 first|exact eN|refine eM ?_
theorem vS (f v:ByteArray) (l:List (FV)) (q:l.length<=140737488355328):Aj Tryz.prog 161 [.p Lx l,.clo 113 [1]] [(1,.box 143 true [.p T9 f,.p T9 v])] [1] (λres n=>res=.p T3 (CR (λx:FV=>AM x.1 f) 0 l)/\n=[(1,.box 143 true [.p T9 f,.p T9 v])]):=by
 refine Er [0,1,4,5,7,8,9,16] [] [] Tryz.func161 Tryz.ntmps161 AH ?_;intro w0 K O0 ρ0 c r s;simp only[AX];repeat'(first|exact trivial|apply eS rfl|apply AB|refine rX c ?_ ?_|refine rC ?_ ?_<;>intro a<;>try(cases a;done))
 refine AJ (ι:={k:Nat//k<=l.length/\CR (λx:FV=>AM x.1 f) k (l.drop k)=CR (λx:FV=>AM x.1 f) 0 l}) (λk=>⟨[(0,.p Lx l),(1,.clo 113 [1]),(7,.p (.int .i64) (l.length:Int)),(8,.p (.int .i64) (k.1:Int))],[(1,.box 143 true [.p T9 f,.p T9 v])]⟩) (λk=>l.length-k.1) ⟨0,BY _,rfl⟩ (AC [(1,.nm 1)] rfl rfl ?_ ?_) (λk=>?_)
 .first|exact eN|refine eM ?_
 .first|exact eN|refine eM ?_
 obtain⟨k,o,d⟩:=k;have m:k<l.length->∀b,(λx:FV=>AM x.1 f) (l.getD k Kq)=b->CR (λx:FV=>AM x.1 f) k (l.drop k)=if b=true then (k:Int) else CR (λx:FV=>AM x.1 f) (k+1) (l.drop (k+1)):=λh b e=>by rw[<-e];exact Dm (λx:FV=>AM x.1 f) Kq l h
 simp only;repeat'(first|exact trivial|apply eS rfl|apply AB|refine rX c ?_ ?_|refine rC ?_ ?_<;>intro a<;>try(cases a;done))
 .have g:k<l.length:=An.1 a;refine cP 5 c ?_ ?_
  .exact a
  have key:=vR f v (l.getD k Kq);refine rM c (key) [(1,.nm 1)] [] ?_ ?_ ?_
  .first|exact eN|refine eM ?_
  .first|exact eN|refine eM ?_
  rintro _ _ ⟨rfl,rfl⟩;refine⟨[(1,.nm 1)],.p .bool ((λx:FV=>AM x.1 f) (l.getD k Kq)),[(1,.box 143 true [.p T9 f,.p T9 v])],rfl,rfl,?_,?_,rfl,rfl,Bq ?_⟩
  .first|exact eN|refine eM ?_
  .first|exact eN|refine eM ?_
  generalize t:(λx:FV=>AM x.1 f) (l.getD k Kq)=j at *;have i:=m g j rfl;repeat'(first|exact trivial|apply eS rfl|apply AB|refine rX c ?_ ?_|refine rC ?_ ?_<;>intro a<;>try(cases a;done))
  .have a:j=true:=a;rw[At a,d]at i;refine Ev.ent (σ':=⟨[(4,.p (.int .i64) (k:Int))],[(1,.box 143 true [.p T9 f,.p T9 v])]⟩) ?_ (AC [(1,.nm 1)] rfl rfl ?_ ?_)
   .exact fM c [.tmp 4] (.p T3 (k:Int)) eT ⟨by rw[i],rfl⟩
   .first|exact eN|refine eM ?_
   first|exact eN|refine eM ?_
  .omega
  have a:j=false:=a;rw[As (by rw[a];simp)]at i;refine⟨⟨k+1,g,i.symm.trans d⟩,by simp only;omega,AC [(1,.nm 1)] rfl rfl ?_ ?_⟩
  .first|exact eN|refine eM ?_
  first|exact eN|refine eM ?_
 have g:l.drop k=[]:=OR (NO.1 a);rw[g]at d;have d:(-1:Int)=CR (λx:FV=>AM x.1 f) 0 l:=d;refine Ev.ent (σ':=⟨[(4,.p (.int .i64) (-1))],[(1,.box 143 true [.p T9 f,.p T9 v])]⟩) ?_ (AC [(1,.nm 1)] rfl rfl ?_ ?_)
 .exact fM c [.tmp 4] (.p T3 (-1)) eT ⟨by rw[d],rfl⟩
 .first|exact eN|refine eM ?_
 first|exact eN|refine eM ?_
theorem vT (f v:ByteArray) (l:List (FV)) (e:l.length<=140737488355328):Aj Tryz.prog 112 [.p Lx l,.clo 113 [1]] [(1,.box 143 true [.p T9 f,.p T9 v])] [1] (λres g=>res=.p .bool (l.any (λx:FV=>AM x.1 f))/\g=[(1,.box 143 true [.p T9 f,.p T9 v])]):=by
 refine Er [0,1,4] [] [] Tryz.func112 Tryz.ntmps112 AH ?_;intro w0 K O0 ρ0 a h i;simp only[AX];repeat'(first|exact trivial|apply eS rfl|apply AB|refine rX a ?_ ?_|refine rC ?_ ?_<;>intro b<;>try(cases b;done))
 refine cP 2 a ?_ ?_
 .trivial
 have key:=vS f v l e;refine rM a (key) [(1,.nm 1)] [] ?_ ?_ ?_
 .first|exact eN|refine eM ?_
 .first|exact eN|refine eM ?_
 rintro _ _ ⟨rfl,rfl⟩;refine⟨[(1,.nm 1)],.p T3 (CR (λx:FV=>AM x.1 f) 0 l),[(1,.box 143 true [.p T9 f,.p T9 v])],rfl,rfl,?_,?_,rfl,rfl,?_⟩
 .first|exact eN|refine eM ?_
 .first|exact eN|refine eM ?_
 have d:=F1 (λx:FV=>AM x.1 f) 0 l;generalize CR (λx:FV=>AM x.1 f) 0 l=c at *;refine rL a ?_ ?_
 .trivial
 repeat'(first|exact trivial|apply eS rfl|apply AB|refine rX a ?_ ?_|refine rC ?_ ?_<;>intro b<;>try(cases b;done))
 refine Ev.ent (σ':=⟨[(4,.p .bool (decide (0<=c)))],[(1,.box 143 true [.p T9 f,.p T9 v])]⟩) ?_ (AC [(1,.nm 1)] rfl rfl ?_ ?_)
 .exact fM a [.tmp 4] (.p .bool (decide (0<=c))) eT ⟨by rw[d],rfl⟩
 .first|exact eN|refine eM ?_
 first|exact eN|refine eM ?_
theorem vU (f:ByteArray) (x:FV):Aj Tryz.prog 162 [.p fW x,.bp 1 [] 0] [(1,.box 9 false [.p T9 f])] [1] (λres c=>res=.p .bool (AM x.1 f)/\c=[(1,.box 9 false [.p T9 f])]):=by
 refine Er [0,1,2,3] [] [] Tryz.func162 Tryz.ntmps162 AH ?_;intro w0 K O0 ρ0 a d e;simp only[AX];repeat'(first|exact trivial|apply eS rfl|apply AB|refine rX a ?_ ?_|refine rC ?_ ?_<;>intro b<;>try(cases b;done))
 refine Ev.ent (σ':=⟨[(3,.p .bool (AM x.1 f))],[(1,.box 9 false [.p T9 f])]⟩) ?_ (AC [(1,.nm 1)] rfl rfl ?_ ?_)
 .exact fM a [.tmp 3] (.p .bool (AM x.1 f)) eT ⟨rfl,rfl⟩
 .first|exact eN|refine eM ?_
 first|exact eN|refine eM ?_
theorem vV (f:ByteArray) (l:List (FV)) (q:l.length<=140737488355328):Aj Tryz.prog 161 [.p Lx l,.clo 162 [1]] [(1,.box 9 false [.p T9 f])] [1] (λres n=>res=.p T3 (CR (λx:FV=>AM x.1 f) 0 l)/\n=[(1,.box 9 false [.p T9 f])]):=by
 refine Er [0,1,4,5,7,8,9,16] [] [] Tryz.func161 Tryz.ntmps161 AH ?_;intro w0 K O0 ρ0 c r s;simp only[AX];repeat'(first|exact trivial|apply eS rfl|apply AB|refine rX c ?_ ?_|refine rC ?_ ?_<;>intro a<;>try(cases a;done))
 refine AJ (ι:={k:Nat//k<=l.length/\CR (λx:FV=>AM x.1 f) k (l.drop k)=CR (λx:FV=>AM x.1 f) 0 l}) (λk=>⟨[(0,.p Lx l),(1,.clo 162 [1]),(7,.p (.int .i64) (l.length:Int)),(8,.p (.int .i64) (k.1:Int))],[(1,.box 9 false [.p T9 f])]⟩) (λk=>l.length-k.1) ⟨0,BY _,rfl⟩ (AC [(1,.nm 1)] rfl rfl ?_ ?_) (λk=>?_)
 .first|exact eN|refine eM ?_
 .first|exact eN|refine eM ?_
 obtain⟨k,o,d⟩:=k;have m:k<l.length->∀b,(λx:FV=>AM x.1 f) (l.getD k Kq)=b->CR (λx:FV=>AM x.1 f) k (l.drop k)=if b=true then (k:Int) else CR (λx:FV=>AM x.1 f) (k+1) (l.drop (k+1)):=λh b e=>by rw[<-e];exact Dm (λx:FV=>AM x.1 f) Kq l h
 simp only;repeat'(first|exact trivial|apply eS rfl|apply AB|refine rX c ?_ ?_|refine rC ?_ ?_<;>intro a<;>try(cases a;done))
 .have g:k<l.length:=An.1 a;refine cP 5 c ?_ ?_
  .exact a
  have key:=vU f (l.getD k Kq);refine rM c (key) [(1,.nm 1)] [] ?_ ?_ ?_
  .first|exact eN|refine eM ?_
  .first|exact eN|refine eM ?_
  rintro _ _ ⟨rfl,rfl⟩;refine⟨[(1,.nm 1)],.p .bool ((λx:FV=>AM x.1 f) (l.getD k Kq)),[(1,.box 9 false [.p T9 f])],rfl,rfl,?_,?_,rfl,rfl,Bq ?_⟩
  .first|exact eN|refine eM ?_
  .first|exact eN|refine eM ?_
  generalize t:(λx:FV=>AM x.1 f) (l.getD k Kq)=j at *;have i:=m g j rfl;repeat'(first|exact trivial|apply eS rfl|apply AB|refine rX c ?_ ?_|refine rC ?_ ?_<;>intro a<;>try(cases a;done))
  .have a:j=true:=a;rw[At a,d]at i;refine Ev.ent (σ':=⟨[(4,.p (.int .i64) (k:Int))],[(1,.box 9 false [.p T9 f])]⟩) ?_ (AC [(1,.nm 1)] rfl rfl ?_ ?_)
   .exact fM c [.tmp 4] (.p T3 (k:Int)) eT ⟨by rw[i],rfl⟩
   .first|exact eN|refine eM ?_
   first|exact eN|refine eM ?_
  .omega
  have a:j=false:=a;rw[As (by rw[a];simp)]at i;refine⟨⟨k+1,g,i.symm.trans d⟩,by simp only;omega,AC [(1,.nm 1)] rfl rfl ?_ ?_⟩
  .first|exact eN|refine eM ?_
  first|exact eN|refine eM ?_
 have g:l.drop k=[]:=OR (NO.1 a);rw[g]at d;have d:(-1:Int)=CR (λx:FV=>AM x.1 f) 0 l:=d;refine Ev.ent (σ':=⟨[(4,.p (.int .i64) (-1))],[(1,.box 9 false [.p T9 f])]⟩) ?_ (AC [(1,.nm 1)] rfl rfl ?_ ?_)
 .exact fM c [.tmp 4] (.p T3 (-1)) eT ⟨by rw[d],rfl⟩
 .first|exact eN|refine eM ?_
 first|exact eN|refine eM ?_
theorem vX (f:ByteArray) (l:List (FV)) (e:l.length<=140737488355328):Aj Tryz.prog 112 [.p Lx l,.clo 162 [1]] [(1,.box 9 false [.p T9 f])] [1] (λres g=>res=.p .bool (l.any (λx:FV=>AM x.1 f))/\g=[(1,.box 9 false [.p T9 f])]):=by
 refine Er [0,1,4] [] [] Tryz.func112 Tryz.ntmps112 AH ?_;intro w0 K O0 ρ0 a h i;simp only[AX];repeat'(first|exact trivial|apply eS rfl|apply AB|refine rX a ?_ ?_|refine rC ?_ ?_<;>intro b<;>try(cases b;done))
 refine cP 2 a ?_ ?_
 .trivial
 have key:=vV f l e;refine rM a (key) [(1,.nm 1)] [] ?_ ?_ ?_
 .first|exact eN|refine eM ?_
 .first|exact eN|refine eM ?_
 rintro _ _ ⟨rfl,rfl⟩;refine⟨[(1,.nm 1)],.p T3 (CR (λx:FV=>AM x.1 f) 0 l),[(1,.box 9 false [.p T9 f])],rfl,rfl,?_,?_,rfl,rfl,?_⟩
 .first|exact eN|refine eM ?_
 .first|exact eN|refine eM ?_
 have d:=F1 (λx:FV=>AM x.1 f) 0 l;generalize CR (λx:FV=>AM x.1 f) 0 l=c at *;refine rL a ?_ ?_
 .trivial
 repeat'(first|exact trivial|apply eS rfl|apply AB|refine rX a ?_ ?_|refine rC ?_ ?_<;>intro b<;>try(cases b;done))
 refine Ev.ent (σ':=⟨[(4,.p .bool (decide (0<=c)))],[(1,.box 9 false [.p T9 f])]⟩) ?_ (AC [(1,.nm 1)] rfl rfl ?_ ?_)
 .exact fM a [.tmp 4] (.p .bool (decide (0<=c))) eT ⟨by rw[d],rfl⟩
 .first|exact eN|refine eM ?_
 first|exact eN|refine eM ?_
section
attribute [local go_sem] VZ Ku
def zZ (a b:List Int) (i:Nat):Int:=A4 .or .u64 (E9 a (i:Int)) (E9 b (i:Int))
def Z6 (a b:List Int):List Int:=A9 (EP (zZ a b) (max a.length b.length) (max a.length b.length))
def vY:Spec:={ ins:=[BZ,BZ],pre:=λ(a,b,_)=>List.length a<=100000/\List.length b<=100000,out:=λ(a,b,_)=>[.p BZ (Z6 a b)] }
attribute [local go_sem] vY
theorem zJ:Ap Tryz.prog 33 vY:=by
 refine fK [0,1,4,5,6,14,15,16] Tryz.func33 Tryz.ntmps33 (AF XY (AF MQ AH)) ?_;rintro w0 O0 ⟨a,b,u⟩ d-⟨e,f⟩;have e:a.length<=100000:=e;have f:b.length<=100000:=f;simp only[vY,AP];repeat'(first|exact trivial|apply eS rfl|apply AB|refine rX d ?_ ?_|refine rC ?_ ?_<;>intro c<;>try(cases c;done))
 .split<;>simp only[AN]<;>dsimp only[Ty.den]at *<;>omega
 have l:Int.toNat (if ((List.length a:Nat):Int)<((List.length b:Nat):Int) then ((List.length b:Nat):Int) else ((List.length a:Nat):Int))=max (List.length a) (List.length b):=by split<;>omega
 rw[l];have m:Z6 a b=A9 (EP (zZ a b) (max a.length b.length) (max a.length b.length)):=rfl;have k:max a.length b.length<=100000:=Nat.max_le.2 ⟨e,f⟩;generalize max a.length b.length=n at *;refine AJ (ι:={i:Nat//i<=n}) (λi=>⟨[(0,.p BZ a),(1,.p BZ b),(5,.sr 12 Se 0 n),(14,.p (.int .i64) (n:Int)),(15,.p (.int .i64) (i.1:Int))],[(12,.arr 65 Se (EP (zZ a b) n i.1))]⟩) (λi=>n-i.1) ⟨0,BY _⟩ (AC [(12,.nm 12)] rfl rfl ?_ ?_) (λi=>?_)
 .rw[Rf];first|exact eN|refine eM ?_
  try rfl
 .first|exact eN|refine eM ?_
 obtain⟨i,hi⟩:=i;have h:=LW (zZ a b) n i;simp only;repeat'(first|exact trivial|apply eS rfl|apply AB|refine rX d ?_ ?_|refine rC ?_ ?_<;>intro c<;>try(cases c;done))
 .exact c
 .exact eV
 .have g:i<n:=An.1 (by assumption);refine⟨⟨i+1,g⟩,by simp only;omega,AC [(12,.nm 12)] rfl rfl ?_ ?_⟩
  .simp only[<-Tm];first|exact eN|refine eM ?_
   try rfl
  first|exact eN|refine eM ?_
 have g:i=n:=jM hi (NO.1 c);subst g;have j:(EP (zZ a b) i i).take i=EP (zZ a b) i i:=By (by rw[h];exact If _);refine DH [12] ?_;repeat'(first|exact trivial|apply eS rfl|apply AB|refine rX d ?_ ?_|refine rC ?_ ?_<;>intro c<;>try(cases c;done))
 .rw[j,h];exact k
 rw[j];exact fI d [.tmp 4] (by rw[m];exact eR)
end
def Em (num:CL) (s:ByteArray):Int:=(AQ .str T3 s num).getD 0
def Pa (s:ByteArray) (x:AD):Bool:=x.2.2.any λy:FV=>AM y.1 s
def Cb (d:List AD) (num:CL) (s:ByteArray):List Int:=(d.filter (Pa s)).map λx=>Em num x.1
theorem Z7 (d:List AD) (num:CL) (s:ByteArray) {k:Nat} (h:k<d.length):Cb (d.take (k+1)) num s=Cb (d.take k) num s++if Pa s (d.getD k d0)=true then [Em num (d.getD k d0).1] else []:=by
 unfold Cb;rw[K3 (Pa s) d d0 h,AA7]
 congr 1
 split<;>rfl
theorem UQ (d:List AD) (num:CL) (s:ByteArray):(Cb d num s).length<=d.length:=by
 unfold Cb;rw[Of];exact AA2 _ _
theorem vZ (d:List AD) (c:List AI) (num:CL) (fe:List ByteArray) (e:List Int) (s:ByteArray) (q:d.length<=256) (n:∀x∈d,x.2.2.length<=140737488355328) :
  Aj Tryz.prog 114 [.bp 1 [] 0,.p .str s] [(1,.box 77 true [.p Aw d,.p Bi c,.mp 2,.p Ad fe,.sr 1000004 T3 0 e.length,.raw (.slice none 0 0)]),(2,.mapo .str CQ num),(1000004,.arr 3 T3 e)] [1,2,1000004] (λres o=>res=.p Dj (Cb d num s)/\o=[(1,.box 77 true [.p Aw d,.p Bi c,.mp 2,.p Ad fe,.sr 1000004 T3 0 e.length,.raw (.slice none 0 0)]),(2,.mapo .str CQ num),(1000004,.arr 3 T3 e)]):=by
 refine Er [0,1,3,4,5,7,11,12,13,14,20] [] [] Tryz.func114 Tryz.ntmps114 AH ?_;intro w0 K O0 ρ0 f t u;simp only[AX];repeat'(first|exact trivial|apply eS rfl|apply AB|refine rX f ?_ ?_|refine rC ?_ ?_<;>intro b<;>try(cases b;done))
 refine AJ (ι:={k:Nat//k<=d.length}) (λk=>⟨[(0,.bp 1 [] 0),(3,.bp 3 [] 0),(5,.sr 30 T3 0 (Cb (d.take k.1) num s).length),(11,.p Aw d),(12,.p (.int .i64) (d.length:Int)),(13,.p (.int .i64) (k.1:Int))],[(1,.box 77 true [.p Aw d,.p Bi c,.mp 2,.p Ad fe,.sr 1000004 T3 0 e.length,.raw (.slice none 0 0)]),(2,.mapo .str CQ num),(1000004,.arr 3 T3 e),(3,.box 9 false [.p .str s]),(30,.arr 3 T3 (Cb (d.take k.1) num s))]⟩) (λk=>d.length-k.1) ⟨0,BY _⟩ (AC [(1,.nm 1),(2,.nm 2),(1000004,.nm 1000004),(3,.nm 3),(30,.nil)] rfl rfl ?_ ?_) (λk=>?_)
 .first|exact eN|refine eM ?_
  try rfl
 .first|exact eN|refine eM ?_
  try rfl
 obtain⟨k,r⟩:=k;have v:=UQ (d.take k) num s;have w:=AA6 k d;have a:=λh:k<d.length=>Z7 d num s h;simp only;repeat'(first|exact trivial|apply eS rfl|apply AB|refine rX f ?_ ?_|refine rC ?_ ?_<;>intro b<;>try(cases b;done))
 .exact b
 .have g:k<d.length:=An.1 (by assumption);replace a:=a g;have j:=n _ (AL g:d.getD k d0∈d);rw[show d.getD k (ByteArray.empty,[],[])=d.getD k d0 from rfl]at *;generalize d.getD k d0=x at *;obtain⟨l,xs,i⟩:=x;simp only at a j ⊢;have m:=vX s i j;refine cP 3 f ?_ ?_
  .trivial
  refine rM f (m) [(1,.nm 3)] [] ?_ ?_ ?_
  .first|exact eN|refine eM ?_
  .first|exact eN|refine eM ?_
  rintro _ _ ⟨rfl,rfl⟩;refine⟨[(3,.nm 1)],.p .bool (i.any λy:FV=>AM y.1 s),[(3,.box 9 false [.p .str s])],rfl,rfl,?_,?_,rfl,rfl,?_⟩
  .first|exact eN|refine eM ?_
  .first|exact eN|refine eM ?_
  refine rL f trivial ?_;repeat'(first|exact trivial|apply eS rfl|apply AB|refine rX f ?_ ?_|refine rC ?_ ?_<;>intro b<;>try(cases b;done))
  .simp only[AN];omega
  .exact eV
  .rw[show Pa s (l,xs,i)=true from b,At rfl]at a;unfold Em at a;refine⟨⟨k+1,g⟩,by simp only;omega,AC [(1,.nm 1),(2,.nm 2),(1000004,.nm 1000004),(3,.nm 3),(30,.nm 30)] rfl rfl ?_ ?_⟩
   .simp only;rw[a];first|exact eN|refine eM ?_
   simp only;rw[a];first|exact eN|refine eM ?_
  .exact eV
  rw[show Pa s (l,xs,i)=false from b,As sa,AAb]at a;refine⟨⟨k+1,g⟩,by simp only;omega,AC [(1,.nm 1),(2,.nm 2),(1000004,.nm 1000004),(3,.nm 3),(30,.nm 30)] rfl rfl ?_ ?_⟩
  .simp only;rw[a];first|exact eN|refine eM ?_
  simp only;rw[a];first|exact eN|refine eM ?_
 have g:d.take k=d:=By (NO.1 b);rw[g];refine DH [30] ?_;refine Ev.ent (σ':=⟨[(4,.p Dj (Cb d num s))],[(1,.box 77 true [.p Aw d,.p Bi c,.mp 2,.p Ad fe,.sr 1000004 T3 0 e.length,.raw (.slice none 0 0)]),(2,.mapo .str CQ num),(1000004,.arr 3 T3 e)]⟩) ?_ (AC [(1,.nm 1),(2,.nm 2),(1000004,.nm 1000004)] rfl rfl ?_ ?_)
 .exact fM f [.tmp 4] (.p Dj (Cb d num s)) eT ⟨rfl,rfl⟩
 .first|exact eN|refine eM ?_
 first|exact eN|refine eM ?_
section
attribute [local go_sem] SL
def FC (c:List AI) (a b:Int):Bool:=!PZ c a b
theorem v6 (d:List AD) (c:List AI) (num:CL) (fe:List ByteArray) (e:List Int) (a b:Int) (h:(0<=a/\a<(c.length:Int))/\(0<=b/\b<(c.length:Int))) :
  Aj Tryz.prog 116 [.p T3 b,.bp 1 [] 0,.bp 2 [] 0] [(1,.box 72 false [.bp 5 [] 0]),(2,.box 3 false [.p T3 a]),(5,.box 77 true [.p Aw d,.p Bi c,.mp 6,.p Ad fe,.sr 1000004 T3 0 e.length,.raw (.slice none 0 0)]),(6,.mapo .str CQ num),(1000004,.arr 3 T3 e)] [1,2,5,6,1000004] (λres i=>res=.p .bool (FC c a b)/\i=[(1,.box 72 false [.bp 5 [] 0]),(2,.box 3 false [.p T3 a]),(5,.box 77 true [.p Aw d,.p Bi c,.mp 6,.p Ad fe,.sr 1000004 T3 0 e.length,.raw (.slice none 0 0)]),(6,.mapo .str CQ num),(1000004,.arr 3 T3 e)]):=by
 refine Er [0,1,2,4] [] [] Tryz.func116 Tryz.ntmps116 (AF SM AH) ?_;intro w0 K O0 ρ0 f j k;simp only[AX];repeat'(first|exact trivial|apply eS rfl|apply AB|refine rX f ?_ ?_|refine rC ?_ ?_<;>intro g<;>try(cases g;done))
 .exact h
 exact fM f [.tmp 4] (.p .bool (FC c a b)) (by unfold FC;simp only[PC,Wn,KS,PB,IY,Gf,GP,go_sem,Nat.reduceEqDiff,reduceCtorEq,Nat.reduceAdd,Nat.reduceSub,Nat.reduceMul,Nat.reduceLeDiff,Nat.reduceLT,Int.reduceLE,Int.reduceToNat,Int.reduceNeg,↓reduceIte]) ⟨rfl,rfl⟩
theorem v7 (d:List AD) (c:List AI) (num:CL) (fe:List ByteArray) (g:List Int) (a:Int) (l:List (Int)) (u:l.length<=140737488355328) (q:∀x∈l,(0<=a/\a<(c.length:Int))/\(0<=x/\x<(c.length:Int))):Aj Tryz.prog 91 [.p Dj l,.clo 116 [1,2]] [(1,.box 72 false [.bp 5 [] 0]),(2,.box 3 false [.p T3 a]),(5,.box 77 true [.p Aw d,.p Bi c,.mp 6,.p Ad fe,.sr 1000004 T3 0 g.length,.raw (.slice none 0 0)]),(6,.mapo .str CQ num),(1000004,.arr 3 T3 g)] [1,2,5,6,1000004] (λres s=>res=.p T3 (CR (FC c a) 0 l)/\s=[(1,.box 72 false [.bp 5 [] 0]),(2,.box 3 false [.p T3 a]),(5,.box 77 true [.p Aw d,.p Bi c,.mp 6,.p Ad fe,.sr 1000004 T3 0 g.length,.raw (.slice none 0 0)]),(6,.mapo .str CQ num),(1000004,.arr 3 T3 g)]):=by
 refine Er [0,1,4,5,7,8,9,16] [] [] Tryz.func91 Tryz.ntmps91 AH ?_;intro w0 K O0 ρ0 i v w;simp only[AX];repeat'(first|exact trivial|apply eS rfl|apply AB|refine rX i ?_ ?_|refine rC ?_ ?_<;>intro f<;>try(cases f;done))
 refine AJ (ι:={k:Nat//k<=l.length/\CR (FC c a) k (l.drop k)=CR (FC c a) 0 l}) (λk=>⟨[(0,.p Dj l),(1,.clo 116 [1,2]),(7,.p (.int .i64) (l.length:Int)),(8,.p (.int .i64) (k.1:Int))],[(1,.box 72 false [.bp 5 [] 0]),(2,.box 3 false [.p T3 a]),(5,.box 77 true [.p Aw d,.p Bi c,.mp 6,.p Ad fe,.sr 1000004 T3 0 g.length,.raw (.slice none 0 0)]),(6,.mapo .str CQ num),(1000004,.arr 3 T3 g)]⟩) (λk=>l.length-k.1) ⟨0,BY _,rfl⟩ (AC [(1,.nm 1),(2,.nm 2),(5,.nm 5),(6,.nm 6),(1000004,.nm 1000004)] rfl rfl ?_ ?_) (λk=>?_)
 .first|exact eN|refine eM ?_
 .first|exact eN|refine eM ?_
 obtain⟨k,t,j⟩:=k;have r:k<l.length->∀b,(FC c a) (l.getD k (0:Int))=b->CR (FC c a) k (l.drop k)=if b=true then (k:Int) else CR (FC c a) (k+1) (l.drop (k+1)):=λh b e=>by rw[<-e];exact Dm (FC c a) (0:Int) l h
 simp only;repeat'(first|exact trivial|apply eS rfl|apply AB|refine rX i ?_ ?_|refine rC ?_ ?_<;>intro f<;>try(cases f;done))
 .have m:k<l.length:=An.1 f;refine cP 5 i ?_ ?_
  .exact f
  have key:=v6 d c num fe g a (l.getD k (0:Int)) (q _ (AL m));refine rM i (key) [(1,.nm 1),(2,.nm 2),(5,.nm 5),(6,.nm 6),(1000004,.nm 1000004)] [] ?_ ?_ ?_
  .first|exact eN|refine eM ?_
  .first|exact eN|refine eM ?_
  rintro _ _ ⟨rfl,rfl⟩;refine⟨[(1,.nm 1),(2,.nm 2),(5,.nm 5),(6,.nm 6),(1000004,.nm 1000004)],.p .bool ((FC c a) (l.getD k (0:Int))),[(1,.box 72 false [.bp 5 [] 0]),(2,.box 3 false [.p T3 a]),(5,.box 77 true [.p Aw d,.p Bi c,.mp 6,.p Ad fe,.sr 1000004 T3 0 g.length,.raw (.slice none 0 0)]),(6,.mapo .str CQ num),(1000004,.arr 3 T3 g)],rfl,rfl,?_,?_,rfl,rfl,Bq ?_⟩
  .first|exact eN|refine eM ?_
  .first|exact eN|refine eM ?_
  generalize y:(FC c a) (l.getD k (0:Int))=o at *;have n:=r m o rfl;repeat'(first|exact trivial|apply eS rfl|apply AB|refine rX i ?_ ?_|refine rC ?_ ?_<;>intro f<;>try(cases f;done))
  .have f:o=true:=f;rw[At f,j]at n;refine Ev.ent (σ':=⟨[(4,.p (.int .i64) (k:Int))],[(1,.box 72 false [.bp 5 [] 0]),(2,.box 3 false [.p T3 a]),(5,.box 77 true [.p Aw d,.p Bi c,.mp 6,.p Ad fe,.sr 1000004 T3 0 g.length,.raw (.slice none 0 0)]),(6,.mapo .str CQ num),(1000004,.arr 3 T3 g)]⟩) ?_ (AC [(1,.nm 1),(2,.nm 2),(5,.nm 5),(6,.nm 6),(1000004,.nm 1000004)] rfl rfl ?_ ?_)
   .exact fM i [.tmp 4] (.p T3 (k:Int)) eT ⟨by rw[n],rfl⟩
   .first|exact eN|refine eM ?_
   first|exact eN|refine eM ?_
  .omega
  have f:o=false:=f;rw[As (by rw[f];simp)]at n;refine⟨⟨k+1,m,n.symm.trans j⟩,by simp only;omega,AC [(1,.nm 1),(2,.nm 2),(5,.nm 5),(6,.nm 6),(1000004,.nm 1000004)] rfl rfl ?_ ?_⟩
  .first|exact eN|refine eM ?_
  first|exact eN|refine eM ?_
 have m:l.drop k=[]:=OR (NO.1 f);rw[m]at j;have j:(-1:Int)=CR (FC c a) 0 l:=j;refine Ev.ent (σ':=⟨[(4,.p (.int .i64) (-1))],[(1,.box 72 false [.bp 5 [] 0]),(2,.box 3 false [.p T3 a]),(5,.box 77 true [.p Aw d,.p Bi c,.mp 6,.p Ad fe,.sr 1000004 T3 0 g.length,.raw (.slice none 0 0)]),(6,.mapo .str CQ num),(1000004,.arr 3 T3 g)]⟩) ?_ (AC [(1,.nm 1),(2,.nm 2),(5,.nm 5),(6,.nm 6),(1000004,.nm 1000004)] rfl rfl ?_ ?_)
 .exact fM i [.tmp 4] (.p T3 (-1)) eT ⟨by rw[j],rfl⟩
 .first|exact eN|refine eM ?_
 first|exact eN|refine eM ?_
theorem v8 (d:List AD) (c:List AI) (num:CL) (fe:List ByteArray) (b:List Int) (a:Int) (l:List (Int)) (i:l.length<=140737488355328) (j:∀x∈l,(0<=a/\a<(c.length:Int))/\(0<=x/\x<(c.length:Int))):Aj Tryz.prog 50 [.p Dj l,.clo 116 [1,2]] [(1,.box 72 false [.bp 5 [] 0]),(2,.box 3 false [.p T3 a]),(5,.box 77 true [.p Aw d,.p Bi c,.mp 6,.p Ad fe,.sr 1000004 T3 0 b.length,.raw (.slice none 0 0)]),(6,.mapo .str CQ num),(1000004,.arr 3 T3 b)] [1,2,5,6,1000004] (λres k=>res=.p .bool (l.any (FC c a))/\k=[(1,.box 72 false [.bp 5 [] 0]),(2,.box 3 false [.p T3 a]),(5,.box 77 true [.p Aw d,.p Bi c,.mp 6,.p Ad fe,.sr 1000004 T3 0 b.length,.raw (.slice none 0 0)]),(6,.mapo .str CQ num),(1000004,.arr 3 T3 b)]):=by
 refine Er [0,1,4] [] [] Tryz.func50 Tryz.ntmps50 AH ?_;intro w0 K O0 ρ0 e m n;simp only[AX];repeat'(first|exact trivial|apply eS rfl|apply AB|refine rX e ?_ ?_|refine rC ?_ ?_<;>intro f<;>try(cases f;done))
 refine cP 2 e ?_ ?_
 .trivial
 have key:=v7 d c num fe b a l i j;refine rM e (key) [(1,.nm 1),(2,.nm 2),(5,.nm 5),(6,.nm 6),(1000004,.nm 1000004)] [] ?_ ?_ ?_
 .first|exact eN|refine eM ?_
 .first|exact eN|refine eM ?_
 rintro _ _ ⟨rfl,rfl⟩;refine⟨[(1,.nm 1),(2,.nm 2),(5,.nm 5),(6,.nm 6),(1000004,.nm 1000004)],.p T3 (CR (FC c a) 0 l),[(1,.box 72 false [.bp 5 [] 0]),(2,.box 3 false [.p T3 a]),(5,.box 77 true [.p Aw d,.p Bi c,.mp 6,.p Ad fe,.sr 1000004 T3 0 b.length,.raw (.slice none 0 0)]),(6,.mapo .str CQ num),(1000004,.arr 3 T3 b)],rfl,rfl,?_,?_,rfl,rfl,?_⟩
 .first|exact eN|refine eM ?_
 .first|exact eN|refine eM ?_
 have h:=F1 (FC c a) 0 l;generalize CR (FC c a) 0 l=g at *;refine rL e ?_ ?_
 .trivial
 repeat'(first|exact trivial|apply eS rfl|apply AB|refine rX e ?_ ?_|refine rC ?_ ?_<;>intro f<;>try(cases f;done))
 refine Ev.ent (σ':=⟨[(4,.p .bool (decide (0<=g)))],[(1,.box 72 false [.bp 5 [] 0]),(2,.box 3 false [.p T3 a]),(5,.box 77 true [.p Aw d,.p Bi c,.mp 6,.p Ad fe,.sr 1000004 T3 0 b.length,.raw (.slice none 0 0)]),(6,.mapo .str CQ num),(1000004,.arr 3 T3 b)]⟩) ?_ (AC [(1,.nm 1),(2,.nm 2),(5,.nm 5),(6,.nm 6),(1000004,.nm 1000004)] rfl rfl ?_ ?_)
 .exact fM e [.tmp 4] (.p .bool (decide (0<=g))) eT ⟨by rw[h],rfl⟩
 .first|exact eN|refine eM ?_
 first|exact eN|refine eM ?_
def Jk (c:List AI) (l:List Int) (a:Int):Bool:=!l.any (FC c a)
def zK (c:List AI) (l:List Int):Int:=CR (Jk c l) 0 l
theorem wA (d:List AD) (c:List AI) (num:CL) (fe:List ByteArray) (b:List Int) (q:List Int) (a:Int) (h:q.length<=140737488355328/\(∀x∈q,(0<=x/\x<(c.length:Int)))/\(0<=a/\a<(c.length:Int))) :
  Aj Tryz.prog 115 [.p T3 a,.bp 1 [] 0,.bp 2 [] 0] [(1,.box 39 false [.p Dj q]),(2,.box 72 false [.bp 5 [] 0]),(5,.box 77 true [.p Aw d,.p Bi c,.mp 6,.p Ad fe,.sr 1000004 T3 0 b.length,.raw (.slice none 0 0)]),(6,.mapo .str CQ num),(1000004,.arr 3 T3 b)] [1,2,5,6,1000004] (λres l=>res=.p .bool (Jk c q a)/\l=[(1,.box 39 false [.p Dj q]),(2,.box 72 false [.bp 5 [] 0]),(5,.box 77 true [.p Aw d,.p Bi c,.mp 6,.p Ad fe,.sr 1000004 T3 0 b.length,.raw (.slice none 0 0)]),(6,.mapo .str CQ num),(1000004,.arr 3 T3 b)]):=by
 refine Er [0,1,2,3,4] [] [] Tryz.func115 Tryz.ntmps115 AH ?_;intro w0 K O0 ρ0 e m n;simp only[AX];obtain⟨i,j,g⟩:=h;have key:=v8 d c num fe b a q i (λx k=>⟨g,j x k⟩);repeat'(first|exact trivial|apply eS rfl|apply AB|refine rX e ?_ ?_|refine rC ?_ ?_<;>intro f<;>try(cases f;done))
 refine cP 2 e ?_ ?_
 .trivial
 refine rM e (key) [(1,.nm 2),(2,.nm 3),(5,.nm 5),(6,.nm 6),(1000004,.nm 1000004)] [] ?_ ?_ ?_
 .first|exact eN|refine eM ?_
 .first|exact eN|refine eM ?_
 rintro _ _ ⟨rfl,rfl⟩;refine⟨[(2,.nm 1),(3,.nm 2),(5,.nm 5),(6,.nm 6),(1000004,.nm 1000004)],.p .bool (q.any (FC c a)),[(2,.box 72 false [.bp 5 [] 0]),(3,.box 3 false [.p T3 a]),(5,.box 77 true [.p Aw d,.p Bi c,.mp 6,.p Ad fe,.sr 1000004 T3 0 b.length,.raw (.slice none 0 0)]),(6,.mapo .str CQ num),(1000004,.arr 3 T3 b)],rfl,rfl,?_,?_,rfl,rfl,?_⟩
 .first|exact eN|refine eM ?_
 .first|exact eN|refine eM ?_
 refine rL e trivial ?_;repeat'(first|exact trivial|apply eS rfl|apply AB|refine rX e ?_ ?_|refine rC ?_ ?_<;>intro f<;>try(cases f;done))
 refine Ev.ent (σ':=⟨[(4,.p .bool (Jk c q a))],[(1,.box 39 false [.p Dj q]),(2,.box 72 false [.bp 5 [] 0]),(5,.box 77 true [.p Aw d,.p Bi c,.mp 6,.p Ad fe,.sr 1000004 T3 0 b.length,.raw (.slice none 0 0)]),(6,.mapo .str CQ num),(1000004,.arr 3 T3 b)]⟩) ?_ (AC [(1,.nm 1),(2,.nm 2),(5,.nm 5),(6,.nm 6),(1000004,.nm 1000004)] rfl rfl ?_ ?_)
 .exact fM e [.tmp 4] (.p .bool (Jk c q a)) eT ⟨rfl,rfl⟩
 .first|exact eN|refine eM ?_
 unfold Jk;first|exact eN|refine eM ?_
theorem wB (d:List AD) (c:List AI) (num:CL) (fe:List ByteArray) (f:List Int) (q:List Int) (l:List (Int)) (u:l.length<=140737488355328) (o:∀x∈l,q.length<=140737488355328/\(∀x∈q,(0<=x/\x<(c.length:Int)))/\(0<=x/\x<(c.length:Int))):Aj Tryz.prog 91 [.p Dj l,.clo 115 [1,2]] [(1,.box 39 false [.p Dj q]),(2,.box 72 false [.bp 5 [] 0]),(5,.box 77 true [.p Aw d,.p Bi c,.mp 6,.p Ad fe,.sr 1000004 T3 0 f.length,.raw (.slice none 0 0)]),(6,.mapo .str CQ num),(1000004,.arr 3 T3 f)] [1,2,5,6,1000004] (λres s=>res=.p T3 (CR (Jk c q) 0 l)/\s=[(1,.box 39 false [.p Dj q]),(2,.box 72 false [.bp 5 [] 0]),(5,.box 77 true [.p Aw d,.p Bi c,.mp 6,.p Ad fe,.sr 1000004 T3 0 f.length,.raw (.slice none 0 0)]),(6,.mapo .str CQ num),(1000004,.arr 3 T3 f)]):=by
 refine Er [0,1,4,5,7,8,9,16] [] [] Tryz.func91 Tryz.ntmps91 AH ?_;intro w0 K O0 ρ0 g v w;simp only[AX];repeat'(first|exact trivial|apply eS rfl|apply AB|refine rX g ?_ ?_|refine rC ?_ ?_<;>intro a<;>try(cases a;done))
 refine AJ (ι:={k:Nat//k<=l.length/\CR (Jk c q) k (l.drop k)=CR (Jk c q) 0 l}) (λk=>⟨[(0,.p Dj l),(1,.clo 115 [1,2]),(7,.p (.int .i64) (l.length:Int)),(8,.p (.int .i64) (k.1:Int))],[(1,.box 39 false [.p Dj q]),(2,.box 72 false [.bp 5 [] 0]),(5,.box 77 true [.p Aw d,.p Bi c,.mp 6,.p Ad fe,.sr 1000004 T3 0 f.length,.raw (.slice none 0 0)]),(6,.mapo .str CQ num),(1000004,.arr 3 T3 f)]⟩) (λk=>l.length-k.1) ⟨0,BY _,rfl⟩ (AC [(1,.nm 1),(2,.nm 2),(5,.nm 5),(6,.nm 6),(1000004,.nm 1000004)] rfl rfl ?_ ?_) (λk=>?_)
 .first|exact eN|refine eM ?_
 .first|exact eN|refine eM ?_
 obtain⟨k,t,i⟩:=k;have r:k<l.length->∀b,(Jk c q) (l.getD k (0:Int))=b->CR (Jk c q) k (l.drop k)=if b=true then (k:Int) else CR (Jk c q) (k+1) (l.drop (k+1)):=λh b e=>by rw[<-e];exact Dm (Jk c q) (0:Int) l h
 simp only;repeat'(first|exact trivial|apply eS rfl|apply AB|refine rX g ?_ ?_|refine rC ?_ ?_<;>intro a<;>try(cases a;done))
 .have j:k<l.length:=An.1 a;refine cP 5 g ?_ ?_
  .exact a
  have key:=wA d c num fe f q (l.getD k (0:Int)) (o _ (AL j));refine rM g (key) [(1,.nm 1),(2,.nm 2),(5,.nm 5),(6,.nm 6),(1000004,.nm 1000004)] [] ?_ ?_ ?_
  .first|exact eN|refine eM ?_
  .first|exact eN|refine eM ?_
  rintro _ _ ⟨rfl,rfl⟩;refine⟨[(1,.nm 1),(2,.nm 2),(5,.nm 5),(6,.nm 6),(1000004,.nm 1000004)],.p .bool ((Jk c q) (l.getD k (0:Int))),[(1,.box 39 false [.p Dj q]),(2,.box 72 false [.bp 5 [] 0]),(5,.box 77 true [.p Aw d,.p Bi c,.mp 6,.p Ad fe,.sr 1000004 T3 0 f.length,.raw (.slice none 0 0)]),(6,.mapo .str CQ num),(1000004,.arr 3 T3 f)],rfl,rfl,?_,?_,rfl,rfl,Bq ?_⟩
  .first|exact eN|refine eM ?_
  .first|exact eN|refine eM ?_
  generalize y:(Jk c q) (l.getD k (0:Int))=n at *;have m:=r j n rfl;repeat'(first|exact trivial|apply eS rfl|apply AB|refine rX g ?_ ?_|refine rC ?_ ?_<;>intro a<;>try(cases a;done))
  .have a:n=true:=a;rw[At a,i]at m;refine Ev.ent (σ':=⟨[(4,.p (.int .i64) (k:Int))],[(1,.box 39 false [.p Dj q]),(2,.box 72 false [.bp 5 [] 0]),(5,.box 77 true [.p Aw d,.p Bi c,.mp 6,.p Ad fe,.sr 1000004 T3 0 f.length,.raw (.slice none 0 0)]),(6,.mapo .str CQ num),(1000004,.arr 3 T3 f)]⟩) ?_ (AC [(1,.nm 1),(2,.nm 2),(5,.nm 5),(6,.nm 6),(1000004,.nm 1000004)] rfl rfl ?_ ?_)
   .exact fM g [.tmp 4] (.p T3 (k:Int)) eT ⟨by rw[m],rfl⟩
   .first|exact eN|refine eM ?_
   first|exact eN|refine eM ?_
  .omega
  have a:n=false:=a;rw[As (by rw[a];simp)]at m;refine⟨⟨k+1,j,m.symm.trans i⟩,by simp only;omega,AC [(1,.nm 1),(2,.nm 2),(5,.nm 5),(6,.nm 6),(1000004,.nm 1000004)] rfl rfl ?_ ?_⟩
  .first|exact eN|refine eM ?_
  first|exact eN|refine eM ?_
 have j:l.drop k=[]:=OR (NO.1 a);rw[j]at i;have i:(-1:Int)=CR (Jk c q) 0 l:=i;refine Ev.ent (σ':=⟨[(4,.p (.int .i64) (-1))],[(1,.box 39 false [.p Dj q]),(2,.box 72 false [.bp 5 [] 0]),(5,.box 77 true [.p Aw d,.p Bi c,.mp 6,.p Ad fe,.sr 1000004 T3 0 f.length,.raw (.slice none 0 0)]),(6,.mapo .str CQ num),(1000004,.arr 3 T3 f)]⟩) ?_ (AC [(1,.nm 1),(2,.nm 2),(5,.nm 5),(6,.nm 6),(1000004,.nm 1000004)] rfl rfl ?_ ?_)
 .exact fM g [.tmp 4] (.p T3 (-1)) eT ⟨by rw[i],rfl⟩
 .first|exact eN|refine eM ?_
 first|exact eN|refine eM ?_
end
def Lj (d:List AD) (c:List AI) (num:CL) (s:ByteArray):Int:=zK c (Cb d num s)
def J1 (d:List AD) (c:List AI) (num:CL) (s:ByteArray):Int:=(Cb d num s).getD (Lj d c num s).toNat 0
def Jl (d:List AD) (c:List AI) (num:CL) (fe:List ByteArray):List Int:=fe.map (J1 d c num)
def EG (d:List AD) (c:List AI) (num:CL) (fe:List ByteArray):Bool:=fe.any λs=>decide (Lj d c num s<0)
theorem i6 {d:List AD} {c:List AI} {num:CL} (b:∀x∈d,0<=Em num x.1/\Em num x.1<(c.length:Int)) (s:ByteArray):∀x∈Cb d num s,0<=x/\x<(c.length:Int):=λx a=>by
 unfold Cb at a;obtain⟨y,e,rfl⟩:=To.1 a;exact b y (tO.1 e).1
theorem pJ (d:List AD) (c:List AI) (num:CL) (s:ByteArray):Lj d c num s=-1\/(0<=Lj d c num s/\Lj d c num s<((Cb d num s).length:Int)):=by
 have:=Zn (Jk c (Cb d num s)) 0 (Cb d num s);unfold Lj zK;omega
theorem wC (d:List AD) (c:List AI) (num:CL) (fe:List ByteArray) (t:d.length<=256) (B:∀x∈d,x.2.2.length<=140737488355328) (z:∀x∈d,0<=Em num x.1/\Em num x.1<(c.length:Int)) (F:fe.length<=64) :
  Aj Tryz.prog 68 [.bp 201 [] 0] [(201,.box 77 true [.p Aw d,.p Bi c,.mp 202,.p Ad fe,.raw (.slice none 0 0),.raw (.slice none 0 0)]),(202,.mapo .str CQ num)] [201,202] (λres E=>∃n,res=.p Es (if EG d c num fe=true then 10 else 0)/\E=[(201,.box 77 true [.p Aw d,.p Bi c,.mp 202,.p Ad fe,.p Dj n,.raw (.slice none 0 0)]),(202,.mapo .str CQ num)]/\(EG d c num fe=false->n=Jl d c num fe)):=by
 refine Er [0,1,2,4,5,6,10,11,12,13,23] [] [] Tryz.func68 Tryz.ntmps68 AH ?_;intro w0 K O0 ρ0 a I J;simp only[AX];repeat'(first|exact trivial|apply eS rfl|apply AB|refine rX a ?_ ?_|refine rC ?_ ?_<;>intro b<;>try(cases b;done))
 refine AJ (ι:={k:Nat//k<=fe.length/\(fe.take k).all (λs=>!decide (Lj d c num s<0))=true}) (λk=>⟨[(1,.bp 1 [] 0),(10,.p Ad fe),(11,.p (.int .i64) (fe.length:Int)),(12,.p (.int .i64) (k.1:Int))],[(1,.box 72 false [.bp 201 [] 0]),(201,.box 77 true [.p Aw d,.p Bi c,.mp 202,.p Ad fe,.sr 40 T3 0 ((fe.take k.1).map (J1 d c num)).length,.raw (.slice none 0 0)]),(202,.mapo .str CQ num),(40,.arr 3 T3 ((fe.take k.1).map (J1 d c num)))]⟩) (λk=>fe.length-k.1) ⟨0,BY _,rfl⟩ (AC [(1,.nm 1),(201,.nm 201),(202,.nm 202),(40,.nil)] rfl rfl ?_ ?_) (λk=>?_)
 .first|exact eN|refine eM ?_
  try rfl
 .first|exact eN|refine eM ?_
  try rfl
 obtain⟨k,w,i⟩:=k;have G:((fe.take k).map (J1 d c num)).length=k:=by rw[Of,OS];omega
 simp only;repeat'(first|exact trivial|apply eS rfl|apply AB|refine rX a ?_ ?_|refine rC ?_ ?_<;>intro b<;>try(cases b;done))
 .exact b
 .have f:k<fe.length:=An.1 (by assumption);have m:=Ai fe ByteArray.empty f;refine cP 2 a ?_ ?_
  .trivial
  refine rM a (vZ d c num fe ((fe.take k).map (J1 d c num)) (fe.getD k ByteArray.empty) t B) [(1,.nm 201),(2,.nm 202),(1000004,.nm 40)] [] ?_ ?_ ?_
  .first|exact eN|refine eM ?_
  .first|exact eN|refine eM ?_
  rintro _ _ ⟨rfl,rfl⟩;have l:=i6 z (fe.getD k ByteArray.empty);have H:=UQ d num (fe.getD k ByteArray.empty);have v:=pJ d c num (fe.getD k ByteArray.empty);refine⟨[(201,.nm 1),(202,.nm 2),(40,.nm 1000004)],.p Dj (Cb d num (fe.getD k ByteArray.empty)),[(201,.box 77 true [.p Aw d,.p Bi c,.mp 202,.p Ad fe,.sr 40 T3 0 ((fe.take k).map (J1 d c num)).length,.raw (.slice none 0 0)]),(202,.mapo .str CQ num),(40,.arr 3 T3 ((fe.take k).map (J1 d c num)))],rfl,rfl,?_,?_,rfl,rfl,?_⟩
  .first|exact eN|refine eM ?_
  .first|exact eN|refine eM ?_
  refine rL a trivial ?_;repeat'(first|exact trivial|apply eS rfl|apply AB|refine rX a ?_ ?_|refine rC ?_ ?_<;>intro b<;>try(cases b;done))
  have A:∀x∈Cb d num (fe.getD k ByteArray.empty),(Cb d num (fe.getD k ByteArray.empty)).length<=140737488355328/\(∀x∈Cb d num (fe.getD k ByteArray.empty),(0<=x/\x<(c.length:Int)))/\(0<=x/\x<(c.length:Int)):=λx C=>⟨by omega,l,l x C⟩;have key:=wB d c num fe ((fe.take k).map (J1 d c num)) (Cb d num (fe.getD k ByteArray.empty)) (Cb d num (fe.getD k ByteArray.empty)) oa A;have u:CR (Jk c (Cb d num (fe.getD k ByteArray.empty))) 0 (Cb d num (fe.getD k ByteArray.empty))=Lj d c num (fe.getD k ByteArray.empty):=rfl;have L:J1 d c num (fe.getD k ByteArray.empty)=(Cb d num (fe.getD k ByteArray.empty)).getD (Lj d c num (fe.getD k ByteArray.empty)).toNat 0:=rfl;rw[u]at key;have r:Lj d c num (fe.getD k ByteArray.empty)<0->EG d c num fe=true:=λh=>aS.2 ⟨_,AL f,AAt h⟩;have o:0<=Lj d c num (fe.getD k ByteArray.empty)->(fe.take (k+1)).all (λs=>!decide (Lj d c num s<0))=true:=λh=>by
   rw[m,ABA,i,AAZ,List.all_nil,ABx (AAs.2 h)];rfl
  have y:(fe.take (k+1)).map (J1 d c num)=(fe.take k).map (J1 d c num)++[(Cb d num (fe.getD k ByteArray.empty)).getD (Lj d c num (fe.getD k ByteArray.empty)).toNat 0]:=by
   rw[m,AA7];rfl
  generalize Lj d c num (fe.getD k ByteArray.empty)=D at *;generalize Cb d num (fe.getD k ByteArray.empty)=q at *;refine cP 2 a ?_ ?_
  .trivial
  refine rM a (key) [(1,.nm 5),(2,.nm 1),(5,.nm 201),(6,.nm 202),(1000004,.nm 40)] [] ?_ ?_ ?_
  .first|exact eN|refine eM ?_
  .first|exact eN|refine eM ?_
  rintro _ _ ⟨rfl,rfl⟩;refine⟨[(5,.nm 1),(1,.nm 2),(201,.nm 5),(202,.nm 6),(40,.nm 1000004)],.p T3 D,[(5,.box 39 false [.p Dj q]),(1,.box 72 false [.bp 201 [] 0]),(201,.box 77 true [.p Aw d,.p Bi c,.mp 202,.p Ad fe,.sr 40 T3 0 ((fe.take k).map (J1 d c num)).length,.raw (.slice none 0 0)]),(202,.mapo .str CQ num),(40,.arr 3 T3 ((fe.take k).map (J1 d c num)))],rfl,rfl,?_,?_,rfl,rfl,?_⟩
  .first|exact eN|refine eM ?_
  .first|exact eN|refine eM ?_
  refine rL a trivial ?_;repeat'(first|exact trivial|apply eS rfl|apply AB|refine rX a ?_ ?_|refine rC ?_ ?_<;>intro b<;>try(cases b;done))
  .have f:k<fe.length:=An.1 (by assumption);have g:=r b;refine DH [40] ?_;refine Ev.ent (σ':=⟨[(2,.p Es 10)],[(201,.box 77 true [.p Aw d,.p Bi c,.mp 202,.p Ad fe,.p Dj ((fe.take k).map (J1 d c num)),.raw (.slice none 0 0)]),(202,.mapo .str CQ num)]⟩) ?_ (AC [(201,.nm 201),(202,.nm 202)] rfl rfl ?_ ?_)
   .exact fM a [.tmp 2] (.p Es 10) eT ⟨_,by rw[g];rfl,rfl,λe=>absurd (g.symm.trans e) sa⟩
   .first|exact eN|refine eM ?_
   first|exact eN|refine eM ?_
  refine Dw drawsAny a 11 [([1,2,3,4,5,6,7,8,9],10)] [0] (by kernel_rfl) (WA ?_ ?_)
  .rcases v with j|j
   .omega
   exact j
  refine YU a [40] ?_ ?_
  .simp only[AN];omega
  refine WB a ?_ ?_ ?_
  .trivial
  .trivial
  have f:k<fe.length:=An.1 (by assumption);repeat'(first|exact trivial|apply eS rfl|apply AB|refine rX a ?_ ?_|refine rC ?_ ?_<;>intro b<;>try(cases b;done))
  .exact eV
  refine⟨⟨k+1,f,o b⟩,by simp only;omega,AC [(1,.nm 1),(201,.nm 201),(202,.nm 202),(40,.nm 40)] rfl rfl ?_ ?_⟩
  .simp only;rw[y];first|exact eN|refine eM ?_
   try rfl
  first|exact eN|refine eM ?_
 have f:k=fe.length:=jM w (NO.1 b);subst f;rw[TO]at i ⊢;have g:EG d c num fe=false:=by
  unfold EG;rw[ABi];intro s hs;have:=IS.1 i s hs;simpa using this
 refine DH [40] ?_;refine Ev.ent (σ':=⟨[(2,.p Es 0)],[(201,.box 77 true [.p Aw d,.p Bi c,.mp 202,.p Ad fe,.p Dj (fe.map (J1 d c num)),.raw (.slice none 0 0)]),(202,.mapo .str CQ num)]⟩) ?_ (AC [(201,.nm 201),(202,.nm 202)] rfl rfl ?_ ?_)
 .exact fM a [.tmp 2] (.p Es 0) eT ⟨_,by rw[g];rfl,rfl,λ_=>rfl⟩
 .first|exact eN|refine eM ?_
 first|exact eN|refine eM ?_
section
attribute [local go_sem] Rg GG
abbrev ER:=List (ByteArray×List Int)
abbrev BT:=BZ
def ET (c:List AI) (num:CL) (s:ByteArray):List Int:=(c.getD (Em num s).toNat c0).2
theorem YI (d:List AD) (c:List AI) (num:CL) (fe:List ByteArray) (e:List Int) (a:List (List (Int×Int))) (s:ByteArray) (g:0<=Em num s/\Em num s<(c.length:Int)) :
  Aj Tryz.prog 164 [.bp 1 [] 0,.p .str s] [(1,.box 77 true [.p Aw d,.p Bi c,.mp 2,.p Ad fe,.p Dj e,.sr 1000005 IP 0 a.length]),(2,.mapo .str CQ num),(1000005,.arr 40 IP a)] [1,2,1000005] (λres h=>res=.p BZ (ET c num s)/\h=[(1,.box 77 true [.p Aw d,.p Bi c,.mp 2,.p Ad fe,.p Dj e,.sr 1000005 IP 0 a.length]),(2,.mapo .str CQ num),(1000005,.arr 40 IP a)]):=by
 refine Er [0,1,4] [] [] Tryz.func164 Tryz.ntmps164 AH ?_;intro w0 K O0 ρ0 b i j;simp only[AX];repeat'(first|exact trivial|apply eS rfl|apply AB|refine rX b ?_ ?_|refine rC ?_ ?_<;>intro f<;>try(cases f;done))
 .exact g
 exact fM b [.tmp 4] (.p BZ (c.getD (Int.toNat ((AQ .str CQ s num).getD 0)) (ByteArray.empty,[])).2) eT ⟨rfl,rfl⟩
def Iz (c:List AI) (num:CL) (m:ER) (y:FV):ER:=Bm .str BT y.1 (if (AQ .str BT y.1 m).isSome=true then CI ((AQ .str BT y.1 m).getD []) (ET c num y.2) else ET c num y.2) m
theorem YJ {k:ByteArray} {v:List Int}:∀ {m:ER},AQ .str BT k m=some v->∃e∈m,e.2=v
 | [],h=>by cases h
 | x :: m,h=>by
  unfold AQ at h;split at h
  .injection h with h;exact⟨x,by simp,h⟩
  obtain⟨e,b,a⟩:=YJ h;exact⟨e,by simp[b],a⟩
def UR (c:List AI) (num:CL) (t:Int) (m:ER) (x:AD):ER:=if HO (c.getD t.toNat c0).2 (ET c num x.1)=true then x.2.2.foldl (Iz c num) m else m
def Od (d:List AD) (c:List AI) (num:CL) (t:Int):ER:=d.foldl (UR c num t) []
theorem wD (d:List AD) (c:List AI) (num:CL) (fe:List ByteArray) (h:List Int) (a:List (List (Int×Int))) (m:ER) (y:FV) (l:0<=Em num y.2/\Em num y.2<(c.length:Int)) (j:∀e∈m,e.2.length<=64) :
  Aj Tryz.prog 163 [.p fW y,.bp 1 [] 0,.bp 2 [] 0] [(1,.box 72 false [.bp 5 [] 0]),(2,.box 151 false [.mp 7]),(5,.box 77 true [.p Aw d,.p Bi c,.mp 6,.p Ad fe,.p Dj h,.sr 1000005 IP 0 a.length]),(6,.mapo .str CQ num),(1000005,.arr 40 IP a),(7,.mapo .str BT (m))] [1,2,5,6,7,1000005] (λres o=>res=.raw (.tuple #[])/\o=[(1,.box 72 false [.bp 5 [] 0]),(2,.box 151 false [.mp 7]),(5,.box 77 true [.p Aw d,.p Bi c,.mp 6,.p Ad fe,.p Dj h,.sr 1000005 IP 0 a.length]),(6,.mapo .str CQ num),(1000005,.arr 40 IP a),(7,.mapo .str BT (Iz c num m y))]):=by
 refine Er [0,1,2,3,4,5,6,18] [] [] Tryz.func163 Tryz.ntmps163 (AF P5 AH) ?_;intro w0 K O0 ρ0 g q r;simp only[AX];repeat'(first|exact trivial|apply eS rfl|apply AB|refine rX g ?_ ?_|refine rC ?_ ?_<;>intro i<;>try(cases i;done))
 have key:=YI d c num fe h a y.2 l;obtain⟨f,v⟩:=y;refine cP 3 g ?_ ?_
 .trivial
 refine rM g (key) [(1,.nm 5),(2,.nm 6),(1000005,.nm 1000005)] [] ?_ ?_ ?_
 .first|exact eN|refine eM ?_
 .first|exact eN|refine eM ?_
 rintro _ _ ⟨rfl,rfl⟩;refine⟨[(5,.nm 1),(6,.nm 2),(1000005,.nm 1000005)],.p BZ (ET c num v),[(5,.box 77 true [.p Aw d,.p Bi c,.mp 6,.p Ad fe,.p Dj h,.sr 1000005 IP 0 a.length]),(6,.mapo .str CQ num),(1000005,.arr 40 IP a)],rfl,rfl,?_,?_,rfl,rfl,?_⟩
 .first|exact eN|refine eM ?_
 .first|exact eN|refine eM ?_
 refine rL g trivial ?_;repeat'(first|exact trivial|apply eS rfl|apply AB|refine rX g ?_ ?_|refine rC ?_ ?_<;>intro i<;>try(cases i;done))
 .refine f3 ?_ (show 64<=100000 by decide);cases k:AQ .str BT f m with
  | none=>simp
  | some b=>obtain⟨x,n,rfl⟩:=YJ k;exact j x n
 .have e:Iz c num m (f,v)=Bm .str BT f (CI ((AQ .str BT f m).getD []) (ET c num v)) m:=by
   show Bm .str BT f (if (AQ .str BT f m).isSome=true then _ else _) m=_;rw[At i]
  rw[e];refine Ev.ent (σ':=⟨[],[(1,.box 72 false [.bp 5 [] 0]),(2,.box 151 false [.mp 7]),(5,.box 77 true [.p Aw d,.p Bi c,.mp 6,.p Ad fe,.p Dj h,.sr 1000005 IP 0 a.length]),(6,.mapo .str CQ num),(1000005,.arr 40 IP a),(7,.mapo .str BT (Bm .str BT f (CI ((AQ .str BT f m).getD []) (ET c num v)) m))]⟩) ?_ (AC [(1,.nm 1),(2,.nm 2),(5,.nm 5),(6,.nm 6),(7,.nm 7),(1000005,.nm 1000005)] rfl rfl ?_ ?_)
  .exact fM g [] (.raw (.tuple #[])) rfl ⟨rfl,rfl⟩
  .first|exact eN|refine eM ?_
  first|exact eN|refine eM ?_
 have e:Iz c num m (f,v)=Bm .str BT f (ET c num v) m:=by
  show Bm .str BT f (if (AQ .str BT f m).isSome=true then _ else _) m=_;rw[As (by rw[i];simp)]
 rw[e];refine Ev.ent (σ':=⟨[],[(1,.box 72 false [.bp 5 [] 0]),(2,.box 151 false [.mp 7]),(5,.box 77 true [.p Aw d,.p Bi c,.mp 6,.p Ad fe,.p Dj h,.sr 1000005 IP 0 a.length]),(6,.mapo .str CQ num),(1000005,.arr 40 IP a),(7,.mapo .str BT (Bm .str BT f (ET c num v) m))]⟩) ?_ (AC [(1,.nm 1),(2,.nm 2),(5,.nm 5),(6,.nm 6),(7,.nm 7),(1000005,.nm 1000005)] rfl rfl ?_ ?_)
 .exact fM g [] (.raw (.tuple #[])) rfl ⟨rfl,rfl⟩
 .first|exact eN|refine eM ?_
 first|exact eN|refine eM ?_
theorem YK {k:ByteArray} {v:List Int}:∀ {m:ER} {e:ByteArray×List Int},e∈Bm .str BT k v m->e=(k,v)\/e∈m
 | [],e,h=>by left;simpa[Bm] using h
 | x :: m,e,h=>by
  unfold Bm at h;split at h
  .rcases Is.1 h with h|h
   .exact .inl h
   exact .inr (by simp[h])
  rcases Is.1 h with h|h
  .exact .inr (by simp[h])
  rcases YK h with h|h
  .exact .inl h
  exact .inr (by simp[h])
theorem i7 (a b:List Int):(CI a b).length<=b.length:=by
 unfold CI A9;rw[OS,LW];omega
def z6 (m:ER):Prop:=∀e∈m,e.2.length<=64
theorem i8 {c:List AI} (a:∀x∈c,x.2.length<=64) {num:CL} {s:ByteArray} (b:0<=Em num s/\Em num s<(c.length:Int)):(ET c num s).length<=64:=by
 unfold ET;exact a _ (AL oa)
theorem YL {c:List AI} (b:∀x∈c,x.2.length<=64) {num:CL} {m:ER} (d:z6 m) {y:FV} (f:0<=Em num y.2/\Em num y.2<(c.length:Int)):z6 (Iz c num m y):=λe a=>by
 rcases YK a with rfl|a
 .have:=i8 b f;simp only;split
  .exact f3 (i7 _ _) this
  exact this
 exact d e a
theorem YM {c:List AI} (b:∀x∈c,x.2.length<=64) {num:CL}:∀ {l:List FV} {m:ER},z6 m->(∀y∈l,0<=Em num y.2/\Em num y.2<(c.length:Int))->z6 (l.foldl (Iz c num) m)
 | [],_,a,_=>a
 | y :: l,m,a,h=>YM (l:=l) (m:=Iz c num m y) b (YL b a (h y sa)) λz d=>h z (by simp[d])
def Nh (d:List AD) (c:List AI) (num:CL) (i:Int) (k:Nat):ER:=(d.take k).foldl (UR c num i) []
theorem wE (d:List AD) (c:List AI) (num:CL) (fe:List ByteArray) (n:List Int) (b:List (List (Int×Int))) (i:Int) (M:d.length<=256) (I:∀x∈d,x.2.2.length<=256) (F:∀x∈d,0<=Em num x.1/\Em num x.1<(c.length:Int)) (H:∀x∈d,∀y∈x.2.2,0<=Em num y.2/\Em num y.2<(c.length:Int)) (z:∀x∈c,x.2.length<=64) (hi:0<=i/\i<(c.length:Int)) :
  Aj Tryz.prog 117 [.bp 201 [] 0,.p T3 i] [(201,.box 77 true [.p Aw d,.p Bi c,.mp 202,.p Ad fe,.p Dj n,.sr 1000005 IP 0 b.length]),(202,.mapo .str CQ num),(1000005,.arr 40 IP b)] [201,202,1000005] (λres L=>res=.mp 203/\L=[(201,.box 77 true [.p Aw d,.p Bi c,.mp 202,.p Ad fe,.p Dj n,.sr 1000005 IP 0 b.length]),(202,.mapo .str CQ num),(1000005,.arr 40 IP b),(203,.mapo .str BT (Od d c num i))]):=by
 refine Er [0,1,2,4,5,6,8,10,16,17,18,19,34,36,37,38,39] [] [] Tryz.func117 Tryz.ntmps117 (AF Fo AH) ?_;intro w0 K O0 ρ0 g P Q;simp only[AX];repeat'(first|exact trivial|apply eS rfl|apply AB|refine rX g ?_ ?_|refine rC ?_ ?_<;>intro f<;>try(cases f;done))
 refine AJ (ι:={k:Nat//k<=d.length/\z6 (Nh d c num i k)}) (λk=>⟨[(1,.p T3 i),(2,.bp 2 [] 0),(5,.bp 5 [] 0),(6,.clo 163 [2,5]),(16,.p Aw d),(17,.p (.int .i64) (d.length:Int)),(18,.p (.int .i64) (k.1:Int))],[(5,.box 151 false [.mp 11]),(11,.mapo .str BT (Nh d c num i k.1)),(2,.box 72 false [.bp 201 [] 0]),(201,.box 77 true [.p Aw d,.p Bi c,.mp 202,.p Ad fe,.p Dj n,.sr 1000005 IP 0 b.length]),(202,.mapo .str CQ num),(1000005,.arr 40 IP b)]⟩) (λk=>d.length-k.1) ⟨0,BY _,λe D=>by cases D⟩ (AC [(5,.nm 5),(11,.nm 11),(2,.nm 2),(201,.nm 201),(202,.nm 202),(1000005,.nm 1000005)] rfl rfl ?_ ?_) (λk=>?_)
 .first|exact eN|refine eM ?_
  try rfl
 .first|exact eN|refine eM ?_
 obtain⟨k,O,u⟩:=k;have m:k<d.length->Nh d c num i (k+1)=UR c num i (Nh d c num i k) (d.getD k d0):=λh=>Ce (UR c num i) d d0 [] h;simp only;repeat'(first|exact trivial|apply eS rfl|apply AB|refine rX g ?_ ?_|refine rC ?_ ?_<;>intro f<;>try(cases f;done))
 .exact f
 .have o:k<d.length:=An.1 (by assumption);replace m:=m o;have v:d.getD k d0∈d:=AL o;have J:=I _ v;have B:=F _ v;have w:=H _ v;rw[show d.getD k (ByteArray.empty,[],[])=d.getD k d0 from rfl]at *;generalize d.getD k d0=x at *;obtain⟨s,xs,a⟩:=x;simp only at m J B w ⊢;have key:=YI d c num fe n b s B;refine Dw drawsAny g 12 [([8,9,10],11)] [0,1,2,3,4,5,6,7] (by kernel_rfl) (WA ?_ ?_)
  .exact hi
  refine mxC g (key) [(1,.nm 201),(2,.nm 202),(1000005,.nm 1000005)] [] ?_ ?_ ?_
  .first|exact eN|refine eM ?_
  .first|exact eN|refine eM ?_
  rintro _ _ ⟨rfl,rfl⟩;refine⟨[(201,.nm 1),(202,.nm 2),(1000005,.nm 1000005)],.p BZ (ET c num s),[(201,.box 77 true [.p Aw d,.p Bi c,.mp 202,.p Ad fe,.p Dj n,.sr 1000005 IP 0 b.length]),(202,.mapo .str CQ num),(1000005,.arr 40 IP b)],rfl,rfl,?_,?_,rfl,rfl,rfl,?_⟩
  .first|exact eN|refine eM ?_
  .first|exact eN|refine eM ?_
  refine WB g ?_ ?_ ?_
  .exact hi
  .trivial
  have G:UR c num i (Nh d c num i k) (s,xs,a)=if HO (c.getD i.toNat c0).2 (ET c num s)=true then a.foldl (Iz c num) (Nh d c num i k) else Nh d c num i k:=rfl
  rw[G]at m;repeat'(first|exact trivial|apply eS rfl|apply AB|refine rX g ?_ ?_|refine rC ?_ ?_<;>intro f<;>try(cases f;done))
  .rw[At f]at m;have R:=YM z (l:=a) u w;refine AJ (ι:={j:Nat//j<=a.length/\z6 ((a.take j).foldl (Iz c num) (Nh d c num i k))}) (λj=>⟨[(1,.p T3 i),(2,.bp 2 [] 0),(5,.bp 5 [] 0),(6,.clo 163 [2,5]),(16,.p Aw d),(17,.p (.int .i64) (d.length:Int)),(18,.p (.int .i64) (k:Int)),(36,.p Lx a),(37,.p (.int .i64) (a.length:Int)),(38,.p (.int .i64) (j.1:Int))],[(5,.box 151 false [.mp 11]),(11,.mapo .str BT ((a.take j.1).foldl (Iz c num) (Nh d c num i k))),(2,.box 72 false [.bp 201 [] 0]),(201,.box 77 true [.p Aw d,.p Bi c,.mp 202,.p Ad fe,.p Dj n,.sr 1000005 IP 0 b.length]),(202,.mapo .str CQ num),(1000005,.arr 40 IP b)]⟩) (λj=>a.length-j.1) ⟨0,BY _,u⟩ (AC [(5,.nm 5),(11,.nm 11),(2,.nm 2),(201,.nm 201),(202,.nm 202),(1000005,.nm 1000005)] rfl rfl ?_ ?_) (λj=>?_)
   .first|exact eN|refine eM ?_
    try rfl
   .first|exact eN|refine eM ?_
   obtain⟨j,N,r⟩:=j;have t:=λh:j<a.length=>Ce (Iz c num) a Kq (Nh d c num i k) h;simp only;repeat'(first|exact trivial|apply eS rfl|apply AB|refine rX g ?_ ?_|refine rC ?_ ?_<;>intro f<;>try(cases f;done))
   .exact f
   .have q:j<a.length:=An.1 (by assumption);replace t:=t q;have C:=w _ (AL q:a.getD j Kq∈a);have A:=YL z r C;have key:=wD d c num fe n b ((a.take j).foldl (Iz c num) (Nh d c num i k)) (a.getD j Kq) C r;refine cP 2 g ?_ ?_
    .trivial
    refine rM g (key) [(1,.nm 2),(2,.nm 5),(5,.nm 201),(6,.nm 202),(7,.nm 11),(1000005,.nm 1000005)] [] ?_ ?_ ?_
    .first|exact eN|refine eM ?_
    .first|exact eN|refine eM ?_
    rintro _ _ ⟨rfl,rfl⟩;rw[<-t]at A ⊢;refine⟨[(2,.nm 1),(5,.nm 2),(201,.nm 5),(202,.nm 6),(11,.nm 7),(1000005,.nm 1000005)],.raw (.tuple #[]),[(2,.box 72 false [.bp 201 [] 0]),(5,.box 151 false [.mp 11]),(201,.box 77 true [.p Aw d,.p Bi c,.mp 202,.p Ad fe,.p Dj n,.sr 1000005 IP 0 b.length]),(202,.mapo .str CQ num),(1000005,.arr 40 IP b),(11,.mapo .str BT ((a.take (j+1)).foldl (Iz c num) (Nh d c num i k)))],rfl,rfl,?_,?_,rfl,rfl,?_⟩
    .first|exact eN|refine eM ?_
    .first|exact eN|refine eM ?_
    refine rL g trivial ?_;repeat'(first|exact trivial|apply eS rfl|apply AB|refine rX g ?_ ?_|refine rC ?_ ?_<;>intro f<;>try(cases f;done))
    .exact eV
    refine⟨⟨j+1,q,A⟩,by simp only;omega,AC [(5,.nm 5),(11,.nm 11),(2,.nm 2),(201,.nm 201),(202,.nm 202),(1000005,.nm 1000005)] rfl rfl ?_ ?_⟩
    .first|exact eN|refine eM ?_
    first|exact eN|refine eM ?_
   .exact eV
   have o:k<d.length:=An.1 (by assumption);have q:a.take j=a:=By (NO.1 (by assumption));rw[q]at r ⊢;rw[<-m]at r ⊢;refine⟨⟨k+1,o,r⟩,by simp only;omega,AC [(5,.nm 5),(11,.nm 11),(2,.nm 2),(201,.nm 201),(202,.nm 202),(1000005,.nm 1000005)] rfl rfl ?_ ?_⟩
   .first|exact eN|refine eM ?_
   first|exact eN|refine eM ?_
  .exact eV
  have o:k<d.length:=An.1 (by assumption);rw[As (by rw[f];simp)]at m;refine⟨⟨k+1,o,by rw[m];exact u⟩,by simp only;omega,AC [(5,.nm 5),(11,.nm 11),(2,.nm 2),(201,.nm 201),(202,.nm 202),(1000005,.nm 1000005)] rfl rfl ?_ ?_⟩
  .simp only;rw[m];first|exact eN|refine eM ?_
  first|exact eN|refine eM ?_
 have o:d.take k=d:=By (NO.1 (by assumption));have E:Nh d c num i k=Od d c num i:=by unfold Nh Od;rw[o]
 rw[E];refine Ev.ent (σ':=⟨[(4,.mp 203)],[(201,.box 77 true [.p Aw d,.p Bi c,.mp 202,.p Ad fe,.p Dj n,.sr 1000005 IP 0 b.length]),(202,.mapo .str CQ num),(1000005,.arr 40 IP b),(203,.mapo .str BT (Od d c num i))]⟩) ?_ (AC [(201,.nm 201),(202,.nm 202),(1000005,.nm 1000005),(203,.nm 11)] rfl rfl ?_ ?_)
 .exact fM g [.tmp 4] (.mp 203) eT ⟨rfl,rfl⟩
 .first|exact eN|refine eM ?_
 first|exact eN|refine eM ?_
end
section
attribute [local go_sem] V5
def MU (m:ER) (s:ByteArray):List Int:=(AQ .str BT s m).getD []
def V6 (c:List AI) (m:ER) (fe:List ByteArray) (n:Nat):List (Int×Int):=(List.range n).flatMap λk:Nat=>if (AQ .str BT (fe.getD k ByteArray.empty) m).isSome=true then [((k:Int),SN c (MU m (fe.getD k ByteArray.empty)))] else []
def Jm (c:List AI) (m:ER) (s:ByteArray):Bool:=(AQ .str BT s m).isSome&&decide (SN c (MU m s)<0)
def J2 (d:List AD) (c:List AI) (num:CL) (fe:List ByteArray) (n:Nat):List (List (Int×Int)):=(List.range n).map λi:Nat=>V6 c (Od d c num (i:Int)) fe fe.length
def D1 (d:List AD) (c:List AI) (num:CL) (fe:List ByteArray) (n:Nat):Bool:=(List.range n).any λi:Nat=>fe.any (Jm c (Od d c num (i:Int)))
theorem US (c:List AI) (m:ER) (fe:List ByteArray) (n:Nat):V6 c m fe (n+1)=V6 c m fe n++if (AQ .str BT (fe.getD n ByteArray.empty) m).isSome=true then [((n:Int),SN c (MU m (fe.getD n ByteArray.empty)))] else []:=by
 unfold V6;rw[AA0,List.flatMap_append];simp
theorem YN (c:List AI) (m:ER) (fe:List ByteArray):∀n:Nat,(V6 c m fe n).length<=n
 | 0=>by simp[V6]
 | n+1=>by
  have:=YN c m fe n;rw[US,YT];split<;>simp<;>omega
theorem i9 (d:List AD) (c:List AI) (num:CL) (fe:List ByteArray) (n:Nat):J2 d c num fe (n+1)=J2 d c num fe n++[V6 c (Od d c num (n:Int)) fe fe.length]:=by
 unfold J2;rw[AA0,AA7];rfl
theorem pK (d:List AD) (c:List AI) (num:CL) (fe:List ByteArray) (n:Nat):(J2 d c num fe n).length=n:=by simp[J2]
theorem YO {d:List AD} {c:List AI} {num:CL} {fe:List ByteArray} {n i:Nat} (hi:i<n) (h:fe.any (Jm c (Od d c num (i:Int)))=true):D1 d c num fe n=true:=aS.2 ⟨i,gO.2 hi,h⟩
theorem V7 (d:List AD) (c:List AI) (num:CL) (fe:List ByteArray) (n:Nat):D1 d c num fe (n+1)=(D1 d c num fe n||fe.any (Jm c (Od d c num (n:Int)))):=by
 unfold D1;rw[AA0,ABT];simp
theorem wF (d:List AD) (c:List AI) (num:CL) (fe:List ByteArray) (g:List Int) (A:d.length<=256) (H:∀x∈d,x.2.2.length<=256) (D:∀x∈d,0<=Em num x.1/\Em num x.1<(c.length:Int)) (G:∀x∈d,∀y∈x.2.2,0<=Em num y.2/\Em num y.2<(c.length:Int)) (L:fe.length<=64) (J:c.length<=256) (z:∀x∈c,x.2.length<=64) :
  Aj Tryz.prog 69 [.bp 1 [] 0] [(1,.box 77 true [.p Aw d,.p Bi c,.mp 2,.p Ad fe,.p Dj g,.raw (.slice none 0 0)]),(2,.mapo .str CQ num)] [1,2] (λres I=>∃u,res=.p Es (if D1 d c num fe c.length=true then 11 else 0)/\I=[(1,.box 77 true [.p Aw d,.p Bi c,.mp 2,.p Ad fe,.p Dj g,.p VB u]),(2,.mapo .str CQ num)]/\(D1 d c num fe c.length=false->u=J2 d c num fe c.length)):=by
 refine Er [0,2,3,4,5,6,7,8,9,10,15,16,17,25,26,27,28,39,47] [] [] Tryz.func69 Tryz.ntmps69 (AF pD AH) ?_;intro w0 K O0 ρ0 b N O;simp only[AX];repeat'(first|exact trivial|apply eS rfl|apply AB|refine rX b ?_ ?_|refine rC ?_ ?_<;>intro a<;>try(cases a;done))
 refine AJ (ι:={i:Nat//i<=c.length/\D1 d c num fe i=false}) (λi=>⟨[(0,.bp 1 [] 0),(15,.p (.int .i64) (c.length:Int)),(16,.p (.int .i64) (i.1:Int))],[(1,.box 77 true [.p Aw d,.p Bi c,.mp 2,.p Ad fe,.p Dj g,.sr 62 IP 0 (J2 d c num fe i.1).length]),(2,.mapo .str CQ num),(62,.arr 40 IP (J2 d c num fe i.1))]⟩) (λi=>c.length-i.1) ⟨0,BY _,rfl⟩ (AC [(1,.nm 1),(2,.nm 2),(62,.nil)] rfl rfl ?_ ?_) (λi=>?_)
 .first|exact eN|refine eM ?_
  exact⟨rfl,rfl⟩
 .first|exact eN|refine eM ?_
 obtain⟨i,hi,s⟩:=i;have P:=pK d c num fe i;simp only;repeat'(first|exact trivial|apply eS rfl|apply AB|refine rX b ?_ ?_|refine rC ?_ ?_<;>intro a<;>try(cases a;done))
 .have l:i<c.length:=An.1 (by assumption);have key:=wE d c num fe g (J2 d c num fe i) (i:Int) A H D G z ⟨AAg i,An.2 l⟩;refine cP 2 b ?_ ?_
  .trivial
  refine rM b (key) [(201,.nm 1),(202,.nm 2),(1000005,.nm 62)] [] ?_ ?_ ?_
  .first|exact eN|refine eM ?_
  .first|exact eN|refine eM ?_
  rintro _ _ ⟨rfl,rfl⟩;refine⟨[(1,.nm 201),(2,.nm 202),(62,.nm 1000005),(203,.nm 203)],.mp 203,[(1,.box 77 true [.p Aw d,.p Bi c,.mp 2,.p Ad fe,.p Dj g,.sr 62 IP 0 (J2 d c num fe i).length]),(2,.mapo .str CQ num),(62,.arr 40 IP (J2 d c num fe i)),(203,.mapo .str BT (Od d c num (i:Int)))],rfl,rfl,?_,?_,rfl,rfl,?_⟩
  .first|exact eN|refine eM ?_
  .first|exact eN|refine eM ?_
  have F:=i9 d c num fe i;have w:=V7 d c num fe i;have v:=YO (d:=d) (c:=c) (num:=num) (fe:=fe) l;generalize Od d c num (i:Int)=m at *;refine rL b trivial ?_;repeat'(first|exact trivial|apply eS rfl|apply AB|refine rX b ?_ ?_|refine rC ?_ ?_<;>intro a<;>try(cases a;done))
  refine AJ (ι:={j:Nat//j<=fe.length/\(fe.take j).any (Jm c m)=false}) (λj=>⟨[(0,.bp 1 [] 0),(3,.p T3 (i:Int)),(4,.sr 53 ZH 0 (V6 c m fe j.1).length),(5,.mp 203),(15,.p (.int .i64) (c.length:Int)),(16,.p (.int .i64) (i:Int)),(25,.p Ad fe),(26,.p (.int .i64) (fe.length:Int)),(27,.p (.int .i64) (j.1:Int))],[(1,.box 77 true [.p Aw d,.p Bi c,.mp 2,.p Ad fe,.p Dj g,.sr 62 IP 0 (J2 d c num fe i).length]),(2,.mapo .str CQ num),(62,.arr 40 IP (J2 d c num fe i)),(203,.mapo .str BT m),(53,.arr 107 ZH (V6 c m fe j.1))]⟩) (λj=>fe.length-j.1) ⟨0,BY _,rfl⟩ (AC [(1,.nm 1),(2,.nm 2),(62,.nm 62),(203,.nm 203),(53,.nil)] rfl rfl ?_ ?_) (λj=>?_)
  .first|exact eN|refine eM ?_
   rfl
  .first|exact eN|refine eM ?_
   rfl
  obtain⟨j,B,n⟩:=j;have k:=US c m fe j;have M:=YN c m fe j;simp only;have t:j<fe.length->(fe.take (j+1)).any (Jm c m)=((fe.take j).any (Jm c m)||Jm c m (fe.getD j ByteArray.empty)):=λh=>by rw[Ai fe ByteArray.empty h,ABT];simp
  have o:Jm c m (fe.getD j ByteArray.empty)=((AQ .str BT (fe.getD j ByteArray.empty) m).isSome&&decide (SN c (MU m (fe.getD j ByteArray.empty))<0)):=rfl;have E:MU m (fe.getD j ByteArray.empty)=(AQ .str BT (fe.getD j ByteArray.empty) m).getD []:=rfl;rw[E]at k o;have C:j<fe.length->fe.getD j ByteArray.empty∈fe:=λh=>AL h;repeat'(first|exact trivial|apply eS rfl|apply AB|refine rX b ?_ ?_|refine rC ?_ ?_<;>intro a<;>try(cases a;done))
  .exact a
  .exact eV
  .have f:j<fe.length:=An.1 (by assumption);rw[As (by rw[a];simp),AAb]at k;refine⟨⟨j+1,f,by rw[t f,n,o,a];rfl⟩,by simp only;omega,AC [(1,.nm 1),(2,.nm 2),(62,.nm 62),(203,.nm 203),(53,.nm 53)] rfl rfl ?_ ?_⟩
   .simp only;rw[k];first|exact eN|refine eM ?_
   simp only;rw[k];first|exact eN|refine eM ?_
  .have f:j<fe.length:=An.1 (by assumption);have q:(AQ .str BT (fe.getD j ByteArray.empty) m).isSome=true:=by assumption
   have r:D1 d c num fe c.length=true:=v (aS.2 ⟨_,C f,by rw[o,q,AAt a];rfl⟩);refine DH [62] ?_;refine Ev.ent (σ':=⟨[(2,.p Es 11)],[(1,.box 77 true [.p Aw d,.p Bi c,.mp 2,.p Ad fe,.p Dj g,.p VB (J2 d c num fe i)]),(2,.mapo .str CQ num)]⟩) ?_ (AC [(1,.nm 1),(2,.nm 2)] rfl rfl ?_ ?_)
   .exact fM b [.tmp 2] (.p Es 11) eT ⟨_,by rw[r];rfl,rfl,λe=>absurd (r.symm.trans e) sa⟩
   .first|exact eN|refine eM ?_
   first|exact eN|refine eM ?_
  .simp only[AN];omega
  .exact eV
  .have f:j<fe.length:=An.1 (by assumption);have q:(AQ .str BT (fe.getD j ByteArray.empty) m).isSome=true:=by assumption
   rw[At q]at k;refine⟨⟨j+1,f,by rw[t f,n,o,q,ABx (AAs.2 a)];rfl⟩,by simp only;omega,AC [(1,.nm 1),(2,.nm 2),(62,.nm 62),(203,.nm 203),(53,.nm 53)] rfl rfl ?_ ?_⟩
   .simp only;rw[k];first|exact eN|refine eM ?_
   simp only;rw[k];first|exact eN|refine eM ?_
  .simp only[AN];omega
  .exact eV
  have l:i<c.length:=An.1 (by assumption);have f:j=fe.length:=jM B (NO.1 (by assumption));subst f;rw[TO]at n;refine⟨⟨i+1,l,by rw[w,s,n];rfl⟩,by simp only;omega,AC [(1,.nm 1),(2,.nm 2),(62,.nm 62)] rfl rfl ?_ ?_⟩
  .simp only;rw[F];first|exact eN|refine eM ?_
   try rfl
  first|exact eN|refine eM ?_
 have l:i=c.length:=jM hi (NO.1 (by assumption));subst l;refine DH [62] ?_;refine Ev.ent (σ':=⟨[(2,.p Es 0)],[(1,.box 77 true [.p Aw d,.p Bi c,.mp 2,.p Ad fe,.p Dj g,.p VB (J2 d c num fe c.length)]),(2,.mapo .str CQ num)]⟩) ?_ (AC [(1,.nm 1),(2,.nm 2)] rfl rfl ?_ ?_)
 .exact fM b [.tmp 2] (.p Es 0) eT ⟨_,by rw[s];rfl,rfl,λ_=>rfl⟩
 .first|exact eN|refine eM ?_
 first|exact eN|refine eM ?_
end
theorem d7 {vt:Ty} (k:ByteArray) (v:vt.den):∀m:List (ByteArray×vt.den),(k∈m.map (·.1)/\(Bm .str vt k v m).map (·.1)=m.map (·.1))\/(k∉m.map (·.1)/\(Bm .str vt k v m).map (·.1)=m.map (·.1)++[k])
 | []=>.inr ⟨by simp,rfl⟩
 | x :: m=>by
  unfold Bm;by_cases c:k=x.1
  .subst c;rw[At (show L2 .str x.1 x.1=true from (Zq x.1 x.1).trans (AAt rfl))];exact .inl ⟨by simp,rfl⟩
  rw[As (show ¬L2 .str k x.1=true from λe=>c (by rw[show L2 .str k x.1=decide (k=x.1) from Zq _ _]at e;exact ABB e))];rcases d7 k v m with ⟨a,b⟩|⟨a,b⟩
  .exact .inl ⟨by rw[oR];exact AAp _ a,by rw[oR,b];rfl⟩
  refine .inr ⟨by rw[oR];intro h;rcases Is.1 h with h|h;exact c h;exact a h,?_⟩;rw[oR,b];rfl
theorem V8 {l:List ByteArray} {s t:ByteArray}:t∈C3 l s↔t∈l\/t=s :=
 ⟨FU,by rintro (h|rfl);exact LR h;exact BF.1 NF⟩
def Ni (m:DT) (y:FV):DT:=Bm .str .bool y.1 true m
def FD (d:List AD) (k:Nat):DT:=(d.take k).foldl (λm x=>x.2.2.foldl Ni m) []
theorem Z8 (d:List AD) {k:Nat} (h:k<d.length):FD d (k+1)=(d.getD k d0).2.2.foldl Ni (FD d k):=by
 unfold FD;rw[Ai d d0 h,AAk];rfl
def qH (m:DT) (o:List ByteArray):Prop:=(m.map (·.1)).Nodup/\∀s,s∈m.map (·.1)↔s∈o
theorem qH.step {m:DT} {o:List ByteArray} (h:qH m o) (y:FV):qH (Ni m y) (Hw o y):=by
 have g:Ni m y=Bm .str .bool y.1 true m:=rfl;rw[g];unfold qH;rcases d7 (vt:=.bool) y.1 true m with ⟨c,d⟩|⟨c,d⟩
 .rw[d];refine⟨h.1,λs=>?_⟩;rw[h.2 s];unfold Hw;rw[V8];constructor
  .exact .inl
  rintro (i|rfl)
  .exact i
  exact(h.2 _).1 c
 rw[d];refine⟨?_,λs=>?_⟩
 .rw[wS];exact⟨h.1,by simp,λa j b f e=>c (by rw[nO]at f;rw[<-f,<-e];exact j)⟩
 rw[aT,nO,h.2 s];unfold Hw;rw[V8]
theorem UT (d:List AD):qH (FD d d.length) (Af d):=by
 have b:∀(l:List FV) (m:DT) (o:List ByteArray),qH m o->qH (l.foldl Ni m) (l.foldl Hw o):=by
  intro l;induction l with
  | nil=>exact λ_ _ h=>h
  | cons x l a=>exact λ_ _ h=>a _ _ (h.step x)
 have c:∀(l:List AD) (m:DT) (o:List ByteArray),qH m o->qH (l.foldl (λm x=>x.2.2.foldl Ni m) m) (l.foldl Kk o):=by
  intro l;induction l with
  | nil=>exact λ_ _ h=>h
  | cons x l a=>exact λ_ _ h=>a _ _ (b x.2.2 _ _ h)
 unfold FD;rw[TO];exact c d [] [] ⟨by simp,λs=>by simp⟩
def Sn (m:DT) (ys:List ByteArray) (left:List Nat):Prop:=(ys++left.map λi=>(m.getD i (ByteArray.empty,false)).1).Perm (m.map (·.1))
theorem jA (m:DT):Sn m [] (List.range m.length):=by
 unfold Sn;have:(List.range m.length).map (λi=>(m.getD i (ByteArray.empty,false)).1)=m.map (·.1):=by
  apply AAx
  .simp
  intro i a b;have hi:i<m.length:=by simpa using a
  simp[AS,DO hi]
 rw[this];exact List.Perm.refl _
theorem jB {m:DT} {ys:List ByteArray} {left:List Nat} (h:Sn m ys left) {i:Nat} (hi:i∈left) {e:ByteArray×Bool} (d:m[i]?=some e):Sn m (ys++[e.1]) (left.erase i):=by
 unfold Sn at h ⊢;have a:=(List.perm_cons_erase hi).map λi=>(m.getD i (ByteArray.empty,false)).1;have b:(m.getD i (ByteArray.empty,false)).1=e.1:=by rw[AS,d];rfl
 rw[oR,b]at a;have c:=(a.append_left ys).symm.trans h;rw[oN];exact c
theorem pL {m:DT} {ys:List ByteArray} (h:Sn m ys []):ys.Perm (m.map (·.1)):=by
 unfold Sn at h;simpa using h
theorem Z9 {d:List AD} {m:DT} (a:qH m (Af d)) {ys:List ByteArray} (h:Sn m ys []):DF ys=Af d:=by
 have hp:=pL h;refine Vx (UF (hp.nodup_iff.2 a.1)) (Tp d) λs=>?_;rw[X8,hp.mem_iff];exact a.2 s
theorem Oe {l:List ByteArray} (h:Kv l):l.Nodup:=List.Pairwise.imp (λ{a b} (c:Bh a b=true) (e:a=b)=>by subst e;exact Cw c) h
theorem jC (d:List AD):(FD d d.length).length=(Af d).length:=by
 have h:=UT d;have b:(FD d d.length).length=((FD d d.length).map (·.1)).length:=by rw[Of]
 rw[b];exact jM (Fs h.1 λx a=>(h.2 x).1 a) (Fs (Oe (Tp d)) λx a=>(h.2 x).2 a)
def FE (d:List AD):Int:=if 64<(Af d).length then 7 else Dx d
section
attribute [local go_sem] Vk
theorem wG (d:List AD) (c:List AI) (num:CL) (X:d.length<=256) (O:∀x∈d,x.2.2.length<=256) (M:∀s,(AQ .str CQ s num).isSome=AR (AG d) s) :
  Aj Tryz.prog 67 [.bp 1 [] 0] [(1,.box 77 true [.p Aw d,.p Bi c,.mp 2,.raw (.slice none 0 0),.raw (.slice none 0 0),.raw (.slice none 0 0)]),(2,.mapo .str CQ num)] [1,2] (λres P=>res=.p Es (FE d)/\((FE d≠0/\P=[(1,.box 77 true [.p Aw d,.p Bi c,.mp 2,.raw (.slice none 0 0),.raw (.slice none 0 0),.raw (.slice none 0 0)]),(2,.mapo .str CQ num)])\/(FE d=0/\P=[(1,.box 77 true [.p Aw d,.p Bi c,.mp 2,.p Ad (Af d),.raw (.slice none 0 0),.raw (.slice none 0 0)]),(2,.mapo .str CQ num)]))):=by
 refine Er [0,2,3,5,7,9,10,11,13,14,19,20,21,22,26,27,28,29,39,43,44,45,46,50,51,52,53,60,66,78,82,84] [] [] Tryz.func67 Tryz.ntmps67 (AF nU AH) ?_;intro w0 K O0 ρ0 b ae af;simp only[AX];repeat'(first|exact trivial|apply eS rfl|apply AB|refine rX b ?_ ?_|refine rC ?_ ?_<;>intro g<;>try(cases g;done))
 refine AJ (ι:={k:Nat//k<=d.length/\(FD d k).length<=256*k}) (λk=>⟨[(0,.bp 1 [] 0),(3,.mp 15),(19,.p Aw d),(20,.p (.int .i64) (d.length:Int)),(21,.p (.int .i64) (k.1:Int))],[(15,.mapo .str .bool (FD d k.1)),(1,.box 77 true [.p Aw d,.p Bi c,.mp 2,.raw (.slice none 0 0),.raw (.slice none 0 0),.raw (.slice none 0 0)]),(2,.mapo .str CQ num)]⟩) (λk=>d.length-k.1) ⟨0,BY _,by simp[FD]⟩ (AC [(15,.nm 15),(1,.nm 1),(2,.nm 2)] rfl rfl ?_ ?_) (λk=>?_)
 .first|exact eN|refine eM ?_
  try rfl
 .first|exact eN|refine eM ?_
  try rfl
 obtain⟨k,L,C⟩:=k;have l:=λh:k<d.length=>Z8 d h;simp only;repeat'(first|exact trivial|apply eS rfl|apply AB|refine rX b ?_ ?_|refine rC ?_ ?_<;>intro g<;>try(cases g;done))
 .exact g
 .have o:k<d.length:=An.1 (by assumption);replace l:=l o;have D:=O _ (AL o:d.getD k d0∈d);rw[show d.getD k (ByteArray.empty,[],[])=d.getD k d0 from rfl]at *;generalize d.getD k d0=x at *;obtain⟨Q,xs,a⟩:=x;simp only at l D ⊢;refine AJ (ι:={j:Nat//j<=a.length/\((a.take j).foldl Ni (FD d k)).length<=256*k+j}) (λj=>⟨[(0,.bp 1 [] 0),(3,.mp 15),(19,.p Aw d),(20,.p (.int .i64) (d.length:Int)),(21,.p (.int .i64) (k:Int)),(26,.p Lx a),(27,.p (.int .i64) (a.length:Int)),(28,.p (.int .i64) (j.1:Int))],[(15,.mapo .str .bool ((a.take j.1).foldl Ni (FD d k))),(1,.box 77 true [.p Aw d,.p Bi c,.mp 2,.raw (.slice none 0 0),.raw (.slice none 0 0),.raw (.slice none 0 0)]),(2,.mapo .str CQ num)]⟩) (λj=>a.length-j.1) ⟨0,BY _,C⟩ (AC [(15,.nm 15),(1,.nm 1),(2,.nm 2)] rfl rfl ?_ ?_) (λj=>?_)
  .first|exact eN|refine eM ?_
   try rfl
  .first|exact eN|refine eM ?_
   try rfl
  obtain⟨j,I,J⟩:=j;have n:=λh:j<a.length=>Ce Ni a Kq (FD d k) h;simp only;repeat'(first|exact trivial|apply eS rfl|apply AB|refine rX b ?_ ?_|refine rC ?_ ?_<;>intro g<;>try(cases g;done))
  .exact g
  .exact eV
  .have q:j<a.length:=An.1 (by assumption);have n:=n q;have T:((a.take (j+1)).foldl Ni (FD d k)).length<=256*k+(j+1):=by
    rw[n];have:(Ni ((a.take j).foldl Ni (FD d k)) (a.getD j Kq)).length<=((a.take j).foldl Ni (FD d k)).length+1:=Ts (vt:=.bool) (a.getD j Kq).1 true ((a.take j).foldl Ni (FD d k));omega
   refine⟨⟨j+1,q,T⟩,by simp only;omega,AC [(15,.nm 15),(1,.nm 1),(2,.nm 2)] rfl rfl ?_ ?_⟩
   .first|exact eN|refine eM ?_
    exact n.symm
   first|exact eN|refine eM ?_
  .exact eV
  have o:k<d.length:=An.1 (by assumption);have q:a.take j=a:=By (NO.1 g);rw[q]at J ⊢;rw[<-l]at J ⊢;refine⟨⟨k+1,o,by omega⟩,by simp only;omega,AC [(15,.nm 15),(1,.nm 1),(2,.nm 2)] rfl rfl ?_ ?_⟩
  .first|exact eN|refine eM ?_
  first|exact eN|refine eM ?_
 have o:k=d.length:=jM L (NO.1 g);subst o;have ab:=jC d;have U:=UT d;have u:FE d=if 64<(Af d).length then 7 else Dx d:=rfl
 have aa:(FD d d.length).length<=65536:=by omega
 clear l g C;generalize FD d d.length=m at *;refine cP 1 b ?_ ?_
 .trivial
 refine A1j b Tryz.underlying100 ?_ ?_
 .simp only[AN];omega
 refine rL b trivial ?_;repeat'(first|exact trivial|apply eS rfl|apply AB|refine rX b ?_ ?_|refine rC ?_ ?_<;>intro g<;>try(cases g;done))
 .have G:FE d=7:=by rw[u,At oa]
  refine Ev.ent (σ':=⟨[(2,.p Es 7)],[(1,.box 77 true [.p Aw d,.p Bi c,.mp 2,.raw (.slice none 0 0),.raw (.slice none 0 0),.raw (.slice none 0 0)]),(2,.mapo .str CQ num)]⟩) ?_ (AC [(1,.nm 1),(2,.nm 2)] rfl rfl ?_ ?_)
  .exact fM b [.tmp 2] (.p Es 7) eT ⟨by rw[G],.inl ⟨by rw[G];decide,rfl⟩⟩
  .first|exact eN|refine eM ?_
  first|exact eN|refine eM ?_
 have ad:m.length<=64:=by omega
 rw[As oa]at u;refine AJ (ι:={k:Nat//k<=d.length/\RS (AG d) (d.drop k)=Dx d}) (λk=>⟨[(0,.bp 1 [] 0),(3,.mp 15),(43,.p Aw d),(44,.p (.int .i64) (d.length:Int)),(45,.p (.int .i64) (k.1:Int))],[(15,.mapo .str .bool m),(1,.box 77 true [.p Aw d,.p Bi c,.mp 2,.raw (.slice none 0 0),.raw (.slice none 0 0),.raw (.slice none 0 0)]),(2,.mapo .str CQ num)]⟩) (λk=>d.length-k.1) ⟨0,BY _,rfl⟩ (AC [(15,.nm 15),(1,.nm 1),(2,.nm 2)] rfl rfl ?_ ?_) (λk=>?_)
 .first|exact eN|refine eM ?_
  try rfl
 .first|exact eN|refine eM ?_
  try rfl
 obtain⟨k,L,A⟩:=k;have l:=λh:k<d.length=>OP (AG d) d h;simp only;repeat'(first|exact trivial|apply eS rfl|apply AB|refine rX b ?_ ?_|refine rC ?_ ?_<;>intro g<;>try(cases g;done))
 .exact g
 .have o:k<d.length:=An.1 (by assumption);replace l:=l o;rw[A]at l;have D:=O _ (AL o:d.getD k d0∈d);rw[show d.getD k (ByteArray.empty,[],[])=d.getD k d0 from rfl]at *;generalize d.getD k d0=x at *;obtain⟨Q,xs,a⟩:=x;simp only at l D ⊢;refine AJ (ι:={j:Nat//j<=a.length/\VR (AG d) a j (a.drop j)=VR (AG d) a 0 a}) (λj=>⟨[(0,.bp 1 [] 0),(3,.mp 15),(9,.bp 9 [] 0),(43,.p Aw d),(44,.p (.int .i64) (d.length:Int)),(45,.p (.int .i64) (k:Int)),(50,.p Lx a),(51,.p (.int .i64) (a.length:Int)),(52,.p (.int .i64) (j.1:Int))],[(9,.box 35 true [.p T9 Q,.p Ad xs,.p Lx a]),(15,.mapo .str .bool m),(1,.box 77 true [.p Aw d,.p Bi c,.mp 2,.raw (.slice none 0 0),.raw (.slice none 0 0),.raw (.slice none 0 0)]),(2,.mapo .str CQ num)]⟩) (λj=>a.length-j.1) ⟨0,BY _,rfl⟩ (AC [(9,.nm 9),(15,.nm 15),(1,.nm 1),(2,.nm 2)] rfl rfl ?_ ?_) (λj=>?_)
  .first|exact eN|refine eM ?_
   try rfl
  .first|exact eN|refine eM ?_
   try rfl
  obtain⟨j,I,t⟩:=j;have n:=λh:j<a.length=>RT (AG d) a h;simp only;repeat'(first|exact trivial|apply eS rfl|apply AB|refine rX b ?_ ?_|refine rC ?_ ?_<;>intro g<;>try(cases g;done))
  .exact g
  .have q:j<a.length:=An.1 (by assumption);have n:=n q;rw[At g,t]at n;rw[n,At di]at l;have r:FE d=1:=u.trans l;refine Ev.ent (σ':=⟨[(2,.p Es 1)],[(1,.box 77 true [.p Aw d,.p Bi c,.mp 2,.raw (.slice none 0 0),.raw (.slice none 0 0),.raw (.slice none 0 0)]),(2,.mapo .str CQ num)]⟩) ?_ (AC [(1,.nm 1),(2,.nm 2)] rfl rfl ?_ ?_)
   .exact fM b [.tmp 2] (.p Es 1) eT ⟨by rw[r],.inl ⟨by rw[r];decide,rfl⟩⟩
   .first|exact eN|refine eM ?_
   first|exact eN|refine eM ?_
  .have q:j<a.length:=An.1 (by assumption);replace n:=n q;rw[As (by rw[g];simp),t]at n;have ag:a.length<=256:=D;have S:=vT (a.getD j Kq).1 (a.getD j Kq).2 (a.take j) (by rw[OS];omega);rw[show a.getD j (ByteArray.empty,ByteArray.empty)=a.getD j Kq from rfl]at *;generalize a.getD j Kq=y at *;obtain⟨f,v⟩:=y;refine cP 5 b ?_ ?_
   .exact NO.2 I
   refine rM b (S) [(1,.nm 11)] [] ?_ ?_ ?_
   .first|exact eN|refine eM ?_
   .first|exact eN|refine eM ?_
   rintro _ _ ⟨rfl,rfl⟩;refine⟨[(11,.nm 1)],.p .bool ((a.take j).any λz:FV=>AM z.1 f),[(11,.box 143 true [.p T9 f,.p T9 v])],rfl,rfl,?_,?_,rfl,rfl,?_⟩
   .first|exact eN|refine eM ?_
   .first|exact eN|refine eM ?_
   refine rL b trivial ?_;repeat'(first|exact trivial|apply eS rfl|apply AB|refine rX b ?_ ?_|refine rC ?_ ?_<;>intro g<;>try(cases g;done))
   .have w:((a.take j).any λz:FV=>AM z.1 f)=true:=by assumption
    have F:VR (AG d) a 0 a=4:=by rw[n,At w]
    rw[F,At di]at l;have r:FE d=4:=u.trans l;refine Ev.ent (σ':=⟨[(2,.p Es 4)],[(1,.box 77 true [.p Aw d,.p Bi c,.mp 2,.raw (.slice none 0 0),.raw (.slice none 0 0),.raw (.slice none 0 0)]),(2,.mapo .str CQ num)]⟩) ?_ (AC [(1,.nm 1),(2,.nm 2)] rfl rfl ?_ ?_)
    .exact fM b [.tmp 2] (.p Es 4) eT ⟨by rw[r],.inl ⟨by rw[r];decide,rfl⟩⟩
    .first|exact eN|refine eM ?_
    first|exact eN|refine eM ?_
   .have w:((a.take j).any λz:FV=>AM z.1 f)=false:=by assumption
    have E:AR (AG d) v=false:=by rw[<-M];assumption
    have F:VR (AG d) a 0 a=5:=by rw[n,As (by rw[w];simp),At E]
    rw[F,At di]at l;have r:FE d=5:=u.trans l;refine Ev.ent (σ':=⟨[(2,.p Es 5)],[(1,.box 77 true [.p Aw d,.p Bi c,.mp 2,.raw (.slice none 0 0),.raw (.slice none 0 0),.raw (.slice none 0 0)]),(2,.mapo .str CQ num)]⟩) ?_ (AC [(1,.nm 1),(2,.nm 2)] rfl rfl ?_ ?_)
    .exact fM b [.tmp 2] (.p Es 5) eT ⟨by rw[r],.inl ⟨by rw[r];decide,rfl⟩⟩
    .first|exact eN|refine eM ?_
    first|exact eN|refine eM ?_
   .exact eV
   have w:((a.take j).any λz:FV=>AM z.1 f)=false:=by assumption
   have E:AR (AG d) v=true:=by rw[<-M];assumption
   have q:j<a.length:=An.1 (by assumption);rw[As (by rw[w];simp),As (by rw[E];simp)]at n;refine⟨⟨j+1,q,n.symm⟩,by simp only;omega,AC [(9,.nm 9),(15,.nm 15),(1,.nm 1),(2,.nm 2)] rfl rfl ?_ ?_⟩
   .first|exact eN|refine eM ?_
   first|exact eN|refine eM ?_
  .exact eV
  have o:k<d.length:=An.1 (by assumption);have q:a.drop j=[]:=OR (NO.1 g);rw[q]at t;have t:(0:Int)=VR (AG d) a 0 a:=t;rw[<-t,As sa]at l;refine⟨⟨k+1,o,l.symm⟩,by simp only;omega,AC [(15,.nm 15),(1,.nm 1),(2,.nm 2)] rfl rfl ?_ ?_⟩
  .first|exact eN|refine eM ?_
  first|exact eN|refine eM ?_
 have o:d.drop k=[]:=OR (NO.1 (by assumption));rw[o]at A;have A:(0:Int)=Dx d:=A;have N:FE d=0:=u.trans A.symm;refine cP 1 b ?_ ?_
 .trivial
 refine A1g b Tryz.underlying100 ?_;refine rL b trivial ?_;repeat'(first|exact trivial|apply eS rfl|apply AB|refine rX b ?_ ?_|refine rC ?_ ?_<;>intro g<;>try(cases g;done))
 clear l;refine AJ (ι:={x:List Nat×Option Nat×List ByteArray//Sn m x.2.2 x.1}) (λx=>⟨[(0,.bp 1 [] 0),(82,.bp 82 [] 0)],[(82,.itr .str .bool m x.1.1 x.1.2.1),(1,.box 77 true [.p Aw d,.p Bi c,.mp 2,.sr 94 .str 0 (List.length x.1.2.2),.raw (.slice none 0 0),.raw (.slice none 0 0)]),(2,.mapo .str CQ num),(94,.arr 9 .str x.1.2.2)]⟩) (λx=>List.length x.1.1) ⟨(List.range m.length,none,[]),jA m⟩ (AC [(82,.nm 82),(1,.nm 1),(2,.nm 2),(94,.nil)] rfl rfl ?_ ?_) (λx=>?_)
 .first|exact eN|refine eM ?_
  try rfl
 .first|exact eN|refine eM ?_
  try rfl
 obtain⟨⟨left,W,ys⟩,B⟩:=x;have B:Sn m ys left:=B;have ah:ys.length+left.length=m.length:=by have:=B.length_eq;simpa using this
 simp only;repeat'(first|exact trivial|apply eS rfl|apply AB|refine rP b ?_ ?_|fail)
 refine cP 0 b ?_ ?_
 .trivial
 refine A1h b (λR=>?_) (λi hi e H=>?_)
 .subst R;refine rL b trivial ?_;repeat'(first|exact trivial|apply eS rfl|apply AB|refine rX b ?_ ?_|refine rC ?_ ?_<;>intro g<;>try(cases g;done))
  have V:=Z9 U B;have C:ys.length=(DF ys).length:=(Co ys).length_eq.symm;refine cP 4 b ?_ ?_
  .trivial
  refine rM b (NU ys 9) [(1000000,.nm 94)] [] ?_ ?_ ?_
  .first|exact eN|refine eM ?_
  .first|exact eN|refine eM ?_
  rintro _ _ ⟨rfl,rfl⟩;refine⟨[(94,.nm 1000000)],.raw (.tuple #[]),[(94,.arr 9 .str (DF ys))],rfl,rfl,?_,?_,rfl,rfl,?_⟩
  .first|exact eN|refine eM ?_
  .first|exact eN|refine eM ?_
  refine rL b trivial ?_;rw[C];repeat'(first|exact trivial|apply eS rfl|apply AB|refine rX b ?_ ?_|refine rC ?_ ?_<;>intro g<;>try(cases g;done))
  rw[V];refine DH [94] ?_;refine Ev.ent (σ':=⟨[(2,.p Es 0)],[(1,.box 77 true [.p Aw d,.p Bi c,.mp 2,.p Ad (Af d),.raw (.slice none 0 0),.raw (.slice none 0 0)]),(2,.mapo .str CQ num)]⟩) ?_ (AC [(1,.nm 1),(2,.nm 2)] rfl rfl ?_ ?_)
  .exact fM b [.tmp 2] (.p Es 0) eT ⟨by rw[N],.inr ⟨N,rfl⟩⟩
  .first|exact eN|refine eM ?_
  first|exact eN|refine eM ?_
 refine rL b trivial ?_;repeat'(first|exact trivial|apply eS rfl|apply AB|refine rP b ?_ ?_|fail)
 refine rC ?_ ?_<;>intro g<;>try(cases g;done)
 repeat'(first|exact trivial|apply eS rfl|apply AB|refine rP b ?_ ?_|fail)
 refine cP 0 b ?_ ?_
 .trivial
 refine A1i b H ?_;refine rL b trivial ?_;repeat'(first|exact trivial|apply eS rfl|apply AB|refine rX b ?_ ?_|refine rC ?_ ?_<;>intro g<;>try(cases g;done))
 .simp only[AN];omega
 have Y:=ABO hi;have Z:=AAQ hi;refine⟨⟨(left.erase i,some i,ys++[e.1]),jB B hi H⟩,by simp only;omega,AC [(82,.nm 82),(1,.nm 1),(2,.nm 2),(94,.nm 94)] rfl rfl ?_ ?_⟩
 .first|exact eN|refine eM ?_
  try rfl
 first|exact eN|refine eM ?_
end
section
variable {d:List AD}
theorem pM (o:List ByteArray) (s:ByteArray):o <+: C5 o s:=by
 unfold C5;split
 .exact AB1 _
 exact List.prefix_append _ _
theorem Og:∀(l o:List ByteArray),o <+: l.foldl C5 o
 | [],_=>AB1 _
 | s :: l,o=>(pM o s).trans (Og l (C5 o s))
theorem jD {l o:List ByteArray} (h:o <+: l) {j:Nat} (a:j<o.length):l.getD j ByteArray.empty=o.getD j ByteArray.empty:=by
 obtain⟨r,rfl⟩:=h;rw[AS,AS,AA5 a]
theorem SP:∀(n i:Nat) (o:List ByteArray),o <+: DM d n i o
 | 0,_,_=>AB1 _
 | n+1,i,o=>by
  unfold DM;split
  .exact(Og _ o).trans (SP n (i+1) _)
  exact AB1 _
theorem YP (hs:Hu d):∀ {n i:Nat} {o:List ByteArray},Sf d o->d.length<=n+i->A0M d o i->i<=o.length->∃m,A0M d (DM d n i o) m/\(DM d n i o).length<=m
 | 0,i,o,b,f,a,hi=>⟨i,a,by
  have:=b.len;show o.length<=i;omega⟩
 | n+1,i,o,b,f,a,hi=>by
  unfold DM;split
  .rename_i p;obtain⟨g1,h⟩:=RA (l:=Eu d (o.getD i ByteArray.empty)) (Hv hs _) b;refine YP hs g1 oa (λj k s c=>?_) oa;rw[jD (Og _ o) oa]at c;by_cases e:j=i
   .subst e;exact BF.2 (GJ.2 (.inr c))
   exact Gt (λz g=>GJ.2 (.inl g)) (a j oa s c)
  exact⟨i,a,by omega⟩
theorem wH (e:A5 d=0) {y:AD} (a:y∈d):Eu d y.1=y.2.1:=by
 obtain⟨b,c⟩:=Tw (CD a);unfold Eu;rw[FT e b a c]
theorem pN (c:AU d=0) {t x:ByteArray} (p:0<=AY d x) (h:Up d t x):t∈Bt d x:=by
 obtain⟨hs,-,-,k,w⟩:=Ab c;have f:Sf d [x]:=⟨λs hs=>by
  have:s=x:=by simpa using hs
  rw[this];exact p,by simp⟩
 obtain⟨m,b,v⟩:=YP hs (n:=d.length) (i:=0) f oa (λj g=>by omega) sa;have q:x∈DM d d.length 0 [x]:=(SP (d:=d) d.length 0 [x]).subset sa;unfold Bt;rw[As oa,K1];generalize DM d d.length 0 [x]=o at *;have key:∀z,Up d t z->z∈o->t∈o:=by
  intro z a;induction a with
  | base e=>intro h;rw[Bg.1 e];exact h
  | step r e l _ u =>
   intro a;refine u ?_;obtain⟨j,g,rfl⟩:=BJ ByteArray.empty a;refine BF.1 (b j oa _ ?_);rw[<-Bg.1 e,wH k r];exact BF.1 l
 exact key x h q
theorem Nj:∀ {l o:List ByteArray} {x:ByteArray},x∈l.foldl (Dl d) o->x∈o\/x∈l
 | [],_,_,h=>.inl h
 | s :: l,o,x,h=>by
  rw[No]at h;rcases Nj h with h|h
  .unfold Dl at h;split at h
   .rcases FU h with h|rfl
    .exact .inl h
    exact .inr sa
   exact .inl h
  exact .inr (by simp[h])
theorem wI (j:AU d=0) {l:List ByteArray} (n:Xb l) {a:ByteArray} (c:a∈l) (f:∀y∈l,0<=AY d y) (D:∀y∈l,Up d a y):(Ag d l).length=1:=by
 obtain⟨m,z,-⟩:=Iu j n c (f a c);have h:=AAQ z;have G:Xb (Ak d l):=Jb .nil (λs _ x E=>by cases E) n;have C:∀y∈Ak d l,y∈l:=λy F=>(Nj F).resolve_left sa;have t:a∈Ak d l:=BF.1 (Ja (d:=d) (o:=[]) c (f a c));have u:Ag d l=Ik d (Ak d l) (Ak d l).length:=rfl;rw[u]at h ⊢;generalize Ak d l=all at *;obtain⟨k,w,q⟩:=BJ ByteArray.empty t;unfold Ik at h ⊢;rw[Of]at h ⊢;have A:((List.range all.length).filter λi=>Ju d all i all.length).Nodup:=ACb.filter _;have r:=Fs (l':=[k]) A λi hi=>by
  obtain⟨g,v⟩:=tO.1 hi;have g:=gO.1 g;rw[nO];refine IN λB=>?_;have b:PJ d all i k=true:=IS.1 v k (gO.2 w);unfold PJ at b;rw[bY,AA9,OF]at b;rcases b with e|b
  .exact B oa
  have p:=C _ (AL (d:=ByteArray.empty) g);have:=BF.2 (pN j (f _ p) (D _ p));rw[q,this]at b;cases b
 simp only[AAe]at r;omega
end
theorem d8 (s:ByteArray):∀(l:List AI) (k:Nat),CR (λy:AI=>AM y.1 s) k l=IK s k l
 | [],_=>rfl
 | x :: l,k=>by
  unfold CR IK;rw[d8 s l (k+1)]
def aA (d:List AD) (c:List AI) (k:Nat):CL:=(d.take k).foldl (λm x=>Bm .str CQ x.1 (CR (λy:AI=>AM y.1 x.1) 0 c) m) []
abbrev B6 (d:List AD) (c:List AI):CL:=aA d c d.length
theorem Oh (d:List AD) (c:List AI) {k:Nat} (h:k<d.length):aA d c (k+1)=Bm .str CQ (d.getD k d0).1 (CR (λy:AI=>AM y.1 (d.getD k d0).1) 0 c) (aA d c k):=by
 unfold aA;rw[Ai d d0 h,AAk];rfl
theorem YQ (d:List AD) (c:List AI):∀k,k<=d.length->∀j,j<k->AQ .str CQ (d.getD j d0).1 (aA d c k)=some (A7 c (d.getD j d0).1)
 | 0,_,j,h=>by omega
 | k+1,b,j,h=>by
  rw[Oh d c oa,Bp];split
  .rename_i e;rw[e,d8];rfl
  rename_i e;refine YQ d c k oa j ?_;rcases Nat.lt_or_ge j k with a|a
  .exact a
  exact absurd (by rw[show j=k by omega]) e
theorem UU (d:List AD) (c:List AI) (s:ByteArray):∀k,k<=d.length->(∀j,j<k->(d.getD j d0).1≠s)->AQ .str CQ s (aA d c k)=none
 | 0,_,_=>rfl
 | k+1,b,h=>by
  rw[Oh d c oa,Bp,As (λe=>h k oa e.symm)];exact UU d c s k oa λj a=>h j oa
section
variable {d:List AD}
theorem d9 (c:List AI) {x:AD} (b:x∈d):AQ .str CQ x.1 (B6 d c)=some (A7 c x.1):=by
 obtain⟨j,a,rfl⟩:=BJ d0 b;exact YQ d c d.length (If _) j a
theorem Nk (c:List AI) {x:AD} (a:x∈d):Em (B6 d c) x.1=A7 c x.1:=by
 unfold Em;have h:=d9 c a;rw[show AQ .str T3 x.1 (B6 d c)=_ from h];rfl
theorem wJ (c:List AI) (s:ByteArray):(AQ .str CQ s (B6 d c)).isSome=AR (AG d) s:=by
 rw[AAo,BF,Iy,GK];constructor
 .intro h;refine IN λb=>?_;rw[show AQ .str CQ s (B6 d c)=none from UU d c s d.length (If _) λj a e=>b ⟨_,AL a,e⟩]at h;cases h
 rintro⟨x,f,rfl⟩;rw[d9 c f];rfl
theorem YR (s:ByteArray):∀l:List FV,(HI s l).2=l.any λy=>AM y.1 s
 | []=>rfl
 | y :: l=>by
  unfold HI;rw[List.any_cons];cases h:AM y.1 s with
  | true=>rfl
  | false=>rw[As sa,YR s l];simp
theorem Nl {s t:ByteArray}:∀ {r:List AD} {o:List ByteArray},t∈r.foldl (Ip s) o↔t∈o\/∃x∈r,x.1=t/\(Bk x s).2=true
 | [],o=>by simp
 | x :: r,o=>by
  rw[No,Nl (r:=r)];unfold Ip;by_cases h:(Bk x s).2=true
  .rw[At h,V8];constructor
   .rintro ((b|rfl)|⟨y,a,c⟩)
    .exact .inl b
    .exact .inr ⟨x,by simp,rfl,h⟩
    exact .inr ⟨y,by simp[a],c⟩
   rintro (b|⟨y,a,rfl,c⟩)
   .exact .inl (.inl b)
   rcases Is.1 a with rfl|a
   .exact .inl (.inr rfl)
   exact .inr ⟨y,a,rfl,c⟩
  rw[As h];constructor
  .rintro (b|⟨y,a,c⟩)
   .exact .inl b
   exact .inr ⟨y,by simp[a],c⟩
  rintro (b|⟨y,a,b,c⟩)
  .exact .inl b
  rcases Is.1 a with rfl|a
  .exact absurd c h
  exact .inr ⟨y,a,b,c⟩
theorem pO (f:AU d=0) (i:FY (AO (AK d))) {s:ByteArray} (h:0<=Lj d (AE d) (B6 d (AE d)) s):(Ez d s).2=true:=by
 obtain⟨hs,I,-,m,J⟩:=Ab f;have F:=DC d d.length;rw[TO]at F;have g:(AG d).length<=4096:=by omega
 unfold Lj zK at h;have t:=F1 (Jk (AE d) (Cb d (B6 d (AE d)) s)) 0 (Cb d (B6 d (AE d)) s);rw[AAt h]at t;obtain⟨a,u,l⟩:=aS.1 t.symm;have mem:∀B,B∈d->Pa s B=true->A7 (AE d) B.1∈Cb d (B6 d (AE d)) s:=λB b i=>by
  unfold Cb;exact To.2 ⟨B,tO.2 ⟨b,i⟩,Nk _ b⟩
 obtain⟨A,c,r⟩:=To.1 (by unfold Cb at u;exact u);obtain⟨c,C⟩:=tO.1 c;rw[Nk _ c]at r;subst r;have v:∀x:AD,(Bk x s).2=Pa s x:=λx=>YR s x.2.2;have G:∀B,B∈d->Pa s B=true->Up d A.1 B.1:=λB b D=>by
  have k:PZ (AE d) (A7 (AE d) A.1) (A7 (AE d) B.1)=true:=by
   unfold Jk FC at l;rw[OF,ABi]at l;have:=l _ (mem B b D);simpa using this
  unfold PZ at k;have H:=Jc c m;have w:=Jc b m;rw[Ru f i H,Ru f i w]at k;obtain⟨j,E,p⟩:=BJ ByteArray.empty w;have z:=(HQ (BQ (d:=d) g B.1 0).2.1 (BQ (d:=d) g A.1 0).2.1).1 k j ((BQ (d:=d) g B.1 j).1.2 ⟨E,by rw[p];exact JU (CD b)⟩);have q:=((BQ (d:=d) g A.1 j).1.1 z).2;rw[p]at q;exact Rs q
 have key:(Ag d (GT d s)).length=1:=by
  refine wI f (gP m s) (a:=A.1) (Nl.2 (.inr ⟨A,c,rfl,by rw[v];exact C⟩)) (λy o=>?_) (λy o=>?_)
  .obtain⟨x,n,rfl,-⟩:=(Nl.1 o).resolve_left sa;exact CD n
  obtain⟨x,n,rfl,e⟩:=(Nl.1 o).resolve_left sa;exact G x n (by rw[<-v];exact e)
 unfold Ez;rw[At key]
end
section
variable {d:List AD}
def eA (c:List AI) (num:CL) (o:Option (List Int)) (v:ByteArray):List Int:=if o.isSome=true then CI (o.getD []) (ET c num v) else ET c num v
theorem wK (c:List AI) (num:CL) (m:ER) (y:FV) (s:ByteArray):AQ .str BT s (Iz c num m y)=if AM y.1 s=true then some (eA c num (AQ .str BT s m) y.2) else AQ .str BT s m:=by
 unfold Iz;rw[Bp];by_cases h:AM y.1 s=true
 .rw[At h,At (Bg.1 h).symm,Bg.1 h];rfl
 rw[As h,As λe=>h (Bg.2 e.symm)]
def ApF (l:List FV):Prop:=l.Pairwise λa b=>AM a.1 b.1=false
theorem UV {s:ByteArray}:∀ {l:List FV},(∀y∈l,AM y.1 s=false)->HI s l=(ByteArray.empty,false)
 | [],_=>rfl
 | y :: l,h=>by
  unfold HI;rw[As (by rw[h y sa];simp)];exact UV λz a=>h z (by simp[a])
theorem eB (c:List AI) (num:CL) (s:ByteArray):∀(l:List FV) (m:ER),ApF l->AQ .str BT s (l.foldl (Iz c num) m)=if (HI s l).2=true then some (eA c num (AQ .str BT s m) (HI s l).1) else AQ .str BT s m
 | [],m,_=>by rw[As (by simp[HI])];rfl
 | y :: l,m,h=>by
  obtain⟨a,b⟩:=AAl.1 h;rw[No,eB c num s l _ b,wK];by_cases e:AM y.1 s=true
  .have d:=UV (s:=s) (l:=l) λz g=>by
    have:=a z g;rw[Bg.1 e]at this;exact H0 this
   rw[d,As sa,At e];unfold HI;rw[At e,At rfl]
  rw[As e];have f:HI s (y :: l)=HI s l:=by rw[HI,As e]
  rw[f]
theorem pP {all:List ByteArray} {l:List FV}:∀ {n k:Nat},n+k=l.length->VR all l k (l.drop k)=0->∀j,k<=j->j<l.length->∀i,i<j->AM (l.getD i Kq).1 (l.getD j Kq).1=false
 | 0,k,d,_,j,c,b,_,_=>by omega
 | n+1,k,d,h,j,c,b,i,hi=>by
  rw[RT all l oa]at h;split at h
  .cases h
  split at h
  .cases h
  rename_i a;split at h
  .cases h
  by_cases e:j=k
  .subst e;have a:((l.take j).any λy=>AM y.1 (l.getD j Kq).1)=false:=by simpa using a
   rw[ABi]at a;have f:l.getD i Kq∈l.take j:=by
    rw[show l.getD i Kq=(l.take j).getD i Kq by rw[AS,AS,ABr hi]];exact AL (by rw[OS];omega)
   simpa using a _ f
  exact pP (n:=n) (k:=k+1) oa h j oa b i hi
theorem jE (h:Dx d=0):∀x∈d,ApF x.2.2:=by
 have key:∀(n k:Nat),n+k=d.length->RS (AG d) (d.drop k)=0->∀j,k<=j->j<d.length->VR (AG d) (d.getD j d0).2.2 0 (d.getD j d0).2.2=0:=by
  intro n;induction n with
  | zero=>intro k q _ j c g;omega
  | succ n s =>
   intro k q h j c g;rw[OP _ d oa]at h;split at h
   .rename_i f;exact absurd h f
   rename_i f;by_cases e:j=k
   .subst e;exact IN f
   exact s (k+1) oa h j oa g
 intro x r;obtain⟨j,p,rfl⟩:=BJ d0 r;have c:=key d.length 0 oa h j oa p;generalize (d.getD j d0).2.2=l at *;unfold ApF;rw[iN];intro a b m i o;have:=pP (n:=l.length) (k:=0) oa c b oa i a o;rw[AS,AS,DO m,DO i]at this;exact this
structure InI (d:List AD) (t:Int) (r:List AD) (m:ER):Prop where
 has:∀s,(AQ .str BT s m).isSome=true↔∃x∈r,xG d t s x
 wds:∀s,Ei (MU m s)
 bit:∀s,(AQ .str BT s m).isSome=true->∀i,A0 (MU m s) i=true↔∀x∈r,xG d t s x->A0 (qG d s x) i=true
theorem wL:Ei []:=λx a=>by cases a
theorem jF (f:Dx d=0) {x:AD} (h:x∈d) {s:ByteArray} (g:(Bk x s).2=true):ET (AE d) (B6 d (AE d)) (Bk x s).1=qG d s x:=by
 obtain⟨y,i,e⟩:=RU s x.2.2 g;have a:=LS f x h y i;rw[BF]at a;obtain⟨z,j,c⟩:=CY a;unfold ET qG;have b:(Bk x s).1=z.1:=by rw[c];exact e.symm
 rw[b,Nk _ j]
theorem pQ (B:tV (B4 d)) (z:VT d (AE d)) (v:Dx d=0) {t:Int} (t0:0<=t) (G:t<((AE d).length:Int)) {r:List AD} {m:ER} (h:InI d t r m) {x:AD} (l:x∈d) :
  InI d t (r++[x]) (if HO ((AE d).getD t.toNat c0).2 (ET (AE d) (B6 d (AE d)) x.1)=true then x.2.2.foldl (Iz (AE d) (B6 d (AE d))) m else m):=by
 obtain⟨E,F⟩:=dJ z l;have D:HO ((AE d).getD t.toNat c0).2 (ET (AE d) (B6 d (AE d)) x.1)=NM (B4 d) (A7 (AE d) x.1) t:=by
  have e:ET (AE d) (B6 d (AE d)) x.1=Ay (B4 d) (A7 (AE d) x.1):=by
   unfold ET;rw[Nk _ l,LY d E F]
  rw[e,<-LY d t0 G];rfl
 rw[D];have k:∀(s:ByteArray) (y:AD),y∈r++[x]↔y∈r\/y=x:=λs y=>by simp
 by_cases j:NM (B4 d) (A7 (AE d) x.1) t=true
 .rw[At j];have p:=λs=>eB (AE d) (B6 d (AE d)) s x.2.2 m (jE v x l);have q:∀s,(Bk x s).2=true->Ei (qG d s x):=λs b=>by
   obtain⟨v0,v1⟩:=Zv z l b;have u:=dK d v0 v1;rw[<-GH]at u;exact B.1.wds _ u
  have A:∀s,(Bk x s).2=true->MU (x.2.2.foldl (Iz (AE d) (B6 d (AE d))) m) s=if (AQ .str BT s m).isSome=true then CI (MU m s) (qG d s x) else qG d s x:=λs b=>by
   have c:=p s;rw[At (show (HI s x.2.2).2=true from b)]at c;unfold MU;rw[c];show eA _ _ _ _=_;unfold eA;rw[show ET (AE d) (B6 d (AE d)) (HI s x.2.2).1=qG d s x from jF v l b]
  have o:∀s,¬(Bk x s).2=true->AQ .str BT s (x.2.2.foldl (Iz (AE d) (B6 d (AE d))) m)=AQ .str BT s m:=λs b=>by
   have c:=p s;rw[As (show ¬(HI s x.2.2).2=true from b)]at c;exact c
  refine⟨λs=>?_,λs=>?_,λs hs i=>?_⟩
  .by_cases b:(Bk x s).2=true
   .have c:=p s;rw[At (show (HI s x.2.2).2=true from b)]at c;rw[c];exact⟨λ_=>⟨x,by simp,b,j⟩,λ_=>rfl⟩
   rw[o s b,h.has s];constructor
   .rintro⟨y,a,f⟩;exact⟨y,by simp[a],f⟩
   rintro⟨y,a,f⟩;rcases (k s y).1 a with a|rfl
   .exact⟨y,a,f⟩
   exact absurd f.1 b
  .by_cases b:(Bk x s).2=true
   .rw[A s b];split
    .exact NQ (h.wds s) (q s b)
    exact q s b
   unfold MU;rw[o s b];exact h.wds s
  by_cases b:(Bk x s).2=true
  .rw[A s b];by_cases n:(AQ .str BT s m).isSome=true
   .rw[At n,NP (h.wds s) (q s b),AT,h.bit s n i];constructor
    .rintro⟨c,f⟩ y a g;rcases (k s y).1 a with a|rfl
     .exact c y a g
     exact f
    exact λc=>⟨λy a g=>c y (by simp[a]) g,c x sa ⟨b,j⟩⟩
   rw[As n];constructor
   .intro f y a g;rcases (k s y).1 a with a|rfl
    .exact absurd ((h.has s).2 ⟨y,a,g⟩) n
    exact f
   exact λc=>c x sa ⟨b,j⟩
  have C:MU (x.2.2.foldl (Iz (AE d) (B6 d (AE d))) m) s=MU m s:=by unfold MU;rw[o s b]
  rw[o s b]at hs;rw[C,h.bit s hs i];constructor
  .intro c y a g;rcases (k s y).1 a with a|rfl
   .exact c y a g
   exact absurd g.1 b
  exact λc y a g=>c y (by simp[a]) g
 rw[As j];have w:∀s,¬xG d t s x:=λs f=>j f.2;refine⟨λs=>?_,h.wds,λs hs i=>?_⟩
 .rw[h.has s];constructor
  .rintro⟨y,a,f⟩;exact⟨y,by simp[a],f⟩
  rintro⟨y,a,f⟩;rcases (k s y).1 a with a|rfl
  .exact⟨y,a,f⟩
  exact absurd f (w s)
 rw[h.bit s hs i];constructor
 .intro c y a g;rcases (k s y).1 a with a|rfl
  .exact c y a g
  exact absurd g (w s)
 exact λc y a g=>c y (by simp[a]) g
theorem wM (c:tV (B4 d)) (e:VT d (AE d)) (b:Dx d=0) {t:Int} (t0:0<=t) (i:t<((AE d).length:Int)):InI d t d (Od d (AE d) (B6 d (AE d)) t):=by
 have key:∀(l r:List AD) (m:ER),(∀x∈l,x∈d)->InI d t r m->InI d t (r++l) (l.foldl (UR (AE d) (B6 d (AE d)) t) m):=by
  intro l;induction l with
  | nil=>intro r m _ h;simpa using h
  | cons x l g =>
   intro r m a h;have:=g (r++[x]) _ (λy f=>a y (by simp[f])) (pQ c e b t0 i h (a x sa));rw[oN]at this;exact this
 exact key d [] [] (λ_ h=>h) ⟨λs=>by simp[AQ],λs=>wL,λs hs=>by simp[AQ]at hs⟩
theorem zL (g:AU d=0) (z:(AO (AK d)).length<=256) (r:Dx d=0) (m:D1 d (AE d) (B6 d (AE d)) (Af d) (AE d).length=false):IL d (AE d) (Af d) (AE d).length=false:=by
 have b:=Zl g z;have N:=xA g;have n:=VU g r;have O:=yT g z;have w:=nV d;unfold IL;rw[ABi];intro t c a;have c:=gO.1 c;unfold VW at a;obtain⟨s,hs,a⟩:=aS.1 a;unfold Ks at a;rw[AT,AA9]at a;obtain⟨M,Q⟩:=a;have t0:(0:Int)<=(t:Int):=by omega
 have D:(t:Int)<((AE d).length:Int):=by omega
 have E:Cd ((AE d).map λx=>x.2) ((AE d).getD 0 c0).2:=.inr (To.2 ⟨_,AL oa,rfl⟩);obtain⟨g1,F,G⟩:=Vl b N n t0 D s d (((AE d).getD 0 c0).2,false) (λ_ h=>h) E;have l:=wM b n r t0 D;have u:∃x∈d,xG d (t:Int) s x:=by
  rcases F.1 M with h|h
  .cases h
  exact h
 have v:=(l.has s).2 u;unfold D1 at m;rw[ABi]at m;have o:=m t (gO.2 c);rw[Bool.not_eq_true,ABi]at o;have k:=o s hs;unfold Jm at k;rw[v,ABg,Do]at k;have p:=F1 (λx:AI=>AZ x.2 (MU (Od d (AE d) (B6 d (AE d)) (t:Int)) s)) 0 (AE d);rw[AAt (show 0<=CR _ 0 (AE d) from AAs.1 k)]at p;obtain⟨y,P,j⟩:=aS.1 p.symm;unfold AZ at j;rw[AT]at j;have C:y.2∈(B4 d).1.map λt=>t.2.1:=by rw[GH];exact To.2 ⟨y,P,rfl⟩
 obtain⟨i,hi⟩:=b.1.some _ C;have K:=(HQ (b.1.wds _ C) (l.wds s)).1 j.1 i hi;have q:=(l.bit s v i).1 K;obtain⟨x,B,A⟩:=u;have L:=q x B A;have H:A0 ((AE d).getD 0 c0).2 i=true:=by
  obtain⟨v0,v1⟩:=Zv n B A.1;have c:=O _ v0 (by rw[w];exact v1);have:=(Ri b oa oa v0 (by rw[w];exact v1)).1 c i (by
   show A0 (Ay (B4 d) _) i=true;rw[LY d v0 v1];exact L)
  have e:A0 (Ay (B4 d) 0) i=true:=this;rw[LY d oa oa]at e;exact e
 have f:=(G i).2 ⟨H,q⟩;have I:OQ d (AE d) (t:Int) s=d.foldl (Iq (AE d) (t:Int) s) (((AE d).getD 0 c0).2,false):=rfl;rw[<-I]at f;have J:(OQ d (AE d) (t:Int) s).1=[]:=dO oa;rw[J]at f;unfold A0 at f;simp at f
end
def Aq (d:List AD):Int :=
 if (A6 d).2≠0 then (A6 d).2 else if FE d≠0 then FE d else
 if EG d (AE d) (B6 d (AE d)) (Af d)=true then 10 else if D1 d (AE d) (B6 d (AE d)) (Af d) (AE d).length=true then 11 else 0
theorem I0 {d:List AD} (h:Aq d=0):(A6 d).2=0/\FE d=0/\EG d (AE d) (B6 d (AE d)) (Af d)=false/\D1 d (AE d) (B6 d (AE d)) (Af d) (AE d).length=false:=by
 unfold Aq at h;split at h
 .rename_i a;exact absurd h a
 rename_i a;split at h
 .rename_i b;exact absurd h b
 rename_i b;split at h
 .cases h
 rename_i c;split at h
 .cases h
 rename_i e;exact⟨IN a,IN b,by simpa using c,by simpa using e⟩
theorem Oi {d:List AD} (h:FE d=0):(Af d).length<=64/\Dx d=0:=by
 unfold FE at h;split at h
 .cases h
 rename_i a;exact⟨by omega,h⟩
theorem aB {d:List AD} (h:Aq d=0):Br d=0:=by
 obtain⟨c,g,b,i⟩:=I0 h;obtain⟨l,e⟩:=Oi g;obtain⟨a,f,j⟩:=B5 c;have k:=HP a f;unfold Br;rw[As (by rw[c];simp),As oa,As (by rw[e];simp),As,As]
 .rw[j,zL a f e i];simp
 rw[Bool.not_eq_false,IS];intro s hs;unfold EG at b;rw[ABi]at b;have:=b s hs;rw[Do]at this;exact pO a k (AAs.1 this)
def H3 (c:List AI) (v:List (List (Int×Int))) (n:Nat):List FX:=(List.range n).map λi=>((c.getD i c0).1,(c.getD i c0).2,pG c (i:Int),v.getD i [])
def A0W (d:List AD) (c:List AI) (num:CL) (s:ByteArray):XW:=(s,J1 d c num s)
def SQ (d:List AD):List XW:=(Af d).map (A0W d (AE d) (B6 d (AE d)))
def Jx (d:List AD):List (List (Int×Int)):=J2 d (AE d) (B6 d (AE d)) (Af d) (AE d).length
def FF (d:List AD):C6:=(H3 (AE d) (Jx d) (AE d).length,SQ d)
def Cf (d:List AD):C6×Int:=if Aq d≠0 then (([],[]),Aq d) else (FF d,0)
theorem aC (c:List AI) (v:List (List (Int×Int))) (n:Nat):H3 c v (n+1)=H3 c v n++[((c.getD n c0).1,(c.getD n c0).2,pG c (n:Int),v.getD n [])]:=by simp[H3,AA0]
theorem UW (c:List AI) (v:List (List (Int×Int))) (n:Nat):(H3 c v n).length=n:=by simp[H3]
theorem jG (d:List AD):(Jx d).length=(AE d).length:=by simp[Jx,J2]
theorem zM (d:List AD) {k:Nat} (a:k<(AE d).length):(FF d).1.getD k Re=(((AE d).getD k c0).1,((AE d).getD k c0).2,pG (AE d) (k:Int),(Jx d).getD k []):=by
 unfold FF H3;simp[AS,a]
theorem pR (d:List AD):(FF d).1.length=(AE d).length:=UW _ _ _
theorem SR (d:List AD):((FF d).1.map λt=>t.2.1)=(B4 d).1.map λt=>t.2.1:=by
 rw[GH];show ((H3 _ _ _).map λt=>t.2.1)=_;unfold H3;rw[AB8];apply AAx
 .simp
 intro i a b;simp[AS,show i<(AE d).length by simpa using a]
theorem A0X {d:List AD} (a:AU d=0) (b:(AO (AK d)).length<=256):tV (FF d)/\Nd ((FF d).1.map λt=>t.2.1):=by
 have c:=Zl a b;refine⟨⟨by rw[SR];exact c.1,?_⟩,by rw[SR];exact xA a⟩;rw[pR,Ey];exact b
section
attribute [local go_sem] Nf
theorem aD {d:List AD} (h:¬(A6 d).2=0):Aq d=(A6 d).2:=by unfold Aq;rw[At h]
theorem jH {d:List AD} (a:(A6 d).2=0) (h:FE d≠0):Aq d=FE d:=by unfold Aq;rw[As (by rw[a];simp),At h]
theorem aE {d:List AD} (b:(A6 d).2=0) (a:FE d=0) (h:EG d (AE d) (B6 d (AE d)) (Af d)=true):Aq d=10:=by unfold Aq;rw[As (by rw[b];simp),As (by rw[a];simp),At h]
theorem pS {d:List AD} (b:(A6 d).2=0) (a:FE d=0) (h:EG d (AE d) (B6 d (AE d)) (Af d)=false):Aq d=if D1 d (AE d) (B6 d (AE d)) (Af d) (AE d).length=true then 11 else 0:=by unfold Aq;rw[As (by rw[b];simp),As (by rw[a];simp),As (by rw[h];simp)]
theorem eC (d:List AD) (H:d.length<=10) :
  Aj Tryz.prog 34 [.p Aw d] [] [] (λres A =>
   (Aq d=0/\res=.tup [.bp 1 [] 0,.p Es 0]/\A=[(1,.box 77 true [.p Aw d,.p Bi (AE d),.mp 2,.p Ad (Af d),.p Dj (Jl d (AE d) (B6 d (AE d)) (Af d)),.p VB (Jx d)]),(2,.mapo .str CQ (B6 d (AE d)))]) \/
   (Aq d≠0/\((res=.tup [.raw (.pointer none),.p Es (Aq d)]/\A=[])\/∃w i,res=.tup [.bp 1 [] 0,.p Es (Aq d)]/\A=[(1,.box 77 true [.p Aw d,.p Bi (AE d),.mp 2,.p Ad (Af d),.p Dj w,.p VB i]),(2,.mapo .str CQ (B6 d (AE d)))]))):=by
 refine Er [0,2,3,4,5,6,8,9,10,17,24,25,26,27,43,48] [] [] Tryz.func34 Tryz.ntmps34 (AF UP AH) ?_;intro w0 K O0 ρ0 a Z aa;simp only[AX];repeat'(first|exact trivial|apply eS rfl|apply AB|refine rX a ?_ ?_|refine rC ?_ ?_<;>intro b<;>try(cases b;done))
 .exact H
 .have b:¬(A6 d).2=0:=b;have hp:=aD b;refine Ev.ent (σ':=⟨[(2,.raw (.pointer none)),(3,.p Es (Aq d))],[]⟩) ?_ (AC [] rfl rfl ?_ ?_)
  .exact fM a [.tmp 2,.tmp 3] (.tup [.raw (.pointer none),.p Es (Aq d)]) eT (.inr ⟨by rw[hp];exact b,.inl ⟨rfl,rfl⟩⟩)
  .first|exact eN|refine eM ?_
  simp only[hp];first|exact eN|refine eM ?_
 have m:(A6 d).2=0:=by simpa using b
 obtain⟨j,N,I⟩:=B5 m;obtain⟨-,-,-,Y,-⟩:=Ab j;have Q:=Gj j;have J:(AE d).length<=256:=by rw[Ey];exact N
 have T:=JY j;rw[I];refine AJ (ι:={k:Nat//k<=d.length}) (λk=>⟨[(4,.p Bi (AE d)),(6,.bp 23 [] 0),(24,.p Aw d),(25,.p (.int .i64) (d.length:Int)),(26,.p (.int .i64) (k.1:Int))],[(23,.box 77 true [.p Aw d,.p Bi (AE d),.mp 21,.raw (.slice none 0 0),.raw (.slice none 0 0),.raw (.slice none 0 0)]),(21,.mapo .str CQ (aA d (AE d) k.1))]⟩) (λk=>d.length-k.1) ⟨0,BY _⟩ (AC [(23,.nm 23),(21,.nm 21)] rfl rfl ?_ ?_) (λk=>?_)
 .first|exact eN|refine eM ?_
  try rfl
 .first|exact eN|refine eM ?_
 obtain⟨k,M⟩:=k;have l:=λh:k<d.length=>Oh d (AE d) h;simp only;repeat'(first|exact trivial|apply eS rfl|apply AB|refine rX a ?_ ?_|refine rC ?_ ?_<;>intro b<;>try(cases b;done))
 .exact b
 .have g:k<d.length:=An.1 (by assumption);replace l:=l g;rw[show d.getD k (ByteArray.empty,[],[])=d.getD k d0 from rfl]at *;generalize d.getD k d0=x at *;obtain⟨B,xs,F⟩:=x;simp only at l ⊢;have key:=vQ B xs F (AE d) oa;refine Dw drawsAny a 9 [([6,7],8)] [0,1,2,3,4,5] (by kernel_rfl) (WA ?_ ?_)
  .trivial
  refine mxC a (key) [(1,.nm 8)] [] ?_ ?_ ?_
  .first|exact eN|refine eM ?_
  .first|exact eN|refine eM ?_
  rintro _ _ ⟨rfl,rfl⟩;refine⟨[(8,.nm 1)],.p T3 (CR (λx:AI=>AM x.1 B) 0 (AE d)),[(8,.box 35 true [.p T9 B,.p Ad xs,.p Lx F])],rfl,rfl,?_,?_,rfl,rfl,rfl,?_⟩
  .first|exact eN|refine eM ?_
  .first|exact eN|refine eM ?_
  refine WB a ?_ ?_ ?_
  .trivial
  .trivial
  repeat'(first|exact trivial|apply eS rfl|apply AB|refine rX a ?_ ?_|refine rC ?_ ?_<;>intro b<;>try(cases b;done))
  .exact eV
  have g:k<d.length:=An.1 (by assumption);refine⟨⟨k+1,g⟩,by simp only;omega,AC [(23,.nm 23),(21,.nm 21)] rfl rfl ?_ ?_⟩
  .simp only;rw[l];first|exact eN|refine eM ?_
  first|exact eN|refine eM ?_
 have g:k=d.length:=jM M (NO.1 (by assumption));subst g;have o:d.length<=256:=by omega
 have q:∀x∈d,x.2.2.length<=256:=λx e=>(Q x e).2;refine cP 1 a ?_ ?_
 .trivial
 refine rM a (wG d (AE d) (B6 d (AE d)) o q (wJ (AE d))) [(1,.nm 23),(2,.nm 21)] [] ?_ ?_ ?_
 .first|exact eN|refine eM ?_
 .first|exact eN|refine eM ?_
 rintro _ _ ⟨rfl,⟨c,rfl⟩|⟨c,rfl⟩⟩
 .have hp:=jH m c;refine⟨[(23,.nm 1),(21,.nm 2)],.p Es (FE d),[(23,.box 77 true [.p Aw d,.p Bi (AE d),.mp 21,.raw (.slice none 0 0),.raw (.slice none 0 0),.raw (.slice none 0 0)]),(21,.mapo .str CQ (B6 d (AE d)))],rfl,rfl,?_,?_,rfl,rfl,?_⟩
  .first|exact eN|refine eM ?_
  .first|exact eN|refine eM ?_
  refine rL a trivial ?_;repeat'(first|exact trivial|apply eS rfl|apply AB|refine rX a ?_ ?_|refine rC ?_ ?_<;>intro b<;>try(cases b;done))
  .refine Ev.ent (σ':=⟨[(2,.raw (.pointer none)),(3,.p Es (Aq d))],[]⟩) ?_ (AC [] rfl rfl ?_ ?_)
   .exact fM a [.tmp 2,.tmp 3] (.tup [.raw (.pointer none),.p Es (Aq d)]) eT (.inr ⟨by rw[hp];exact c,.inl ⟨rfl,rfl⟩⟩)
   .first|exact eN|refine eM ?_
   simp only[hp];first|exact eN|refine eM ?_
  exact absurd (by simpa using b) c
 obtain⟨D,L⟩:=Oi c;have s:∀x∈d,0<=Em (B6 d (AE d)) x.1/\Em (B6 d (AE d)) x.1<((AE d).length:Int):=λx e=>by
  rw[Nk _ e];exact⟨Hz j e,HN _ _⟩
 have R:∀x∈d,∀y∈x.2.2,0<=Em (B6 d (AE d)) y.2/\Em (B6 d (AE d)) y.2<((AE d).length:Int):=λx e y U=>by
  have C:=LS L x e y U;rw[BF]at C;obtain⟨z,V,G⟩:=CY C;rw[<-G];exact s z V
 refine⟨[(23,.nm 1),(21,.nm 2)],.p Es (FE d),[(23,.box 77 true [.p Aw d,.p Bi (AE d),.mp 21,.p Ad (Af d),.raw (.slice none 0 0),.raw (.slice none 0 0)]),(21,.mapo .str CQ (B6 d (AE d)))],rfl,rfl,?_,?_,rfl,rfl,?_⟩
 .first|exact eN|refine eM ?_
 .first|exact eN|refine eM ?_
 refine rL a trivial ?_;rw[c];repeat'(first|exact trivial|apply eS rfl|apply AB|refine rX a ?_ ?_|refine rC ?_ ?_<;>intro b<;>try(cases b;done))
 have hi:=wC d (AE d) (B6 d (AE d)) (Af d) o (λx e=>f3 (q x e) di) s D;have P:=pS m c;have O:=aE m c;have S:Jx d=J2 d (AE d) (B6 d (AE d)) (Af d) (AE d).length:=rfl;have t:=λf=>wF d (AE d) (B6 d (AE d)) (Af d) f o q s R D J T;rw[S];have W:Jl d (AE d) (B6 d (AE d)) (Af d)=Jl d (AE d) (B6 d (AE d)) (Af d):=rfl;generalize X:B6 d (AE d)=num at *;refine cP 1 a ?_ ?_
 .trivial
 refine rM a (hi) [(201,.nm 23),(202,.nm 21)] [] ?_ ?_ ?_
 .first|exact eN|refine eM ?_
 .first|exact eN|refine eM ?_
 rintro _ _ ⟨w,rfl,rfl,r⟩;cases n:EG d (AE d) num (Af d) with
 | true =>
  have hp:=O n;refine⟨[(23,.nm 201),(21,.nm 202)],.p Es 10,[(23,.box 77 true [.p Aw d,.p Bi (AE d),.mp 21,.p Ad (Af d),.p Dj w,.raw (.slice none 0 0)]),(21,.mapo .str CQ (num))],rfl,rfl,?_,?_,rfl,rfl,?_⟩
  .first|exact eN|refine eM ?_
  .first|exact eN|refine eM ?_
  refine rL a trivial ?_;repeat'(first|exact trivial|apply eS rfl|apply AB|refine rX a ?_ ?_|refine rC ?_ ?_<;>intro b<;>try(cases b;done))
  refine Ev.ent (σ':=⟨[(2,.raw (.pointer none)),(3,.p Es (Aq d))],[]⟩) ?_ (AC [] rfl rfl ?_ ?_)
  .exact fM a [.tmp 2,.tmp 3] (.tup [.raw (.pointer none),.p Es (Aq d)]) eT (.inr ⟨by rw[hp];decide,.inl ⟨rfl,rfl⟩⟩)
  .first|exact eN|refine eM ?_
  simp only[hp];first|exact eN|refine eM ?_
 | false =>
  have r:=r n;subst r;refine⟨[(23,.nm 201),(21,.nm 202)],.p Es 0,[(23,.box 77 true [.p Aw d,.p Bi (AE d),.mp 21,.p Ad (Af d),.p Dj (Jl d (AE d) num (Af d)),.raw (.slice none 0 0)]),(21,.mapo .str CQ (num))],rfl,rfl,?_,?_,rfl,rfl,?_⟩
  .first|exact eN|refine eM ?_
  .first|exact eN|refine eM ?_
  refine rL a trivial ?_;repeat'(first|exact trivial|apply eS rfl|apply AB|refine rX a ?_ ?_|refine rC ?_ ?_<;>intro b<;>try(cases b;done))
  have hp:=P n;generalize Jl d (AE d) num (Af d)=f at *;have t:=t f;refine cP 2 a ?_ ?_
  .trivial
  refine rM a (t) [(1,.nm 23),(2,.nm 21)] [] ?_ ?_ ?_
  .first|exact eN|refine eM ?_
  .first|exact eN|refine eM ?_
  rintro _ _ ⟨i,rfl,rfl,v⟩;rw[<-hp];refine⟨[(23,.nm 1),(21,.nm 2)],.p Es (Aq d),[(23,.box 77 true [.p Aw d,.p Bi (AE d),.mp 21,.p Ad (Af d),.p Dj f,.p VB i]),(21,.mapo .str CQ (num))],rfl,rfl,?_,?_,rfl,rfl,?_⟩
  .first|exact eN|refine eM ?_
  .first|exact eN|refine eM ?_
  refine rL a trivial ?_;repeat'(first|exact trivial|apply eS rfl|apply AB|refine rX a ?_ ?_|refine rC ?_ ?_<;>intro b<;>try(cases b;done))
  refine Ev.ent (σ':=⟨[(2,.bp 1 [] 0),(3,.p Es (Aq d))],[(1,.box 77 true [.p Aw d,.p Bi (AE d),.mp 2,.p Ad (Af d),.p Dj f,.p VB i]),(2,.mapo .str CQ (num))]⟩) ?_ (AC [(1,.nm 23),(2,.nm 21)] rfl rfl ?_ ?_)
  .refine fM a [.tmp 2,.tmp 3] (.tup [.bp 1 [] 0,.p Es (Aq d)]) eT ?_;cases u:D1 d (AE d) num (Af d) (AE d).length with
   | true=>exact .inr ⟨by rw[hp,u];decide,.inr ⟨f,i,rfl,rfl⟩⟩
   | false =>
    have v:=v u;subst v;have E:Aq d=0:=by rw[hp,u];rfl
    exact .inl ⟨E,by rw[E],rfl⟩
  .first|exact eN|refine eM ?_
  first|exact eN|refine eM ?_
end
section
def Nm:Spec:={ ins:=[Aw],pre:=λ(d,_)=>List.length d<=10,out:=λ(d,_)=>[.p VB (if Aq d≠0 then [] else Jx d),.p Es (Aq d)] }
attribute [local go_sem] Nm
theorem aF:Ap Tryz.prog 18 Nm:=by
 refine fK [0,2,3,4,5,12] Tryz.func18 Tryz.ntmps18 AH ?_;rintro w0 O0 ⟨d,u⟩ a-e;simp only[Nm,AP];repeat'(first|exact trivial|apply eS rfl|apply AB|refine rX a ?_ ?_|refine rC ?_ ?_<;>intro b<;>try(cases b;done))
 refine cP 1 a ?_ ?_
 .trivial
 refine rM a (eC d e) [] [] ?_ ?_ ?_
 .first|exact eN|refine eM ?_
 .first|exact eN|refine eM ?_
 rintro _ _ (⟨c,rfl,rfl⟩|⟨c,⟨rfl,rfl⟩|⟨f,g,rfl,rfl⟩⟩)
 .refine⟨[(301,.nm 1),(302,.nm 2)],.tup [.bp 301 [] 0,.p Es 0],[(301,.box 77 true [.p Aw d,.p Bi (AE d),.mp 302,.p Ad (Af d),.p Dj (Jl d (AE d) (B6 d (AE d)) (Af d)),.p VB (Jx d)]),(302,.mapo .str CQ (B6 d (AE d)))],rfl,rfl,?_,?_,rfl,rfl,?_⟩
  .first|exact eN|refine eM ?_
  .first|exact eN|refine eM ?_
  refine rL a trivial ?_;repeat'(first|exact trivial|apply eS rfl|apply AB|refine rX a ?_ ?_|refine rC ?_ ?_<;>intro b<;>try(cases b;done))
  exact fI a [.tmp 2,.tmp 3] (by rw[As (by rw[c];simp),c];exact eR)
 .refine⟨[],.tup [.raw (.pointer none),.p Es (Aq d)],[],rfl,rfl,?_,?_,rfl,rfl,?_⟩
  .first|exact eN|refine eM ?_
  .first|exact eN|refine eM ?_
  refine rL a trivial ?_;repeat'(first|exact trivial|apply eS rfl|apply AB|refine rX a ?_ ?_|refine rC ?_ ?_<;>intro b<;>try(cases b;done))
  .exact fI a [.tmp 2,.tmp 3] (by rw[At c];exact eR)
  exact absurd (by simpa using b) c
 refine⟨[(301,.nm 1),(302,.nm 2)],.tup [.bp 301 [] 0,.p Es (Aq d)],[(301,.box 77 true [.p Aw d,.p Bi (AE d),.mp 302,.p Ad (Af d),.p Dj f,.p VB g]),(302,.mapo .str CQ (B6 d (AE d)))],rfl,rfl,?_,?_,rfl,rfl,?_⟩
 .first|exact eN|refine eM ?_
 .first|exact eN|refine eM ?_
 refine rL a trivial ?_;repeat'(first|exact trivial|apply eS rfl|apply AB|refine rX a ?_ ?_|refine rC ?_ ?_<;>intro b<;>try(cases b;done))
 .exact fI a [.tmp 2,.tmp 3] (by rw[At c];exact eR)
 exact absurd (by simpa using b) c
def QB:Spec:={ ins:=[Aw],pre:=λ(d,_)=>List.length d<=10,out:=λ(d,_)=>[.p qE (if Aq d≠0 then [] else SQ d),.p Es (Aq d)] }
attribute [local go_sem] QB
theorem jI:Ap Tryz.prog 17 QB:=by
 refine fK [0,2,3,4,5,6,7,8,15,20,21,22,23] Tryz.func17 Tryz.ntmps17 AH ?_;rintro w0 O0 ⟨d,u⟩ a-j;simp only[QB,AP];repeat'(first|exact trivial|apply eS rfl|apply AB|refine rX a ?_ ?_|refine rC ?_ ?_<;>intro b<;>try(cases b;done))
 refine cP 1 a ?_ ?_
 .trivial
 refine rM a (eC d j) [] [] ?_ ?_ ?_
 .first|exact eN|refine eM ?_
 .first|exact eN|refine eM ?_
 rintro _ _ (⟨e,rfl,rfl⟩|⟨e,⟨rfl,rfl⟩|⟨n,o,rfl,rfl⟩⟩)
 .refine⟨[(301,.nm 1),(302,.nm 2)],.tup [.bp 301 [] 0,.p Es 0],[(301,.box 77 true [.p Aw d,.p Bi (AE d),.mp 302,.p Ad (Af d),.p Dj (Jl d (AE d) (B6 d (AE d)) (Af d)),.p VB (Jx d)]),(302,.mapo .str CQ (B6 d (AE d)))],rfl,rfl,?_,?_,rfl,rfl,?_⟩
  .first|exact eN|refine eM ?_
  .first|exact eN|refine eM ?_
  refine rL a trivial ?_;have r:=(Oi (I0 e).2.1).1;have i:SQ d=(Af d).map λs=>(s,J1 d (AE d) (B6 d (AE d)) s):=rfl;rw[As (by rw[e];simp),e,i];clear i;unfold Jl;generalize J1 d (AE d) (B6 d (AE d))=c at *;generalize Af d=fe at *;repeat'(first|exact trivial|apply eS rfl|apply AB|refine rX a ?_ ?_|refine rC ?_ ?_<;>intro b<;>try(cases b;done))
  refine AJ (ι:={k:Nat//k<=fe.length}) (λk=>⟨[(4,.bp 301 [] 0),(6,.sr 38 yI 0 ((fe.take k.1).map λs=>(s,c s)).length),(20,.p Ad fe),(21,.p (.int .i64) (fe.length:Int)),(22,.p (.int .i64) (k.1:Int))],[(301,.box 77 true [.p Aw d,.p Bi (AE d),.mp 302,.p Ad fe,.p Dj (fe.map c),.p VB (Jx d)]),(302,.mapo .str CQ (B6 d (AE d))),(38,.arr 79 yI ((fe.take k.1).map λs=>(s,c s)))]⟩) (λk=>fe.length-k.1) ⟨0,BY _⟩ (AC [(301,.nm 301),(302,.nm 302),(38,.nil)] rfl rfl ?_ ?_) (λk=>?_)
  .first|exact eN|refine eM ?_
   try rfl
  .first|exact eN|refine eM ?_
   try rfl
  obtain⟨k,t⟩:=k;simp only;have l:((fe.take k).map λs=>(s,c s)).length=k:=by rw[Of,OS];omega
  have g:k<fe.length->((fe.take (k+1)).map λs=>(s,c s))=((fe.take k).map λs=>(s,c s))++[(fe.getD k ByteArray.empty,(fe.map c).getD k 0)]:=λh=>by
   rw[Ai fe ByteArray.empty h,AA7];simp[AS,h]
  have m:(fe.map c).length=fe.length:=Of _;generalize fe.map c=q at *;repeat'(first|exact trivial|apply eS rfl|apply AB|refine rX a ?_ ?_|refine rC ?_ ?_<;>intro b<;>try(cases b;done))
  .exact b
  .have f:k<fe.length:=An.1 (by assumption);refine⟨by rw[m];exact An.2 f,?_⟩;show (((fe.take k).map λs=>(s,c s)).length+1)*24<=AN;rw[l];simp only[AN];omega
  .exact eV
  .have f:k<fe.length:=An.1 (by assumption);have g:=g f;refine⟨⟨k+1,f⟩,by simp only;omega,AC [(301,.nm 301),(302,.nm 302),(38,.nm 38)] rfl rfl ?_ ?_⟩
   .simp only;rw[g];first|exact eN|refine eM ?_
   simp only;rw[g];first|exact eN|refine eM ?_
  have f:fe.take k=fe:=By (NO.1 (by assumption));rw[f];refine DH [38] ?_;exact fI a [.tmp 2,.tmp 3]
 .refine⟨[],.tup [.raw (.pointer none),.p Es (Aq d)],[],rfl,rfl,?_,?_,rfl,rfl,?_⟩
  .first|exact eN|refine eM ?_
  .first|exact eN|refine eM ?_
  refine rL a trivial ?_;repeat'(first|exact trivial|apply eS rfl|apply AB|refine rX a ?_ ?_|refine rC ?_ ?_<;>intro b<;>try(cases b;done))
  .exact fI a [.tmp 2,.tmp 3] (by rw[At e];exact eR)
  exact absurd (by simpa using b) e
 refine⟨[(301,.nm 1),(302,.nm 2)],.tup [.bp 301 [] 0,.p Es (Aq d)],[(301,.box 77 true [.p Aw d,.p Bi (AE d),.mp 302,.p Ad (Af d),.p Dj n,.p VB o]),(302,.mapo .str CQ (B6 d (AE d)))],rfl,rfl,?_,?_,rfl,rfl,?_⟩
 .first|exact eN|refine eM ?_
 .first|exact eN|refine eM ?_
 refine rL a trivial ?_;repeat'(first|exact trivial|apply eS rfl|apply AB|refine rX a ?_ ?_|refine rC ?_ ?_<;>intro b<;>try(cases b;done))
 .exact fI a [.tmp 2,.tmp 3] (by rw[At e];exact eR)
 exact absurd (by simpa using b) e
end
section
attribute [local go_sem] QB Nm Nf d6
def YS:Spec:={ ins:=[Aw],pre:=λ(d,_)=>List.length d<=10,out:=λ(d,_)=>[.p l3 (Cf d).1,.p Es (Cf d).2] }
attribute [local go_sem] YS
theorem eD:Ap Tryz.prog 5 YS:=by
 refine fK [0,2,3,4,5,6,7,8,9,10,17,26,35,40,41,42,43] Tryz.func5 Tryz.ntmps5 (AF jI (AF aF (AF UP (AF vO AH)))) ?_;rintro w0 O0 ⟨d,u⟩ c-f;simp only[YS,AP];repeat'(first|exact trivial|apply eS rfl|apply AB|refine rX c ?_ ?_|refine rC ?_ ?_<;>intro a<;>try(cases a;done))
 .exact f
 .have a:¬Aq d=0:=a;have e:Cf d=(([],[]),Aq d):=by unfold Cf;rw[At a]
  exact fI c [.cell 2 27,.tmp 3] (by rw[e];exact eR)
 .exact f
 .rename_i j;exact absurd (by simpa using j) a
 .exact f
 .have b:Aq d=0:=by simpa using ‹(Aq d != 0)=false›
  exact absurd (I0 b).1 a
 have b:Aq d=0:=by simpa using ‹(Aq d != 0)=false›
 obtain⟨t,m,i⟩:=B5 (I0 b).1;have k:(AE d).length<=256:=by rw[Ey];exact m
 have s:=jG d;have e:Cf d=((H3 (AE d) (Jx d) (AE d).length,SQ d),0):=by unfold Cf;rw[As (by rw[b];simp)];rfl
 rw[e,i,As (by rw[b];simp),As (by rw[b];simp)];generalize AE d=l at *;generalize Jx d=v at *;generalize SQ d=h at *;refine AJ (ι:={n:Nat//n<=l.length}) (λn=>⟨[(2,.bp 2 [] 0),(6,.p VB v),(7,.p Bi l),(8,.bp 8 [] 0),(40,.p Bi l),(41,.p (.int .i64) (l.length:Int)),(42,.p (.int .i64) (n.1:Int))],[(2,.box 27 true [.raw (.slice none 0 0),.raw (.slice none 0 0)]),(8,.box 27 true [.sr 62 sE 0 (H3 l v n.1).length,.p qE h]),(62,.arr 42 sE (H3 l v n.1))]⟩) (λn=>l.length-n.1) ⟨0,BY _⟩ (AC [(2,.nm 2),(8,.nm 8),(62,.nil)] rfl rfl ?_ ?_) (λn=>?_)
 .first|exact eN|refine eM ?_
  exact⟨rfl,rfl⟩
 .first|exact eN|refine eM ?_
 obtain⟨n,o⟩:=n;have q:=UW l v n;have r:=aC l v n;simp only;repeat'(first|exact trivial|apply eS rfl|apply AB|refine rX c ?_ ?_|refine rC ?_ ?_<;>intro a<;>try(cases a;done))
 .exact a
 .refine⟨⟨a,k⟩,by rw[s];exact a,?_⟩;rw[q];simp only[AN];omega
 .omega
 .have g:n<l.length:=An.1 a;refine⟨⟨n+1,g⟩,by simp only;omega,AC [(2,.nm 2),(8,.nm 8),(62,.nm 62)] rfl rfl ?_ ?_⟩
  .simp only[r];first|exact eN|refine eM ?_
   try exact⟨by simp,rfl⟩
  first|exact eN|refine eM ?_
 have g:n=l.length:=jM o (NO.1 a);subst g;refine DH [62] ?_;exact fI c [.cell 2 27,.tmp 3]
end
section
attribute [local go_sem] vY GG Xz
def wN (c:List Int) (h:C6) (a:Int) (i:Nat):Int:=if (HO c (Ay h (i:Int))&&decide (EE (Ay h (i:Int))<EE (Ay h a)))=true then (i:Int) else a
def SS (c:List Int) (h:C6) (k:Nat):Int:=(List.range k).foldl (wN c h) 0
theorem jJ (c:List Int) (h:C6) (k:Nat):SS c h (k+1)=wN c h (SS c h k) k:=by unfold SS;rw[AA0,AAk];rfl
def zN (h:C6) (a b:Int):Int:=SS (Z6 (Ay h a) (Ay h b)) h h.1.length
def eE:Spec:={ ins:=[l3,T3,T3],pre:=λ(h,a,b,_)=>((0:Int)<=a/\a<(List.length (h:C6).1:Int))/\((0:Int)<=b/\b<(List.length (h:C6).1:Int))/\List.length (h:C6).1<=256/\(∀x∈(h:C6).1,x.2.1.length<=64),out:=λ(h,a,b,_)=>[.p T3 (zN h a b)],lend:=true }
attribute [local go_sem] eE
theorem wO:Ap Tryz.prog 16 eE:=by
 refine fK [0,1,2,3,6,7,8,9,10,25,26,27,28,48] Tryz.func16 Tryz.ntmps16 (AF zJ (AF Fo (AF Vt AH))) ?_;rintro w0 O0 ⟨⟨d,f⟩,a,b,u⟩ n-⟨i,m,x,v⟩;have i:(0:Int)<=a/\a<(List.length d:Int):=i;simp only[eE,AP];refine Ev.ent (σ':=⟨[(0,.p l3 (d,f)),(1,.p T3 a),(2,.p T3 b)],[]⟩) ?_ (AC [] rfl rfl ?_ ?_)
 .repeat'(first|exact trivial|apply eS rfl|apply AB|refine rX n ?_ ?_|refine rC ?_ ?_<;>intro g<;>try(cases g;done))
  .refine⟨i,m,?_,?_⟩
   .exact f3 (v _ (AW (d:List FX) Re ((ACu i.1).2 i.2))) di
   exact f3 (v _ (AW (d:List FX) Re ((ACu m.1).2 m.2))) di
  have o:zN (d,f) a b=SS (Z6 (Ay (d,f) a) (Ay (d,f) b)) (d,f) (List.length d):=rfl;have q:∀c,c=Z6 (List.getD d (Int.toNat a) (ByteArray.empty,[],[],[])).2.1 (List.getD d (Int.toNat b) (ByteArray.empty,[],[],[])).2.1->c=Z6 (Ay (d,f) a) (Ay (d,f) b):=λc h=>h;generalize Z6 (List.getD d (Int.toNat a) (ByteArray.empty,[],[],[])).2.1 (List.getD d (Int.toNat b) (ByteArray.empty,[],[],[])).2.1=c at *;rw[<-q c rfl]at o;rw[o];clear o q;refine AJ (ι:={k:Nat//k<=List.length d/\(0:Int)<=SS c (d,f) k/\SS c (d,f) k<(List.length d:Int)}) (λk=>⟨[(3,.bp 3 [] 0),(7,.p BZ c),(8,.p T3 (SS c (d,f) k.1)),(25,.p jN d),(26,.p (.int .i64) (List.length d:Int)),(27,.p (.int .i64) (k.1:Int))],[(3,.box 27 true [.p jN d,.p qE f])]⟩) (λk=>List.length d-k.1) ⟨0,BY _,ACN _,ABc i.1 i.2⟩ (AC [(3,.nm 3)] rfl rfl ?_ ?_) (λk=>?_)
  .first|exact eN|refine eM ?_
  .first|exact eN|refine eM ?_
   rfl
  obtain⟨k,w,r,s⟩:=k;simp only;have t:=jJ c (d,f) k;repeat'(first|exact trivial|apply eS rfl|apply AB|refine rX n ?_ ?_|refine rC ?_ ?_<;>intro g<;>try(cases g;done))
  .exact g
  .exact λ_=>⟨r,s⟩
  .exact eV
  .have l:k<List.length d:=An.1 (by assumption);have j:SS c (d,f) (k+1)=(k:Int):=by
    rw[t];unfold wN;rw[At];rw[AT,Do];exact g
   refine⟨⟨k+1,l,by rw[j];exact AAg k,by rw[j];exact An.2 l⟩,by simp only;omega,AC [(3,.nm 3)] rfl rfl ?_ ?_⟩
   .first|exact eN|refine eM ?_
   simp only;rw[j];first|exact eN|refine eM ?_
  .exact eV
  .have l:k<List.length d:=An.1 (by assumption);have j:SS c (d,f) (k+1)=SS c (d,f) k:=by
    rw[t];unfold wN;rw[As];rw[AT,Do];exact λe=>absurd e.2 (AAs.2 (g e.1))
   refine⟨⟨k+1,l,by rw[j];exact r,by rw[j];exact s⟩,by simp only;omega,AC [(3,.nm 3)] rfl rfl ?_ ?_⟩
   .first|exact eN|refine eM ?_
   simp only;rw[j];first|exact eN|refine eM ?_
  have l:k=List.length d:=jM w (NO.1 g);subst l;exact fI n [.tmp 6]
 .first|exact eN|refine eM ?_
 first|exact eN|refine eM ?_
end
section
attribute [local go_sem] YS Xu cU eE
theorem cz1 {α:Type} (a:UInt8) (x y:α):(if (#[a]:Array UInt8).size<=AN then x else y)=x:=At (by show 1<=AN;decide)
theorem cz3 {α:Type} (a b c:UInt8) (x y:α):(if (#[a,b,c]:Array UInt8).size<=AN then x else y)=x:=At (by show 3<=AN;decide)
attribute [local go_sem] cz1 cz3
def I1:List AD:=[(ByteArray.mk #[116,111,112],[],[]),(ByteArray.mk #[97],[ByteArray.mk #[116,111,112]],[]),(ByteArray.mk #[98],[ByteArray.mk #[116,111,112]],[]),(ByteArray.mk #[99],[ByteArray.mk #[97],ByteArray.mk #[98]],[]),(ByteArray.mk #[100],[ByteArray.mk #[97],ByteArray.mk #[98]],[])]
def zO:Spec:={ ins:=[],pre:=λ_=>True,out:=λ_=>[.p Aw I1] }
attribute [local go_sem] zO
theorem zP:Ap Tryz.prog 15 zO:=by
 refine fKP [0] [2,4,6,8,10] [] Tryz.func15 Tryz.ntmps15 AH ?_;rintro w0 O0 u a - -;simp only[zO,AP];repeat'(first|exact trivial|apply eS rfl|apply AB|refine rX a ?_ ?_|refine rC ?_ ?_<;>intro b<;>try(cases b;done))
 exact fI a [.tmp 0] (by unfold I1;exact eR)
instance baDecD:DecidableEq ByteArray:=λa b =>
 if h:a.data.toList=b.data.toList then isTrue (by
  cases a
  cases b
  exact p7 ByteArray.mk (ABL.1 h))
 else isFalse λe=>h (by rw[e])
theorem wP:(Cf I1).2=0:=by decide +kernel
theorem QC:List.length (Cf I1).1.1=6:=by decide +kernel
theorem pT:Vm ((Cf I1).1.1,(Cf I1).1.2) (ByteArray.mk #[97])=1:=by decide +kernel
theorem pU:Vm ((Cf I1).1.1,(Cf I1).1.2) (ByteArray.mk #[98])=2:=by decide +kernel
theorem zQ:Vm ((Cf I1).1.1,(Cf I1).1.2) (ByteArray.mk #[99,38,100])=3:=by decide +kernel
theorem pV:(Ek ((Cf I1).1.1,(Cf I1).1.2) 1 2).1=3:=by decide +kernel
theorem jK:(Ek ((Cf I1).1.1,(Cf I1).1.2) 1 2).2=true:=by decide +kernel
theorem pW:zN ((Cf I1).1.1,(Cf I1).1.2) 1 2=0:=by decide +kernel
theorem zR:((Cf I1).1.1.all λx:FX=>decide (x.2.1.length<=64))=true:=by decide +kernel
theorem xJ:∀x∈((Cf I1).1.1:List FX),x.2.1.length<=64:=λx a=>by simpa using IS.1 zR x a
theorem eF:((0:Int)<=1/\(1:Int)<(List.length (Cf I1).1.1:Int))/\((0:Int)<=2/\(2:Int)<(List.length (Cf I1).1.1:Int)):=by rw[QC];decide
def thS:Spec:={ ins:=[],pre:=λ_=>True,out:=λ_=>[.p .bool true],lend:=true }
attribute [local go_sem] thS
theorem A0Y:Ap Tryz.prog 4 thS:=by
 refine fK [0,1,2,3,4,5,6] Tryz.func4 Tryz.ntmps4 (AF zP (AF eD (AF dL (AF cV (AF wO AH))))) ?_;rintro w0 O0 u a - -;simp only[thS,AP];repeat'(first|exact trivial|apply eS rfl|apply AB|refine rX a ?_ ?_|refine rC ?_ ?_<;>intro b<;>try(cases b;done))
 .decide
 .rw[pT,pU];exact⟨eF.1,eF.2,by rw[QC];decide,λx c=>f3 (xJ x c) di⟩
 .intro _;rw[pT,pU];exact⟨eF.1,eF.2,by rw[QC];decide,xJ⟩
 simp only[pT,pU,zQ,pV,jK,pW,wP,QC];exact fI a [.tmp 0] (by first|exact eR|refine qD ?_;decide)
end
theorem pX (s:ByteArray):∀(l:List FX) (c:List AI) (k:Nat),(l.map λt=>t.1)=(c.map λx=>x.1)->nX s k l=IK s k c
 | [],[],_,_=>rfl
 | [],_ :: _,_,h=>by simp at h
 | _ :: _,[],_,h=>by simp at h
 | t :: l,x :: c,k,h=>by
  rw[oR,oR,AAY]at h;unfold nX IK;rw[h.1,pX s l c (k+1) h.2]
theorem pY (d:List AD):((FF d).1.map λt=>t.1)=(AE d).map λx=>x.1:=by
 show ((H3 _ _ _).map λt=>t.1)=_;unfold H3;rw[AB8];apply AAx
 .simp
 intro i a b;simp[AS,show i<(AE d).length by simpa using a]
theorem zS (d:List AD) (s:ByteArray):Vm (FF d) s=A7 (AE d) s:=pX s _ _ 0 (pY d)
theorem wQ (d:List AD) {t:Int} (t0:0<=t) (a:t<((AE d).length:Int)):Ay (FF d) t=((AE d).getD t.toNat c0).2:=by
 unfold Ay;rw[zM d oa]
section
variable {d:List AD}
theorem jL (B:AU d=0) (A:d.length<=10) (s:ByteArray):EE (DN d (AG d) s)=((Ax d s).length:Int):=by
 have u:=DC d d.length;rw[TO]at u;have o:(AG d).length<=4096:=by omega
 have c:=BQ (d:=d) o s;have l:=(c 0).2.1;have v:Kx (DN d (AG d) s):=YH l λi hi=>by have:=((c i).1.1 hi).1;omega
 rw[P8 v];have g:=λx=>Gu l (x:=x);have t:=PS (DN d (AG d) s);generalize B8 (DN d (AG d) s)=L at *;have w:(AG d).Nodup:=Oe (HV d);have q:(Ax d s).Nodup:=by
  unfold Ax;split
  .exact .nil
  exact Oe (La _)
 have z:L.length<=(Ax d s).length:=by
  have r:(L.map λx:Int=>(AG d).getD x.toNat ByteArray.empty).Nodup:=by
   refine AB3.2 (t.imp_of_mem λ{a b} k p n e=>n ?_);obtain⟨i,rfl,hi⟩:=(g a).1 k;obtain⟨j,rfl,f⟩:=(g b).1 p;have hi:=((c i).1.1 hi).1;have f:=((c j).1.1 f).1;rw[AA4,AA4,AS,AS,DO hi,DO f]at e;have:=(ABK w).1 e;omega
  have:=Fs (l':=Ax d s) r λx h=>by
   obtain⟨a,k,rfl⟩:=To.1 h;obtain⟨i,rfl,hi⟩:=(g a).1 k;rw[AA4];exact BF.1 ((c i).1.1 hi).2
  rwa [Of]at this
 have m:(Ax d s).length<=(L.map λx:Int=>(AG d).getD x.toNat ByteArray.empty).length:=Fs q λx h=>by
  have y:x∈AG d:=Iy.2 (Jh h);obtain⟨j,f,e⟩:=BJ ByteArray.empty y;refine To.2 ⟨(j:Int),(g _).2 ⟨j,rfl,(c j).1.2 ⟨f,?_⟩⟩,by rw[AA4];exact e⟩;rw[e];exact BF.2 h
 rw[Of]at m;omega
theorem pZ (a:AU d=0) (g:(AO (AK d)).length<=256) (f:d.length<=10) {x:AD} (b:x∈d):0<=Vm (FF d) x.1/\Vm (FF d) x.1<((FF d).1.length:Int)/\EE (Ay (FF d) (Vm (FF d) x.1))=((Ax d x.1).length:Int):=by
 obtain⟨-,-,-,h,-⟩:=Ab a;have c:=Hz a b;have e:=HN (AE d) x.1;rw[zS,pR];refine⟨c,e,?_⟩;rw[wQ d c e,Ru a (HP a g) (Jc b h)];exact jL a f x.1
theorem p3 (f:AU d=0) (e:d.length<=10):∀c∈(FF d).1.map λt=>t.2.1,Kx c:=λc a=>by
 rw[SR,GH]at a;obtain⟨x,h,rfl⟩:=To.1 a;obtain⟨b,g,rfl⟩:=CE.1 h;exact Ld f e b g
end
theorem p4 {h:C6} (d:tV h) (A:Nd (h.1.map λt=>t.2.1)) (hs:∀c∈h.1.map λt=>t.2.1,Kx c) {a b:Int} (a0:0<=a) (p:a<(h.1.length:Int)) (q:0<=b) (r:b<(h.1.length:Int)) :
  (Ek h a b).2=decide (0<EE (CI (Ay h a) (Ay h b)))/\((Ek h a b).2=true->(0<=(Ek h a b).1/\(Ek h a b).1<(h.1.length:Int))/\Ay h (Ek h a b).1=CI (Ay h a) (Ay h b)):=by
 have m:=C7 a0 p;have n:=C7 q r;have u:=d.1.wds _ m;have v:=d.1.wds _ n;have j:=NP u v;have k:=NQ u v;have C:Kx (CI (Ay h a) (Ay h b)):=by rw[dX (hs _ m) (hs _ n)];exact UI (hs _ m) (hs _ n)
 have B:tW (CI (Ay h a) (Ay h b)):=by unfold CI;exact DD _
 obtain⟨s,E⟩:=m6 d a0 p q r;have z:0<EE (CI (Ay h a) (Ay h b))↔∃i,m5 h a i=true/\m5 h b i=true:=by
  rw[P8 C];constructor
  .intro hp;obtain⟨x,D⟩:=ABu (l:=B8 (CI (Ay h a) (Ay h b))) oa;obtain⟨i,rfl,hi⟩:=(Gu k).1 D;rw[j i,AT]at hi;exact⟨i,hi⟩
  rintro⟨i,w,y⟩;have:=AAQ ((Gu k (x:=(i:Int))).2 ⟨i,rfl,by rw[j i,AT];exact⟨w,y⟩⟩);omega
 refine⟨?_,λe=>?_⟩
 .rw[AAo,Do,z];refine⟨λe=>?_,E⟩;obtain⟨f,g,o⟩:=s e;obtain⟨i,hi⟩:=d.1.some _ (C7 f g);have:=o i;rw[show m5 h (Ek h a b).1 i=true from hi]at this;exact⟨i,by simpa using this.symm⟩
 obtain⟨f,g,o⟩:=s e;refine⟨⟨f,g⟩,MR (d.1.wds _ (C7 f g)) k (A.nrm _ (C7 f g)) B λi=>?_⟩;rw[j i];exact o i
section
attribute [local go_sem] YS Xu cU mZ Rg GG Xz Q9 YD Rd thS
def zT:Spec:={ ins:=[Aw],pre:=λ_=>True,out:=λ_=>[.p .bool true] }
attribute [local go_sem] zT
theorem p5 {d:List AD} (h:(Cf d).2=0):Aq d=0/\Cf d=(FF d,0):=by
 have a:Aq d=0:=by
  refine IN λb=>b ?_;unfold Cf at h;rw[At b]at h;exact h
 exact⟨a,by unfold Cf;rw[As (by rw[a];simp)]⟩
theorem wR {d:List AD} (h:¬(Cf d).2=0):(Cf d).1.1=[]:=by
 unfold Cf at h ⊢;split
 .rfl
 rename_i a;rw[As a]at h;exact absurd rfl h
theorem p6:Ap Tryz.prog 3 zT:=by
 refine fK [0,2,3,4,5,6,7,8,9,10,11,13,16,24,35,71,76,83,144] Tryz.func3 Tryz.ntmps3 (AF A0Y (AF eD (AF dL (AF cV (AF tT (AF P5 (AF Fo (AF Vt (AF VE (AF dV (AF Zi AH))))))))))) ?_;rintro w0 O0 ⟨d,u⟩ l - -;simp only[zT,AP];repeat'(first|exact trivial|apply eS rfl|apply AB|refine rX l ?_ ?_|refine rC ?_ ?_<;>intro e<;>try(cases e;done))
 .exact fI l [.tmp 2]
 .have e:((List.length d:Nat):Int)<=10:=e;omega
 .have e:¬(Cf d).2=0:=e;rw[wR e];exact fI l [.tmp 2]
 have w:List.length d<=10:=by
  have:((List.length d:Nat):Int)<=10:=by assumption
  omega
 obtain⟨v,K⟩:=p5 (d:=d) (by simpa using e);obtain⟨j,z,-⟩:=B5 (I0 v).1;have I:=aB v;obtain⟨o,M⟩:=A0X j z;have O:=p3 j w;have y:=λx n=>pZ j z w (x:=x) n;have L:List.length (FF d).1<=256:=o.2;have q:∀x∈(FF d).1,x.2.1.length<=100000:=λx n=>f3 (o.1.wid x.2.1 (To.2 ⟨x,n,rfl⟩)) oa;have B:=λa b a0 E F G=>p4 o M O (a:=a) (b:=b) a0 E F G;obtain⟨-,-,-,N,-⟩:=Ab j;have P:=SJ j;have J:(GF d).2=0:=by unfold GF;rw[As (by rw[show (CS d).2=0 by unfold CS;rw[As (by rw[I];simp)]];simp)]
 rw[K];generalize FF d=h at *;obtain⟨c,m⟩:=h;simp only at L q y B ⊢;refine AJ (ι:={i:Nat//i<=List.length d}) (λi=>⟨[(0,.p Aw d),(3,.bp 3 [] 0),(5,.p T3 (i.1:Int))],[(3,.box 27 true [.p jN c,.p qE m])]⟩) (λi=>List.length d-i.1) ⟨0,BY _⟩ (AC [(3,.nm 3)] rfl rfl ?_ ?_) (λi=>?_)
 .first|exact eN|refine eM ?_
 .first|exact eN|refine eM ?_
  try rfl
 obtain⟨i,hi⟩:=i;simp only;have n:=λ(h:i<List.length d)=>y _ (AL h:List.getD d i d0∈(d:List AD));repeat'(first|exact trivial|apply eS rfl|apply AB|refine rX l ?_ ?_|refine rC ?_ ?_<;>intro e<;>try(cases e;done))
 .exact e
 .have f:i<List.length d:=An.1 (by assumption);obtain⟨s,t,D⟩:=n f;exact⟨λ_=>⟨s,t⟩,λ_=>An.2 f,λ_=>⟨N,P,by show List.length d<=256;omega⟩⟩
 .have f:i<List.length d:=An.1 (by assumption);obtain⟨s,t,D⟩:=n f;exfalso;rcases e with (h|h)|h
  .exact absurd h (AAs.2 s)
  .exact absurd h (ABP.2 t)
  exact h D
 .exact eV
 .have f:i<List.length d:=An.1 (by assumption);refine⟨⟨i+1,f⟩,by simp only;omega,AC [(3,.nm 3)] rfl rfl ?_ ?_⟩
  .first|exact eN|refine eM ?_
  first|exact eN|refine eM ?_
 refine AJ (ι:={i:Nat//i<=List.length c}) (λi=>⟨[(0,.p Aw d),(3,.bp 3 [] 0),(7,.p T3 (i.1:Int))],[(3,.box 27 true [.p jN c,.p qE m])]⟩) (λi=>List.length c-i.1) ⟨0,BY _⟩ (AC [(3,.nm 3)] rfl rfl ?_ ?_) (λi=>?_)
 .first|exact eN|refine eM ?_
 .first|exact eN|refine eM ?_
  try rfl
 obtain⟨i,hi⟩:=i;simp only;repeat'(first|exact trivial|apply eS rfl|apply AB|refine rX l ?_ ?_|refine rC ?_ ?_<;>intro e<;>try(cases e;done))
 .have f:i<List.length c:=An.1 (by assumption);refine AJ (ι:={k:Nat//k<=List.length c}) (λk=>⟨[(0,.p Aw d),(3,.bp 3 [] 0),(7,.p T3 (i:Int)),(8,.p T3 (k.1:Int))],[(3,.box 27 true [.p jN c,.p qE m])]⟩) (λk=>List.length c-k.1) ⟨0,BY _⟩ (AC [(3,.nm 3)] rfl rfl ?_ ?_) (λk=>?_)
  .first|exact eN|refine eM ?_
  .first|exact eN|refine eM ?_
   try rfl
  obtain⟨k,R⟩:=k;simp only;have A:=λ(h:k<List.length c)=>B (i:Int) (k:Int) (AAg i) (An.2 f) (AAg k) (An.2 h);repeat'(first|exact trivial|apply eS rfl|apply AB|refine rX l ?_ ?_|refine rC ?_ ?_<;>intro e<;>try(cases e;done))
  .have g:k<List.length c:=An.1 (by assumption);exact⟨An.2 f,An.2 g,q _ (AL f)⟩
  .have g:k<List.length c:=An.1 (by assumption);exact⟨An.2 f,An.2 g,by show List.length c<=100000;omega,q⟩
  .have g:k<List.length c:=An.1 (by assumption);obtain⟨C,r⟩:=A g;exact⟨λh=>(r (Bool.and_eq_true_iff.1 h).2).1,λ_=>⟨An.2 f,An.2 g⟩,λ_=>An.2 g,λ_=>An.2 f⟩
  .have g:k<List.length c:=An.1 (by assumption);obtain⟨C,r⟩:=A g;exfalso;rcases e with (h|⟨h,H⟩)|h
   .exact h C
   .have Q:=(r h).2;have j:GX (Ay (c,m) (Ek (c,m) (i:Int) (k:Int)).1) (CI (Ay (c,m) (i:Int)) (Ay (c,m) (k:Int)))=false:=H;rw[Q]at j;unfold GX at j;simp at j
   exact h rfl
  .exact eV
  .have g:k<List.length c:=An.1 (by assumption);refine⟨⟨k+1,g⟩,by simp only;omega,AC [(3,.nm 3)] rfl rfl ?_ ?_⟩
   .first|exact eN|refine eM ?_
   first|exact eN|refine eM ?_
  .exact eV
  have f:i<List.length c:=An.1 (by assumption);refine⟨⟨i+1,f⟩,by simp only;omega,AC [(3,.nm 3)] rfl rfl ?_ ?_⟩
  .first|exact eN|refine eM ?_
  first|exact eN|refine eM ?_
 rw[J];exact fI l [.tmp 2]
end
end Go.Proofs.YtaoonfcjbmcmpaaGreatDoor.Fw
